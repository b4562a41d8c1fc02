/- More of values and objects. -/
import Derived.Test.YtdekjkgfohlmgaaGreatDoorV7b
namespace Go.Ab
set_option linter.unusedVariables false
set_option linter.unusedSimpArgs false
theorem F49.refl {k : Nat} (hk : 3000000 < k) {a : X_Object} (ta : TO a) : F49.u k (a, a) = some true := by
  show F49.f (F96.u k) (F16.u k) (F15.u k) k a a = _
  have h1 := ta.refs
  have h2 := ta.order
  have h3 := ta.names
  rw [F49.f, F49.b, F96.spec (by omega) (by omega), F96.spec (by omega) (by omega), F16.spec (by omega) (by omega), F15.spec hk ta.items ta.itemV, F15.spec hk ta.keys ta.keyV]
  simp only [Option.bind_some, beq_self_eq_true, cond_true]
/-- of a heap that passed: an object of a kind other than class has links that lead to objects -/
theorem HP.links {h : X_Heap} (p : HP h) {j : Nat} (hj : j < h.length) (h9 : (hob h j).1 ≠ 9) : (0 ≤ (hob h j).1 ∧ (hob h j).1 < 21) ∧ Cnt (hob h j) ∧ VsOk h (hob h j) := by
  obtain ⟨h1, h2⟩ := p.ok j hj hj
  by_cases h49 : j < 49
  · have e := h1 h49
    have : ∀ j : Fin 49, (begL.getD j.1 Z_Object).1 = 9 := by decide
    rw [e, this ⟨j, h49⟩] at h9
    exact absurd rfl h9
  · exact h2 (by omega)
theorem HP.kind {h : X_Heap} (p : HP h) {j : Nat} (hj : j < h.length) : 0 ≤ (hob h j).1 ∧ (hob h j).1 < 21 := by
  by_cases h9 : (hob h j).1 = 9
  · omega
  · exact (p.links hj h9).1
end Go.Ab
