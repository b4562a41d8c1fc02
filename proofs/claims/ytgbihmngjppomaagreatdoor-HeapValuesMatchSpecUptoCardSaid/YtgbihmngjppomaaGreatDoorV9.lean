/- More of values and objects. -/
import Derived.Test.YtgbihmngjppomaaGreatDoorV7b
namespace Go.Ab
set_option linter.unusedVariables false
set_option linter.unusedSimpArgs false
theorem F51.refl {k : Nat} (hk : 3000000 < k) {a : X_Object} (ta : TO a) : F51.u k (a, a) = some true := by
  show F51.f (F78.u k) (F79.u k) (F38.u k) k a a = _
  have h1 := ta.refs
  have h2 := ta.order
  have h3 := ta.names
  rw [F51.f, F51.b, F78.spec (by omega) (by omega), F78.spec (by omega) (by omega), F79.spec (by omega) (by omega), F38.spec hk ta.items ta.itemV, F38.spec hk ta.keys ta.keyV]
  simp only [Option.bind_some, beq_self_eq_true, cond_true]
/-- of a heap that passed: an object of a kind other than class has links that lead to objects -/
theorem HP.links {h : X_Heap} (p : HP h) {j : Nat} (hj : j < h.length) (h9 : (hob h j).1 ≠ 9) : (0 ≤ (hob h j).1 ∧ (hob h j).1 < 21) ∧ Cnt (hob h j) ∧ VsOk h (hob h j) := by
  obtain ⟨h1, h2⟩ := p.ok j hj hj
  by_cases h49 : j < 49
  · have e := h1 h49
    have : ∀ j : Fin 49, (begL.getD j.1 Z_Object).1 = 9 := by decide
    rw [e, this ⟨j, h49⟩] at h9
    exact absurd rfl h9
  · exact h2 (by omega)
theorem HP.kind {h : X_Heap} (p : HP h) {j : Nat} (hj : j < h.length) : 0 ≤ (hob h j).1 ∧ (hob h j).1 < 21 := by
  by_cases h9 : (hob h j).1 = 9
  · omega
  · exact (p.links hj h9).1
end Go.Ab
