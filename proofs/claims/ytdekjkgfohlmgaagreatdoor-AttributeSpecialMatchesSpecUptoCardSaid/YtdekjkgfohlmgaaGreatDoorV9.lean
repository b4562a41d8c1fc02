/- More of values and objects. -/
import Derived.Test.YtdekjkgfohlmgaaGreatDoorV7b
namespace Go.Ab
set_option linter.unusedVariables false
set_option linter.unusedSimpArgs false
/-- of a heap that passed: an object of a kind other than class has links that lead to objects -/
theorem HP.links {h : X_Heap} (p : HP h) {j : Nat} (hj : j < h.length) (h9 : (hob h j).1 ≠ 9) : (0 ≤ (hob h j).1 ∧ (hob h j).1 < 21) ∧ Cnt (hob h j) ∧ VsOk h (hob h j) := by
  obtain ⟨h1, h2⟩ := p.ok j hj hj
  by_cases h49 : j < 49
  · have e := h1 h49
    have : ∀ j : Fin 49, (begL.getD j.1 Z_Object).1 = 9 := by decide
    rw [e, this ⟨j, h49⟩] at h9
    exact absurd rfl h9
  · exact h2 (by omega)
theorem HP.kind {h : X_Heap} (p : HP h) {j : Nat} (hj : j < h.length) : 0 ≤ (hob h j).1 ∧ (hob h j).1 < 21 := by
  by_cases h9 : (hob h j).1 = 9
  · omega
  · exact (p.links hj h9).1
end Go.Ab
