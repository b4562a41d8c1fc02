/- What a heap that passed tells of its objects. -/
import Derived.Test.YtdekjkgfohlmgaaGreatDoorV7
namespace Go.Ab
set_option linter.unusedVariables false
set_option linter.unusedSimpArgs false
/-! ### what a heap that passed tells of its items -/
theorem begL_plain : ∀ j, (begL.getD j Z_Object).2.2.2.2.2.2.1 = [] ∧ (begL.getD j Z_Object).2.2.2.2.2.2.2.1 = [] := by
  intro j
  by_cases hj : j < 49
  · have : ∀ j : Fin 49, (begL.getD j.1 Z_Object).2.2.2.2.2.2.1 = [] ∧ (begL.getD j.1 Z_Object).2.2.2.2.2.2.2.1 = [] := by decide
    exact this ⟨j, hj⟩
  · rw [show begL.getD j Z_Object = Z_Object by simp [List.getD, List.getElem?_eq_none (show begL.length ≤ j by rw [begL_len]; omega)]]
    exact ⟨rfl, rfl⟩
theorem HP.item {h : X_Heap} (p : HP h) {j : Nat} {v : X_Value} (hv : v ∈ (hob h j).2.2.2.2.2.2.1) : VG v ∧ (v.1 = 6 → isO h v.2.2.2.2 = true) := by
  by_cases hj : j < h.length
  · obtain ⟨h1, h2⟩ := p.ok j hj hj
    by_cases h49 : j < 49
    · rw [h1 h49, (begL_plain j).1] at hv; cases hv
    · obtain ⟨_, _, hvs⟩ := h2 (by omega)
      exact ⟨hvs.vals v (List.mem_append_right _ hv), hvs.refs v (List.mem_append_right _ hv)⟩
  · rw [show hob h j = Z_Object by unfold hob; simp [List.getD, List.getElem?_eq_none (show h.length ≤ j by omega)]] at hv
    cases hv
/-- a value that can be met within a heap that passed -/
structure VI (h : X_Heap) (v : X_Value) : Prop where
  tv : TV v
  good : VG v
  ref : v.1 = 6 → isO h v.2.2.2.2 = true
theorem HP.its {h : X_Heap} (p : HP h) {x v : X_Value} (hv : v ∈ its h x) : VI h v := by
  suffices hh : VG v ∧ (v.1 = 6 → isO h v.2.2.2.2 = true) from ⟨(p.t.its x).2 v hv, hh.1, hh.2⟩
  unfold Go.Ab.its objV at hv
  cases hc : (decide (x.1 = 6) && isO h x.2.2.2.2) with
  | true =>
    rw [hc, cond_true] at hv
    exact p.item hv
  | false =>
    rw [hc] at hv
    cases hv
theorem VH.vi {h : X_Heap} {v : X_Value} (hv : VH h v) (t : TV v) : VI h v := ⟨t, hv.good, hv.ref⟩
theorem objV_ref {h : X_Heap} {v : X_Value} (h6 : v.1 = 6) (hi : isO h v.2.2.2.2 = true) : objV h v = hob h v.2.2.2.2.toNat := by
  unfold objV
  rw [h6, hi]
  rfl
theorem objV_not {h : X_Heap} {v : X_Value} (h6 : v.1 ≠ 6) : objV h v = Z_Object := by
  unfold objV
  rw [decide_eq_false h6]
  rfl
end Go.Ab
