/- What the bound on the bulk gives of each datum. -/
import Derived.Test.YtdekjkgfohlmgaaGreatDoorRows
import Derived.Test.YtdekjkgfohlmgaaGreatDoorAbG3
namespace Go.Ab
open Go.Proofs.YtdekjkgfohlmgaaGreatDoor
set_option linter.unusedVariables false
set_option linter.unusedSimpArgs false
theorem bulk_part {H : Type} {d : DataW H} {l : List (DataW H)} (h : d ∈ l) : Rows.uptoBulk d ≤ Rows.uptoBulkAll l := by
  induction l with
  | nil => cases h
  | cons x r ih =>
    simp only [Rows.uptoBulkAll]
    rcases List.mem_cons.1 h with rfl | h
    · omega
    · have := ih h; omega
theorem bulk_one {H : Type} (d : DataW H) : 1 ≤ Rows.uptoBulk d := by
  cases d with
  | lit l => cases l <;> simp [Rows.uptoBulk]
  | nil => simp [Rows.uptoBulk]
  | ptr d => simp [Rows.uptoBulk]
  | slice elems spare => simp [Rows.uptoBulk]
  | agg parts => simp [Rows.uptoBulk]
  | iface t d => simp [Rows.uptoBulk]
  | map entries => simp [Rows.uptoBulk]
  | held h => simp [Rows.uptoBulk]
theorem bulk_length {H : Type} (l : List (DataW H)) : l.length ≤ Rows.uptoBulkAll l := by
  induction l with
  | nil => simp [Rows.uptoBulkAll]
  | cons x r ih => have := bulk_one x; simp only [Rows.uptoBulkAll, List.length_cons]; omega
theorem bulk_short {H : Type} : Short (H := H) 1048576 (fun d => Rows.uptoBulk d ≤ 1048576) where
  str := fun l h => by simp only [Rows.uptoBulk] at h; omega
  slice := fun es sp h => by
    simp only [Rows.uptoBulk] at h
    have := bulk_length es
    exact ⟨by omega, fun d hd => by have := bulk_part hd; omega⟩
  agg := fun ps h d hd => by
    simp only [Rows.uptoBulk] at h
    have := bulk_part hd
    omega
theorem bulk_all {H : Type} {ds : List (DataW H)} (h : Rows.uptoSmall H ds = true) : ∀ d ∈ ds, Rows.uptoBulk d ≤ 1048576 := fun d hd => by
  have h := of_decide_eq_true h
  have := bulk_part hd
  omega
end Go.Ab
