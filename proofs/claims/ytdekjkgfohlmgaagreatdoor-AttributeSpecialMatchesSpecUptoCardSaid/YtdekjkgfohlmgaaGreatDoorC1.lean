/- Copies of rows, values, heaps. -/
import Derived.Test.YtdekjkgfohlmgaaGreatDoorK1
namespace Go.Ab
set_option linter.unusedVariables false
set_option linter.unusedSimpArgs false
theorem F27.spec {k : Nat} {l : List (List UInt8)} (hl : l.length * 16 ≤ LIM) : F27.u k l = some l := by
  show F27.f k l = _
  rw [F27.f, F27.q, F27.c]
  have h : (if 0 ≤ (List.length ([] : List (List UInt8))) ∧ (List.length l) * 16 ≤ LIM then some ((List.take 0 ([] : List (List UInt8))) ++ l) else none) = some l := by
    rw [if_pos ⟨by simp, hl⟩]
    simp
  rw [h]
  cases l with
  | nil => simp [agree]
  | cons a l => simp
end Go.Ab
