/- A part of the proof: Row3P. -/
import Derived.Test.YtgkjkmpeeneilaaRS9
import Derived.Test.YtgkjkmpeeneilaaAbG3
namespace Go.Ab
open Go.Proofs
set_option linter.unusedVariables false
set_option linter.unusedSimpArgs false
theorem bytes3 : Try.prog.bytesOf 3 = 8 := by kernel_rfl
theorem okI_of {l : List Int} (h : Okd Try.prog.bytesOf (.sl 3 (.int .i64)) l) : okI l := by
  obtain ⟨h1, h2⟩ := h
  rw [bytes3] at h1
  refine ⟨?_, fun n hn => ?_⟩
  · have h3 : l.length * 8 ≤ reachBytes := h1
    unfold reachBytes at h3
    omega
  · have h3 := h2 n hn
    have h4 : IntKind.min .i64 ≤ n ∧ n ≤ IntKind.max .i64 := h3
    simp [IntKind.min, IntKind.max, IntKind.signed, IntKind.bits] at h4
    simp [inI64]
    exact h4
theorem okL_of {l : List (List Int)} (h : OkArgs Try.prog.bytesOf [.sl 22 (.sl 3 (.int .i64))] l) : ∀ x ∈ l, okI x := fun x hx => okI_of (h.2 x hx)
end Go.Ab
