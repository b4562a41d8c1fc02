/- A part of the proof: Row6P. -/
import Derived.Test.YtgkjkmpeeneilaaRS31
import Derived.Test.YtgkjkmpeeneilaaRow5P
namespace Go.Ab
open Go.Proofs
set_option linter.unusedVariables false
set_option linter.unusedSimpArgs false
theorem plain6 (x : (List X_Param) × ((List X_Value) × (X_Arguments × (Int × Int)))) (h : OkArgs Try.prog.bytesOf [.sl 51 Y_Param, .sl 58 Y_Value, Y_Arguments, .int .i64, .int .i64] x) : ∃ k y, f_law7_ArgumentsByName.u k x = some y ∧ y = true := by
  obtain ⟨hP, hD, hA, _⟩ := h
  have h1 := vals_of hD
  have h2 := vals_of hA.1
  have h3 := strs_of hA.2.1
  have h4 := vals_of hA.2.2
  exact law6 x.1 x.2.1 x.2.2.1 x.2.2.2.1 x.2.2.2.2 ⟨h1.1, h2.1, h3.1, h4.1, by simp, h3.2, pars_of hP⟩ h1.2 h2.2 h4.2
end Go.Ab
