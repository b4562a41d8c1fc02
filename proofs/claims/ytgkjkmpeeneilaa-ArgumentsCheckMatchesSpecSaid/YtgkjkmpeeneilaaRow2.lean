/- The parameters' fault that package arguments finds is the reference's, for every list of parameters. -/
import Derived.Test.YtgkjkmpeeneilaaRows
import Derived.WalkKit
import Derived.ProofKit
import Derived.OpenShut
import Derived.ShutString
import Derived.ChangeOld
import Derived.Below
import Derived.SizedLaws
import Derived.Test.YtgkjkmpeeneilaaAbG2
import Derived.Test.YtgkjkmpeeneilaaRS5
namespace Go.Proofs.Ytgkjkmpeeneilaa.argumentsCheckMatchesSpec
open Go.ChangeShapes Go.WideShapes Go.ChangeAt Go.RowKit Go.Ab
set_option linter.unusedVariables false
theorem own : ownKnob Try.prog.godebug = none := by kernel_rfl
theorem laidOut : laidOutB Try.prog = true := by kernel_rfl
set_option maxRecDepth 100000 in
theorem lifted (os : Os) (started : os.Started) (H : Type) (enc : TypeId × Value → H) :
    ReturnsInHanded {} Try.checked os 4 .any (Rows.argumentsCheckMatchesSpecSpec.pre6 enc Try.prog Try.f4 Rows.argumentsCheckMatchesSpecRow.domain false) (Rows.argumentsCheckMatchesSpecSpec.post enc Try.prog Try.f4 false true false false) := by
  refine returnsInHanded_of_change_sized (C := Try.checked) own started (by kernel_rfl) Try.func4
    (ChangeSpec.witness6 (enc := enc) (C := Try.checked) false ⟨#[], #[.slice none 0 0], []⟩ 8 (by kernel_rfl) (by kernel_rfl) (by kernel_rfl) (by kernel_rfl)) ?_
  intro W base args ds gs before hval hW hcnd hsz0 _
  have hsz : (DataW.weightsEach Try.prog (Try.f4.params.toList ++ Rows.argumentsCheckMatchesSpecSpec.plain.varTypes Try.prog) (ds ++ gs)).all (· ≤ reachBytes) = true := hsz0
  have hW' := hW
  obtain ⟨p, q, hA0, hV, rfl, hfz, hnd⟩ := hW
  obtain ⟨rfl, rfl⟩ := trodVars_none hV
  have hA : DataW.TrodAll enc Try.prog W 0 (fun _ => true) true [25] args.toList ds p := by rw [← show Try.f4.params.toList = [25] by rw [Try.params4]]; exact hA0
  have hz : (DataW.weightsEach Try.prog [25] ds).all (· ≤ reachBytes) = true := by
    have := hsz
    rw [Try.params4, show Rows.argumentsCheckMatchesSpecSpec.plain.varTypes Try.prog = [] from rfl, List.append_nil, List.append_nil] at this
    exact this
  have hp : parB Try.prog [25] [.sl 51 Y50] = true := by kernel_rfl
  have hok : ∀ (j : Nat) t v, ([25] : List TypeId)[j]? = some t → args.toList[j]? = some v → Value.okWide Try.prog W .any base t v := by
    intro j t v h1 h2
    exact hval j t v (by rw [Try.params4]; simpa using h1) (by simpa using h2)
  have hc := law_calls (f := 4) (tys := [.sl 51 Y50]) (g := F4.u) F4.sound (fun x _ => F4.law x) hp hok hA hz
  simp only [Array.toArray_toList] at hc
  refine hc.mono fun e W' ⟨he, bel⟩ => ?_
  subst he
  have hag := args_again laidOut bel hp hA
  have hl : ∃ d, ds = [d] := by
    obtain ⟨v0, vs0, d0, ds0, p0, q0, _, h1, _, _, r0⟩ := trodAll_cons hA
    obtain ⟨_, rfl, _⟩ := trodAll_nil r0
    exact ⟨d0, h1⟩
  obtain ⟨d, rfl⟩ := hl
  exact ⟨_, rfl, _, _, _, [], _, [], hW', trodAll_mk1 (shut_bool Try.underlying4 _), by rw [Try.params4]; exact hag, rfl, bel.frame _, fun h => by cases h⟩
theorem over : Rows.argumentsCheckMatchesSpecRow.holds Try.pinned (OpenSpec.ofChange Rows.argumentsCheckMatchesSpecSpec) :=
  OpenClaim.holds_of_wide 4 Try.f4 rfl rfl rfl rfl rfl rfl rfl ⟨rfl, rfl, rfl, rfl, rfl⟩ rfl rfl rfl rfl rfl (by kernel_rfl) Try.func4 (by kernel_rfl)
    (of_decide_eq_true (by kernel_rfl)) (by unfold Func.isWrapper; first | (rw [if_pos (by decide +kernel)]; kernel_rfl) | (rw [if_neg (by decide +kernel)]; exact ⟨rfl, rfl⟩))
    (fun os started H enc _ => lifted os started H enc)
theorem proved : Rows.ArgumentsCheckMatchesSpecSaid := over
#print axioms proved
end Go.Proofs.Ytgkjkmpeeneilaa.argumentsCheckMatchesSpec
namespace Go.Proofs.Ytgkjkmpeeneilaa
/-- The row, under a short name, for the claim. -/
theorem argumentsCheckMatchesSpec_holds : Rows.ArgumentsCheckMatchesSpecSaid := argumentsCheckMatchesSpec.proved
end Go.Proofs.Ytgkjkmpeeneilaa
