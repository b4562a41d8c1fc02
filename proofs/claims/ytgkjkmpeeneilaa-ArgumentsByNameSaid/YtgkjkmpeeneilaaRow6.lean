/- An argument of a call can be given by its name instead of its position, and named arguments in another order, and package arguments binds them alike, for every list of parameters, of defaults, all arguments and every two numbers. -/
import Derived.Test.YtgkjkmpeeneilaaRows
import Derived.WalkKit
import Derived.ProofKit
import Derived.OpenShut
import Derived.ShutString
import Derived.ChangeOld
import Derived.Below
import Derived.SizedLaws
import Derived.Test.YtgkjkmpeeneilaaAbG2
import Derived.Test.YtgkjkmpeeneilaaRow6P
namespace Go.Proofs.Ytgkjkmpeeneilaa.argumentsByName
open Go.ChangeShapes Go.WideShapes Go.ChangeAt Go.RowKit Go.Ab
set_option linter.unusedVariables false
set_option linter.unusedSimpArgs false
theorem own : ownKnob Try.prog.godebug = none := by kernel_rfl
theorem laidOut : laidOutB Try.prog = true := by kernel_rfl
theorem plain : ∀ x : Sh.Ts (shs [(.sl 51 Y_Param), (.sl 58 Y_Value), Y_Arguments, (.int .i64), (.int .i64)]), OkArgs Try.prog.bytesOf [(.sl 51 Y_Param), (.sl 58 Y_Value), Y_Arguments, (.int .i64), (.int .i64)] x → ∃ k y, f_law7_ArgumentsByName.u k x = some y ∧ y = true := fun x hx => plain6 x hx
set_option maxRecDepth 100000 in
theorem lifted (os : Os) (started : os.Started) (H : Type) (enc : TypeId × Value → H) :
    ReturnsInHanded {} Try.checked os 8 .any (Rows.argumentsByNameSpec.pre6 enc Try.prog Try.f8 Rows.argumentsByNameRow.domain false) (Rows.argumentsByNameSpec.post enc Try.prog Try.f8 false true false false) := by
  refine returnsInHanded_of_change_sized (C := Try.checked) own started (by kernel_rfl) Try.func8
    (ChangeSpec.witness6 (enc := enc) (C := Try.checked) false ⟨#[], #[.slice none 0 0, .slice none 0 0, .agg #[.slice none 0 0, .slice none 0 0, .slice none 0 0], .int .i64 0, .int .i64 0], []⟩ 8 (by kernel_rfl) (by kernel_rfl) (by kernel_rfl) (by kernel_rfl)) ?_
  intro W base args ds gs before hval hW hcnd hsz0 _
  have hsz : (DataW.weightsEach Try.prog (Try.f8.params.toList ++ Rows.argumentsByNameSpec.plain.varTypes Try.prog) (ds ++ gs)).all (· ≤ reachBytes) = true := hsz0
  have hW' := hW
  obtain ⟨p, q, hA0, hV, rfl, hfz, hnd⟩ := hW
  obtain ⟨rfl, rfl⟩ := trodVars_none hV
  have hA : DataW.TrodAll enc Try.prog W 0 (fun _ => true) true [25, 36, 39, 3, 3] args.toList ds p := by rw [← show Try.f8.params.toList = [25, 36, 39, 3, 3] by rw [Try.params8]]; exact hA0
  have hz : (DataW.weightsEach Try.prog [25, 36, 39, 3, 3] ds).all (· ≤ reachBytes) = true := by
    have := hsz
    rw [Try.params8, show Rows.argumentsByNameSpec.plain.varTypes Try.prog = [] from rfl, List.append_nil, List.append_nil] at this
    exact this
  have hp : parB Try.prog [25, 36, 39, 3, 3] [(.sl 51 Y_Param), (.sl 58 Y_Value), Y_Arguments, (.int .i64), (.int .i64)] = true := by kernel_rfl
  have hok : ∀ (j : Nat) t v, ([25, 36, 39, 3, 3] : List TypeId)[j]? = some t → args.toList[j]? = some v → Value.okWide Try.prog W .any base t v := by
    intro j t v h1 h2
    exact hval j t v (by rw [Try.params8]; simpa using h1) (by simpa using h2)
  have hc := law_calls (f := 8) (tys := [(.sl 51 Y_Param), (.sl 58 Y_Value), Y_Arguments, (.int .i64), (.int .i64)]) (g := f_law7_ArgumentsByName.u) f_law7_ArgumentsByName.sound plain hp hok hA hz
  simp only [Array.toArray_toList] at hc
  refine hc.mono fun e W' ⟨he, bel⟩ => ?_
  subst he
  have hag := args_again laidOut bel hp hA
  have hl : ∃ d0 d1 d2 d3 d4, ds = [d0, d1, d2, d3, d4] := by
    obtain ⟨_, vs0, d0, ds0, _, q0, _, rfl, _, _, r0⟩ := trodAll_cons hA
    obtain ⟨_, vs1, d1, ds1, _, q1, _, rfl, _, _, r1⟩ := trodAll_cons r0
    obtain ⟨_, vs2, d2, ds2, _, q2, _, rfl, _, _, r2⟩ := trodAll_cons r1
    obtain ⟨_, vs3, d3, ds3, _, q3, _, rfl, _, _, r3⟩ := trodAll_cons r2
    obtain ⟨_, vs4, d4, ds4, _, q4, _, rfl, _, _, r4⟩ := trodAll_cons r3
    obtain ⟨_, rfl, _⟩ := trodAll_nil r4
    exact ⟨d0, d1, d2, d3, d4, rfl⟩
  obtain ⟨d0, d1, d2, d3, d4, rfl⟩ := hl
  exact ⟨_, rfl, _, _, _, [], _, [], hW', trodAll_mk1 (shut_bool Try.underlying4 _), by rw [Try.params8]; exact hag, rfl, bel.frame _, fun h => by cases h⟩
theorem over : Rows.argumentsByNameRow.holds Try.pinned (OpenSpec.ofChange Rows.argumentsByNameSpec) :=
  OpenClaim.holds_of_wide 8 Try.f8 rfl rfl rfl rfl rfl rfl rfl ⟨rfl, rfl, rfl, rfl, rfl⟩ rfl rfl rfl rfl rfl (by kernel_rfl) Try.func8 (by kernel_rfl)
    (of_decide_eq_true (by kernel_rfl)) (by unfold Func.isWrapper; first | (rw [if_pos (by decide +kernel)]; kernel_rfl) | (rw [if_neg (by decide +kernel)]; exact ⟨rfl, rfl⟩))
    (fun os started H enc _ => lifted os started H enc)
theorem proved : Rows.ArgumentsByNameSaid := over
#print axioms proved
end Go.Proofs.Ytgkjkmpeeneilaa.argumentsByName
namespace Go.Proofs.Ytgkjkmpeeneilaa
/-- The row, under a short name, for the claim. -/
theorem argumentsByName_holds : Rows.ArgumentsByNameSaid := argumentsByName.proved
end Go.Proofs.Ytgkjkmpeeneilaa
