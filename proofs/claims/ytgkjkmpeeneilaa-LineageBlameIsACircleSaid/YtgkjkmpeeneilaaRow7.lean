/- If bases contradict each other, package lineage blames the circle of classes that the reference blames, in which each class stands ahead of the next one; otherwise it finds none: for every list of lists of numbers. -/
import Derived.Test.YtgkjkmpeeneilaaRows
import Derived.WalkKit
import Derived.ProofKit
import Derived.OpenShut
import Derived.ShutString
import Derived.ChangeOld
import Derived.Below
import Derived.SizedLaws
import Derived.Test.YtgkjkmpeeneilaaAbG3
import Derived.Test.YtgkjkmpeeneilaaRow3P
import Derived.Test.YtgkjkmpeeneilaaRS35
namespace Go.Proofs.Ytgkjkmpeeneilaa.lineageBlameIsACircle
open Go.ChangeShapes Go.WideShapes Go.ChangeAt Go.RowKit Go.Ab
set_option linter.unusedVariables false
set_option linter.unusedSimpArgs false
theorem own : ownKnob Try.prog.godebug = none := by kernel_rfl
theorem laidOut : laidOutB Try.prog = true := by kernel_rfl
theorem plain : ∀ x : Sh.Ts (shs [(.sl 22 (.sl 3 (.int .i64)))]), OkArgs Try.prog.bytesOf [(.sl 22 (.sl 3 (.int .i64)))] x → ∃ k y, f_law7_LineageBlameIsACircle.u k x = some y ∧ y = true := fun x hx => law7 x (okL_of hx)
set_option maxRecDepth 100000 in
theorem lifted (os : Os) (started : os.Started) (H : Type) (enc : TypeId × Value → H) :
    ReturnsInHanded {} Try.checked os 9 .any (Rows.lineageBlameIsACircleSpec.pre6 enc Try.prog Try.f9 Rows.lineageBlameIsACircleRow.domain false) (Rows.lineageBlameIsACircleSpec.post enc Try.prog Try.f9 false true false false) := by
  refine returnsInHanded_of_change_sized (C := Try.checked) own started (by kernel_rfl) Try.func9
    (ChangeSpec.witness6 (enc := enc) (C := Try.checked) false ⟨#[], #[.slice none 0 0], []⟩ 8 (by kernel_rfl) (by kernel_rfl) (by kernel_rfl) (by kernel_rfl)) ?_
  intro W base args ds gs before hval hW hcnd hsz0 _
  have hsz : (DataW.weightsEach Try.prog (Try.f9.params.toList ++ Rows.lineageBlameIsACircleSpec.plain.varTypes Try.prog) (ds ++ gs)).all (· ≤ reachBytes) = true := hsz0
  have hW' := hW
  obtain ⟨p, q, hA0, hV, rfl, hfz, hnd⟩ := hW
  obtain ⟨rfl, rfl⟩ := trodVars_none hV
  have hA : DataW.TrodAll enc Try.prog W 0 (fun _ => true) true [30] args.toList ds p := by rw [← show Try.f9.params.toList = [30] by rw [Try.params9]]; exact hA0
  have hz : (DataW.weightsEach Try.prog [30] ds).all (· ≤ reachBytes) = true := by
    have := hsz
    rw [Try.params9, show Rows.lineageBlameIsACircleSpec.plain.varTypes Try.prog = [] from rfl, List.append_nil, List.append_nil] at this
    exact this
  have hp : parB Try.prog [30] [(.sl 22 (.sl 3 (.int .i64)))] = true := by kernel_rfl
  have hok : ∀ (j : Nat) t v, ([30] : List TypeId)[j]? = some t → args.toList[j]? = some v → Value.okWide Try.prog W .any base t v := by
    intro j t v h1 h2
    exact hval j t v (by rw [Try.params9]; simpa using h1) (by simpa using h2)
  have hc := law_calls (f := 9) (tys := [(.sl 22 (.sl 3 (.int .i64)))]) (g := f_law7_LineageBlameIsACircle.u) f_law7_LineageBlameIsACircle.sound plain hp hok hA hz
  simp only [Array.toArray_toList] at hc
  refine hc.mono fun e W' ⟨he, bel⟩ => ?_
  subst he
  have hag := args_again laidOut bel hp hA
  have hl : ∃ d0, ds = [d0] := by
    obtain ⟨_, vs0, d0, ds0, _, q0, _, rfl, _, _, r0⟩ := trodAll_cons hA
    obtain ⟨_, rfl, _⟩ := trodAll_nil r0
    exact ⟨d0, rfl⟩
  obtain ⟨d0, rfl⟩ := hl
  exact ⟨_, rfl, _, _, _, [], _, [], hW', trodAll_mk1 (shut_bool Try.underlying4 _), by rw [Try.params9]; exact hag, rfl, bel.frame _, fun h => by cases h⟩
theorem over : Rows.lineageBlameIsACircleRow.holds Try.pinned (OpenSpec.ofChange Rows.lineageBlameIsACircleSpec) :=
  OpenClaim.holds_of_wide 9 Try.f9 rfl rfl rfl rfl rfl rfl rfl ⟨rfl, rfl, rfl, rfl, rfl⟩ rfl rfl rfl rfl rfl (by kernel_rfl) Try.func9 (by kernel_rfl)
    (of_decide_eq_true (by kernel_rfl)) (by unfold Func.isWrapper; first | (rw [if_pos (by decide +kernel)]; kernel_rfl) | (rw [if_neg (by decide +kernel)]; exact ⟨rfl, rfl⟩))
    (fun os started H enc _ => lifted os started H enc)
theorem proved : Rows.LineageBlameIsACircleSaid := over
#print axioms proved
end Go.Proofs.Ytgkjkmpeeneilaa.lineageBlameIsACircle
namespace Go.Proofs.Ytgkjkmpeeneilaa
/-- The row, under a short name, for the claim. -/
theorem lineageBlameIsACircle_holds : Rows.LineageBlameIsACircleSaid := lineageBlameIsACircle.proved
end Go.Proofs.Ytgkjkmpeeneilaa
