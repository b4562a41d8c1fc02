/- What package inline computes with small integers is what the operators of the reference give, and its comparisons are theirs, for every operator, every comparison and every two values, of bulk at most 1048576. -/
import Derived.Test.YtgbihmngjppomaaDoorCards
import Derived.Test.YtgbihmngjppomaaDoorTie
import Derived.WalkKit
import Derived.ProofKit
import Derived.OpenShut
import Derived.Below
import Derived.SizedLaws
import Derived.Deep.DeepHandedRow
import Derived.Lib.LaidU8T
import Derived.Lib.LaidTab
import Derived.Shelf.Vars
import Derived.Test.YtgbihmngjppomaaDoorS8
import Derived.Test.YtgbihmngjppomaaDoorBulk
namespace Go.Proofs.YtgbihmngjppomaaDoor.inlineNumbersMatchOperators
open Go.ChangeShapes Go.WideShapes Go.ChangeAt Go.RowKit Go.Ab
set_option linter.unusedVariables false
set_option linter.unusedSimpArgs false
theorem own : ownKnob Tryd.prog.godebug = none := by kernel_rfl
theorem laidOut : laidOutB Tryd.prog = true := by kernel_rfl
theorem tv_of {B : Nat → Nat} {v : X_Value} (h : Okd B 1048576 Y_Value v) : TV v := by
  obtain ⟨_, ⟨_, ⟨_, l1⟩, m1⟩, ⟨_, ⟨_, l2⟩, m2⟩, ⟨_, l3⟩, _⟩ := h
  refine ⟨fun d hd => ?_, fun d hd => ?_, Nat.le_trans l1 (by omega), Nat.le_trans l2 (by omega), Nat.le_trans l3 (by omega)⟩
  · obtain ⟨h1, h2⟩ := m1 d hd
    exact ⟨h1, Int.lt_of_le_of_lt (show (d : Int) ≤ 4294967295 from h2) (by decide)⟩
  · obtain ⟨h1, h2⟩ := m2 d hd
    exact ⟨h1, Int.lt_of_le_of_lt (show (d : Int) ≤ 4294967295 from h2) (by decide)⟩
theorem plain : ∀ x : Sh.Ts (shs [.int .i64, .int .i64, Y_Value, Y_Value]), OkArgs Tryd.prog.bytesOf 1048576 [.int .i64, .int .i64, Y_Value, Y_Value] x → ∃ k y, f_law7_InlineNumbersMatchOperators.u k x = some y ∧ y = true := by
  rintro ⟨op, c, a, b⟩ ⟨_, _, ha, hb⟩
  obtain ⟨k, hk⟩ := bk_exists
  exact ⟨k, true, law8 hk (tv_of ha) (tv_of hb), rfl⟩
theorem cell_lt {w : World} {b o : Nat} {v : Value} (h : w.cell? ⟨b, o, none⟩ = some v) : b < w.heap.size := by
  rcases Nat.lt_or_ge b w.heap.size with h1 | h1
  · exact h1
  · rw [World.cell?] at h
    simp [h1] at h
theorem e_accept : (Rows.laid_unicode_utf8_acceptRanges : DataW Unit) = Lib.acceptData := by kernel_rfl
theorem e_first : Rows.laid_unicode_utf8_first = Lib.firstData := by kernel_rfl
theorem tabs {W : World} (hL : laidMetH Tryd.prog Rows.inlineNumbersMatchOperatorsUptoRow.laid W) (hsh : W.ShapedOpen Tryd.prog) : TabPred W ∧ ∀ b, TabBlk b → b < W.heap.size := by
  have m1 : ("unicode/utf8.first", Lib.firstData) ∈ Rows.inlineNumbersMatchOperatorsUptoRow.laid := by rw [← e_first]; exact .tail _ (.head _)
  have m2 : ("unicode/utf8.acceptRanges", Lib.acceptData) ∈ Rows.inlineNumbersMatchOperatorsUptoRow.laid := by rw [← e_accept]; exact .head _
  have hU : Lib.Utf8Tabs 0 1 W :=
    utf8Tabs_of_readsT (ρ := Tryd.laysValid_ren) (U8Types.of196 Tryd.laysValid) ⟨by kernel_rfl, by kernel_rfl, by kernel_rfl, by kernel_rfl, by kernel_rfl, by kernel_rfl, by kernel_rfl⟩ (Lib.laidMet.reads hL m1) (Lib.laidMet.reads hL m2)
  obtain ⟨m, hm⟩ := cell_of_shapedOpen_int (g := 4) (t := 3) (zero := #[.int .i64 0]) hsh (of_decide_eq_true (by kernel_rfl)) (by kernel_rfl) rfl (by kernel_rfl) (by kernel_rfl) Tryd.underlying3
  refine ⟨⟨⟨m, hm⟩, hU⟩, fun b hb => ?_⟩
  rcases hb with rfl | rfl | rfl
  · exact cell_lt hm
  · exact cell_lt (hU.1 0 (by omega))
  · exact cell_lt (hU.2 0 (by omega)).1
set_option maxRecDepth 100000 in
theorem contract (H : Type) (enc : TypeId × Value → H) (W : World) (base : Nat) (args : Array Value) (ds gs : List (DataW H)) (before : List MemPlace)
    (hval : ∀ (j : Nat) t v, Tryd.f3.params[j]? = some t → args[j]? = some v → Value.okWide Tryd.prog W .any base t v)
    (hW : DataW.Whole enc Tryd.prog Tryd.f3.params.toList Rows.inlineNumbersMatchOperatorsSpec.vars false W args.toList ds gs before)
    (hb : Rows.uptoSmall H (ds ++ gs) = true)
    (hsz : (DataW.weightsEach Tryd.prog (Tryd.f3.params.toList ++ Rows.inlineNumbersMatchOperatorsSpec.plain.varTypes Tryd.prog) (ds ++ gs)).all (· ≤ reachBytes) = true)
    (hL : laidMetH Tryd.prog Rows.inlineNumbersMatchOperatorsUptoRow.laid W) (hsh : W.ShapedOpen Tryd.prog) :
    Calls Tryd.prog 3 args W fun e W' => ∃ v, e = .returned v ∧ Rows.inlineNumbersMatchOperatorsSpec.post enc Tryd.prog Tryd.f3 false true false false W args v W' := by
  have hW' := hW
  obtain ⟨p, q, hA0, hV, rfl, hfz, hnd⟩ := hW
  obtain ⟨rfl, rfl⟩ := trodVars_none hV
  have hA : DataW.TrodAll enc Tryd.prog W 0 (fun _ => true) true [3, 3, 26, 26] args.toList ds p := by rw [← show Tryd.f3.params.toList = [3, 3, 26, 26] by rw [Tryd.params3]]; exact hA0
  have hz : (DataW.weightsEach Tryd.prog [3, 3, 26, 26] ds).all (· ≤ reachBytes) = true := by
    have := hsz
    rw [Tryd.params3, show Rows.inlineNumbersMatchOperatorsSpec.plain.varTypes Tryd.prog = [] from rfl, List.append_nil, List.append_nil] at this
    exact this
  rw [List.append_nil] at hb
  have hp : parB Tryd.prog [3, 3, 26, 26] [.int .i64, .int .i64, Y_Value, Y_Value] = true := by kernel_rfl
  have hok : ∀ (j : Nat) t v, ([3, 3, 26, 26] : List TypeId)[j]? = some t → args.toList[j]? = some v → Value.okWide Tryd.prog W .any base t v := by
    intro j t v h1 h2
    exact hval j t v (by rw [Tryd.params3]; simpa using h1) (by simpa using h2)
  have hc := law_calls bulk_short (f := 3) (tys := [.int .i64, .int .i64, Y_Value, Y_Value]) (g := f_law7_InlineNumbersMatchOperators.u) f_law7_InlineNumbersMatchOperators.sound plain hp hok hA hz (bulk_all hb) (tabs hL hsh)
  simp only [Array.toArray_toList] at hc
  refine hc.mono fun e W' ⟨he, bel⟩ => ?_
  subst he
  have hag := args_again laidOut bel hp hA
  have hl : ∃ d0 d1 d2 d3, ds = [d0, d1, d2, d3] := by
    obtain ⟨_, vs0, d0, ds0, _, q0, _, rfl, _, _, r0⟩ := trodAll_cons hA
    obtain ⟨_, vs1, d1, ds1, _, q1, _, rfl, _, _, r1⟩ := trodAll_cons r0
    obtain ⟨_, vs2, d2, ds2, _, q2, _, rfl, _, _, r2⟩ := trodAll_cons r1
    obtain ⟨_, vs3, d3, ds3, _, q3, _, rfl, _, _, r3⟩ := trodAll_cons r2
    obtain ⟨_, rfl, _⟩ := trodAll_nil r3
    exact ⟨d0, d1, d2, d3, rfl⟩
  obtain ⟨d0, d1, d2, d3, rfl⟩ := hl
  exact ⟨_, rfl, _, _, _, [], _, [], hW', trodAll_mk1 (shut_bool Tryd.underlying4 _), by rw [Tryd.params3]; exact hag, rfl, bel.frame _, fun h => by cases h⟩
/-- A world for the witness: the settled one, the two tables holding what their initialisers lay. -/
noncomputable def laidWorld (os : Os) : World :=
  let put (h : Array Obj) (g : Nat) (cs : Array Value) : Array Obj := h.modify g fun
    | .cells _ t frozen => .cells cs t frozen
    | o => o
  let w0 := World.holding Tryd.prog os ⟨#[], #[], []⟩
  let h1 := put w0.heap 0 (Lib.firstTab.map fun z => Value.int .u8 z).toArray
  let h2 := put h1 1 ((List.range 16).flatMap fun i => [Value.int .u8 (Lib.accLo i), Value.int .u8 (Lib.accHi i)]).toArray
  { w0 with heap := h2 }
abbrev zargs : Array Value := #[.int .i64 0, .int .i64 0, .agg #[.int .i64 0, .bool false, .slice none 0 0, .bool false, .slice none 0 0, .string ⟨#[]⟩, .int .i64 0], .agg #[.int .i64 0, .bool false, .slice none 0 0, .bool false, .slice none 0 0, .string ⟨#[]⟩, .int .i64 0]]
theorem laid_met (os : Os) : laidMet Tryd.prog Rows.inlineNumbersMatchOperatorsUptoRow.laid ((laidWorld os).forCall (fun _ _ => 0) ⟨#[], zargs, []⟩).memory :=
  laidMet_of_run' 8 (by kernel_rfl) (by kernel_rfl)
theorem reads (os : Os) {H : Type} (enc : TypeId × Value → H) : ∃ places, DataW.whole enc Tryd.prog ((laidWorld os).forCall (fun _ _ => 0) ⟨#[], zargs, []⟩).memory Tryd.f3.params.toList Rows.inlineNumbersMatchOperatorsSpec.vars false zargs.toList 8 =
    some ([.lit (.int .i64 0), .lit (.int .i64 0), .agg [.lit (.int .i64 0), .agg [.lit (.bool false), .nil], .agg [.lit (.bool false), .nil], .lit (.string []), .lit (.int .i64 0)], .agg [.lit (.int .i64 0), .agg [.lit (.bool false), .nil], .agg [.lit (.bool false), .nil], .lit (.string []), .lit (.int .i64 0)]], [], places) :=
  ⟨[], by kernel_rfl⟩
set_option maxRecDepth 100000 in
theorem lifted (os : Os) (started : os.Started) (H : Type) (enc : TypeId × Value → H) (F : Stop.Interp) :
    ReturnsInHanded {} Tryd.checked os 3 .any ((Rows.OpenSpec.upto Rows.inlineNumbersMatchOperatorsSpec).preRow enc Tryd.prog Tryd.f3 Rows.inlineNumbersMatchOperatorsUptoRow.domain false Rows.inlineNumbersMatchOperatorsUptoRow.laid) (((Rows.OpenSpec.upto Rows.inlineNumbersMatchOperatorsSpec).at F).post enc Tryd.prog Tryd.f3 false true false false) := by
  obtain ⟨places, hx⟩ := reads os enc
  refine returnsInHanded_of_row (C := Tryd.checked) (s := Rows.OpenSpec.upto Rows.inlineNumbersMatchOperatorsSpec) own started (by kernel_rfl) Tryd.func3
    (witness_row_at (enc := enc) (C := Tryd.checked) false (laidWorld os) zargs rfl (by kernel_rfl) (by kernel_rfl) (by kernel_rfl)
      (OpenSpec.preRow_of_cond 8 hx (by kernel_rfl) (fun k hk => by cases hk; kernel_rfl) (by kernel_rfl) (laid_met os))) ?_
  intro W base args ds gs before hval hW _ hcond hsz hL hsh _
  exact contract H enc W base args ds gs before hval hW (hcond _ rfl) hsz hL hsh
theorem saidUpto : Rows.InlineNumbersMatchOperatorsUptoSaid :=
  OpenClaim.holds_of_cond 3 Tryd.f3 rfl rfl rfl rfl rfl rfl rfl ⟨rfl, rfl, rfl, rfl, rfl⟩ rfl rfl rfl rfl rfl (by kernel_rfl) Tryd.func3 (by kernel_rfl)
    (of_decide_eq_true (by kernel_rfl)) (by unfold Func.isWrapper; first | (rw [if_pos (by decide +kernel)]; kernel_rfl) | (rw [if_neg (by decide +kernel)]; exact ⟨rfl, rfl⟩))
    (fun os started H enc _ F => by rw [OpenClaim.pre_eq_preRow]; exact lifted os started H enc F)
theorem plainCard (f : FuncId) (fn : Func) (hf : Tryd.pinned.checked.prog.funcNamed "brindlewood/brindlewoodlaw7.InlineNumbersMatchOperators" = some f) (hfn : Tryd.pinned.checked.prog.funcs[f]? = some fn) :
    false = Tryd.pinned.checked.prog.looks [] ∧ ∀ (j : Nat) t, fn.params[j]? = some t → Tryd.pinned.checked.prog.wantsStandIn t = false := by
  obtain rfl : f = 3 := Option.some.inj ((show Tryd.prog.funcNamed "brindlewood/brindlewoodlaw7.InlineNumbersMatchOperators" = some 3 by kernel_rfl).symm.trans hf) |>.symm
  obtain rfl : fn = Tryd.f3 := (Option.some.inj (Tryd.func3.symm.trans hfn)).symm
  refine ⟨by kernel_rfl, fun j t ht => ?_⟩
  rw [Tryd.params3] at ht
  have hm := Array.mem_of_getElem? ht
  have : t = 3 ∨ t = 26 := by simpa using hm
  rcases this with rfl | rfl
  · exact (show Tryd.prog.wantsStandIn 3 = false by kernel_rfl)
  · exact (show Tryd.prog.wantsStandIn 26 = false by kernel_rfl)
theorem cardUpto : Rows.InlineNumbersMatchOperatorsUptoCardSaid :=
  Claim7.holds_tied_plain_at .later [] _ _ _ _ saidUpto (fun _ h => by cases h) (by kernel_rfl) (fun _ h => by cases h) inlineNumbersMatchOperatorsUpto_row_tie rfl ⟨rfl, rfl⟩ (by kernel_rfl) rfl plainCard (by kernel_rfl)
#print axioms cardUpto
end Go.Proofs.YtgbihmngjppomaaDoor.inlineNumbersMatchOperators
namespace Go.Proofs.YtgbihmngjppomaaDoor
/-- The card, under a short name, for the claim. -/
theorem inlineNumbersMatchOperators_card : Rows.InlineNumbersMatchOperatorsUptoCardSaid := inlineNumbersMatchOperators.cardUpto
end Go.Proofs.YtgbihmngjppomaaDoor
