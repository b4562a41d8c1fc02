/- What a class inherits, the special methods of a value and the names of its attributes are in package attribute as in the reference, for every heap, value, class and name, of bulk at most 1048576. -/
import Derived.Test.YtdekjkgfohlmgaaGreatDoorCards
import Derived.Test.YtdekjkgfohlmgaaGreatDoorTie
import Derived.WalkKit
import Derived.ProofKit
import Derived.OpenShut
import Derived.Below
import Derived.SizedLaws
import Derived.Deep.DeepHandedRow
import Derived.Lib.LaidU8T
import Derived.Lib.LaidTab
import Derived.Stop.LaidErr
import Derived.Deep.DeepLaidRun
import Derived.Deep.DeepWitnessRowRef
import Derived.Shelf.Vars
import Derived.Test.YtdekjkgfohlmgaaGreatDoorL21
import Derived.Test.YtdekjkgfohlmgaaGreatDoorBulk
namespace Go.Proofs.YtdekjkgfohlmgaaGreatDoor.attributeSpecialMatchesSpec
open Go.ChangeShapes Go.WideShapes Go.ChangeAt Go.RowKit Go.Ab
set_option linter.unusedVariables false
set_option linter.unusedSimpArgs false
theorem own : ownKnob Tryz.prog.godebug = none := by kernel_rfl
theorem laidOut : laidOutB Tryz.prog = true := by kernel_rfl
theorem tv_of {B : Nat → Nat} {v : X_Value} (h : Okd B 1048576 Y_Value v) : TV v := by
  obtain ⟨_, ⟨_, ⟨_, l1⟩, m1⟩, ⟨_, ⟨_, l2⟩, m2⟩, ⟨_, l3⟩, _⟩ := h
  refine ⟨fun d hd => ?_, fun d hd => ?_, Nat.le_trans l1 (by omega), Nat.le_trans l2 (by omega), Nat.le_trans l3 (by omega)⟩
  · obtain ⟨h1, h2⟩ := m1 d hd
    exact ⟨h1, Int.lt_of_le_of_lt (show (d : Int) ≤ 4294967295 from h2) (by decide)⟩
  · obtain ⟨h1, h2⟩ := m2 d hd
    exact ⟨h1, Int.lt_of_le_of_lt (show (d : Int) ≤ 4294967295 from h2) (by decide)⟩
theorem to_of {B : Nat → Nat} {o : X_Object} (h : Okd B 1048576 Y_Object o) : TO o := by
  obtain ⟨_, ⟨_, n1⟩, _, ⟨⟨_, r1⟩, _⟩, ⟨⟨_, o1⟩, _⟩, ⟨⟨_, s1⟩, s2⟩, ⟨⟨_, i1⟩, i2⟩, ⟨⟨_, k1⟩, k2⟩, _, g1, g2⟩ := h
  exact ⟨Nat.le_trans n1 (by omega), Nat.le_trans r1 (by omega), Nat.le_trans o1 (by omega), Nat.le_trans s1 (by omega), fun s hs => Nat.le_trans (s2 s hs).2 (by omega), Nat.le_trans i1 (by omega), fun v hv => tv_of (i2 v hv), Nat.le_trans k1 (by omega), fun v hv => tv_of (k2 v hv), g1, g2⟩
theorem th_of {B : Nat → Nat} {h : X_Heap} (hh : Okd B 1048576 Y_Heap h) : TH h := by
  obtain ⟨⟨_, l1⟩, l2⟩ := hh
  exact ⟨Nat.le_trans l1 (by omega), fun o ho => to_of (l2 o ho)⟩
theorem plain : ∀ x : Sh.Ts (shs [Y_Heap, Y_Value, (.int .i64), .str]), OkArgs Tryz.prog.bytesOf 1048576 [Y_Heap, Y_Value, (.int .i64), .str] x → ∃ k y, F4.u k x = some y ∧ y = true := by
  rintro ⟨x0, x1, x2, x3⟩ ⟨h0, h1, h2, h3⟩
  obtain ⟨k, hk⟩ := bk_exists
  exact ⟨k, true, law21 hk (th_of h0) (tv_of h1), rfl⟩
theorem cell_lt {w : World} {b o : Nat} {v : Value} (h : w.cell? ⟨b, o, none⟩ = some v) : b < w.heap.size := by
  rcases Nat.lt_or_ge b w.heap.size with h1 | h1
  · exact h1
  · rw [World.cell?] at h
    simp [h1] at h
theorem e_accept : (Rows.laid_unicode_utf8_acceptRanges : DataW Unit) = Lib.acceptData := by kernel_rfl
theorem e_first : Rows.laid_unicode_utf8_first = Lib.firstData := by kernel_rfl
theorem e_space : (Rows.laid_strings_asciiSpace : DataW Unit) = Lib.tabData .u8 Lib.asciiSpaceTab := by kernel_rfl
set_option maxRecDepth 100000 in
theorem tabs {W : World} (hL : laidMetH Tryz.prog Rows.attributeSpecialMatchesSpecUptoRow.laid W) (hsh : W.ShapedOpen Tryz.prog) : TabPred W ∧ ∀ b, TabBlk b → b < W.heap.size := by
  have hL' : laidMet Tryz.prog [("unicode/utf8.acceptRanges", Lib.acceptData), ("unicode.White_Space", Rows.laid_unicode_White_Space), ("strings.asciiSpace", Lib.tabData .u8 Lib.asciiSpaceTab), ("unicode/utf8.first", Lib.firstData)] W := by
    rw [← e_accept, ← e_space, ← e_first]
    exact hL
  have hU : Lib.Utf8Tabs 2 3 W :=
    utf8Tabs_of_readsT (ρ := Tryz.laysValid_ren) (U8Types.of196 Tryz.laysValid) ⟨by kernel_rfl, by kernel_rfl, by kernel_rfl, by kernel_rfl, by kernel_rfl, by kernel_rfl, by kernel_rfl⟩ (Lib.laidMet.reads hL' (.tail _ (.tail _ (.tail _ (.head _))))) (Lib.laidMet.reads hL' (.head _))
  have hS : Lib.TabIs Tryz.prog W "strings.asciiSpace" .u8 Lib.asciiSpaceTab :=
    Lib.tabIs_of_head (g := 0) (t := 133) (e := 5) (n := 256) (by kernel_rfl) (by kernel_rfl) (by kernel_rfl) (by kernel_rfl) (by kernel_rfl) (by kernel_rfl) (laidMet.tail (laidMet.tail hL'))
  obtain ⟨m, hm⟩ := cell_of_shapedOpen_int (g := 4) (t := 3) (zero := #[.int .i64 0]) hsh (of_decide_eq_true (by kernel_rfl)) (by kernel_rfl) rfl (by kernel_rfl) (by kernel_rfl) Tryz.underlying3
  refine ⟨⟨⟨m, hm⟩, hU, hS⟩, fun b hb => ?_⟩
  rcases hb with rfl | rfl | rfl | rfl
  · exact cell_lt hm
  · exact cell_lt (hU.1 0 (by omega))
  · exact cell_lt (hU.2 0 (by omega)).1
  · exact cell_lt (hS.cell space_at 0 (by decide))
set_option maxRecDepth 100000 in
theorem contract (H : Type) (enc : TypeId × Value → H) (W : World) (base : Nat) (args : Array Value) (ds gs : List (DataW H)) (before : List MemPlace)
    (hval : ∀ (j : Nat) t v, Tryz.f4.params[j]? = some t → args[j]? = some v → Value.okWide Tryz.prog W .any base t v)
    (hW : DataW.Whole enc Tryz.prog Tryz.f4.params.toList Rows.attributeSpecialMatchesSpecSpec.vars false W args.toList ds gs before)
    (hb : Rows.uptoSmall H (ds ++ gs) = true)
    (hsz : (DataW.weightsEach Tryz.prog (Tryz.f4.params.toList ++ Rows.attributeSpecialMatchesSpecSpec.plain.varTypes Tryz.prog) (ds ++ gs)).all (· ≤ reachBytes) = true)
    (hL : laidMetH Tryz.prog Rows.attributeSpecialMatchesSpecUptoRow.laid W) (hsh : W.ShapedOpen Tryz.prog) :
    Calls Tryz.prog 4 args W fun e W' => ∃ v, e = .returned v ∧ Rows.attributeSpecialMatchesSpecSpec.post enc Tryz.prog Tryz.f4 false true false false W args v W' := by
  have hW' := hW
  obtain ⟨p, q, hA0, hV, rfl, hfz, hnd⟩ := hW
  obtain ⟨rfl, rfl⟩ := trodVars_none hV
  have hA : DataW.TrodAll enc Tryz.prog W 0 (fun _ => true) true [24, 29, 3, 9] args.toList ds p := by rw [← show Tryz.f4.params.toList = [24, 29, 3, 9] by rw [Tryz.params4]]; exact hA0
  have hz : (DataW.weightsEach Tryz.prog [24, 29, 3, 9] ds).all (· ≤ reachBytes) = true := by
    have := hsz
    rw [Tryz.params4, show Rows.attributeSpecialMatchesSpecSpec.plain.varTypes Tryz.prog = [] from rfl, List.append_nil, List.append_nil] at this
    exact this
  rw [List.append_nil] at hb
  have hp : parB Tryz.prog [24, 29, 3, 9] [Y_Heap, Y_Value, (.int .i64), .str] = true := by kernel_rfl
  have hok : ∀ (j : Nat) t v, ([24, 29, 3, 9] : List TypeId)[j]? = some t → args.toList[j]? = some v → Value.okWide Tryz.prog W .any base t v := by
    intro j t v h1 h2
    exact hval j t v (by rw [Tryz.params4]; simpa using h1) (by simpa using h2)
  have hc := law_calls bulk_short (f := 4) (tys := [Y_Heap, Y_Value, (.int .i64), .str]) (g := F4.u) F4.sound plain hp hok hA hz (bulk_all hb) (tabs hL hsh)
  simp only [Array.toArray_toList] at hc
  refine hc.mono fun e W' ⟨he, bel⟩ => ?_
  subst he
  have hag := args_again laidOut bel hp hA
  have hl : ∃ d0 d1 d2 d3, ds = [d0, d1, d2, d3] := by
    obtain ⟨_, vs0, d0, ds0, _, q0, _, rfl, _, _, r0⟩ := trodAll_cons hA
    obtain ⟨_, vs1, d1, ds1, _, q1, _, rfl, _, _, r1⟩ := trodAll_cons r0
    obtain ⟨_, vs2, d2, ds2, _, q2, _, rfl, _, _, r2⟩ := trodAll_cons r1
    obtain ⟨_, vs3, d3, ds3, _, q3, _, rfl, _, _, r3⟩ := trodAll_cons r2
    obtain ⟨_, rfl, _⟩ := trodAll_nil r3
    exact ⟨d0, d1, d2, d3, rfl⟩
  obtain ⟨d0, d1, d2, d3, rfl⟩ := hl
  exact ⟨_, rfl, _, _, _, [], _, [], hW', trodAll_mk1 (shut_bool Tryz.underlying4 _), by rw [Tryz.params4]; exact hag, rfl, bel.frame _, fun h => by cases h⟩
/-- A world for the witness: the settled one, two blocks more (the ranges of unicode.White_Space; its table), the four variables holding what their initialisers lay. -/
noncomputable def laidWorld (os : Os) : World :=
  let N := (World.settled Tryz.prog os).heap.size
  let put (h : Array Obj) (g : Nat) (cs : Array Value) : Array Obj := h.modify g fun
    | .cells _ t frozen => .cells cs t frozen
    | o => o
  let w0 := World.holding Tryz.prog os ⟨#[.cells (Lib.whiteT.map fun (z : Nat) => Value.int .u16 (z : Int)).toArray 210, .cells #[.slice (some ⟨N, 0, none⟩) 7 7, .slice none 0 0, .int .i64 2] 207], #[], []⟩
  let h1 := put w0.heap 2 (Lib.firstTab.map fun z => Value.int .u8 z).toArray
  let h2 := put h1 3 ((List.range 16).flatMap fun i => [Value.int .u8 (Lib.accLo i), Value.int .u8 (Lib.accHi i)]).toArray
  let h3 := put h2 0 (Lib.asciiSpaceTab.map fun z => Value.int .u8 z).toArray
  let h4 := put h3 1 #[.pointer (some ⟨N + 1, 0, none⟩)]
  { w0 with heap := h4 }
abbrev zv : Value := .agg #[.int .i64 0, .bool false, .slice none 0 0, .bool false, .slice none 0 0, .string ⟨#[]⟩, .int .i64 0]
abbrev zargs : Array Value := #[.agg #[.slice none 0 0], zv, .int .i64 0, .string ⟨#[]⟩]
abbrev zd {H : Type} : DataW H := .agg [.lit (.int .i64 0), .agg [.lit (.bool false), .nil], .agg [.lit (.bool false), .nil], .lit (.string []), .lit (.int .i64 0)]
theorem laid_met (os : Os) : laidMet Tryz.prog Rows.attributeSpecialMatchesSpecUptoRow.laid ((laidWorld os).forCall (fun _ _ => 0) ⟨#[], zargs, []⟩).memory :=
  laidMet_of_run3 10 (by kernel_rfl) (by kernel_rfl) (by kernel_rfl)
theorem reads (os : Os) {H : Type} (enc : TypeId × Value → H) : ∃ places, DataW.whole enc Tryz.prog ((laidWorld os).forCall (fun _ _ => 0) ⟨#[], zargs, []⟩).memory Tryz.f4.params.toList Rows.attributeSpecialMatchesSpecSpec.vars false zargs.toList 8 = some ([.agg [.nil], zd, .lit (.int .i64 0), .lit (.string [])], [], places) :=
  ⟨[], by kernel_rfl⟩
set_option maxRecDepth 100000 in
theorem lifted (os : Os) (started : os.Started) (H : Type) (enc : TypeId × Value → H) (F : Stop.Interp) :
    ReturnsInHanded {} Tryz.checked os 4 .any ((Rows.OpenSpec.upto Rows.attributeSpecialMatchesSpecSpec).preRow enc Tryz.prog Tryz.f4 Rows.attributeSpecialMatchesSpecUptoRow.domain false Rows.attributeSpecialMatchesSpecUptoRow.laid) (((Rows.OpenSpec.upto Rows.attributeSpecialMatchesSpecSpec).at F).post enc Tryz.prog Tryz.f4 false true false false) := by
  obtain ⟨places, hx⟩ := reads os enc
  refine returnsInHanded_of_row (C := Tryz.checked) (s := Rows.OpenSpec.upto Rows.attributeSpecialMatchesSpecSpec) own started (by kernel_rfl) Tryz.func4
    (witness_row_atRef (enc := enc) (C := Tryz.checked) false (laidWorld os) zargs rfl (by kernel_rfl) (by kernel_rfl) (by kernel_rfl)
      (OpenSpec.preRow_of_cond 8 hx (by kernel_rfl) (fun k hk => by cases hk; kernel_rfl) (by kernel_rfl) (laid_met os))) ?_
  intro W base args ds gs before hval hW _ hcond hsz hL hsh _
  exact contract H enc W base args ds gs before hval hW (hcond _ rfl) hsz hL hsh
theorem saidUpto : Rows.AttributeSpecialMatchesSpecUptoSaid :=
  OpenClaim.holds_of_cond 4 Tryz.f4 rfl rfl rfl rfl rfl rfl rfl ⟨rfl, rfl, rfl, rfl, rfl⟩ rfl rfl rfl rfl rfl (by kernel_rfl) Tryz.func4 (by kernel_rfl)
    (of_decide_eq_true (by kernel_rfl)) (by unfold Func.isWrapper; first | (rw [if_pos (by decide +kernel)]; kernel_rfl) | (rw [if_neg (by decide +kernel)]; exact ⟨rfl, rfl⟩))
    (fun os started H enc _ F => by rw [OpenClaim.pre_eq_preRow]; exact lifted os started H enc F)
theorem plainCard (f : FuncId) (fn : Func) (hf : Tryz.pinned.checked.prog.funcNamed "brindlewood/brindlewoodlaw7.AttributeSpecialMatchesSpec" = some f) (hfn : Tryz.pinned.checked.prog.funcs[f]? = some fn) :
    false = Tryz.pinned.checked.prog.looks [] ∧ ∀ (j : Nat) t, fn.params[j]? = some t → Tryz.pinned.checked.prog.wantsStandIn t = false := by
  obtain rfl : f = 4 := Option.some.inj ((show Tryz.prog.funcNamed "brindlewood/brindlewoodlaw7.AttributeSpecialMatchesSpec" = some 4 by kernel_rfl).symm.trans hf) |>.symm
  obtain rfl : fn = Tryz.f4 := (Option.some.inj (Tryz.func4.symm.trans hfn)).symm
  refine ⟨by kernel_rfl, fun j t ht => ?_⟩
  rw [Tryz.params4] at ht
  have hm := Array.mem_of_getElem? ht
  have ha : ([24, 29, 3, 9] : List TypeId).all (fun t => !Tryz.prog.wantsStandIn t) = true := by kernel_rfl
  have h2 : (!Tryz.prog.wantsStandIn t) = true := List.all_eq_true.1 ha t (by simpa using hm)
  exact (show Tryz.prog.wantsStandIn t = false by simpa using h2)
theorem cardUpto : Rows.AttributeSpecialMatchesSpecUptoCardSaid :=
  Claim7.holds_tied_plain_at .later [] _ _ _ _ saidUpto (fun _ h => by cases h) (by kernel_rfl) (fun _ h => by cases h) attributeSpecialMatchesSpecUpto_row_tie rfl ⟨rfl, rfl⟩ (by kernel_rfl) rfl plainCard (by kernel_rfl)
#print axioms cardUpto
end Go.Proofs.YtdekjkgfohlmgaaGreatDoor.attributeSpecialMatchesSpec
namespace Go.Proofs.YtdekjkgfohlmgaaGreatDoor
/-- The card, under a short name, for the claim. -/
theorem attributeSpecialMatchesSpec_card : Rows.AttributeSpecialMatchesSpecUptoCardSaid := attributeSpecialMatchesSpec.cardUpto
end Go.Proofs.YtdekjkgfohlmgaaGreatDoor
