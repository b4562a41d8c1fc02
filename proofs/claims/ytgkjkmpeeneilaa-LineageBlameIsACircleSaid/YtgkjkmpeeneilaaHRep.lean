/- By hand: lineage.repeats, which keeps a set. -/
import Derived.Maps.OwnSet
import Derived.SliceStrings
import Derived.WalkKit
import Derived.Test.YtgkjkmpeeneilaaFTy
import Derived.Test.YtgkjkmpeeneilaaAbG3
import Derived.Test.YtgkjkmpeeneilaaPl1
namespace Go.Ab
open Go.RowKit Go.Maps Go.WideMaps Go.Proofs
set_option linter.unusedVariables false
set_option linter.unusedSimpArgs false
/-- an element, under a name that the walk leaves alone -/
def nthI (l : List Int) (k : Nat) : Int := l.getD k 0
def keysI (l : List Int) (k : Nat) : List Lit := (l.take k).map fun n => .int .i64 n
def setI {H : Type} (l : List Int) (k : Nat) : DataW H := setOf (.agg []) (keysI l k)
theorem setI_succ {H : Type} (l : List Int) (k : Nat) (hk : k < l.length) : setI (H := H) l (k + 1) = (setI l k).put (.int .i64 (nthI l k)) (.agg []) := by
  unfold setI keysI nthI
  rw [List.take_add_one, List.map_append]
  simp [List.getD, List.getElem?_eq_getElem hk, setOf_snoc]
theorem setI_zero {H : Type} (l : List Int) : setI (H := H) l 0 = .map [] := by simp [setI, keysI, setOf]
def inI64 (n : Int) : Bool := decide (-9223372036854775808 ≤ n) && decide (n ≤ 9223372036854775807)
theorem inI64_wf {n : Int} (h : inI64 n = true) : (Lit.int .i64 n).wf = true := by
  simp [inI64, Lit.wf, IntKind.min, IntKind.max, IntKind.signed, IntKind.bits] at h ⊢
  exact h
theorem key3 {l : List Int} (h : ∀ n ∈ l, inI64 n = true) (k : Nat) : keyOf Try.prog 3 (.int .i64 (nthI l k)) = some (.int .i64 (nthI l k)) := by
  refine keyOf_int_mk Try.underlying3 (inI64_wf ?_)
  unfold nthI
  by_cases hk : k < l.length
  · rw [List.getD, List.getElem?_eq_getElem hk]
    exact h _ (List.getElem_mem hk)
  · rw [List.getD, List.getElem?_eq_none (by omega)]
    rfl
theorem law3' : Keyed Try.prog 3 := int_keyed Try.underlying3
/-- how many numbers of a list differ -/
def dsize (l : List Int) : Nat := Maps.size (setI (H := Unit) l l.length)
set_option maxRecDepth 100000 in
theorem rep_nil (a : Option Addr) (cap : Nat) (w : World) : Calls Try.prog 66 #[.slice a 0 cap] w fun e w' => e = .returned (.bool false) ∧ Below w.heap.size w w' := by
  have hmm := @run_makeMap Try.prog
  go_enter Try.func66, Try.ntmps66
  go_wp2
  refine wp_loop_rounds 1 ?_
  rw [rounds_succ]
  go_wp2_with (first
    | (at_len; refine wpList_len_own _ rfl _ 110 rfl 3 111 Try.underlying110 (unitElem (H := Unit)) w.heap.size 0 (.map []) rfl (World.ownsMap_made _ _ _ _) ?_)
    | go_in)
  go_ret
  exact ⟨rfl, (Below.refl _ _).alloc (Nat.le_refl _) _⟩
set_option maxRecDepth 100000 in
set_option maxHeartbeats 1000000 in
theorem rep_any (ad : Addr) (cap : Nat) (l : List Int) (w : World) (hreach : l.length ≤ 4611686018427387904) (hb : ad.block < w.heap.size)
    (hc : ∀ j, j < l.length → w.cell? (ad.add j) = some (.int .i64 (nthI l j))) (hr : ∀ n ∈ l, inI64 n = true) :
    Calls Try.prog 66 #[.slice (some ad) l.length cap] w fun e w' => e = .returned (.bool (decide (dsize l < l.length))) ∧ Below w.heap.size w w' := by
  have hmm := @run_makeMap Try.prog
  go_enter Try.func66, Try.ntmps66
  go_wp2
  go_loopw [9] (fun i wr => ∃ k : Nat, k ≤ l.length ∧ i = .int .i64 k ∧ wr.ownsMap Try.prog 3 unitElem w.heap.size k (setI (H := Unit) l k) ∧ Below w.heap.size w wr)
    (fun i _ => l.length - (intOf i).toNat)
  case atStart => exact ⟨0, Nat.zero_le _, rfl, by rw [setI_zero]; exact World.ownsMap_made _ _ _ _, (Below.refl _ _).alloc (Nat.le_refl _) _⟩
  case round =>
    obtain ⟨k, hk, rfl, hown, hnx⟩ := hrel
    have hcx : k < l.length → wr.cell? (ad.add k) = some (.int .i64 (nthI l k)) := fun _ => (hnx.cell (by unfold Addr.add; split <;> exact hb)).trans (hc k (by omega))
    have hkey := key3 hr k
    go_wp2_with (first
      | (at_mapUpdate; refine wpList_mapUpdate_own _ rfl _ _ _ 110 rfl 3 111 law3' Try.underlying110 (unitElem (H := Unit)) w.heap.size k _ rfl hown (by unfold maxLen; omega) _ _ _ rfl rfl hkey _ [] unitElem_mk ?_; intro w1 hown1 hgrow1)
      | (at_len; refine wpList_len_own _ rfl _ 110 rfl 3 111 Try.underlying110 _ w.heap.size k _ rfl hown ?_)
      | go_in)
    · have hlt : k < l.length := by assumption
      go_roundw
      case rel => exact ⟨k + 1, by omega, by go_num, (setI_succ l k (by omega)).symm ▸ hown1, hnx.grown hgrow1 hnx.size (fun j hj => by cases hj; exact Nat.le_refl _)⟩
      case measure => simp [intOf]; omega
    · have : k = l.length := by omega
      subst this
      go_ret
      exact ⟨rfl, hnx⟩
abbrev f_lineage_repeats.A : List Sh := [(.d (.sl 3 (.int .i64)))]
abbrev f_lineage_repeats.R : List Sh := [(.d .bool)]
abbrev f_lineage_repeats.E : Type := (List (Int)) → Option (Bool)
def f_lineage_repeats.u (k : Nat) : f_lineage_repeats.E := fun l => if l.length ≤ 4611686018427387904 ∧ l.all inI64 = true then some (decide (dsize l < l.length)) else none
theorem below_left {w w' : World} (h : Below w.heap.size w w') : Left w w' (· ∈ ([] : List Nat)) := ⟨h.os, h.tape, h.output, h.size, fun k hk _ => h.block k hk⟩
theorem enters66 : Enters Try.prog 66 := by
  have hb : (Func.body Try.f66).isSome = true := by kernel_rfl
  obtain ⟨c, hc⟩ := Option.isSome_iff_exists.1 hb
  exact enters_of Try.func66 hc (by kernel_rfl)
theorem f_lineage_repeats.sound (k : Nat) : Sound Try.prog ⟨66, f_lineage_repeats.A, f_lineage_repeats.R, f_lineage_repeats.u k⟩ := by
  refine ⟨enters66, fun x y hy w S vals Ms hw hargs hnd hM => ?_⟩
  obtain ⟨v, us, M, N, rfl, rfl, hv, rfl, rfl⟩ := hargs
  have hv1 : DR w S (.sl 3 (.int .i64)) x [v] ∧ M = [] := by simpa [SV, Sh.isAgg, Ty.isAgg, SR, Sh.hd] using hv
  obtain ⟨hdr, rfl⟩ := hv1
  obtain ⟨a, cap, hva, hcap, hrow⟩ := hdr
  cases hva
  simp only [f_lineage_repeats.u] at hy
  split at hy
  case isFalse => cases hy
  case isTrue hc =>
  cases hy
  have fin : ∀ b : Bool, b = decide (dsize x < x.length) → ∀ e w', e = Ending.returned (.bool b) → Below w.heap.size w w' → Post Try.prog w S f_lineage_repeats.A f_lineage_repeats.R [.slice a x.length cap] ([] ++ []) (decide (dsize x < x.length)) e w' := by
    rintro b rfl e w' rfl hbel
    exact ⟨⟨[.bool _], S, [], [], rfl, below_left hbel, fun _ _ h => h, fun _ _ h => .inl h, fun b e h => Nat.lt_of_lt_of_le (hw b e h) hbel.size, List.nodup_nil, fun b hb => by simp at hb,
      ⟨_, [], [], [], rfl, rfl, by (show (if _ then _ else _)); (simp [Sh.isAgg, Ty.isAgg, SR, DR]; rfl), rfl, rfl⟩, ⟨_, [], rfl, rfl, rfl⟩⟩⟩
  by_cases h0 : x.length = 0
  · have hx : x = [] := List.eq_nil_of_length_eq_zero h0
    subst hx
    refine (rep_nil a cap w).mono fun e w' ⟨he, hb⟩ => fin false ?_ e w' he hb
    simp
  · obtain ⟨ad, rfl, hs, hr⟩ := hrow (by show 0 < x.length; omega)
    refine (rep_any ad cap x w hc.1 (hw _ _ hs) (fun j hj => ?_) (fun n hn => by simpa using List.all_eq_true.1 hc.2 n hn)).mono fun e w' ⟨he, hb⟩ => fin _ rfl e w' he hb
    obtain ⟨c, hd, hcell⟩ := hr j x[j] (List.getElem?_eq_getElem hj)
    have hd' : c = [.int .i64 x[j]] := hd
    subst hd'
    have := hcell 0 _ rfl
    rw [show j * Ty.size (.int .i64) + 0 = j by simp [Ty.size]] at this
    rw [this, nthI, getD_of hj]
end Go.Ab
