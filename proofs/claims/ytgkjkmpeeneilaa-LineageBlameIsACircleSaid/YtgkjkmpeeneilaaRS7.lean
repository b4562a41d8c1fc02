/- A part of the proof: RS7. -/
import Derived.Test.YtgkjkmpeeneilaaRS6
import Derived.Test.YtgkjkmpeeneilaaHRep
namespace Go.Ab
set_option linter.unusedVariables false
set_option linter.unusedSimpArgs false
/-! what a set says of repetitions -/
def dupTo (l : List Int) : Nat → Bool
  | 0 => false
  | j + 1 => dupTo l j || (l.take j).any fun y => l.getD j 0 == y
def dupB (l : List Int) : Bool := dupTo l l.length
def addI (acc : List Int) (x : Int) : List Int := if acc.any (fun y => y == x) then acc else acc ++ [x]
theorem addKey_int (acc : List Int) (x : Int) : Maps.addKey (acc.map fun n => Lit.int .i64 n) (.int .i64 x) = (addI acc x).map fun n => Lit.int .i64 n := by
  unfold Maps.addKey addI
  rw [List.any_map, show ((fun y => Lit.sameKey y (.int .i64 x)) ∘ fun n => Lit.int .i64 n) = fun y => y == x by
    funext y
    simp only [Function.comp, Lit.sameKey, true_and]
    rw [Bool.eq_iff_iff]; simp]
  split <;> simp
theorem dsize_eq (l : List Int) : dsize l = (l.foldl addI []).length := by
  unfold dsize setI
  rw [Maps.size_setOf _ _ (fun x hx => by
    unfold keysI at hx
    obtain ⟨n, _, rfl⟩ := List.mem_map.1 hx
    trivial)]
  have key : ∀ (r acc : List Int), (r.map fun n => Lit.int .i64 n).foldl Maps.addKey (acc.map fun n => Lit.int .i64 n) = (r.foldl addI acc).map fun n => Lit.int .i64 n := by
    intro r
    induction r with
    | nil => intro acc; rfl
    | cons x r ih => intro acc; rw [List.map_cons, List.foldl_cons, List.foldl_cons, addKey_int, ih]
  have := key l []
  rw [List.map_nil] at this
  unfold keysI
  rw [List.take_length, this, List.length_map]
theorem dsize_dup (l : List Int) : decide (dsize l < l.length) = dupB l := by
  rw [dsize_eq]
  have hadd : ∀ (acc : List Int) (x : Int), addI acc x = if acc.any (fun y => y == x) then acc else acc ++ [x] := fun _ _ => rfl
  have key : ∀ j, j ≤ l.length → (∀ v, ((l.take j).foldl addI []).any (fun y => y == v) = (l.take j).any fun y => y == v) ∧ ((l.take j).foldl addI []).length ≤ j ∧
      (((l.take j).foldl addI []).length = j ↔ dupTo l j = false) := by
    intro j
    induction j with
    | zero => intro _; simp [dupTo]
    | succ j ih =>
      intro hj
      obtain ⟨h1, h2, h3⟩ := ih (by omega)
      have hlt : j < l.length := by omega
      rw [List.take_succ_eq_append_getElem hlt, List.foldl_append, List.foldl_cons, List.foldl_nil]
      have hd : dupTo l (j + 1) = (dupTo l j || (l.take j).any fun y => y == l[j]) := by
        rw [dupTo, getD_of hlt]
        congr 2
        funext y
        exact Bool.beq_comm
      rw [hd, hadd, h1 l[j]]
      cases hc : (l.take j).any fun y => y == l[j] with
      | true =>
        rw [if_pos rfl]
        refine ⟨fun v => ?_, by omega, ?_⟩
        · rw [h1, List.any_append]
          cases hv : (List.take j l).any fun y => y == v with
          | true => rfl
          | false =>
            simp only [Bool.false_or, List.any_cons, List.any_nil, Bool.or_false]
            symm
            rw [beq_eq_false_iff_ne]
            rintro rfl
            rw [hc] at hv
            cases hv
        · simp
          omega
      | false =>
        rw [if_neg (by simp)]
        refine ⟨fun v => ?_, by simp; omega, ?_⟩
        · rw [List.any_append, h1, List.any_append]
        · simp [h3]
  have h := key l.length (Nat.le_refl _)
  rw [List.take_length] at h
  unfold dupB
  cases hd : dupTo l l.length with
  | false => simp [h.2.2.2 hd]
  | true =>
    have : (l.foldl addI []).length ≠ l.length := fun e => by have := h.2.2.1 e; rw [hd] at this; cases this
    have := h.2.1
    simp
    omega
/-! the two checks of linearizations -/
abbrev hdI (l : List Int) : Int := l.getD 0 0
def ocd (all : List (List Int)) (i : Nat) (l : List Int) : Int :=
  bif (l.length : Int) == 0 then 10 else bif decide ((l.length : Int) > 40) then 2 else bif l.any (fun n => decide (n < 0)) then 4 else bif dupB l || (all.take i).any (fun m => hdI m == hdI l) then 8 else 0
theorem f_lineage_fault.spec (k : Nat) (a b : Int) : f_lineage_fault.u k (a, b) = some (a, b) := rfl
theorem f_ref7_At.spec3 (k : Nat) (a b : Int) : f_ref7_At.u k (a, b) = some (a, b) := rfl
theorem f_lineage_check_c2.spec {k : Nat} {a b : List Int} (ha : a ≠ []) (hb : b ≠ []) : f_lineage_check_c2.u k (a, b) = some (hdI a == hdI b) := by
  show f_lineage_check_c2.f k a b = _
  have h1 := List.length_pos_iff.2 ha
  have h2 := List.length_pos_iff.2 hb
  rw [f_lineage_check_c2.f, f_lineage_check_c2.b, if_pos ⟨by omega, by omega⟩, if_pos ⟨by omega, by omega⟩]
  rfl
def okI (l : List Int) : Prop := l.length ≤ 17592186044416 ∧ ∀ n ∈ l, inI64 n = true
theorem f_lineage_repeats.spec {k : Nat} {l : List Int} (h : okI l) : f_lineage_repeats.u k l = some (dupB l) := by
  show (if _ then _ else _) = _
  rw [if_pos ⟨by have := h.1; omega, by rw [List.all_eq_true]; exact h.2⟩, dsize_dup]
abbrev lchk (k : Nat) := f_lineage_check.l0 (f_lineage_fault.u k) (f_slices_ContainsFunc_int.u k) (f_lineage_check_c1.u k) (f_lineage_repeats.u k) (f_slices_ContainsFunc_Lint.u k) (f_lineage_check_c2.u k) k
theorem lchk_step {k n : Nat} (hk : 17592186044420 < k) {all : List (List Int)} (hl : all.length ≤ 8) (hok : ∀ l ∈ all, okI l) {i : Nat} (hi : i < all.length) (hne : ∀ l ∈ all.take i, l ≠ []) :
    lchk k (n + 1) all (0, 0) all (all.length : Int) (i : Int) = bif ocd all i all[i] != 0 then some (ocd all i all[i], (i : Int)) else lchk k n all (0, 0) all (all.length : Int) ((i + 1 : Nat) : Int) := by
  have ho := hok _ (List.getElem_mem hi)
  have hw := wrapN (show i < 9223372036854775807 by omega)
  rw [lchk, f_lineage_check.l0, f_lineage_check.b_l0, decide_eq_true (by omega), cond_true, if_pos ⟨by omega, by omega⟩, Int.toNat_natCast, getD_of hi]
  generalize hp : all[i] = l at *
  have e64 := f_slices_ContainsFunc_int.spec (k := k) (l := l) (f := fun z4 => (f_lineage_check_c1.u k z4.1).bind some) (p := fun n => decide (n < 0)) (fun x _ => rfl) (by have := ho.1; omega) (by have := ho.1; omega)
  simp only [f_lineage_fault.spec, Option.bind_some, e64, f_lineage_repeats.spec ho, if_pos (show (0 : Int) ≤ 0 ∧ (0 : Int) ≤ (i : Int) ∧ (i : Int) ≤ (all.length : Int) by omega), show List.drop (Int.toNat 0) (List.take i all) = all.take i from rfl, hw, ocd]
  by_cases h0 : l = []
  · subst h0; rfl
  · have e67 := f_slices_ContainsFunc_Lint.spec (k := k) (l := all.take i) (f := fun z9 => (f_lineage_check_c2.u k (z9.1, l)).bind some) (p := fun m => hdI m == hdI l) (fun x hx => by
      dsimp only
      rw [f_lineage_check_c2.spec (hne x hx) h0]; rfl) (by rw [List.length_take]; omega) (by rw [List.length_take]; omega)
    rw [e67, Option.bind_some]
    generalize ((l.length : Int) == 0) = b1
    generalize decide ((l.length : Int) > 40) = b2
    generalize (l.any _) = b3
    generalize dupB l = b4
    generalize (List.any _ _) = b5
    cases b1 <;> cases b2 <;> cases b3 <;> cases b4 <;> cases b5 <;> rfl
/-- the reference -/
def heads (all : List (List Int)) : List Int := all.map hdI
abbrev rchk (k : Nat) := f_ref7_OrdersFault.l0 (f_ref7_At.u k) (f_ref7_HasInt.u k) k
theorem rchk_in {k : Nat} {nx : X_Fault → List Int → List (List Int) → Int → Int → Option X_Fault} (hk : 17592186044420 < k) {all : List (List Int)} {i : Nat} {l : List Int} (hl : l.length ≤ 17592186044416) {hs : List Int} (R : Option X_Fault)
    (hR : ∀ n2 low, decide (low < 0) = l.any (fun n => decide (n < 0)) → f_ref7_OrdersFault.b_l2 (f_ref7_At.u k) (f_ref7_HasInt.u k) n2 nx (0, 0) hs (i : Int) l (dupB l) low all (all.length : Int) (i : Int) l (l.length : Int) (l.length : Int) = R) (d : Nat) :
    ∀ (n j : Nat) (low : Int), j ≤ l.length → l.length - j = d → d < n → decide (low < 0) = (l.take j).any (fun n => decide (n < 0)) →
      f_ref7_OrdersFault.l2 (f_ref7_At.u k) (f_ref7_HasInt.u k) k nx n (0, 0) hs (i : Int) l (dupTo l j) low all (all.length : Int) (i : Int) l (l.length : Int) (j : Int) = R := by
  induction d with
  | zero =>
    intro n j low hj hd hn hlow
    obtain ⟨n, rfl⟩ : ∃ m, n = m + 1 := ⟨n - 1, by omega⟩
    obtain rfl : j = l.length := by omega
    rw [List.take_length] at hlow
    rw [f_ref7_OrdersFault.l2]
    exact hR _ low hlow
  | succ d ih =>
    intro n j low hj hd hn hlow
    obtain ⟨n, rfl⟩ : ∃ m, n = m + 1 := ⟨n - 1, by omega⟩
    have hlt : j < l.length := by omega
    have hw := wrapN (show j < 9223372036854775807 by omega)
    have hlow' : decide ((if l[j] < low then l[j] else low) < 0) = (l.take (j + 1)).any (fun n => decide (n < 0)) := by
      rw [List.take_succ_eq_append_getElem hlt, List.any_append, ← hlow, List.any_cons, List.any_nil, Bool.or_false]
      rw [Bool.eq_iff_iff]
      simp only [Bool.or_eq_true, decide_eq_true_eq]
      split <;> omega
    have nx1 := ih n (j + 1) _ (by omega) (by omega) (by omega) hlow'
    rw [dupTo, getD_of hlt] at nx1
    generalize hmn : (if l[j] < low then l[j] else low) = mn at *
    have e17 := f_ref7_HasInt.spec (k := k) (l := l.take j) (v := l[j]) (by rw [List.length_take]; omega) (by rw [List.length_take]; omega)
    rw [f_ref7_OrdersFault.l2, f_ref7_OrdersFault.b_l2, decide_eq_true (by omega), cond_true, if_pos ⟨by omega, by omega⟩, Int.toNat_natCast, getD_of hlt, hw, List.take_length, hmn, if_pos ⟨by omega, by omega, by omega⟩]
    rw [show List.drop (Int.toNat 0) (List.take j l) = l.take j from rfl, e17, Option.bind_some]
    cases hd : dupTo l j with
    | true => rw [hd] at nx1; exact nx1
    | false => rw [hd, Bool.false_or] at nx1; exact nx1
theorem rchk_step {k n : Nat} (hk : 17592186044420 < k) {all : List (List Int)} (hl : all.length ≤ 8) (hok : ∀ l ∈ all, okI l) {i : Nat} (hi : i < all.length) :
    rchk k (n + 1) (0, 0) (heads (all.take i)) all (all.length : Int) (i : Int) = bif ocd all i all[i] != 0 then some (ocd all i all[i], (i : Int)) else rchk k n (0, 0) (heads (all.take (i + 1))) all (all.length : Int) ((i + 1 : Nat) : Int) := by
  have ho := hok _ (List.getElem_mem hi)
  have hw := wrapN (show i < 9223372036854775807 by omega)
  have hh : heads (all.take (i + 1)) = heads (all.take i) ++ [hdI all[i]] := by
    rw [heads, heads, List.take_succ_eq_append_getElem hi, List.map_append]; rfl
  rw [rchk, f_ref7_OrdersFault.l0, f_ref7_OrdersFault.b_l0, decide_eq_true (by omega), cond_true, if_pos ⟨by omega, by omega⟩, Int.toNat_natCast, getD_of hi, List.take_length, hh]
  generalize hp : all[i] = l at *
  have hlen : (heads (all.take i)).length = i := by rw [heads, List.length_map, List.length_take]; omega
  refine rchk_in (nx := fun x2 x3 x14 x15 x16 => f_ref7_OrdersFault.l0 (f_ref7_At.u k) (f_ref7_HasInt.u k) k n x2 x3 x14 x15 x16) hk ho.1 _ (fun n2 low hlow => ?_) l.length k 0 0 (by omega) (by omega) (by have := ho.1; omega) rfl
  have e17 := f_ref7_HasInt.spec (k := k) (l := heads (all.take i)) (v := hdI l) (by omega) (by omega)
  rw [f_ref7_OrdersFault.b_l2, decide_eq_false (by omega), cond_false, hlow]
  simp only [f_ref7_At.spec3, Option.bind_some, List.take_length, ocd]
  by_cases h0 : l = []
  · subst h0; rfl
  · have h1 := List.length_pos_iff.2 h0
    have hany : (heads (all.take i)).any (fun y => hdI l == y) = (all.take i).any (fun m => hdI m == hdI l) := by
      rw [heads, List.any_map]
      congr 1
      funext m
      exact Bool.beq_comm
    simp only [if_pos (show (0 : Int) ≤ 0 ∧ (0 : Int) < (l.length : Int) by omega), show List.getD l (Int.toNat 0) 0 = hdI l from rfl, e17, Option.bind_some, hany, hw]
    rw [if_pos ⟨Nat.le_refl _, by rw [hlen]; simp [LIM]; omega⟩]
    rw [show List.append (heads (List.take i all)) (List.take 1 [hdI l]) = heads (all.take i) ++ [hdI l] from rfl]
    generalize ((l.length : Int) == 0) = b1
    generalize decide ((l.length : Int) > 40) = b2
    generalize (l.any _) = b3
    generalize dupB l = b4
    generalize (List.any _ _) = b5
    cases b1 <;> cases b2 <;> cases b3 <;> cases b4 <;> cases b5 <;> rfl
theorem ocd_ok {all : List (List Int)} {i : Nat} {l : List Int} (h : (ocd all i l != 0) = false) : l ≠ [] ∧ l.length ≤ 40 ∧ (∀ n ∈ l, 0 ≤ n) ∧ dupB l = false ∧ (all.take i).any (fun m => hdI m == hdI l) = false := by
  unfold ocd at h
  by_cases h0 : l = []
  · subst h0; cases h
  · have h1 := List.length_pos_iff.2 h0
    rw [show ((l.length : Int) == 0) = false by rw [beq_eq_false_iff_ne]; omega, cond_false] at h
    by_cases h2 : (l.length : Int) > 40
    · rw [decide_eq_true h2] at h; cases h
    · rw [decide_eq_false h2, cond_false] at h
      cases h3 : l.any (fun n => decide (n < 0)) with
      | true => rw [h3] at h; cases h
      | false =>
        rw [h3, cond_false] at h
        cases h4 : dupB l with
        | true => rw [h4] at h; cases h
        | false =>
          rw [h4, Bool.false_or] at h
          cases h5 : (all.take i).any (fun m => hdI m == hdI l) with
          | true => rw [h5] at h; cases h
          | false =>
            refine ⟨h0, by omega, fun n hn => ?_, rfl, rfl⟩
            rw [List.any_eq_false] at h3
            have := h3 n hn
            simp at this
            exact this
/-- linearizations without fault, up to a place -/
def good (all : List (List Int)) (i : Nat) : Prop := ∀ j (h : j < all.length), j < i → (ocd all j all[j] != 0) = false
theorem chk_both {k : Nat} (hk : 17592186044420 < k) {all : List (List Int)} (hl : all.length ≤ 8) (hok : ∀ l ∈ all, okI l) (d : Nat) : ∀ (n i : Nat), i ≤ all.length → all.length - i = d → d < n → good all i →
    ∃ r, lchk k n all (0, 0) all (all.length : Int) (i : Int) = some r ∧ rchk k n (0, 0) (heads (all.take i)) all (all.length : Int) (i : Int) = some r ∧ (r.1 = 0 → r = (0, 0) ∧ good all all.length) := by
  induction d with
  | zero =>
    intro n i hi hd hn hg
    obtain ⟨n, rfl⟩ : ∃ m, n = m + 1 := ⟨n - 1, by omega⟩
    refine ⟨(0, 0), ?_, ?_, fun _ => ⟨rfl, fun j h hj => hg j h (by omega)⟩⟩
    · rw [lchk, f_lineage_check.l0, f_lineage_check.b_l0, decide_eq_false (by omega), cond_false]
    · rw [rchk, f_ref7_OrdersFault.l0, f_ref7_OrdersFault.b_l0, decide_eq_false (by omega), cond_false]
  | succ d ih =>
    intro n i hi hd hn hg
    obtain ⟨n, rfl⟩ : ∃ m, n = m + 1 := ⟨n - 1, by omega⟩
    have hlt : i < all.length := by omega
    rw [lchk_step hk hl hok hlt (fun l hm => by
      obtain ⟨j, hj, rfl⟩ := List.mem_take_iff_getElem.1 hm
      exact (ocd_ok (hg j (by omega) (by omega))).1), rchk_step hk hl hok hlt]
    cases hc : (ocd all i all[i] != 0) with
    | true =>
      refine ⟨_, rfl, rfl, fun h => ?_⟩
      rw [bne_iff_ne] at hc
      exact absurd h hc
    | false =>
      simp only [cond_false]
      exact ih n (i + 1) (by omega) (by omega) (by omega) fun j h hj => by
        by_cases e : j = i
        · subst e; exact hc
        · exact hg j h (by omega)
theorem check3 {k : Nat} (hk : 17592186044420 < k) (all : List (List Int)) (hok : ∀ l ∈ all, okI l) : ∃ r, f_lineage_check.u k all = some r ∧ f_ref7_OrdersFault.u k all = some r ∧ (r.1 = 0 → r = (0, 0) ∧ all.length ≤ 8 ∧ good all all.length) := by
  show ∃ r, f_lineage_check.f _ _ _ _ _ _ k all = some r ∧ f_ref7_OrdersFault.f _ _ k all = some r ∧ _
  rw [f_lineage_check.f, f_lineage_check.b, f_ref7_OrdersFault.f, f_ref7_OrdersFault.b]
  by_cases h : all.length > 8
  · rw [decide_eq_true (by omega), cond_true, cond_true, f_lineage_fault.spec, f_ref7_At.spec3]
    exact ⟨_, rfl, rfl, fun h => by cases h⟩
  · rw [decide_eq_false (by omega), cond_false, cond_false]
    obtain ⟨r, h1, h2, h3⟩ := chk_both hk (by omega) hok all.length k 0 (by omega) (by omega) (by omega) (fun j h hj => by omega)
    exact ⟨r, h1, h2, fun e => ⟨(h3 e).1, by omega, (h3 e).2⟩⟩
end Go.Ab

