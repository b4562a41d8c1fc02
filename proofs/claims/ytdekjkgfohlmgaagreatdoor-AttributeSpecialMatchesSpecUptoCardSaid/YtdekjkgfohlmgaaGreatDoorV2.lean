/- Lists of numbers and of texts; the linearization of the reference answers. -/
import Derived.Test.YtdekjkgfohlmgaaGreatDoorGT4
import Derived.Test.YtdekjkgfohlmgaaGreatDoorV1
namespace Go.Ab
set_option linter.unusedVariables false
set_option linter.unusedSimpArgs false
abbrev hdI (l : List Int) : Int := l.getD 0 0
def okI (l : List Int) : Prop := l.length ≤ 17592186044416 ∧ True
def dupTo (l : List Int) : Nat → Bool
  | 0 => false
  | j + 1 => dupTo l j || (l.take j).any fun y => l.getD j 0 == y
def dupB (l : List Int) : Bool := dupTo l l.length
theorem F154.l0_spec {k : Nat} {l : List Int} {v : Int} (hl : l.length ≤ 4611686018427387904) (d : Nat) :
    ∀ (n i : Nat), i ≤ l.length → l.length - i = d → d < n → F154.l0 k n l v (l.length : Int) (i : Int) = some (idxF (fun y => v == y) (l.drop i) i) := by
  induction d with
  | zero =>
    intro n i hi hd hn
    obtain ⟨n, rfl⟩ : ∃ m, n = m + 1 := ⟨n - 1, by omega⟩
    rw [F154.l0, F154.b_l0, decide_eq_false (by omega), cond_false, List.drop_of_length_le (by omega)]
    rfl
  | succ d ih =>
    intro n i hi hd hn
    obtain ⟨n, rfl⟩ : ∃ m, n = m + 1 := ⟨n - 1, by omega⟩
    have hlt : i < l.length := by omega
    rw [F154.l0, F154.b_l0, decide_eq_true (by omega), cond_true, if_pos ⟨by omega, by omega⟩, Int.toNat_natCast, getD_of hlt, drop_cons hlt, idxF]
    cases (v == l[i]) with
    | true => rfl
    | false =>
      rw [cond_false, cond_false, wrapN (by omega)]
      exact ih n (i + 1) (by omega) (by omega) (by omega)
theorem F154.spec {k : Nat} {l : List Int} {v : Int} (hl : l.length ≤ 4611686018427387904) (hk : l.length < k) : F154.u k (l, v) = some (idxF (fun y => v == y) l 0) := by
  show F154.f k l v = _
  rw [F154.f, F154.b]
  exact F154.l0_spec hl l.length k 0 (by omega) (by omega) hk
theorem F116.spec {k : Nat} {l : List Int} {v : Int} (hl : l.length ≤ 4611686018427387904) (hk : l.length < k) : F116.u k (l, v) = some (l.any fun y => v == y) := by
  show F116.f (F154.u k) k l v = _
  rw [F116.f, F116.b, F154.spec hl hk, Option.bind_some, idxF_any]
theorem F178.spec {k : Nat} {l : List Int} {v : Int} (hl : l.length ≤ 4611686018427387904) (hk : l.length < k) : F178.u k (l, v) = some (l.any fun y => v == y) := by
  show F178.f (F116.u k) k _ _ = _
  rw [F178.f, F178.b, F116.spec hl hk]
  rfl
theorem F137.l0_spec {k : Nat} {l m : List Int} (hlm : l.length = m.length) (hl : l.length ≤ 4611686018427387904) (d : Nat) :
    ∀ (n i : Nat), i ≤ l.length → l.length - i = d → d < n → F137.l0 k n l m (l.length : Int) (i : Int) = some (l.drop i == m.drop i) := by
  induction d with
  | zero =>
    intro n i hi hd hn
    obtain ⟨n, rfl⟩ : ∃ m, n = m + 1 := ⟨n - 1, by omega⟩
    rw [F137.l0, F137.b_l0, decide_eq_false (by omega), cond_false, List.drop_of_length_le (by omega), List.drop_of_length_le (by omega)]
    rfl
  | succ d ih =>
    intro n i hi hd hn
    obtain ⟨n, rfl⟩ : ∃ m, n = m + 1 := ⟨n - 1, by omega⟩
    have hlt : i < l.length := by omega
    have hlt2 : i < m.length := by omega
    rw [F137.l0, F137.b_l0, decide_eq_true (by omega), cond_true, if_pos ⟨by omega, by omega⟩, if_pos ⟨by omega, by omega⟩, Int.toNat_natCast, getD_of hlt, getD_of hlt2, drop_cons hlt, drop_cons hlt2, bne]
    rw [show (l[i] :: l.drop (i + 1) == m[i] :: m.drop (i + 1)) = (l[i] == m[i] && l.drop (i + 1) == m.drop (i + 1)) from rfl]
    cases (l[i] == m[i]) with
    | false => rfl
    | true =>
      rw [Bool.not_true, cond_false, wrapN (by omega), Bool.true_and]
      exact ih n (i + 1) (by omega) (by omega) (by omega)
theorem F137.spec {k : Nat} {l m : List Int} (hl : l.length ≤ 4611686018427387904) (hk : l.length < k) : F137.u k (l, m) = some (l == m) := by
  show F137.f k l m = _
  rw [F137.f, F137.b]
  by_cases h : l.length = m.length
  · rw [show ((l.length : Int) != (m.length : Int)) = false by simp [h], cond_false]
    exact F137.l0_spec h hl l.length k 0 (by omega) (by omega) hk
  · rw [show ((l.length : Int) != (m.length : Int)) = true by simp; omega, cond_true]
    congr 1
    symm
    rw [beq_eq_false_iff_ne]
    rintro rfl
    exact h rfl
theorem F107.l0_spec {k : Nat} {l : List (List UInt8)} {v : (List UInt8)} (hl : l.length ≤ 4611686018427387904) (d : Nat) :
    ∀ (n i : Nat), i ≤ l.length → l.length - i = d → d < n → F107.l0 k n l v (l.length : Int) (i : Int) = some (idxF (fun y => v == y) (l.drop i) i) := by
  induction d with
  | zero =>
    intro n i hi hd hn
    obtain ⟨n, rfl⟩ : ∃ m, n = m + 1 := ⟨n - 1, by omega⟩
    rw [F107.l0, F107.b_l0, decide_eq_false (by omega), cond_false, List.drop_of_length_le (by omega)]
    rfl
  | succ d ih =>
    intro n i hi hd hn
    obtain ⟨n, rfl⟩ : ∃ m, n = m + 1 := ⟨n - 1, by omega⟩
    have hlt : i < l.length := by omega
    rw [F107.l0, F107.b_l0, decide_eq_true (by omega), cond_true, if_pos ⟨by omega, by omega⟩, Int.toNat_natCast, getD_of hlt, drop_cons hlt, idxF]
    cases (v == l[i]) with
    | true => rfl
    | false =>
      rw [cond_false, cond_false, wrapN (by omega)]
      exact ih n (i + 1) (by omega) (by omega) (by omega)
theorem F107.spec {k : Nat} {l : List (List UInt8)} {v : (List UInt8)} (hl : l.length ≤ 4611686018427387904) (hk : l.length < k) : F107.u k (l, v) = some (idxF (fun y => v == y) l 0) := by
  show F107.f k l v = _
  rw [F107.f, F107.b]
  exact F107.l0_spec hl l.length k 0 (by omega) (by omega) hk
theorem F153.spec {k : Nat} {l : List (List UInt8)} {v : (List UInt8)} (hl : l.length ≤ 4611686018427387904) (hk : l.length < k) : F153.u k (l, v) = some (l.any fun y => v == y) := by
  show F153.f (F107.u k) k l v = _
  rw [F153.f, F153.b, F107.spec hl hk, Option.bind_some, idxF_any]
theorem F112.spec {k : Nat} {l : List (List UInt8)} {v : List UInt8} (hl : l.length ≤ 4611686018427387904) (hk : l.length < k) : F112.u k (l, v) = some (l.any fun y => v == y) := by
  show F112.f (F153.u k) k _ _ = _
  rw [F112.f, F112.b, F153.spec hl hk]
  rfl
theorem F78.spec {k : Nat} {l : List X_Value} (hl : l.length * 96 ≤ LIM) : F78.u k l = some l := by
  show F78.f k l = _
  rw [F78.f, F78.b]
  have h : (if 0 ≤ (List.length ([] : List X_Value)) ∧ (0 + (List.length l)) * 96 ≤ LIM then some (List.take (List.length (List.append (List.take 0 ([] : List X_Value)) l)) (List.append (List.take 0 ([] : List X_Value)) l)) else none) = some l := by
    rw [if_pos ⟨by simp, by simpa using hl⟩]
    simp [List.take_length]
  rw [h]
  cases l with
  | nil => simp [agree]
  | cons a l => simp
theorem F69.spec3 (k : Nat) (a b : Int) : F69.u k (a, b) = some (a, b) := rfl
def ocd (all : List (List Int)) (i : Nat) (l : List Int) : Int :=
  bif (l.length : Int) == 0 then 10 else bif decide ((l.length : Int) > 40) then 2 else bif l.any (fun n => decide (n < 0)) then 4 else bif dupB l || (all.take i).any (fun m => hdI m == hdI l) then 8 else 0
/-- the reference -/
def heads (all : List (List Int)) : List Int := all.map hdI
abbrev rchk (k : Nat) := F158.l0 (F69.u k) (F178.u k) k
theorem rchk_in {k : Nat} {nx : X_Fault → List Int → List (List Int) → Int → Int → Option X_Fault} (hk : 17592186044420 < k) {all : List (List Int)} {i : Nat} {l : List Int} (hl : l.length ≤ 17592186044416) {hs : List Int} (R : Option X_Fault)
    (hR : ∀ n2 low, decide (low < 0) = l.any (fun n => decide (n < 0)) → F158.b_l2 (F69.u k) (F178.u k) n2 nx (0, 0) hs (i : Int) l (dupB l) low all (all.length : Int) (i : Int) l (l.length : Int) (l.length : Int) = R) (d : Nat) :
    ∀ (n j : Nat) (low : Int), j ≤ l.length → l.length - j = d → d < n → decide (low < 0) = (l.take j).any (fun n => decide (n < 0)) →
      F158.l2 (F69.u k) (F178.u k) k nx n (0, 0) hs (i : Int) l (dupTo l j) low all (all.length : Int) (i : Int) l (l.length : Int) (j : Int) = R := by
  induction d with
  | zero =>
    intro n j low hj hd hn hlow
    obtain ⟨n, rfl⟩ : ∃ m, n = m + 1 := ⟨n - 1, by omega⟩
    obtain rfl : j = l.length := by omega
    rw [List.take_length] at hlow
    rw [F158.l2]
    exact hR _ low hlow
  | succ d ih =>
    intro n j low hj hd hn hlow
    obtain ⟨n, rfl⟩ : ∃ m, n = m + 1 := ⟨n - 1, by omega⟩
    have hlt : j < l.length := by omega
    have hw := wrapN (show j < 9223372036854775807 by omega)
    have hlow' : decide ((if l[j] < low then l[j] else low) < 0) = (l.take (j + 1)).any (fun n => decide (n < 0)) := by
      rw [List.take_succ_eq_append_getElem hlt, List.any_append, ← hlow, List.any_cons, List.any_nil, Bool.or_false]
      rw [Bool.eq_iff_iff]
      simp only [Bool.or_eq_true, decide_eq_true_eq]
      split <;> omega
    have nx1 := ih n (j + 1) _ (by omega) (by omega) (by omega) hlow'
    rw [dupTo, getD_of hlt] at nx1
    generalize hmn : (if l[j] < low then l[j] else low) = mn at *
    have e17 := F178.spec (k := k) (l := l.take j) (v := l[j]) (by rw [List.length_take]; omega) (by rw [List.length_take]; omega)
    rw [F158.l2, F158.b_l2, decide_eq_true (by omega), cond_true, if_pos ⟨by omega, by omega⟩, Int.toNat_natCast, getD_of hlt, hw, List.take_length, hmn, if_pos ⟨by omega, by omega, by omega⟩]
    rw [show List.drop (Int.toNat 0) (List.take j l) = l.take j from rfl, e17, Option.bind_some]
    cases hd : dupTo l j with
    | true => rw [hd] at nx1; exact nx1
    | false => rw [hd, Bool.false_or] at nx1; exact nx1
theorem rchk_step {k n : Nat} (hk : 17592186044420 < k) {all : List (List Int)} (hl : all.length ≤ 8) (hok : ∀ l ∈ all, okI l) {i : Nat} (hi : i < all.length) :
    rchk k (n + 1) (0, 0) (heads (all.take i)) all (all.length : Int) (i : Int) = bif ocd all i all[i] != 0 then some (ocd all i all[i], (i : Int)) else rchk k n (0, 0) (heads (all.take (i + 1))) all (all.length : Int) ((i + 1 : Nat) : Int) := by
  have ho := hok _ (List.getElem_mem hi)
  have hw := wrapN (show i < 9223372036854775807 by omega)
  have hh : heads (all.take (i + 1)) = heads (all.take i) ++ [hdI all[i]] := by
    rw [heads, heads, List.take_succ_eq_append_getElem hi, List.map_append]; rfl
  rw [rchk, F158.l0, F158.b_l0, decide_eq_true (by omega), cond_true, if_pos ⟨by omega, by omega⟩, Int.toNat_natCast, getD_of hi, List.take_length, hh]
  generalize hp : all[i] = l at *
  have hlen : (heads (all.take i)).length = i := by rw [heads, List.length_map, List.length_take]; omega
  refine rchk_in (nx := fun x2 x3 x14 x15 x16 => F158.l0 (F69.u k) (F178.u k) k n x2 x3 x14 x15 x16) hk ho.1 _ (fun n2 low hlow => ?_) l.length k 0 0 (by omega) (by omega) (by have := ho.1; omega) rfl
  have e17 := F178.spec (k := k) (l := heads (all.take i)) (v := hdI l) (by omega) (by omega)
  rw [F158.b_l2, decide_eq_false (by omega), cond_false, hlow]
  simp only [F69.spec3, Option.bind_some, List.take_length, ocd]
  by_cases h0 : l = []
  · subst h0; rfl
  · have h1 := List.length_pos_iff.2 h0
    have hany : (heads (all.take i)).any (fun y => hdI l == y) = (all.take i).any (fun m => hdI m == hdI l) := by
      rw [heads, List.any_map]
      congr 1
      funext m
      exact Bool.beq_comm
    simp only [if_pos (show (0 : Int) ≤ 0 ∧ (0 : Int) < (l.length : Int) by omega), show List.getD l (Int.toNat 0) 0 = hdI l from rfl, e17, Option.bind_some, hany, hw]
    rw [if_pos ⟨Nat.le_refl _, by rw [hlen]; simp [LIM]; omega⟩]
    rw [show List.append (heads (List.take i all)) (List.take 1 [hdI l]) = heads (all.take i) ++ [hdI l] from rfl]
    generalize ((l.length : Int) == 0) = b1
    generalize decide ((l.length : Int) > 40) = b2
    generalize (l.any _) = b3
    generalize dupB l = b4
    generalize (List.any _ _) = b5
    cases b1 <;> cases b2 <;> cases b3 <;> cases b4 <;> cases b5 <;> rfl
theorem ocd_ok {all : List (List Int)} {i : Nat} {l : List Int} (h : (ocd all i l != 0) = false) : l ≠ [] ∧ l.length ≤ 40 ∧ (∀ n ∈ l, 0 ≤ n) ∧ dupB l = false ∧ (all.take i).any (fun m => hdI m == hdI l) = false := by
  unfold ocd at h
  by_cases h0 : l = []
  · subst h0; cases h
  · have h1 := List.length_pos_iff.2 h0
    rw [show ((l.length : Int) == 0) = false by rw [beq_eq_false_iff_ne]; omega, cond_false] at h
    by_cases h2 : (l.length : Int) > 40
    · rw [decide_eq_true h2] at h; cases h
    · rw [decide_eq_false h2, cond_false] at h
      cases h3 : l.any (fun n => decide (n < 0)) with
      | true => rw [h3] at h; cases h
      | false =>
        rw [h3, cond_false] at h
        cases h4 : dupB l with
        | true => rw [h4] at h; cases h
        | false =>
          rw [h4, Bool.false_or] at h
          cases h5 : (all.take i).any (fun m => hdI m == hdI l) with
          | true => rw [h5] at h; cases h
          | false =>
            refine ⟨h0, by omega, fun n hn => ?_, rfl, rfl⟩
            rw [List.any_eq_false] at h3
            have := h3 n hn
            simp at this
            exact this
/-- linearizations without fault, up to a place -/
def good (all : List (List Int)) (i : Nat) : Prop := ∀ j (h : j < all.length), j < i → (ocd all j all[j] != 0) = false
def inT (l : List (List Int)) (n : Int) : Bool := l.any fun x => (x.drop 1).any fun y => n == y
def freeB (l : List (List Int)) (x : List Int) : Bool := !inT l (hdI x)
def cnd (l : List (List Int)) : Option Int := (l.find? (freeB l)).map hdI
def pop1 (c : Int) (x : List Int) : List Int := bif hdI x == c then x.drop 1 else x
def popd (c : Int) (l : List (List Int)) : List (List Int) := l.map (pop1 c)
def ne (l : List (List Int)) : List (List Int) := l.filter fun y => !((y.length : Int) == 0)
def mrg : Nat → List Int → List (List Int) → Option (List Int × List (List Int))
  | 0, _, _ => none
  | n + 1, out, l => match cnd l with | none => some (out, l) | some c => mrg n (out ++ [c]) (ne (popd c l))
def tot (l : List (List Int)) : Nat := (l.map List.length).sum
/-- what the merging keeps -/
structure MOk (out : List Int) (l : List (List Int)) : Prop where
  len : l.length ≤ 9
  each : ∀ x ∈ l, x.length ≤ 40
  sum : out.length + tot l ≤ 400
theorem ne_mem {l : List (List Int)} {x : List Int} : x ∈ ne l ↔ x ∈ l ∧ x ≠ [] := by
  unfold ne
  rw [List.mem_filter]
  cases x <;> simp
  omega
theorem tot_ne (l : List (List Int)) : tot (ne l) = tot l := by
  induction l with
  | nil => rfl
  | cons x l ih =>
    unfold ne tot at ih ⊢
    rw [List.filter_cons]
    cases x with
    | nil => simpa using ih
    | cons a x =>
      rw [if_pos (by simp; omega), List.map_cons, List.map_cons, List.sum_cons, List.sum_cons, ih]
theorem pop1_len (c : Int) (x : List Int) : (pop1 c x).length ≤ x.length := by
  unfold pop1
  cases (hdI x == c) with
  | true => simp
  | false => simp
theorem tot_popd_le (c : Int) (l : List (List Int)) : tot (popd c l) ≤ tot l := by
  induction l with
  | nil => simp [popd, tot]
  | cons y l ih =>
    have := pop1_len c y
    simp only [popd, tot, List.map_cons, List.sum_cons] at ih ⊢
    omega
theorem tot_popd {c : Int} : ∀ {l : List (List Int)}, (∃ x ∈ l, x ≠ [] ∧ hdI x = c) → tot (popd c l) + 1 ≤ tot l
  | [], h => by obtain ⟨x, hx, _⟩ := h; simp at hx
  | y :: l, h => by
    simp only [popd, tot, List.map_cons, List.sum_cons]
    obtain ⟨x, hx, h1, h2⟩ := h
    have h3 := pop1_len c y
    have h4 := tot_popd_le c l
    simp only [popd, tot] at h4
    rcases List.mem_cons.1 hx with rfl | hx
    · have : (pop1 c x).length + 1 ≤ x.length := by
        unfold pop1
        rw [show (hdI x == c) = true by simpa using h2, cond_true, List.length_drop]
        have := List.length_pos_iff.2 h1
        omega
      omega
    · have := tot_popd (c := c) (l := l) ⟨x, hx, h1, h2⟩
      simp only [popd, tot] at this
      omega
theorem cnd_some {l : List (List Int)} {c : Int} (h : cnd l = some c) : ∃ x ∈ l, freeB l x = true ∧ hdI x = c := by
  unfold cnd at h
  rw [Option.map_eq_some_iff] at h
  obtain ⟨x, hx, rfl⟩ := h
  exact ⟨x, List.mem_of_find?_eq_some hx, List.find?_some hx, rfl⟩
theorem MOk.next {out : List Int} {l : List (List Int)} {c : Int} (h : MOk out l) (hne : ∀ x ∈ l, x ≠ []) (hc : cnd l = some c) : MOk (out ++ [c]) (popd c l) := by
  obtain ⟨x, hx, _, hxc⟩ := cnd_some hc
  have h1 := tot_popd ⟨x, hx, hne x hx, hxc⟩
  refine ⟨by rw [popd, List.length_map]; exact h.len, fun y hy => ?_, ?_⟩
  · obtain ⟨z, hz, rfl⟩ := List.mem_map.1 hy
    have := pop1_len c z
    have := h.each z hz
    omega
  · have := h.sum
    rw [List.length_append, List.length_singleton]
    omega
theorem MOk.ne {out : List Int} {l : List (List Int)} (h : MOk out l) : MOk out (ne l) := by
  refine ⟨Nat.le_trans (List.length_filter_le _ _) h.len, fun x hx => h.each x (ne_mem.1 hx).1, by rw [tot_ne]; exact h.sum⟩
theorem mrg_some : ∀ (n : Nat) (out : List Int) (l : List (List Int)), (∀ x ∈ l, x ≠ []) → tot l < n → ∃ r, mrg n out l = some r
  | 0, _, _, _, h => by omega
  | n + 1, out, l, hne, h => by
    unfold mrg
    cases hc : cnd l with
    | none => exact ⟨_, rfl⟩
    | some c =>
      obtain ⟨x, hx, _, hxc⟩ := cnd_some hc
      have h1 := tot_popd ⟨x, hx, hne x hx, hxc⟩
      exact mrg_some n _ _ (fun y hy => (ne_mem.1 hy).2) (by rw [tot_ne]; omega)
theorem inTail_l0 {k : Nat} (hk : 400 < k) {l : List (List Int)} (hl : l.length ≤ 9) (he : ∀ x ∈ l, x.length ≤ 40) (hne : ∀ x ∈ l, x ≠ []) (v : Int) (d : Nat) :
    ∀ (n j : Nat), j ≤ l.length → l.length - j = d → d < n → F179.l0 (F178.u k) k n v l (l.length : Int) (j : Int) = some (inT (l.drop j) v) := by
  induction d with
  | zero =>
    intro n j hj hd hn
    obtain ⟨n, rfl⟩ : ∃ m, n = m + 1 := ⟨n - 1, by omega⟩
    rw [F179.l0, F179.b_l0, decide_eq_false (by omega), cond_false, List.drop_of_length_le (by omega)]
    rfl
  | succ d ih =>
    intro n j hj hd hn
    obtain ⟨n, rfl⟩ : ∃ m, n = m + 1 := ⟨n - 1, by omega⟩
    have hlt : j < l.length := by omega
    have hn1 := List.length_pos_iff.2 (hne _ (List.getElem_mem hlt))
    have he1 := he _ (List.getElem_mem hlt)
    have e17 := F178.spec (k := k) (l := (l[j]).drop 1) (v := v) (by rw [List.length_drop]; omega) (by rw [List.length_drop]; omega)
    rw [F179.l0, F179.b_l0, decide_eq_true (by omega), cond_true, if_pos ⟨by omega, by omega⟩, Int.toNat_natCast, getD_of hlt, if_pos ⟨by omega, by omega, by omega⟩,
      Int.toNat_natCast, List.take_length, show List.drop (Int.toNat 1) l[j] = (l[j]).drop 1 from rfl, e17, Option.bind_some, wrapN (show j < 9223372036854775807 by omega), drop_cons hlt, inT, List.any_cons]
    have := ih n (j + 1) (by omega) (by omega) (by omega)
    rw [inT] at this
    rw [this]
    cases (List.any _ _) <;> rfl
theorem inTail_spec {k : Nat} (hk : 400 < k) {l : List (List Int)} (hl : l.length ≤ 9) (he : ∀ x ∈ l, x.length ≤ 40) (hne : ∀ x ∈ l, x ≠ []) (v : Int) : F179.u k (l, v) = some (inT l v) := by
  show F179.f _ k l v = _
  rw [F179.f, F179.b]
  exact inTail_l0 hk hl he hne v l.length k 0 (by omega) (by omega) (by omega)
def fndSt (l : List (List Int)) (i : Nat) : Option (List Int) := (l.take i).find? (freeB l)
abbrev rl4 (k : Nat) := F159.l4 (F179.u k) k
theorem rl4_in {k : Nat} {nx : List Int → List (List Int) → Option (List Int × List (List Int))} (hk : 400 < k) {l : List (List Int)} {out : List Int} (hl : l.length ≤ 9) (he : ∀ x ∈ l, x.length ≤ 40) (hne : ∀ x ∈ l, x ≠ []) (d : Nat) :
    ∀ (n i : Nat), i ≤ l.length → l.length - i = d → d < n → ∀ (v : Int) (b : Bool), (v, b) = (match fndSt l i with | none => (0, false) | some x => (hdI x, true)) →
      ∃ (v' : Int) (b' : Bool) (n2 : _), (v', b') = (match fndSt l l.length with | none => (0, false) | some x => (hdI x, true)) ∧
        rl4 k nx n out l v b (l.length : Int) (i : Int) = F159.b_l4 (F179.u k) n2 (F159.l6 (F179.u k) k nx k) out l v' b' (l.length : Int) (l.length : Int) := by
  induction d with
  | zero =>
    intro n i hi hd hn v b hvb
    obtain ⟨n, rfl⟩ : ∃ m, n = m + 1 := ⟨n - 1, by omega⟩
    obtain rfl : i = l.length := by omega
    exact ⟨v, b, _, hvb, rfl⟩
  | succ d ih =>
    intro n i hi hd hn v b hvb
    obtain ⟨n, rfl⟩ : ∃ m, n = m + 1 := ⟨n - 1, by omega⟩
    have hlt : i < l.length := by omega
    have hn1 := List.length_pos_iff.2 (hne _ (List.getElem_mem hlt))
    have hst : fndSt l (i + 1) = (fndSt l i).or (bif freeB l l[i] then some l[i] else none) := by
      unfold fndSt
      rw [List.take_succ_eq_append_getElem hlt, List.find?_append]
      congr 1
    have nx1 := ih n (i + 1) (by omega) (by omega) (by omega)
    rw [rl4, F159.l4, F159.b_l4, decide_eq_true (by omega), cond_true, if_pos ⟨by omega, by omega⟩]
    simp only [List.take_length, Nat.zero_add, Int.toNat_natCast, getD_of hlt, wrapN (show i < 9223372036854775807 by omega), if_pos (show (0 : Int) ≤ 0 ∧ (0 : Int) < ((l[i]).length : Int) by omega), show List.getD l[i] (Int.toNat 0) 0 = hdI l[i] from rfl,
      inTail_spec hk hl he hne, Option.bind_some, if_true]
    have hf : freeB l l[i] = !inT l (hdI l[i]) := rfl
    cases hfs : fndSt l i with
    | some x =>
      rw [hfs] at hvb hst
      cases hvb
      simp only [Bool.not_true, cond_false]
      exact nx1 _ _ (by rw [hst]; rfl)
    | none =>
      rw [hfs] at hvb hst
      cases hvb
      rw [hf] at hst
      simp only [Bool.not_false, cond_true]
      cases ht : inT l (hdI l[i]) with
      | true =>
        simp only [Bool.not_true, cond_false]
        rw [ht] at hst
        exact nx1 _ _ (by rw [hst]; rfl)
      | false =>
        simp only [Bool.not_false, cond_true]
        rw [ht] at hst
        exact nx1 _ _ (by rw [hst]; rfl)
theorem rl6_in {k : Nat} {nx : List Int → List (List Int) → Option (List Int × List (List Int))} {c : Int} {l : List (List Int)} {out : List Int} (hk : 0 < k) (hl : l.length ≤ 9) (hne : ∀ x ∈ l, x ≠ []) (d : Nat) :
    ∀ (n i : Nat), i ≤ l.length → l.length - i = d → d < n → F159.l6 (F179.u k) k nx n out c (ne (popd c (l.take i))) l (l.length : Int) (i : Int) = nx out (ne (popd c l)) := by
  induction d with
  | zero =>
    intro n i hi hd hn
    obtain ⟨n, rfl⟩ : ∃ m, n = m + 1 := ⟨n - 1, by omega⟩
    obtain rfl : i = l.length := by omega
    rw [F159.l6, F159.b_l6, decide_eq_false (by omega), cond_false]
    simp only [List.take_length]
  | succ d ih =>
    intro n i hi hd hn
    obtain ⟨n, rfl⟩ : ∃ m, n = m + 1 := ⟨n - 1, by omega⟩
    have hlt : i < l.length := by omega
    have hn1 := List.length_pos_iff.2 (hne _ (List.getElem_mem hlt))
    have nx1 := ih n (i + 1) (by omega) (by omega) (by omega)
    have hrl : (ne (popd c (l.take i))).length ≤ 9 := by
      refine Nat.le_trans (List.length_filter_le _ _) ?_
      rw [popd, List.length_map, List.length_take]; omega
    have hst : ne (popd c (l.take (i + 1))) = ne (popd c (l.take i)) ++ ne [pop1 c l[i]] := by
      rw [List.take_succ_eq_append_getElem hlt, popd, List.map_append, ne, List.filter_append]; rfl
    rw [F159.l6, F159.b_l6, decide_eq_true (by omega), cond_true, if_pos ⟨by omega, by omega⟩]
    simp only [List.take_length, Nat.zero_add, Int.toNat_natCast, getD_of hlt, wrapN (show i < 9223372036854775807 by omega), if_pos (show (0 : Int) ≤ 0 ∧ (0 : Int) < ((l[i]).length : Int) by omega), show List.getD l[i] (Int.toNat 0) 0 = hdI l[i] from rfl,
      if_pos (show (0 : Int) ≤ 1 ∧ (1 : Int) ≤ ((l[i]).length : Int) ∧ ((l[i]).length : Int) ≤ ((l[i]).length : Int) by omega), show List.drop (Int.toNat 1) l[i] = (l[i]).drop 1 from rfl]
    have g27 : ∀ x : List Int, x ≠ [] → pop1 c l[i] = x → F159.g27 (F179.u k) k nx (fun x2 x7 x11 x69 x70 x71 => F159.l6 (F179.u k) k nx n x2 x7 x11 x69 x70 x71) out c (ne (popd c (l.take i))) x l (l.length : Int) (i : Int) = nx out (ne (popd c l)) := by
      intro x hx hp
      rw [F159.g27, gate_pos hk, F159.b_g27, if_pos ⟨Nat.le_refl _, by simp [LIM]; omega⟩]
      simp only [List.take_length, wrapN (show i < 9223372036854775807 by omega)]
      rw [hp, show ne [x] = [x] by cases x with | nil => exact absurd rfl hx | cons a x => simp [ne]] at hst
      rw [hst] at nx1
      exact nx1
    have skip : pop1 c l[i] = [] → F159.l6 (F179.u k) k nx n out c (ne (popd c (l.take i))) l (l.length : Int) ((i + 1 : Nat) : Int) = nx out (ne (popd c l)) := by
      intro hp
      rw [hp, show ne [[]] = [] from rfl, List.append_nil] at hst
      rw [hst] at nx1
      exact nx1
    cases hc : (hdI l[i] == c) with
    | true =>
      have hp : pop1 c l[i] = (l[i]).drop 1 := by rw [pop1, hc, cond_true]
      rw [cond_true]
      by_cases h0 : (l[i]).drop 1 = []
      · rw [h0] at hp
        rw [h0]
        exact skip hp
      · have := List.length_pos_iff.2 h0
        rw [decide_eq_true (by omega), cond_true]
        exact g27 _ h0 hp
    | false =>
      have hp : pop1 c l[i] = l[i] := by rw [pop1, hc, cond_false]
      rw [cond_false, decide_eq_true (by omega), cond_true]
      exact g27 _ (hne _ (List.getElem_mem hlt)) hp
theorem rl2_eq {k : Nat} (hk : 400 < k) : ∀ (n : Nat) (out : List Int) (l : List (List Int)), MOk out l → (∀ x ∈ l, x ≠ []) → F159.l2 (F179.u k) k n out l = mrg n out l
  | 0, _, _, _, _ => rfl
  | n + 1, out, l, h, hne => by
    have hs := h.sum
    rw [F159.l2, F159.b_l2, mrg]
    by_cases h0 : l = []
    · subst h0
      rw [decide_eq_false (by simp), cond_false, List.take_length]
      rfl
    · have h1 := List.length_pos_iff.2 h0
      rw [decide_eq_true (by omega), cond_true, if_pos rfl]
      simp only [List.take_length]
      obtain ⟨v', b', n2, hvb, e⟩ := rl4_in (nx := fun x2 x3 => F159.l2 (F179.u k) k n x2 x3) hk h.len h.each hne (out := out) l.length k 0 (by omega) (by omega) (by have := h.len; omega) 0 false rfl
      refine (show _ = _ from e).trans ?_
      rw [F159.b_l4, decide_eq_false (by omega), cond_false]
      simp only [List.take_length]
      have hf : fndSt l l.length = l.find? (freeB l) := by rw [fndSt, List.take_length]
      rw [hf] at hvb
      have hcn : cnd l = (l.find? (freeB l)).map hdI := rfl
      cases hfd : l.find? (freeB l) with
      | none =>
        rw [hfd] at hvb hcn
        cases hvb
        rw [hcn]
        rfl
      | some x =>
        rw [hfd] at hvb hcn
        cases hvb
        rw [hcn, Bool.not_true, cond_false, if_pos ⟨Nat.le_refl _, by simp [LIM]; omega⟩]
        have hm := h.next hne hcn
        have e6 := rl6_in (k := k) (nx := fun x2 x3 => F159.l2 (F179.u k) k n x2 x3) (c := hdI x) (l := l) (out := out ++ [hdI x]) (by omega) h.len hne l.length k 0 (by omega) (by omega) (by have := h.len; omega)
        refine (show _ = _ from e6).trans ?_
        exact rl2_eq hk n _ _ hm.ne (fun y hy => (ne_mem.1 hy).2)
def ini (all : List (List Int)) : List (List Int) := ne (all ++ [heads all])
theorem ne_self {l : List (List Int)} (h : ∀ x ∈ l, x ≠ []) : ne l = l := by
  rw [ne, List.filter_eq_self]
  intro x hx
  cases x with
  | nil => exact absurd rfl (h _ hx)
  | cons a x => simp; omega
theorem good_mem {all : List (List Int)} (h : good all all.length) : ∀ l ∈ all, l ≠ [] ∧ l.length ≤ 40 := by
  intro l hl
  obtain ⟨i, hi, rfl⟩ := List.mem_iff_getElem.1 hl
  have := ocd_ok (h i hi hi)
  exact ⟨this.1, this.2.1⟩
theorem tot_le : ∀ (l : List (List Int)) (m : Nat), (∀ x ∈ l, x.length ≤ m) → tot l ≤ l.length * m
  | [], m, _ => by simp [tot]
  | x :: l, m, h => by
    have h1 := tot_le l m fun y hy => h y (List.mem_cons_of_mem _ hy)
    have h2 := h x List.mem_cons_self
    simp only [tot, List.map_cons, List.sum_cons, List.length_cons, Nat.succ_mul] at h1 ⊢
    omega
theorem MOk.start {all : List (List Int)} (hl : all.length ≤ 8) (h : good all all.length) : MOk [] (all ++ [heads all]) := by
  have hg := good_mem h
  have hh : (heads all).length = all.length := by rw [heads, List.length_map]
  refine ⟨by simp; omega, fun x hx => ?_, ?_⟩
  · rcases List.mem_append.1 hx with hx | hx
    · exact (hg x hx).2
    · rw [List.mem_singleton.1 hx, hh]; omega
  · have h1 := tot_le all 40 fun x hx => (hg x hx).2
    simp only [tot, List.map_append, List.sum_append, List.map_cons, List.map_nil, List.sum_cons, List.sum_nil, List.length_nil] at h1 ⊢
    omega
theorem merged_spec {k : Nat} (hk : 400 < k) {all : List (List Int)} (hl : all.length ≤ 8) (hg : good all all.length) : F159.u k all = mrg k [] (ini all) := by
  have hne : ∀ x ∈ all, x ≠ [] := fun x hx => (good_mem hg x hx).1
  have hst := MOk.start hl hg
  show F159.f _ k all = _
  rw [F159.f, F159.b]
  have key : ∀ (d n i : Nat), i ≤ all.length → all.length - i = d → d < n → F159.l0 (F179.u k) k n [] (all.take i) (heads (all.take i)) all (all.length : Int) (i : Int) = mrg k [] (ini all) := by
    intro d
    induction d with
    | zero =>
      intro n i hi hd hn
      obtain ⟨n, rfl⟩ : ∃ m, n = m + 1 := ⟨n - 1, by omega⟩
      obtain rfl : i = all.length := by omega
      rw [F159.l0, F159.b_l0, decide_eq_false (by omega), cond_false]
      simp only [List.take_length]
      have hh : (heads all).length = all.length := by rw [heads, List.length_map]
      by_cases h0 : all = []
      · subst h0
        rw [decide_eq_false (by simp [heads]), cond_false]
        exact rl2_eq hk k [] [] ⟨by simp, by simp, by simp [tot]⟩ (by simp)
      · have h1 := List.length_pos_iff.2 h0
        rw [decide_eq_true (by omega), cond_true, if_pos ⟨Nat.le_refl _, by simp [LIM]; omega⟩]
        have hall : ∀ x ∈ all ++ [heads all], x ≠ [] := by
          intro x hx
          rcases List.mem_append.1 hx with hx | hx
          · exact hne x hx
          · rw [List.mem_singleton.1 hx]; exact List.ne_nil_of_length_pos (by omega)
        have := rl2_eq hk k [] (all ++ [heads all]) hst hall
        rw [ini, ne_self hall]
        exact this
    | succ d ih =>
      intro n i hi hd hn
      obtain ⟨n, rfl⟩ : ∃ m, n = m + 1 := ⟨n - 1, by omega⟩
      have hlt : i < all.length := by omega
      have hn1 := List.length_pos_iff.2 (hne _ (List.getElem_mem hlt))
      have hh : heads (all.take (i + 1)) = heads (all.take i) ++ [hdI all[i]] := by
        rw [heads, heads, List.take_succ_eq_append_getElem hlt, List.map_append]; rfl
      have ht : all.take (i + 1) = all.take i ++ [all[i]] := List.take_succ_eq_append_getElem hlt
      have hhl : (heads (all.take i)).length ≤ 8 := by rw [heads, List.length_map, List.length_take]; omega
      have htl : (all.take i).length ≤ 8 := by rw [List.length_take]; omega
      have nx1 := ih n (i + 1) (by omega) (by omega) (by omega)
      rw [F159.l0, F159.b_l0, decide_eq_true (by omega), cond_true, if_pos ⟨by omega, by omega⟩, Int.toNat_natCast, getD_of hlt, if_pos ⟨Nat.le_refl _, by simp only [LIM, List.length_take, List.length_cons, List.length_nil]; omega⟩, if_pos ⟨by omega, by omega⟩, if_pos ⟨Nat.le_refl _, by simp [LIM]; omega⟩]
      rw [wrapN (show i < 9223372036854775807 by omega)]
      generalize all.take i = t at *
      simp only [List.take_length]
      rw [hh, ht] at nx1
      exact nx1
  exact key all.length k 0 (by omega) (by omega) (by omega)
end Go.Ab
