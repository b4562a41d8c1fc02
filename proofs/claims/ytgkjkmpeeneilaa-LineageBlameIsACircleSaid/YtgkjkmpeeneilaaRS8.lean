/- A part of the proof: RS8. -/
import Derived.Test.YtgkjkmpeeneilaaRS7
namespace Go.Ab
set_option linter.unusedVariables false
set_option linter.unusedSimpArgs false
def inT (l : List (List Int)) (n : Int) : Bool := l.any fun x => (x.drop 1).any fun y => n == y
def freeB (l : List (List Int)) (x : List Int) : Bool := !inT l (hdI x)
def cnd (l : List (List Int)) : Option Int := (l.find? (freeB l)).map hdI
def pop1 (c : Int) (x : List Int) : List Int := bif hdI x == c then x.drop 1 else x
def popd (c : Int) (l : List (List Int)) : List (List Int) := l.map (pop1 c)
def ne (l : List (List Int)) : List (List Int) := l.filter fun y => !((y.length : Int) == 0)
def mrg : Nat → List Int → List (List Int) → Option (List Int × List (List Int))
  | 0, _, _ => none
  | n + 1, out, l => match cnd l with | none => some (out, l) | some c => mrg n (out ++ [c]) (ne (popd c l))
def tot (l : List (List Int)) : Nat := (l.map List.length).sum
/-- what the merging keeps -/
structure MOk (out : List Int) (l : List (List Int)) : Prop where
  len : l.length ≤ 9
  each : ∀ x ∈ l, x.length ≤ 40
  sum : out.length + tot l ≤ 400
theorem ne_mem {l : List (List Int)} {x : List Int} : x ∈ ne l ↔ x ∈ l ∧ x ≠ [] := by
  unfold ne
  rw [List.mem_filter]
  cases x <;> simp
  omega
theorem tot_ne (l : List (List Int)) : tot (ne l) = tot l := by
  induction l with
  | nil => rfl
  | cons x l ih =>
    unfold ne tot at ih ⊢
    rw [List.filter_cons]
    cases x with
    | nil => simpa using ih
    | cons a x =>
      rw [if_pos (by simp; omega), List.map_cons, List.map_cons, List.sum_cons, List.sum_cons, ih]
theorem pop1_len (c : Int) (x : List Int) : (pop1 c x).length ≤ x.length := by
  unfold pop1
  cases (hdI x == c) with
  | true => simp
  | false => simp
theorem tot_popd_le (c : Int) (l : List (List Int)) : tot (popd c l) ≤ tot l := by
  induction l with
  | nil => simp [popd, tot]
  | cons y l ih =>
    have := pop1_len c y
    simp only [popd, tot, List.map_cons, List.sum_cons] at ih ⊢
    omega
theorem tot_popd {c : Int} : ∀ {l : List (List Int)}, (∃ x ∈ l, x ≠ [] ∧ hdI x = c) → tot (popd c l) + 1 ≤ tot l
  | [], h => by obtain ⟨x, hx, _⟩ := h; simp at hx
  | y :: l, h => by
    simp only [popd, tot, List.map_cons, List.sum_cons]
    obtain ⟨x, hx, h1, h2⟩ := h
    have h3 := pop1_len c y
    have h4 := tot_popd_le c l
    simp only [popd, tot] at h4
    rcases List.mem_cons.1 hx with rfl | hx
    · have : (pop1 c x).length + 1 ≤ x.length := by
        unfold pop1
        rw [show (hdI x == c) = true by simpa using h2, cond_true, List.length_drop]
        have := List.length_pos_iff.2 h1
        omega
      omega
    · have := tot_popd (c := c) (l := l) ⟨x, hx, h1, h2⟩
      simp only [popd, tot] at this
      omega
theorem cnd_some {l : List (List Int)} {c : Int} (h : cnd l = some c) : ∃ x ∈ l, freeB l x = true ∧ hdI x = c := by
  unfold cnd at h
  rw [Option.map_eq_some_iff] at h
  obtain ⟨x, hx, rfl⟩ := h
  exact ⟨x, List.mem_of_find?_eq_some hx, List.find?_some hx, rfl⟩
theorem MOk.next {out : List Int} {l : List (List Int)} {c : Int} (h : MOk out l) (hne : ∀ x ∈ l, x ≠ []) (hc : cnd l = some c) : MOk (out ++ [c]) (popd c l) := by
  obtain ⟨x, hx, _, hxc⟩ := cnd_some hc
  have h1 := tot_popd ⟨x, hx, hne x hx, hxc⟩
  refine ⟨by rw [popd, List.length_map]; exact h.len, fun y hy => ?_, ?_⟩
  · obtain ⟨z, hz, rfl⟩ := List.mem_map.1 hy
    have := pop1_len c z
    have := h.each z hz
    omega
  · have := h.sum
    rw [List.length_append, List.length_singleton]
    omega
theorem MOk.ne {out : List Int} {l : List (List Int)} (h : MOk out l) : MOk out (ne l) := by
  refine ⟨Nat.le_trans (List.length_filter_le _ _) h.len, fun x hx => h.each x (ne_mem.1 hx).1, by rw [tot_ne]; exact h.sum⟩
theorem mrg_some : ∀ (n : Nat) (out : List Int) (l : List (List Int)), (∀ x ∈ l, x ≠ []) → tot l < n → ∃ r, mrg n out l = some r
  | 0, _, _, _, h => by omega
  | n + 1, out, l, hne, h => by
    unfold mrg
    cases hc : cnd l with
    | none => exact ⟨_, rfl⟩
    | some c =>
      obtain ⟨x, hx, _, hxc⟩ := cnd_some hc
      have h1 := tot_popd ⟨x, hx, hne x hx, hxc⟩
      exact mrg_some n _ _ (fun y hy => (ne_mem.1 hy).2) (by rw [tot_ne]; omega)
/-! candidate -/
abbrev cand0 (k : Nat) := f_lineage_candidate.l0 (f_slices_Contains_int.u k) k
theorem cand_in {k : Nat} {nx : List (List Int) → List (List Int) → Int → Int → Option (Int × Bool)} (hk : 400 < k) {l : List (List Int)} (hl : l.length ≤ 9) (he : ∀ x ∈ l, x.length ≤ 40) (hne : ∀ x ∈ l, x ≠ []) {x : List Int} (hx : x ≠ []) (i : Nat) (d : Nat) :
    ∀ (n j : Nat), j ≤ l.length → l.length - j = d → d < n → f_lineage_candidate.l2 (f_slices_Contains_int.u k) k nx n l x l (l.length : Int) (i : Int) l (l.length : Int) (j : Int) =
      bif inT (l.drop j) (hdI x) then nx l l (l.length : Int) (IntKind.i64.wrap ((i : Int) + 1)) else some (hdI x, true) := by
  have hx1 := List.length_pos_iff.2 hx
  induction d with
  | zero =>
    intro n j hj hd hn
    obtain ⟨n, rfl⟩ : ∃ m, n = m + 1 := ⟨n - 1, by omega⟩
    rw [f_lineage_candidate.l2, f_lineage_candidate.b_l2, decide_eq_false (by omega), cond_false, List.drop_of_length_le (by omega), if_pos ⟨by omega, by omega⟩]
    rfl
  | succ d ih =>
    intro n j hj hd hn
    obtain ⟨n, rfl⟩ : ∃ m, n = m + 1 := ⟨n - 1, by omega⟩
    have hlt : j < l.length := by omega
    have hn1 := List.length_pos_iff.2 (hne _ (List.getElem_mem hlt))
    have he1 := he _ (List.getElem_mem hlt)
    have e43 := f_slices_Contains_int.spec (k := k) (l := (l[j]).drop 1) (v := hdI x) (by rw [List.length_drop]; omega) (by rw [List.length_drop]; omega)
    rw [f_lineage_candidate.l2, f_lineage_candidate.b_l2, decide_eq_true (by omega), cond_true, if_pos ⟨by omega, by omega⟩, Int.toNat_natCast, getD_of hlt, if_pos ⟨by omega, by omega, by omega⟩, if_pos ⟨by omega, by omega⟩,
      Int.toNat_natCast, List.take_length, show List.drop (Int.toNat 1) l[j] = (l[j]).drop 1 from rfl, show List.getD x (Int.toNat 0) 0 = hdI x from rfl, e43, Option.bind_some, wrapN (show j < 9223372036854775807 by omega), drop_cons hlt, inT, List.any_cons]
    have := ih n (j + 1) (by omega) (by omega) (by omega)
    rw [inT] at this
    rw [this]
    cases (List.any _ _) <;> rfl
theorem cand_out {k : Nat} (hk : 400 < k) {l : List (List Int)} (hl : l.length ≤ 9) (he : ∀ x ∈ l, x.length ≤ 40) (hne : ∀ x ∈ l, x ≠ []) (d : Nat) :
    ∀ (n i : Nat), i ≤ l.length → l.length - i = d → d < n → cand0 k n l l (l.length : Int) (i : Int) = some (match (l.drop i).find? (freeB l) with | none => (0, false) | some x => (hdI x, true)) := by
  induction d with
  | zero =>
    intro n i hi hd hn
    obtain ⟨n, rfl⟩ : ∃ m, n = m + 1 := ⟨n - 1, by omega⟩
    rw [cand0, f_lineage_candidate.l0, f_lineage_candidate.b_l0, decide_eq_false (by omega), cond_false, List.drop_of_length_le (by omega)]
    rfl
  | succ d ih =>
    intro n i hi hd hn
    obtain ⟨n, rfl⟩ : ∃ m, n = m + 1 := ⟨n - 1, by omega⟩
    have hlt : i < l.length := by omega
    rw [cand0, f_lineage_candidate.l0, f_lineage_candidate.b_l0, decide_eq_true (by omega), cond_true, if_pos ⟨by omega, by omega⟩, Int.toNat_natCast, getD_of hlt, drop_cons hlt, List.find?_cons]
    rw [show (0 : Int) = ((0 : Nat) : Int) from rfl, cand_in hk hl he hne (hne _ (List.getElem_mem hlt)) i l.length k 0 (by omega) (by omega) (by omega), List.drop_zero, wrapN (by omega)]
    have hf : freeB l l[i] = !inT l (hdI l[i]) := rfl
    rw [hf]
    cases inT l (hdI l[i]) with
    | true => exact ih n (i + 1) (by omega) (by omega) (by omega)
    | false => rfl
theorem cand_spec {k : Nat} (hk : 400 < k) {l : List (List Int)} (hl : l.length ≤ 9) (he : ∀ x ∈ l, x.length ≤ 40) (hne : ∀ x ∈ l, x ≠ []) : f_lineage_candidate.u k l = some (match cnd l with | none => (0, false) | some c => (c, true)) := by
  show f_lineage_candidate.f _ k l = _
  rw [f_lineage_candidate.f, f_lineage_candidate.b]
  have := cand_out hk hl he hne l.length k 0 (by omega) (by omega) (by omega)
  rw [cand0] at this
  refine this.trans ?_
  rw [List.drop_zero, cnd]
  cases l.find? (freeB l) <;> rfl
/-! merge -/
def popSt (c : Int) (y : List (List Int)) (i : Nat) : List (List Int) := (popd c y).take i ++ y.drop i
theorem popSt_len (c : Int) (y : List (List Int)) (i : Nat) (h : i ≤ y.length) : (popSt c y i).length = y.length := by
  rw [popSt, List.length_append, List.length_take, popd, List.length_map, List.length_drop]; omega
theorem popSt_get (c : Int) (y : List (List Int)) (i : Nat) (h : i < y.length) : (popSt c y i).getD i [] = y[i] := by
  have hl := popSt_len c y i (by omega)
  rw [getD_of (by rw [hl]; exact h)]
  simp only [popSt]
  rw [List.getElem_append_right (by rw [List.length_take, popd, List.length_map]; omega)]
  simp only [List.getElem_drop]
  congr 1
  rw [List.length_take, popd, List.length_map]; omega
theorem popSt_set (c : Int) (y : List (List Int)) (i : Nat) (h : i < y.length) : (popSt c y i).set i (pop1 c y[i]) = popSt c y (i + 1) := by
  have hpl : (popd c y).length = y.length := by rw [popd, List.length_map]
  unfold popSt
  rw [List.set_append_right _ _ (by rw [List.length_take]; omega), List.length_take, Nat.min_eq_left (by omega), Nat.sub_self, drop_cons h, List.set_cons_zero, List.take_succ_eq_append_getElem (by omega), List.append_assoc]
  congr 2
  simp [popd]
theorem popSt_same (c : Int) (y : List (List Int)) (i : Nat) (h : i < y.length) (hc : pop1 c y[i] = y[i]) : popSt c y i = popSt c y (i + 1) := by
  rw [← popSt_set c y i h, hc]
  have hl := popSt_len c y i (by omega)
  have hg := popSt_get c y i h
  rw [getD_of (by omega)] at hg
  rw [← hg, List.set_getElem_self]
abbrev mrg0 (k : Nat) := f_lineage_merge.l0 (f_slices_DeleteFunc_Lint.u k) (f_lineage_merge_c1.u k) (f_lineage_candidate.u k) k
theorem mrg_in {k : Nat} {nx : List (List Int) → List Int → Option (List Int × List (List Int))} {c : Int} {y : List (List Int)} {out : List Int} (hl : y.length ≤ 9) (hne : ∀ x ∈ y, x ≠ []) (d : Nat) :
    ∀ (n i : Nat), i ≤ y.length → y.length - i = d → d < n → f_lineage_merge.l2 (f_slices_DeleteFunc_Lint.u k) (f_lineage_merge_c1.u k) (f_lineage_candidate.u k) k nx n (popSt c y i) out c (y.length : Int) (i : Int) = nx (popd c y) out := by
  induction d with
  | zero =>
    intro n i hi hd hn
    obtain ⟨n, rfl⟩ : ∃ m, n = m + 1 := ⟨n - 1, by omega⟩
    obtain rfl : i = y.length := by omega
    rw [f_lineage_merge.l2, f_lineage_merge.b_l2, decide_eq_false (by omega), cond_false, List.take_length, List.take_length]
    rw [popSt, List.drop_length, List.append_nil, List.take_of_length_le (by rw [popd, List.length_map]; omega)]
  | succ d ih =>
    intro n i hi hd hn
    obtain ⟨n, rfl⟩ : ∃ m, n = m + 1 := ⟨n - 1, by omega⟩
    have hlt : i < y.length := by omega
    have hsl := popSt_len c y i (by omega)
    have hn1 := List.length_pos_iff.2 (hne _ (List.getElem_mem hlt))
    have nx1 := ih n (i + 1) (by omega) (by omega) (by omega)
    rw [f_lineage_merge.l2, f_lineage_merge.b_l2, decide_eq_true (by omega), cond_true, if_pos ⟨by omega, by omega⟩, Nat.zero_add, Int.toNat_natCast, popSt_get c y i hlt, if_pos ⟨by omega, by omega⟩, if_pos ⟨by omega, by omega, by omega⟩, if_pos ⟨by omega, by omega⟩,
      if_pos rfl, if_pos rfl, List.take_length, Int.toNat_natCast, List.take_length, List.take_length, wrapN (by omega), show List.getD y[i] (Int.toNat 0) 0 = hdI y[i] from rfl, show List.drop (Int.toNat 1) y[i] = (y[i]).drop 1 from rfl]
    cases hc : (hdI y[i] == c) with
    | true =>
      rw [cond_true]
      have hp : (y[i]).drop 1 = pop1 c y[i] := by rw [pop1, hc, cond_true]
      rw [hp, ← hsl]
      have e : (popSt c y i).length = ((popSt c y i).set i (pop1 c y[i])).length := by rw [List.length_set]
      rw [e, List.take_length, popSt_set c y i hlt, popSt_len c y (i + 1) (by omega)]
      exact nx1
    | false =>
      rw [cond_false, popSt_same c y i hlt (by rw [pop1, hc, cond_false])]
      exact nx1
theorem mrg_eq {k : Nat} (hk : 400 < k) : ∀ (n : Nat) (out : List Int) (x : List (List Int)), MOk out x → mrg0 k n x out = mrg n out (ne x)
  | 0, _, _, _ => rfl
  | n + 1, out, x, h => by
    have hne : ∀ y ∈ ne x, y ≠ [] := fun y hy => (ne_mem.1 hy).2
    have h2 := h.ne
    have e69 := f_slices_DeleteFunc_Lint.spec (k := k) (l := x) (f := fun z1 => (f_lineage_merge_c1.u k z1.1).bind some) (p := fun y => (y.length : Int) == 0) (fun y _ => rfl) (by have := h.len; omega) (by have := h.len; omega)
    have e69' : f_slices_DeleteFunc_Lint.u k (x, fun z1 => (f_lineage_merge_c1.u k z1.1).bind some) = some (ne x) := e69
    rw [mrg0, f_lineage_merge.l0, f_lineage_merge.b_l0, List.take_length, e69', Option.bind_some, List.take_length, cand_spec hk h2.len h2.each hne, Option.bind_some, mrg]
    cases hc : cnd (ne x) with
    | none => dsimp only; rw [List.take_length]; rfl
    | some c =>
      dsimp only
      have hm := h2.next hne hc
      have hs := h2.sum
      rw [Bool.not_true, cond_false, if_pos ⟨Nat.le_refl _, by simp [LIM]; omega⟩, if_pos rfl]
      simp only [List.take_length]
      rw [show List.append out (List.take 1 [c]) = out ++ [c] from rfl]
      have e0 : ne x = popSt c (ne x) 0 := by rw [popSt, List.take_zero, List.nil_append, List.drop_zero]
      have := mrg_in (k := k) (nx := fun x0 x4 => f_lineage_merge.l0 (f_slices_DeleteFunc_Lint.u k) (f_lineage_merge_c1.u k) (f_lineage_candidate.u k) k n x0 x4) (c := c) (y := ne x) (out := out ++ [c]) h2.len hne (ne x).length k 0 (by omega) (by omega) (by have := h2.len; omega)
      rw [← e0] at this
      refine this.trans ?_
      exact mrg_eq hk n (out ++ [c]) (popd c (ne x)) hm
theorem merge_spec {k : Nat} (hk : 400 < k) {x : List (List Int)} (h : MOk [] x) : f_lineage_merge.u k x = mrg k [] (ne x) := by
  show f_lineage_merge.f _ _ _ k x = _
  rw [f_lineage_merge.f, f_lineage_merge.b, List.take_length]
  exact mrg_eq hk k [] x h
/-! the reference -/
theorem inTail_l0 {k : Nat} (hk : 400 < k) {l : List (List Int)} (hl : l.length ≤ 9) (he : ∀ x ∈ l, x.length ≤ 40) (hne : ∀ x ∈ l, x ≠ []) (v : Int) (d : Nat) :
    ∀ (n j : Nat), j ≤ l.length → l.length - j = d → d < n → f_ref7_inTail.l0 (f_ref7_HasInt.u k) k n v l (l.length : Int) (j : Int) = some (inT (l.drop j) v) := by
  induction d with
  | zero =>
    intro n j hj hd hn
    obtain ⟨n, rfl⟩ : ∃ m, n = m + 1 := ⟨n - 1, by omega⟩
    rw [f_ref7_inTail.l0, f_ref7_inTail.b_l0, decide_eq_false (by omega), cond_false, List.drop_of_length_le (by omega)]
    rfl
  | succ d ih =>
    intro n j hj hd hn
    obtain ⟨n, rfl⟩ : ∃ m, n = m + 1 := ⟨n - 1, by omega⟩
    have hlt : j < l.length := by omega
    have hn1 := List.length_pos_iff.2 (hne _ (List.getElem_mem hlt))
    have he1 := he _ (List.getElem_mem hlt)
    have e17 := f_ref7_HasInt.spec (k := k) (l := (l[j]).drop 1) (v := v) (by rw [List.length_drop]; omega) (by rw [List.length_drop]; omega)
    rw [f_ref7_inTail.l0, f_ref7_inTail.b_l0, decide_eq_true (by omega), cond_true, if_pos ⟨by omega, by omega⟩, Int.toNat_natCast, getD_of hlt, if_pos ⟨by omega, by omega, by omega⟩,
      Int.toNat_natCast, List.take_length, show List.drop (Int.toNat 1) l[j] = (l[j]).drop 1 from rfl, e17, Option.bind_some, wrapN (show j < 9223372036854775807 by omega), drop_cons hlt, inT, List.any_cons]
    have := ih n (j + 1) (by omega) (by omega) (by omega)
    rw [inT] at this
    rw [this]
    cases (List.any _ _) <;> rfl
theorem inTail_spec {k : Nat} (hk : 400 < k) {l : List (List Int)} (hl : l.length ≤ 9) (he : ∀ x ∈ l, x.length ≤ 40) (hne : ∀ x ∈ l, x ≠ []) (v : Int) : f_ref7_inTail.u k (l, v) = some (inT l v) := by
  show f_ref7_inTail.f _ k l v = _
  rw [f_ref7_inTail.f, f_ref7_inTail.b]
  exact inTail_l0 hk hl he hne v l.length k 0 (by omega) (by omega) (by omega)
def fndSt (l : List (List Int)) (i : Nat) : Option (List Int) := (l.take i).find? (freeB l)
abbrev rl4 (k : Nat) := f_ref7_Merged.l4 (f_ref7_inTail.u k) k
theorem rl4_in {k : Nat} {nx : List Int → List (List Int) → Option (List Int × List (List Int))} (hk : 400 < k) {l : List (List Int)} {out : List Int} (hl : l.length ≤ 9) (he : ∀ x ∈ l, x.length ≤ 40) (hne : ∀ x ∈ l, x ≠ []) (d : Nat) :
    ∀ (n i : Nat), i ≤ l.length → l.length - i = d → d < n → ∀ (v : Int) (b : Bool), (v, b) = (match fndSt l i with | none => (0, false) | some x => (hdI x, true)) →
      ∃ (v' : Int) (b' : Bool) (n2 : _), (v', b') = (match fndSt l l.length with | none => (0, false) | some x => (hdI x, true)) ∧
        rl4 k nx n out l v b (l.length : Int) (i : Int) = f_ref7_Merged.b_l4 (f_ref7_inTail.u k) n2 (f_ref7_Merged.l6 (f_ref7_inTail.u k) k nx k) out l v' b' (l.length : Int) (l.length : Int) := by
  induction d with
  | zero =>
    intro n i hi hd hn v b hvb
    obtain ⟨n, rfl⟩ : ∃ m, n = m + 1 := ⟨n - 1, by omega⟩
    obtain rfl : i = l.length := by omega
    exact ⟨v, b, _, hvb, rfl⟩
  | succ d ih =>
    intro n i hi hd hn v b hvb
    obtain ⟨n, rfl⟩ : ∃ m, n = m + 1 := ⟨n - 1, by omega⟩
    have hlt : i < l.length := by omega
    have hn1 := List.length_pos_iff.2 (hne _ (List.getElem_mem hlt))
    have hst : fndSt l (i + 1) = (fndSt l i).or (bif freeB l l[i] then some l[i] else none) := by
      unfold fndSt
      rw [List.take_succ_eq_append_getElem hlt, List.find?_append]
      congr 1
    have nx1 := ih n (i + 1) (by omega) (by omega) (by omega)
    rw [rl4, f_ref7_Merged.l4, f_ref7_Merged.b_l4, decide_eq_true (by omega), cond_true, if_pos ⟨by omega, by omega⟩]
    simp only [List.take_length, Nat.zero_add, Int.toNat_natCast, getD_of hlt, wrapN (show i < 9223372036854775807 by omega), if_pos (show (0 : Int) ≤ 0 ∧ (0 : Int) < ((l[i]).length : Int) by omega), show List.getD l[i] (Int.toNat 0) 0 = hdI l[i] from rfl,
      inTail_spec hk hl he hne, Option.bind_some, if_true]
    have hf : freeB l l[i] = !inT l (hdI l[i]) := rfl
    cases hfs : fndSt l i with
    | some x =>
      rw [hfs] at hvb hst
      cases hvb
      simp only [Bool.not_true, cond_false]
      exact nx1 _ _ (by rw [hst]; rfl)
    | none =>
      rw [hfs] at hvb hst
      cases hvb
      rw [hf] at hst
      simp only [Bool.not_false, cond_true]
      cases ht : inT l (hdI l[i]) with
      | true =>
        simp only [Bool.not_true, cond_false]
        rw [ht] at hst
        exact nx1 _ _ (by rw [hst]; rfl)
      | false =>
        simp only [Bool.not_false, cond_true]
        rw [ht] at hst
        exact nx1 _ _ (by rw [hst]; rfl)
theorem rl6_in {k : Nat} {nx : List Int → List (List Int) → Option (List Int × List (List Int))} {c : Int} {l : List (List Int)} {out : List Int} (hk : 0 < k) (hl : l.length ≤ 9) (hne : ∀ x ∈ l, x ≠ []) (d : Nat) :
    ∀ (n i : Nat), i ≤ l.length → l.length - i = d → d < n → f_ref7_Merged.l6 (f_ref7_inTail.u k) k nx n out c (ne (popd c (l.take i))) l (l.length : Int) (i : Int) = nx out (ne (popd c l)) := by
  induction d with
  | zero =>
    intro n i hi hd hn
    obtain ⟨n, rfl⟩ : ∃ m, n = m + 1 := ⟨n - 1, by omega⟩
    obtain rfl : i = l.length := by omega
    rw [f_ref7_Merged.l6, f_ref7_Merged.b_l6, decide_eq_false (by omega), cond_false]
    simp only [List.take_length]
  | succ d ih =>
    intro n i hi hd hn
    obtain ⟨n, rfl⟩ : ∃ m, n = m + 1 := ⟨n - 1, by omega⟩
    have hlt : i < l.length := by omega
    have hn1 := List.length_pos_iff.2 (hne _ (List.getElem_mem hlt))
    have nx1 := ih n (i + 1) (by omega) (by omega) (by omega)
    have hrl : (ne (popd c (l.take i))).length ≤ 9 := by
      refine Nat.le_trans (List.length_filter_le _ _) ?_
      rw [popd, List.length_map, List.length_take]; omega
    have hst : ne (popd c (l.take (i + 1))) = ne (popd c (l.take i)) ++ ne [pop1 c l[i]] := by
      rw [List.take_succ_eq_append_getElem hlt, popd, List.map_append, ne, List.filter_append]; rfl
    rw [f_ref7_Merged.l6, f_ref7_Merged.b_l6, decide_eq_true (by omega), cond_true, if_pos ⟨by omega, by omega⟩]
    simp only [List.take_length, Nat.zero_add, Int.toNat_natCast, getD_of hlt, wrapN (show i < 9223372036854775807 by omega), if_pos (show (0 : Int) ≤ 0 ∧ (0 : Int) < ((l[i]).length : Int) by omega), show List.getD l[i] (Int.toNat 0) 0 = hdI l[i] from rfl,
      if_pos (show (0 : Int) ≤ 1 ∧ (1 : Int) ≤ ((l[i]).length : Int) ∧ ((l[i]).length : Int) ≤ ((l[i]).length : Int) by omega), show List.drop (Int.toNat 1) l[i] = (l[i]).drop 1 from rfl]
    have g27 : ∀ x : List Int, x ≠ [] → pop1 c l[i] = x → f_ref7_Merged.g27 (f_ref7_inTail.u k) k nx (fun x2 x7 x11 x69 x70 x71 => f_ref7_Merged.l6 (f_ref7_inTail.u k) k nx n x2 x7 x11 x69 x70 x71) out c (ne (popd c (l.take i))) x l (l.length : Int) (i : Int) = nx out (ne (popd c l)) := by
      intro x hx hp
      rw [f_ref7_Merged.g27, gate_pos hk, f_ref7_Merged.b_g27, if_pos ⟨Nat.le_refl _, by simp [LIM]; omega⟩]
      simp only [List.take_length, wrapN (show i < 9223372036854775807 by omega)]
      rw [hp, show ne [x] = [x] by cases x with | nil => exact absurd rfl hx | cons a x => simp [ne]] at hst
      rw [hst] at nx1
      exact nx1
    have skip : pop1 c l[i] = [] → f_ref7_Merged.l6 (f_ref7_inTail.u k) k nx n out c (ne (popd c (l.take i))) l (l.length : Int) ((i + 1 : Nat) : Int) = nx out (ne (popd c l)) := by
      intro hp
      rw [hp, show ne [[]] = [] from rfl, List.append_nil] at hst
      rw [hst] at nx1
      exact nx1
    cases hc : (hdI l[i] == c) with
    | true =>
      have hp : pop1 c l[i] = (l[i]).drop 1 := by rw [pop1, hc, cond_true]
      rw [cond_true]
      by_cases h0 : (l[i]).drop 1 = []
      · rw [h0] at hp
        rw [h0]
        exact skip hp
      · have := List.length_pos_iff.2 h0
        rw [decide_eq_true (by omega), cond_true]
        exact g27 _ h0 hp
    | false =>
      have hp : pop1 c l[i] = l[i] := by rw [pop1, hc, cond_false]
      rw [cond_false, decide_eq_true (by omega), cond_true]
      exact g27 _ (hne _ (List.getElem_mem hlt)) hp
theorem rl2_eq {k : Nat} (hk : 400 < k) : ∀ (n : Nat) (out : List Int) (l : List (List Int)), MOk out l → (∀ x ∈ l, x ≠ []) → f_ref7_Merged.l2 (f_ref7_inTail.u k) k n out l = mrg n out l
  | 0, _, _, _, _ => rfl
  | n + 1, out, l, h, hne => by
    have hs := h.sum
    rw [f_ref7_Merged.l2, f_ref7_Merged.b_l2, mrg]
    by_cases h0 : l = []
    · subst h0
      rw [decide_eq_false (by simp), cond_false, List.take_length]
      rfl
    · have h1 := List.length_pos_iff.2 h0
      rw [decide_eq_true (by omega), cond_true, if_pos rfl]
      simp only [List.take_length]
      obtain ⟨v', b', n2, hvb, e⟩ := rl4_in (nx := fun x2 x3 => f_ref7_Merged.l2 (f_ref7_inTail.u k) k n x2 x3) hk h.len h.each hne (out := out) l.length k 0 (by omega) (by omega) (by have := h.len; omega) 0 false rfl
      refine (show _ = _ from e).trans ?_
      rw [f_ref7_Merged.b_l4, decide_eq_false (by omega), cond_false]
      simp only [List.take_length]
      have hf : fndSt l l.length = l.find? (freeB l) := by rw [fndSt, List.take_length]
      rw [hf] at hvb
      have hcn : cnd l = (l.find? (freeB l)).map hdI := rfl
      cases hfd : l.find? (freeB l) with
      | none =>
        rw [hfd] at hvb hcn
        cases hvb
        rw [hcn]
        rfl
      | some x =>
        rw [hfd] at hvb hcn
        cases hvb
        rw [hcn, Bool.not_true, cond_false, if_pos ⟨Nat.le_refl _, by simp [LIM]; omega⟩]
        have hm := h.next hne hcn
        have e6 := rl6_in (k := k) (nx := fun x2 x3 => f_ref7_Merged.l2 (f_ref7_inTail.u k) k n x2 x3) (c := hdI x) (l := l) (out := out ++ [hdI x]) (by omega) h.len hne l.length k 0 (by omega) (by omega) (by have := h.len; omega)
        refine (show _ = _ from e6).trans ?_
        exact rl2_eq hk n _ _ hm.ne (fun y hy => (ne_mem.1 hy).2)
end Go.Ab
