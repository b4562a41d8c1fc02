/- A part of the proof: RS34. -/
import Derived.Test.YtgkjkmpeeneilaaRS33
namespace Go.Ab
set_option linter.unusedVariables false
set_option linter.unusedSimpArgs false
section
variable {k : Nat} {rest : List (List Int)}
def Lst (C : List Int) (t : Nat) : Prop := ∃ h : t < C.length, ∀ x ∈ C, C[t] ≤ x
theorem turned_spec (hk : 400 < k) {C : List Int} (hn : C.Nodup) (hl : C.length ≤ 9) {t : Nat} (ht : Lst C t) : f_lineage_turned.u k C.reverse = some (outC C t) := by
  obtain ⟨ht, hle⟩ := ht
  show f_lineage_turned.f (f_slices_Min_int.u k) (f_slices_Index_int.u k) (f_slices_Concat_int.u k) k C.reverse = _
  have hrl : C.reverse.length = C.length := List.length_reverse
  obtain ⟨y, hy, hm, hy2⟩ := f_slices_Min_int.spec (k := k) (l := C.reverse) (by omega) (by omega) (by rw [ne_eq, List.reverse_eq_nil_iff]; rintro rfl; cases ht)
  have hyt : y = C[t] := by
    have h1 := hle y (List.mem_reverse.1 hm)
    have h2 := hy2 C[t] (List.mem_reverse.2 (List.getElem_mem _))
    omega
  subst hyt
  obtain ⟨j, hj, e, q⟩ := idxF_at (fun x => C[t] == x) C.reverse 0 (anyI.2 hm)
  rw [beq_iff_eq, List.getElem_reverse] at q
  have hjt := nodup_inj hn (by omega) (by omega) q
  have e2 : j = C.length - 1 - t := by omega
  rw [f_lineage_turned.f, f_lineage_turned.q, f_lineage_turned.c, hy, Option.bind_some, f_slices_Index_int.spec (by omega) (by omega), Option.bind_some, e, Nat.zero_add, if_pos ⟨by omega, by omega⟩, if_pos ⟨by omega, by omega⟩, Int.toNat_natCast]
  have hfl : (List.take 2 [C.reverse.drop j, C.reverse.take j]).flatten = outC C t := by
    rw [← turn_eq ht, e2]
    simp
  rw [f_slices_Concat_int.spec (by simp) (by rw [hfl, outC_len]; simp only [LIM]; omega) (by rw [hfl, outC_len]; omega) (by simp; omega), hfl]
  rfl
theorem wlk_len : ∀ {n : Nat} {w : List Int} {a : Int} {w' : List Int} {a' : Int}, wlk rest n w a = some (w', a') → w.length ≤ w'.length
  | 0, w, a, w', a', h => by cases h
  | n + 1, w, a, w', a', h => by
    rw [wlk] at h
    cases hin : w.any (fun y => a == y) with
    | true => rw [hin] at h; cases h; exact Nat.le_refl _
    | false =>
      rw [hin, cond_false] at h
      have := wlk_len h
      simp at this
      omega
structure RO (rest : List (List Int)) : Prop where
  ne : ∀ x ∈ rest, x ≠ [] ∧ x.Nodup ∧ x.length ≤ 40
  st : ∀ x ∈ rest, inT rest (hdI x) = true
  len : rest.length ≤ 9
noncomputable abbrev bl0 (k : Nat) := f_lineage_Blame.l0 (f_lineage_check.u k) (f_lineage_lists.u k) (f_lineage_merge.u k) (f_lineage_fault.u k) (f_slices_Index_int.u k) (f_lineage_turned.u k) (f_slices_IndexFunc_Lint.u k) (f_lineage_Blame_c1.u k) k
theorem blame_l0 (hk : 400 < k) (hr : RO rest) {w' : List Int} {a' : Int} (hw' : w'.length ≤ 9) {j : Nat} (hj : j < w'.length) (e : idxF (fun y => a' == y) w' 0 = (j : Int)) {C : List Int} (hC : w'.drop j = C) (hn : C.Nodup) {t : Nat} (ht : Lst C t) : ∀ (n : Nat) (w : List Int) (a : Int), a ∈ rest.map hdI → wlk rest n w a = some (w', a') →
    bl0 k n (0, 0) rest w a = some (outC C t, (0, 0))
  | 0, w, a, ha, h => by cases h
  | n + 1, w, a, ha, h => by
    have hwl := wlk_len h
    rw [wlk] at h
    rw [bl0, f_lineage_Blame.l0, f_lineage_Blame.q_l0, f_lineage_Blame.c_l0, f_slices_Index_int.spec (by omega) (by omega), Option.bind_some]
    cases hin : w.any (fun y => a == y) with
    | true =>
      rw [hin] at h
      cases h
      have hcl : C.length = w'.length - j := by rw [← hC, List.length_drop]
      have hrow : List.take (Int.toNat ((w'.length : Int) - (j : Int))) (List.drop (0 + j) (List.take (0 + j) w' ++ ((List.take (Int.toNat ((w'.length : Int) - (j : Int))) (List.drop (0 + j) w')).reverse ++ List.drop (0 + j + Int.toNat ((w'.length : Int) - (j : Int))) w'))) = C.reverse := by
        rw [Nat.zero_add, show Int.toNat ((w'.length : Int) - (j : Int)) = w'.length - j by omega, hC, List.take_of_length_le (show C.length ≤ w'.length - j by omega), List.drop_of_length_le (show w'.length ≤ j + (w'.length - j) by omega), List.append_nil]
        rw [List.drop_append, List.drop_of_length_le (by rw [List.length_take]; omega), List.nil_append, List.length_take, show j - min j w'.length = 0 by omega, List.drop_zero, List.take_of_length_le (by simp; omega)]
      rw [e, decide_eq_true (by omega), cond_true, if_pos ⟨by omega, by omega⟩, Int.toNat_natCast, if_pos (by omega), hrow, turned_spec hk hn (by omega) ht]
      rfl
    | false =>
      rw [hin, cond_false] at h
      have hwl2 := wlk_len h
      simp only [List.length_append, List.length_cons, List.length_nil] at hwl2
      have hneg : idxF (fun y => a == y) w 0 < 0 := by
        have := idxF_any (fun y => a == y) w 0
        rw [hin] at this
        simpa using this
      obtain ⟨x, hx, ex⟩ := List.mem_map.1 ha
      have hst := hr.st x hx
      rw [ex] at hst
      obtain ⟨i, hi, ei, en, ep⟩ := nxt_at hst
      have hlen := hr.len
      have hp : ∀ x ∈ rest, (fun z7 : List Int × Unit => (f_lineage_Blame_c1.u k (z7.1, a)).bind some) (x, ()) = some (nxP a x) := by
        intro x hx
        obtain ⟨q1, _, q3⟩ := hr.ne x hx
        have := List.length_pos_iff.2 q1
        show (f_lineage_Blame_c1.f (f_slices_Contains_int.u k) k x a).bind some = _
        rw [f_lineage_Blame_c1.f, f_lineage_Blame_c1.q, f_lineage_Blame_c1.c, if_pos (by omega), show Int.toNat 1 = 1 from rfl, f_slices_Contains_int.spec (by rw [List.length_drop]; omega) (by rw [List.length_drop]; omega)]
        rfl
      have hne := (hr.ne _ (List.getElem_mem hi)).1
      have hpos := List.length_pos_iff.2 hne
      rw [decide_eq_false (by omega), cond_false, if_pos (by simp only [LIM, List.length_cons, List.length_nil]; omega), f_slices_IndexFunc_Lint.spec (p := nxP a) hp (by omega) (by omega), Option.bind_some, ei, if_pos ⟨by omega, by omega⟩, Int.toNat_natCast, getD_of hi, if_pos (by omega)]
      have hnx : (rest[i]).getD 0 0 = nxt rest a := en.symm
      rw [hnx]
      exact blame_l0 hk hr hw' hj e hC hn ht n (w ++ [a]) (nxt rest a) (nxt_st hst).2 h
/-! the reference -/
noncomputable abbrev rl0 (k : Nat) := f_ref7_Blamed.l0 (f_ref7_OrdersFault.u k) (f_ref7_Merged.u k) (f_ref7_At.u k) (f_ref7_HasInt.u k) (f_slices_Index_int.u k) k
noncomputable abbrev rl2b (k : Nat) := f_ref7_Blamed.l2 (f_ref7_OrdersFault.u k) (f_ref7_Merged.u k) (f_ref7_At.u k) (f_ref7_HasInt.u k) (f_slices_Index_int.u k) k
noncomputable abbrev rl4b (k : Nat) := f_ref7_Blamed.l4 (f_ref7_OrdersFault.u k) (f_ref7_Merged.u k) (f_ref7_At.u k) (f_ref7_HasInt.u k) (f_slices_Index_int.u k) k
noncomputable abbrev rl6b (k : Nat) := f_ref7_Blamed.l6 (f_ref7_OrdersFault.u k) (f_ref7_Merged.u k) (f_ref7_At.u k) (f_ref7_HasInt.u k) (f_slices_Index_int.u k) k
theorem blamed_l6 (hk : 400 < k) {C : List Int} (hl : C.length ≤ 9) {t : Nat} (ht : t < C.length) (d : Nat) : ∀ (n i : Nat), i ≤ C.length → C.length - i = d → d < n →
    rl6b k n (0, 0) C (t : Int) ((outC C t).take i) (C.length : Int) (i : Int) = some (outC C t, (0, 0)) := by
  have hol := outC_len C t
  induction d with
  | zero =>
    intro n i hi hd hn
    obtain ⟨n, rfl⟩ : ∃ m, n = m + 1 := ⟨n - 1, by omega⟩
    rw [rl6b, f_ref7_Blamed.l6, f_ref7_Blamed.q_l6, f_ref7_Blamed.c_l6, decide_eq_false (by omega), cond_false, List.take_of_length_le (by omega)]
  | succ d ih =>
    intro n i hi hd hn
    obtain ⟨n, rfl⟩ : ∃ m, n = m + 1 := ⟨n - 1, by omega⟩
    have hlt : i < C.length := by omega
    have hidx : Int.tmod (IntKind.i64.wrap (IntKind.i64.wrap ((t : Int) - (i : Int)) + (C.length : Int))) (C.length : Int) = (((t + C.length - i) % C.length : Nat) : Int) := by
      rw [wrapI (x := (t : Int) - (i : Int)) (by omega) (by omega), wrapI (by omega) (by omega), show (t : Int) - (i : Int) + (C.length : Int) = ((t + C.length - i : Nat) : Int) by omega]
      rfl
    have hm : (t + C.length - i) % C.length < C.length := Nat.mod_lt _ (by omega)
    have nx := ih n (i + 1) (by omega) (by omega) (by omega)
    have hi2 : i < (outC C t).length := by omega
    have hget : (outC C t)[i] = C[(t + C.length - i) % C.length] := by
      simp only [outC, List.getElem_map, List.getElem_range]
      rw [getD_of hm]
    rw [List.take_succ_eq_append_getElem hi2, hget] at nx
    rw [rl6b, f_ref7_Blamed.l6, f_ref7_Blamed.q_l6, f_ref7_Blamed.c_l6, decide_eq_true (by omega), cond_true, if_neg (by omega), hidx, if_pos ⟨by omega, by omega⟩, Int.toNat_natCast, getD_of hm, if_pos (by simp only [LIM, List.length_take, List.length_cons, List.length_nil]; omega), wrapN (by omega)]
    exact nx
theorem blamed_l4 (hk : 400 < k) {C : List Int} (hl : C.length ≤ 9) (d : Nat) : ∀ (n i t : Nat), i ≤ C.length → C.length - i = d → d < n → (ht : t < C.length) → (∀ x ∈ C.take i, C[t] ≤ x) →
    ∃ t', Lst C t' ∧ rl4b k n (0, 0) C (t : Int) (C.length : Int) (i : Int) = some (outC C t', (0, 0)) := by
  induction d with
  | zero =>
    intro n i t hi hd hn ht hle
    obtain ⟨n, rfl⟩ : ∃ m, n = m + 1 := ⟨n - 1, by omega⟩
    rw [List.take_of_length_le (by omega)] at hle
    refine ⟨t, ⟨ht, hle⟩, ?_⟩
    rw [rl4b, f_ref7_Blamed.l4, f_ref7_Blamed.q_l4, f_ref7_Blamed.c_l4, decide_eq_false (by omega), cond_false]
    exact blamed_l6 hk hl ht C.length k 0 (by omega) (by omega) (by omega)
  | succ d ih =>
    intro n i t hi hd hn ht hle
    obtain ⟨n, rfl⟩ : ∃ m, n = m + 1 := ⟨n - 1, by omega⟩
    have hlt : i < C.length := by omega
    rw [rl4b, f_ref7_Blamed.l4, f_ref7_Blamed.q_l4, f_ref7_Blamed.c_l4, decide_eq_true (by omega), cond_true, if_pos ⟨by omega, by omega⟩, if_pos ⟨by omega, by omega⟩, Int.toNat_natCast, Int.toNat_natCast, getD_of hlt, getD_of ht, wrapN (by omega)]
    by_cases hc : C[i] < C[t]
    · rw [decide_eq_true hc, cond_true]
      refine ih n (i + 1) i (by omega) (by omega) (by omega) hlt fun x hx => ?_
      rw [List.take_succ_eq_append_getElem hlt] at hx
      rcases List.mem_append.1 hx with hx | hx
      · have := hle x hx; omega
      · rw [List.mem_singleton.1 hx]; exact Int.le_refl _
    · rw [decide_eq_false hc, cond_false]
      refine ih n (i + 1) t (by omega) (by omega) (by omega) ht fun x hx => ?_
      rw [List.take_succ_eq_append_getElem hlt] at hx
      rcases List.mem_append.1 hx with hx | hx
      · exact hle x hx
      · rw [List.mem_singleton.1 hx]; omega
theorem blamed_l2 (hk : 400 < k) (hr : RO rest) {nx : X_Fault → List (List Int) → List Int → Int → Option (List Int × X_Fault)} {w : List Int} {a : Int} (d : Nat) : ∀ (n i : Nat), i ≤ rest.length → rest.length - i = d → d < n → (rest.drop i).any (nxP a) = true →
    rl2b k nx n (0, 0) rest w a rest (rest.length : Int) (i : Int) = nx (0, 0) rest w (hdI (rest.getD (idxF (nxP a) (rest.drop i) i).toNat [])) := by
  have hlen := hr.len
  induction d with
  | zero =>
    intro n i hi hd hn h
    rw [List.drop_of_length_le (by omega)] at h
    cases h
  | succ d ih =>
    intro n i hi hd hn h
    obtain ⟨n, rfl⟩ : ∃ m, n = m + 1 := ⟨n - 1, by omega⟩
    have hlt : i < rest.length := by omega
    obtain ⟨q1, _, q3⟩ := hr.ne _ (List.getElem_mem hlt)
    have hpos := List.length_pos_iff.2 q1
    rw [rl2b, f_ref7_Blamed.l2, f_ref7_Blamed.q_l2, f_ref7_Blamed.c_l2, decide_eq_true (by omega), cond_true, if_pos ⟨by omega, by omega⟩, Int.toNat_natCast, getD_of hlt, if_pos (by omega), show Int.toNat 1 = 1 from rfl, f_ref7_HasInt.spec (by rw [List.length_drop]; omega) (by rw [List.length_drop]; omega), Option.bind_some, wrapN (by omega), drop_cons hlt, show idxF (nxP a) (rest[i] :: rest.drop (i + 1)) i = bif nxP a rest[i] then (i : Int) else idxF (nxP a) (rest.drop (i + 1)) (i + 1) from rfl]
    show (bif nxP a rest[i] then _ else _) = _
    cases hp : nxP a rest[i] with
    | true =>
      rw [cond_true, if_pos (by omega), cond_true, Int.toNat_natCast, getD_of hlt]
    | false =>
      rw [cond_false, cond_false]
      refine ih n (i + 1) (by omega) (by omega) (by omega) ?_
      rw [drop_cons hlt, List.any_cons, hp, Bool.false_or] at h
      exact h
theorem blamed_l0 (hk : 400 < k) (hr : RO rest) {w' : List Int} {a' : Int} (hw' : w'.length ≤ 9) {j : Nat} (hj : j < w'.length) (e : idxF (fun y => a' == y) w' 0 = (j : Int)) {C : List Int} (hC : w'.drop j = C) : ∃ t, Lst C t ∧ ∀ (n : Nat) (w : List Int) (a : Int), a ∈ rest.map hdI → wlk rest n w a = some (w', a') →
    rl0 k n (0, 0) rest w a = some (outC C t, (0, 0)) := by
  have hcl : C.length = w'.length - j := by rw [← hC, List.length_drop]
  obtain ⟨t, ht, h4⟩ := blamed_l4 hk (C := C) (by omega) C.length k 0 0 (by omega) (by omega) (by omega) (by omega) (by simp)
  refine ⟨t, ht, fun n => ?_⟩
  induction n with
  | zero => intro w a ha h; cases h
  | succ n ih =>
    intro w a ha h
    have hwl := wlk_len h
    rw [wlk] at h
    rw [rl0, f_ref7_Blamed.l0, f_ref7_Blamed.q_l0, f_ref7_Blamed.c_l0, f_ref7_HasInt.spec (by omega) (by omega), Option.bind_some]
    cases hin : w.any (fun y => a == y) with
    | true =>
      rw [hin] at h
      cases h
      rw [Bool.not_true, cond_false, f_slices_Index_int.spec (by omega) (by omega), Option.bind_some, e, if_pos ⟨by omega, by omega⟩, Int.toNat_natCast, Nat.zero_add, hC, List.take_of_length_le (by omega), show Int.toNat ((w'.length : Int) - (j : Int)) = C.length by omega]
      exact h4
    | false =>
      rw [hin, cond_false] at h
      have hwl2 := wlk_len h
      simp only [List.length_append, List.length_cons, List.length_nil] at hwl2
      obtain ⟨x, hx, ex⟩ := List.mem_map.1 ha
      have hst := hr.st x hx
      rw [ex] at hst
      have hlen := hr.len
      rw [Bool.not_false, cond_true, if_pos (by simp only [LIM, List.length_cons, List.length_nil]; omega)]
      refine (blamed_l2 hk hr rest.length k 0 (by omega) (by omega) (by omega) (by rw [List.drop_zero]; exact hst)).trans ?_
      rw [List.drop_zero]
      exact ih (w ++ [a]) (nxt rest a) (nxt_st hst).2 h
/-! Ahead -/
theorem ahead_spec (hk : 400 < k) {X : List Int} (hl : X.length ≤ 40) (b a : Int) : f_ref7_ahead.u k (X, (b, a)) = some (ahB X b a) := by
  show f_ref7_ahead.f (f_slices_Index_int.u k) (f_ref7_HasInt.u k) k X b a = _
  rw [f_ref7_ahead.f, f_ref7_ahead.q, f_ref7_ahead.c, f_slices_Index_int.spec (by omega) (by omega), Option.bind_some, ahB]
  cases hin : X.any (fun y => b == y) with
  | true =>
    obtain ⟨j, hj, e, _⟩ := idxF_at (fun y => b == y) X 0 hin
    rw [e, Nat.zero_add, decide_eq_true (by omega), cond_true, wrapN (by omega), if_pos ⟨by omega, by omega⟩, Int.toNat_natCast, f_ref7_HasInt.spec (by rw [List.length_drop]; omega) (by rw [List.length_drop]; omega), Bool.true_and, Int.toNat_natCast]
    rfl
  | false =>
    have hneg : idxF (fun y => b == y) X 0 < 0 := by
      have := idxF_any (fun y => b == y) X 0
      rw [hin] at this
      simpa using this
    rw [decide_eq_false (by omega), cond_false, Bool.false_and]
theorem Ahead_spec (hk : 400 < k) {all : List (List Int)} (hl : all.length ≤ 8) (hne : ∀ x ∈ all, x ≠ [] ∧ x.length ≤ 40) (b a : Int) : f_ref7_Ahead.u k (all, (b, a)) = some (all.any (fun X => ahB X b a) || ahB (heads all) b a) := by
  show f_ref7_Ahead.f (f_ref7_ahead.u k) k all b a = _
  rw [f_ref7_Ahead.f, f_ref7_Ahead.q, f_ref7_Ahead.c]
  have key : ∀ (d n i : Nat), i ≤ all.length → all.length - i = d → d < n → f_ref7_Ahead.l0 (f_ref7_ahead.u k) k n b a (heads (all.take i)) all (all.length : Int) (i : Int) = some ((all.drop i).any (fun X => ahB X b a) || ahB (heads all) b a) := by
    intro d
    induction d with
    | zero =>
      intro n i hi hd hn
      obtain ⟨n, rfl⟩ : ∃ m, n = m + 1 := ⟨n - 1, by omega⟩
      rw [f_ref7_Ahead.l0, f_ref7_Ahead.q_l0, f_ref7_Ahead.c_l0, decide_eq_false (by omega), cond_false, List.take_of_length_le (by omega), ahead_spec hk (by rw [heads, List.length_map]; omega), List.drop_of_length_le (by omega)]
      rfl
    | succ d ih =>
      intro n i hi hd hn
      obtain ⟨n, rfl⟩ : ∃ m, n = m + 1 := ⟨n - 1, by omega⟩
      have hlt : i < all.length := by omega
      obtain ⟨q1, q2⟩ := hne _ (List.getElem_mem hlt)
      have hpos := List.length_pos_iff.2 q1
      have nx := ih n (i + 1) (by omega) (by omega) (by omega)
      have hh : heads (all.take (i + 1)) = heads (all.take i) ++ [hdI all[i]] := by
        rw [heads, heads, List.take_succ_eq_append_getElem hlt, List.map_append]; rfl
      rw [hh] at nx
      rw [f_ref7_Ahead.l0, f_ref7_Ahead.q_l0, f_ref7_Ahead.c_l0, decide_eq_true (by omega), cond_true, if_pos ⟨by omega, by omega⟩, Int.toNat_natCast, getD_of hlt, if_pos (by omega), if_pos (by simp only [LIM, heads, List.length_map, List.length_take, List.length_cons, List.length_nil]; omega), ahead_spec hk q2, Option.bind_some, wrapN (by omega), drop_cons hlt, List.any_cons]
      cases ahB all[i] b a with
      | true => rfl
      | false => rw [cond_false, Bool.false_or]; exact nx
  exact key all.length k 0 (by omega) (by omega) (by omega)
end
end Go.Ab
