/- A part of the proof: RS23. -/
import Derived.Test.YtgkjkmpeeneilaaRS22
namespace Go.Ab
set_option linter.unusedVariables false
set_option linter.unusedSimpArgs false
structure HB (P : List X_Param) (D : List X_Value) (a : X_Arguments) (fn : Str) : Prop where
  P12 : P.length ≤ 12
  D12 : D.length = (P.map fun p => p.2.2.length).sum
  dl : ∀ p ∈ P, p.2.2.length ≤ 1
  V : a.1.length + a.2.1.length ≤ 1000
  NN : a.2.1.length = a.2.2.length
  fnl : fn.length ≤ 140737488355328
  nl : ∀ s ∈ a.2.1, s.length ≤ 140737488355328
  pl : ∀ p ∈ P, p.2.1.length ≤ 140737488355328
theorem nPlain_le (P : List X_Param) : nPlain P ≤ P.length := List.length_filter_le _ _
theorem any_take {α : Type} (p : α → Bool) {l : List α} {i : Nat} (h : i < l.length) : (l.take (i + 1)).any p = ((l.take i).any p || p l[i]) := by
  rw [List.take_succ_eq_append_getElem h, List.any_append]; simp
theorem nPlain_take {P : List X_Param} {i : Nat} (h : i < P.length) : nPlain (P.take (i + 1)) = nPlain (P.take i) + (bif (P[i]).1 == 0 then 1 else 0) := by
  unfold nPlain
  rw [List.take_succ_eq_append_getElem h, List.filter_append, List.length_append]
  congr 1
  rw [List.filter_cons]
  cases ((P[i]).1 == 0) <;> rfl
section
variable {k : Nat} {P : List X_Param} {D : List X_Value} {a : X_Arguments} {fn : Str}
abbrev cHas (k : Nat) := f_ref7_HasString.u k
abbrev cIdx (k : Nat) := f_slices_Index_string.u k
theorem rb_l0 (h : HB P D a fn) (R : Option (X_Bound × Str))
    (hR : ∀ n2, f_ref7_Bound.b_l0 (f_ref7_HasString.u k) (f_slices_Index_string.u k) n2 (f_ref7_Bound.l3 (f_ref7_HasString.u k) (f_slices_Index_string.u k) k k) P D fn a eB (nPlain P : Int) (hasStar P) (hasPairs P) P (P.length : Int) (P.length : Int) = R) (d : Nat) :
    ∀ (n i : Nat), i ≤ P.length → P.length - i = d → d < n → f_ref7_Bound.l0 (f_ref7_HasString.u k) (f_slices_Index_string.u k) k n P D fn a eB (nPlain (P.take i) : Int) (hasStar (P.take i)) (hasPairs (P.take i)) P (P.length : Int) (i : Int) = R := by
  have hP := h.P12
  induction d with
  | zero =>
    intro n i hi hd hn
    obtain ⟨n, rfl⟩ : ∃ m, n = m + 1 := ⟨n - 1, by omega⟩
    obtain rfl : i = P.length := by omega
    rw [List.take_length, f_ref7_Bound.l0]
    exact hR _
  | succ d ih =>
    intro n i hi hd hn
    obtain ⟨n, rfl⟩ : ∃ m, n = m + 1 := ⟨n - 1, by omega⟩
    have hlt : i < P.length := by omega
    have nx := ih n (i + 1) (by omega) (by omega) (by omega)
    have hnp := nPlain_le (P.take i)
    rw [List.length_take] at hnp
    rw [nPlain_take hlt, show hasStar (P.take (i + 1)) = (hasStar (P.take i) || ((P[i]).1 == 1 && (P[i]).2.1 != [])) from any_take _ hlt, show hasPairs (P.take (i + 1)) = (hasPairs (P.take i) || (P[i]).1 == 3) from any_take _ hlt] at nx
    rw [f_ref7_Bound.l0, f_ref7_Bound.q_l0, f_ref7_Bound.c_l0, decide_eq_true (by omega), cond_true, if_pos ⟨by omega, by omega⟩, Int.toNat_natCast, getD_of hlt, wrapN (by omega), wrapN (by omega)]
    by_cases h0 : (P[i]).1 = 0
    · have e1 : ((P[i]).1 == 0) = true := by simp [h0]
      have e2 : ((P[i]).1 == 1) = false := by simp [h0]
      have e3 : ((P[i]).1 == 3) = false := by simp [h0]
      rw [e1, e2, e3, Bool.false_and, Bool.or_false, Bool.or_false, cond_true] at nx
      rw [e1, cond_true]
      exact nx
    · have e1 : ((P[i]).1 == 0) = false := by simpa using h0
      rw [e1, cond_false] at nx
      rw [e1, cond_false]
      by_cases h1 : (P[i]).1 = 1
      · have e2 : ((P[i]).1 == 1) = true := by simp [h1]
        have e3 : ((P[i]).1 == 3) = false := by simp [h1]
        rw [e2, e3, Bool.true_and, Bool.or_false] at nx
        rw [e2, cond_true, e3, cond_false]
        cases hn0 : ((P[i]).2.1 != []) with
        | true => rw [hn0, Bool.or_true] at nx; exact nx
        | false => rw [hn0, Bool.or_false] at nx; exact nx
      · have e2 : ((P[i]).1 == 1) = false := by simpa using h1
        rw [e2, Bool.false_and, Bool.or_false] at nx
        rw [e2, cond_false]
        cases h3 : ((P[i]).1 == 3) with
        | true => rw [h3, Bool.or_true] at nx; exact nx
        | false => rw [h3, Bool.or_false] at nx; exact nx
theorem rb_l3 (h : HB P D a fn) {pairs : Bool} (R : Option (X_Bound × Str))
    (hR : ∀ n2, f_ref7_Bound.b_l3 (f_ref7_HasString.u k) (f_slices_Index_string.u k) n2 (f_ref7_Bound.l5 (f_ref7_HasString.u k) (f_slices_Index_string.u k) k k) P D fn a eB (nPlain P : Int) pairs (start P a.1).names (start P a.1).given P (P.length : Int) (P.length : Int) = R) (d : Nat) :
    ∀ (n i : Nat), i ≤ P.length → P.length - i = d → d < n → f_ref7_Bound.l3 (f_ref7_HasString.u k) (f_slices_Index_string.u k) k n P D fn a eB (nPlain P : Int) pairs ((P.take (min i (min (nPlain P) a.1.length))).map (·.2.1)) (a.1.take (min i (min (nPlain P) a.1.length))) P (P.length : Int) (i : Int) = R := by
  have hP := h.P12
  have hV := h.V
  have hnp := nPlain_le P
  induction d with
  | zero =>
    intro n i hi hd hn
    obtain ⟨n, rfl⟩ : ∃ m, n = m + 1 := ⟨n - 1, by omega⟩
    obtain rfl : i = P.length := by omega
    rw [show min P.length (min (nPlain P) a.1.length) = min (nPlain P) a.1.length by omega, f_ref7_Bound.l3]
    exact hR _
  | succ d ih =>
    intro n i hi hd hn
    obtain ⟨n, rfl⟩ : ∃ m, n = m + 1 := ⟨n - 1, by omega⟩
    have hlt : i < P.length := by omega
    have nx := ih n (i + 1) (by omega) (by omega) (by omega)
    rw [f_ref7_Bound.l3, f_ref7_Bound.q_l3, f_ref7_Bound.c_l3, decide_eq_true (by omega), cond_true, if_pos ⟨by omega, by omega⟩, Int.toNat_natCast, getD_of hlt, wrapN (by omega)]
    by_cases h1 : i < nPlain P
    · rw [decide_eq_true (by omega), cond_true]
      by_cases h2 : i < a.1.length
      · rw [decide_eq_true (by omega), cond_true, if_pos (by simp only [LIM, List.length_map, List.length_take, List.length_cons, List.length_nil]; omega), if_pos ⟨by omega, by omega⟩, getD_of h2, if_pos (by simp only [LIM, List.length_take, List.length_cons, List.length_nil]; omega)]
        rw [show min (i + 1) (min (nPlain P) a.1.length) = i + 1 by omega] at nx
        rw [show min i (min (nPlain P) a.1.length) = i by omega]
        rw [List.take_succ_eq_append_getElem hlt, List.take_succ_eq_append_getElem h2, List.map_append] at nx
        exact nx
      · rw [decide_eq_false (by omega), cond_false]
        rw [show min (i + 1) (min (nPlain P) a.1.length) = min i (min (nPlain P) a.1.length) by omega] at nx
        exact nx
    · rw [decide_eq_false (by omega), cond_false]
      rw [show min (i + 1) (min (nPlain P) a.1.length) = min i (min (nPlain P) a.1.length) by omega] at nx
      exact nx
/-- whether a name is a parameter's own -/
theorem rb_l7 (h : HB P D a fn) {nx : _} {pairs : Bool} {g : Gv} {rest : List X_Value} {i : Nat} {s : Str} (R : Option (X_Bound × Str))
    (hR : ∀ n2, f_ref7_Bound.b_l7 (f_ref7_HasString.u k) (f_slices_Index_string.u k) n2 (f_ref7_Bound.g38 (f_ref7_HasString.u k) (f_slices_Index_string.u k) k nx) P D fn a eB pairs g.names g.given ([], (rest, (g.oN, g.oV))) (i : Int) s (isOwn P s) a.2.1 (a.2.1.length : Int) (i : Int) P (P.length : Int) (P.length : Int) = R) (d : Nat) :
    ∀ (n j : Nat), j ≤ P.length → P.length - j = d → d < n → f_ref7_Bound.l7 (f_ref7_HasString.u k) (f_slices_Index_string.u k) k nx n P D fn a eB pairs g.names g.given ([], (rest, (g.oN, g.oV))) (i : Int) s (isOwn (P.take j) s) a.2.1 (a.2.1.length : Int) (i : Int) P (P.length : Int) (j : Int) = R := by
  have hP := h.P12
  induction d with
  | zero =>
    intro n j hj hd hn
    obtain ⟨n, rfl⟩ : ∃ m, n = m + 1 := ⟨n - 1, by omega⟩
    obtain rfl : j = P.length := by omega
    rw [List.take_length, f_ref7_Bound.l7]
    exact hR _
  | succ d ih =>
    intro n j hj hd hn
    obtain ⟨n, rfl⟩ : ∃ m, n = m + 1 := ⟨n - 1, by omega⟩
    have hlt : j < P.length := by omega
    have nx1 := ih n (j + 1) (by omega) (by omega) (by omega)
    rw [show isOwn (P.take (j + 1)) s = (isOwn (P.take j) s || own P[j] s) from any_take _ hlt, own] at nx1
    rw [f_ref7_Bound.l7, f_ref7_Bound.q_l7, f_ref7_Bound.c_l7, decide_eq_true (by omega), cond_true, if_pos ⟨by omega, by omega⟩, Int.toNat_natCast, getD_of hlt, wrapN (by omega)]
    cases h1 : isOwn (P.take j) s with
    | true => rw [h1] at nx1; exact nx1
    | false =>
      rw [h1, Bool.false_or] at nx1
      cases h2 : ((P[j]).2.1 == s) with
      | false => rw [h2] at nx1; exact nx1
      | true =>
        rw [h2, Bool.true_and] at nx1
        cases h3 : ((P[j]).1 == 0) with
        | true => rw [h3] at nx1; exact nx1
        | false => rw [h3, Bool.false_or] at nx1; exact nx1
end
end Go.Ab
