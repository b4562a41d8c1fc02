/- A part of the proof: RS21. -/
import Derived.Test.YtgkjkmpeeneilaaFD4
import Derived.Test.YtgkjkmpeeneilaaRS1
namespace Go.Ab
set_option linter.unusedVariables false
set_option linter.unusedSimpArgs false

theorem f_slices_IndexFunc_Value.l0_spec {k : Nat} {l : List X_Value} {f : (X_Value × Unit) → Option Bool} {p : X_Value → Bool} (hf : ∀ x ∈ l, f (x, ()) = some (p x)) (hl : l.length ≤ 4611686018427387904) (d : Nat) :
    ∀ (n i : Nat), i ≤ l.length → l.length - i = d → d < n → f_slices_IndexFunc_Value.l0 k n l f (l.length : Int) (i : Int) = some (idxF p (l.drop i) i) := by
  induction d with
  | zero =>
    intro n i hi hd hn
    obtain ⟨n, rfl⟩ : ∃ m, n = m + 1 := ⟨n - 1, by omega⟩
    rw [f_slices_IndexFunc_Value.l0, f_slices_IndexFunc_Value.b_l0, decide_eq_false (by omega), cond_false, List.drop_of_length_le (by omega)]
    rfl
  | succ d ih =>
    intro n i hi hd hn
    obtain ⟨n, rfl⟩ : ∃ m, n = m + 1 := ⟨n - 1, by omega⟩
    have hlt : i < l.length := by omega
    rw [f_slices_IndexFunc_Value.l0, f_slices_IndexFunc_Value.b_l0, decide_eq_true (by omega), cond_true, if_pos ⟨by omega, by omega⟩, Int.toNat_natCast, getD_of hlt, hf _ (List.getElem_mem hlt), Option.bind_some, drop_cons hlt, idxF]
    cases p l[i] with
    | true => rfl
    | false =>
      rw [cond_false, cond_false, wrapI (by omega) (by omega), show (i : Int) + 1 = ((i + 1 : Nat) : Int) from rfl]
      exact ih n (i + 1) (by omega) (by omega) (by omega)
theorem f_slices_IndexFunc_Value.spec {k : Nat} {l : List X_Value} {f : (X_Value × Unit) → Option Bool} {p : X_Value → Bool} (hf : ∀ x ∈ l, f (x, ()) = some (p x)) (hl : l.length ≤ 4611686018427387904) (hk : l.length < k) :
    f_slices_IndexFunc_Value.u k (l, f) = some (idxF p l 0) := by
  show f_slices_IndexFunc_Value.f k l f = _
  rw [f_slices_IndexFunc_Value.f, f_slices_IndexFunc_Value.b]
  exact f_slices_IndexFunc_Value.l0_spec hf hl l.length k 0 (by omega) (by omega) hk

theorem f_slices_Index_string.l0_spec {k : Nat} {l : List (List UInt8)} {v : (List UInt8)} (hl : l.length ≤ 4611686018427387904) (d : Nat) :
    ∀ (n i : Nat), i ≤ l.length → l.length - i = d → d < n → f_slices_Index_string.l0 k n l v (l.length : Int) (i : Int) = some (idxF (fun y => v == y) (l.drop i) i) := by
  induction d with
  | zero =>
    intro n i hi hd hn
    obtain ⟨n, rfl⟩ : ∃ m, n = m + 1 := ⟨n - 1, by omega⟩
    rw [f_slices_Index_string.l0, f_slices_Index_string.b_l0, decide_eq_false (by omega), cond_false, List.drop_of_length_le (by omega)]
    rfl
  | succ d ih =>
    intro n i hi hd hn
    obtain ⟨n, rfl⟩ : ∃ m, n = m + 1 := ⟨n - 1, by omega⟩
    have hlt : i < l.length := by omega
    rw [f_slices_Index_string.l0, f_slices_Index_string.b_l0, decide_eq_true (by omega), cond_true, if_pos ⟨by omega, by omega⟩, Int.toNat_natCast, getD_of hlt, drop_cons hlt, idxF]
    cases (v == l[i]) with
    | true => rfl
    | false =>
      rw [cond_false, cond_false, wrapN (by omega)]
      exact ih n (i + 1) (by omega) (by omega) (by omega)
theorem f_slices_Index_string.spec {k : Nat} {l : List (List UInt8)} {v : (List UInt8)} (hl : l.length ≤ 4611686018427387904) (hk : l.length < k) : f_slices_Index_string.u k (l, v) = some (idxF (fun y => v == y) l 0) := by
  show f_slices_Index_string.f k l v = _
  rw [f_slices_Index_string.f, f_slices_Index_string.b]
  exact f_slices_Index_string.l0_spec hl l.length k 0 (by omega) (by omega) hk

theorem f_slices_Contains_string.spec {k : Nat} {l : List (List UInt8)} {v : (List UInt8)} (hl : l.length ≤ 4611686018427387904) (hk : l.length < k) : f_slices_Contains_string.u k (l, v) = some (l.any fun y => v == y) := by
  show f_slices_Contains_string.f (f_slices_Index_string.u k) k l v = _
  rw [f_slices_Contains_string.f, f_slices_Contains_string.b, f_slices_Index_string.spec hl hk, Option.bind_some, idxF_any]

theorem f_ref7_HasString.spec {k : Nat} {l : List (List UInt8)} {v : List UInt8} (hl : l.length ≤ 4611686018427387904) (hk : l.length < k) : f_ref7_HasString.u k (l, v) = some (l.any fun y => v == y) := by
  show f_ref7_HasString.f (f_slices_Contains_string.u k) k _ _ = _
  rw [f_ref7_HasString.f, f_ref7_HasString.b, f_slices_Contains_string.spec hl hk]
  rfl

theorem f_slices_Clone_Value.spec {k : Nat} {l : List X_Value} (hl : l.length * 96 ≤ LIM) : f_slices_Clone_Value.u k l = some l := by
  show f_slices_Clone_Value.f k l = _
  rw [f_slices_Clone_Value.f, f_slices_Clone_Value.b]
  have h : (if 0 ≤ (List.length ([] : List X_Value)) ∧ (0 + (List.length l)) * 96 ≤ LIM then some (List.take (List.length (List.append (List.take 0 ([] : List X_Value)) l)) (List.append (List.take 0 ([] : List X_Value)) l)) else none) = some l := by
    rw [if_pos ⟨by simp, by simpa using hl⟩]
    simp [List.take_length]
  rw [h]
  cases l with
  | nil => simp [agree]
  | cons a l => simp

theorem f_slices_Clone_string.spec {k : Nat} {l : List (List UInt8)} (hl : l.length * 16 ≤ LIM) : f_slices_Clone_string.u k l = some l := by
  show f_slices_Clone_string.f k l = _
  rw [f_slices_Clone_string.f, f_slices_Clone_string.b]
  have h : (if 0 ≤ (List.length ([] : List (List UInt8))) ∧ (0 + (List.length l)) * 16 ≤ LIM then some (List.take (List.length (List.append (List.take 0 ([] : List (List UInt8))) l)) (List.append (List.take 0 ([] : List (List UInt8))) l)) else none) = some l := by
    rw [if_pos ⟨by simp, by simpa using hl⟩]
    simp [List.take_length]
  rw [h]
  cases l with
  | nil => simp [agree]
  | cons a l => simp

theorem f_slices_Grow_Value.spec {k : Nat} {n : Int} (h0 : 0 ≤ n) (hn : n.toNat * 96 ≤ LIM) (hn2 : n ≤ 140737488355328) : f_slices_Grow_Value.u k ((), n) = some [] := by
  show f_slices_Grow_Value.f k () n = _
  rw [f_slices_Grow_Value.f, f_slices_Grow_Value.b, decide_eq_false (by omega), cond_false, show IntKind.i64.wrap (0 - 0) = 0 from rfl, Int.sub_zero, wrapI (by omega) (by omega)]
  by_cases h : n > 0
  · rw [decide_eq_true h, cond_true, if_pos ⟨rfl, rfl⟩, if_pos ⟨h, hn, hn2⟩, if_pos ⟨by omega, by omega, by omega⟩]
    rfl
  · rw [decide_eq_false h, cond_false]

theorem f_slices_Concat_Value.l2_spec {c : f_slices_Grow_Value.E} {k : Nat} {ls : List (List X_Value)} (hl : ls.length ≤ 4611686018427387904) (hb : ls.flatten.length * 96 ≤ LIM) (d : Nat) :
    ∀ (n i : Nat), i ≤ ls.length → ls.length - i = d → d < n → f_slices_Concat_Value.l2 c k n (ls.take i).flatten ls (ls.length : Int) (i : Int) = some ls.flatten := by
  induction d with
  | zero =>
    intro n i hi hd hn
    obtain ⟨n, rfl⟩ : ∃ m, n = m + 1 := ⟨n - 1, by omega⟩
    obtain rfl : i = ls.length := by omega
    rw [f_slices_Concat_Value.l2, f_slices_Concat_Value.b_l2, decide_eq_false (by omega), cond_false, List.take_length, List.take_length]
  | succ d ih =>
    intro n i hi hd hn
    obtain ⟨n, rfl⟩ : ∃ m, n = m + 1 := ⟨n - 1, by omega⟩
    have hlt : i < ls.length := by omega
    have nx := ih n (i + 1) (by omega) (by omega) (by omega)
    have e : (ls.take (i + 1)).flatten = (ls.take i).flatten ++ ls[i] := by
      rw [List.take_succ_eq_append_getElem hlt, List.flatten_append]; simp
    have hle : ((ls.take i).flatten.length + (ls[i]).length) * 96 ≤ LIM := by
      refine Nat.le_trans (Nat.mul_le_mul_right _ ?_) hb
      have h1 : (ls.take (i + 1)).flatten.length + (ls.drop (i + 1)).flatten.length = ls.flatten.length := by
        rw [← List.length_append, ← List.flatten_append, List.take_append_drop]
      rw [e, List.length_append] at h1
      omega
    rw [f_slices_Concat_Value.l2, f_slices_Concat_Value.b_l2, decide_eq_true (by omega), cond_true, if_pos ⟨by omega, by omega⟩, Int.toNat_natCast, getD_of hlt, if_pos ⟨Nat.le_refl _, hle⟩, wrapN (by omega), List.take_length, List.take_length, List.append_eq, ← e]
    exact nx
theorem f_slices_Concat_Value.l0_spec {k : Nat} {ls : List (List X_Value)} (hl : ls.length ≤ 140737488355328) (hb : ls.flatten.length * 96 ≤ LIM) (hb2 : ls.flatten.length ≤ 140737488355328) (hk : ls.length < k) (d : Nat) :
    ∀ (n i : Nat), i ≤ ls.length → ls.length - i = d → d < n → f_slices_Concat_Value.l0 (f_slices_Grow_Value.u k) k n ls ((ls.take i).flatten.length : Int) ls (ls.length : Int) (i : Int) = some ls.flatten := by
  induction d with
  | zero =>
    intro n i hi hd hn
    obtain ⟨n, rfl⟩ : ∃ m, n = m + 1 := ⟨n - 1, by omega⟩
    obtain rfl : i = ls.length := by omega
    rw [f_slices_Concat_Value.l0, f_slices_Concat_Value.b_l0, decide_eq_false (by omega), cond_false, List.take_length, f_slices_Grow_Value.spec (by omega) (by rw [Int.toNat_natCast]; exact hb) (by omega), Option.bind_some]
    exact f_slices_Concat_Value.l2_spec (by omega) hb ls.length k 0 (by omega) (by omega) hk
  | succ d ih =>
    intro n i hi hd hn
    obtain ⟨n, rfl⟩ : ∃ m, n = m + 1 := ⟨n - 1, by omega⟩
    have hlt : i < ls.length := by omega
    have nx := ih n (i + 1) (by omega) (by omega) (by omega)
    have e : (ls.take (i + 1)).flatten = (ls.take i).flatten ++ ls[i] := by
      rw [List.take_succ_eq_append_getElem hlt, List.flatten_append]; simp
    have h1 : (ls.take (i + 1)).flatten.length + (ls.drop (i + 1)).flatten.length = ls.flatten.length := by
      rw [← List.length_append, ← List.flatten_append, List.take_append_drop]
    rw [e, List.length_append] at h1 nx
    rw [f_slices_Concat_Value.l0, f_slices_Concat_Value.b_l0, decide_eq_true (by omega), cond_true, if_pos ⟨by omega, by omega⟩, Int.toNat_natCast, getD_of hlt, wrapI (by omega) (by omega), decide_eq_false (by omega), cond_false, wrapN (by omega)]
    rw [Int.natCast_add] at nx
    exact nx
theorem f_slices_Concat_Value.spec {k : Nat} {ls : List (List X_Value)} (hl : ls.length ≤ 140737488355328) (hb : ls.flatten.length * 96 ≤ LIM) (hb2 : ls.flatten.length ≤ 140737488355328) (hk : ls.length < k) : f_slices_Concat_Value.u k ls = some ls.flatten := by
  show f_slices_Concat_Value.f (f_slices_Grow_Value.u k) k ls = _
  rw [f_slices_Concat_Value.f, f_slices_Concat_Value.b]
  exact f_slices_Concat_Value.l0_spec hl hb hb2 hk ls.length k 0 (by omega) (by omega) hk

theorem f_slices_Grow_string.spec {k : Nat} {n : Int} (h0 : 0 ≤ n) (hn : n.toNat * 16 ≤ LIM) (hn2 : n ≤ 140737488355328) : f_slices_Grow_string.u k ((), n) = some [] := by
  show f_slices_Grow_string.f k () n = _
  rw [f_slices_Grow_string.f, f_slices_Grow_string.b, decide_eq_false (by omega), cond_false, show IntKind.i64.wrap (0 - 0) = 0 from rfl, Int.sub_zero, wrapI (by omega) (by omega)]
  by_cases h : n > 0
  · rw [decide_eq_true h, cond_true, if_pos ⟨rfl, rfl⟩, if_pos ⟨h, hn, hn2⟩, if_pos ⟨by omega, by omega, by omega⟩]
    rfl
  · rw [decide_eq_false h, cond_false]

theorem f_slices_Concat_string.l2_spec {c : f_slices_Grow_string.E} {k : Nat} {ls : List (List (List UInt8))} (hl : ls.length ≤ 4611686018427387904) (hb : ls.flatten.length * 16 ≤ LIM) (d : Nat) :
    ∀ (n i : Nat), i ≤ ls.length → ls.length - i = d → d < n → f_slices_Concat_string.l2 c k n (ls.take i).flatten ls (ls.length : Int) (i : Int) = some ls.flatten := by
  induction d with
  | zero =>
    intro n i hi hd hn
    obtain ⟨n, rfl⟩ : ∃ m, n = m + 1 := ⟨n - 1, by omega⟩
    obtain rfl : i = ls.length := by omega
    rw [f_slices_Concat_string.l2, f_slices_Concat_string.b_l2, decide_eq_false (by omega), cond_false, List.take_length, List.take_length]
  | succ d ih =>
    intro n i hi hd hn
    obtain ⟨n, rfl⟩ : ∃ m, n = m + 1 := ⟨n - 1, by omega⟩
    have hlt : i < ls.length := by omega
    have nx := ih n (i + 1) (by omega) (by omega) (by omega)
    have e : (ls.take (i + 1)).flatten = (ls.take i).flatten ++ ls[i] := by
      rw [List.take_succ_eq_append_getElem hlt, List.flatten_append]; simp
    have hle : ((ls.take i).flatten.length + (ls[i]).length) * 16 ≤ LIM := by
      refine Nat.le_trans (Nat.mul_le_mul_right _ ?_) hb
      have h1 : (ls.take (i + 1)).flatten.length + (ls.drop (i + 1)).flatten.length = ls.flatten.length := by
        rw [← List.length_append, ← List.flatten_append, List.take_append_drop]
      rw [e, List.length_append] at h1
      omega
    rw [f_slices_Concat_string.l2, f_slices_Concat_string.b_l2, decide_eq_true (by omega), cond_true, if_pos ⟨by omega, by omega⟩, Int.toNat_natCast, getD_of hlt, if_pos ⟨Nat.le_refl _, hle⟩, wrapN (by omega), List.take_length, List.take_length, List.append_eq, ← e]
    exact nx
theorem f_slices_Concat_string.l0_spec {k : Nat} {ls : List (List (List UInt8))} (hl : ls.length ≤ 140737488355328) (hb : ls.flatten.length * 16 ≤ LIM) (hb2 : ls.flatten.length ≤ 140737488355328) (hk : ls.length < k) (d : Nat) :
    ∀ (n i : Nat), i ≤ ls.length → ls.length - i = d → d < n → f_slices_Concat_string.l0 (f_slices_Grow_string.u k) k n ls ((ls.take i).flatten.length : Int) ls (ls.length : Int) (i : Int) = some ls.flatten := by
  induction d with
  | zero =>
    intro n i hi hd hn
    obtain ⟨n, rfl⟩ : ∃ m, n = m + 1 := ⟨n - 1, by omega⟩
    obtain rfl : i = ls.length := by omega
    rw [f_slices_Concat_string.l0, f_slices_Concat_string.b_l0, decide_eq_false (by omega), cond_false, List.take_length, f_slices_Grow_string.spec (by omega) (by rw [Int.toNat_natCast]; exact hb) (by omega), Option.bind_some]
    exact f_slices_Concat_string.l2_spec (by omega) hb ls.length k 0 (by omega) (by omega) hk
  | succ d ih =>
    intro n i hi hd hn
    obtain ⟨n, rfl⟩ : ∃ m, n = m + 1 := ⟨n - 1, by omega⟩
    have hlt : i < ls.length := by omega
    have nx := ih n (i + 1) (by omega) (by omega) (by omega)
    have e : (ls.take (i + 1)).flatten = (ls.take i).flatten ++ ls[i] := by
      rw [List.take_succ_eq_append_getElem hlt, List.flatten_append]; simp
    have h1 : (ls.take (i + 1)).flatten.length + (ls.drop (i + 1)).flatten.length = ls.flatten.length := by
      rw [← List.length_append, ← List.flatten_append, List.take_append_drop]
    rw [e, List.length_append] at h1 nx
    rw [f_slices_Concat_string.l0, f_slices_Concat_string.b_l0, decide_eq_true (by omega), cond_true, if_pos ⟨by omega, by omega⟩, Int.toNat_natCast, getD_of hlt, wrapI (by omega) (by omega), decide_eq_false (by omega), cond_false, wrapN (by omega)]
    rw [Int.natCast_add] at nx
    exact nx
theorem f_slices_Concat_string.spec {k : Nat} {ls : List (List (List UInt8))} (hl : ls.length ≤ 140737488355328) (hb : ls.flatten.length * 16 ≤ LIM) (hb2 : ls.flatten.length ≤ 140737488355328) (hk : ls.length < k) : f_slices_Concat_string.u k ls = some ls.flatten := by
  show f_slices_Concat_string.f (f_slices_Grow_string.u k) k ls = _
  rw [f_slices_Concat_string.f, f_slices_Concat_string.b]
  exact f_slices_Concat_string.l0_spec hl hb hb2 hk ls.length k 0 (by omega) (by omega) hk

theorem f_slices_Equal_string.l0_spec {k : Nat} {l m : List (List UInt8)} (hlm : l.length = m.length) (hl : l.length ≤ 4611686018427387904) (d : Nat) :
    ∀ (n i : Nat), i ≤ l.length → l.length - i = d → d < n → f_slices_Equal_string.l0 k n l m (l.length : Int) (i : Int) = some (l.drop i == m.drop i) := by
  induction d with
  | zero =>
    intro n i hi hd hn
    obtain ⟨n, rfl⟩ : ∃ m, n = m + 1 := ⟨n - 1, by omega⟩
    rw [f_slices_Equal_string.l0, f_slices_Equal_string.b_l0, decide_eq_false (by omega), cond_false, List.drop_of_length_le (by omega), List.drop_of_length_le (by omega)]
    rfl
  | succ d ih =>
    intro n i hi hd hn
    obtain ⟨n, rfl⟩ : ∃ m, n = m + 1 := ⟨n - 1, by omega⟩
    have hlt : i < l.length := by omega
    have hlt2 : i < m.length := by omega
    rw [f_slices_Equal_string.l0, f_slices_Equal_string.b_l0, decide_eq_true (by omega), cond_true, if_pos ⟨by omega, by omega⟩, if_pos ⟨by omega, by omega⟩, Int.toNat_natCast, getD_of hlt, getD_of hlt2, drop_cons hlt, drop_cons hlt2, bne]
    rw [show (l[i] :: l.drop (i + 1) == m[i] :: m.drop (i + 1)) = (l[i] == m[i] && l.drop (i + 1) == m.drop (i + 1)) from rfl]
    cases (l[i] == m[i]) with
    | false => rfl
    | true =>
      rw [Bool.not_true, cond_false, wrapN (by omega), Bool.true_and]
      exact ih n (i + 1) (by omega) (by omega) (by omega)
theorem f_slices_Equal_string.spec {k : Nat} {l m : List (List UInt8)} (hl : l.length ≤ 4611686018427387904) (hk : l.length < k) : f_slices_Equal_string.u k (l, m) = some (l == m) := by
  show f_slices_Equal_string.f k l m = _
  rw [f_slices_Equal_string.f, f_slices_Equal_string.b]
  by_cases h : l.length = m.length
  · rw [show ((l.length : Int) != (m.length : Int)) = false by simp [h], cond_false]
    exact f_slices_Equal_string.l0_spec h hl l.length k 0 (by omega) (by omega) hk
  · rw [show ((l.length : Int) != (m.length : Int)) = true by simp; omega, cond_true]
    congr 1
    symm
    rw [beq_eq_false_iff_ne]
    rintro rfl
    exact h rfl

theorem f_slices_Equal_uint32.l0_spec {k : Nat} {l m : List Int} (hlm : l.length = m.length) (hl : l.length ≤ 4611686018427387904) (d : Nat) :
    ∀ (n i : Nat), i ≤ l.length → l.length - i = d → d < n → f_slices_Equal_uint32.l0 k n l m (l.length : Int) (i : Int) = some (l.drop i == m.drop i) := by
  induction d with
  | zero =>
    intro n i hi hd hn
    obtain ⟨n, rfl⟩ : ∃ m, n = m + 1 := ⟨n - 1, by omega⟩
    rw [f_slices_Equal_uint32.l0, f_slices_Equal_uint32.b_l0, decide_eq_false (by omega), cond_false, List.drop_of_length_le (by omega), List.drop_of_length_le (by omega)]
    rfl
  | succ d ih =>
    intro n i hi hd hn
    obtain ⟨n, rfl⟩ : ∃ m, n = m + 1 := ⟨n - 1, by omega⟩
    have hlt : i < l.length := by omega
    have hlt2 : i < m.length := by omega
    rw [f_slices_Equal_uint32.l0, f_slices_Equal_uint32.b_l0, decide_eq_true (by omega), cond_true, if_pos ⟨by omega, by omega⟩, if_pos ⟨by omega, by omega⟩, Int.toNat_natCast, getD_of hlt, getD_of hlt2, drop_cons hlt, drop_cons hlt2, bne]
    rw [show (l[i] :: l.drop (i + 1) == m[i] :: m.drop (i + 1)) = (l[i] == m[i] && l.drop (i + 1) == m.drop (i + 1)) from rfl]
    cases (l[i] == m[i]) with
    | false => rfl
    | true =>
      rw [Bool.not_true, cond_false, wrapN (by omega), Bool.true_and]
      exact ih n (i + 1) (by omega) (by omega) (by omega)
theorem f_slices_Equal_uint32.spec {k : Nat} {l m : List Int} (hl : l.length ≤ 4611686018427387904) (hk : l.length < k) : f_slices_Equal_uint32.u k (l, m) = some (l == m) := by
  show f_slices_Equal_uint32.f k l m = _
  rw [f_slices_Equal_uint32.f, f_slices_Equal_uint32.b]
  by_cases h : l.length = m.length
  · rw [show ((l.length : Int) != (m.length : Int)) = false by simp [h], cond_false]
    exact f_slices_Equal_uint32.l0_spec h hl l.length k 0 (by omega) (by omega) hk
  · rw [show ((l.length : Int) != (m.length : Int)) = true by simp; omega, cond_true]
    congr 1
    symm
    rw [beq_eq_false_iff_ne]
    rintro rfl
    exact h rfl

theorem f_ref7_Strings.spec {k : Nat} {l m : List (List UInt8)} (hl : l.length ≤ 4611686018427387904) (hk : l.length < k) : f_ref7_Strings.u k (l, m) = some (l == m) := by
  show f_ref7_Strings.f (f_slices_Equal_string.u k) k _ _ = _
  rw [f_ref7_Strings.f, f_ref7_Strings.b, f_slices_Equal_string.spec hl hk]
  rfl
end Go.Ab
