/- A part of the proof: RS6. -/
import Derived.Test.YtgkjkmpeeneilaaFB1
import Derived.Test.YtgkjkmpeeneilaaPl1
namespace Go.Ab
set_option linter.unusedVariables false
set_option linter.unusedSimpArgs false

theorem f_slices_Index_int.l0_spec {k : Nat} {l : List Int} {v : Int} (hl : l.length ≤ 4611686018427387904) (d : Nat) :
    ∀ (n i : Nat), i ≤ l.length → l.length - i = d → d < n → f_slices_Index_int.l0 k n l v (l.length : Int) (i : Int) = some (idxF (fun y => v == y) (l.drop i) i) := by
  induction d with
  | zero =>
    intro n i hi hd hn
    obtain ⟨n, rfl⟩ : ∃ m, n = m + 1 := ⟨n - 1, by omega⟩
    rw [f_slices_Index_int.l0, f_slices_Index_int.b_l0, decide_eq_false (by omega), cond_false, List.drop_of_length_le (by omega)]
    rfl
  | succ d ih =>
    intro n i hi hd hn
    obtain ⟨n, rfl⟩ : ∃ m, n = m + 1 := ⟨n - 1, by omega⟩
    have hlt : i < l.length := by omega
    rw [f_slices_Index_int.l0, f_slices_Index_int.b_l0, decide_eq_true (by omega), cond_true, if_pos ⟨by omega, by omega⟩, Int.toNat_natCast, getD_of hlt, drop_cons hlt, idxF]
    cases (v == l[i]) with
    | true => rfl
    | false =>
      rw [cond_false, cond_false, wrapN (by omega)]
      exact ih n (i + 1) (by omega) (by omega) (by omega)
theorem f_slices_Index_int.spec {k : Nat} {l : List Int} {v : Int} (hl : l.length ≤ 4611686018427387904) (hk : l.length < k) : f_slices_Index_int.u k (l, v) = some (idxF (fun y => v == y) l 0) := by
  show f_slices_Index_int.f k l v = _
  rw [f_slices_Index_int.f, f_slices_Index_int.b]
  exact f_slices_Index_int.l0_spec hl l.length k 0 (by omega) (by omega) hk

theorem f_slices_Contains_int.spec {k : Nat} {l : List Int} {v : Int} (hl : l.length ≤ 4611686018427387904) (hk : l.length < k) : f_slices_Contains_int.u k (l, v) = some (l.any fun y => v == y) := by
  show f_slices_Contains_int.f (f_slices_Index_int.u k) k l v = _
  rw [f_slices_Contains_int.f, f_slices_Contains_int.b, f_slices_Index_int.spec hl hk, Option.bind_some, idxF_any]

theorem f_ref7_HasInt.spec {k : Nat} {l : List Int} {v : Int} (hl : l.length ≤ 4611686018427387904) (hk : l.length < k) : f_ref7_HasInt.u k (l, v) = some (l.any fun y => v == y) := by
  show f_ref7_HasInt.f (f_slices_Contains_int.u k) k _ _ = _
  rw [f_ref7_HasInt.f, f_ref7_HasInt.b, f_slices_Contains_int.spec hl hk]
  rfl

theorem f_slices_IndexFunc_int.l0_spec {k : Nat} {l : List Int} {f : (Int × Unit) → Option Bool} {p : Int → Bool} (hf : ∀ x ∈ l, f (x, ()) = some (p x)) (hl : l.length ≤ 4611686018427387904) (d : Nat) :
    ∀ (n i : Nat), i ≤ l.length → l.length - i = d → d < n → f_slices_IndexFunc_int.l0 k n l f (l.length : Int) (i : Int) = some (idxF p (l.drop i) i) := by
  induction d with
  | zero =>
    intro n i hi hd hn
    obtain ⟨n, rfl⟩ : ∃ m, n = m + 1 := ⟨n - 1, by omega⟩
    rw [f_slices_IndexFunc_int.l0, f_slices_IndexFunc_int.b_l0, decide_eq_false (by omega), cond_false, List.drop_of_length_le (by omega)]
    rfl
  | succ d ih =>
    intro n i hi hd hn
    obtain ⟨n, rfl⟩ : ∃ m, n = m + 1 := ⟨n - 1, by omega⟩
    have hlt : i < l.length := by omega
    rw [f_slices_IndexFunc_int.l0, f_slices_IndexFunc_int.b_l0, decide_eq_true (by omega), cond_true, if_pos ⟨by omega, by omega⟩, Int.toNat_natCast, getD_of hlt, hf _ (List.getElem_mem hlt), Option.bind_some, drop_cons hlt, idxF]
    cases p l[i] with
    | true => rfl
    | false =>
      rw [cond_false, cond_false, wrapI (by omega) (by omega), show (i : Int) + 1 = ((i + 1 : Nat) : Int) from rfl]
      exact ih n (i + 1) (by omega) (by omega) (by omega)
theorem f_slices_IndexFunc_int.spec {k : Nat} {l : List Int} {f : (Int × Unit) → Option Bool} {p : Int → Bool} (hf : ∀ x ∈ l, f (x, ()) = some (p x)) (hl : l.length ≤ 4611686018427387904) (hk : l.length < k) :
    f_slices_IndexFunc_int.u k (l, f) = some (idxF p l 0) := by
  show f_slices_IndexFunc_int.f k l f = _
  rw [f_slices_IndexFunc_int.f, f_slices_IndexFunc_int.b]
  exact f_slices_IndexFunc_int.l0_spec hf hl l.length k 0 (by omega) (by omega) hk

theorem f_slices_ContainsFunc_int.spec {k : Nat} {l : List Int} {f : (Int × Unit) → Option Bool} {p : Int → Bool} (hf : ∀ x ∈ l, f (x, ()) = some (p x)) (hl : l.length ≤ 4611686018427387904) (hk : l.length < k) :
    f_slices_ContainsFunc_int.u k (l, f) = some (l.any p) := by
  show f_slices_ContainsFunc_int.f (f_slices_IndexFunc_int.u k) k l f = _
  rw [f_slices_ContainsFunc_int.f, f_slices_ContainsFunc_int.b, f_slices_IndexFunc_int.spec hf hl hk, Option.bind_some, idxF_any]

theorem f_slices_IndexFunc_Lint.l0_spec {k : Nat} {l : List (List Int)} {f : ((List Int) × Unit) → Option Bool} {p : (List Int) → Bool} (hf : ∀ x ∈ l, f (x, ()) = some (p x)) (hl : l.length ≤ 4611686018427387904) (d : Nat) :
    ∀ (n i : Nat), i ≤ l.length → l.length - i = d → d < n → f_slices_IndexFunc_Lint.l0 k n l f (l.length : Int) (i : Int) = some (idxF p (l.drop i) i) := by
  induction d with
  | zero =>
    intro n i hi hd hn
    obtain ⟨n, rfl⟩ : ∃ m, n = m + 1 := ⟨n - 1, by omega⟩
    rw [f_slices_IndexFunc_Lint.l0, f_slices_IndexFunc_Lint.b_l0, decide_eq_false (by omega), cond_false, List.drop_of_length_le (by omega)]
    rfl
  | succ d ih =>
    intro n i hi hd hn
    obtain ⟨n, rfl⟩ : ∃ m, n = m + 1 := ⟨n - 1, by omega⟩
    have hlt : i < l.length := by omega
    rw [f_slices_IndexFunc_Lint.l0, f_slices_IndexFunc_Lint.b_l0, decide_eq_true (by omega), cond_true, if_pos ⟨by omega, by omega⟩, Int.toNat_natCast, getD_of hlt, hf _ (List.getElem_mem hlt), Option.bind_some, drop_cons hlt, idxF]
    cases p l[i] with
    | true => rfl
    | false =>
      rw [cond_false, cond_false, wrapI (by omega) (by omega), show (i : Int) + 1 = ((i + 1 : Nat) : Int) from rfl]
      exact ih n (i + 1) (by omega) (by omega) (by omega)
theorem f_slices_IndexFunc_Lint.spec {k : Nat} {l : List (List Int)} {f : ((List Int) × Unit) → Option Bool} {p : (List Int) → Bool} (hf : ∀ x ∈ l, f (x, ()) = some (p x)) (hl : l.length ≤ 4611686018427387904) (hk : l.length < k) :
    f_slices_IndexFunc_Lint.u k (l, f) = some (idxF p l 0) := by
  show f_slices_IndexFunc_Lint.f k l f = _
  rw [f_slices_IndexFunc_Lint.f, f_slices_IndexFunc_Lint.b]
  exact f_slices_IndexFunc_Lint.l0_spec hf hl l.length k 0 (by omega) (by omega) hk

theorem f_slices_ContainsFunc_Lint.spec {k : Nat} {l : List (List Int)} {f : ((List Int) × Unit) → Option Bool} {p : (List Int) → Bool} (hf : ∀ x ∈ l, f (x, ()) = some (p x)) (hl : l.length ≤ 4611686018427387904) (hk : l.length < k) :
    f_slices_ContainsFunc_Lint.u k (l, f) = some (l.any p) := by
  show f_slices_ContainsFunc_Lint.f (f_slices_IndexFunc_Lint.u k) k l f = _
  rw [f_slices_ContainsFunc_Lint.f, f_slices_ContainsFunc_Lint.b, f_slices_IndexFunc_Lint.spec hf hl hk, Option.bind_some, idxF_any]

theorem f_slices_Equal_int.l0_spec {k : Nat} {l m : List Int} (hlm : l.length = m.length) (hl : l.length ≤ 4611686018427387904) (d : Nat) :
    ∀ (n i : Nat), i ≤ l.length → l.length - i = d → d < n → f_slices_Equal_int.l0 k n l m (l.length : Int) (i : Int) = some (l.drop i == m.drop i) := by
  induction d with
  | zero =>
    intro n i hi hd hn
    obtain ⟨n, rfl⟩ : ∃ m, n = m + 1 := ⟨n - 1, by omega⟩
    rw [f_slices_Equal_int.l0, f_slices_Equal_int.b_l0, decide_eq_false (by omega), cond_false, List.drop_of_length_le (by omega), List.drop_of_length_le (by omega)]
    rfl
  | succ d ih =>
    intro n i hi hd hn
    obtain ⟨n, rfl⟩ : ∃ m, n = m + 1 := ⟨n - 1, by omega⟩
    have hlt : i < l.length := by omega
    have hlt2 : i < m.length := by omega
    rw [f_slices_Equal_int.l0, f_slices_Equal_int.b_l0, decide_eq_true (by omega), cond_true, if_pos ⟨by omega, by omega⟩, if_pos ⟨by omega, by omega⟩, Int.toNat_natCast, getD_of hlt, getD_of hlt2, drop_cons hlt, drop_cons hlt2, bne]
    rw [show (l[i] :: l.drop (i + 1) == m[i] :: m.drop (i + 1)) = (l[i] == m[i] && l.drop (i + 1) == m.drop (i + 1)) from rfl]
    cases (l[i] == m[i]) with
    | false => rfl
    | true =>
      rw [Bool.not_true, cond_false, wrapN (by omega), Bool.true_and]
      exact ih n (i + 1) (by omega) (by omega) (by omega)
theorem f_slices_Equal_int.spec {k : Nat} {l m : List Int} (hl : l.length ≤ 4611686018427387904) (hk : l.length < k) : f_slices_Equal_int.u k (l, m) = some (l == m) := by
  show f_slices_Equal_int.f k l m = _
  rw [f_slices_Equal_int.f, f_slices_Equal_int.b]
  by_cases h : l.length = m.length
  · rw [show ((l.length : Int) != (m.length : Int)) = false by simp [h], cond_false]
    exact f_slices_Equal_int.l0_spec h hl l.length k 0 (by omega) (by omega) hk
  · rw [show ((l.length : Int) != (m.length : Int)) = true by simp; omega, cond_true]
    congr 1
    symm
    rw [beq_eq_false_iff_ne]
    rintro rfl
    exact h rfl

theorem f_ref7_Ints.spec {k : Nat} {l m : List Int} (hl : l.length ≤ 4611686018427387904) (hk : l.length < k) : f_ref7_Ints.u k (l, m) = some (l == m) := by
  show f_ref7_Ints.f (f_slices_Equal_int.u k) k _ _ = _
  rw [f_ref7_Ints.f, f_ref7_Ints.b, f_slices_Equal_int.spec hl hk]
  rfl

theorem f_slices_DeleteFunc_Lint.l0_spec {c : f_slices_IndexFunc_Lint.E} {k : Nat} {f : ((List Int) × Unit) → Option Bool} {p : (List Int) → Bool} {l : List (List Int)} (hf : ∀ x ∈ l, f (x, ()) = some (p x)) (hl : l.length ≤ 4611686018427387904) (d : Nat) :
    ∀ (n i j : Nat) (x : List (List Int)), x.length = l.length → i ≤ j → j ≤ l.length → l.length - j = d → d < n → x.drop j = l.drop j → x.take i = (l.take j).filter (fun y => !p y) →
      f_slices_DeleteFunc_Lint.l0 c k n x f (i : Int) (j : Int) = some (l.filter fun y => !p y) := by
  induction d with
  | zero =>
    intro n i j x hx hij hj hd hn hdr htk
    obtain ⟨n, rfl⟩ : ∃ m, n = m + 1 := ⟨n - 1, by omega⟩
    obtain rfl : j = l.length := by omega
    rw [f_slices_DeleteFunc_Lint.l0, f_slices_DeleteFunc_Lint.b_l0, hx, decide_eq_false (by omega), cond_false, if_pos ⟨by omega, by omega, by omega⟩, if_pos (by omega), if_pos ⟨by omega, by omega, by omega⟩]
    rw [show ((i : Int) - 0).toNat = i by omega, show 0 + ((i : Int)).toNat = i by omega, List.append_assoc, List.take_append_of_le_length (by rw [List.length_take]; omega), List.take_take, Nat.min_self, htk, List.take_length]
  | succ d ih =>
    intro n i j x hx hij hj hd hn hdr htk
    obtain ⟨n, rfl⟩ : ∃ m, n = m + 1 := ⟨n - 1, by omega⟩
    have hlt : j < l.length := by omega
    have hlx : j < x.length := by omega
    have hxj : x[j] = l[j] := by
      have h1 := drop_cons hlx
      rw [hdr, drop_cons hlt] at h1
      exact (List.cons.inj h1).1.symm
    have htk' : (l.take (j + 1)).filter (fun y => !p y) = (l.take j).filter (fun y => !p y) ++ bif p l[j] then [] else [l[j]] := by
      rw [List.take_succ_eq_append_getElem hlt, List.filter_append]
      cases h : p l[j] <;> simp [h]
    rw [f_slices_DeleteFunc_Lint.l0, f_slices_DeleteFunc_Lint.b_l0, hx, decide_eq_true (by omega), cond_true, if_pos ⟨by omega, by omega⟩, show 0 + ((j : Int)).toNat = j by omega, show 0 + ((i : Int)).toNat = i by omega, getD_of hlx, hxj, hf _ (List.getElem_mem hlt), Option.bind_some]
    cases hp : p l[j] with
    | true =>
      rw [Bool.not_true, cond_false, wrapN (by omega), ← hx, List.take_length]
      refine ih n i (j + 1) x hx (by omega) (by omega) (by omega) (by omega) ?_ ?_
      · have h1 := drop_cons hlx
        rw [hdr, drop_cons hlt] at h1
        exact (List.cons.inj h1).2.symm
      · rw [htk', hp, htk]; simp
    | false =>
      rw [Bool.not_false, cond_true, if_pos ⟨by omega, by omega⟩, wrapN (by omega), wrapN (by omega)]
      have hs : (x.set i l[j]).length = l.length := by rw [List.length_set]; exact hx
      rw [← hs, List.take_length]
      refine ih n (i + 1) (j + 1) _ hs (by omega) (by omega) (by omega) (by omega) ?_ ?_
      · rw [List.drop_set_of_lt (by omega)]
        have h1 := drop_cons hlx
        rw [hdr, drop_cons hlt] at h1
        exact (List.cons.inj h1).2.symm
      · rw [htk', hp, List.take_succ_eq_append_getElem (by omega), List.take_set_of_le (Nat.le_refl _), htk]
        simp
theorem f_slices_DeleteFunc_Lint.spec {k : Nat} {f : ((List Int) × Unit) → Option Bool} {p : (List Int) → Bool} {l : List (List Int)} (hf : ∀ x ∈ l, f (x, ()) = some (p x)) (hl : l.length ≤ 4611686018427387904) (hk : l.length < k) :
    f_slices_DeleteFunc_Lint.u k (l, f) = some (l.filter fun y => !p y) := by
  show f_slices_DeleteFunc_Lint.f (f_slices_IndexFunc_Lint.u k) k l f = _
  rw [f_slices_DeleteFunc_Lint.f, f_slices_DeleteFunc_Lint.b, List.take_length, f_slices_IndexFunc_Lint.spec hf hl hk, Option.bind_some]
  cases ha : l.any p with
  | false =>
    rw [idxF_neg p l 0 ha]
    rw [show ((-1 : Int) == -1) = true from rfl, cond_true]
    congr 1
    symm
    rw [List.filter_eq_self]
    intro a hm
    rw [List.any_eq_false] at ha
    simpa using ha a hm
  | true =>
    have h0 : 0 ≤ idxF p l 0 := by
      have := idxF_any p l 0
      rw [ha] at this
      simpa using this
    obtain ⟨j, hj, h1, h2, h3⟩ := idxF_spec p l 0 h0
    rw [h1, Nat.zero_add, show (((j : Nat) : Int) == -1) = false by rw [beq_eq_false_iff_ne]; omega, cond_false, wrapN (by omega)]
    refine f_slices_DeleteFunc_Lint.l0_spec hf hl (l.length - (j + 1)) k j (j + 1) l rfl (by omega) (by omega) rfl (by omega) rfl ?_
    rw [List.take_succ_eq_append_getElem hj, List.filter_append]
    simp only [h2, List.filter_cons, Bool.not_true, List.filter_nil]
    rw [List.filter_eq_self.2]
    · simp
    · intro a hm
      obtain ⟨m, hm1, rfl⟩ := List.mem_take_iff_getElem.1 hm
      simpa using h3 m (by omega)

theorem f_slices_Clone_Lint.spec {k : Nat} {l : List (List Int)} (hl : l.length * 24 ≤ LIM) : f_slices_Clone_Lint.u k l = some l := by
  show f_slices_Clone_Lint.f k l = _
  rw [f_slices_Clone_Lint.f, f_slices_Clone_Lint.b]
  have h : (if 0 ≤ (List.length ([] : List (List Int))) ∧ (0 + (List.length l)) * 24 ≤ LIM then some (List.take (List.length (List.append (List.take 0 ([] : List (List Int))) l)) (List.append (List.take 0 ([] : List (List Int))) l)) else none) = some l := by
    rw [if_pos ⟨by simp, by simpa using hl⟩]
    simp [List.take_length]
  rw [h]
  cases l with
  | nil => simp [agree]
  | cons a l => simp
end Go.Ab
