/- A part of the proof: RS32. -/
import Derived.Test.YtgkjkmpeeneilaaRS10
import Derived.Test.YtgkjkmpeeneilaaFE1
namespace Go.Ab
set_option linter.unusedVariables false
set_option linter.unusedSimpArgs false

theorem f_slices_Grow_int.spec {k : Nat} {n : Int} (h0 : 0 ≤ n) (hn : n.toNat * 8 ≤ LIM) (hn2 : n ≤ 140737488355328) : f_slices_Grow_int.u k ((), n) = some [] := by
  show f_slices_Grow_int.f k () n = _
  rw [f_slices_Grow_int.f, f_slices_Grow_int.b, decide_eq_false (by omega), cond_false, show IntKind.i64.wrap (0 - 0) = 0 from rfl, Int.sub_zero, wrapI (by omega) (by omega)]
  by_cases h : n > 0
  · rw [decide_eq_true h, cond_true, if_pos ⟨rfl, rfl⟩, if_pos ⟨h, hn, hn2⟩, if_pos ⟨by omega, by omega, by omega⟩]
    rfl
  · rw [decide_eq_false h, cond_false]


theorem f_slices_Concat_int.l2_spec {c : f_slices_Grow_int.E} {k : Nat} {ls : List (List Int)} (hl : ls.length ≤ 4611686018427387904) (hb : ls.flatten.length * 8 ≤ LIM) (d : Nat) :
    ∀ (n i : Nat), i ≤ ls.length → ls.length - i = d → d < n → f_slices_Concat_int.l2 c k n (ls.take i).flatten ls (ls.length : Int) (i : Int) = some ls.flatten := by
  induction d with
  | zero =>
    intro n i hi hd hn
    obtain ⟨n, rfl⟩ : ∃ m, n = m + 1 := ⟨n - 1, by omega⟩
    obtain rfl : i = ls.length := by omega
    rw [f_slices_Concat_int.l2, f_slices_Concat_int.b_l2, decide_eq_false (by omega), cond_false, List.take_length, List.take_length]
  | succ d ih =>
    intro n i hi hd hn
    obtain ⟨n, rfl⟩ : ∃ m, n = m + 1 := ⟨n - 1, by omega⟩
    have hlt : i < ls.length := by omega
    have nx := ih n (i + 1) (by omega) (by omega) (by omega)
    have e : (ls.take (i + 1)).flatten = (ls.take i).flatten ++ ls[i] := by
      rw [List.take_succ_eq_append_getElem hlt, List.flatten_append]; simp
    have hle : ((ls.take i).flatten.length + (ls[i]).length) * 8 ≤ LIM := by
      refine Nat.le_trans (Nat.mul_le_mul_right _ ?_) hb
      have h1 : (ls.take (i + 1)).flatten.length + (ls.drop (i + 1)).flatten.length = ls.flatten.length := by
        rw [← List.length_append, ← List.flatten_append, List.take_append_drop]
      rw [e, List.length_append] at h1
      omega
    rw [f_slices_Concat_int.l2, f_slices_Concat_int.b_l2, decide_eq_true (by omega), cond_true, if_pos ⟨by omega, by omega⟩, Int.toNat_natCast, getD_of hlt, if_pos ⟨Nat.le_refl _, hle⟩, wrapN (by omega), List.take_length, List.take_length, List.append_eq, ← e]
    exact nx
theorem f_slices_Concat_int.l0_spec {k : Nat} {ls : List (List Int)} (hl : ls.length ≤ 140737488355328) (hb : ls.flatten.length * 8 ≤ LIM) (hb2 : ls.flatten.length ≤ 140737488355328) (hk : ls.length < k) (d : Nat) :
    ∀ (n i : Nat), i ≤ ls.length → ls.length - i = d → d < n → f_slices_Concat_int.l0 (f_slices_Grow_int.u k) k n ls ((ls.take i).flatten.length : Int) ls (ls.length : Int) (i : Int) = some ls.flatten := by
  induction d with
  | zero =>
    intro n i hi hd hn
    obtain ⟨n, rfl⟩ : ∃ m, n = m + 1 := ⟨n - 1, by omega⟩
    obtain rfl : i = ls.length := by omega
    rw [f_slices_Concat_int.l0, f_slices_Concat_int.b_l0, decide_eq_false (by omega), cond_false, List.take_length, f_slices_Grow_int.spec (by omega) (by rw [Int.toNat_natCast]; exact hb) (by omega), Option.bind_some]
    exact f_slices_Concat_int.l2_spec (by omega) hb ls.length k 0 (by omega) (by omega) hk
  | succ d ih =>
    intro n i hi hd hn
    obtain ⟨n, rfl⟩ : ∃ m, n = m + 1 := ⟨n - 1, by omega⟩
    have hlt : i < ls.length := by omega
    have nx := ih n (i + 1) (by omega) (by omega) (by omega)
    have e : (ls.take (i + 1)).flatten = (ls.take i).flatten ++ ls[i] := by
      rw [List.take_succ_eq_append_getElem hlt, List.flatten_append]; simp
    have h1 : (ls.take (i + 1)).flatten.length + (ls.drop (i + 1)).flatten.length = ls.flatten.length := by
      rw [← List.length_append, ← List.flatten_append, List.take_append_drop]
    rw [e, List.length_append] at h1 nx
    rw [f_slices_Concat_int.l0, f_slices_Concat_int.b_l0, decide_eq_true (by omega), cond_true, if_pos ⟨by omega, by omega⟩, Int.toNat_natCast, getD_of hlt, wrapI (by omega) (by omega), decide_eq_false (by omega), cond_false, wrapN (by omega)]
    rw [Int.natCast_add] at nx
    exact nx
theorem f_slices_Concat_int.spec {k : Nat} {ls : List (List Int)} (hl : ls.length ≤ 140737488355328) (hb : ls.flatten.length * 8 ≤ LIM) (hb2 : ls.flatten.length ≤ 140737488355328) (hk : ls.length < k) : f_slices_Concat_int.u k ls = some ls.flatten := by
  show f_slices_Concat_int.f (f_slices_Grow_int.u k) k ls = _
  rw [f_slices_Concat_int.f, f_slices_Concat_int.b]
  exact f_slices_Concat_int.l0_spec hl hb hb2 hk ls.length k 0 (by omega) (by omega) hk


theorem f_slices_Min_int.l0_spec {k : Nat} {l : List Int} (hl : l.length ≤ 4611686018427387904) (d : Nat) : ∀ (n i : Nat) (m : Int), i ≤ l.length → l.length - i = d → d < n → m ∈ l → (∀ x ∈ l.take i, m ≤ x) →
    ∃ y, f_slices_Min_int.l0 k n l m (i : Int) = some y ∧ y ∈ l ∧ ∀ x ∈ l, y ≤ x := by
  induction d with
  | zero =>
    intro n i m hi hd hn hm hle
    obtain ⟨n, rfl⟩ : ∃ m, n = m + 1 := ⟨n - 1, by omega⟩
    obtain rfl : i = l.length := by omega
    rw [f_slices_Min_int.l0, f_slices_Min_int.b_l0, decide_eq_false (by omega), cond_false]
    rw [List.take_length] at hle
    exact ⟨m, rfl, hm, hle⟩
  | succ d ih =>
    intro n i m hi hd hn hm hle
    obtain ⟨n, rfl⟩ : ∃ m, n = m + 1 := ⟨n - 1, by omega⟩
    have hlt : i < l.length := by omega
    rw [f_slices_Min_int.l0, f_slices_Min_int.b_l0, decide_eq_true (by omega), cond_true, if_pos ⟨by omega, by omega⟩, Int.toNat_natCast, getD_of hlt, wrapN (by omega)]
    refine ih n (i + 1) _ (by omega) (by omega) (by omega) ?_ ?_
    · split
      · exact List.getElem_mem _
      · exact hm
    · intro x hx
      rw [List.take_succ_eq_append_getElem hlt] at hx
      rcases List.mem_append.1 hx with hx | hx
      · have := hle x hx
        split <;> omega
      · rw [List.mem_singleton.1 hx]
        split <;> omega
theorem f_slices_Min_int.spec {k : Nat} {l : List Int} (hl : l.length ≤ 4611686018427387904) (hk : l.length < k) (h0 : l ≠ []) : ∃ y, f_slices_Min_int.u k l = some y ∧ y ∈ l ∧ ∀ x ∈ l, y ≤ x := by
  show ∃ y, f_slices_Min_int.f k l = some y ∧ _
  have h1 := List.length_pos_iff.2 h0
  rw [f_slices_Min_int.f, f_slices_Min_int.q, f_slices_Min_int.c, decide_eq_false (by omega), cond_false, if_pos (by omega), getD_of h1]
  exact f_slices_Min_int.l0_spec hl (l.length - 1) k 1 _ (by omega) rfl (by omega) (List.getElem_mem _) (fun x hx => by
    rw [List.take_succ_eq_append_getElem h1, List.take_zero, List.nil_append] at hx
    rw [List.mem_singleton.1 hx]
    exact Int.le_refl _)
end Go.Ab
