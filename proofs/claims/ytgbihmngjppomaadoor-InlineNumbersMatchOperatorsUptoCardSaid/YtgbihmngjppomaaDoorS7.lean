/- Law 8: what is computed with small integers is what the operators give. -/
import Derived.Test.YtgbihmngjppomaaDoorS6
namespace Go.Ab
set_option linter.unusedVariables false
set_option linter.unusedSimpArgs false
theorem wrapU {x : Int} : IntKind.u64.wrap x = x % 18446744073709551616 := by
  simp only [IntKind.wrap, IntKind.signed, IntKind.bits]
  simp
theorem wrap32_mod {x : Int} : IntKind.u32.wrap x = x % 4294967296 := by
  simp only [IntKind.wrap, IntKind.signed, IntKind.bits]
  simp
theorem f_heap_Int.l0_spec {k : Nat} {x2 : X_Value} {r : X_Int × X_errorAddressString} {b : Bool} : ∀ (d m n : Nat) (out : List Int), m < 4294967296 ^ d → d < n → out.length + d ≤ 1000 →
    f_heap_Int.l0 k n x2 (2, ((b, out), r)) (m : Int) = some (2, ((b, out ++ dl m), r)) := by
  intro d
  induction d with
  | zero =>
    intro m n out hm hn ho
    obtain ⟨n, rfl⟩ : ∃ m, n = m + 1 := ⟨n - 1, by omega⟩
    rw [Nat.pow_zero] at hm
    obtain rfl : m = 0 := by omega
    rw [f_heap_Int.l0, f_heap_Int.q_l0, f_heap_Int.c_l0, decide_eq_false (by omega), cond_false, dl_zero, List.append_nil]
  | succ d ih =>
    intro m n out hm hn ho
    obtain ⟨n, rfl⟩ : ∃ m, n = m + 1 := ⟨n - 1, by omega⟩
    rw [Nat.pow_succ] at hm
    by_cases h0 : m = 0
    · subst h0
      rw [f_heap_Int.l0, f_heap_Int.q_l0, f_heap_Int.c_l0, decide_eq_false (by omega), cond_false, dl_zero, List.append_nil]
    · rw [f_heap_Int.l0, f_heap_Int.q_l0, f_heap_Int.c_l0, decide_eq_true (by omega), cond_true, if_pos (by simp only [LIM, List.length_cons, List.length_nil]; omega), wrap32_mod,
        show (2 : Int) ^ min (Int.toNat 32) IntKind.u64.bits = 4294967296 from rfl, Int.fdiv_eq_ediv_of_nonneg _ (by omega), show (m : Int) % 4294967296 = ((m % 4294967296 : Nat) : Int) by omega, show (m : Int) / 4294967296 = ((m / 4294967296 : Nat) : Int) by omega]
      dsimp only
      rw [ih _ n _ (by omega) (by omega) (by simp; omega), dl_pos h0, List.append_assoc, List.singleton_append]
theorem f_heap_Int.spec {k : Nat} (hk : 10 < k) {n : Int} (h1 : -9223372036854775808 ≤ n) (h2 : n ≤ 9223372036854775807) : f_heap_Int.u k n = some (hval n) := by
  show f_heap_Int.f  k n = _
  have hp : (4294967296 : Nat) ^ 2 = 18446744073709551616 := rfl
  rw [f_heap_Int.f, f_heap_Int.q, f_heap_Int.c]
  unfold hval
  by_cases h : n < 0
  · rw [decide_eq_true h, cond_true, wrapU, wrapU, show (0 - n % 18446744073709551616) % 18446744073709551616 = ((n.natAbs : Nat) : Int) by omega]
    exact f_heap_Int.l0_spec 2 n.natAbs k [] (by omega) (by omega) (by simp)
  · rw [decide_eq_false h, cond_false, wrapU, show n % 18446744073709551616 = ((n.natAbs : Nat) : Int) by omega]
    exact f_heap_Int.l0_spec 2 n.natAbs k [] (by omega) (by omega) (by simp)
/-- an integer of at most one limb -/
def sm (v : X_Value) : Bool := decide (v.1 = 2) && decide (v.2.1.2.length ≤ 1)
/-- its parts -/
def zv (v : X_Value) : Zt := (v.2.1.1, v32 v.2.1.2)
theorem sm_lt {v : X_Value} (t : TV v) (h : sm v = true) : (zv v).2 < 4294967296 := by
  unfold sm at h
  rw [Bool.and_eq_true, decide_eq_true_eq, decide_eq_true_eq] at h
  have h2 := t.num
  unfold zv
  dsimp only
  match hl : v.2.1.2, h.2, h2 with
  | [], _, _ => rw [v32]; omega
  | [d], _, h2 =>
    have := h2 d (by simp)
    simp only [v32]; omega
  | a :: b :: l, h3, _ => simp at h3
theorem f_inline_small.spec {k : Nat} {v : X_Value} (t : TV v) : f_inline_small.u k v = some (bif sm v then (zint (zv v), true) else (0, false)) := by
  show f_inline_small.f  k v = _
  rw [f_inline_small.f, f_inline_small.q, f_inline_small.c]
  unfold sm
  by_cases h1 : v.1 = 2
  · rw [h1, show ((2 : Int) != 2) = false from rfl, cond_false, decide_eq_true rfl, Bool.true_and]
    by_cases h2 : v.2.1.2.length ≤ 1
    · rw [decide_eq_false (by omega), cond_false, decide_eq_true h2, cond_true]
      unfold zint zv
      have h3 := t.num
      match hl : v.2.1.2, h2, h3 with
      | [], _, _ =>
        rw [decide_eq_false (by simp), cond_false, wrapI (by omega) (by omega)]
        cases v.2.1.1 <;> rfl
      | [d], _, h3 =>
        have hd := h3 d (by simp)
        rw [decide_eq_true (by simp), cond_true, if_pos (by simp)]
        simp only [List.getD_cons_zero, v32]
        rw [wrapI (x := d) (by omega) (by omega), wrapI (by omega) (by omega)]
        cases v.2.1.1
        · rw [cond_false, if_neg (by simp)]
          congr 2; omega
        · rw [cond_true, if_pos rfl]
          congr 2; omega
      | a :: b :: l, h3, _ => simp at h3
    · rw [decide_eq_true (by omega), cond_true, decide_eq_false h2, cond_false]
  · rw [show (v.1 != 2) = true by simpa using h1, cond_true, decide_eq_false h1, Bool.false_and, cond_false]
theorem f_law7_small.spec {k : Nat} {v : X_Value} : f_law7_small.u k v = some (sm v) := by
  show f_law7_small.f  k v = _
  rw [f_law7_small.f, f_law7_small.b]
  unfold sm
  by_cases h : v.1 = 2
  · rw [h, show ((2 : Int) == 2) = true from rfl, cond_true, decide_eq_true rfl, Bool.true_and]
    exact congrArg some (le_cast v.2.1.2.length 1)
  · rw [show (v.1 == 2) = false by simpa using h, cond_false, decide_eq_false h, Bool.false_and]
theorem f_law7_half.spec {k : Nat} {v : X_Value} (t : TV v) (h : sm v = true) : f_law7_half.u k v = some (decide ((zv v).2 < 2147483648)) := by
  show f_law7_half.f  k v = _
  rw [f_law7_half.f, f_law7_half.q, f_law7_half.c]
  unfold sm at h
  rw [Bool.and_eq_true, decide_eq_true_eq, decide_eq_true_eq] at h
  have h3 := t.num
  unfold zv
  match hl : v.2.1.2, h.2, h3 with
  | [], _, _ => rfl
  | [d], _, h3 =>
    have hd := h3 d (by simp)
    rw [show ((([d] : List Int).length : Int) == 0) = false from rfl, cond_false, if_pos (by simp)]
    refine congrArg some (decide_eq_decide.2 ?_)
    simp only [List.getD_cons_zero, v32]
    omega
  | a :: b :: l, h3, _ => simp at h3
theorem sm_pos {v : X_Value} (t : TV v) (o : VOk v) (h : sm v = true) : decide (((v.2.1.2.length : Nat) : Int) > 0) = decide ((zv v).2 ≠ 0) := by
  unfold sm at h
  rw [Bool.and_eq_true, decide_eq_true_eq, decide_eq_true_eq] at h
  have h3 := t.num
  have h4 := o.int h.1
  unfold zv
  unfold intB at h4
  match hl : v.2.1.2, h.2, h3, h4 with
  | [], _, _, _ => rfl
  | [d], _, h3, h4 =>
    have hd := h3 d (by simp)
    refine decide_eq_decide.2 ?_
    simp at h4
    simp [v32]
    omega
  | a :: b :: l, h3, _, _ => simp at h3
theorem sm_neg {v : X_Value} (t : TV v) (o : VOk v) (h : sm v = true) : (zv v).2 = 0 → (zv v).1 = false := by
  intro h0
  have hp := sm_pos t o h
  unfold sm at h
  rw [Bool.and_eq_true, decide_eq_true_eq, decide_eq_true_eq] at h
  have h4 := o.int h.1
  rw [h0, decide_eq_false (show ¬ (0 : Nat) ≠ 0 by omega), decide_eq_false_iff_not] at hp
  unfold intB at h4
  rw [decide_eq_true (show v.2.1.2.length = 0 by omega), cond_true, Bool.and_eq_true] at h4
  have := h4.2
  unfold zv
  revert this
  cases v.2.1.1 <;> simp
theorem qv_sm {v : X_Value} (h : sm v = true) : qv v = (zv v, 1) := by
  unfold sm at h
  rw [Bool.and_eq_true, decide_eq_true_eq, decide_eq_true_eq] at h
  unfold qv
  rw [h.1]
  rfl
/-- the quotient of the machine, brought down -/
theorem flo_machine {x y : Zt} (hy : y.2 ≠ 0) :
    (if Int.tmod (zint x) (zint y) ≠ 0 ∧ (decide (Int.tmod (zint x) (zint y) < 0) != decide (zint y < 0)) = true then
      Int.tdiv (zint x) (zint y) - 1 = flo x y ∧ Int.tmod (zint x) (zint y) + zint y = zint x - flo x y * zint y
    else Int.tdiv (zint x) (zint y) = flo x y ∧ Int.tmod (zint x) (zint y) = zint x - flo x y * zint y) := by
  obtain ⟨s, m⟩ := x
  obtain ⟨t, n⟩ := y
  dsimp only at hy
  have hd : (m : Int) = ((m / n : Nat) : Int) * (n : Int) + ((m % n : Nat) : Int) := by
    have := Nat.div_add_mod m n
    rw [Nat.mul_comm] at this
    rw [← Int.natCast_mul, ← Int.natCast_add, this]
  have hlt := Nat.mod_lt m (show n > 0 by omega)
  have h1 : Int.tdiv (m : Int) (n : Int) = ((m / n : Nat) : Int) := rfl
  have h2 : Int.tmod (m : Int) (n : Int) = ((m % n : Nat) : Int) := rfl
  unfold zint flo
  generalize ((m / n : Nat) : Int) = q at *
  generalize hr : m % n = r at *
  cases s <;> cases t <;> simp only [Bool.false_eq_true, if_false, if_true, reduceIte, Int.tdiv_neg, Int.neg_tdiv, Int.tmod_neg, Int.neg_tmod, h1, h2, Int.mul_neg, Int.neg_mul, Int.neg_neg, Bool.true_eq_false, reduceCtorEq]
  · split
    · rename_i h
      exfalso
      rw [decide_eq_false (show ¬ (r : Int) < 0 by omega), decide_eq_false (show ¬ (n : Int) < 0 by omega)] at h
      simp at h
    · exact ⟨trivial, by omega⟩
  · by_cases h0 : r = 0
    · subst h0
      simp [Int.neg_mul]
      omega
    · rw [if_neg h0, if_pos ⟨by omega, by rw [decide_eq_false (by omega), decide_eq_true (by omega)]; rfl⟩]
      refine ⟨rfl, ?_⟩
      rw [Int.sub_mul]
      simp only [Int.neg_mul, Int.mul_neg]
      omega
  · by_cases h0 : r = 0
    · subst h0
      simp [Int.neg_mul]
      omega
    · rw [if_neg h0, if_pos ⟨by omega, by rw [decide_eq_true (by omega), decide_eq_false (by omega)]; rfl⟩]
      refine ⟨rfl, ?_⟩
      rw [Int.sub_mul]
      simp only [Int.neg_mul, Int.mul_neg]
      omega
  · split
    · rename_i h
      exfalso
      rcases Nat.eq_zero_or_pos r with h0 | h0
      · subst h0; simp at h
      · rw [decide_eq_true (show -(r : Int) < 0 by omega), decide_eq_true (show -(n : Int) < 0 by omega)] at h
        simp at h
    · exact ⟨trivial, by omega⟩
end Go.Ab
