/- Whole numbers as the program has them: limbs of 32 bits. -/
import Derived.Test.YtdekjkgfohlmgaaGreatDoorW0
namespace Go.Ab
set_option linter.unusedVariables false
set_option linter.unusedSimpArgs false
theorem getD_out {α : Type} {l : List α} {i : Nat} (h : l.length ≤ i) (z : α) : l.getD i z = z := by simp [List.getD, List.getElem?_eq_none h]
theorem bv_take (x : List Bool) (j s : Nat) : bv ((x.drop j).take (s + 1)) = (x.getD j false).toNat + 2 * bv ((x.drop (j + 1)).take s) := by
  by_cases h : j < x.length
  · rw [drop_cons h, List.take_succ_cons, bv, getD_of h]
  · rw [List.drop_of_length_le (by omega), List.drop_of_length_le (by omega), List.take_nil, List.take_nil, getD_out (by omega)]
    rfl
theorem bv_take_lt (x : List Bool) (j s : Nat) (hs : s ≤ 16) : bv ((x.drop j).take s) < 65536 := by
  have h := bv_lt ((x.drop j).take s)
  have h2 : 2 ^ ((x.drop j).take s).length ≤ 2 ^ 16 := Nat.pow_le_pow_right (by omega) (by rw [List.length_take]; omega)
  have : (2 : Nat) ^ 16 = 65536 := rfl
  omega
theorem F95.l2_spec {k : Nat} {N : List Bool → List Int → Int → Option (List Int)} {x : List Bool} {i : Nat} (hi : i ≤ 100000000) (hx : x.length ≤ 100000000) :
    ∀ (r n s : Nat) (out : List Int), r + s = 16 → r < n → out.length ≤ 100000000 →
      F95.l2 (F136.u k) k N n x out (i : Int) ((bv ((x.drop (i + r)).take s) : Nat) : Int) ((r : Int) - 1) = N x (out ++ [((bv ((x.drop i).take 16) : Nat) : Int)]) ((i + 16 : Nat) : Int) := by
  intro r
  induction r with
  | zero =>
    intro n s out hm hn ho
    obtain ⟨n, rfl⟩ : ∃ m, n = m + 1 := ⟨n - 1, by omega⟩
    obtain rfl : s = 16 := by omega
    rw [F95.l2, F95.q_l2, F95.c_l2, decide_eq_false (by omega), cond_false, if_pos (by simp only [LIM, List.length_cons, List.length_nil]; omega), wrapI (by omega) (by omega), Nat.add_zero]
    rfl
  | succ r ih =>
    intro n s out hm hn ho
    obtain ⟨n, rfl⟩ : ∃ m, n = m + 1 := ⟨n - 1, by omega⟩
    have hlt := bv_take_lt x (i + (r + 1)) s (by omega)
    have h := ih n (s + 1) out (by omega) (by omega) ho
    rw [bv_take, Nat.add_assoc] at h
    rw [F95.l2, F95.q_l2, F95.c_l2, show ((r + 1 : Nat) : Int) - 1 = (r : Int) by omega, decide_eq_true (by omega), cond_true, wrapI (x := (i : Int) + (r : Int)) (by omega) (by omega), wrapI (x := (r : Int) - 1) (by omega) (by omega), wrapI (x := _ * 2) (by omega) (by omega), wrapI (x := _ * 2 + 1) (by omega) (by omega),
      show (i : Int) + (r : Int) = ((i + r : Nat) : Int) by omega, Int.toNat_natCast]
    by_cases hp : i + r < x.length
    · rw [decide_eq_true (by omega), cond_true, if_pos ⟨by omega, by omega⟩]
      cases hb : x.getD (i + r) false with
      | true =>
        rw [hb] at h
        rw [cond_true, ← h]
        congr 1
        simp only [Bool.toNat_true]; omega
      | false =>
        rw [hb] at h
        rw [cond_false, ← h]
        congr 1
        simp only [Bool.toNat_false]; omega
    · rw [getD_out (by omega)] at h
      rw [decide_eq_false (by omega), cond_false, ← h]
      congr 1
      simp only [Bool.toNat_false]; omega
theorem F95.l0_spec {k : Nat} {x : List Bool} (hx : x.length ≤ 1000000) (hk : 2000000 < k) :
    ∀ (m n i : Nat) (out : List Int), x.length - i ≤ 16 * m → i ≤ x.length + 16 → m < n → Dig out → out.length ≤ i → F95.l0 (F136.u k) k n x out (i : Int) = some (dg (vl (out ++ cb m (x.drop i)))) := by
  intro m
  induction m with
  | zero =>
    intro n i out hd hi hn ho hlo
    obtain ⟨n, rfl⟩ : ∃ m, n = m + 1 := ⟨n - 1, by omega⟩
    rw [F95.l0, F95.q_l0, F95.c_l0, decide_eq_false (by omega), cond_false, F136.spec ho (by omega) (by omega), cb, List.append_nil]
    rfl
  | succ m ih =>
    intro n i out hd hi hn ho hlo
    obtain ⟨n, rfl⟩ : ∃ m, n = m + 1 := ⟨n - 1, by omega⟩
    rw [F95.l0, F95.q_l0, F95.c_l0]
    by_cases hp : i < x.length
    · have hlt := bv_take_lt x i 16 (by omega)
      rw [decide_eq_true (by omega), cond_true, cb, if_neg (by intro h; have := congrArg List.length h; rw [List.length_drop, List.length_nil] at this; omega), List.drop_drop]
      have h := F95.l2_spec (k := k) (N := fun x0 x3 x4 => F95.l0 (F136.u k) k n x0 x3 x4) (x := x) (i := i) (by omega) (by omega) 16 k 0 out rfl (by omega) (by omega)
      rw [List.take_zero, bv] at h
      refine h.trans ?_
      rw [ih n (i + 16) _ (by omega) (by omega) (by omega) (dig_append.2 ⟨ho, dig_cons.2 ⟨by omega, dig_nil⟩⟩) (by simp; omega), List.append_assoc, List.singleton_append]
    · rw [decide_eq_false (by omega), cond_false, F136.spec ho (by omega) (by omega), cb, if_pos (List.drop_of_length_le (by omega)), List.append_nil]
      rfl
theorem F95.spec {k : Nat} {x : List Bool} (hx : x.length ≤ 1000000) (hk : 2000000 < k) : F95.u k x = some (dg (bv x)) := by
  show F95.f _ k _ = _
  rw [F95.f, F95.b]
  have h := F95.l0_spec (k := k) hx hk x.length k 0 [] (by omega) (by omega) (by omega) dig_nil (by simp)
  rw [List.nil_append, List.drop_zero, vl_cb (by omega)] at h
  exact h
def dl (n : Nat) : List Int := if h : n = 0 then [] else ((n % 4294967296 : Nat) : Int) :: dl (n / 4294967296)
termination_by n
decreasing_by exact Nat.div_lt_self (by omega) (by omega)
theorem dl_zero : dl 0 = [] := by rw [dl]; simp
theorem dl_pos {n : Nat} (h : n ≠ 0) : dl n = ((n % 4294967296 : Nat) : Int) :: dl (n / 4294967296) := by rw [dl, dif_neg h]
theorem lim_dl : ∀ n, Lim (dl n) := by
  intro n
  induction n using Nat.strongRecOn with
  | _ n ih =>
    by_cases h : n = 0
    · subst h; rw [dl_zero]; exact fun d hd => by cases hd
    · rw [dl_pos h]
      intro d hd
      rcases List.mem_cons.1 hd with rfl | hd
      · omega
      · exact ih _ (Nat.div_lt_self (by omega) (by omega)) d hd
def lm : List Int → List Int
  | [] => []
  | [a] => [a]
  | a :: b :: t => (a + b * 65536) :: lm t
theorem lm_dg : ∀ n, lm (dg n) = dl n := by
  intro n
  induction n using Nat.strongRecOn with
  | _ n ih =>
    by_cases h : n = 0
    · subst h; rw [dg_zero, dl_zero]; rfl
    · rw [dg_pos h, dl_pos h]
      by_cases h2 : n / 65536 = 0
      · rw [h2, dg_zero, show n / 4294967296 = 0 by omega, dl_zero, lm]
        congr 1
        omega
      · rw [dg_pos h2, lm, Nat.div_div_eq_div_mul, show 65536 * 65536 = 4294967296 from rfl, ih _ (Nat.div_lt_self (by omega) (by omega))]
        congr 1
        omega
theorem F135.l0_spec {k : Nat} {x : List Int} (hx : Dig x) (hb : x.length ≤ 1000000) (hk : 0 < k) : ∀ (d n i : Nat) (out : List Int), x.length - i ≤ d → i ≤ x.length + 1 → d < n → out.length ≤ i → F135.l0 k n x out (i : Int) = some (out ++ lm (x.drop i)) := by
  intro d
  induction d with
  | zero =>
    intro n i out hd hi hn ho
    obtain ⟨n, rfl⟩ : ∃ m, n = m + 1 := ⟨n - 1, by omega⟩
    rw [F135.l0, F135.q_l0, F135.c_l0, decide_eq_false (by omega), cond_false, List.drop_of_length_le (by omega), lm, List.append_nil]
  | succ d ih =>
    intro n i out hd hi hn ho
    obtain ⟨n, rfl⟩ : ∃ m, n = m + 1 := ⟨n - 1, by omega⟩
    rw [F135.l0, F135.q_l0, F135.c_l0]
    by_cases h0 : i < x.length
    · have d0 := hx _ (List.getElem_mem h0)
      rw [decide_eq_true (by omega), cond_true, if_pos ⟨by omega, by omega⟩, Int.toNat_natCast, getD_of h0, wrap32 (x := x[i]) (by omega) (by omega), wrapN (by omega)]
      by_cases h1 : i + 1 < x.length
      · have d1 := hx _ (List.getElem_mem h1)
        rw [decide_eq_true (by omega), cond_true, if_pos ⟨by omega, by omega⟩, Int.toNat_natCast, getD_of h1, wrap32 (x := x[i + 1]) (by omega) (by omega), wrap32 (x := x[i + 1] * 65536) (by omega) (by omega), wrap32 (by omega) (by omega),
          F135.g8, gate_pos hk, F135.q_g8, F135.c_g8, if_pos (by simp only [LIM, List.length_cons, List.length_nil]; omega), wrapI (by omega) (by omega), show (i : Int) + 2 = ((i + 2 : Nat) : Int) by omega,
          ih n (i + 2) _ (by omega) (by omega) (by omega) (by simp; omega), drop_cons h0, drop_cons h1, lm, List.append_assoc, List.singleton_append]
      · rw [decide_eq_false (by omega), cond_false, 
          F135.g8, gate_pos hk, F135.q_g8, F135.c_g8, if_pos (by simp only [LIM, List.length_cons, List.length_nil]; omega), wrapI (by omega) (by omega), show (i : Int) + 2 = ((i + 2 : Nat) : Int) by omega,
          ih n (i + 2) _ (by omega) (by omega) (by omega) (by simp; omega), drop_cons h0, List.drop_of_length_le (i := i + 1) (by omega), List.drop_of_length_le (i := i + 2) (by omega), lm, lm, List.append_nil]
    · rw [decide_eq_false (by omega), cond_false, List.drop_of_length_le (by omega), lm, List.append_nil]
theorem F135.spec {k a : Nat} (ha : lg a ≤ 1000000) (hk : lg a < k) : F135.u k (dg a) = some (dl a) := by
  show F135.f k _ = _
  have la := len_dg a
  rw [F135.f, F135.b]
  have h := F135.l0_spec (k := k) (dig_dg a) ha (by omega) (dg a).length k 0 [] (by omega) (by omega) (by omega) (by simp)
  rw [List.nil_append, List.drop_zero, lm_dg] at h
  exact h
def lb (n : Nat) : List Bool := if h : n = 0 then [] else (n % 2 == 1) :: lb (n / 2)
termination_by n
decreasing_by exact Nat.div_lt_self (by omega) (by omega)
theorem lb_zero : lb 0 = [] := by rw [lb]; simp
theorem lb_pos {n : Nat} (h : n ≠ 0) : lb n = (n % 2 == 1) :: lb (n / 2) := by rw [lb, dif_neg h]
theorem bv_lb : ∀ n, bv (lb n) = n := by
  intro n
  induction n using Nat.strongRecOn with
  | _ n ih =>
    by_cases h : n = 0
    · subst h; rw [lb_zero]; rfl
    · rw [lb_pos h, bv, ih _ (Nat.div_lt_self (by omega) (by omega))]
      rcases Nat.mod_two_eq_zero_or_one n with h | h <;> rw [h] <;> simp <;> omega
theorem F45.l0_spec {k : Nat} (hk : 2000000 < k) {z : X_Int} {neg : Bool} : ∀ (m n : Nat) (v : Int) (out : List Bool), v.natAbs < 2 ^ m → m < n → m + out.length ≤ 100 → -9223372036854775808 ≤ v → v ≤ 9223372036854775807 →
    F45.l0 (F95.u k) k n v z out neg = some (neg, dg (bv (out ++ lb v.natAbs))) := by
  intro m
  induction m with
  | zero =>
    intro n v out hv hn ho h1 h2
    obtain ⟨n, rfl⟩ : ∃ m, n = m + 1 := ⟨n - 1, by omega⟩
    obtain rfl : v = 0 := by rw [Nat.pow_zero] at hv; omega
    rw [F45.l0, F45.q_l0, F45.c_l0, show ((0 : Int) != 0) = false from rfl, cond_false, F95.spec (by omega) hk, Int.natAbs_zero, lb_zero, List.append_nil]
    rfl
  | succ m ih =>
    intro n v out hv hn ho h1 h2
    obtain ⟨n, rfl⟩ : ∃ m, n = m + 1 := ⟨n - 1, by omega⟩
    by_cases h0 : v = 0
    · subst h0
      rw [F45.l0, F45.q_l0, F45.c_l0, show ((0 : Int) != 0) = false from rfl, cond_false, F95.spec (by omega) hk, Int.natAbs_zero, lb_zero, List.append_nil]
      rfl
    · have hm : (Int.tmod v 2 != 0) = (v.natAbs % 2 == 1) := by
        have := Int.natAbs_tmod v 2
        rw [show (2 : Int).natAbs = 2 from rfl] at this
        rcases Nat.mod_two_eq_zero_or_one v.natAbs with h | h
        · rw [h] at this; rw [h, show Int.tmod v 2 = 0 by omega]; rfl
        · rw [h] at this
          rw [h, show (Int.tmod v 2 != 0) = true by rw [bne_iff_ne]; omega]; rfl
      have hq : (Int.tdiv v 2).natAbs = v.natAbs / 2 := by rw [Int.natAbs_tdiv]; rfl
      have hv0 : v.natAbs ≠ 0 := by omega
      rw [Nat.pow_succ] at hv
      rw [F45.l0, F45.q_l0, F45.c_l0, show (v != 0) = true by simpa using h0, cond_true, if_pos (by simp only [LIM, List.length_cons, List.length_nil]; omega), hm, wrapI (by omega) (by omega),
        ih n _ _ (by omega) (by omega) (by simp; omega) (by omega) (by omega), hq, lb_pos hv0, List.append_assoc, List.singleton_append]
/-- integers as the program has them -/
abbrev Zt := Bool × Nat
def en (z : Zt) : X_Int := (z.1, dg z.2)
theorem F45.spec {k : Nat} (hk : 2000000 < k) {v : Int} (h1 : -9223372036854775808 ≤ v) (h2 : v ≤ 9223372036854775807) : F45.u k v = some (en (decide (v < 0), v.natAbs)) := by
  show F45.f _ k _ = _
  rw [F45.f, F45.b]
  have h := F45.l0_spec (k := k) hk (z := (false, [])) (neg := decide (v < 0)) 64 k v [] (by have : (2 : Nat) ^ 64 = 18446744073709551616 := rfl; omega) (by omega) (by simp) h1 h2
  rw [List.nil_append, bv_lb] at h
  exact h
theorem len_pos (n : Nat) : decide (((dg n).length : Int) > 0) = decide (0 < n) := by
  rw [len_dg]
  by_cases h : n = 0
  · subst h; rw [lg_zero]; rfl
  · have := lg_of_pos h
    rw [decide_eq_true (by omega), decide_eq_true (by omega)]
def zval (z : Zt) : X_Value := (2, ((z.1 && decide (0 < z.2), dl z.2), ((false, []), ([], 0))))
theorem F134.spec {k : Nat} {z : Zt} (hz : lg z.2 ≤ 1000000) (hk : 1000000 < k) : F134.u k (en z) = some (zval z) := by
  show F134.f _ k _ = _
  rw [F134.f, F134.b]
  rw [show (en z).2 = dg z.2 from rfl, F135.spec hz (by omega), Option.bind_some, Option.bind_some]
  show (bif z.1 then some (2, ((decide (((dg z.2).length : Int) > 0), dl z.2), ((false, []), ([], 0)))) else some (2, ((false, dl z.2), ((false, []), ([], 0))))) = some (zval z)
  rw [len_pos]
  unfold zval
  cases z.1 <;> rfl
def zint (z : Zt) : Int := if z.1 then -(z.2 : Int) else z.2
/-- the value of a number -/
def hval (n : Int) : X_Value := (2, ((decide (n < 0), dl n.natAbs), ((false, []), ([], 0))))
theorem zval_eq (z : Zt) : zval z = hval (zint z) := by
  obtain ⟨s, m⟩ := z
  unfold zval hval zint
  cases s <;> simp <;> omega
theorem wrapU {x : Int} : IntKind.u64.wrap x = x % 18446744073709551616 := by
  simp only [IntKind.wrap, IntKind.signed, IntKind.bits]
  simp
theorem wrap32_mod {x : Int} : IntKind.u32.wrap x = x % 4294967296 := by
  simp only [IntKind.wrap, IntKind.signed, IntKind.bits]
  simp
theorem dl_len {m : Nat} : ∀ {n : Nat}, n < 4294967296 ^ m → (dl n).length ≤ m := by
  induction m with
  | zero => intro n h; rw [Nat.pow_zero] at h; rw [show n = 0 by omega, dl_zero]; simp
  | succ m ih =>
    intro n h
    by_cases h0 : n = 0
    · rw [h0, dl_zero]; simp
    · rw [dl_pos h0]
      have : (dl (n / 4294967296)).length ≤ m := ih (by rw [Nat.pow_succ] at h; omega)
      simp; omega
end Go.Ab
