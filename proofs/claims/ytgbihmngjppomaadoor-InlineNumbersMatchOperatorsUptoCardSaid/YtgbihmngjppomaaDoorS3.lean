/- What the functions of integers and ratios answer, in plain words. -/
import Derived.Test.YtgbihmngjppomaaDoorS2
namespace Go.Ab
set_option linter.unusedVariables false
set_option linter.unusedSimpArgs false
/-! ### limbs again -/
def dl (n : Nat) : List Int := if h : n = 0 then [] else ((n % 4294967296 : Nat) : Int) :: dl (n / 4294967296)
termination_by n
decreasing_by exact Nat.div_lt_self (by omega) (by omega)
theorem dl_zero : dl 0 = [] := by rw [dl]; simp
theorem dl_pos {n : Nat} (h : n ≠ 0) : dl n = ((n % 4294967296 : Nat) : Int) :: dl (n / 4294967296) := by rw [dl, dif_neg h]
theorem v32_dl : ∀ n, v32 (dl n) = n := by
  intro n
  induction n using Nat.strongRecOn with
  | _ n ih =>
    by_cases h : n = 0
    · subst h; rw [dl_zero]; rfl
    · rw [dl_pos h, v32, ih _ (Nat.div_lt_self (by omega) (by omega))]
      omega
theorem dl_nil {n : Nat} : dl n = [] ↔ n = 0 := ⟨fun h => by have := v32_dl n; rw [h] at this; exact this.symm, fun h => by rw [h, dl_zero]⟩
theorem lim_dl : ∀ n, Lim (dl n) := by
  intro n
  induction n using Nat.strongRecOn with
  | _ n ih =>
    by_cases h : n = 0
    · subst h; rw [dl_zero]; exact fun d hd => by cases hd
    · rw [dl_pos h]
      intro d hd
      rcases List.mem_cons.1 hd with rfl | hd
      · omega
      · exact ih _ (Nat.div_lt_self (by omega) (by omega)) d hd
def lm : List Int → List Int
  | [] => []
  | [a] => [a]
  | a :: b :: t => (a + b * 65536) :: lm t
theorem lm_dg : ∀ n, lm (dg n) = dl n := by
  intro n
  induction n using Nat.strongRecOn with
  | _ n ih =>
    by_cases h : n = 0
    · subst h; rw [dg_zero, dl_zero]; rfl
    · rw [dg_pos h, dl_pos h]
      by_cases h2 : n / 65536 = 0
      · rw [h2, dg_zero, show n / 4294967296 = 0 by omega, dl_zero, lm]
        congr 1
        omega
      · rw [dg_pos h2, lm, Nat.div_div_eq_div_mul, show 65536 * 65536 = 4294967296 from rfl, ih _ (Nat.div_lt_self (by omega) (by omega))]
        congr 1
        omega
theorem f_ref3_Limbs.l0_spec {k : Nat} {x : List Int} (hx : Dig x) (hb : x.length ≤ 1000000) (hk : 0 < k) : ∀ (d n i : Nat) (out : List Int), x.length - i ≤ d → i ≤ x.length + 1 → d < n → out.length ≤ i → f_ref3_Limbs.l0 k n x out (i : Int) = some (out ++ lm (x.drop i)) := by
  intro d
  induction d with
  | zero =>
    intro n i out hd hi hn ho
    obtain ⟨n, rfl⟩ : ∃ m, n = m + 1 := ⟨n - 1, by omega⟩
    rw [f_ref3_Limbs.l0, f_ref3_Limbs.q_l0, f_ref3_Limbs.c_l0, decide_eq_false (by omega), cond_false, List.drop_of_length_le (by omega), lm, List.append_nil]
  | succ d ih =>
    intro n i out hd hi hn ho
    obtain ⟨n, rfl⟩ : ∃ m, n = m + 1 := ⟨n - 1, by omega⟩
    rw [f_ref3_Limbs.l0, f_ref3_Limbs.q_l0, f_ref3_Limbs.c_l0]
    by_cases h0 : i < x.length
    · have d0 := hx _ (List.getElem_mem h0)
      rw [decide_eq_true (by omega), cond_true, if_pos ⟨by omega, by omega⟩, Int.toNat_natCast, getD_of h0, wrap32 (x := x[i]) (by omega) (by omega), wrapN (by omega)]
      by_cases h1 : i + 1 < x.length
      · have d1 := hx _ (List.getElem_mem h1)
        rw [decide_eq_true (by omega), cond_true, if_pos ⟨by omega, by omega⟩, Int.toNat_natCast, getD_of h1, wrap32 (x := x[i + 1]) (by omega) (by omega), wrap32 (x := x[i + 1] * 65536) (by omega) (by omega), wrap32 (by omega) (by omega),
          f_ref3_Limbs.g8, gate_pos hk, f_ref3_Limbs.q_g8, f_ref3_Limbs.c_g8, if_pos (by simp only [LIM, List.length_cons, List.length_nil]; omega), wrapI (by omega) (by omega), show (i : Int) + 2 = ((i + 2 : Nat) : Int) by omega,
          ih n (i + 2) _ (by omega) (by omega) (by omega) (by simp; omega), drop_cons h0, drop_cons h1, lm, List.append_assoc, List.singleton_append]
      · rw [decide_eq_false (by omega), cond_false, 
          f_ref3_Limbs.g8, gate_pos hk, f_ref3_Limbs.q_g8, f_ref3_Limbs.c_g8, if_pos (by simp only [LIM, List.length_cons, List.length_nil]; omega), wrapI (by omega) (by omega), show (i : Int) + 2 = ((i + 2 : Nat) : Int) by omega,
          ih n (i + 2) _ (by omega) (by omega) (by omega) (by simp; omega), drop_cons h0, List.drop_of_length_le (i := i + 1) (by omega), List.drop_of_length_le (i := i + 2) (by omega), lm, lm, List.append_nil]
    · rw [decide_eq_false (by omega), cond_false, List.drop_of_length_le (by omega), lm, List.append_nil]
theorem f_ref3_Limbs.spec {k a : Nat} (ha : lg a ≤ 1000000) (hk : lg a < k) : f_ref3_Limbs.u k (dg a) = some (dl a) := by
  show f_ref3_Limbs.f k _ = _
  have la := len_dg a
  rw [f_ref3_Limbs.f, f_ref3_Limbs.q, f_ref3_Limbs.c]
  have h := f_ref3_Limbs.l0_spec (k := k) (dig_dg a) ha (by omega) (dg a).length k 0 [] (by omega) (by omega) (by omega) (by simp)
  rw [List.nil_append, List.drop_zero, lm_dg] at h
  exact h
/-! ### numbers of the machine -/
def lb (n : Nat) : List Bool := if h : n = 0 then [] else (n % 2 == 1) :: lb (n / 2)
termination_by n
decreasing_by exact Nat.div_lt_self (by omega) (by omega)
theorem lb_zero : lb 0 = [] := by rw [lb]; simp
theorem lb_pos {n : Nat} (h : n ≠ 0) : lb n = (n % 2 == 1) :: lb (n / 2) := by rw [lb, dif_neg h]
theorem bv_lb : ∀ n, bv (lb n) = n := by
  intro n
  induction n using Nat.strongRecOn with
  | _ n ih =>
    by_cases h : n = 0
    · subst h; rw [lb_zero]; rfl
    · rw [lb_pos h, bv, ih _ (Nat.div_lt_self (by omega) (by omega))]
      rcases Nat.mod_two_eq_zero_or_one n with h | h <;> rw [h] <;> simp <;> omega
theorem lb_length {m : Nat} : ∀ {n : Nat}, n < 2 ^ m → (lb n).length ≤ m := by
  induction m with
  | zero => intro n h; rw [Nat.pow_zero] at h; rw [show n = 0 by omega, lb_zero]; simp
  | succ m ih =>
    intro n h
    by_cases h0 : n = 0
    · rw [h0, lb_zero]; simp
    · rw [lb_pos h0]
      have : (lb (n / 2)).length ≤ m := ih (by rw [Nat.pow_succ] at h; omega)
      simp; omega
theorem f_ref3_Number.l0_spec {k : Nat} (hk : 2000000 < k) {z : X_Int} {neg : Bool} : ∀ (m n : Nat) (v : Int) (out : List Bool), v.natAbs < 2 ^ m → m < n → m + out.length ≤ 100 → -9223372036854775808 ≤ v → v ≤ 9223372036854775807 →
    f_ref3_Number.l0 (f_ref3_Binary.u k) k n v z out neg = some (neg, dg (bv (out ++ lb v.natAbs))) := by
  intro m
  induction m with
  | zero =>
    intro n v out hv hn ho h1 h2
    obtain ⟨n, rfl⟩ : ∃ m, n = m + 1 := ⟨n - 1, by omega⟩
    obtain rfl : v = 0 := by rw [Nat.pow_zero] at hv; omega
    rw [f_ref3_Number.l0, f_ref3_Number.q_l0, f_ref3_Number.c_l0, show ((0 : Int) != 0) = false from rfl, cond_false, f_ref3_Binary.spec (by omega) hk, Int.natAbs_zero, lb_zero, List.append_nil]
    rfl
  | succ m ih =>
    intro n v out hv hn ho h1 h2
    obtain ⟨n, rfl⟩ : ∃ m, n = m + 1 := ⟨n - 1, by omega⟩
    by_cases h0 : v = 0
    · subst h0
      rw [f_ref3_Number.l0, f_ref3_Number.q_l0, f_ref3_Number.c_l0, show ((0 : Int) != 0) = false from rfl, cond_false, f_ref3_Binary.spec (by omega) hk, Int.natAbs_zero, lb_zero, List.append_nil]
      rfl
    · have hm : (Int.tmod v 2 != 0) = (v.natAbs % 2 == 1) := by
        have := Int.natAbs_tmod v 2
        rw [show (2 : Int).natAbs = 2 from rfl] at this
        rcases Nat.mod_two_eq_zero_or_one v.natAbs with h | h
        · rw [h] at this; rw [h, show Int.tmod v 2 = 0 by omega]; rfl
        · rw [h] at this
          rw [h, show (Int.tmod v 2 != 0) = true by rw [bne_iff_ne]; omega]; rfl
      have hq : (Int.tdiv v 2).natAbs = v.natAbs / 2 := by rw [Int.natAbs_tdiv]; rfl
      have hv0 : v.natAbs ≠ 0 := by omega
      rw [Nat.pow_succ] at hv
      rw [f_ref3_Number.l0, f_ref3_Number.q_l0, f_ref3_Number.c_l0, show (v != 0) = true by simpa using h0, cond_true, if_pos (by simp only [LIM, List.length_cons, List.length_nil]; omega), hm, wrapI (by omega) (by omega),
        ih n _ _ (by omega) (by omega) (by simp; omega) (by omega) (by omega), hq, lb_pos hv0, List.append_assoc, List.singleton_append]
/-- integers as the program has them -/
abbrev Zt := Bool × Nat
def en (z : Zt) : X_Int := (z.1, dg z.2)
theorem f_ref3_Number.spec {k : Nat} (hk : 2000000 < k) {v : Int} (h1 : -9223372036854775808 ≤ v) (h2 : v ≤ 9223372036854775807) : f_ref3_Number.u k v = some (en (decide (v < 0), v.natAbs)) := by
  show f_ref3_Number.f _ k _ = _
  rw [f_ref3_Number.f, f_ref3_Number.q, f_ref3_Number.c]
  have h := f_ref3_Number.l0_spec (k := k) hk (z := (false, [])) (neg := decide (v < 0)) 64 k v [] (by have : (2 : Nat) ^ 64 = 18446744073709551616 := rfl; omega) (by omega) (by simp) h1 h2
  rw [List.nil_append, bv_lb] at h
  exact h
/-! ### integers -/
def zmul (a b : Zt) : Zt := (a.1 != b.1 && decide (0 < a.2 * b.2), a.2 * b.2)
theorem len_pos (n : Nat) : decide (((dg n).length : Int) > 0) = decide (0 < n) := by
  rw [len_dg]
  by_cases h : n = 0
  · subst h; rw [lg_zero]; rfl
  · have := lg_of_pos h
    rw [decide_eq_true (by omega), decide_eq_true (by omega)]
theorem f_ref3_Int_Times.spec {k : Nat} {a b : Zt} (hk : 500000 < k) (ha : lg a.2 ≤ 100000) (hb : lg b.2 ≤ 100000) : f_ref3_Int_Times.u k (en a, en b) = some (en (zmul a b)) := by
  show f_ref3_Int_Times.f _ k _ _ = _
  rw [f_ref3_Int_Times.f, f_ref3_Int_Times.b]
  simp only [en]
  rw [f_ref3_Times.spec ha hb hk, Option.bind_some, len_pos]
  unfold zmul
  cases (a.1 != b.1) <;> rfl
def zadd (a b : Zt) : Zt := bif a.1 == b.1 then (a.1, a.2 + b.2) else bif decide (b.2 ≤ a.2) then (a.1, a.2 - b.2) else (b.1, b.2 - a.2)
theorem f_ref3_Int_Plus.spec {k : Nat} {a b : Zt} (hk : 500000 < k) (ha : lg a.2 ≤ 100000) (hb : lg b.2 ≤ 100000) : f_ref3_Int_Plus.u k (en a, en b) = some (en (zadd a b)) := by
  show f_ref3_Int_Plus.f _ _ _ k _ _ = _
  rw [f_ref3_Int_Plus.f, f_ref3_Int_Plus.b]
  simp only [en]
  unfold zadd
  cases h : (a.1 == b.1) with
  | true => rw [cond_true, cond_true, f_ref3_Plus.spec ha hb (by omega)]; rfl
  | false =>
    rw [cond_false, cond_false, f_ref3_Compare.spec (by omega) (by omega), Option.bind_some, cmp_ge]
    by_cases hle : b.2 ≤ a.2
    · rw [decide_eq_true hle, cond_true, cond_true, f_ref3_Minus.spec ha hle (by omega)]; rfl
    · rw [decide_eq_false hle, cond_false, cond_false, f_ref3_Minus.spec hb (by omega) (by omega)]; rfl
def zneg (a : Zt) : Zt := (!a.1 && decide (0 < a.2), a.2)
theorem f_ref3_Int_Minus.spec {k : Nat} {a : Zt} : f_ref3_Int_Minus.u k (en a) = some (en (zneg a)) := by
  show f_ref3_Int_Minus.f k _ = _
  rw [f_ref3_Int_Minus.f, f_ref3_Int_Minus.q, f_ref3_Int_Minus.c]
  show (bif !a.1 then some (decide (((dg a.2).length : Int) > 0), dg a.2) else some (false, dg a.2)) = some (en (zneg a))
  rw [len_pos]
  unfold zneg
  cases a.1 <;> rfl
def zcmp (a b : Zt) : Int :=
  bif a.1 && decide (0 < a.2) then (bif b.1 && decide (0 < b.2) then cmp b.2 a.2 else -1) else bif b.1 && decide (0 < b.2) then 1 else cmp a.2 b.2
theorem f_ref3_Int_Order.spec {k : Nat} {a b : Zt} (hk : 100000 < k) (ha : lg a.2 ≤ 100000) (hb : lg b.2 ≤ 100000) : f_ref3_Int_Order.u k (en a, en b) = some (zcmp a b) := by
  show f_ref3_Int_Order.f _ k _ _ = _
  have hg : ∀ x y, f_ref3_Int_Order.g2 (f_ref3_Compare.u k) k (en a) (en b) x y = some (bif x then (bif y then cmp b.2 a.2 else -1) else bif y then 1 else cmp a.2 b.2) := by
    intro x y
    rw [f_ref3_Int_Order.g2, gate_pos (by omega), f_ref3_Int_Order.b_g2, f_ref3_Int_Order.g8, gate_pos (by omega), f_ref3_Int_Order.b_g8]
    simp only [en]
    rw [f_ref3_Compare.spec (by omega) (by omega), f_ref3_Compare.spec (by omega) (by omega)]
    cases x <;> cases y <;> rfl
  rw [f_ref3_Int_Order.f, f_ref3_Int_Order.b, show ((en a).2).length = (dg a.2).length from rfl, show ((en b).2).length = (dg b.2).length from rfl, len_pos, len_pos, hg, hg, hg, hg]
  unfold zcmp
  simp only [en]
  cases a.1 <;> cases b.1 <;> simp
def zfloor (a b : Zt) : Zt × Zt := bif a.1 != b.1 && decide (0 < a.2 % b.2) then ((a.1 != b.1, a.2 / b.2 + 1), (b.1, b.2 - a.2 % b.2)) else ((a.1 != b.1, a.2 / b.2), (b.1, a.2 % b.2))
theorem lg_div (a b : Nat) : lg (a / b) ≤ lg a := lg_mono (Nat.div_le_self a b)
theorem f_ref3_Int_Floor.spec {k : Nat} {a b : Zt} (hk : 2000000 < k) (ha : lg a.2 ≤ 50000) (hb : lg b.2 ≤ 50000) (h0 : b.2 ≠ 0) : f_ref3_Int_Floor.u k (en a, en b) = some (en (zfloor a b).1, en (zfloor a b).2) := by
  show f_ref3_Int_Floor.f _ _ _ _ k _ _ = _
  have hlt := Nat.mod_lt a.2 (show b.2 > 0 by omega)
  have hd := lg_div a.2 b.2
  rw [f_ref3_Int_Floor.f, f_ref3_Int_Floor.q, f_ref3_Int_Floor.c]
  simp only [en]
  rw [f_ref3_Divide.spec ha h0 hb hk, Option.bind_some]
  simp only
  rw [len_pos, f_ref3_Small.one (by omega), Option.bind_some, f_ref3_Plus.spec (by omega) (by rw [lg_one]; omega) (by omega), Option.bind_some, f_ref3_Minus.spec (by omega) (by omega) (by omega), Option.bind_some,
    f_ref3_Int_Floor.g4, gate_pos (by omega), f_ref3_Int_Floor.b_g4, f_ref3_Int_Floor.g4, gate_pos (by omega), f_ref3_Int_Floor.b_g4]
  unfold zfloor
  cases (a.1 != b.1) <;> cases decide (0 < a.2 % b.2) <;> rfl
/-! ### ratios -/
abbrev Qt := Zt × Nat
def er (q : Qt) : X_Ratio := (en q.1, dg q.2)
def qlow (q : Qt) : Qt := ((q.1.1, q.1.2 / Nat.gcd q.1.2 q.2), q.2 / Nat.gcd q.1.2 q.2)
theorem f_ref3_Ratio_Lowest.spec {k : Nat} {q : Qt} (hk : BK k) (ha : lg q.1.2 ≤ 2500) (hb : lg q.2 ≤ 2500) (h0 : q.2 ≠ 0) : f_ref3_Ratio_Lowest.u k (er q) = some (er (qlow q)) := by
  show f_ref3_Ratio_Lowest.f _ _ k _ = _
  have hk2 := hk 2000000 (Nat.le_trans (lg_le (m := 2) (by omega)) (by omega))
  have hg : Nat.gcd q.1.2 q.2 ≠ 0 := fun h => h0 (Nat.gcd_eq_zero_iff.1 h).2
  have lg2 : lg (Nat.gcd q.1.2 q.2) ≤ 2500 := Nat.le_trans (lg_mono (Nat.gcd_le_right _ (by omega))) hb
  rw [f_ref3_Ratio_Lowest.f, f_ref3_Ratio_Lowest.b]
  simp only [er, en]
  rw [f_ref3_Common.spec hk ha hb, Option.bind_some, f_ref3_Divide.spec (by omega) hg (by omega) hk2, Option.bind_some, f_ref3_Divide.spec (by omega) hg (by omega) hk2]
  rfl
theorem en_false (n : Nat) : ((false, dg n) : X_Int) = en (false, n) := rfl
def qadd (x y : Qt) : Qt := qlow (zadd (zmul x.1 (false, y.2)) (zmul y.1 (false, x.2)), x.2 * y.2)
theorem zadd_lg {a b : Zt} {m : Nat} (ha : lg a.2 ≤ m) (hb : lg b.2 ≤ m) : lg (zadd a b).2 ≤ m + 1 := by
  unfold zadd
  cases (a.1 == b.1) with
  | true => rw [cond_true]; exact lg_add_le ha hb
  | false =>
    rw [cond_false]
    have h1 := lg_mono (Nat.sub_le a.2 b.2)
    have h2 := lg_mono (Nat.sub_le b.2 a.2)
    cases decide (b.2 ≤ a.2)
    · rw [cond_false]; dsimp only; omega
    · rw [cond_true]; dsimp only; omega
theorem zmul_lg {a b : Zt} {m n : Nat} (ha : lg a.2 ≤ m) (hb : lg b.2 ≤ n) : lg (zmul a b).2 ≤ m + n := by
  have := lg_mul a.2 b.2
  show lg (a.2 * b.2) ≤ _
  omega
theorem f_ref3_Ratio_Plus.spec {k : Nat} {x y : Qt} (hk : BK k) (h1 : lg x.1.2 ≤ 1000) (h2 : lg x.2 ≤ 1000) (h3 : lg y.1.2 ≤ 1000) (h4 : lg y.2 ≤ 1000) (h5 : x.2 ≠ 0) (h6 : y.2 ≠ 0) : f_ref3_Ratio_Plus.u k (er x, er y) = some (er (qadd x y)) := by
  show f_ref3_Ratio_Plus.f _ _ _ _ k _ _ = _
  have hk1 := bk_lt hk
  rw [f_ref3_Ratio_Plus.f, f_ref3_Ratio_Plus.b]
  have l1 := zmul_lg (a := x.1) (b := (false, y.2)) h1 h4
  have l2 := zmul_lg (a := y.1) (b := (false, x.2)) h3 h2
  have l3 := zadd_lg l1 l2
  have l4 := lg_mul x.2 y.2
  simp only [er]
  rw [en_false, en_false, f_ref3_Int_Times.spec (by omega) (by omega) (by dsimp only; omega), Option.bind_some, f_ref3_Int_Times.spec (by omega) (by omega) (by dsimp only; omega), Option.bind_some, f_ref3_Int_Plus.spec (by omega) (by omega) (by omega), Option.bind_some, f_ref3_Times.spec (by omega) (by omega) (by omega), Option.bind_some]
  have h := f_ref3_Ratio_Lowest.spec (k := k) (q := (zadd (zmul x.1 (false, y.2)) (zmul y.1 (false, x.2)), x.2 * y.2)) hk (by dsimp only; omega) (by dsimp only; omega) (Nat.mul_ne_zero h5 h6)
  simp only [er] at h
  rw [h]
  rfl
def qmul (x y : Qt) : Qt := qlow (zmul x.1 y.1, x.2 * y.2)
theorem f_ref3_Ratio_Times.spec {k : Nat} {x y : Qt} (hk : BK k) (h1 : lg x.1.2 ≤ 1000) (h2 : lg x.2 ≤ 1000) (h3 : lg y.1.2 ≤ 1000) (h4 : lg y.2 ≤ 1000) (h5 : x.2 ≠ 0) (h6 : y.2 ≠ 0) : f_ref3_Ratio_Times.u k (er x, er y) = some (er (qmul x y)) := by
  show f_ref3_Ratio_Times.f _ _ _ k _ _ = _
  have hk1 := bk_lt hk
  rw [f_ref3_Ratio_Times.f, f_ref3_Ratio_Times.b]
  have l1 := zmul_lg (a := x.1) (b := y.1) h1 h3
  have l4 := lg_mul x.2 y.2
  simp only [er]
  rw [f_ref3_Int_Times.spec (by omega) (by omega) (by omega), Option.bind_some, f_ref3_Times.spec (by omega) (by omega) (by omega), Option.bind_some]
  have h := f_ref3_Ratio_Lowest.spec (k := k) (q := (zmul x.1 y.1, x.2 * y.2)) hk (by dsimp only; omega) (by dsimp only; omega) (Nat.mul_ne_zero h5 h6)
  simp only [er] at h
  rw [h]
  rfl
def qsub (x y : Qt) : Qt := qadd x (zneg y.1, y.2)
theorem f_ref3_Ratio_Less.spec {k : Nat} {x y : Qt} (hk : BK k) (h1 : lg x.1.2 ≤ 1000) (h2 : lg x.2 ≤ 1000) (h3 : lg y.1.2 ≤ 1000) (h4 : lg y.2 ≤ 1000) (h5 : x.2 ≠ 0) (h6 : y.2 ≠ 0) : f_ref3_Ratio_Less.u k (er x, er y) = some (er (qsub x y)) := by
  show f_ref3_Ratio_Less.f _ _ k _ _ = _
  rw [f_ref3_Ratio_Less.f, f_ref3_Ratio_Less.b, show (er y).1 = en y.1 from rfl, f_ref3_Int_Minus.spec, Option.bind_some]
  have h := f_ref3_Ratio_Plus.spec (k := k) (x := x) (y := (zneg y.1, y.2)) hk h1 h2 h3 h4 h5 h6
  simp only [er] at h ⊢
  rw [h]
  rfl
theorem f_ref3_Ratio_Turned.spec {k : Nat} {x : Qt} : f_ref3_Ratio_Turned.u k (er x) = some (er ((x.1.1, x.2), x.1.2)) := rfl
theorem f_ref3_Ratio_Floor.spec {k : Nat} {x : Qt} (hk : 2000000 < k) (h1 : lg x.1.2 ≤ 50000) (h2 : lg x.2 ≤ 50000) (h5 : x.2 ≠ 0) : f_ref3_Ratio_Floor.u k (er x) = some (en (zfloor x.1 (false, x.2)).1) := by
  show f_ref3_Ratio_Floor.f _ k _ = _
  rw [f_ref3_Ratio_Floor.f, f_ref3_Ratio_Floor.b]
  simp only [er]
  rw [en_false, f_ref3_Int_Floor.spec hk h1 h2 h5]
  rfl
theorem f_ref3_Ratio_Order.spec {k : Nat} {x y : Qt} (hk : 500000 < k) (h1 : lg x.1.2 ≤ 1000) (h2 : lg x.2 ≤ 1000) (h3 : lg y.1.2 ≤ 1000) (h4 : lg y.2 ≤ 1000) : f_ref3_Ratio_Order.u k (er x, er y) = some (zcmp (zmul x.1 (false, y.2)) (zmul y.1 (false, x.2))) := by
  show f_ref3_Ratio_Order.f _ _ k _ _ = _
  have l1 := zmul_lg (a := x.1) (b := (false, y.2)) h1 h4
  have l2 := zmul_lg (a := y.1) (b := (false, x.2)) h3 h2
  rw [f_ref3_Ratio_Order.f, f_ref3_Ratio_Order.b]
  simp only [er]
  rw [en_false, en_false, f_ref3_Int_Times.spec (by omega) (by omega) (by dsimp only; omega), Option.bind_some, f_ref3_Int_Times.spec (by omega) (by omega) (by dsimp only; omega), Option.bind_some, f_ref3_Int_Order.spec (by omega) (by omega) (by omega)]
  rfl
theorem f_ref3_Whole.spec {k : Nat} {z : Zt} (hk : 1 < k) : f_ref3_Whole.u k (en z) = some (er (z, 1)) := by
  show f_ref3_Whole.f _ k _ = _
  rw [f_ref3_Whole.f, f_ref3_Whole.b, f_ref3_Small.one hk]
  rfl
/-! ### values -/
theorem f_ref3_IntOf.spec {k : Nat} {b : Bool} {l : List Int} (hl : Lim l) (hb : l.length ≤ 1000000) (hk : 2 * l.length < k) : f_ref3_IntOf.u k (b, l) = some (en (b, v32 l)) := by
  show f_ref3_IntOf.f _ k _ = _
  rw [f_ref3_IntOf.f, f_ref3_IntOf.b, f_ref3_Of.spec hl hb hk]
  rfl
theorem f_ref3_RatioOf.spec {k : Nat} {x : X_Int × X_Int} (hl : Lim x.1.2) (hb : x.1.2.length ≤ 1000000) (hl2 : Lim x.2.2) (hb2 : x.2.2.length ≤ 1000000) (hk : 2000000 < k) : f_ref3_RatioOf.u k x = some (er ((x.1.1, v32 x.1.2), v32 x.2.2)) := by
  show f_ref3_RatioOf.f _ _ k _ = _
  rw [f_ref3_RatioOf.f, f_ref3_RatioOf.b, show x.1 = (x.1.1, x.1.2) from rfl, f_ref3_IntOf.spec hl hb (by omega), Option.bind_some, f_ref3_Of.spec hl2 hb2 (by omega)]
  rfl
theorem le_cast (a b : Nat) : decide ((a : Int) ≤ (b : Int)) = decide (a ≤ b) := by
  by_cases h : a ≤ b
  · rw [decide_eq_true h, decide_eq_true (by omega)]
  · rw [decide_eq_false h, decide_eq_false (by omega)]
def qfits (q : Qt) : Bool := decide (lg q.1.2 ≤ 256) && decide (lg q.2 ≤ 256)
theorem f_ref3_Int_Fits.spec {k : Nat} {z : Zt} : f_ref3_Int_Fits.u k (en z, 128) = some (decide (lg z.2 ≤ 256)) := by
  show f_ref3_Int_Fits.f k _ _ = _
  rw [f_ref3_Int_Fits.f, f_ref3_Int_Fits.b, wrapI (by omega) (by omega)]
  exact congrArg some (le_cast (lg z.2) 256)
theorem f_ref3_Ratio_Fits.spec {k : Nat} {q : Qt} : f_ref3_Ratio_Fits.u k (er q) = some (qfits q) := by
  show f_ref3_Ratio_Fits.f _ k _ = _
  rw [f_ref3_Ratio_Fits.f, f_ref3_Ratio_Fits.b, show (er q).1 = en q.1 from rfl, f_ref3_Int_Fits.spec, Option.bind_some]
  unfold qfits
  cases decide (lg q.1.2 ≤ 256)
  · rfl
  · rw [cond_true, Bool.true_and]
    exact congrArg some (le_cast (lg q.2) 256)
def zval (z : Zt) : X_Value := (2, ((z.1 && decide (0 < z.2), dl z.2), ((false, []), ([], 0))))
theorem f_ref7_Whole.spec {k : Nat} {z : Zt} (hz : lg z.2 ≤ 1000000) (hk : 1000000 < k) : f_ref7_Whole.u k (en z) = some (zval z) := by
  show f_ref7_Whole.f _ k _ = _
  rw [f_ref7_Whole.f, f_ref7_Whole.q, f_ref7_Whole.c]
  rw [show (en z).2 = dg z.2 from rfl, f_ref3_Limbs.spec hz (by omega), Option.bind_some, Option.bind_some]
  show (bif z.1 then some (2, ((decide (((dg z.2).length : Int) > 0), dl z.2), ((false, []), ([], 0)))) else some (2, ((false, dl z.2), ((false, []), ([], 0))))) = some (zval z)
  rw [len_pos]
  unfold zval
  cases z.1 <;> rfl
def qval (q : Qt) : X_Value := bif decide (q.2 = 1) then zval q.1 else (3, ((zval q.1).2.1, ((false, dl q.2), ([], 0))))
theorem cmp_zero {a b : Nat} : (cmp a b == 0) = decide (a = b) := by
  unfold cmp
  split
  · rw [decide_eq_false (by omega)]; rfl
  · split
    · rw [decide_eq_false (by omega)]; rfl
    · rw [decide_eq_true (by omega)]; rfl
theorem f_ref7_Value.spec {k : Nat} {q : Qt} (hk : 2000000 < k) : f_ref7_Value.u k (er q) = some (bif qfits q then (qval q, true) else ((0, ((false, []), ((false, []), ([], 0)))), false)) := by
  show f_ref7_Value.f _ _ _ _ _ k _ = _
  rw [f_ref7_Value.f, f_ref7_Value.q, f_ref7_Value.c, f_ref3_Ratio_Fits.spec, Option.bind_some]
  cases h : qfits q with
  | false => rfl
  | true =>
    unfold qfits at h
    rw [Bool.and_eq_true, decide_eq_true_eq, decide_eq_true_eq] at h
    rw [Bool.not_true, cond_false, show (er q).1 = en q.1 from rfl, f_ref7_Whole.spec (by omega) (by omega), Option.bind_some, f_ref3_Small.one (by omega), Option.bind_some, show (er q).2 = dg q.2 from rfl, f_ref3_Compare.spec (by omega) (by omega), Option.bind_some, f_ref3_Limbs.spec (by omega) (by omega), Option.bind_some, bne, cmp_zero, cond_true]
    unfold qval
    cases decide (q.2 = 1) <;> rfl
def zV : X_Value := (0, ((false, []), ((false, []), ([], 0))))
def rais (c : Int) (t : List UInt8) : X_Step := (1, (zV, (c, (t, (zV, [])))))
def resu (v : X_Value) : X_Step := (0, (v, (0, ([], (zV, [])))))
def tooLarge : X_Step := rais 42 [118, 97, 108, 117, 101, 32, 105, 115, 32, 116, 111, 111, 32, 108, 97, 114, 103, 101]
theorem f_ref7_Raise.spec {k : Nat} {c : Int} {t : List UInt8} : f_ref7_Raise.u k (c, t) = some (rais c t) := by
  show f_ref7_Raise.f k _ _ = _
  rw [f_ref7_Raise.f, f_ref7_Raise.q, f_ref7_Raise.c]
  rfl
theorem f_ref7_TooLarge.spec {k : Nat} : f_ref7_TooLarge.u k () = some tooLarge := by
  show f_ref7_TooLarge.f _ k = _
  rw [f_ref7_TooLarge.f, f_ref7_TooLarge.b, f_ref7_Raise.spec]
  rfl
theorem f_ref7_Result.spec {k : Nat} {v : X_Value} : f_ref7_Result.u k v = some (resu v) := by
  show f_ref7_Result.f k _ = _
  rw [f_ref7_Result.f, f_ref7_Result.q, f_ref7_Result.c]
  rfl
def qstep (q : Qt) : X_Step := bif qfits q then resu (qval q) else tooLarge
theorem f_ref7_number.spec {k : Nat} {q : Qt} (hk : 2000000 < k) : f_ref7_number.u k (er q) = some (qstep q) := by
  show f_ref7_number.f _ _ _ k _ = _
  rw [f_ref7_number.f, f_ref7_number.q, f_ref7_number.c, f_ref7_Value.spec hk, Option.bind_some]
  unfold qstep
  cases qfits q with
  | false => rw [cond_false, cond_false, Bool.not_false, cond_true, f_ref7_TooLarge.spec]; rfl
  | true => rw [cond_true, cond_true, Bool.not_true, cond_false, f_ref7_Result.spec]; rfl
theorem f_ref7_integer.spec {k : Nat} {z : Zt} (hk : 2000000 < k) : f_ref7_integer.u k (en z) = some (qstep (z, 1)) := by
  show f_ref7_integer.f _ _ k _ = _
  rw [f_ref7_integer.f, f_ref7_integer.b, f_ref3_Whole.spec (by omega), Option.bind_some, f_ref7_number.spec hk]
  rfl
theorem f_ref7_N.spec {k : Nat} (hk : 2000000 < k) {v : Int} (h1 : -9223372036854775808 ≤ v) (h2 : v ≤ 9223372036854775807) : f_ref7_N.u k v = some (zval (decide (v < 0), v.natAbs)) := by
  show f_ref7_N.f _ _ k _ = _
  have : lg v.natAbs ≤ 4 := lg_le (by omega)
  rw [f_ref7_N.f, f_ref7_N.b, f_ref3_Number.spec hk h1 h2, Option.bind_some, f_ref7_Whole.spec (by dsimp only; omega) (by omega)]
  rfl
end Go.Ab
