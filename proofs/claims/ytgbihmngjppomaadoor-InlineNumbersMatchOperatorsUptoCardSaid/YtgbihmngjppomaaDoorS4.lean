/- What the operators answer: powers, bits, numbers of values. -/
import Derived.Test.YtgbihmngjppomaaDoorS3
import Derived.Test.YtgbihmngjppomaaDoorV1
namespace Go.Ab
set_option linter.unusedVariables false
set_option linter.unusedSimpArgs false
/-! ### the integers meant -/
def zint (z : Zt) : Int := if z.1 then -(z.2 : Int) else z.2
def icmp (x y : Int) : Int := if x < y then -1 else if y < x then 1 else 0
theorem zcmp_eq (a b : Zt) : zcmp a b = icmp (zint a) (zint b) := by
  obtain ⟨s, m⟩ := a
  obtain ⟨t, n⟩ := b
  unfold zcmp icmp zint cmp
  cases s <;> cases t <;> by_cases hm : 0 < m <;> by_cases hn : 0 < n <;>
    simp only [hm, hn, decide_true, decide_false, Bool.and_true, Bool.and_false, Bool.true_and, Bool.false_and, cond_true, cond_false, if_true, if_false, Bool.false_eq_true, reduceIte] <;>
    (repeat' split) <;> omega
theorem zint_mul (a b : Zt) : zint (zmul a b) = zint a * zint b := by
  obtain ⟨s, m⟩ := a
  obtain ⟨t, n⟩ := b
  unfold zmul zint
  by_cases h : 0 < m * n
  · cases s <;> cases t <;> simp [h, Int.neg_mul, Int.mul_neg]
  · have h0 : m * n = 0 := by omega
    have h1 : (m : Int) * (n : Int) = 0 := by rw [← Int.natCast_mul, h0]; rfl
    cases s <;> cases t <;> simp [h0, h1, Int.neg_mul, Int.mul_neg]
theorem zint_add (a b : Zt) : zint (zadd a b) = zint a + zint b := by
  obtain ⟨s, m⟩ := a
  obtain ⟨t, n⟩ := b
  unfold zadd zint
  by_cases h : n ≤ m
  · cases s <;> cases t <;> simp [h] <;> omega
  · cases s <;> cases t <;> simp [h] <;> omega
theorem zint_neg (a : Zt) : zint (zneg a) = -zint a := by
  obtain ⟨s, m⟩ := a
  unfold zneg zint
  by_cases h : 0 < m
  · cases s <;> simp [h]
  · have : m = 0 := by omega
    cases s <;> simp [this]
/-- the value of a number -/
def hval (n : Int) : X_Value := (2, ((decide (n < 0), dl n.natAbs), ((false, []), ([], 0))))
theorem zval_eq (z : Zt) : zval z = hval (zint z) := by
  obtain ⟨s, m⟩ := z
  unfold zval hval zint
  cases s <;> simp <;> omega
theorem zint_abs (z : Zt) : (zint z).natAbs = z.2 := by
  unfold zint
  split <;> omega
/-! ### brought into a range -/
theorem vl_dg_drop_le (n i : Nat) : vl ((dg n).drop i) ≤ n := by
  have h : n = vl ((dg n).take i) + 65536 ^ ((dg n).take i).length * vl ((dg n).drop i) := by
    conv => lhs; rw [← vl_dg n, ← List.take_append_drop i (dg n), vl_append]
  have h2 := Nat.le_mul_of_pos_left (vl ((dg n).drop i)) (show 0 < 65536 ^ ((dg n).take i).length from Nat.pow_pos (by omega))
  omega
theorem f_ref7_Clamp.l0_spec {k : Nat} {z : Zt} (hz : z.2 ≤ 1000000000) : ∀ (i n : Nat), i ≤ lg z.2 → i < n →
    f_ref7_Clamp.l0 (f_ref3_Number.u k) (f_ref3_Int_Order.u k) k n (en z) ((vl ((dg z.2).drop i) : Nat) : Int) ((i : Int) - 1) = some (zint z) := by
  intro i
  induction i with
  | zero =>
    intro n hi hn
    obtain ⟨n, rfl⟩ : ∃ m, n = m + 1 := ⟨n - 1, by omega⟩
    rw [f_ref7_Clamp.l0, f_ref7_Clamp.b_l0, decide_eq_false (by omega), cond_false, List.drop_zero, vl_dg, wrapI (by omega) (by omega)]
    unfold zint en
    cases z.1 <;> simp
  | succ i ih =>
    intro n hi hn
    obtain ⟨n, rfl⟩ : ∃ m, n = m + 1 := ⟨n - 1, by omega⟩
    have hlt : i < (dg z.2).length := hi
    have hl3 : lg z.2 ≤ 2 := lg_le (by omega)
    have d0 := dig_dg z.2 _ (List.getElem_mem hlt)
    have hle := vl_dg_drop_le z.2 i
    have h := ih n (by omega) (by omega)
    rw [drop_cons hlt, vl] at hle h
    rw [f_ref7_Clamp.l0, f_ref7_Clamp.b_l0, show ((i + 1 : Nat) : Int) - 1 = (i : Int) by omega, decide_eq_true (by omega), cond_true, show (en z).2 = dg z.2 from rfl, if_pos ⟨by omega, by omega⟩, Int.toNat_natCast, getD_of hlt, wrapI (x := _ * 65536) (by omega) (by omega), wrapI (x := _ * 65536 + _) (by omega) (by omega), wrapI (by omega) (by omega),
      show ((vl ((dg z.2).drop (i + 1)) : Nat) : Int) * 65536 + (dg z.2)[i] = (((dg z.2)[i].toNat + 65536 * vl ((dg z.2).drop (i + 1)) : Nat) : Int) by omega]
    exact h
def clamp (x lo hi : Int) : Int := if x ≤ lo then lo else if x ≥ hi then hi else x
theorem f_ref7_Clamp.spec {k : Nat} (hk : 2000000 < k) {z : Zt} (hz : lg z.2 ≤ 100000) {lo hi : Int} (h1 : -100000000 ≤ lo) (h2 : lo ≤ 100000000) (h3 : -100000000 ≤ hi) (h4 : hi ≤ 100000000) : f_ref7_Clamp.u k (en z, (lo, hi)) = some (clamp (zint z) lo hi) := by
  show f_ref7_Clamp.f _ _ k (en z) lo hi = _
  have zi : ∀ v : Int, -100000000 ≤ v → v ≤ 100000000 → zint (decide (v < 0), v.natAbs) = v ∧ lg (decide (v < 0), v.natAbs).2 ≤ 100000 := by
    intro v hv1 hv2
    refine ⟨?_, Nat.le_trans (lg_le (m := 2) (by dsimp only; omega)) (by omega)⟩
    unfold zint
    dsimp only
    split <;> rename_i h <;> simp at h <;> omega
  rw [f_ref7_Clamp.f, f_ref7_Clamp.b, f_ref3_Number.spec hk (by omega) (by omega), Option.bind_some, f_ref3_Int_Order.spec (by omega) (by omega) (zi lo h1 h2).2, Option.bind_some, zcmp_eq, (zi lo h1 h2).1,
    f_ref3_Number.spec hk (by omega) (by omega), Option.bind_some, f_ref3_Int_Order.spec (by omega) (by omega) (zi hi h3 h4).2, Option.bind_some, zcmp_eq, (zi hi h3 h4).1]
  unfold icmp clamp
  by_cases hl : zint z ≤ lo
  · rw [if_pos hl, decide_eq_true (by split <;> (try split) <;> omega), cond_true]
  · rw [if_neg hl, decide_eq_false (by split <;> (try split) <;> omega), cond_false]
    by_cases hh : zint z ≥ hi
    · rw [if_pos hh, decide_eq_true (by split <;> (try split) <;> omega), cond_true]
    · have := zint_abs z
      have hlg : lg z.2 ≤ 2 := lg_le (by omega)
      rw [if_neg hh, decide_eq_false (by split <;> (try split) <;> omega), cond_false, show (en z).2.length = lg z.2 from rfl, wrapI (by omega) (by omega)]
      have h := f_ref7_Clamp.l0_spec (k := k) (z := z) (by omega) (lg z.2) k (Nat.le_refl _) (by omega)
      rwa [List.drop_of_length_le (Nat.le_refl (lg z.2) : (dg z.2).length ≤ lg z.2)] at h
/-! ### powers -/
def rz : Nat → Zt → Zt → Zt × Bool
  | 0, _, o => (o, true)
  | n + 1, a, o => bif decide (lg (zmul o a).2 ≤ 256) then rz n a (zmul o a) else ((false, 0), false)
theorem rz_lg : ∀ (n : Nat) (a o : Zt), lg o.2 ≤ 256 → lg (rz n a o).1.2 ≤ 256
  | 0, _, o, h => h
  | n + 1, a, o, h => by
    unfold rz
    by_cases h1 : lg (zmul o a).2 ≤ 256
    · rw [decide_eq_true h1, cond_true]; exact rz_lg n a _ h1
    · rw [decide_eq_false h1, cond_false]; dsimp only; rw [lg_zero]; omega
def zpow (a : Zt) (n : Nat) : Zt × Bool :=
  bif decide (a.2 = 0) && decide (0 < n) then ((false, 0), true) else bif decide (a.2 = 1) then ((a.1 && decide (n % 2 = 1), 1), true) else rz n a (false, 1)
theorem zpow_lg (a : Zt) (n : Nat) : lg (zpow a n).1.2 ≤ 256 := by
  unfold zpow
  cases (decide (a.2 = 0) && decide (0 < n)) with
  | true => rw [cond_true]; dsimp only; rw [lg_zero]; omega
  | false =>
    rw [cond_false]
    cases decide (a.2 = 1) with
    | true => rw [cond_true]; dsimp only; rw [lg_one]; omega
    | false => rw [cond_false]; exact rz_lg n a _ (by rw [lg_one]; omega)
theorem f_ref3_Int_Raised.l0_spec {k : Nat} (hk : 2000000 < k) {a : Zt} (ha : lg a.2 ≤ 1000) {z : X_Int} : ∀ (m n : Nat) (o : Zt), m < n → m ≤ 100000000 → lg o.2 ≤ 1000 →
    f_ref3_Int_Raised.l0 (f_ref3_Small.u k) (f_ref3_Compare.u k) (f_ref3_Int_Times.u k) (f_ref3_Int_Fits.u k) k n (m : Int) (en a) z (en o) = some (en (rz m a o).1, (rz m a o).2) := by
  intro m
  induction m with
  | zero =>
    intro n o hn hm ho
    obtain ⟨n, rfl⟩ : ∃ m, n = m + 1 := ⟨n - 1, by omega⟩
    rw [f_ref3_Int_Raised.l0, f_ref3_Int_Raised.q_l0, f_ref3_Int_Raised.c_l0, decide_eq_false (by omega), cond_false]
    rfl
  | succ m ih =>
    intro n o hn hm ho
    obtain ⟨n, rfl⟩ : ∃ m, n = m + 1 := ⟨n - 1, by omega⟩
    rw [f_ref3_Int_Raised.l0, f_ref3_Int_Raised.q_l0, f_ref3_Int_Raised.c_l0, decide_eq_true (by omega), cond_true, f_ref3_Int_Times.spec (by omega) (by omega) (by omega), Option.bind_some, f_ref3_Int_Fits.spec, Option.bind_some, wrapI (by omega) (by omega), show ((m + 1 : Nat) : Int) - 1 = (m : Int) by omega, rz]
    by_cases h : lg (zmul o a).2 ≤ 256
    · rw [decide_eq_true h, Bool.not_true, cond_false, cond_true, ih n _ (by omega) (by omega) (by omega)]
    · rw [decide_eq_false h, Bool.not_false, cond_true, cond_false]
      unfold en
      rw [dg_zero]
theorem f_ref3_Int_Raised.spec {k : Nat} (hk : 2000000 < k) {a : Zt} (ha : lg a.2 ≤ 1000) {m : Nat} (hm : m ≤ 1000000) : f_ref3_Int_Raised.u k (en a, (m : Int)) = some (en (zpow a m).1, (zpow a m).2) := by
  show f_ref3_Int_Raised.f _ _ _ _ k (en a) (m : Int) = _
  have hg : ∀ z, f_ref3_Int_Raised.g4 (f_ref3_Small.u k) (f_ref3_Compare.u k) (f_ref3_Int_Times.u k) (f_ref3_Int_Fits.u k) k (m : Int) (en a) z (false, dg 1) = some (bif decide (a.2 = 1) then (en (a.1 && decide (m % 2 = 1), 1), true) else (en (rz m a (false, 1)).1, (rz m a (false, 1)).2)) := by
    intro z
    rw [f_ref3_Int_Raised.g4, gate_pos (by omega), f_ref3_Int_Raised.q_g4, f_ref3_Int_Raised.c_g4, f_ref3_Small.one (by omega), Option.bind_some, show (en a).2 = dg a.2 from rfl, f_ref3_Compare.spec (by omega) (by omega), Option.bind_some, cmp_zero, Option.bind_some, Option.bind_some]
    by_cases h1 : a.2 = 1
    · rw [decide_eq_true h1, cond_true, cond_true, Int.tmod_eq_emod_of_nonneg (by omega)]
      have : ((m : Int) % 2 == 1) = decide (m % 2 = 1) := by
        by_cases h : m % 2 = 1
        · rw [decide_eq_true h, beq_iff_eq]; omega
        · rw [decide_eq_false h, beq_eq_false_iff_ne]; omega
      rw [this]
      unfold en
      cases a.1 <;> rfl
    · rw [decide_eq_false h1, cond_false, cond_false]
      exact f_ref3_Int_Raised.l0_spec hk ha m k (false, 1) (by omega) (by omega) (by dsimp only; rw [lg_one]; omega)
  rw [f_ref3_Int_Raised.f, f_ref3_Int_Raised.q, f_ref3_Int_Raised.c, f_ref3_Small.one (by omega), Option.bind_some, hg, show (en a).2.length = lg a.2 from rfl]
  unfold zpow
  by_cases h0 : a.2 = 0
  · rw [show (((lg a.2 : Nat) : Int) == 0) = true by rw [h0, lg_zero]; rfl, cond_true, decide_eq_true h0, Bool.true_and]
    by_cases hm0 : 0 < m
    · rw [decide_eq_true (by omega), decide_eq_true hm0, cond_true, cond_true]
      unfold en
      rw [dg_zero]
    · rw [decide_eq_false (by omega), decide_eq_false hm0, cond_false, cond_false]
      cases decide (a.2 = 1) <;> rfl
  · have := lg_of_pos h0
    rw [show (((lg a.2 : Nat) : Int) == 0) = false by rw [beq_eq_false_iff_ne]; omega, cond_false, decide_eq_false h0, Bool.false_and, cond_false]
    cases decide (a.2 = 1) <;> rfl
theorem f_ref7_Zero.spec {k : Nat} {z : Zt} : f_ref7_Zero.u k (en z) = some (decide (z.2 = 0)) := by
  show f_ref7_Zero.f k (en z) = _
  rw [f_ref7_Zero.f, f_ref7_Zero.b, show (en z).2.length = lg z.2 from rfl]
  congr 1
  by_cases h : z.2 = 0
  · rw [decide_eq_true h, h, lg_zero]; rfl
  · have := lg_of_pos h
    rw [decide_eq_false h, beq_eq_false_iff_ne]; omega
theorem f_ref7_Negative.spec {k : Nat} {z : Zt} : f_ref7_Negative.u k (en z) = some (z.1 && decide (0 < z.2)) := by
  show f_ref7_Negative.f k (en z) = _
  rw [f_ref7_Negative.f, f_ref7_Negative.b]
  show (bif z.1 then some (decide (((dg z.2).length : Int) > 0)) else some false) = _
  rw [len_pos]
  cases z.1 <;> rfl
theorem f_ref7_power.tot {k : Nat} (hk : 2000000 < k) {q : Qt} {z : Zt} (h1 : lg q.1.2 ≤ 1000) (h2 : lg q.2 ≤ 1000) (h3 : lg z.2 ≤ 1000) : Tot (f_ref7_power.u k (er q, en z)) := by
  show Tot (f_ref7_power.f _ _ _ _ _ _ _ _ _ _ k (er q) (en z))
  have h8 : ∀ (q : Qt) (s : X_Step) (m : Nat), lg q.1.2 ≤ 1000 → lg q.2 ≤ 1000 → m ≤ 10000 → Tot (f_ref7_power.g8 (f_ref7_Negative.u k) (f_ref7_Zero.u k) (f_ref7_Raise.u k) (f_ref3_Number.u k) (f_ref3_Int_Order.u k) (f_ref7_TooLarge.u k) (f_ref7_Clamp.u k) (f_ref3_Ratio_Turned.u k) (f_ref3_Int_Raised.u k) (f_ref7_number.u k) k (er q) s (m : Int)) := by
    intro q s m g1 g2 hm
    rw [f_ref7_power.g8, gate_pos (by omega), f_ref7_power.q_g8, f_ref7_power.c_g8, show (er q).1 = en q.1 from rfl, f_ref3_Int_Raised.spec hk g1 (by omega), Option.bind_some, show (er q).2 = dg q.2 from rfl, en_false, f_ref3_Int_Raised.spec hk g2 (by omega), Option.bind_some]
    refine tot_cond (tot_bind ⟨_, f_ref7_TooLarge.spec⟩ fun _ _ => tot_some _) (tot_cond (tot_bind ⟨_, f_ref7_TooLarge.spec⟩ fun _ _ => tot_some _) (tot_bind ⟨_, f_ref7_number.spec (q := ((zpow q.1 m).1, (zpow (false, q.2) m).1.2)) hk⟩ fun _ _ => tot_some _))
  have h3 : ∀ s, Tot (f_ref7_power.g3 (f_ref7_Negative.u k) (f_ref7_Zero.u k) (f_ref7_Raise.u k) (f_ref3_Number.u k) (f_ref3_Int_Order.u k) (f_ref7_TooLarge.u k) (f_ref7_Clamp.u k) (f_ref3_Ratio_Turned.u k) (f_ref3_Int_Raised.u k) (f_ref7_number.u k) k (er q) (en z) s) := by
    intro s
    rw [f_ref7_power.g3, gate_pos (by omega), f_ref7_power.q_g3, f_ref7_power.c_g3, f_ref3_Number.spec hk (by omega) (by omega), Option.bind_some]
    refine tot_bind ⟨_, f_ref3_Int_Order.spec (by omega) (by omega) (Nat.le_trans (lg_le (m := 2) (by dsimp only; omega)) (by omega))⟩ fun _ _ => tot_cond (tot_bind ⟨_, f_ref7_TooLarge.spec⟩ fun _ _ => tot_some _) ?_
    rw [f_ref3_Number.spec hk (by omega) (by omega), Option.bind_some]
    refine tot_bind ⟨_, f_ref3_Int_Order.spec (by omega) (by omega) (Nat.le_trans (lg_le (m := 2) (by dsimp only; omega)) (by omega))⟩ fun _ _ => tot_cond (tot_bind ⟨_, f_ref7_TooLarge.spec⟩ fun _ _ => tot_some _) ?_
    rw [f_ref7_Clamp.spec hk (by omega) (by omega) (by omega) (by omega) (by omega), Option.bind_some]
    have hc : -10000 ≤ clamp (zint z) (-10000) 10000 ∧ clamp (zint z) (-10000) 10000 ≤ 10000 := by unfold clamp; split <;> (try split) <;> omega
    by_cases hn : clamp (zint z) (-10000) 10000 < 0
    · rw [decide_eq_true hn, cond_true, f_ref3_Ratio_Turned.spec, Option.bind_some, wrapI (by omega) (by omega), show 0 - clamp (zint z) (-10000) 10000 = (((clamp (zint z) (-10000) 10000).natAbs : Nat) : Int) by omega]
      exact h8 ((q.1.1, q.2), q.1.2) _ _ h2 h1 (by omega)
    · rw [decide_eq_false hn, cond_false, show clamp (zint z) (-10000) 10000 = (((clamp (zint z) (-10000) 10000).natAbs : Nat) : Int) by omega]
      exact h8 q _ _ h1 h2 (by omega)
  rw [f_ref7_power.f, f_ref7_power.q, f_ref7_power.c, f_ref7_Negative.spec, Option.bind_some, show (er q).1 = en q.1 from rfl, f_ref7_Zero.spec, Option.bind_some]
  exact tot_cond (tot_cond (tot_bind ⟨_, f_ref7_Raise.spec⟩ fun _ _ => tot_some _) (h3 _)) (h3 _)
end Go.Ab
