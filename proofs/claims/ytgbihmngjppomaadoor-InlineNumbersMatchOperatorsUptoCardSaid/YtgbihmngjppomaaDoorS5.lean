/- What the operators answer: bits; and arithmetic answers. -/
import Derived.Test.YtgbihmngjppomaaDoorS4
namespace Go.Ab
set_option linter.unusedVariables false
set_option linter.unusedSimpArgs false
theorem tot_len_places2 {k : Nat} (hk : 2000000 < k) {z : Zt} : ∀ (d n i : Nat) (o : List Bool), o.length - i = d → i ≤ o.length → d < n → o.length ≤ 1000000 → ∃ o', f_ref7_places.l2 (f_ref7_Negative.u k) (f_ref3_Small.u k) (f_ref3_Minus.u k) (f_ref3_Ones.u k) k n (en z) o (o.length : Int) (i : Int) = some o' ∧ o'.length = o.length := by
  intro d
  induction d with
  | zero =>
    intro n i o hd hi hn ho
    obtain ⟨n, rfl⟩ : ∃ m, n = m + 1 := ⟨n - 1, by omega⟩
    rw [f_ref7_places.l2, f_ref7_places.q_l2, f_ref7_places.c_l2, decide_eq_false (by omega), cond_false]
    exact ⟨_, rfl, rfl⟩
  | succ d ih =>
    intro n i o hd hi hn ho
    obtain ⟨n, rfl⟩ : ∃ m, n = m + 1 := ⟨n - 1, by omega⟩
    rw [f_ref7_places.l2, f_ref7_places.q_l2, f_ref7_places.c_l2, decide_eq_true (by omega), cond_true, if_pos ⟨by omega, by omega⟩, f_ref7_Negative.spec, Option.bind_some, if_pos ⟨by omega, by omega⟩, wrapN (by omega), List.take_of_length_le (by simp)]
    have h := ih n (i + 1) (o.set (0 + Int.toNat (i : Int)) ((o.getD (0 + Int.toNat (i : Int)) false) != (z.1 && decide (0 < z.2)))) (by simp; omega) (by simp; omega) (by omega) (by simpa using ho)
    rwa [List.length_set] at h
theorem tot_len_places0 {k : Nat} (hk : 2000000 < k) {z : Zt} {x1 : Int} {l : List Bool} (hl : l.length ≤ 1000000) : ∀ (d n i : Nat) (o : List Bool), l.length - i = d → i ≤ l.length → d < n → (o.length : Int) = x1 → o.length ≤ 1000000 → ∃ o', f_ref7_places.l0 (f_ref7_Negative.u k) (f_ref3_Small.u k) (f_ref3_Minus.u k) (f_ref3_Ones.u k) k n x1 (en z) o l (l.length : Int) (i : Int) = some o' ∧ o'.length = o.length := by
  intro d
  induction d with
  | zero =>
    intro n i o hd hi hn hox ho
    obtain ⟨n, rfl⟩ : ∃ m, n = m + 1 := ⟨n - 1, by omega⟩
    rw [f_ref7_places.l0, f_ref7_places.q_l0, f_ref7_places.c_l0, decide_eq_false (by omega), cond_false]
    exact tot_len_places2 hk o.length k 0 o (by omega) (by omega) (by omega) ho
  | succ d ih =>
    intro n i o hd hi hn hox ho
    obtain ⟨n, rfl⟩ : ∃ m, n = m + 1 := ⟨n - 1, by omega⟩
    rw [f_ref7_places.l0, f_ref7_places.q_l0, f_ref7_places.c_l0, decide_eq_true (by omega), cond_true, if_pos ⟨by omega, by omega⟩, wrapN (by omega), List.take_of_length_le (by simp)]
    by_cases h : (i : Int) < x1
    · rw [decide_eq_true h, cond_true, if_pos ⟨by omega, by omega⟩]
      have h := ih n (i + 1) (o.set (0 + Int.toNat (i : Int)) (l.getD (Int.toNat (i : Int)) false)) (by omega) (by omega) (by omega) (by simpa using hox) (by simpa using ho)
      rwa [List.length_set] at h
    · rw [decide_eq_false h, cond_false]
      exact ih n (i + 1) o (by omega) (by omega) (by omega) hox ho
theorem f_ref7_places.tot {k : Nat} (hk : 2000000 < k) {z : Zt} (hz : lg z.2 ≤ 1000) {m : Nat} (hm : m ≤ 1000000) : ∃ o, f_ref7_places.u k (en z, (m : Int)) = some o ∧ o.length = m := by
  show ∃ o, f_ref7_places.f (f_ref7_Negative.u k) (f_ref3_Small.u k) (f_ref3_Minus.u k) (f_ref3_Ones.u k) k (en z) (m : Int) = some o ∧ _
  have hb := bt_length z.2
  have hb1 := bt_length (z.2 - 1)
  have hz1 := lg_mono (Nat.sub_le z.2 1)
  have hL : 0 ≤ (m : Int) ∧ (m : Int).toNat * 1 ≤ LIM ∧ (m : Int) ≤ 140737488355328 := ⟨by omega, by simp only [LIM]; omega, by omega⟩
  rw [f_ref7_places.f, f_ref7_places.q, f_ref7_places.c, f_ref7_Negative.spec, Option.bind_some]
  simp only [if_pos hL]
  rw [List.take_of_length_le (l := List.replicate (m : Int).toNat false) (by simp), show (en z).2 = dg z.2 from rfl, f_ref3_Ones.spec (a := z.2) (by omega) hk, Option.bind_some, f_ref3_Small.one (by omega), Option.bind_some]
  by_cases h : (z.1 && decide (0 < z.2)) = true
  · rw [h, cond_true]
    rw [Bool.and_eq_true, decide_eq_true_eq] at h
    rw [f_ref3_Minus.spec (by omega) (by omega) (by omega), Option.bind_some, f_ref3_Ones.spec (by omega) hk, Option.bind_some]
    have h := tot_len_places0 (k := k) hk (z := z) (x1 := (m : Int)) (l := bt (z.2 - 1)) (by omega) _ k 0 (List.replicate m false) rfl (by omega) (by omega) (by simp) (by simpa using hm)
    rwa [List.length_replicate] at h
  · rw [Bool.not_eq_true] at h
    rw [h, cond_false]
    have h := tot_len_places0 (k := k) hk (z := z) (x1 := (m : Int)) (l := bt z.2) (by omega) _ k 0 (List.replicate m false) rfl (by omega) (by omega) (by simp) (by simpa using hm)
    rwa [List.length_replicate] at h
theorem lg_bv (l : List Bool) : lg (bv l) ≤ l.length := lg_le (Nat.lt_of_lt_of_le (bv_lt l) (Nat.pow_le_pow_left (by omega) _))
theorem f_ref7_fromPlaces.l0_tot {k : Nat} (hk : 2000000 < k) {z : X_Int} : ∀ (d n i : Nat) (o : List Bool), o.length - i = d → i ≤ o.length → d < n → o.length ≤ 90000 → ∃ w : Zt, f_ref7_fromPlaces.l0 (f_ref3_Binary.u k) (f_ref3_Small.u k) (f_ref3_Plus.u k) k n o z (o.length : Int) (i : Int) = some (en w) ∧ lg w.2 ≤ o.length + 1 := by
  intro d
  induction d with
  | zero =>
    intro n i o hd hi hn ho
    obtain ⟨n, rfl⟩ : ∃ m, n = m + 1 := ⟨n - 1, by omega⟩
    have h1 := lg_bv o
    rw [f_ref7_fromPlaces.l0, f_ref7_fromPlaces.q_l0, f_ref7_fromPlaces.c_l0, decide_eq_false (by omega), cond_false, f_ref3_Binary.spec (by omega) hk, Option.bind_some, f_ref3_Small.one (by omega), Option.bind_some, f_ref3_Plus.spec (by omega) (by rw [lg_one]; omega) (by omega), Option.bind_some]
    by_cases h0 : o.length = 0
    · obtain rfl := List.length_eq_zero_iff.1 h0
      exact ⟨(true, bv [] + 1), rfl, by show lg (0 + 1) ≤ _; rw [Nat.zero_add, lg_one]; simp⟩
    · exact ⟨(true, bv o + 1), rfl, lg_add_le h1 (by rw [lg_one]; omega)⟩
  | succ d ih =>
    intro n i o hd hi hn ho
    obtain ⟨n, rfl⟩ : ∃ m, n = m + 1 := ⟨n - 1, by omega⟩
    rw [f_ref7_fromPlaces.l0, f_ref7_fromPlaces.q_l0, f_ref7_fromPlaces.c_l0, decide_eq_true (by omega), cond_true, if_pos ⟨by omega, by omega⟩, if_pos ⟨by omega, by omega⟩, wrapN (by omega), List.take_of_length_le (by simp)]
    have h := ih n (i + 1) (o.set (0 + Int.toNat (i : Int)) (! (o.getD (0 + Int.toNat (i : Int)) false))) (by simp; omega) (by simp; omega) (by omega) (by simpa using ho)
    rwa [List.length_set] at h
theorem f_ref7_fromPlaces.tot {k : Nat} (hk : 2000000 < k) {o : List Bool} (h0 : 0 < o.length) (ho : o.length ≤ 90000) : ∃ w : Zt, f_ref7_fromPlaces.u k o = some (en w) ∧ lg w.2 ≤ o.length + 1 := by
  show ∃ w : Zt, f_ref7_fromPlaces.f (f_ref3_Binary.u k) (f_ref3_Small.u k) (f_ref3_Plus.u k) k o = some (en w) ∧ _
  rw [f_ref7_fromPlaces.f, f_ref7_fromPlaces.q, f_ref7_fromPlaces.c, wrapI (by omega) (by omega), if_pos ⟨by omega, by omega⟩]
  cases (! (o.getD (0 + ((o.length : Int) - 1).toNat) false)) with
  | true =>
    have h1 := lg_bv o
    rw [cond_true, f_ref3_Binary.spec (by omega) hk]
    exact ⟨(false, bv o), rfl, by dsimp only; omega⟩
  | false =>
    rw [cond_false]
    exact f_ref7_fromPlaces.l0_tot hk _ k 0 o rfl (by omega) (by omega) ho
theorem f_ref7_bits.l0_tot {k : Nat} (hk : 2000000 < k) {op : Int} {s : X_Step} {b : List Bool} : ∀ (d n i : Nat) (a : List Bool), a.length - i = d → i ≤ a.length → d < n → a.length = b.length → 0 < a.length → a.length ≤ 80000 → Tot (f_ref7_bits.l0 (f_ref3_Ones.u k) (f_ref7_places.u k) (f_ref7_fromPlaces.u k) (f_ref7_integer.u k) (f_ref7_Negative.u k) (f_ref7_Raise.u k) (f_ref7_Zero.u k) (f_ref7_N.u k) (f_ref7_Result.u k) (f_ref3_Number.u k) (f_ref3_Int_Order.u k) (f_ref7_TooLarge.u k) (f_ref7_Clamp.u k) (f_ref3_Int_Raised.u k) (f_ref3_Int_Times.u k) (f_ref3_Int_Floor.u k) k n op s a b (a.length : Int) (i : Int)) := by
  intro d
  induction d with
  | zero =>
    intro n i a hd hi hn hab h0 ha
    obtain ⟨n, rfl⟩ : ∃ m, n = m + 1 := ⟨n - 1, by omega⟩
    rw [f_ref7_bits.l0, f_ref7_bits.q_l0, f_ref7_bits.c_l0, decide_eq_false (by omega), cond_false]
    obtain ⟨w, hw, _⟩ := f_ref7_fromPlaces.tot hk h0 (by omega)
    rw [hw, Option.bind_some]
    exact tot_bind ⟨_, f_ref7_integer.spec hk⟩ fun _ _ => tot_some _
  | succ d ih =>
    intro n i a hd hi hn hab h0 ha
    obtain ⟨n, rfl⟩ : ∃ m, n = m + 1 := ⟨n - 1, by omega⟩
    have hL : 0 ≤ (i : Int) ∧ (i : Int) < (a.length : Int) := ⟨by omega, by omega⟩
    have hM : 0 ≤ (i : Int) ∧ (i : Int) < (b.length : Int) := ⟨by omega, by omega⟩
    have key : ∀ v, Tot (f_ref7_bits.l0 (f_ref3_Ones.u k) (f_ref7_places.u k) (f_ref7_fromPlaces.u k) (f_ref7_integer.u k) (f_ref7_Negative.u k) (f_ref7_Raise.u k) (f_ref7_Zero.u k) (f_ref7_N.u k) (f_ref7_Result.u k) (f_ref3_Number.u k) (f_ref3_Int_Order.u k) (f_ref7_TooLarge.u k) (f_ref7_Clamp.u k) (f_ref3_Int_Raised.u k) (f_ref3_Int_Times.u k) (f_ref3_Int_Floor.u k) k n op s (List.take a.length (a.set (0 + Int.toNat (i : Int)) v)) b (a.length : Int) (IntKind.i64.wrap ((i : Int) + 1))) := by
      intro v
      have h := ih n (i + 1) (a.set (0 + Int.toNat (i : Int)) v) (by simp; omega) (by simp; omega) (by omega) (by simpa using hab) (by simpa using h0) (by simpa using ha)
      rw [List.length_set] at h
      rw [List.take_of_length_le (by simp), wrapN (by omega)]
      exact h
    rw [f_ref7_bits.l0, f_ref7_bits.q_l0, f_ref7_bits.c_l0, decide_eq_true (by omega), cond_true]
    simp only [if_pos hL, if_pos hM]
    repeat' apply tot_cond
    all_goals exact key _
theorem lg_two' {j m : Nat} (h : j < 16 * m) : lg (2 ^ j) ≤ m := lg_le (by
  rw [pow16]
  exact Nat.pow_lt_pow_right (by omega) h)
theorem lg_two {j : Nat} (h : j ≤ 4095) : lg (2 ^ j) ≤ 256 := lg_two' (by omega)
theorem rz_two : ∀ (m j : Nat), j + m ≤ 4095 → rz m (false, 2) (false, 2 ^ j) = ((false, 2 ^ (j + m)), true)
  | 0, j, h => rfl
  | m + 1, j, h => by
    have e : zmul (false, 2 ^ j) (false, 2) = (false, 2 ^ (j + 1)) := by rw [Nat.pow_succ]; rfl
    rw [rz, e, decide_eq_true (lg_two (by omega)), cond_true, rz_two m (j + 1) (by omega), show j + 1 + m = j + (m + 1) by omega]
theorem zpow_two {m : Nat} (h : m ≤ 4095) : zpow (false, 2) m = ((false, 2 ^ m), true) := by
  have := rz_two m 0 (by omega)
  rw [Nat.pow_zero, Nat.zero_add] at this
  exact this
theorem f_ref7_bits.tot {k : Nat} (hk : 2000000 < k) {op : Int} {x y : Zt} (hx : lg x.2 ≤ 1000) (hy : lg y.2 ≤ 1000) : Tot (f_ref7_bits.u k (op, (en x, en y))) := by
  show Tot (f_ref7_bits.f (f_ref3_Ones.u k) (f_ref7_places.u k) (f_ref7_fromPlaces.u k) (f_ref7_integer.u k) (f_ref7_Negative.u k) (f_ref7_Raise.u k) (f_ref7_Zero.u k) (f_ref7_N.u k) (f_ref7_Result.u k) (f_ref3_Number.u k) (f_ref3_Int_Order.u k) (f_ref7_TooLarge.u k) (f_ref7_Clamp.u k) (f_ref3_Int_Raised.u k) (f_ref3_Int_Times.u k) (f_ref3_Int_Floor.u k) k op (en x) (en y))
  have bx := bt_length x.2
  have bly := bt_length y.2
  have zi : lg (decide ((4096 : Int) < 0), (4096 : Int).natAbs).2 ≤ 100000 := Nat.le_trans (lg_le (m := 2) (by dsimp only; omega)) (by omega)
  have h2 : ∀ s, Tot (f_ref7_bits.g2 (f_ref3_Ones.u k) (f_ref7_places.u k) (f_ref7_fromPlaces.u k) (f_ref7_integer.u k) (f_ref7_Negative.u k) (f_ref7_Raise.u k) (f_ref7_Zero.u k) (f_ref7_N.u k) (f_ref7_Result.u k) (f_ref3_Number.u k) (f_ref3_Int_Order.u k) (f_ref7_TooLarge.u k) (f_ref7_Clamp.u k) (f_ref3_Int_Raised.u k) (f_ref3_Int_Times.u k) (f_ref3_Int_Floor.u k) k op (en x) (en y) s) := by
    intro s
    rw [f_ref7_bits.g2, gate_pos (by omega), f_ref7_bits.q_g2, f_ref7_bits.c_g2, show (en x).2 = dg x.2 from rfl, show (en y).2 = dg y.2 from rfl, f_ref3_Ones.spec (by omega) hk, Option.bind_some, f_ref3_Ones.spec (by omega) hk, Option.bind_some, wrapI (x := ((bt x.2).length : Int) + ((bt y.2).length : Int)) (by omega) (by omega), wrapI (by omega) (by omega),
      show ((bt x.2).length : Int) + ((bt y.2).length : Int) + 2 = (((bt x.2).length + (bt y.2).length + 2 : Nat) : Int) by omega]
    obtain ⟨a, ha, la⟩ := f_ref7_places.tot hk hx (m := (bt x.2).length + (bt y.2).length + 2) (by omega)
    obtain ⟨b, hb, lb⟩ := f_ref7_places.tot hk hy (m := (bt x.2).length + (bt y.2).length + 2) (by omega)
    rw [ha, Option.bind_some, hb, Option.bind_some]
    exact f_ref7_bits.l0_tot hk _ k 0 a rfl (by omega) (by omega) (by omega) (by omega) (by omega)
  have h25 : ∀ s (p : Zt), lg p.2 ≤ 1000 → Tot (f_ref7_bits.g25 (f_ref3_Ones.u k) (f_ref7_places.u k) (f_ref7_fromPlaces.u k) (f_ref7_integer.u k) (f_ref7_Negative.u k) (f_ref7_Raise.u k) (f_ref7_Zero.u k) (f_ref7_N.u k) (f_ref7_Result.u k) (f_ref3_Number.u k) (f_ref3_Int_Order.u k) (f_ref7_TooLarge.u k) (f_ref7_Clamp.u k) (f_ref3_Int_Raised.u k) (f_ref3_Int_Times.u k) (f_ref3_Int_Floor.u k) k (en x) s (en p)) := by
    intro s p hp
    rw [f_ref7_bits.g25, gate_pos (by omega), f_ref7_bits.b_g25, f_ref3_Int_Times.spec (by omega) (by omega) (by omega), Option.bind_some]
    exact tot_bind ⟨_, f_ref7_integer.spec hk⟩ fun _ _ => tot_some _
  have h26 : ∀ s (p : Zt), lg p.2 ≤ 1000 → p.2 ≠ 0 → Tot (f_ref7_bits.g26 (f_ref3_Ones.u k) (f_ref7_places.u k) (f_ref7_fromPlaces.u k) (f_ref7_integer.u k) (f_ref7_Negative.u k) (f_ref7_Raise.u k) (f_ref7_Zero.u k) (f_ref7_N.u k) (f_ref7_Result.u k) (f_ref3_Number.u k) (f_ref3_Int_Order.u k) (f_ref7_TooLarge.u k) (f_ref7_Clamp.u k) (f_ref3_Int_Raised.u k) (f_ref3_Int_Times.u k) (f_ref3_Int_Floor.u k) k (en x) s (en p)) := by
    intro s p hp h0
    rw [f_ref7_bits.g26, gate_pos (by omega), f_ref7_bits.b_g26, f_ref3_Int_Floor.spec hk (by omega) (by omega) h0, Option.bind_some]
    exact tot_bind ⟨_, f_ref7_integer.spec hk⟩ fun _ _ => tot_some _
  have h21 : ∀ s, Tot (f_ref7_bits.g21 (f_ref3_Ones.u k) (f_ref7_places.u k) (f_ref7_fromPlaces.u k) (f_ref7_integer.u k) (f_ref7_Negative.u k) (f_ref7_Raise.u k) (f_ref7_Zero.u k) (f_ref7_N.u k) (f_ref7_Result.u k) (f_ref3_Number.u k) (f_ref3_Int_Order.u k) (f_ref7_TooLarge.u k) (f_ref7_Clamp.u k) (f_ref3_Int_Raised.u k) (f_ref3_Int_Times.u k) (f_ref3_Int_Floor.u k) k op (en x) (en y) s) := by
    intro s
    have hc : 0 ≤ clamp (zint y) 0 4095 ∧ clamp (zint y) 0 4095 ≤ 4095 := by unfold clamp; split <;> (try split) <;> omega
    obtain ⟨c, hcc⟩ : ∃ c : Nat, clamp (zint y) 0 4095 = (c : Int) := ⟨(clamp (zint y) 0 4095).toNat, by omega⟩
    have l2 : lg 2 ≤ 1 := lg_le (by omega)
    rw [f_ref7_bits.g21, gate_pos (by omega), f_ref7_bits.q_g21, f_ref7_bits.c_g21, f_ref3_Number.spec hk (by omega) (by omega), Option.bind_some, f_ref7_Clamp.spec hk (by omega) (by omega) (by omega) (by omega) (by omega), Option.bind_some, hcc,
      f_ref3_Int_Raised.spec (a := (decide ((2 : Int) < 0), (2 : Int).natAbs)) hk (Nat.le_trans l2 (by omega)) (by omega), Option.bind_some, show zpow (decide ((2 : Int) < 0), (2 : Int).natAbs) c = ((false, 2 ^ c), true) from zpow_two (by omega)]
    have lp : lg (2 ^ c) ≤ 256 := lg_two (by omega)
    have np : 2 ^ c ≠ 0 := Nat.ne_of_gt (Nat.pow_pos (by omega))
    rw [f_ref3_Number.spec hk (by omega) (by omega), Option.bind_some, f_ref3_Int_Order.spec (by omega) (by omega) zi, Option.bind_some]
    refine tot_cond ?_ (tot_cond (h25 _ (false, 2 ^ c) (by dsimp only; omega)) (h26 _ (false, 2 ^ c) (by dsimp only; omega) np))
    rw [Option.bind_some, show (en ((false, 2 ^ c), true).1, ((false, 2 ^ c), true).2).1 = en (false, 2 ^ c) from rfl, f_ref3_Int_Times.spec (a := (false, 2 ^ c)) (b := (decide ((2 : Int) < 0), (2 : Int).natAbs)) (by omega) (by dsimp only; omega) (Nat.le_trans l2 (by omega)), Option.bind_some]
    have lq : lg (zmul (false, 2 ^ c) (decide ((2 : Int) < 0), (2 : Int).natAbs)).2 ≤ 256 + 1 := zmul_lg lp l2
    have nq : (zmul (false, 2 ^ c) (decide ((2 : Int) < 0), (2 : Int).natAbs)).2 ≠ 0 := Nat.mul_ne_zero np (by decide)
    exact tot_cond (h25 _ _ (by omega)) (h26 _ _ (by omega) nq)
  have h19 : ∀ s, Tot (f_ref7_bits.g19 (f_ref3_Ones.u k) (f_ref7_places.u k) (f_ref7_fromPlaces.u k) (f_ref7_integer.u k) (f_ref7_Negative.u k) (f_ref7_Raise.u k) (f_ref7_Zero.u k) (f_ref7_N.u k) (f_ref7_Result.u k) (f_ref3_Number.u k) (f_ref3_Int_Order.u k) (f_ref7_TooLarge.u k) (f_ref7_Clamp.u k) (f_ref3_Int_Raised.u k) (f_ref3_Int_Times.u k) (f_ref3_Int_Floor.u k) k op (en x) (en y) s) := by
    intro s
    rw [f_ref7_bits.g19, gate_pos (by omega), f_ref7_bits.q_g19, f_ref7_bits.c_g19, f_ref3_Number.spec hk (by omega) (by omega), Option.bind_some, f_ref3_Int_Order.spec (by omega) (by omega) zi, Option.bind_some]
    exact tot_cond (tot_cond (tot_bind ⟨_, f_ref7_TooLarge.spec⟩ fun _ _ => tot_some _) (h21 _)) (h21 _)
  rw [f_ref7_bits.f, f_ref7_bits.q, f_ref7_bits.c]
  refine tot_cond (h2 _) (tot_cond (h2 _) (tot_cond (h2 _) (tot_bind ⟨_, f_ref7_Negative.spec⟩ fun _ _ => tot_cond (tot_bind ⟨_, f_ref7_Raise.spec⟩ fun _ _ => tot_some _) (tot_cond (tot_bind ⟨_, f_ref7_Zero.spec⟩ fun _ _ => tot_cond ?_ (h19 _)) (h19 _)))))
  exact tot_bind ⟨_, f_ref7_N.spec hk (by omega) (by omega)⟩ fun _ _ => tot_bind ⟨_, f_ref7_Result.spec⟩ fun _ _ => tot_some _
/-! ### arithmetic -/
theorem f_ref7_IsNumber.spec {k : Nat} {v : X_Value} : f_ref7_IsNumber.u k v = some (decide (v.1 = 2) || decide (v.1 = 3)) := by
  show f_ref7_IsNumber.f k v = _
  rw [f_ref7_IsNumber.f, f_ref7_IsNumber.b]
  by_cases h : v.1 = 2
  · rw [h]; rfl
  · rw [show (v.1 == 2) = false by simpa using h, cond_false, decide_eq_false h, Bool.false_or]
    congr 1
/-- the number of a value -/
def qv (v : X_Value) : Qt := bif decide (v.1 = 3) then ((v.2.1.1, v32 v.2.1.2), v32 v.2.2.1.2) else ((v.2.1.1, v32 v.2.1.2), 1)
/-- what is asked of a number's value -/
structure NV (v : X_Value) : Prop where
  num : lg (v32 v.2.1.2) ≤ 256
  den : lg (qv v).2 ≤ 256
  pos : (qv v).2 ≠ 0
theorem qv_num (v : X_Value) : (qv v).1 = (v.2.1.1, v32 v.2.1.2) := by
  unfold qv
  cases decide (v.1 = 3) <;> rfl
theorem nv_of {v : X_Value} (ht : TV v) (ho : VOk v) (hn : v.1 = 2 ∨ v.1 = 3) : NV v := by
  rcases hn with h | h
  · have h1 := intB_len (ho.int h)
    have h2 := v32_lg ht.num
    exact ⟨by omega, by unfold qv; rw [h]; exact Nat.le_trans (Nat.le_of_eq lg_one) (by omega), by unfold qv; rw [h]; exact Nat.one_ne_zero⟩
  · have h1 := intB_len (ho.ratN h)
    have h2 := v32_lg ht.num
    have h3 := intB_len (ho.ratD h)
    have h4 := v32_lg ht.den
    exact ⟨by omega, by unfold qv; rw [h]; show lg (v32 _) ≤ _; omega, by unfold qv; rw [h]; exact ho.ratZ h⟩
theorem f_ref7_Number.spec {k : Nat} (hk : 5000000 < k) {v : X_Value} (ht : TV v) (hl : v.2.1.2.length ≤ 1000000) (hl2 : v.2.2.1.2.length ≤ 1000000) : f_ref7_Number.u k v = some (er (qv v)) := by
  show f_ref7_Number.f (f_ref3_RatioOf.u k) (f_ref3_IntOf.u k) (f_ref3_Whole.u k) k v = _
  rw [f_ref7_Number.f, f_ref7_Number.b, f_ref3_RatioOf.spec (x := (v.2.1, v.2.2.1)) ht.num hl ht.den hl2 (by omega), Option.bind_some, show v.2.1 = (v.2.1.1, v.2.1.2) from rfl, f_ref3_IntOf.spec ht.num hl (by omega), Option.bind_some, f_ref3_Whole.spec (by omega), Option.bind_some]
  unfold qv
  by_cases h : v.1 = 3
  · rw [h]; rfl
  · rw [show (v.1 == 3) = false by simpa using h, decide_eq_false h]; rfl
theorem f_ref7_I.spec {k : Nat} (hk : 5000000 < k) {v : X_Value} (ht : TV v) (hl : v.2.1.2.length ≤ 1000000) : f_ref7_I.u k v = some (en (v.2.1.1, v32 v.2.1.2)) := by
  show f_ref7_I.f (f_ref3_IntOf.u k) k v = _
  rw [f_ref7_I.f, f_ref7_I.b, show v.2.1 = (v.2.1.1, v.2.1.2) from rfl, f_ref3_IntOf.spec ht.num hl (by omega)]
  rfl
end Go.Ab
