/- What products, bits and quotients of natural numbers answer, in plain words. -/
import Derived.Test.YtgbihmngjppomaaDoorGE3
import Derived.Test.YtgbihmngjppomaaDoorS1
namespace Go.Ab
set_option linter.unusedVariables false
set_option linter.unusedSimpArgs false
/-! ### products -/
theorem getD_out {α : Type} {l : List α} {i : Nat} (h : l.length ≤ i) (z : α) : l.getD i z = z := by simp [List.getD, List.getElem?_eq_none h]
theorem f_ref3_Times.g12_spec {k : Nat} {M : List Int → List Int → List Int → Int → Option (List Int)} {N : List Int → List Int → List Int → Int → Int → Int → Option (List Int)} {x y o : List Int} {i j : Nat} {v : Int} (hk : 0 < k) (hv : 0 ≤ v ∧ v < 4294967296) (hij : i + j < o.length) (ho : o.length ≤ 1000000) :
    f_ref3_Times.g12 (f_ref3_trim.u k) k M N x y o (i : Int) (j : Int) v = N x y (o.set (i + j) (v % 65536)) (i : Int) (v / 65536) ((j + 1 : Nat) : Int) := by
  rw [f_ref3_Times.g12, gate_pos hk, f_ref3_Times.q_g12, f_ref3_Times.c_g12, wrapI (x := (i : Int) + (j : Int)) (by omega) (by omega), if_pos ⟨by omega, by omega⟩, tmod_of hv.1, tdiv_of hv.1, wrapI (by omega) (by omega), wrapN (by omega), show ((i : Int) + (j : Int)).toNat = i + j by omega, Nat.zero_add, List.take_of_length_le (by simp)]
theorem take_set {α : Type} {o : List α} {p : Nat} (h : p < o.length) (w : α) : (o.set p w).take (p + 1) = o.take p ++ [w] := by
  rw [List.take_succ_eq_append_getElem (by simpa using h), List.getElem_set_self, List.take_set_of_le (Nat.le_refl _)]
theorem drop_set {α : Type} (o : List α) (p : Nat) (w : α) : (o.set p w).drop (p + 1) = o.drop (p + 1) := by
  rw [List.drop_set_of_lt (by omega)]
theorem mc_room {c d o b : Int} {os bs : List Int} (h1 : 0 ≤ o ∧ o < 65536) (hc : 0 ≤ c ∧ c < 65536) (hd : 0 ≤ d ∧ d < 65536) (h3 : 0 ≤ b ∧ b < 65536) {m : Nat} (h : vl (o :: os) + c.toNat + d.toNat * vl (b :: bs) < 65536 ^ (m + 1)) :
    vl os + ((o + c + d * b) / 65536).toNat + d.toNat * vl bs < 65536 ^ m := by
  have hm := mul_bound hd h3
  have hmn : d.toNat * b.toNat = (d * b).toNat := (Int.toNat_mul hd.1 h3.1).symm
  have hx : d.toNat * (65536 * vl bs) = 65536 * (d.toNat * vl bs) := Nat.mul_left_comm _ _ _
  simp only [vl, Nat.pow_succ, Nat.mul_add] at h
  rw [hmn, hx] at h
  omega
theorem f_ref3_Times.l2_spec {k : Nat} {N : List Int → List Int → List Int → Int → Option (List Int)} {x y : List Int} {i : Nat} (hi : i < x.length) (hx : Dig x) (hy : Dig y) (hbx : x.length ≤ 100000) (hby : y.length ≤ 100000) (hk : 500000 < k) :
    ∀ (r n j : Nat) (o : List Int) (c : Int), o.length - (i + j) = r → i + j ≤ o.length → o.length ≤ 300000 → r < n → Dig o → 0 ≤ c ∧ c < 65536 → y.length - j ≤ r → j ≤ 300000 →
      vl (o.drop (i + j)) + c.toNat + (x[i]).toNat * vl (y.drop j) < 65536 ^ r →
      f_ref3_Times.l2 (f_ref3_trim.u k) k N n x y o (i : Int) c (j : Int) = N x y (o.take (i + j) ++ mc c x[i] (o.drop (i + j)) (y.drop j)) ((i + 1 : Nat) : Int) := by
  have dx := hx _ (List.getElem_mem hi)
  intro r
  induction r with
  | zero =>
    intro n j o c hr hij ho hn hdo hc hyj hj hroom
    obtain ⟨n, rfl⟩ : ∃ m, n = m + 1 := ⟨n - 1, by omega⟩
    rw [List.drop_of_length_le (by omega), List.drop_of_length_le (l := y) (by omega)] at *
    simp only [vl, Nat.pow_zero] at hroom
    rw [f_ref3_Times.l2, f_ref3_Times.q_l2, f_ref3_Times.c_l2, decide_eq_false (by omega), cond_false, decide_eq_false (by omega), cond_false, wrapN (by omega), mc, List.append_nil, List.take_of_length_le (by omega)]
  | succ r ih =>
    intro n j o c hr hij ho hn hdo hc hyj hj hroom
    obtain ⟨n, rfl⟩ : ∃ m, n = m + 1 := ⟨n - 1, by omega⟩
    have hp : i + j < o.length := by omega
    have do_ := hdo _ (List.getElem_mem hp)
    rw [drop_cons hp] at hroom ⊢
    have key : ∀ w : Int, (o.set (i + j) w).take (i + (j + 1)) = o.take (i + j) ++ [w] ∧ (o.set (i + j) w).drop (i + (j + 1)) = o.drop (i + j + 1) := fun w => ⟨take_set hp w, drop_set o _ w⟩
    have kd : ∀ w : Int, 0 ≤ w ∧ w < 65536 → Dig (o.set (i + j) w) := fun w hw z hz => by
      rcases List.mem_or_eq_of_mem_set hz with h | h
      · exact hdo z h
      · subst h; exact hw
    by_cases hyi : j < y.length
    · have dy := hy _ (List.getElem_mem hyi)
      have hm := mul_bound dx dy
      rw [drop_cons hyi] at hroom ⊢
      have hroom' := mc_room do_ hc dx dy hroom
      rw [f_ref3_Times.l2, f_ref3_Times.q_l2, f_ref3_Times.c_l2, decide_eq_true (by omega), cond_true, f_ref3_Times.g9, gate_pos (by omega), f_ref3_Times.q_g9, f_ref3_Times.c_g9, wrapI (x := (i : Int) + (j : Int)) (by omega) (by omega), if_pos ⟨by omega, by omega⟩, decide_eq_true (by omega), cond_true, if_pos ⟨by omega, by omega⟩, if_pos ⟨by omega, by omega⟩,
        show ((i : Int) + (j : Int)).toNat = i + j by omega, Nat.zero_add, Int.toNat_natCast, Int.toNat_natCast, getD_of hp, getD_of hi, getD_of hyi, wrapI (x := o[i + j] + c) (by omega) (by omega), wrapI (x := x[i] * y[j]) (by omega) (by omega), wrapI (by omega) (by omega),
        f_ref3_Times.g12_spec (by omega) (by omega) hp (by omega),
        ih n (j + 1) _ _ (by simp; omega) (by simp; omega) (by simpa using ho) (by omega) (kd _ (by omega)) (by omega) (by omega) (by omega) (by rw [(key _).2]; exact hroom'), (key _).1, (key _).2, mc, List.append_assoc, List.singleton_append]
    · rw [List.drop_of_length_le (l := y) (by omega)] at hroom ⊢
      simp only [vl, Nat.pow_succ, Nat.mul_zero, Nat.add_zero] at hroom
      by_cases hc0 : c > 0
      · rw [f_ref3_Times.l2, f_ref3_Times.q_l2, f_ref3_Times.c_l2, decide_eq_false (by omega), cond_false, decide_eq_true hc0, cond_true, f_ref3_Times.g9, gate_pos (by omega), f_ref3_Times.q_g9, f_ref3_Times.c_g9, wrapI (x := (i : Int) + (j : Int)) (by omega) (by omega), if_pos ⟨by omega, by omega⟩, decide_eq_false (by omega), cond_false,
          show ((i : Int) + (j : Int)).toNat = i + j by omega, Nat.zero_add, getD_of hp, wrapI (x := o[i + j] + c) (by omega) (by omega),
          f_ref3_Times.g12_spec (by omega) (by omega) hp (by omega),
          ih n (j + 1) _ _ (by simp; omega) (by simp; omega) (by simpa using ho) (by omega) (kd _ (by omega)) (by omega) (by omega) (by omega) (by rw [(key _).2, List.drop_of_length_le (l := y) (by omega)]; simp only [vl, Nat.mul_zero, Nat.add_zero]; omega), (key _).1, (key _).2, List.drop_of_length_le (l := y) (by omega), mc, if_pos hc0, List.append_assoc, List.singleton_append]
      · rw [f_ref3_Times.l2, f_ref3_Times.q_l2, f_ref3_Times.c_l2, decide_eq_false (by omega), cond_false, decide_eq_false hc0, cond_false, wrapN (by omega), mc, if_neg hc0, ← drop_cons hp, List.take_append_drop]
theorem f_ref3_Times.l0_spec {k : Nat} {x y : List Int} (hx : Dig x) (hy : Dig y) (hbx : x.length ≤ 100000) (hby : y.length ≤ 100000) (hk : 500000 < k) :
    ∀ (d n i : Nat) (o : List Int), x.length - i = d → i ≤ x.length → d < n → Dig o → o.length = x.length + y.length + 1 → vl o = vl (x.take i) * vl y →
      f_ref3_Times.l0 (f_ref3_trim.u k) k n x y o (i : Int) = some (dg (vl x * vl y)) := by
  intro d
  induction d with
  | zero =>
    intro n i o hd hi hn hdo hlo hv
    obtain ⟨n, rfl⟩ : ∃ m, n = m + 1 := ⟨n - 1, by omega⟩
    rw [f_ref3_Times.l0, f_ref3_Times.q_l0, f_ref3_Times.c_l0, decide_eq_false (by omega), cond_false, f_ref3_trim.spec hdo (by omega) (by omega), hv, List.take_of_length_le (by omega)]
    rfl
  | succ d ih =>
    intro n i o hd hi hn hdo hlo hv
    obtain ⟨n, rfl⟩ : ∃ m, n = m + 1 := ⟨n - 1, by omega⟩
    have hxi : i < x.length := by omega
    have dx := hx _ (List.getElem_mem hxi)
    have e1 : vl o = vl (o.take i) + 65536 ^ i * vl (o.drop i) := by
      conv => lhs; rw [← List.take_append_drop i o, vl_append, List.length_take, Nat.min_eq_left (by omega)]
    have e2 : vl (x.take (i + 1)) * vl y = vl o + 65536 ^ i * ((x[i]).toNat * vl y) := by
      rw [vl_take_succ hxi, Nat.add_mul, hv, Nat.mul_assoc]
    have e3 : vl (x.take (i + 1)) * vl y < 65536 ^ (i + 1) * 65536 ^ y.length := by
      refine Nat.mul_lt_mul'' ?_ (vl_lt hy)
      have := vl_lt (dig_take hx (i + 1))
      rwa [List.length_take, Nat.min_eq_left (by omega)] at this
    have hroom : vl (o.drop i) + (0 : Int).toNat + (x[i]).toNat * vl y < 65536 ^ (o.length - i) := by
      refine Nat.lt_of_mul_lt_mul_left (a := 65536 ^ i) ?_
      have h4 : 65536 ^ (i + 1) * 65536 ^ y.length ≤ 65536 ^ i * 65536 ^ (o.length - i) := by
        rw [← Nat.pow_add, ← Nat.pow_add]
        exact pow_le_pow (by omega)
      rw [show (0 : Int).toNat = 0 from rfl, Nat.add_zero, Nat.mul_add]
      omega
    obtain ⟨m1, m2⟩ := mc_spec 0 x[i] (o.drop i) y (dig_drop hdo i) hy (by omega) dx (by rw [List.length_drop]; omega) (by rw [List.length_drop]; exact hroom)
    have h := f_ref3_Times.l2_spec (k := k) (N := fun x0 x1 x5 x6 => f_ref3_Times.l0 (f_ref3_trim.u k) k n x0 x1 x5 x6) hxi hx hy hbx hby hk (o.length - i) k 0 o 0 rfl (by omega) (by omega) (by omega) hdo (by omega) (by omega) (by omega) hroom
    rw [f_ref3_Times.l0, f_ref3_Times.q_l0, f_ref3_Times.c_l0, decide_eq_true (by omega), cond_true]
    refine h.trans ?_
    refine ih n (i + 1) _ (by omega) (by omega) (by omega) (dig_append.2 ⟨dig_take hdo _, m1⟩) (by rw [List.length_append, mc_length, List.length_take, List.length_drop]; omega) ?_
    rw [Nat.add_zero, List.drop_zero, vl_append, m2, List.length_take, Nat.min_eq_left (by omega), e2, e1, show (0 : Int).toNat = 0 from rfl, Nat.add_zero, Nat.mul_add, Nat.add_assoc]
theorem f_ref3_Times.spec {k a b : Nat} (ha : lg a ≤ 100000) (hb : lg b ≤ 100000) (hk : 500000 < k) : f_ref3_Times.u k (dg a, dg b) = some (dg (a * b)) := by
  show f_ref3_Times.f _ k (dg a) (dg b) = _
  have la := len_dg a
  have lb := len_dg b
  rw [f_ref3_Times.f, f_ref3_Times.q, f_ref3_Times.c, wrapI (x := ((dg a).length : Int) + ((dg b).length : Int)) (by omega) (by omega), wrapI (by omega) (by omega), if_pos ⟨by omega, by simp only [LIM]; omega, by omega⟩]
  have e : (((dg a).length : Int) + ((dg b).length : Int) + 1).toNat = (dg a).length + (dg b).length + 1 := by omega
  rw [e, List.take_of_length_le (by simp)]
  have h := f_ref3_Times.l0_spec (k := k) (dig_dg a) (dig_dg b) ha hb hk _ k 0 (List.replicate ((dg a).length + (dg b).length + 1) 0) rfl (by omega) (by omega) (dig_rep _) (by simp) (by rw [vl_rep, List.take_zero, vl, Nat.zero_mul])
  rw [vl_dg, vl_dg] at h
  exact h
/-! ### bits -/
theorem f_ref3_Ones.l2_spec {k : Nat} {N : List Int → List Bool → Int → Option (List Bool)} {x : List Int} {i : Nat} (hi : i ≤ 1000000) :
    ∀ (r n m v : Nat) (out : List Bool), m + r = 16 → r < n → v ≤ 65536 → out.length + r ≤ 10000000 →
      f_ref3_Ones.l2 k N n x out (i : Int) (v : Int) (m : Int) = N x (out ++ bn r v) ((i + 1 : Nat) : Int) := by
  intro r
  induction r with
  | zero =>
    intro n m v out hm hn hv ho
    obtain ⟨n, rfl⟩ : ∃ m, n = m + 1 := ⟨n - 1, by omega⟩
    rw [f_ref3_Ones.l2, f_ref3_Ones.q_l2, f_ref3_Ones.c_l2, decide_eq_false (by omega), cond_false, wrapN (by omega), bn, List.append_nil]
  | succ r ih =>
    intro n m v out hm hn hv ho
    obtain ⟨n, rfl⟩ : ∃ m, n = m + 1 := ⟨n - 1, by omega⟩
    have hb : (Int.tmod (v : Int) 2 == 1) = (v % 2 == 1) := by
      rw [Int.tmod_eq_emod_of_nonneg (by omega)]
      rcases Nat.mod_two_eq_zero_or_one v with h | h
      · rw [h, show (v : Int) % 2 = 0 by omega]; rfl
      · rw [h, show (v : Int) % 2 = 1 by omega]; rfl
    have hq : Int.tdiv (v : Int) 2 = ((v / 2 : Nat) : Int) := by rw [Int.tdiv_eq_ediv_of_nonneg (by omega)]; omega
    rw [f_ref3_Ones.l2, f_ref3_Ones.q_l2, f_ref3_Ones.c_l2, decide_eq_true (by omega), cond_true, if_pos (by simp only [LIM, List.length_cons, List.length_nil]; omega), hb, hq, wrapI (by omega) (by omega), wrapN (by omega),
      ih n (m + 1) (v / 2) _ (by omega) (by omega) (by omega) (by simp; omega), bn, List.append_assoc, List.singleton_append]
theorem f_ref3_Ones.l4_spec {k : Nat} : ∀ (m : Nat) (l : List Bool) (n : Nat), l.length = m → m < n → m ≤ 4611686018427387904 → f_ref3_Ones.l4 k n l = some (tb l) := by
  intro m
  induction m with
  | zero =>
    intro l n hl hn hb
    obtain ⟨n, rfl⟩ : ∃ m, n = m + 1 := ⟨n - 1, by omega⟩
    rw [List.length_eq_zero_iff.1 hl, f_ref3_Ones.l4, f_ref3_Ones.q_l4, f_ref3_Ones.c_l4, decide_eq_false (by simp), cond_false]
    rfl
  | succ m ih =>
    intro l n hl hn hb
    obtain ⟨n, rfl⟩ : ∃ m, n = m + 1 := ⟨n - 1, by omega⟩
    rcases snoc_cases l with rfl | ⟨t, x, rfl⟩
    · cases hl
    · have ht : t.length = m := by simpa using hl
      have hL : ((t ++ [x]).length : Int) = (t.length : Int) + 1 := by simp
      have hg : (t ++ [x]).getD t.length false = x := by simp [List.getD]
      rw [f_ref3_Ones.l4, f_ref3_Ones.q_l4, f_ref3_Ones.c_l4, hL, wrapI (by omega) (by omega), Int.add_sub_cancel, decide_eq_true (by omega), cond_true, if_pos ⟨by omega, by omega⟩, Nat.zero_add, Int.toNat_natCast, hg]
      cases x with
      | false =>
        rw [Bool.not_false, cond_true, if_pos ⟨by omega, by omega⟩, Int.sub_zero, Int.toNat_natCast, List.take_left, tb_snocf]
        exact ih t n ht (by omega) (by omega)
      | true => rw [Bool.not_true, cond_false, tb_snoct]
theorem f_ref3_Ones.l0_spec {k : Nat} {x : List Int} (hx : Dig x) (hbx : x.length ≤ 100000) (hk : 2000000 < k) :
    ∀ (d n i : Nat) (out : List Bool), x.length - i = d → i ≤ x.length → d < n → out.length = 16 * i → f_ref3_Ones.l0 k n x out (i : Int) = some (tb (out ++ ob (x.drop i))) := by
  intro d
  induction d with
  | zero =>
    intro n i out hd hi hn ho
    obtain ⟨n, rfl⟩ : ∃ m, n = m + 1 := ⟨n - 1, by omega⟩
    rw [f_ref3_Ones.l0, f_ref3_Ones.q_l0, f_ref3_Ones.c_l0, decide_eq_false (by omega), cond_false, List.drop_of_length_le (by omega), ob, List.append_nil]
    exact f_ref3_Ones.l4_spec _ out k rfl (by omega) (by omega)
  | succ d ih =>
    intro n i out hd hi hn ho
    obtain ⟨n, rfl⟩ : ∃ m, n = m + 1 := ⟨n - 1, by omega⟩
    have hxi : i < x.length := by omega
    have dx := hx _ (List.getElem_mem hxi)
    rw [f_ref3_Ones.l0, f_ref3_Ones.q_l0, f_ref3_Ones.c_l0, decide_eq_true (by omega), cond_true, if_pos ⟨by omega, by omega⟩, Int.toNat_natCast, getD_of hxi, ← Int.toNat_of_nonneg dx.1]
    refine (f_ref3_Ones.l2_spec (by omega) 16 k 0 _ out rfl (by omega) (by omega) (by omega)).trans ?_
    rw [ih n (i + 1) _ (by omega) (by omega) (by omega) (by rw [List.length_append, bn_length]; omega), drop_cons hxi, ob, List.append_assoc]
theorem f_ref3_Ones.spec {k a : Nat} (ha : lg a ≤ 100000) (hk : 2000000 < k) : f_ref3_Ones.u k (dg a) = some (bt a) := by
  show f_ref3_Ones.f k _ = _
  have la := len_dg a
  rw [f_ref3_Ones.f, f_ref3_Ones.q, f_ref3_Ones.c]
  exact f_ref3_Ones.l0_spec (k := k) (dig_dg a) ha hk _ k 0 [] rfl (by omega) (by omega) rfl
theorem bv_take (x : List Bool) (j s : Nat) : bv ((x.drop j).take (s + 1)) = (x.getD j false).toNat + 2 * bv ((x.drop (j + 1)).take s) := by
  by_cases h : j < x.length
  · rw [drop_cons h, List.take_succ_cons, bv, getD_of h]
  · rw [List.drop_of_length_le (by omega), List.drop_of_length_le (by omega), List.take_nil, List.take_nil, getD_out (by omega)]
    rfl
theorem bv_take_lt (x : List Bool) (j s : Nat) (hs : s ≤ 16) : bv ((x.drop j).take s) < 65536 := by
  have h := bv_lt ((x.drop j).take s)
  have h2 : 2 ^ ((x.drop j).take s).length ≤ 2 ^ 16 := Nat.pow_le_pow_right (by omega) (by rw [List.length_take]; omega)
  have : (2 : Nat) ^ 16 = 65536 := rfl
  omega
theorem f_ref3_Binary.l2_spec {k : Nat} {N : List Bool → List Int → Int → Option (List Int)} {x : List Bool} {i : Nat} (hi : i ≤ 100000000) (hx : x.length ≤ 100000000) :
    ∀ (r n s : Nat) (out : List Int), r + s = 16 → r < n → out.length ≤ 100000000 →
      f_ref3_Binary.l2 (f_ref3_trim.u k) k N n x out (i : Int) ((bv ((x.drop (i + r)).take s) : Nat) : Int) ((r : Int) - 1) = N x (out ++ [((bv ((x.drop i).take 16) : Nat) : Int)]) ((i + 16 : Nat) : Int) := by
  intro r
  induction r with
  | zero =>
    intro n s out hm hn ho
    obtain ⟨n, rfl⟩ : ∃ m, n = m + 1 := ⟨n - 1, by omega⟩
    obtain rfl : s = 16 := by omega
    rw [f_ref3_Binary.l2, f_ref3_Binary.q_l2, f_ref3_Binary.c_l2, decide_eq_false (by omega), cond_false, if_pos (by simp only [LIM, List.length_cons, List.length_nil]; omega), wrapI (by omega) (by omega), Nat.add_zero]
    rfl
  | succ r ih =>
    intro n s out hm hn ho
    obtain ⟨n, rfl⟩ : ∃ m, n = m + 1 := ⟨n - 1, by omega⟩
    have hlt := bv_take_lt x (i + (r + 1)) s (by omega)
    have h := ih n (s + 1) out (by omega) (by omega) ho
    rw [bv_take, Nat.add_assoc] at h
    rw [f_ref3_Binary.l2, f_ref3_Binary.q_l2, f_ref3_Binary.c_l2, show ((r + 1 : Nat) : Int) - 1 = (r : Int) by omega, decide_eq_true (by omega), cond_true, wrapI (x := (i : Int) + (r : Int)) (by omega) (by omega), wrapI (x := (r : Int) - 1) (by omega) (by omega), wrapI (x := _ * 2) (by omega) (by omega), wrapI (x := _ * 2 + 1) (by omega) (by omega),
      show (i : Int) + (r : Int) = ((i + r : Nat) : Int) by omega, Int.toNat_natCast]
    by_cases hp : i + r < x.length
    · rw [decide_eq_true (by omega), cond_true, if_pos ⟨by omega, by omega⟩]
      cases hb : x.getD (i + r) false with
      | true =>
        rw [hb] at h
        rw [cond_true, ← h]
        congr 1
        simp only [Bool.toNat_true]; omega
      | false =>
        rw [hb] at h
        rw [cond_false, ← h]
        congr 1
        simp only [Bool.toNat_false]; omega
    · rw [getD_out (by omega)] at h
      rw [decide_eq_false (by omega), cond_false, ← h]
      congr 1
      simp only [Bool.toNat_false]; omega
theorem f_ref3_Binary.l0_spec {k : Nat} {x : List Bool} (hx : x.length ≤ 1000000) (hk : 2000000 < k) :
    ∀ (m n i : Nat) (out : List Int), x.length - i ≤ 16 * m → i ≤ x.length + 16 → m < n → Dig out → out.length ≤ i → f_ref3_Binary.l0 (f_ref3_trim.u k) k n x out (i : Int) = some (dg (vl (out ++ cb m (x.drop i)))) := by
  intro m
  induction m with
  | zero =>
    intro n i out hd hi hn ho hlo
    obtain ⟨n, rfl⟩ : ∃ m, n = m + 1 := ⟨n - 1, by omega⟩
    rw [f_ref3_Binary.l0, f_ref3_Binary.q_l0, f_ref3_Binary.c_l0, decide_eq_false (by omega), cond_false, f_ref3_trim.spec ho (by omega) (by omega), cb, List.append_nil]
    rfl
  | succ m ih =>
    intro n i out hd hi hn ho hlo
    obtain ⟨n, rfl⟩ : ∃ m, n = m + 1 := ⟨n - 1, by omega⟩
    rw [f_ref3_Binary.l0, f_ref3_Binary.q_l0, f_ref3_Binary.c_l0]
    by_cases hp : i < x.length
    · have hlt := bv_take_lt x i 16 (by omega)
      rw [decide_eq_true (by omega), cond_true, cb, if_neg (by intro h; have := congrArg List.length h; rw [List.length_drop, List.length_nil] at this; omega), List.drop_drop]
      have h := f_ref3_Binary.l2_spec (k := k) (N := fun x0 x3 x4 => f_ref3_Binary.l0 (f_ref3_trim.u k) k n x0 x3 x4) (x := x) (i := i) (by omega) (by omega) 16 k 0 out rfl (by omega) (by omega)
      rw [List.take_zero, bv] at h
      refine h.trans ?_
      rw [ih n (i + 16) _ (by omega) (by omega) (by omega) (dig_append.2 ⟨ho, dig_cons.2 ⟨by omega, dig_nil⟩⟩) (by simp; omega), List.append_assoc, List.singleton_append]
    · rw [decide_eq_false (by omega), cond_false, f_ref3_trim.spec ho (by omega) (by omega), cb, if_pos (List.drop_of_length_le (by omega)), List.append_nil]
      rfl
theorem f_ref3_Binary.spec {k : Nat} {x : List Bool} (hx : x.length ≤ 1000000) (hk : 2000000 < k) : f_ref3_Binary.u k x = some (dg (bv x)) := by
  show f_ref3_Binary.f _ k _ = _
  rw [f_ref3_Binary.f, f_ref3_Binary.q, f_ref3_Binary.c]
  have h := f_ref3_Binary.l0_spec (k := k) hx hk x.length k 0 [] (by omega) (by omega) (by omega) dig_nil (by simp)
  rw [List.nil_append, List.drop_zero, vl_cb (by omega)] at h
  exact h
/-! ### quotients -/
theorem f_ref3_Divide.l0_spec {k b : Nat} (hb : b ≠ 0) (lb : lg b ≤ 50000) {l : List Bool} (hl : l.length ≤ 1000000) (hk : 2000000 < k) :
    ∀ (i n : Nat), i ≤ l.length → i < n →
      f_ref3_Divide.l0 (f_ref3_Ones.u k) (f_ref3_Double.u k) (f_ref3_Compare.u k) (f_ref3_Minus.u k) (f_ref3_Binary.u k) k n (dg b) l (List.replicate i false ++ (dv b (l.drop i)).1) (dg (dv b (l.drop i)).2) ((i : Int) - 1) = some (dg (bv (dv b l).1), dg (dv b l).2) := by
  intro i
  induction i with
  | zero =>
    intro n hi hn
    obtain ⟨n, rfl⟩ : ∃ m, n = m + 1 := ⟨n - 1, by omega⟩
    rw [f_ref3_Divide.l0, f_ref3_Divide.q_l0, f_ref3_Divide.c_l0, decide_eq_false (by omega), cond_false, List.drop_zero, List.replicate_zero, List.nil_append, f_ref3_Binary.spec (by rw [dv_length]; omega) hk]
    rfl
  | succ i ih =>
    intro n hi hn
    obtain ⟨n, rfl⟩ : ∃ m, n = m + 1 := ⟨n - 1, by omega⟩
    have hxi : i < l.length := by omega
    have hr := (dv_spec hb (l.drop (i + 1))).1
    have hlen : (List.replicate (i + 1) false ++ (dv b (l.drop (i + 1))).1).length = l.length := by
      rw [List.length_append, List.length_replicate, dv_length, List.length_drop]; omega
    have hlr := lg_mono (Nat.le_of_lt hr)
    have hbt := Bool.toNat_le l[i]
    have h2 : lg (2 * (dv b (l.drop (i + 1))).2 + (l[i]).toNat) ≤ 50001 := by
      have : 2 * (dv b (l.drop (i + 1))).2 + (l[i]).toNat ≤ b + b := by omega
      exact Nat.le_trans (lg_mono this) (lg_add_le lb lb)
    have h := ih n (by omega) (by omega)
    rw [drop_cons hxi, dv] at h
    rw [f_ref3_Divide.l0, f_ref3_Divide.q_l0, f_ref3_Divide.c_l0, show ((i + 1 : Nat) : Int) - 1 = (i : Int) by omega, decide_eq_true (by omega), cond_true, if_pos ⟨by omega, by omega⟩, Int.toNat_natCast, getD_of hxi, f_ref3_Double.spec (by omega) (by omega), Option.bind_some, f_ref3_Compare.spec (by omega) (by omega), Option.bind_some, cmp_ge, wrapI (by omega) (by omega)]
    by_cases hle : b ≤ 2 * (dv b (l.drop (i + 1))).2 + (l[i]).toNat
    · rw [if_pos hle] at h
      rw [decide_eq_true hle, cond_true, f_ref3_Minus.spec (by omega) hle (by omega), Option.bind_some, hlen, if_pos ⟨by omega, by omega⟩, Nat.zero_add, set_mid, List.take_of_length_le (by rw [← hlen]; simp; omega)]
      exact h
    · rw [if_neg hle] at h
      rw [decide_eq_false hle, cond_false, ← h, List.replicate_succ', List.append_assoc, List.singleton_append]
theorem f_ref3_Divide.spec {k a b : Nat} (ha : lg a ≤ 50000) (hb : b ≠ 0) (lb : lg b ≤ 50000) (hk : 2000000 < k) : f_ref3_Divide.u k (dg a, dg b) = some (dg (a / b), dg (a % b)) := by
  show f_ref3_Divide.f _ _ _ _ _ k _ _ = _
  have hbl := bt_length a
  rw [f_ref3_Divide.f, f_ref3_Divide.q, f_ref3_Divide.c, f_ref3_Ones.spec (by omega) hk, Option.bind_some, if_pos ⟨by omega, by simp only [LIM]; omega, by omega⟩, List.take_of_length_le (by simp), wrapI (by omega) (by omega)]
  have h := f_ref3_Divide.l0_spec (k := k) hb lb (l := bt a) (by omega) hk (bt a).length k (Nat.le_refl _) (by omega)
  rw [List.drop_of_length_le (Nat.le_refl _), dv, List.append_nil, dg_zero, (dv_quot hb a).1, (dv_quot hb a).2] at h
  exact h
end Go.Ab
