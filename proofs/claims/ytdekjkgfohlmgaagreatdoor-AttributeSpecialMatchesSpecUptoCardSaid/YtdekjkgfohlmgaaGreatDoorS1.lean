/- What the first functions of natural numbers answer, in plain words. -/
import Derived.Test.YtdekjkgfohlmgaaGreatDoorGC1
import Derived.Test.YtdekjkgfohlmgaaGreatDoorNt
import Derived.Test.YtdekjkgfohlmgaaGreatDoorPl1
namespace Go.Ab
set_option linter.unusedVariables false
set_option linter.unusedSimpArgs false
/-! ### enough fuel -/
def BK (k : Nat) : Prop := ∀ n, lg n ≤ 3000 → n < k
theorem bk_exists : ∃ k, BK k := ⟨65536 ^ 3000, fun n h => Nat.lt_of_lt_of_le (lt_lg n) (pow_le_pow h)⟩
theorem bk_lt {k : Nat} (h : BK k) : 1000000 < k := h _ (Nat.le_trans (lg_le (m := 2) (by omega)) (by omega))
/-! ### trim -/
theorem F136.l0_spec {k : Nat} : ∀ (m : Nat) (l : List Int) (n : Nat), l.length = m → Dig l → m < n → m ≤ 4611686018427387904 → F136.l0 k n l = some (dg (vl l)) := by
  intro m
  induction m with
  | zero =>
    intro l n hl hd hn hb
    obtain ⟨n, rfl⟩ : ∃ m, n = m + 1 := ⟨n - 1, by omega⟩
    rw [List.length_eq_zero_iff.1 hl, F136.l0, F136.q_l0, F136.c_l0, decide_eq_false (by simp), cond_false, vl, dg_zero]
  | succ m ih =>
    intro l n hl hd hn hb
    obtain ⟨n, rfl⟩ : ∃ m, n = m + 1 := ⟨n - 1, by omega⟩
    rcases snoc_cases l with rfl | ⟨t, x, rfl⟩
    · cases hl
    · have ht : t.length = m := by simpa using hl
      have hL : ((t ++ [x]).length : Int) = (t.length : Int) + 1 := by simp
      have hg : (t ++ [x]).getD t.length 0 = x := by simp [List.getD]
      rw [F136.l0, F136.q_l0, F136.c_l0, hL, wrapI (by omega) (by omega), Int.add_sub_cancel, decide_eq_true (by omega), cond_true, if_pos ⟨by omega, by omega⟩, Int.toNat_natCast, hg]
      obtain ⟨h1, h2⟩ := dig_append.1 hd
      by_cases hx : x = 0
      · subst hx
        rw [show ((0 : Int) == 0) = true from rfl, cond_true, if_pos ⟨by omega, by omega⟩, List.take_left, vl_snoc0]
        exact ih t n ht h1 (by omega) (by omega)
      · rw [show (x == 0) = false by simpa using hx, cond_false, dg_vl hd fun _ => by simpa using hx]
theorem F136.spec {k : Nat} {l : List Int} (hd : Dig l) (hk : l.length < k) (hb : l.length ≤ 4611686018427387904) : F136.u k l = some (dg (vl l)) := by
  show F136.f k l = _
  rw [F136.f, F136.b]
  exact F136.l0_spec l.length l k rfl hd hk hb
/-! ### limbs of 32 bits -/
def Lim (l : List Int) : Prop := ∀ d ∈ l, 0 ≤ d ∧ d < 4294967296
def v32 : List Int → Nat
  | [] => 0
  | d :: t => d.toNat + 4294967296 * v32 t
def two : List Int → List Int
  | [] => []
  | d :: t => [d % 65536, d / 65536] ++ two t
theorem two_length (l : List Int) : (two l).length = 2 * l.length := by
  induction l with
  | nil => rfl
  | cons d t ih => rw [two, List.length_append, ih, List.length_cons]; simp; omega
theorem two_spec {l : List Int} (h : Lim l) : Dig (two l) ∧ vl (two l) = v32 l := by
  induction l with
  | nil => exact ⟨dig_nil, rfl⟩
  | cons d t ih =>
    have hd := h d List.mem_cons_self
    obtain ⟨i1, i2⟩ := ih fun x hx => h x (List.mem_cons_of_mem _ hx)
    rw [two]
    refine ⟨dig_append.2 ⟨dig_cons.2 ⟨by omega, dig_cons.2 ⟨by omega, dig_nil⟩⟩, i1⟩, ?_⟩
    simp only [List.cons_append, List.nil_append, vl, v32, i2]
    omega
theorem wrap32 {x : Int} (h : 0 ≤ x) (h' : x < 4294967296) : IntKind.u32.wrap x = x := by
  simp only [IntKind.wrap, IntKind.signed, IntKind.bits]
  simp
  omega
theorem F131.l0_spec {k : Nat} {l : List Int} (hl : Lim l) (hb : l.length ≤ 1000000) (hk : 2 * l.length < k) (d : Nat) :
    ∀ (n i : Nat) (out : List Int), i ≤ l.length → l.length - i = d → d < n → Dig out → out.length = 2 * i → F131.l0 (F136.u k) k n l out (i : Int) = some (dg (vl (out ++ two (l.drop i)))) := by
  induction d with
  | zero =>
    intro n i out hi hd hn ho hlo
    obtain ⟨n, rfl⟩ : ∃ m, n = m + 1 := ⟨n - 1, by omega⟩
    rw [F131.l0, F131.q_l0, F131.c_l0, decide_eq_false (by omega), cond_false, List.drop_of_length_le (by omega), F136.spec ho (by omega) (by omega), two, List.append_nil]
    rfl
  | succ d ih =>
    intro n i out hi hd hn ho hlo
    obtain ⟨n, rfl⟩ : ∃ m, n = m + 1 := ⟨n - 1, by omega⟩
    have hlt : i < l.length := by omega
    have hx := hl _ (List.getElem_mem hlt)
    rw [F131.l0, F131.q_l0, F131.c_l0, decide_eq_true (by omega), cond_true, if_pos ⟨by omega, by omega⟩, if_pos ⟨by omega, by omega⟩, Int.toNat_natCast, getD_of hlt,
      Int.tmod_eq_emod_of_nonneg hx.1, Int.tdiv_eq_ediv_of_nonneg hx.1, wrap32 (by omega) (by omega), wrapI (by omega) (by omega), wrapI (by omega) (by omega), wrapN (by omega),
      show List.take 2 [l[i] % 65536, l[i] / 65536] = [l[i] % 65536, l[i] / 65536] from rfl, if_pos (by simp only [LIM, List.length_cons, List.length_nil]; omega),
      ih n (i + 1) _ (by omega) (by omega) (by omega) (dig_append.2 ⟨ho, dig_cons.2 ⟨by omega, dig_cons.2 ⟨by omega, dig_nil⟩⟩⟩) (by simp [hlo]; omega), drop_cons hlt, two, List.append_assoc]
theorem F131.spec {k : Nat} {l : List Int} (hl : Lim l) (hb : l.length ≤ 1000000) (hk : 2 * l.length < k) : F131.u k l = some (dg (v32 l)) := by
  show F131.f _ k l = _
  rw [F131.f, F131.b, ← (two_spec hl).2]
  exact F131.l0_spec hl hb hk l.length k 0 [] (by omega) (by omega) (by omega) dig_nil rfl
/-! ### small numbers -/
theorem F132.l0_spec {k : Nat} : ∀ (d m n : Nat) (out : List Int), m ≤ d → m < n → m ≤ 4611686018427387904 → out.length + m ≤ 4611686018427387904 → out.length + lg m ≤ 100 → F132.l0 k n (m : Int) out = some (out ++ dg m) := by
  intro d
  induction d with
  | zero =>
    intro m n out hd hn hb ho ho2
    obtain ⟨n, rfl⟩ : ∃ m, n = m + 1 := ⟨n - 1, by omega⟩
    obtain rfl : m = 0 := by omega
    rw [F132.l0, F132.q_l0, F132.c_l0, decide_eq_false (by omega), cond_false, dg_zero, List.append_nil]
  | succ d ih =>
    intro m n out hd hn hb ho ho2
    obtain ⟨n, rfl⟩ : ∃ m, n = m + 1 := ⟨n - 1, by omega⟩
    by_cases h0 : m = 0
    · subst h0
      rw [F132.l0, F132.q_l0, F132.c_l0, decide_eq_false (by omega), cond_false, dg_zero, List.append_nil]
    · have hm : Int.tmod (m : Int) 65536 = ((m % 65536 : Nat) : Int) := by rw [Int.tmod_eq_emod_of_nonneg (by omega)]; omega
      have hq : Int.tdiv (m : Int) 65536 = ((m / 65536 : Nat) : Int) := by rw [Int.tdiv_eq_ediv_of_nonneg (by omega)]; omega
      have hg := lg_pos h0
      rw [F132.l0, F132.q_l0, F132.c_l0, decide_eq_true (by omega), cond_true, hm, hq, wrapI (by omega) (by omega), if_pos (by simp only [LIM, List.length_cons, List.length_nil]; omega),
        ih (m / 65536) n _ (by omega) (by omega) (by omega) (by simp; omega) (by simp; omega), dg_pos h0, List.append_assoc, List.singleton_append]
theorem F132.spec {k m : Nat} (hk : m < k) (hb : m ≤ 1000000) : F132.u k (m : Int) = some (dg m) := by
  show F132.f k _ = _
  rw [F132.f, F132.b]
  have : lg m ≤ 2 := lg_le (by omega)
  exact F132.l0_spec m m k [] (by omega) hk (by omega) (by simp; omega) (by simp; omega)
theorem F132.one {k : Nat} (hk : 1 < k) : F132.u k 1 = some (dg 1) := F132.spec (m := 1) hk (by omega)
/-! ### order -/
def cmp (a b : Nat) : Int := if a < b then -1 else if b < a then 1 else 0
theorem F93.l0_spec {k : Nat} {x y : List Int} (hx : Dig x) (hy : Dig y) (hb : x.length ≤ 1000000) : ∀ (m n : Nat), m ≤ x.length → m ≤ y.length → m < n →
    F93.l0 k n x y ((m : Int) - 1) = some (cmp (vl (x.take m)) (vl (y.take m))) := by
  intro m
  induction m with
  | zero =>
    intro n h1 h2 hn
    obtain ⟨n, rfl⟩ : ∃ m, n = m + 1 := ⟨n - 1, by omega⟩
    rw [F93.l0, F93.b_l0, decide_eq_false (by omega), cond_false]
    rfl
  | succ m ih =>
    intro n h1 h2 hn
    obtain ⟨n, rfl⟩ : ∃ m, n = m + 1 := ⟨n - 1, by omega⟩
    have hx1 : m < x.length := h1
    have hy1 : m < y.length := h2
    have dx := hx _ (List.getElem_mem hx1)
    have dy := hy _ (List.getElem_mem hy1)
    have vx := vl_lt (dig_take hx m)
    have vy := vl_lt (dig_take hy m)
    rw [List.length_take, Nat.min_eq_left (by omega)] at vx vy
    rw [F93.l0, F93.b_l0, show ((m + 1 : Nat) : Int) - 1 = (m : Int) by omega, decide_eq_true (by omega), cond_true, if_pos ⟨by omega, by omega⟩, if_pos ⟨by omega, by omega⟩, if_pos ⟨by omega, by omega⟩, if_pos ⟨by omega, by omega⟩,
      Int.toNat_natCast, getD_of hx1, getD_of hy1, vl_take_succ hx1, vl_take_succ hy1]
    rcases Int.lt_trichotomy x[m] y[m] with h | h | h
    · rw [decide_eq_true h, cond_true]
      have : 65536 ^ m * (x[m].toNat + 1) ≤ 65536 ^ m * y[m].toNat := Nat.mul_le_mul_left _ (by omega)
      rw [Nat.mul_add] at this
      rw [cmp, if_pos (by omega)]
    · rw [decide_eq_false (by omega), cond_false, decide_eq_false (by omega), cond_false, wrapI (by omega) (by omega), ih n (by omega) (by omega) (by omega), h]
      congr 1
      unfold cmp
      split <;> split <;> (try split) <;> (try split) <;> omega
    · rw [decide_eq_false (by omega), cond_false, decide_eq_true h, cond_true]
      have : 65536 ^ m * (y[m].toNat + 1) ≤ 65536 ^ m * x[m].toNat := Nat.mul_le_mul_left _ (by omega)
      rw [Nat.mul_add] at this
      rw [cmp, if_neg (by omega), if_pos (by omega)]
theorem F93.spec {k a b : Nat} (ha : lg a ≤ 1000000) (hk : lg a < k) : F93.u k (dg a, dg b) = some (cmp a b) := by
  show F93.f k _ _ = _
  rw [F93.f, F93.b]
  change lg a ≤ _ at ha
  have la : (dg a).length = lg a := rfl
  have lb : (dg b).length = lg b := rfl
  rw [la, lb]
  by_cases h : lg a = lg b
  · rw [show ((lg a : Int) != (lg b : Int)) = false by simp [h], cond_false, wrapI (by omega) (by omega), F93.l0_spec (dig_dg a) (dig_dg b) ha (lg a) k (Nat.le_refl _) (by rw [lb]; omega) hk, ← la, List.take_length, la, h, ← lb, List.take_length, vl_dg, vl_dg]
  · rw [show ((lg a : Int) != (lg b : Int)) = true by simp; omega, cond_true, cmp]
    by_cases h1 : lg a < lg b
    · rw [decide_eq_true (by omega), cond_true, if_pos (lt_of_lg h1)]
    · have := lt_of_lg (show lg b < lg a by omega)
      rw [decide_eq_false (by omega), cond_false, if_neg (by omega), if_pos this]
/-! ### sums -/
theorem len_dg (n : Nat) : (dg n).length = lg n := rfl
theorem tmod_of {x : Int} (h : 0 ≤ x) : Int.tmod x 65536 = x % 65536 := Int.tmod_eq_emod_of_nonneg h
theorem tdiv_of {x : Int} (h : 0 ≤ x) : Int.tdiv x 65536 = x / 65536 := Int.tdiv_eq_ediv_of_nonneg h
theorem F92.g10_spec {k : Nat} {N : List Int → List Int → List Int → Int → Int → Option (List Int)} {x y out : List Int} {c : Int} {i : Nat} (hk : 0 < k) (hc : 0 ≤ c ∧ c < 1000000) (hi : i ≤ 1000000) (ho : out.length ≤ 1000000) :
    F92.g10 (F136.u k) k N x y out c (i : Int) = N x y (out ++ [c % 65536]) (c / 65536) ((i + 1 : Nat) : Int) := by
  rw [F92.g10, gate_pos hk, F92.q_g10, F92.c_g10, if_pos (by simp only [LIM, List.length_cons, List.length_nil]; omega), tmod_of hc.1, tdiv_of hc.1, wrapI (by omega) (by omega), wrapN (by omega)]
theorem F92.l0_spec {k : Nat} {x y : List Int} (hx : Dig x) (hy : Dig y) (hbx : x.length ≤ 100000) (hby : y.length ≤ 100000) (hk : 300000 < k) :
    ∀ (d n i : Nat) (out : List Int) (c : Int), (x.length - i) + (y.length - i) + c.toNat = d → d < n → out.length = i → i ≤ 200001 → 0 ≤ c → c ≤ 1 → i + c.toNat ≤ max x.length y.length + 1 → Dig out →
      F92.l0 (F136.u k) k n x y out c (i : Int) = some (dg (vl (out ++ pl c (x.drop i) (y.drop i)))) := by
  intro d
  induction d using Nat.strongRecOn with
  | _ d ih =>
    intro n i out c hd hn hlo hi h0 h1 him ho
    obtain ⟨n, rfl⟩ : ∃ m, n = m + 1 := ⟨n - 1, by omega⟩
    rw [F92.l0, F92.q_l0, F92.c_l0]
    by_cases hxi : i < x.length
    · have dx := hx _ (List.getElem_mem hxi)
      rw [decide_eq_true (p := (i : Int) < (x.length : Int)) (by omega), cond_true, cond_true, F92.g7, gate_pos (by omega), F92.q_g7, F92.c_g7, if_pos ⟨by omega, by omega⟩, Int.toNat_natCast, getD_of hxi, wrapI (by omega) (by omega)]
      by_cases hyi : i < y.length
      · have dy := hy _ (List.getElem_mem hyi)
        rw [decide_eq_true (by omega), cond_true, F92.g9, gate_pos (by omega), F92.q_g9, F92.c_g9, if_pos ⟨by omega, by omega⟩, Int.toNat_natCast, getD_of hyi, wrapI (by omega) (by omega),
          F92.g10_spec (by omega) (by omega) (by omega) (by omega), ih _ (by omega) n (i + 1) _ _ rfl (by omega) (by simp [hlo]) (by omega) (by omega) (by omega) (by omega) (dig_append.2 ⟨ho, dig_cons.2 ⟨by omega, dig_nil⟩⟩),
          drop_cons hxi, drop_cons hyi, pl, List.append_assoc, List.singleton_append]
      · rw [decide_eq_false (by omega), cond_false,
          F92.g10_spec (by omega) (by omega) (by omega) (by omega), ih _ (by omega) n (i + 1) _ _ rfl (by omega) (by simp [hlo]) (by omega) (by omega) (by omega) (by omega) (dig_append.2 ⟨ho, dig_cons.2 ⟨by omega, dig_nil⟩⟩),
          drop_cons hxi, List.drop_of_length_le (l := y) (by omega), List.drop_of_length_le (l := y) (by omega), pl, List.append_assoc, List.singleton_append]
    · rw [decide_eq_false (p := (i : Int) < (x.length : Int)) (by omega), cond_false, cond_false]
      by_cases hyi : i < y.length
      · have dy := hy _ (List.getElem_mem hyi)
        rw [decide_eq_true (by omega), cond_true, cond_true, F92.g9, gate_pos (by omega), F92.q_g9, F92.c_g9, if_pos ⟨by omega, by omega⟩, Int.toNat_natCast, getD_of hyi, wrapI (by omega) (by omega),
          F92.g10_spec (by omega) (by omega) (by omega) (by omega), ih _ (by omega) n (i + 1) _ _ rfl (by omega) (by simp [hlo]) (by omega) (by omega) (by omega) (by omega) (dig_append.2 ⟨ho, dig_cons.2 ⟨by omega, dig_nil⟩⟩),
          drop_cons hyi, List.drop_of_length_le (l := x) (by omega), List.drop_of_length_le (l := x) (by omega), pl, List.append_assoc, List.singleton_append]
      · rw [decide_eq_false (by omega), cond_false, cond_false]
        by_cases hc : c = 1
        · subst hc
          rw [decide_eq_true (by omega), cond_true, F92.g10_spec (by omega) (by omega) (by omega) (by omega), ih _ (by omega) n (i + 1) _ _ rfl (by omega) (by simp [hlo]) (by omega) (by omega) (by omega) (by omega) (dig_append.2 ⟨ho, dig_cons.2 ⟨by omega, dig_nil⟩⟩),
            List.drop_of_length_le (l := x) (by omega), List.drop_of_length_le (l := x) (by omega), List.drop_of_length_le (l := y) (by omega), List.drop_of_length_le (l := y) (by omega)]
          simp [pl]
        · rw [decide_eq_false (by omega), cond_false, F136.spec ho (by omega) (by omega), List.drop_of_length_le (l := x) (by omega), List.drop_of_length_le (l := y) (by omega), pl, if_neg (by omega), List.append_nil]
          rfl
theorem F92.spec {k a b : Nat} (ha : lg a ≤ 100000) (hb : lg b ≤ 100000) (hk : 300000 < k) : F92.u k (dg a, dg b) = some (dg (a + b)) := by
  show F92.f _ k _ _ = _
  rw [F92.f, F92.b]
  have h := F92.l0_spec (k := k) (dig_dg a) (dig_dg b) ha hb hk _ k 0 [] 0 rfl (by rw [len_dg, len_dg]; omega) rfl (by omega) (by omega) (by omega) (by omega) dig_nil
  rw [List.nil_append, List.drop_zero, List.drop_zero, (pl_spec 0 (dg a) (dg b) (dig_dg a) (dig_dg b) (by omega) (by omega)).2, vl_dg, vl_dg, show (0 : Int).toNat = 0 from rfl, Nat.zero_add] at h
  exact h
/-! ### differences -/
theorem F94.g13_spec {k : Nat} {N : List Int → List Int → List Int → Int → Int → Option (List Int)} {x y out : List Int} {b c : Int} {i : Nat} (hk : 0 < k) (hi : i ≤ 1000000) (ho : out.length ≤ 1000000) :
    F94.g13 (F136.u k) k N x y out b (i : Int) c = N x y (out ++ [c]) b ((i + 1 : Nat) : Int) := by
  rw [F94.g13, gate_pos hk, F94.q_g13, F94.c_g13, if_pos (by simp only [LIM, List.length_cons, List.length_nil]; omega), wrapN (by omega)]
theorem F94.l0_spec {k : Nat} {x y : List Int} (hx : Dig x) (hy : Dig y) (hbx : x.length ≤ 100000) (hk : 300000 < k) :
    ∀ (d n i : Nat) (out : List Int) (c : Int), x.length - i = d → d < n → out.length = i → i ≤ x.length → 0 ≤ c → c ≤ 1 → Dig out →
      (c.toNat + vl (y.drop i) ≤ vl (x.drop i)) →
      F94.l0 (F136.u k) k n x y out c (i : Int) = some (dg (vl (out ++ mi c (x.drop i) (y.drop i)))) := by
  intro d
  induction d with
  | zero =>
    intro n i out c hd hn hlo hi h0 h1 ho hle
    obtain ⟨n, rfl⟩ : ∃ m, n = m + 1 := ⟨n - 1, by omega⟩
    rw [F94.l0, F94.q_l0, F94.c_l0, decide_eq_false (by omega), cond_false, F136.spec ho (by omega) (by omega), List.drop_of_length_le (l := x) (by omega), mi, List.append_nil]
    rfl
  | succ d ih =>
    intro n i out c hd hn hlo hi h0 h1 ho hle
    obtain ⟨n, rfl⟩ : ∃ m, n = m + 1 := ⟨n - 1, by omega⟩
    have hxi : i < x.length := by omega
    have dx := hx _ (List.getElem_mem hxi)
    rw [drop_cons hxi] at hle
    rw [F94.l0, F94.q_l0, F94.c_l0, decide_eq_true (p := (i : Int) < (x.length : Int)) (by omega), cond_true, if_pos ⟨by omega, by omega⟩, Int.toNat_natCast, getD_of hxi, wrapI (x := x[i] - c) (by omega) (by omega), drop_cons hxi]
    by_cases hyi : i < y.length
    · have dy := hy _ (List.getElem_mem hyi)
      rw [drop_cons hyi] at hle ⊢
      simp only [vl] at hle
      rw [decide_eq_true (p := (i : Int) < (y.length : Int)) (by omega), cond_true, if_pos ⟨by omega, by omega⟩, getD_of hyi, wrapI (x := x[i] - c - y[i]) (by omega) (by omega), wrapI (by omega) (by omega), mi]
      by_cases hlt : x[i] - c - y[i] < 0
      · rw [decide_eq_true hlt, cond_true, if_pos hlt, F94.g13_spec (by omega) (by omega) (by omega), ih n (i + 1) _ _ (by omega) (by omega) (by simp [hlo]) (by omega) (by omega) (by omega) (dig_append.2 ⟨ho, dig_cons.2 ⟨by omega, dig_nil⟩⟩) (by omega), List.append_assoc, List.singleton_append]
      · rw [decide_eq_false hlt, cond_false, if_neg hlt, F94.g13_spec (by omega) (by omega) (by omega), ih n (i + 1) _ _ (by omega) (by omega) (by simp [hlo]) (by omega) (by omega) (by omega) (dig_append.2 ⟨ho, dig_cons.2 ⟨by omega, dig_nil⟩⟩) (by omega), List.append_assoc, List.singleton_append]
    · rw [List.drop_of_length_le (l := y) (by omega)] at hle ⊢
      simp only [vl] at hle
      rw [decide_eq_false (p := (i : Int) < (y.length : Int)) (by omega), cond_false, wrapI (by omega) (by omega), mi]
      have hd0 : y.drop (i + 1) = [] := List.drop_of_length_le (by omega)
      by_cases hlt : x[i] - c < 0
      · rw [decide_eq_true hlt, cond_true, if_pos hlt, F94.g13_spec (by omega) (by omega) (by omega), ih n (i + 1) _ _ (by omega) (by omega) (by simp [hlo]) (by omega) (by omega) (by omega) (dig_append.2 ⟨ho, dig_cons.2 ⟨by omega, dig_nil⟩⟩) (by rw [hd0]; simp only [vl]; omega), List.append_assoc, List.singleton_append, hd0]
      · rw [decide_eq_false hlt, cond_false, if_neg hlt, F94.g13_spec (by omega) (by omega) (by omega), ih n (i + 1) _ _ (by omega) (by omega) (by simp [hlo]) (by omega) (by omega) (by omega) (dig_append.2 ⟨ho, dig_cons.2 ⟨by omega, dig_nil⟩⟩) (by rw [hd0]; simp only [vl]; omega), List.append_assoc, List.singleton_append, hd0]
theorem F94.spec {k a b : Nat} (ha : lg a ≤ 100000) (hab : b ≤ a) (hk : 300000 < k) : F94.u k (dg a, dg b) = some (dg (a - b)) := by
  show F94.f _ k _ _ = _
  rw [F94.f, F94.b]
  have h := F94.l0_spec (k := k) (dig_dg a) (dig_dg b) ha hk _ k 0 [] 0 rfl (by rw [len_dg]; omega) rfl (by omega) (by omega) (by omega) dig_nil (by rw [List.drop_zero, List.drop_zero, vl_dg, vl_dg]; omega)
  have h2 := (mi_spec 0 (dg a) (dg b) (dig_dg a) (dig_dg b) (by omega) (by omega) (by rw [vl_dg, vl_dg]; omega)).2
  rw [vl_dg, vl_dg] at h2
  rw [List.nil_append, List.drop_zero, List.drop_zero, show vl (mi 0 (dg a) (dg b)) = a - b by omega] at h
  exact h
/-! ### doubles -/
theorem F181.l0_spec {k : Nat} {x : List Int} (hx : Dig x) (hbx : x.length ≤ 100000) (hk : 300000 < k) :
    ∀ (d n i : Nat) (out : List Int) (c : Int), x.length - i = d → d < n → out.length = i → i ≤ x.length → 0 ≤ c → c ≤ 1 → Dig out →
      F181.l0 (F136.u k) k n x c out (i : Int) = some (dg (vl (out ++ db c (x.drop i)))) := by
  intro d
  induction d with
  | zero =>
    intro n i out c hd hn hlo hi h0 h1 ho
    obtain ⟨n, rfl⟩ : ∃ m, n = m + 1 := ⟨n - 1, by omega⟩
    rw [F181.l0, F181.q_l0, F181.c_l0, decide_eq_false (by omega), cond_false, List.drop_of_length_le (l := x) (by omega), db]
    by_cases hc : c > 0
    · rw [decide_eq_true hc, cond_true, if_pos (by simp only [LIM, List.length_cons, List.length_nil]; omega), if_pos hc, F136.spec (dig_append.2 ⟨ho, dig_cons.2 ⟨by omega, dig_nil⟩⟩) (by simp; omega) (by simp; omega)]
      rfl
    · rw [decide_eq_false hc, cond_false, if_neg hc, List.append_nil, F136.spec ho (by omega) (by omega)]
      rfl
  | succ d ih =>
    intro n i out c hd hn hlo hi h0 h1 ho
    obtain ⟨n, rfl⟩ : ∃ m, n = m + 1 := ⟨n - 1, by omega⟩
    have hxi : i < x.length := by omega
    have dx := hx _ (List.getElem_mem hxi)
    rw [F181.l0, F181.q_l0, F181.c_l0, decide_eq_true (p := (i : Int) < (x.length : Int)) (by omega), cond_true, if_pos ⟨by omega, by omega⟩, Int.toNat_natCast, getD_of hxi, wrapI (x := 2 * x[i]) (by omega) (by omega), wrapI (x := 2 * x[i] + c) (by omega) (by omega), tmod_of (by omega), tdiv_of (by omega),
      wrapI (by omega) (by omega), wrapN (by omega), if_pos (by simp only [LIM, List.length_cons, List.length_nil]; omega), drop_cons hxi, db,
      ih n (i + 1) _ _ (by omega) (by omega) (by simp [hlo]) (by omega) (by omega) (by omega) (dig_append.2 ⟨ho, dig_cons.2 ⟨by omega, dig_nil⟩⟩), List.append_assoc, List.singleton_append]
theorem F181.spec {k a : Nat} {b : Bool} (ha : lg a ≤ 100000) (hk : 300000 < k) : F181.u k (dg a, b) = some (dg (2 * a + b.toNat)) := by
  show F181.f _ k (dg a) b = _
  rw [F181.f, F181.b]
  have h := fun c h0 h1 => F181.l0_spec (k := k) (dig_dg a) ha hk _ k 0 [] c rfl (by rw [len_dg]; omega) rfl (by omega) h0 h1 dig_nil
  have h2 := fun c h0 h1 => (db_spec c (dg a) (dig_dg a) h0 h1).2
  cases b with
  | true =>
    have h := h 1 (by omega) (by omega)
    rw [List.nil_append, List.drop_zero, h2 1 (by omega) (by omega), vl_dg] at h
    rw [cond_true]
    refine h.trans ?_
    rw [show (1 : Int).toNat = 1 from rfl, Nat.add_comm]; rfl
  | false =>
    have h := h 0 (by omega) (by omega)
    rw [List.nil_append, List.drop_zero, h2 0 (by omega) (by omega), vl_dg] at h
    rw [cond_false]
    refine h.trans ?_
    rw [show (0 : Int).toNat = 0 from rfl, Nat.zero_add]; rfl
/-! ### halves -/
theorem set_mid {α : Type} (i : Nat) (z v : α) (q : List α) : (List.replicate (i + 1) z ++ q).set i v = List.replicate i z ++ v :: q := by
  rw [List.replicate_succ', List.append_assoc, List.singleton_append, List.set_append_right _ _ (by simp), List.length_replicate, Nat.sub_self]
  rfl
theorem F180.l0_spec {k : Nat} {x : List Int} (hx : Dig x) (hbx : x.length ≤ 100000) (hk : 300000 < k) :
    ∀ (i n : Nat), i ≤ x.length → i < n →
      F180.l0 (F136.u k) k n x 2 (List.replicate i 0 ++ (hv (x.drop i)).1) (hv (x.drop i)).2 ((i : Int) - 1) = some (dg (vl (hv x).1), (hv x).2) := by
  intro i
  induction i with
  | zero =>
    intro n hi hn
    obtain ⟨n, rfl⟩ : ∃ m, n = m + 1 := ⟨n - 1, by omega⟩
    rw [F180.l0, F180.q_l0, F180.c_l0, decide_eq_false (by omega), cond_false, List.drop_zero, List.replicate_zero, List.nil_append, F136.spec (hv_spec x hx).1 (by rw [hv_length]; omega) (by rw [hv_length]; omega)]
    rfl
  | succ i ih =>
    intro n hi hn
    obtain ⟨n, rfl⟩ : ∃ m, n = m + 1 := ⟨n - 1, by omega⟩
    have hxi : i < x.length := by omega
    have dx := hx _ (List.getElem_mem hxi)
    have hr := (hv_spec (x.drop (i + 1)) (dig_drop hx _)).2.1
    have hlen : (List.replicate (i + 1) (0 : Int) ++ (hv (x.drop (i + 1))).1).length = x.length := by
      rw [List.length_append, List.length_replicate, hv_length, List.length_drop]; omega
    have h := ih n (by omega) (by omega)
    rw [drop_cons hxi, hv] at h
    rw [F180.l0, F180.q_l0, F180.c_l0, show ((i + 1 : Nat) : Int) - 1 = (i : Int) by omega, decide_eq_true (by omega), cond_true, if_pos ⟨by omega, by omega⟩, if_neg (by omega), hlen, if_pos ⟨by omega, by omega⟩, if_neg (by omega),
      Int.toNat_natCast, getD_of hxi, Nat.zero_add, wrapI (x := _ * 65536) (by omega) (by omega), wrapI (x := _ * 65536 + _) (by omega) (by omega), Int.tmod_eq_emod_of_nonneg (by omega), Int.tdiv_eq_ediv_of_nonneg (by omega), wrapI (by omega) (by omega), wrapI (by omega) (by omega), set_mid,
      List.take_of_length_le (by rw [← hlen]; simp; omega)]
    exact h
theorem F180.spec {k a : Nat} (ha : lg a ≤ 100000) (hk : 300000 < k) : F180.u k (dg a, 2) = some (dg (a / 2), ((a % 2 : Nat) : Int)) := by
  show F180.f _ k (dg a) 2 = _
  rw [F180.f, F180.q, F180.c]
  have la := len_dg a
  have h := F180.l0_spec (k := k) (dig_dg a) ha hk (dg a).length k (Nat.le_refl _) (by omega)
  obtain ⟨h1, h2, h3⟩ := hv_spec (dg a) (dig_dg a)
  rw [vl_dg] at h3
  rw [show vl (hv (dg a)).1 = a / 2 by omega, show (hv (dg a)).2 = ((a % 2 : Nat) : Int) by omega, List.drop_of_length_le (Nat.le_refl _), hv, List.append_nil] at h
  rw [if_pos ⟨by omega, by simp only [LIM]; omega, by omega⟩, List.take_of_length_le (by simp), wrapI (by omega) (by omega)]
  exact h
/-! ### the greatest common divisor -/
theorem dg_head {n : Nat} (h : n ≠ 0) : (dg n).getD 0 0 = ((n % 65536 : Nat) : Int) := by rw [dg_pos h]; rfl
theorem even_of (n : Nat) : (Int.tmod ((n % 65536 : Nat) : Int) 2 == 0) = decide (n % 2 = 0) := by
  rw [Int.tmod_eq_emod_of_nonneg (by omega)]
  by_cases h : n % 2 = 0
  · rw [decide_eq_true h, beq_iff_eq]; omega
  · rw [decide_eq_false h, beq_eq_false_iff_ne]; omega
theorem lg_of_pos {n : Nat} (h : n ≠ 0) : 0 < lg n := by have := lg_pos h; omega
theorem F160.l3_spec {k : Nat} (hk : 300000 < k) : ∀ (t n g : Nat), t < n → t ≤ 1000000 → (∀ j ≤ t, lg (2 ^ j * g) ≤ 100000) → 
    F160.l3 (F180.u k) (F93.u k) (F94.u k) (F92.u k) (F181.u k) k n (t : Int) (dg g) = some (dg (2 ^ t * g)) := by
  intro t
  induction t with
  | zero =>
    intro n g hn ht hg
    obtain ⟨n, rfl⟩ : ∃ m, n = m + 1 := ⟨n - 1, by omega⟩
    rw [F160.l3, F160.b_l3, decide_eq_false (by omega), cond_false, Nat.pow_zero, Nat.one_mul]
  | succ t ih =>
    intro n g hn ht hg
    obtain ⟨n, rfl⟩ : ∃ m, n = m + 1 := ⟨n - 1, by omega⟩
    have h0 := hg 0 (by omega)
    rw [Nat.pow_zero, Nat.one_mul] at h0
    rw [F160.l3, F160.b_l3, decide_eq_true (by omega), cond_true, F181.spec h0 hk, Option.bind_some, wrapI (by omega) (by omega), show ((t + 1 : Nat) : Int) - 1 = (t : Int) by omega, Bool.toNat_false, Nat.add_zero,
      ih n (2 * g) (by omega) (by omega) (fun j hj => by have := hg (j + 1) (by omega); rwa [Nat.pow_succ, Nat.mul_assoc] at this), Nat.pow_succ, Nat.mul_assoc]
theorem gcd_half {a b : Nat} (ha : a % 2 = 0) (hb : b % 2 = 1) : Nat.gcd (a / 2) b = Nat.gcd a b := by
  obtain ⟨a, rfl⟩ : ∃ c, a = 2 * c := ⟨a / 2, by omega⟩
  rw [Nat.mul_div_cancel_left _ (by omega)]
  have hc : Nat.Coprime 2 b := by
    rw [Nat.Coprime, Nat.gcd_rec, hb]
    rfl
  exact (Nat.Coprime.gcd_mul_left_cancel a hc).symm
theorem gcd_even {a b : Nat} (ha : a % 2 = 0) (hb : b % 2 = 0) : Nat.gcd a b = 2 * Nat.gcd (a / 2) (b / 2) := by
  obtain ⟨a, rfl⟩ : ∃ c, a = 2 * c := ⟨a / 2, by omega⟩
  obtain ⟨b, rfl⟩ : ∃ c, b = 2 * c := ⟨b / 2, by omega⟩
  rw [Nat.mul_div_cancel_left _ (by omega), Nat.mul_div_cancel_left _ (by omega), Nat.gcd_mul_left]
theorem gcd_sub {a b : Nat} (h : b ≤ a) : Nat.gcd (a - b) b = Nat.gcd a b := by
  rw [Nat.gcd_sub_right_left_of_dvd] <;> first | exact Nat.dvd_refl _ | exact h
theorem cmp_ge (a b : Nat) : decide (cmp a b ≥ 0) = decide (b ≤ a) := by
  unfold cmp
  split
  · rw [decide_eq_false (by omega), decide_eq_false (by omega)]
  · split
    · rw [decide_eq_true (by omega), decide_eq_true (by omega)]
    · rw [decide_eq_true (by omega), decide_eq_true (by omega)]
theorem F160.l0_spec {k T : Nat} (hT : T ≤ 900000) (hk : 2000000 < k) : ∀ (d a b t n : Nat), a + b ≤ d → d < n → lg a ≤ 50000 → lg b ≤ 50000 → t ≤ T → (∀ j ≤ t, lg (2 ^ j * Nat.gcd a b) ≤ 60000) → (2 ^ t * a < 2 ^ T ∨ a = 0) →
    F160.l0 (F180.u k) (F93.u k) (F94.u k) (F92.u k) (F181.u k) k n (dg a) (dg b) (t : Int) = some (dg (2 ^ t * Nat.gcd a b)) := by
  intro d
  induction d with
  | zero =>
    intro a b t n hab hn la lb ht hg hp
    obtain ⟨n, rfl⟩ : ∃ m, n = m + 1 := ⟨n - 1, by omega⟩
    obtain rfl : a = 0 := by omega
    obtain rfl : b = 0 := by omega
    rw [F160.l0, F160.q_l0, F160.c_l0, len_dg, lg_zero, decide_eq_false (by omega), cond_false, F92.spec (by omega) (by omega) (by omega), Option.bind_some, F160.l3_spec (by omega) t k _ (by omega) (by omega) (fun j hj => by rw [Nat.mul_zero, lg_zero]; omega)]
    rfl
  | succ d ih =>
    intro a b t n hab hn la lb ht hg hp
    obtain ⟨n, rfl⟩ : ∃ m, n = m + 1 := ⟨n - 1, by omega⟩
    rw [F160.l0, F160.q_l0, F160.c_l0, len_dg, len_dg]
    by_cases ha : a = 0
    · subst ha
      rw [lg_zero, decide_eq_false (by omega), cond_false, F92.spec (by rw [lg_zero]; omega) (by omega) (by omega), Option.bind_some, Nat.gcd_zero_left, Nat.zero_add, F160.l3_spec (by omega) t k _ (by omega) (by omega) (fun j hj => by have := hg j hj; rw [Nat.gcd_zero_left] at this; omega)]
    · have pa := lg_of_pos ha
      rw [decide_eq_true (by omega), cond_true]
      by_cases hb : b = 0
      · subst hb
        rw [lg_zero, decide_eq_false (by omega), cond_false, F92.spec (by omega) (by rw [lg_zero]; omega) (by omega), Option.bind_some, Nat.gcd_zero_right, Nat.add_zero, F160.l3_spec (by omega) t k _ (by omega) (by omega) (fun j hj => by have := hg j hj; rw [Nat.gcd_zero_right] at this; omega)]
      · have pb := lg_of_pos hb
        have lha := lg_mono (Nat.div_le_self a 2)
        have lhb := lg_mono (Nat.div_le_self b 2)
        have hap : 2 ^ t * a < 2 ^ T := hp.resolve_right ha
        rw [decide_eq_true (by omega), cond_true, if_pos (by omega), dg_head ha, even_of, if_pos (by omega), dg_head hb, even_of]
        by_cases ea : a % 2 = 0
        · rw [decide_eq_true ea, cond_true]
          by_cases eb : b % 2 = 0
          · have hlt : t + 1 < T := by
              have : 2 ^ (t + 1) < 2 ^ T := by
                rw [Nat.pow_succ]
                exact Nat.lt_of_le_of_lt (Nat.mul_le_mul_left _ (by omega)) hap
              have := (Nat.pow_lt_pow_iff_right (by omega)).1 this
              omega
            have ge := gcd_even ea eb
            have e2 : 2 ^ t * a = 2 ^ (t + 1) * (a / 2) := by
              rw [Nat.pow_succ, Nat.mul_assoc, show 2 * (a / 2) = a by omega]
            rw [decide_eq_true eb, cond_true, F180.spec (by omega) (by omega), Option.bind_some, F180.spec (by omega) (by omega), Option.bind_some, wrapN (by omega),
              ih (a / 2) (b / 2) (t + 1) n (by omega) (by omega) (by omega) (by omega) (by omega) (fun j hj => ?_) (.inl (by rw [← e2]; exact hap)), ge, Nat.pow_succ, Nat.mul_assoc]
            rcases Nat.eq_zero_or_pos j with rfl | hj0
            · rw [Nat.pow_zero, Nat.one_mul]
              have := hg 0 (by omega)
              rw [Nat.pow_zero, Nat.one_mul, ge] at this
              exact Nat.le_trans (lg_mono (by omega)) this
            · have := hg (j - 1) (by omega)
              rw [ge] at this
              rwa [show 2 ^ j * Nat.gcd (a / 2) (b / 2) = 2 ^ (j - 1) * (2 * Nat.gcd (a / 2) (b / 2)) by
                conv => lhs; rw [show j = (j - 1) + 1 by omega, Nat.pow_succ, Nat.mul_assoc]]
          · have ge := gcd_half ea (show b % 2 = 1 by omega)
            rw [decide_eq_false eb, cond_false, F160.g8, gate_pos (by omega), F160.q_g8, F160.c_g8, len_dg, if_pos (by omega), dg_head ha, even_of, decide_eq_true ea, cond_true, F180.spec (by omega) (by omega), Option.bind_some,
              ih (a / 2) b t n (by omega) (by omega) (by omega) (by omega) (by omega) (by rw [ge]; exact hg) (.inl (Nat.lt_of_le_of_lt (Nat.mul_le_mul_left _ (Nat.div_le_self _ _)) hap)), ge]
        · rw [decide_eq_false ea, cond_false, F160.g8, gate_pos (by omega), F160.q_g8, F160.c_g8, len_dg, len_dg, if_pos (by omega), dg_head ha, even_of, decide_eq_false ea, cond_false, if_pos (by omega), dg_head hb, even_of]
          by_cases eb : b % 2 = 0
          · have ge : Nat.gcd a (b / 2) = Nat.gcd a b := by rw [Nat.gcd_comm, gcd_half eb (by omega), Nat.gcd_comm]
            rw [decide_eq_true eb, cond_true, F180.spec (by omega) (by omega), Option.bind_some,
              ih a (b / 2) t n (by omega) (by omega) (by omega) (by omega) (by omega) (by rw [ge]; exact hg) hp, ge]
          · rw [decide_eq_false eb, cond_false, F93.spec (by omega) (by omega), Option.bind_some, cmp_ge]
            by_cases hle : b ≤ a
            · have ge := gcd_sub hle
              have := lg_mono (Nat.sub_le a b)
              rw [decide_eq_true hle, cond_true, F94.spec (by omega) hle (by omega), Option.bind_some,
                ih (a - b) b t n (by omega) (by omega) (by omega) (by omega) (by omega) (by rw [ge]; exact hg) (.inl (Nat.lt_of_le_of_lt (Nat.mul_le_mul_left _ (Nat.sub_le _ _)) hap)), ge]
            · have ge : Nat.gcd a (b - a) = Nat.gcd a b := by rw [Nat.gcd_comm, gcd_sub (by omega), Nat.gcd_comm]
              have := lg_mono (Nat.sub_le b a)
              rw [decide_eq_false hle, cond_false, F94.spec (by omega) (by omega) (by omega), Option.bind_some,
                ih a (b - a) t n (by omega) (by omega) (by omega) (by omega) (by omega) (by rw [ge]; exact hg) hp, ge]
theorem pow16 (m : Nat) : 65536 ^ m = 2 ^ (16 * m) := by rw [show 65536 = 2 ^ 16 from rfl, ← Nat.pow_mul]
theorem lg_add_le {a b m : Nat} (ha : lg a ≤ m) (hb : lg b ≤ m) : lg (a + b) ≤ m + 1 := by have := lg_add a b; omega
theorem F160.spec {k a b : Nat} (hk : BK k) (ha : lg a ≤ 2500) (hb : lg b ≤ 2500) : F160.u k (dg a, dg b) = some (dg (Nat.gcd a b)) := by
  show F160.f _ _ _ _ _ k _ _ = _
  have hk1 := hk (a + b) (by have := lg_add_le ha hb; omega)
  have hk2 := hk 2000000 (Nat.le_trans (lg_le (m := 2) (by omega)) (by omega))
  have hgcd : lg (Nat.gcd a b) ≤ 2500 := by
    rcases Nat.eq_zero_or_pos a with h | h
    · rw [h, Nat.gcd_zero_left]; exact hb
    · exact Nat.le_trans (lg_mono (Nat.gcd_le_left b h)) ha
  obtain ⟨T, hT⟩ : ∃ T : Nat, T = 900000 := ⟨_, rfl⟩
  have hp : 2 ^ 0 * a < 2 ^ T := by
    rw [Nat.pow_zero, Nat.one_mul]
    refine Nat.lt_of_lt_of_le (lt_lg a) ?_
    rw [pow16]
    exact Nat.pow_le_pow_right (by omega) (by omega)
  have h := F160.l0_spec (k := k) (T := T) (by omega) hk2 (a + b) a b 0 k (Nat.le_refl _) hk1 (by omega) (by omega) (by omega) (fun j hj => by rw [show j = 0 by omega, Nat.pow_zero, Nat.one_mul]; omega) (.inl hp)
  rw [Nat.pow_zero, Nat.one_mul] at h
  rw [F160.f, F160.b]
  exact h
end Go.Ab
