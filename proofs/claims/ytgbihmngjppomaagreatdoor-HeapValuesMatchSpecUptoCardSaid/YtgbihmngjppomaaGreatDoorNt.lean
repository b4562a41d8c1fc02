/- Plain lemmas: natural numbers by their digits to the base 65536, and by their bits. No program in sight. -/
namespace Go.Ab
set_option linter.unusedVariables false
set_option linter.unusedSimpArgs false
/-! ### digits -/
def dg (n : Nat) : List Int := if h : n = 0 then [] else ((n % 65536 : Nat) : Int) :: dg (n / 65536)
termination_by n
decreasing_by exact Nat.div_lt_self (by omega) (by omega)
def vl : List Int → Nat
  | [] => 0
  | d :: t => d.toNat + 65536 * vl t
def Dig (l : List Int) : Prop := ∀ d ∈ l, 0 ≤ d ∧ d < 65536
theorem dg_zero : dg 0 = [] := by rw [dg]; simp
theorem dg_pos {n : Nat} (h : n ≠ 0) : dg n = ((n % 65536 : Nat) : Int) :: dg (n / 65536) := by rw [dg, dif_neg h]
theorem dg_one : dg 1 = [1] := by rw [dg_pos (by omega)]; simp [dg_zero]
theorem dig_nil : Dig [] := fun d h => by cases h
theorem dig_cons {d : Int} {t : List Int} : Dig (d :: t) ↔ (0 ≤ d ∧ d < 65536) ∧ Dig t := by
  simp only [Dig, List.mem_cons, forall_eq_or_imp]
theorem dig_append {a b : List Int} : Dig (a ++ b) ↔ Dig a ∧ Dig b := by
  simp only [Dig, List.mem_append]
  exact ⟨fun h => ⟨fun d hd => h d (.inl hd), fun d hd => h d (.inr hd)⟩, fun h d hd => hd.elim (h.1 d) (h.2 d)⟩
theorem dig_drop {a : List Int} (h : Dig a) (i : Nat) : Dig (a.drop i) := fun d hd => h d (List.mem_of_mem_drop hd)
theorem dig_take {a : List Int} (h : Dig a) (i : Nat) : Dig (a.take i) := fun d hd => h d (List.mem_of_mem_take hd)
theorem dig_rep (n : Nat) : Dig (List.replicate n 0) := fun d hd => by
  rw [(List.mem_replicate.1 hd).2]; omega
theorem dig_dg : ∀ n, Dig (dg n) := by
  intro n
  induction n using Nat.strongRecOn with
  | _ n ih =>
    by_cases h : n = 0
    · subst h; rw [dg_zero]; exact dig_nil
    · rw [dg_pos h, dig_cons]
      exact ⟨by omega, ih _ (Nat.div_lt_self (by omega) (by omega))⟩
theorem vl_dg : ∀ n, vl (dg n) = n := by
  intro n
  induction n using Nat.strongRecOn with
  | _ n ih =>
    by_cases h : n = 0
    · subst h; rw [dg_zero]; rfl
    · rw [dg_pos h, vl, ih _ (Nat.div_lt_self (by omega) (by omega))]
      omega
theorem dg_inj {a b : Nat} (h : dg a = dg b) : a = b := by rw [← vl_dg a, h, vl_dg]
theorem dg_nil {n : Nat} (h : dg n = []) : n = 0 := dg_inj (by rw [h, dg_zero])
theorem vl_append (a b : List Int) : vl (a ++ b) = vl a + 65536 ^ a.length * vl b := by
  induction a with
  | nil => simp [vl]
  | cons d a ih => rw [List.cons_append, vl, vl, ih, List.length_cons, Nat.pow_succ]; grind
theorem vl_rep (n : Nat) : vl (List.replicate n 0) = 0 := by
  induction n with
  | zero => rfl
  | succ n ih => rw [List.replicate_succ, vl, ih]; rfl
theorem vl_lt {l : List Int} (h : Dig l) : vl l < 65536 ^ l.length := by
  induction l with
  | nil => simp [vl]
  | cons d l ih =>
    have := ih (dig_cons.1 h).2
    have hd := (dig_cons.1 h).1
    rw [vl, List.length_cons, Nat.pow_succ]
    omega
theorem vl_snoc0 (l : List Int) : vl (l ++ [0]) = vl l := by rw [vl_append]; simp [vl]
theorem dg_vl {l : List Int} (h : Dig l) (hl : ∀ (hn : l ≠ []), l.getLast hn ≠ 0) : dg (vl l) = l := by
  induction l with
  | nil => exact dg_zero
  | cons d t ih =>
    obtain ⟨hd, ht⟩ := dig_cons.1 h
    have e : dg (vl t) = t := ih ht fun hn => by
      have := hl (by simp)
      rwa [List.getLast_cons hn] at this
    have hne : vl (d :: t) ≠ 0 := by
      rw [vl]
      cases t with
      | nil =>
        have := hl (by simp)
        simp only [List.getLast_singleton] at this
        simp only [vl]; omega
      | cons x t =>
        intro h0
        have : vl (x :: t) = 0 := by omega
        rw [this, dg_zero] at e
        cases e
    rw [dg_pos hne]
    have h1 : vl (d :: t) % 65536 = d.toNat := by rw [vl]; omega
    have h2 : vl (d :: t) / 65536 = vl t := by rw [vl]; omega
    rw [h1, h2, e]
    congr 1
    omega
/-! ### lengths -/
def lg (n : Nat) : Nat := (dg n).length
theorem lg_zero : lg 0 = 0 := by rw [lg, dg_zero]; rfl
theorem lg_pos {n : Nat} (h : n ≠ 0) : lg n = lg (n / 65536) + 1 := by rw [lg, dg_pos h]; rfl
theorem lg_eq_zero {n : Nat} : lg n = 0 ↔ n = 0 := ⟨fun h => dg_nil (List.length_eq_zero_iff.1 h), fun h => by rw [h, lg_zero]⟩
theorem lt_lg (n : Nat) : n < 65536 ^ lg n := by
  have := vl_lt (dig_dg n)
  rwa [vl_dg] at this
theorem lg_le {m : Nat} : ∀ {n : Nat}, n < 65536 ^ m → lg n ≤ m := by
  induction m with
  | zero => intro n h; rw [Nat.pow_zero] at h; rw [show n = 0 by omega, lg_zero]; exact Nat.le_refl _
  | succ m ih =>
    intro n h
    by_cases h0 : n = 0
    · rw [h0, lg_zero]; omega
    · rw [lg_pos h0]
      have : lg (n / 65536) ≤ m := ih (by rw [Nat.pow_succ] at h; omega)
      omega
theorem lg_mono {a b : Nat} (h : a ≤ b) : lg a ≤ lg b := lg_le (Nat.lt_of_le_of_lt h (lt_lg b))
theorem lg_mul (a b : Nat) : lg (a * b) ≤ lg a + lg b := lg_le (by
  rw [Nat.pow_add]
  exact Nat.mul_lt_mul'' (lt_lg a) (lt_lg b))
theorem pow_le_pow {a b : Nat} (h : a ≤ b) : 65536 ^ a ≤ 65536 ^ b := Nat.pow_le_pow_right (by omega) h
theorem lg_add (a b : Nat) : lg (a + b) ≤ max (lg a) (lg b) + 1 := lg_le (by
  have h1 := lt_lg a
  have h2 := lt_lg b
  have h3 := pow_le_pow (Nat.le_max_left (lg a) (lg b))
  have h4 := pow_le_pow (Nat.le_max_right (lg a) (lg b))
  rw [Nat.pow_succ]
  omega)
theorem lg_one : lg 1 = 1 := by rw [lg, dg_one]; rfl
theorem lt_of_lg {a b : Nat} (h : lg a < lg b) : a < b := by
  rcases Nat.lt_or_ge a b with h1 | h1
  · exact h1
  · have := lg_mono h1; omega
/-! ### bits -/
def bv : List Bool → Nat
  | [] => 0
  | b :: t => b.toNat + 2 * bv t
theorem bv_append (a b : List Bool) : bv (a ++ b) = bv a + 2 ^ a.length * bv b := by
  induction a with
  | nil => simp [bv]
  | cons d a ih => rw [List.cons_append, bv, bv, ih, List.length_cons, Nat.pow_succ]; grind
theorem bv_lt (l : List Bool) : bv l < 2 ^ l.length := by
  induction l with
  | nil => simp [bv]
  | cons d l ih => rw [bv, List.length_cons, Nat.pow_succ]; have := Bool.toNat_le d; omega
theorem bv_rep (n : Nat) : bv (List.replicate n false) = 0 := by
  induction n with
  | zero => rfl
  | succ n ih => rw [List.replicate_succ, bv, ih]; rfl
/-- the lowest m bits -/
def bn : Nat → Nat → List Bool
  | 0, _ => []
  | m + 1, n => (n % 2 == 1) :: bn m (n / 2)
theorem bn_length (m n : Nat) : (bn m n).length = m := by
  induction m generalizing n with
  | zero => rfl
  | succ m ih => rw [bn, List.length_cons, ih]
theorem bv_bn (m n : Nat) : bv (bn m n) = n % 2 ^ m := by
  induction m generalizing n with
  | zero => simp [bn, bv, Nat.mod_one]
  | succ m ih =>
    rw [bn, bv, ih]
    have h1 : n % 2 ^ (m + 1) = n % 2 + 2 * (n / 2 % 2 ^ m) := by
      rw [Nat.pow_succ, Nat.mul_comm, Nat.mod_mul]
    rw [h1]
    have : (n % 2 == 1).toNat = n % 2 := by rcases Nat.mod_two_eq_zero_or_one n with h | h <;> rw [h] <;> rfl
    omega
/-- without the falses at the end -/
def tb (l : List Bool) : List Bool := (l.reverse.dropWhile (!·)).reverse
theorem tb_snocf (l : List Bool) : tb (l ++ [false]) = tb l := by simp [tb]
theorem tb_snoct (l : List Bool) : tb (l ++ [true]) = l ++ [true] := by simp [tb]
theorem tb_nil : tb [] = [] := rfl
theorem bv_snocf (l : List Bool) : bv (l ++ [false]) = bv l := by rw [bv_append]; simp [bv]
theorem snoc_cases {α : Type} (l : List α) : l = [] ∨ ∃ t x, l = t ++ [x] := by
  rcases List.eq_nil_or_concat l with h | ⟨t, x, h⟩
  · exact .inl h
  · exact .inr ⟨t, x, by rw [h, List.concat_eq_append]⟩
theorem bv_tb (l : List Bool) : bv (tb l) = bv l := by
  suffices h : ∀ n (l : List Bool), l.length = n → bv (tb l) = bv l from h _ l rfl
  intro n
  induction n with
  | zero => intro l h; rw [List.length_eq_zero_iff.1 h]; rfl
  | succ n ih =>
    intro l h
    rcases snoc_cases l with rfl | ⟨t, x, rfl⟩
    · rfl
    · cases x with
      | true => rw [tb_snoct]
      | false => rw [tb_snocf, bv_snocf, ih t (by simpa using h)]
theorem tb_length (l : List Bool) : (tb l).length ≤ l.length := by
  unfold tb
  rw [List.length_reverse, ← List.length_reverse (as := l)]
  exact (List.dropWhile_sublist _).length_le
/-- sixteen bits of each digit -/
def ob : List Int → List Bool
  | [] => []
  | d :: t => bn 16 d.toNat ++ ob t
theorem ob_length (l : List Int) : (ob l).length = 16 * l.length := by
  induction l with
  | nil => rfl
  | cons d t ih => rw [ob, List.length_append, bn_length, ih, List.length_cons]; omega
theorem bv_ob {l : List Int} (h : Dig l) : bv (ob l) = vl l := by
  induction l with
  | nil => rfl
  | cons d t ih =>
    obtain ⟨hd, ht⟩ := dig_cons.1 h
    rw [ob, bv_append, bv_bn, bn_length, vl, ih ht, Nat.mod_eq_of_lt (by omega)]
/-- the bits of a number -/
def bt (n : Nat) : List Bool := tb (ob (dg n))
theorem bv_bt (n : Nat) : bv (bt n) = n := by rw [bt, bv_tb, bv_ob (dig_dg n), vl_dg]
theorem bt_length (n : Nat) : (bt n).length ≤ 16 * lg n := by
  have := tb_length (ob (dg n))
  rwa [ob_length] at this
/-- digits of sixteen bits each, the first of m -/
def cb : Nat → List Bool → List Int
  | 0, _ => []
  | m + 1, l => if l = [] then [] else ((bv (l.take 16) : Nat) : Int) :: cb m (l.drop 16)
theorem dig_cb (m : Nat) (l : List Bool) : Dig (cb m l) := by
  induction m generalizing l with
  | zero => exact dig_nil
  | succ m ih =>
    rw [cb]
    split
    · exact dig_nil
    · rw [dig_cons]
      have h := bv_lt (l.take 16)
      have h2 : 2 ^ (l.take 16).length ≤ 2 ^ 16 := Nat.pow_le_pow_right (by omega) (by rw [List.length_take]; omega)
      refine ⟨?_, ih _⟩
      have : (2 : Nat) ^ 16 = 65536 := rfl
      omega
theorem vl_cb {m : Nat} {l : List Bool} (h : l.length ≤ 16 * m) : vl (cb m l) = bv l := by
  induction m generalizing l with
  | zero => rw [List.length_eq_zero_iff.1 (show l.length = 0 by omega)]; rfl
  | succ m ih =>
    rw [cb]
    split
    · rename_i h0; rw [h0]; rfl
    · rw [vl, ih (by rw [List.length_drop]; omega)]
      conv => rhs; rw [← List.take_append_drop 16 l, bv_append]
      rw [Int.toNat_natCast]
      by_cases h1 : 16 ≤ l.length
      · rw [List.length_take, Nat.min_eq_left h1]
      · rw [List.drop_of_length_le (by omega)]
        simp [bv]
/-! ### sums, differences, doubles, halves -/
def pl : Int → List Int → List Int → List Int
  | c, [], [] => if c > 0 then [c] else []
  | c, a :: as', [] => ((c + a) % 65536) :: pl ((c + a) / 65536) as' []
  | c, [], b :: bs => ((c + b) % 65536) :: pl ((c + b) / 65536) [] bs
  | c, a :: as', b :: bs => ((c + a + b) % 65536) :: pl ((c + a + b) / 65536) as' bs
theorem pl_spec : ∀ (c : Int) (a b : List Int), Dig a → Dig b → 0 ≤ c → c ≤ 1 → Dig (pl c a b) ∧ vl (pl c a b) = c.toNat + vl a + vl b
  | c, [], [], _, _, h0, h1 => by
    rw [pl]
    split
    · exact ⟨dig_cons.2 ⟨by omega, dig_nil⟩, by simp [vl]⟩
    · exact ⟨dig_nil, by simp [vl]; omega⟩
  | c, a :: as', [], ha, hb, h0, h1 => by
    obtain ⟨hd, ht⟩ := dig_cons.1 ha
    obtain ⟨i1, i2⟩ := pl_spec ((c + a) / 65536) as' [] ht dig_nil (by omega) (by omega)
    rw [pl]
    exact ⟨dig_cons.2 ⟨by omega, i1⟩, by simp only [vl, i2]; omega⟩
  | c, [], b :: bs, ha, hb, h0, h1 => by
    obtain ⟨hd, ht⟩ := dig_cons.1 hb
    obtain ⟨i1, i2⟩ := pl_spec ((c + b) / 65536) [] bs dig_nil ht (by omega) (by omega)
    rw [pl]
    exact ⟨dig_cons.2 ⟨by omega, i1⟩, by simp only [vl, i2]; omega⟩
  | c, a :: as', b :: bs, ha, hb, h0, h1 => by
    obtain ⟨hd, ht⟩ := dig_cons.1 ha
    obtain ⟨hd', ht'⟩ := dig_cons.1 hb
    obtain ⟨i1, i2⟩ := pl_spec ((c + a + b) / 65536) as' bs ht ht' (by omega) (by omega)
    rw [pl]
    exact ⟨dig_cons.2 ⟨by omega, i1⟩, by simp only [vl, i2]; omega⟩
def mi : Int → List Int → List Int → List Int
  | _, [], _ => []
  | c, a :: as', [] => if a - c < 0 then (a - c + 65536) :: mi 1 as' [] else (a - c) :: mi 0 as' []
  | c, a :: as', b :: bs => if a - c - b < 0 then (a - c - b + 65536) :: mi 1 as' bs else (a - c - b) :: mi 0 as' bs
theorem mi_spec : ∀ (c : Int) (a b : List Int), Dig a → Dig b → 0 ≤ c → c ≤ 1 → c.toNat + vl b ≤ vl a → Dig (mi c a b) ∧ vl (mi c a b) + c.toNat + vl b = vl a
  | c, [], b, _, _, h0, h1, h => by
    rw [mi]
    simp only [vl] at h ⊢
    exact ⟨dig_nil, by omega⟩
  | c, a :: as', [], ha, hb, h0, h1, h => by
    obtain ⟨hd, ht⟩ := dig_cons.1 ha
    rw [mi]
    simp only [vl] at h
    split
    · obtain ⟨i1, i2⟩ := mi_spec 1 as' [] ht dig_nil (by omega) (by omega) (by simp only [vl]; omega)
      refine ⟨dig_cons.2 ⟨by omega, i1⟩, ?_⟩
      simp only [vl] at i2 ⊢; omega
    · obtain ⟨i1, i2⟩ := mi_spec 0 as' [] ht dig_nil (by omega) (by omega) (by simp only [vl]; omega)
      refine ⟨dig_cons.2 ⟨by omega, i1⟩, ?_⟩
      simp only [vl] at i2 ⊢; omega
  | c, a :: as', b :: bs, ha, hb, h0, h1, h => by
    obtain ⟨hd, ht⟩ := dig_cons.1 ha
    obtain ⟨hd', ht'⟩ := dig_cons.1 hb
    rw [mi]
    simp only [vl] at h
    split
    · obtain ⟨i1, i2⟩ := mi_spec 1 as' bs ht ht' (by omega) (by omega) (by omega)
      refine ⟨dig_cons.2 ⟨by omega, i1⟩, ?_⟩
      simp only [vl] at i2 ⊢; omega
    · obtain ⟨i1, i2⟩ := mi_spec 0 as' bs ht ht' (by omega) (by omega) (by omega)
      refine ⟨dig_cons.2 ⟨by omega, i1⟩, ?_⟩
      simp only [vl] at i2 ⊢; omega
theorem mi_length : ∀ (c : Int) (a b : List Int), (mi c a b).length = a.length
  | _, [], _ => by rw [mi]
  | c, a :: as', [] => by rw [mi]; split <;> simp [mi_length]
  | c, a :: as', b :: bs => by rw [mi]; split <;> simp [mi_length]
def db : Int → List Int → List Int
  | c, [] => if c > 0 then [c] else []
  | c, a :: t => ((2 * a + c) % 65536) :: db ((2 * a + c) / 65536) t
theorem db_spec : ∀ (c : Int) (a : List Int), Dig a → 0 ≤ c → c ≤ 1 → Dig (db c a) ∧ vl (db c a) = c.toNat + 2 * vl a
  | c, [], _, h0, h1 => by
    rw [db]
    split
    · exact ⟨dig_cons.2 ⟨by omega, dig_nil⟩, by simp [vl]⟩
    · exact ⟨dig_nil, by simp [vl]; omega⟩
  | c, a :: t, ha, h0, h1 => by
    obtain ⟨hd, ht⟩ := dig_cons.1 ha
    obtain ⟨i1, i2⟩ := db_spec ((2 * a + c) / 65536) t ht (by omega) (by omega)
    rw [db]
    exact ⟨dig_cons.2 ⟨by omega, i1⟩, by simp only [vl, i2]; omega⟩
/-- by 2 -/
def hv : List Int → List Int × Int
  | [] => ([], 0)
  | a :: t => ((((hv t).2 * 65536 + a) / 2) :: (hv t).1, ((hv t).2 * 65536 + a) % 2)
theorem hv_spec : ∀ (a : List Int), Dig a → Dig (hv a).1 ∧ (0 ≤ (hv a).2 ∧ (hv a).2 ≤ 1) ∧ 2 * vl (hv a).1 + (hv a).2.toNat = vl a
  | [], _ => ⟨dig_nil, by simp [hv], by simp [hv, vl]⟩
  | a :: t, ha => by
    obtain ⟨hd, ht⟩ := dig_cons.1 ha
    obtain ⟨i1, i2, i3⟩ := hv_spec t ht
    rw [hv]
    refine ⟨dig_cons.2 ⟨by omega, i1⟩, by dsimp only; omega, ?_⟩
    simp only [vl]
    omega
theorem hv_length (l : List Int) : (hv l).1.length = l.length := by
  induction l with
  | nil => rfl
  | cons a t ih => rw [hv, List.length_cons, List.length_cons, ih]
/-! ### quotients, bit by bit -/
def dv (b : Nat) : List Bool → List Bool × Nat
  | [] => ([], 0)
  | x :: t => if b ≤ 2 * (dv b t).2 + x.toNat then (true :: (dv b t).1, 2 * (dv b t).2 + x.toNat - b) else (false :: (dv b t).1, 2 * (dv b t).2 + x.toNat)
theorem dv_spec {b : Nat} (hb : b ≠ 0) : ∀ (l : List Bool), (dv b l).2 < b ∧ bv (dv b l).1 * b + (dv b l).2 = bv l
  | [] => ⟨by simp only [dv]; omega, by simp [dv, bv]⟩
  | x :: t => by
    obtain ⟨i1, i2⟩ := dv_spec hb t
    have hx := Bool.toNat_le x
    rw [dv]
    split
    · refine ⟨by dsimp only; omega, ?_⟩
      simp only [bv, Bool.toNat_true, Nat.add_mul, Nat.one_mul, Nat.mul_assoc]
      omega
    · refine ⟨by dsimp only; omega, ?_⟩
      simp only [bv, Bool.toNat_false, Nat.zero_add, Nat.mul_assoc]
      omega
theorem dv_length (b : Nat) (l : List Bool) : (dv b l).1.length = l.length := by
  induction l with
  | nil => rfl
  | cons a t ih => rw [dv]; split <;> simp [ih]
theorem div_of {a b q r : Nat} (h1 : r < b) (h2 : q * b + r = a) : q = a / b ∧ r = a % b := by
  subst h2
  rw [Nat.mul_comm, Nat.mul_add_div (by omega), Nat.div_eq_of_lt h1, Nat.add_zero, Nat.mul_add_mod, Nat.mod_eq_of_lt h1]
  exact ⟨rfl, rfl⟩
theorem dv_quot {b : Nat} (hb : b ≠ 0) (a : Nat) : bv (dv b (bt a)).1 = a / b ∧ (dv b (bt a)).2 = a % b := by
  obtain ⟨h1, h2⟩ := dv_spec hb (bt a)
  rw [bv_bt] at h2
  exact div_of h1 h2
/-! ### products: c + d * b is added to a row -/
def mc : Int → Int → List Int → List Int → List Int
  | _, _, [], _ => []
  | c, d, o :: os, [] => if c > 0 then ((o + c) % 65536) :: mc ((o + c) / 65536) d os [] else o :: os
  | c, d, o :: os, b :: bs => ((o + c + d * b) % 65536) :: mc ((o + c + d * b) / 65536) d os bs
theorem mul_bound {d b : Int} (h : 0 ≤ d ∧ d < 65536) (h' : 0 ≤ b ∧ b < 65536) : 0 ≤ d * b ∧ d * b ≤ 4294836225 := by
  refine ⟨Int.mul_nonneg h.1 h'.1, ?_⟩
  have : d * b ≤ 65535 * 65535 := Int.mul_le_mul (by omega) (by omega) h'.1 (by omega)
  omega
theorem mc_length : ∀ (c d : Int) (o b : List Int), (mc c d o b).length = o.length
  | _, _, [], _ => by rw [mc]
  | c, d, o :: os, [] => by rw [mc]; split <;> simp [mc_length]
  | c, d, o :: os, b :: bs => by rw [mc]; simp [mc_length]
theorem mc_spec : ∀ (c d : Int) (o b : List Int), Dig o → Dig b → 0 ≤ c ∧ c < 65536 → 0 ≤ d ∧ d < 65536 → b.length ≤ o.length → vl o + c.toNat + d.toNat * vl b < 65536 ^ o.length →
    Dig (mc c d o b) ∧ vl (mc c d o b) = vl o + c.toNat + d.toNat * vl b
  | c, d, [], b, ho, hb, hc, hd, hl, h => by
    have : b = [] := List.length_eq_zero_iff.1 (by simpa using hl)
    subst this
    simp only [vl, List.length_nil, Nat.pow_zero] at h
    rw [mc]
    exact ⟨dig_nil, by simp only [vl]; omega⟩
  | c, d, o :: os, [], ho, hb, hc, hd, hl, h => by
    obtain ⟨h1, h2⟩ := dig_cons.1 ho
    simp only [vl, List.length_cons, Nat.pow_succ] at h
    rw [mc]
    split
    · obtain ⟨i1, i2⟩ := mc_spec ((o + c) / 65536) d os [] h2 dig_nil (by omega) hd (by simp) (by simp only [vl]; omega)
      refine ⟨dig_cons.2 ⟨by omega, i1⟩, ?_⟩
      simp only [vl] at i2 ⊢
      omega
    · exact ⟨ho, by simp only [vl]; omega⟩
  | c, d, o :: os, b :: bs, ho, hb, hc, hd, hl, h => by
    obtain ⟨h1, h2⟩ := dig_cons.1 ho
    obtain ⟨h3, h4⟩ := dig_cons.1 hb
    have hm := mul_bound hd h3
    have hmn : d.toNat * b.toNat = (d * b).toNat := (Int.toNat_mul hd.1 h3.1).symm
    simp only [vl, List.length_cons, Nat.pow_succ, Nat.mul_add] at h
    have hx : d.toNat * (65536 * vl bs) = 65536 * (d.toNat * vl bs) := Nat.mul_left_comm _ _ _
    rw [hmn, hx] at h
    rw [mc]
    obtain ⟨i1, i2⟩ := mc_spec ((o + c + d * b) / 65536) d os bs h2 h4 (by omega) hd (by simpa using hl) (by omega)
    refine ⟨dig_cons.2 ⟨by omega, i1⟩, ?_⟩
    simp only [vl, Nat.mul_add, i2, hmn, hx]
    omega
theorem vl_take_succ {a : List Int} {i : Nat} (h : i < a.length) : vl (a.take (i + 1)) = vl (a.take i) + 65536 ^ i * (a[i]).toNat := by
  rw [List.take_succ_eq_append_getElem h, vl_append, List.length_take, Nat.min_eq_left (by omega)]
  simp [vl]
end Go.Ab
