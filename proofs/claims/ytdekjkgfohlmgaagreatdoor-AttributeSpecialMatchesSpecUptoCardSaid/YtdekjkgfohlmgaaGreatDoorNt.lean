/- Plain lemmas: natural numbers by their digits to the base 65536, and by their bits. No program in sight. -/
namespace Go.Ab
set_option linter.unusedVariables false
set_option linter.unusedSimpArgs false
/-! ### digits -/
def dg (n : Nat) : List Int := if h : n = 0 then [] else ((n % 65536 : Nat) : Int) :: dg (n / 65536)
termination_by n
decreasing_by exact Nat.div_lt_self (by omega) (by omega)
def vl : List Int → Nat
  | [] => 0
  | d :: t => d.toNat + 65536 * vl t
def Dig (l : List Int) : Prop := ∀ d ∈ l, 0 ≤ d ∧ d < 65536
theorem dg_zero : dg 0 = [] := by rw [dg]; simp
theorem dg_pos {n : Nat} (h : n ≠ 0) : dg n = ((n % 65536 : Nat) : Int) :: dg (n / 65536) := by rw [dg, dif_neg h]
theorem dig_nil : Dig [] := fun d h => by cases h
theorem dig_cons {d : Int} {t : List Int} : Dig (d :: t) ↔ (0 ≤ d ∧ d < 65536) ∧ Dig t := by
  simp only [Dig, List.mem_cons, forall_eq_or_imp]
theorem dig_append {a b : List Int} : Dig (a ++ b) ↔ Dig a ∧ Dig b := by
  simp only [Dig, List.mem_append]
  exact ⟨fun h => ⟨fun d hd => h d (.inl hd), fun d hd => h d (.inr hd)⟩, fun h d hd => hd.elim (h.1 d) (h.2 d)⟩
theorem dig_drop {a : List Int} (h : Dig a) (i : Nat) : Dig (a.drop i) := fun d hd => h d (List.mem_of_mem_drop hd)
theorem dig_take {a : List Int} (h : Dig a) (i : Nat) : Dig (a.take i) := fun d hd => h d (List.mem_of_mem_take hd)
theorem dig_dg : ∀ n, Dig (dg n) := by
  intro n
  induction n using Nat.strongRecOn with
  | _ n ih =>
    by_cases h : n = 0
    · subst h; rw [dg_zero]; exact dig_nil
    · rw [dg_pos h, dig_cons]
      exact ⟨by omega, ih _ (Nat.div_lt_self (by omega) (by omega))⟩
theorem vl_dg : ∀ n, vl (dg n) = n := by
  intro n
  induction n using Nat.strongRecOn with
  | _ n ih =>
    by_cases h : n = 0
    · subst h; rw [dg_zero]; rfl
    · rw [dg_pos h, vl, ih _ (Nat.div_lt_self (by omega) (by omega))]
      omega
theorem vl_append (a b : List Int) : vl (a ++ b) = vl a + 65536 ^ a.length * vl b := by
  induction a with
  | nil => simp [vl]
  | cons d a ih => rw [List.cons_append, vl, vl, ih, List.length_cons, Nat.pow_succ]; grind
theorem vl_lt {l : List Int} (h : Dig l) : vl l < 65536 ^ l.length := by
  induction l with
  | nil => simp [vl]
  | cons d l ih =>
    have := ih (dig_cons.1 h).2
    have hd := (dig_cons.1 h).1
    rw [vl, List.length_cons, Nat.pow_succ]
    omega
theorem vl_snoc0 (l : List Int) : vl (l ++ [0]) = vl l := by rw [vl_append]; simp [vl]
theorem dg_vl {l : List Int} (h : Dig l) (hl : ∀ (hn : l ≠ []), l.getLast hn ≠ 0) : dg (vl l) = l := by
  induction l with
  | nil => exact dg_zero
  | cons d t ih =>
    obtain ⟨hd, ht⟩ := dig_cons.1 h
    have e : dg (vl t) = t := ih ht fun hn => by
      have := hl (by simp)
      rwa [List.getLast_cons hn] at this
    have hne : vl (d :: t) ≠ 0 := by
      rw [vl]
      cases t with
      | nil =>
        have := hl (by simp)
        simp only [List.getLast_singleton] at this
        simp only [vl]; omega
      | cons x t =>
        intro h0
        have : vl (x :: t) = 0 := by omega
        rw [this, dg_zero] at e
        cases e
    rw [dg_pos hne]
    have h1 : vl (d :: t) % 65536 = d.toNat := by rw [vl]; omega
    have h2 : vl (d :: t) / 65536 = vl t := by rw [vl]; omega
    rw [h1, h2, e]
    congr 1
    omega
/-! ### lengths -/
def lg (n : Nat) : Nat := (dg n).length
theorem lg_zero : lg 0 = 0 := by rw [lg, dg_zero]; rfl
theorem lg_pos {n : Nat} (h : n ≠ 0) : lg n = lg (n / 65536) + 1 := by rw [lg, dg_pos h]; rfl
theorem lt_lg (n : Nat) : n < 65536 ^ lg n := by
  have := vl_lt (dig_dg n)
  rwa [vl_dg] at this
theorem lg_le {m : Nat} : ∀ {n : Nat}, n < 65536 ^ m → lg n ≤ m := by
  induction m with
  | zero => intro n h; rw [Nat.pow_zero] at h; rw [show n = 0 by omega, lg_zero]; exact Nat.le_refl _
  | succ m ih =>
    intro n h
    by_cases h0 : n = 0
    · rw [h0, lg_zero]; omega
    · rw [lg_pos h0]
      have : lg (n / 65536) ≤ m := ih (by rw [Nat.pow_succ] at h; omega)
      omega
theorem lg_mono {a b : Nat} (h : a ≤ b) : lg a ≤ lg b := lg_le (Nat.lt_of_le_of_lt h (lt_lg b))
theorem pow_le_pow {a b : Nat} (h : a ≤ b) : 65536 ^ a ≤ 65536 ^ b := Nat.pow_le_pow_right (by omega) h
theorem lg_add (a b : Nat) : lg (a + b) ≤ max (lg a) (lg b) + 1 := lg_le (by
  have h1 := lt_lg a
  have h2 := lt_lg b
  have h3 := pow_le_pow (Nat.le_max_left (lg a) (lg b))
  have h4 := pow_le_pow (Nat.le_max_right (lg a) (lg b))
  rw [Nat.pow_succ]
  omega)
theorem lt_of_lg {a b : Nat} (h : lg a < lg b) : a < b := by
  rcases Nat.lt_or_ge a b with h1 | h1
  · exact h1
  · have := lg_mono h1; omega
/-! ### bits -/
def bv : List Bool → Nat
  | [] => 0
  | b :: t => b.toNat + 2 * bv t
/-- the lowest m bits -/
def bn : Nat → Nat → List Bool
  | 0, _ => []
  | m + 1, n => (n % 2 == 1) :: bn m (n / 2)
theorem snoc_cases {α : Type} (l : List α) : l = [] ∨ ∃ t x, l = t ++ [x] := by
  rcases List.eq_nil_or_concat l with h | ⟨t, x, h⟩
  · exact .inl h
  · exact .inr ⟨t, x, by rw [h, List.concat_eq_append]⟩
/-- sixteen bits of each digit -/
def ob : List Int → List Bool
  | [] => []
  | d :: t => bn 16 d.toNat ++ ob t
/-! ### sums, differences, doubles, halves -/
def pl : Int → List Int → List Int → List Int
  | c, [], [] => if c > 0 then [c] else []
  | c, a :: as', [] => ((c + a) % 65536) :: pl ((c + a) / 65536) as' []
  | c, [], b :: bs => ((c + b) % 65536) :: pl ((c + b) / 65536) [] bs
  | c, a :: as', b :: bs => ((c + a + b) % 65536) :: pl ((c + a + b) / 65536) as' bs
theorem pl_spec : ∀ (c : Int) (a b : List Int), Dig a → Dig b → 0 ≤ c → c ≤ 1 → Dig (pl c a b) ∧ vl (pl c a b) = c.toNat + vl a + vl b
  | c, [], [], _, _, h0, h1 => by
    rw [pl]
    split
    · exact ⟨dig_cons.2 ⟨by omega, dig_nil⟩, by simp [vl]⟩
    · exact ⟨dig_nil, by simp [vl]; omega⟩
  | c, a :: as', [], ha, hb, h0, h1 => by
    obtain ⟨hd, ht⟩ := dig_cons.1 ha
    obtain ⟨i1, i2⟩ := pl_spec ((c + a) / 65536) as' [] ht dig_nil (by omega) (by omega)
    rw [pl]
    exact ⟨dig_cons.2 ⟨by omega, i1⟩, by simp only [vl, i2]; omega⟩
  | c, [], b :: bs, ha, hb, h0, h1 => by
    obtain ⟨hd, ht⟩ := dig_cons.1 hb
    obtain ⟨i1, i2⟩ := pl_spec ((c + b) / 65536) [] bs dig_nil ht (by omega) (by omega)
    rw [pl]
    exact ⟨dig_cons.2 ⟨by omega, i1⟩, by simp only [vl, i2]; omega⟩
  | c, a :: as', b :: bs, ha, hb, h0, h1 => by
    obtain ⟨hd, ht⟩ := dig_cons.1 ha
    obtain ⟨hd', ht'⟩ := dig_cons.1 hb
    obtain ⟨i1, i2⟩ := pl_spec ((c + a + b) / 65536) as' bs ht ht' (by omega) (by omega)
    rw [pl]
    exact ⟨dig_cons.2 ⟨by omega, i1⟩, by simp only [vl, i2]; omega⟩
def mi : Int → List Int → List Int → List Int
  | _, [], _ => []
  | c, a :: as', [] => if a - c < 0 then (a - c + 65536) :: mi 1 as' [] else (a - c) :: mi 0 as' []
  | c, a :: as', b :: bs => if a - c - b < 0 then (a - c - b + 65536) :: mi 1 as' bs else (a - c - b) :: mi 0 as' bs
theorem mi_spec : ∀ (c : Int) (a b : List Int), Dig a → Dig b → 0 ≤ c → c ≤ 1 → c.toNat + vl b ≤ vl a → Dig (mi c a b) ∧ vl (mi c a b) + c.toNat + vl b = vl a
  | c, [], b, _, _, h0, h1, h => by
    rw [mi]
    simp only [vl] at h ⊢
    exact ⟨dig_nil, by omega⟩
  | c, a :: as', [], ha, hb, h0, h1, h => by
    obtain ⟨hd, ht⟩ := dig_cons.1 ha
    rw [mi]
    simp only [vl] at h
    split
    · obtain ⟨i1, i2⟩ := mi_spec 1 as' [] ht dig_nil (by omega) (by omega) (by simp only [vl]; omega)
      refine ⟨dig_cons.2 ⟨by omega, i1⟩, ?_⟩
      simp only [vl] at i2 ⊢; omega
    · obtain ⟨i1, i2⟩ := mi_spec 0 as' [] ht dig_nil (by omega) (by omega) (by simp only [vl]; omega)
      refine ⟨dig_cons.2 ⟨by omega, i1⟩, ?_⟩
      simp only [vl] at i2 ⊢; omega
  | c, a :: as', b :: bs, ha, hb, h0, h1, h => by
    obtain ⟨hd, ht⟩ := dig_cons.1 ha
    obtain ⟨hd', ht'⟩ := dig_cons.1 hb
    rw [mi]
    simp only [vl] at h
    split
    · obtain ⟨i1, i2⟩ := mi_spec 1 as' bs ht ht' (by omega) (by omega) (by omega)
      refine ⟨dig_cons.2 ⟨by omega, i1⟩, ?_⟩
      simp only [vl] at i2 ⊢; omega
    · obtain ⟨i1, i2⟩ := mi_spec 0 as' bs ht ht' (by omega) (by omega) (by omega)
      refine ⟨dig_cons.2 ⟨by omega, i1⟩, ?_⟩
      simp only [vl] at i2 ⊢; omega
def db : Int → List Int → List Int
  | c, [] => if c > 0 then [c] else []
  | c, a :: t => ((2 * a + c) % 65536) :: db ((2 * a + c) / 65536) t
theorem db_spec : ∀ (c : Int) (a : List Int), Dig a → 0 ≤ c → c ≤ 1 → Dig (db c a) ∧ vl (db c a) = c.toNat + 2 * vl a
  | c, [], _, h0, h1 => by
    rw [db]
    split
    · exact ⟨dig_cons.2 ⟨by omega, dig_nil⟩, by simp [vl]⟩
    · exact ⟨dig_nil, by simp [vl]; omega⟩
  | c, a :: t, ha, h0, h1 => by
    obtain ⟨hd, ht⟩ := dig_cons.1 ha
    obtain ⟨i1, i2⟩ := db_spec ((2 * a + c) / 65536) t ht (by omega) (by omega)
    rw [db]
    exact ⟨dig_cons.2 ⟨by omega, i1⟩, by simp only [vl, i2]; omega⟩
/-- by 2 -/
def hv : List Int → List Int × Int
  | [] => ([], 0)
  | a :: t => ((((hv t).2 * 65536 + a) / 2) :: (hv t).1, ((hv t).2 * 65536 + a) % 2)
theorem hv_spec : ∀ (a : List Int), Dig a → Dig (hv a).1 ∧ (0 ≤ (hv a).2 ∧ (hv a).2 ≤ 1) ∧ 2 * vl (hv a).1 + (hv a).2.toNat = vl a
  | [], _ => ⟨dig_nil, by simp [hv], by simp [hv, vl]⟩
  | a :: t, ha => by
    obtain ⟨hd, ht⟩ := dig_cons.1 ha
    obtain ⟨i1, i2, i3⟩ := hv_spec t ht
    rw [hv]
    refine ⟨dig_cons.2 ⟨by omega, i1⟩, by dsimp only; omega, ?_⟩
    simp only [vl]
    omega
theorem hv_length (l : List Int) : (hv l).1.length = l.length := by
  induction l with
  | nil => rfl
  | cons a t ih => rw [hv, List.length_cons, List.length_cons, ih]
/-! ### quotients, bit by bit -/
/-! ### products: c + d * b is added to a row -/
theorem vl_take_succ {a : List Int} {i : Nat} (h : i < a.length) : vl (a.take (i + 1)) = vl (a.take i) + 65536 ^ i * (a[i]).toNat := by
  rw [List.take_succ_eq_append_getElem h, vl_append, List.length_take, Nat.min_eq_left (by omega)]
  simp [vl]
end Go.Ab
