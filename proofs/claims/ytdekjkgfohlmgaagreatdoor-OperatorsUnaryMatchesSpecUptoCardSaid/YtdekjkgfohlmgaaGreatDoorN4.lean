/- Integers of the program: bitwise operators, the complement; the steps of unary operators. -/
import Derived.Test.YtdekjkgfohlmgaaGreatDoorN3
namespace Go.Ab
set_option linter.unusedVariables false
set_option linter.unusedSimpArgs false
def sgn (s : Bool) (l : List Int) : X_Int × (Int × Int) := bif decide ((l.length : Int) > 128) then ((false, []), (14, -1)) else ((s && decide ((l.length : Int) > 0), l), (0, 0))
theorem F166.l0_spec {k : Nat} (hk : 0 < k) {z : X_Int} {f : Int × Int} {s : Bool} : ∀ (m : Nat) (l : List Int) (n : Nat), l.length = m → m ≤ 1000 → m < n → Lim l →
    F166.l0 (F165.u k) (F126.u k) k n l z f s = some (sgn s (dl (v32 l))) := by
  have g6 : ∀ l : List Int, F166.g6 (F165.u k) (F126.u k) k l z f s = some (sgn s l) := fun l => by
    rw [F166.g6, gate_pos hk, F166.q_g6, F166.c_g6, F126.spec]
    rfl
  intro m
  induction m with
  | zero =>
    intro l n hl hm hn hL
    obtain ⟨n, rfl⟩ : ∃ m, n = m + 1 := ⟨n - 1, by omega⟩
    obtain rfl := List.eq_nil_of_length_eq_zero hl
    rw [F166.l0, F166.q_l0, F166.c_l0, decide_eq_false (by simp), cond_false, g6, v32, dl_zero]
  | succ m ih =>
    intro l n hl hm hn hL
    obtain ⟨n, rfl⟩ : ∃ m, n = m + 1 := ⟨n - 1, by omega⟩
    rcases snoc_cases l with rfl | ⟨t, x, rfl⟩
    · cases hl
    · have ht : t.length = m := by simpa using hl
      rw [F166.l0, F166.q_l0, F166.c_l0, decide_eq_true (by omega), cond_true, hl, wrapI (by omega) (by omega), if_pos ⟨by omega, by omega⟩, show (((m + 1 : Nat) : Int) - 1).toNat = m by omega, getD_app t x [] 0 ht]
      by_cases hx : x = 0
      · subst hx
        rw [show ((0 : Int) == 0) = true from rfl, cond_true, if_pos ⟨by omega, by omega⟩, List.take_left' ht, ih t n ht (by omega) (by omega) (lim_append.1 hL).1, v32_append]
        simp [v32]
      · rw [ieqF hx, cond_false, g6, dl_v32 hL (fun _ => by simpa using hx)]
theorem top_ge {B v n : Nat} (hn : 2147483648 ≤ n) : B * 4294967296 ≤ 2 * (v + B * n) := by
  have h2 := Nat.mul_le_mul_left B hn
  have : B * 4294967296 = 2 * (B * 2147483648) := by rw [← Nat.mul_assoc, Nat.mul_comm 2 B, Nat.mul_assoc]
  rw [this]
  exact Nat.mul_le_mul_left 2 (Nat.le_trans h2 (Nat.le_add_left _ _))
theorem top_lt {B v n : Nat} (hv : v < B) (hn : n + 1 ≤ 2147483648) : 2 * (v + B * n) < B * 4294967296 := by
  have h2 := Nat.mul_le_mul_left B hn
  have : B * 4294967296 = 2 * (B * 2147483648) := by rw [← Nat.mul_assoc, Nat.mul_comm 2 B, Nat.mul_assoc]
  rw [this]
  refine Nat.mul_lt_mul_of_pos_left (Nat.lt_of_lt_of_le ?_ h2) (by decide)
  rw [Nat.mul_add, Nat.mul_one, Nat.add_comm]
  exact Nat.add_lt_add_left hv _
theorem v32_top {t : List Int} {x : Int} (hx : 0 ≤ x ∧ x < 4294967296) (ht : Lim t) : (2147483648 ≤ x → 4294967296 ^ (t.length + 1) ≤ 2 * v32 (t ++ [x])) ∧ (x < 2147483648 → 2 * v32 (t ++ [x]) < 4294967296 ^ (t.length + 1)) := by
  have e : v32 (t ++ [x]) = v32 t + 4294967296 ^ t.length * x.toNat := by rw [v32_append]; simp [v32]
  rw [e, Nat.pow_succ]
  exact ⟨fun h => top_ge (by omega), fun h => top_lt (v32_ltB ht) (by omega)⟩
/-- what limbs of two's complement mean -/
theorem F166.spec {k : Nat} (hk : 1001 < k) {l : List Int} (h0 : 0 < l.length) (hl : l.length ≤ 1000) (hL : Lim l) :
    F166.u k l = some (if 2 * v32 l < 4294967296 ^ l.length then sgn false (dl (v32 l)) else sgn true (dl (4294967296 ^ l.length - v32 l))) := by
  rcases snoc_cases l with rfl | ⟨t, x, rfl⟩
  · cases h0
  obtain ⟨ht, hx⟩ := lim_append.1 hL
  replace hx := hx x (by simp)
  have hlen : (t ++ [x]).length = t.length + 1 := by simp
  obtain ⟨v1, v2⟩ := v32_top hx ht
  have hlt := v32_ltB hL
  rw [hlen] at hlt hl ⊢
  show F166.f _ _ k (t ++ [x]) = _
  rw [F166.f, F166.q, F166.c, hlen, wrapI (by omega) (by omega), if_pos ⟨by omega, by omega⟩, show (((t.length + 1 : Nat) : Int) - 1).toNat = t.length by omega, getD_app t x [] 0 rfl,
    show ((2 : Int) ^ min (Int.toNat 31) IntKind.u32.bits) = 2147483648 from rfl, Int.fdiv_eq_ediv_of_nonneg _ (by omega)]
  by_cases hb : 2147483648 ≤ x
  · have hv := v1 hb
    obtain ⟨r, hr, r1, r2, _, r3⟩ := F165.spec (k := k) hk (a := (true, t ++ [x])) (m := t.length + 1) hl (by simp) hL
    rw [ieqT (a := x / 2147483648) (b := 1) (by omega), cond_true, hr, Option.bind_some, F166.l0_spec (by omega) _ r k rfl (by omega) (by omega) r2, if_neg (by omega)]
    have h4 := r3 rfl
    dsimp only at h4
    have hp := Nat.pow_pos (a := 4294967296) (n := t.length + 1) (by omega)
    congr 3
    rcases h4 with h4 | h4
    · omega
    · omega
  · have hv := v2 (by omega)
    rw [ieqF (a := x / 2147483648) (b := 1) (by omega), cond_false, F166.l0_spec (by omega) _ (t ++ [x]) k rfl (by omega) (by omega) hL, if_pos hv]
/-! ### bitwise operators -/
theorem F128.l0_spec {k : Nat} {op : (Int × (Int × Unit)) → Option Int} {f : Int → Int → Int} (hop : ∀ a b, op (a, (b, ())) = some (f a b)) {z : X_Int} {ft : Int × Int} {ys : List Int} {m : Nat} (hm : m ≤ 1000) (hy : ys.length = m) : ∀ (rest pre : List Int) (n i : Nat), pre.length = i → i + rest.length = m → rest.length < n →
    F128.l0 (F125.u k) (F165.u k) (F166.u k) k n op z ft (pre ++ rest) ys (m : Int) (i : Int) = F166.u k (pre ++ List.zipWith f rest (ys.drop i))
  | [], pre, n, i, hp, hi, hn => by
    simp only [List.length_nil] at hi hn
    obtain ⟨n, rfl⟩ : ∃ m, n = m + 1 := ⟨n - 1, by omega⟩
    rw [F128.l0, F128.q_l0, F128.c_l0, decide_eq_false (by omega), cond_false, List.append_nil, List.zipWith_nil_left, List.append_nil]
    cases F166.u k pre <;> rfl
  | x :: t, pre, n, i, hp, hi, hn => by
    simp only [List.length_cons] at hi hn
    obtain ⟨n, rfl⟩ : ∃ m, n = m + 1 := ⟨n - 1, by omega⟩
    have hlen : (pre ++ x :: t).length = m := by simp; omega
    have hlt : i < ys.length := by omega
    rw [F128.l0, F128.q_l0, F128.c_l0, decide_eq_true (by omega), cond_true, if_pos ⟨by omega, by omega⟩, if_pos ⟨by omega, by omega⟩, Nat.zero_add, Int.toNat_natCast, getD_app pre x t 0 hp, hop, Option.bind_some, if_pos ⟨by omega, by omega⟩, set_app pre x _ t hp, wrapN (by omega), getD_of hlt]
    rw [List.take_of_length_le (by rw [hlen]; simp; omega), show pre ++ f x ys[i] :: t = (pre ++ [f x ys[i]]) ++ t by simp,
      F128.l0_spec hop hm hy t (pre ++ [f x ys[i]]) n (i + 1) (by simp; omega) (by omega) (by omega), drop_cons hlt, List.zipWith_cons_cons]
    simp
theorem F128.spec {k : Nat} (hk : 1001 < k) {op : (Int × (Int × Unit)) → Option Int} {f : Int → Int → Int} (hop : ∀ a b, op (a, (b, ())) = some (f a b)) {a b : X_Int} (ha : intB a = true) (hb : intB b = true) (la : Lim a.2) (lb : Lim b.2) :
    ∃ x y, F128.u k (a, (b, op)) = F166.u k (List.zipWith f x y) ∧ x.length = max a.2.length b.2.length + 1 ∧ y.length = max a.2.length b.2.length + 1 ∧ Lim x ∧ Lim y ∧
      (a.1 = false → v32 x = v32 a.2) ∧ (a.1 = true → v32 x + v32 a.2 = 4294967296 ^ (max a.2.length b.2.length + 1) ∨ (v32 a.2 = 0 ∧ v32 x = 0)) ∧ (b.1 = false → v32 y = v32 b.2) ∧ (b.1 = true → v32 y + v32 b.2 = 4294967296 ^ (max a.2.length b.2.length + 1) ∨ (v32 b.2 = 0 ∧ v32 y = 0)) := by
  have l1 := intB_len ha
  have l2 := intB_len hb
  obtain ⟨x, hx, x1, x2, x3, x4⟩ := F165.spec (k := k) hk (a := a) (m := max a.2.length b.2.length + 1) (by omega) (by omega) la
  obtain ⟨y, hy, y1, y2, y3, y4⟩ := F165.spec (k := k) hk (a := b) (m := max a.2.length b.2.length + 1) (by omega) (by omega) lb
  refine ⟨x, y, ?_, x1, y1, x2, y2, x3, x4, y3, y4⟩
  have e : IntKind.i64.wrap ((if (b.2.length : Int) > (a.2.length : Int) then (b.2.length : Int) else (a.2.length : Int)) + 1) = ((max a.2.length b.2.length + 1 : Nat) : Int) := by
    rw [wrapI (by split <;> omega) (by split <;> omega)]
    split <;> omega
  show F128.f _ _ _ k a b op = _
  rw [F128.f, F128.q, F128.c, show List.take 2 [a, b] = [a, b] from rfl, F125.spec (by simp) (by omega) (fun c hc => by
    rcases List.mem_cons.1 hc with rfl | hc
    · exact ha
    · rw [List.mem_singleton.1 hc]; exact hb), Option.bind_some, show ((0 : Int) != 0) = false from rfl, cond_false, e, hx, Option.bind_some, hy, Option.bind_some, x1]
  have := F128.l0_spec (k := k) hop (z := (false, [])) (ft := (0, 0)) (ys := y) (m := max a.2.length b.2.length + 1) (by omega) y1 x [] k 0 rfl (by omega) (by omega)
  rw [List.nil_append] at this
  exact this
theorem not_zip : ∀ {x y : List Int}, x.length = y.length → Lim x → Lim (List.zipWith (fun a _ => notI .u32 a) x y) ∧ (List.zipWith (fun a _ => notI .u32 a) x y).length = x.length ∧ v32 (List.zipWith (fun a _ => notI .u32 a) x y) + v32 x + 1 = 4294967296 ^ x.length
  | [], [], _, _ => ⟨(fun d hd => by cases hd), rfl, by simp [v32]⟩
  | [], _ :: _, h, _ => by cases h
  | _ :: _, [], h, _ => by cases h
  | a :: x, b :: y, h, hl => by
    obtain ⟨h1, h2⟩ := lim_cons.1 hl
    obtain ⟨i1, i2, i3⟩ := not_zip (x := x) (y := y) (by simpa using h) h2
    rw [List.zipWith_cons_cons, not_u32 h1.1 h1.2]
    refine ⟨lim_cons.2 ⟨⟨by omega, by omega⟩, i1⟩, by simp [i2], ?_⟩
    rw [v32, v32, List.length_cons, Nat.pow_succ]
    omega
/-- the complement -/
theorem F85.spec {k : Nat} (hk : 1001 < k) {a : X_Int} (ha : intB a = true) (la : Lim a.2) : F85.u k a = some (bif a.1 then sgn false (dl (v32 a.2 - 1)) else sgn true (dl (v32 a.2 + 1))) := by
  obtain ⟨z1, z2, z3⟩ := intB_isZ ha la
  have l1 := intB_len ha
  have e0 : max a.2.length ([] : List Int).length + 1 = a.2.length + 1 := by simp
  obtain ⟨x, y, hxy, x1, y1, x2, y2, x3, x4, _, _⟩ := F128.spec (k := k) hk (op := fun z1 => (F129.u k (z1.1, z1.2.1)).bind some) (f := fun a _ => notI .u32 a) (fun a b => rfl) (a := a) (b := (false, [])) ha rfl la (fun d hd => by cases hd)
  rw [e0] at x1 y1 x4
  obtain ⟨n1, n2, n3⟩ := not_zip (x1.trans y1.symm) x2
  show F85.f _ _ k a = _
  rw [F85.f, F85.q, F85.c, hxy, F166.spec hk (by omega) (by omega) n1, Option.bind_some]
  congr 1
  rw [n2, x1]
  rw [x1] at n3
  have hb := v32_ltB la
  have hp : 4294967296 ^ (a.2.length + 1) = 4294967296 ^ a.2.length * 4294967296 := Nat.pow_succ ..
  cases hs : a.1 with
  | false =>
    have := x3 hs
    rw [if_neg (by omega), cond_false]
    congr 2
    omega
  | true =>
    have h0 := z2 hs
    rcases x4 hs with h4 | h4
    · rw [if_pos (by omega), cond_true]
      congr 2
      omega
    · exact absurd h4.1 h0
theorem p256 : (65536 : Nat) ^ 256 = 4294967296 ^ 128 := by
  have e : (4294967296 : Nat) = 65536 ^ 2 := rfl
  rw [e, ← Nat.pow_mul]
theorem dl_fits (n : Nat) : decide (((dl n).length : Int) > 128) = !decide (lg n ≤ 256) := by
  by_cases h : (dl n).length ≤ 128
  · rw [decide_eq_false (by omega), decide_eq_true (dl_len_lg h)]; rfl
  · rw [decide_eq_true (by omega)]
    have : ¬ lg n ≤ 256 := fun hl => h (dl_len (m := 128) (Nat.lt_of_lt_of_le (lt_lg n) (by
      have := pow_le_pow hl
      rw [p256] at this
      exact this)))
    rw [decide_eq_false this]
    rfl
theorem dl_pos' (n : Nat) : decide (((dl n).length : Int) > 0) = decide (0 < n) := by
  by_cases h : n = 0
  · subst h; rw [dl_zero]; rfl
  · rw [dl_pos h, decide_eq_true (by simp), decide_eq_true (by omega)]
theorem F84.spec {k : Nat} {s : Bool} {n : Nat} : F84.u k (sgn s (dl n)) = some (qstep ((s, n), 1)) := by
  have q : qfits ((s, n), 1) = decide (lg n ≤ 256) := by
    unfold qfits
    rw [show lg ((s, n), 1).2 = 1 from lg_one]
    exact Bool.and_true _
  unfold sgn qstep
  rw [dl_fits, q]
  by_cases h : lg n ≤ 256
  · rw [decide_eq_true h, Bool.not_true, cond_false, cond_true, dl_pos']
    rfl
  · rw [decide_eq_false h, Bool.not_false, cond_true, cond_false]
    rfl
end Go.Ab
