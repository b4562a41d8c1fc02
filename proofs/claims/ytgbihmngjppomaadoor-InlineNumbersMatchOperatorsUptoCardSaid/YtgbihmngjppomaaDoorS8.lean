/- Law 8: the law. -/
import Derived.Test.YtgbihmngjppomaaDoorS7
namespace Go.Ab
set_option linter.unusedVariables false
set_option linter.unusedSimpArgs false
theorem zb {z : Zt} (h : z.2 < 4294967296) : -4294967296 < zint z ∧ zint z < 4294967296 := by have := zint_abs z; omega
/-- what Binary gives of two small integers, with what the operators give -/
theorem binary_small {k : Nat} (hk : 10 < k) {op : Int} {a b : X_Value} (ta : TV a) (tb : TV b) (ha : sm a = true) (hb : sm b = true) (nb : (zv b).2 = 0 → (zv b).1 = false) :
    ∃ v ok, f_inline_Binary.u k (op, (a, b)) = some (v, ok) ∧
      ok = (decide (op = 5) || (decide (op = 6) || ((decide (op = 7) && (decide ((zv a).2 < 2147483648) && decide ((zv b).2 < 2147483648))) || ((decide (op = 9) || decide (op = 10)) && decide ((zv b).2 ≠ 0))))) ∧
      (ok = false → v = zV) ∧ (ok = true →
        (op = 5 → v = hval (zint (zv a) + zint (zv b))) ∧ (op = 6 → v = hval (zint (zv a) - zint (zv b))) ∧ (op = 7 → v = hval (zint (zv a) * zint (zv b))) ∧
        (op = 9 → v = hval (flo (zv a) (zv b))) ∧ (op = 10 → v = hval (zint (zv a) - flo (zv a) (zv b) * zint (zv b)))) := by
  have la := zb (sm_lt ta ha)
  have lb := zb (sm_lt tb hb)
  have aa := zint_abs (zv a)
  have ab := zint_abs (zv b)
  show ∃ v ok, f_inline_Binary.f (f_inline_small.u k) (f_heap_Int.u k) k op a b = some (v, ok) ∧ _
  rw [f_inline_Binary.f, f_inline_Binary.q, f_inline_Binary.c, f_inline_small.spec ta, Option.bind_some, f_inline_small.spec tb, Option.bind_some, ha, hb, cond_true, cond_true, Bool.not_true, cond_false, cond_false]
  by_cases o5 : op = 5
  · subst o5
    rw [show ((5 : Int) == 5) = true from rfl, cond_true, wrapI (by omega) (by omega), f_heap_Int.spec hk (by omega) (by omega), Option.bind_some]
    exact ⟨_, _, rfl, rfl, (fun h => by cases h), fun _ => ⟨fun _ => rfl, (fun h => by cases h), (fun h => by cases h), (fun h => by cases h), (fun h => by cases h)⟩⟩
  by_cases o6 : op = 6
  · subst o6
    rw [show ((6 : Int) == 5) = false from rfl, cond_false, show ((6 : Int) == 6) = true from rfl, cond_true, wrapI (by omega) (by omega), f_heap_Int.spec hk (by omega) (by omega), Option.bind_some]
    exact ⟨_, _, rfl, rfl, (fun h => by cases h), fun _ => ⟨(fun h => by cases h), fun _ => rfl, (fun h => by cases h), (fun h => by cases h), (fun h => by cases h)⟩⟩
  rw [show (op == 5) = false by simpa using o5, show (op == 6) = false by simpa using o6, cond_false, cond_false, decide_eq_false o5, decide_eq_false o6, Bool.false_or, Bool.false_or]
  have hg : ∀ s, f_inline_Binary.g11 (f_inline_small.u k) (f_heap_Int.u k) k op s (zint (zv a)) (zint (zv b)) = (bif (decide (op = 9) || decide (op = 10)) && decide ((zv b).2 ≠ 0) then f_inline_Binary.g12 (f_inline_small.u k) (f_heap_Int.u k) k op s (zint (zv a)) (zint (zv b)) else some (zV, false)) := by
    intro s
    have e : (zint (zv b) != 0) = decide ((zv b).2 ≠ 0) := by
      by_cases h : (zv b).2 = 0
      · rw [decide_eq_false (by omega), show zint (zv b) = 0 by omega]; rfl
      · rw [decide_eq_true h, bne_iff_ne]; omega
    rw [f_inline_Binary.g11, gate_pos (by omega), f_inline_Binary.q_g11, f_inline_Binary.c_g11, e]
    by_cases o9 : op = 9
    · subst o9
      rw [show ((9 : Int) == 9) = true from rfl, cond_true, decide_eq_true (show (9 : Int) = 9 from rfl), Bool.true_or, Bool.true_and]
      rfl
    · rw [show (op == 9) = false by simpa using o9, cond_false, decide_eq_false o9, Bool.false_or]
      by_cases o10 : op = 10
      · subst o10
        rw [show ((10 : Int) == 10) = true from rfl, cond_true, decide_eq_true (show (10 : Int) = 10 from rfl), Bool.true_and]
        rfl
      · rw [show (op == 10) = false by simpa using o10, cond_false, decide_eq_false o10, Bool.false_and, cond_false]
        rfl
  by_cases o7 : op = 7
  · subst o7
    rw [show ((7 : Int) == 7) = true from rfl, cond_true]
    rw [hg]
    rw [show ((decide ((7 : Int) = 9) || decide ((7 : Int) = 10)) && decide ((zv b).2 ≠ 0)) = false from rfl, cond_false, Bool.or_false, decide_eq_true (show (7 : Int) = 7 from rfl), Bool.true_and]
    by_cases h1 : (zv a).2 < 2147483648
    · by_cases h2 : (zv b).2 < 2147483648
      · have hm : (zint (zv a) * zint (zv b)).natAbs < 2147483648 * 2147483648 := by
          rw [Int.natAbs_mul, aa, ab]
          exact Nat.mul_lt_mul'' h1 h2
        rw [decide_eq_true (p := zint (zv a) > -2147483648) (by omega), decide_eq_true (p := zint (zv a) < 2147483648) (by omega), decide_eq_true (p := zint (zv b) > -2147483648) (by omega), decide_eq_true (p := zint (zv b) < 2147483648) (by omega), cond_true, cond_true, cond_true, cond_true,
          show IntKind.i64.wrap ((zint (zv a), true).1 * (zint (zv b), true).1) = zint (zv a) * zint (zv b) from wrapI (x := zint (zv a) * zint (zv b)) (by omega) (by omega), f_heap_Int.spec hk (by omega) (by omega), Option.bind_some, decide_eq_true h1, decide_eq_true h2]
        exact ⟨_, _, rfl, rfl, (fun h => by cases h), fun _ => ⟨(fun h => by cases h), (fun h => by cases h), fun _ => rfl, (fun h => by cases h), (fun h => by cases h)⟩⟩
      · rw [decide_eq_false h2, Bool.and_false]
        refine ⟨zV, false, ?_, rfl, fun _ => rfl, (fun h => by cases h)⟩
        rw [show (bif decide (zint (zv b) > -2147483648) then bif decide (zint (zv b) < 2147483648) then (f_heap_Int.u k (IntKind.i64.wrap (zint (zv a) * zint (zv b)))).bind fun y5 => some (y5, true) else some (zV, false) else some (zV, false)) = some (zV, false) by
          by_cases h3 : zint (zv b) > -2147483648
          · rw [decide_eq_true h3, cond_true, decide_eq_false (by omega), cond_false]
          · rw [decide_eq_false h3, cond_false]]
        cases decide (zint (zv a) > -2147483648) <;> cases decide (zint (zv a) < 2147483648) <;> rfl
    · rw [decide_eq_false h1, Bool.false_and]
      refine ⟨zV, false, ?_, rfl, fun _ => rfl, (fun h => by cases h)⟩
      by_cases h3 : zint (zv a) > -2147483648
      · rw [decide_eq_true h3, cond_true, decide_eq_false (by omega), cond_false]
      · rw [decide_eq_false h3, cond_false]
  · rw [show (op == 7) = false by simpa using o7, cond_false, hg, decide_eq_false o7, Bool.false_and, Bool.false_or]
    by_cases hc : ((decide (op = 9) || decide (op = 10)) && decide ((zv b).2 ≠ 0)) = true
    · rw [hc, cond_true]
      rw [Bool.and_eq_true, Bool.or_eq_true, decide_eq_true_eq, decide_eq_true_eq, decide_eq_true_eq] at hc
      have hy := hc.2
      have hm := flo_machine (x := zv a) hy
      have hz : zint (zv b) ≠ 0 := by omega
      have hqa : (Int.tdiv (zint (zv a)) (zint (zv b))).natAbs ≤ (zv a).2 := by
        rw [Int.natAbs_tdiv, aa, ab]; exact Nat.div_le_self _ _
      have hra : (Int.tmod (zint (zv a)) (zint (zv b))).natAbs ≤ (zv a).2 := by
        rw [Int.natAbs_tmod, aa, ab]; exact Nat.mod_le _ _
      have sa := sm_lt ta ha
      refine ⟨if op = 10 then hval (zint (zv a) - flo (zv a) (zv b) * zint (zv b)) else hval (flo (zv a) (zv b)), true, ?_, rfl, (fun h => by cases h), fun _ => ⟨fun h => absurd h o5, fun h => absurd h o6, fun h => absurd h o7, (fun h => by rw [if_neg (by omega)]), fun h => if_pos h⟩⟩
      rw [f_inline_Binary.g12, gate_pos (by omega), f_inline_Binary.b_g12, if_neg hz, if_neg hz]
      by_cases hr : Int.tmod (zint (zv a)) (zint (zv b)) = 0
      · rw [if_neg (by omega)] at hm
        rw [hr] at hm ⊢
        rw [show ((0 : Int) != 0) = false from rfl, cond_false, wrapI (by omega) (by omega), f_heap_Int.spec hk (by omega) (by omega), f_heap_Int.spec hk (by omega) (by omega), ← hm.1, hm.1, ← hm.2]
        rcases hc.1 with rfl | rfl <;> rfl
      · rw [show (Int.tmod (zint (zv a)) (zint (zv b)) != 0) = true by simpa using hr, cond_true]
        by_cases hs : (decide (Int.tmod (zint (zv a)) (zint (zv b)) < 0) != decide (zint (zv b) < 0)) = true
        · rw [if_pos ⟨hr, hs⟩] at hm
          rw [hs, cond_true, wrapI (x := Int.tmod (zint (zv a)) (zint (zv b)) + zint (zv b)) (by omega) (by omega), wrapI (x := Int.tdiv (zint (zv a)) (zint (zv b))) (by omega) (by omega), wrapI (by omega) (by omega), f_heap_Int.spec hk (by omega) (by omega), f_heap_Int.spec hk (by omega) (by omega), hm.1, hm.2]
          rcases hc.1 with rfl | rfl <;> rfl
        · rw [if_neg (fun h => hs h.2)] at hm
          rw [Bool.not_eq_true] at hs
          rw [hs, cond_false, wrapI (x := Int.tdiv (zint (zv a)) (zint (zv b))) (by omega) (by omega), f_heap_Int.spec hk (by omega) (by omega), f_heap_Int.spec hk (by omega) (by omega), hm.1, hm.2]
          rcases hc.1 with rfl | rfl <;> rfl
    · rw [Bool.not_eq_true] at hc
      rw [hc, cond_false]
      exact ⟨_, _, rfl, rfl, fun _ => rfl, (fun h => by cases h)⟩
theorem binary_other {k : Nat} {op : Int} {a b : X_Value} (ta : TV a) (tb : TV b) (h : (sm a && sm b) = false) : f_inline_Binary.u k (op, (a, b)) = some (zV, false) := by
  show f_inline_Binary.f (f_inline_small.u k) (f_heap_Int.u k) k op a b = _
  rw [f_inline_Binary.f, f_inline_Binary.q, f_inline_Binary.c, f_inline_small.spec ta, Option.bind_some, f_inline_small.spec tb, Option.bind_some]
  cases ha : sm a with
  | false => rfl
  | true =>
    rw [ha, Bool.true_and] at h
    rw [h]
    rfl
def cmpB (c : Int) (x y : Int) : Bool := [decide (x < y), decide (x ≤ y), decide (x > y), decide (x ≥ y), x == y, x != y].getD (c - 1).toNat false
theorem compare_spec {k : Nat} {c : Int} {a b : X_Value} (ta : TV a) (tb : TV b) (h1 : 1 ≤ c) : f_inline_Compare.u k (c, (a, b)) = some (bif sm a && sm b && decide (c ≤ 6) then (cmpB c (zint (zv a)) (zint (zv b)), true) else (false, false)) := by
  show f_inline_Compare.f (f_inline_small.u k) k c a b = _
  rw [f_inline_Compare.f, f_inline_Compare.q, f_inline_Compare.c, f_inline_small.spec ta, Option.bind_some, f_inline_small.spec tb, Option.bind_some]
  cases ha : sm a with
  | false => rfl
  | true =>
    cases hb : sm b with
    | false => rfl
    | true =>
      rw [cond_true, cond_true, Bool.not_true, cond_false, cond_false, Bool.and_self, Bool.true_and]
      by_cases h6 : c ≤ 6
      · have : c = 1 ∨ c = 2 ∨ c = 3 ∨ c = 4 ∨ c = 5 ∨ c = 6 := by omega
        rcases this with rfl | rfl | rfl | rfl | rfl | rfl <;> rfl
      · rw [decide_eq_false h6, cond_false, show (c == 1) = false by simp; omega, show (c == 2) = false by simp; omega, show (c == 3) = false by simp; omega, show (c == 4) = false by simp; omega, show (c == 5) = false by simp; omega, show (c == 6) = false by simp; omega]
        rfl
theorem cmpB_icmp {c : Int} (x y : Int) (h1 : 1 ≤ c) (h6 : c ≤ 6) : cmpB c x y = [decide (icmp x y < 0), decide (icmp x y ≤ 0), decide (icmp x y > 0), decide (icmp x y ≥ 0), icmp x y == 0, icmp x y != 0].getD (c - 1).toNat false := by
  have e : icmp x y = -1 ∧ x < y ∨ icmp x y = 0 ∧ x = y ∨ icmp x y = 1 ∧ y < x := by
    unfold icmp
    split
    · exact .inl ⟨rfl, by assumption⟩
    · split
      · exact .inr (.inr ⟨rfl, by assumption⟩)
      · exact .inr (.inl ⟨rfl, by omega⟩)
  unfold cmpB
  have : c = 1 ∨ c = 2 ∨ c = 3 ∨ c = 4 ∨ c = 5 ∨ c = 6 := by omega
  rcases e with ⟨e, h⟩ | ⟨e, h⟩ | ⟨e, h⟩
  · rw [e, decide_eq_true h, decide_eq_true (show x ≤ y by omega), decide_eq_false (show ¬ x > y by omega), decide_eq_false (show ¬ x ≥ y by omega), show (x == y) = false by simp; omega, show (x != y) = true by simp; omega]
    rcases this with rfl | rfl | rfl | rfl | rfl | rfl <;> rfl
  · subst h
    rw [e, decide_eq_false (show ¬ x < x by omega), decide_eq_true (show x ≤ x by omega), show (x == x) = true by simp, show (x != x) = false by simp]
    rcases this with rfl | rfl | rfl | rfl | rfl | rfl <;> rfl
  · rw [e, decide_eq_false (show ¬ x < y by omega), decide_eq_false (show ¬ x ≤ y by omega), decide_eq_true (show x > y by omega), decide_eq_true (show x ≥ y by omega), show (x == y) = false by simp; omega, show (x != y) = true by simp; omega]
    rcases this with rfl | rfl | rfl | rfl | rfl | rfl <;> rfl
theorem tv_zV : TV zV := ⟨(fun d h => by cases h), (fun d h => by cases h), (by show ([] : List Int).length ≤ _; simp), (by show ([] : List Int).length ≤ _; simp), (by show ([] : List UInt8).length ≤ _; simp)⟩
theorem dl_len {m : Nat} : ∀ {n : Nat}, n < 4294967296 ^ m → (dl n).length ≤ m := by
  induction m with
  | zero => intro n h; rw [Nat.pow_zero] at h; rw [show n = 0 by omega, dl_zero]; simp
  | succ m ih =>
    intro n h
    by_cases h0 : n = 0
    · rw [h0, dl_zero]; simp
    · rw [dl_pos h0]
      have : (dl (n / 4294967296)).length ≤ m := ih (by rw [Nat.pow_succ] at h; omega)
      simp; omega
theorem tv_hval {n : Int} (h : n.natAbs < 4294967296 ^ 4) : TV (hval n) :=
  ⟨lim_dl _, (fun d h => by cases h), Nat.le_trans (dl_len h) (by omega), (by show ([] : List Int).length ≤ _; simp), (by show ([] : List UInt8).length ≤ _; simp)⟩
theorem law8_g10 {k : Nat} (hk : BK k) {c : Int} {a b : X_Value} (ta : TV a) (tb : TV b) (oa : VOk a) (ob : VOk b) (h1 : 1 ≤ c) (h2 : c ≤ 10) : f_law7_InlineNumbersMatchOperators.g10 (f_ref7_ValueOk.u k) (f_inline_Binary.u k) (f_law7_small.u k) (f_ref7_SameValue.u k) (f_ref7_Arithmetic.u k) (f_inline_Compare.u k) (f_ref7_Number.u k) (f_ref3_Ratio_Order.u k) (f_law7_half.u k) k c a b = some true := by
  have hk1 := hk 5000000 (Nat.le_trans (lg_le (m := 2) (by omega)) (by omega))
  rw [f_law7_InlineNumbersMatchOperators.g10, gate_pos (by omega), f_law7_InlineNumbersMatchOperators.q_g10, f_law7_InlineNumbersMatchOperators.c_g10, compare_spec ta tb h1, Option.bind_some, f_law7_small.spec, Option.bind_some, f_law7_small.spec, Option.bind_some]
  cases ha : sm a with
  | false => rfl
  | true =>
    cases hb : sm b with
    | false => rfl
    | true =>
      rw [Bool.and_self, Bool.true_and, cond_true, cond_true]
      by_cases h6 : c ≤ 6
      · have sa := ha
        have sb := hb
        unfold sm at sa sb
        rw [Bool.and_eq_true, decide_eq_true_eq, decide_eq_true_eq] at sa sb
        have la := lg_small (n := (zv a).2) (by have := sm_lt ta ha; omega)
        have lb := lg_small (n := (zv b).2) (by have := sm_lt tb hb; omega)
        have eN : ∀ {x : X_Value}, TV x → sm x = true → f_ref7_Number.u k x = some (er (zv x, 1)) := by
          intro x tx hx
          unfold sm at hx
          rw [Bool.and_eq_true, decide_eq_true_eq, decide_eq_true_eq] at hx
          show f_ref7_Number.f (f_ref3_RatioOf.u k) (f_ref3_IntOf.u k) (f_ref3_Whole.u k) k x = _
          rw [f_ref7_Number.f, f_ref7_Number.b, hx.1, show ((2 : Int) == 3) = false from rfl, cond_false, show x.2.1 = (x.2.1.1, x.2.1.2) from rfl, f_ref3_IntOf.spec tx.num (by omega) (by omega), Option.bind_some, f_ref3_Whole.spec (by omega), Option.bind_some]
          rfl
        rw [decide_eq_true h6, cond_true, show (true != true) = false from rfl, cond_false]
        dsimp only
        rw [Bool.not_true, cond_false, f_law7_InlineNumbersMatchOperators.g15, gate_pos (by omega), f_law7_InlineNumbersMatchOperators.q_g15, f_law7_InlineNumbersMatchOperators.c_g15, eN ta ha, Option.bind_some, eN tb hb, Option.bind_some, f_ref3_Ratio_Order.spec (by omega) (by dsimp only; omega) (by dsimp only; rw [lg_one]; omega) (by dsimp only; omega) (by dsimp only; rw [lg_one]; omega), Option.bind_some, zcmp_eq, zint_one, zint_one,
          wrapI (by omega) (by omega), if_pos ⟨by omega, by omega⟩, Nat.zero_add, ← cmpB_icmp _ _ h1 h6, beq_self_eq_true]
      · rw [decide_eq_false h6, cond_false]
        rfl
theorem law8_g7 {k : Nat} (hk : BK k) {op c : Int} {a b v : X_Value} {ok : Bool} (ta : TV a) (tb : TV b) (oa : VOk a) (ob : VOk b) (h1 : 1 ≤ c) (h2 : c ≤ 10) (tv : TV v)
    (hv : ok = true → ∃ r, f_ref7_Arithmetic.u k (op, (a, b)) = some r ∧ r.1.2.1 = v) : f_law7_InlineNumbersMatchOperators.g7 (f_ref7_ValueOk.u k) (f_inline_Binary.u k) (f_law7_small.u k) (f_ref7_SameValue.u k) (f_ref7_Arithmetic.u k) (f_inline_Compare.u k) (f_ref7_Number.u k) (f_ref3_Ratio_Order.u k) (f_law7_half.u k) k op c a b v ok = some true := by
  have hk1 := hk 5000000 (Nat.le_trans (lg_le (m := 2) (by omega)) (by omega))
  rw [f_law7_InlineNumbersMatchOperators.g7, gate_pos (by omega), f_law7_InlineNumbersMatchOperators.q_g7, f_law7_InlineNumbersMatchOperators.c_g7]
  obtain ⟨r, hr, _⟩ := f_ref7_Arithmetic.spec (op := op) hk ta tb oa ob
  rw [hr, Option.bind_some]
  cases ok with
  | false => exact law8_g10 hk ta tb oa ob h1 h2
  | true =>
    obtain ⟨r', hr', e⟩ := hv rfl
    rw [hr] at hr'
    cases hr'
    rw [cond_true, e, f_ref7_SameValue.spec (by omega) tv, Option.bind_some, beq_self_eq_true]
    exact law8_g10 hk ta tb oa ob h1 h2
theorem law8_g5 {k : Nat} (hk : BK k) {op c : Int} {a b v : X_Value} {ok ok' : Bool} (ta : TV a) (tb : TV b) (oa : VOk a) (ob : VOk b) (h1 : 1 ≤ c) (h2 : c ≤ 10) (tv : TV v) (he : ok = ok') (h0 : ok = false → v = zV)
    (hv : ok = true → ∃ r, f_ref7_Arithmetic.u k (op, (a, b)) = some r ∧ r.1.2.1 = v) : f_law7_InlineNumbersMatchOperators.g5 (f_ref7_ValueOk.u k) (f_inline_Binary.u k) (f_law7_small.u k) (f_ref7_SameValue.u k) (f_ref7_Arithmetic.u k) (f_inline_Compare.u k) (f_ref7_Number.u k) (f_ref3_Ratio_Order.u k) (f_law7_half.u k) k op c a b v ok ok' = some true := by
  have hk1 := hk 5000000 (Nat.le_trans (lg_le (m := 2) (by omega)) (by omega))
  subst he
  rw [f_law7_InlineNumbersMatchOperators.g5, gate_pos (by omega), f_law7_InlineNumbersMatchOperators.q_g5, f_law7_InlineNumbersMatchOperators.c_g5, show (ok != ok) = false by cases ok <;> rfl, cond_false]
  cases ok with
  | true => exact law8_g7 hk ta tb oa ob h1 h2 tv hv
  | false =>
    rw [h0 rfl, Bool.not_false, cond_true, show f_ref7_SameValue.u k (zV, (0, ((false, ([] : List Int)), ((false, ([] : List Int)), ([], 0))))) = some (zV == zV) from f_ref7_SameValue.spec (by omega) tv_zV, Option.bind_some, beq_self_eq_true]
    exact law8_g7 hk ta tb oa ob h1 h2 tv_zV (fun h => by cases h)
theorem law8 {k : Nat} (hk : BK k) {op c : Int} {a b : X_Value} (ta : TV a) (tb : TV b) : f_law7_InlineNumbersMatchOperators.u k (op, (c, (a, b))) = some true := by
  have hk1 := hk 5000000 (Nat.le_trans (lg_le (m := 2) (by omega)) (by omega))
  obtain ⟨ba, ea, oa⟩ := f_ref7_ValueOk.spec hk ta
  obtain ⟨bb, eb, ob⟩ := f_ref7_ValueOk.spec hk tb
  show f_law7_InlineNumbersMatchOperators.f (f_ref7_ValueOk.u k) (f_inline_Binary.u k) (f_law7_small.u k) (f_ref7_SameValue.u k) (f_ref7_Arithmetic.u k) (f_inline_Compare.u k) (f_ref7_Number.u k) (f_ref3_Ratio_Order.u k) (f_law7_half.u k) k op c a b = _
  rw [f_law7_InlineNumbersMatchOperators.f, f_law7_InlineNumbersMatchOperators.q, f_law7_InlineNumbersMatchOperators.c, ea, Option.bind_some, eb, Option.bind_some]
  cases ba with
  | false => rfl
  | true =>
    cases bb with
    | false => rfl
    | true =>
      have oa := oa rfl
      have ob := ob rfl
      rw [Bool.not_true, cond_false, cond_false]
      by_cases r1 : op < 5
      · rw [decide_eq_true r1]; rfl
      by_cases r2 : op > 16
      · rw [decide_eq_false r1, cond_false, decide_eq_true r2]; rfl
      by_cases r3 : c < 1
      · rw [decide_eq_false r1, cond_false, decide_eq_false r2, cond_false, decide_eq_true r3]; rfl
      by_cases r4 : c > 10
      · rw [decide_eq_false r1, cond_false, decide_eq_false r2, cond_false, decide_eq_false r3, cond_false, decide_eq_true r4]; rfl
      rw [decide_eq_false r1, cond_false, decide_eq_false r2, cond_false, decide_eq_false r3, cond_false, decide_eq_false r4, cond_false, f_law7_small.spec, f_law7_small.spec]
      cases hs : (sm a && sm b) with
      | false =>
        have hg : f_law7_InlineNumbersMatchOperators.g5 (f_ref7_ValueOk.u k) (f_inline_Binary.u k) (f_law7_small.u k) (f_ref7_SameValue.u k) (f_ref7_Arithmetic.u k) (f_inline_Compare.u k) (f_ref7_Number.u k) (f_ref3_Ratio_Order.u k) (f_law7_half.u k) k op c a b zV false false = some true := law8_g5 hk ta tb oa ob (by omega) (by omega) tv_zV rfl (fun _ => rfl) (fun h => by cases h)
        rw [binary_other ta tb hs, Option.bind_some, Option.bind_some]
        cases ha : sm a with
        | false => exact hg
        | true =>
          rw [ha, Bool.true_and] at hs
          rw [hs]
          exact hg
      | true =>
        rw [Bool.and_eq_true] at hs
        obtain ⟨ha, hb⟩ := hs
        obtain ⟨v, ok, e, hok, h0, h1⟩ := binary_small (k := k) (op := op) (by omega) ta tb ha hb (sm_neg tb ob hb)
        have la := sm_lt ta ha
        have lb := sm_lt tb hb
        have va : a.1 = 2 := by unfold sm at ha; rw [Bool.and_eq_true, decide_eq_true_eq] at ha; exact ha.1
        have vb : b.1 = 2 := by unfold sm at hb; rw [Bool.and_eq_true, decide_eq_true_eq] at hb; exact hb.1
        have za := zb la
        have zb' := zb lb
        have hm : (zint (zv a) * zint (zv b)).natAbs < 4294967296 * 4294967296 := by
          rw [Int.natAbs_mul, zint_abs, zint_abs]
          exact Nat.mul_lt_mul'' la lb
        have hf : (zv b).2 ≠ 0 → (flo (zv a) (zv b)).natAbs ≤ (zv a).2 + 1 := by
          intro h
          have := qflo_eq (x := zv a) h
          have e2 := zint_abs (qflo (zv a, 1) (zv b, 1))
          omega
        have hfm : (zv b).2 ≠ 0 → (flo (zv a) (zv b) * zint (zv b)).natAbs ≤ 4294967296 * 4294967296 := by
          intro h
          rw [Int.natAbs_mul, zint_abs]
          exact Nat.mul_le_mul (by have := hf h; omega) (by omega)
        obtain ⟨r, hr, hr2⟩ := f_ref7_Arithmetic.spec (op := op) hk ta tb oa ob
        obtain ⟨g5, g6, g7, g9⟩ := hr2 (.inl va) (.inl vb)
        rw [qv_sm ha, qv_sm hb] at g5 g6 g7 g9
        have key : TV v ∧ (ok = true → r.1.2.1 = v) := by
          cases ok with
          | false => rw [h0 rfl]; exact ⟨tv_zV, (fun h => by cases h)⟩
          | true =>
            obtain ⟨p5, p6, p7, p9, p10⟩ := h1 rfl
            symm at hok
            simp only [Bool.or_eq_true, Bool.and_eq_true, decide_eq_true_eq] at hok
            rcases hok with h | h | h | h
            · rw [g5 h, step_add la lb, p5 h]; exact ⟨tv_hval (by omega), fun _ => rfl⟩
            · rw [g6 h, step_sub la lb, p6 h]; exact ⟨tv_hval (by omega), fun _ => rfl⟩
            · rw [g7 h.1, step_mul la lb, p7 h.1]; exact ⟨tv_hval (by omega), fun _ => rfl⟩
            · have hz := h.2
              have f1 := hf hz
              have f2 := hfm hz
              rcases h.1 with h9 | h10
              · rw [g9 (.inr (.inl h9)) hz, h9, step_floor la hz, p9 h9]; exact ⟨tv_hval (by omega), fun _ => rfl⟩
              · rw [g9 (.inr (.inr h10)) hz, h10, step_mod la hz lb (by omega), p10 h10]; exact ⟨tv_hval (by omega), fun _ => rfl⟩
        have hg : ∀ ok', ok = ok' → f_law7_InlineNumbersMatchOperators.g5 (f_ref7_ValueOk.u k) (f_inline_Binary.u k) (f_law7_small.u k) (f_ref7_SameValue.u k) (f_ref7_Arithmetic.u k) (f_inline_Compare.u k) (f_ref7_Number.u k) (f_ref3_Ratio_Order.u k) (f_law7_half.u k) k op c a b v ok ok' = some true := fun ok' he => law8_g5 hk ta tb oa ob (by omega) (by omega) key.1 he h0 (fun h => ⟨r, hr, key.2 h⟩)
        rw [e, Option.bind_some, ha, hb, Option.bind_some, Option.bind_some, cond_true, cond_true, f_law7_half.spec ta ha, f_law7_half.spec tb hb, Option.bind_some, Option.bind_some, sm_pos tb ob hb]
        by_cases o5 : op = 5
        · rw [o5] at hok hg ⊢
          exact hg true hok
        by_cases o6 : op = 6
        · rw [o6] at hok hg ⊢
          exact hg true hok
        rw [show (op == 5) = false by simpa using o5, show (op == 6) = false by simpa using o6, cond_false, cond_false]
        rw [decide_eq_false o5, decide_eq_false o6, Bool.false_or, Bool.false_or] at hok
        by_cases o7 : op = 7
        · rw [o7] at hok hg ⊢
          rw [show ((7 : Int) == 7) = true from rfl, cond_true]
          rw [decide_eq_true (show (7 : Int) = 7 from rfl), Bool.true_and, show (decide ((7 : Int) = 9) || decide ((7 : Int) = 10)) = false from rfl, Bool.false_and, Bool.or_false] at hok
          revert hok
          cases decide ((zv a).2 < 2147483648) <;> cases decide ((zv b).2 < 2147483648) <;> exact fun hok => hg _ hok
        · rw [show (op == 7) = false by simpa using o7, cond_false]
          rw [decide_eq_false o7, Bool.false_and, Bool.false_or] at hok
          by_cases o9 : op = 9
          · rw [o9] at hok hg ⊢
            exact hg _ hok
          · by_cases o10 : op = 10
            · rw [o10] at hok hg ⊢
              exact hg _ hok
            · rw [decide_eq_false o9, decide_eq_false o10, Bool.or_self, Bool.false_and] at hok
              rw [show (op == 9) = false by simpa using o9, show (op == 10) = false by simpa using o10, cond_false, cond_false]
              exact hg _ hok
end Go.Ab
