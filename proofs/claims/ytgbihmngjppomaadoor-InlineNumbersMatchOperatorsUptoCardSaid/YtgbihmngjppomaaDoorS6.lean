/- What arithmetic answers; and that small integers give the same. -/
import Derived.Test.YtgbihmngjppomaaDoorS5
import Derived.Test.YtgbihmngjppomaaDoorGE4
namespace Go.Ab
set_option linter.unusedVariables false
set_option linter.unusedSimpArgs false
theorem qlow_pos {q : Qt} (h : q.2 ≠ 0) : (qlow q).2 ≠ 0 := by
  have h1 := Nat.gcd_le_right q.1.2 (show 0 < q.2 by omega)
  have h2 : 0 < Nat.gcd q.1.2 q.2 := Nat.gcd_pos_of_pos_right _ (by omega)
  exact Nat.ne_of_gt (Nat.div_pos h1 h2)
theorem qmul_lg {x y : Qt} {m n : Nat} (h1 : lg x.1.2 ≤ m) (h2 : lg y.1.2 ≤ n) : lg (qmul x y).1.2 ≤ m + n := Nat.le_trans (lg_div _ _) (zmul_lg h1 h2)
theorem qmul_lgd {x y : Qt} {m n : Nat} (h1 : lg x.2 ≤ m) (h2 : lg y.2 ≤ n) : lg (qmul x y).2 ≤ m + n := Nat.le_trans (lg_div _ _) (Nat.le_trans (lg_mul _ _) (by omega))
theorem qmul_pos {x y : Qt} (h1 : x.2 ≠ 0) (h2 : y.2 ≠ 0) : (qmul x y).2 ≠ 0 := qlow_pos (Nat.mul_ne_zero h1 h2)
theorem zfloor_lg {a b : Zt} {m : Nat} (h : lg a.2 ≤ m) (hm : 1 ≤ m) : lg (zfloor a b).1.2 ≤ m + 1 := by
  unfold zfloor
  have := lg_div a.2 b.2
  cases (a.1 != b.1 && decide (0 < a.2 % b.2)) with
  | true => rw [cond_true]; exact lg_add_le (by omega) (by rw [lg_one]; omega)
  | false => rw [cond_false]; dsimp only; omega
def turn (y : Qt) : Qt := ((y.1.1, y.2), y.1.2)
def qflo (x y : Qt) : Zt := (zfloor (qmul x (turn y)).1 (false, (qmul x (turn y)).2)).1
def arQ (op : Int) (x y : Qt) : X_Step :=
  bif op == 8 then qstep (qmul x (turn y)) else bif op == 9 then qstep (qflo x y, 1) else qstep (qsub x (qmul (qflo x y, 1) y))
theorem f_ref7_Arithmetic.g16_spec {k : Nat} (hk : BK k) {op : Int} {s : X_Step} {x y : Qt} (h1 : lg x.1.2 ≤ 256) (h2 : lg x.2 ≤ 256) (h3 : lg y.1.2 ≤ 256) (h4 : lg y.2 ≤ 256) (h5 : x.2 ≠ 0) (h6 : y.2 ≠ 0) (h7 : y.1.2 ≠ 0) :
    f_ref7_Arithmetic.g16 (f_ref7_IsNumber.u k) (f_ref7_Number.u k) (f_ref3_Ratio_Plus.u k) (f_ref7_number.u k) (f_ref3_Ratio_Less.u k) (f_ref3_Ratio_Times.u k) (f_ref7_Zero.u k) (f_ref7_Raise.u k) (f_ref3_Ratio_Turned.u k) (f_ref3_Ratio_Floor.u k) (f_ref3_Whole.u k) (f_ref7_I.u k) (f_ref7_power.u k) (f_ref7_bits.u k) k op s (er x) (er y) = some (arQ op x y, true) := by
  have hk2 := hk 5000000 (Nat.le_trans (lg_le (m := 2) (by omega)) (by omega))
  have m1 := qmul_lg (x := x) (y := turn y) h1 h4
  have m2 := qmul_lgd (x := x) (y := turn y) h2 h3
  have m3 : (qmul x (turn y)).2 ≠ 0 := qmul_pos h5 h7
  have m4 : lg (qflo x y).2 ≤ 513 := zfloor_lg (b := (false, (qmul x (turn y)).2)) m1 (by omega)
  have m5 : lg (qmul (qflo x y, 1) y).1.2 ≤ 513 + 256 := qmul_lg (x := (qflo x y, 1)) m4 h3
  have m6 : lg (qmul (qflo x y, 1) y).2 ≤ 1 + 256 := qmul_lgd (x := (qflo x y, 1)) (by rw [lg_one]; omega) h4
  have m7 : (qmul (qflo x y, 1) y).2 ≠ 0 := qmul_pos (x := (qflo x y, 1)) Nat.one_ne_zero h6
  rw [f_ref7_Arithmetic.g16, gate_pos (by omega), f_ref7_Arithmetic.b_g16, f_ref3_Ratio_Turned.spec, Option.bind_some, show er ((y.1.1, y.2), y.1.2) = er (turn y) from rfl, f_ref3_Ratio_Times.spec (x := x) (y := turn y) hk (by omega) (by omega) (by show lg y.2 ≤ _; omega) (by show lg y.1.2 ≤ _; omega) h5 h7, Option.bind_some,
    f_ref7_number.spec (by omega), Option.bind_some, f_ref3_Ratio_Floor.spec (by omega) (by omega) (by omega) m3, Option.bind_some, show (zfloor (qmul x (turn y)).1 (false, (qmul x (turn y)).2)).1 = qflo x y from rfl, f_ref3_Whole.spec (by omega), Option.bind_some, f_ref7_number.spec (by omega), Option.bind_some,
    f_ref3_Ratio_Times.spec (x := (qflo x y, 1)) hk (by dsimp only; omega) (by dsimp only; rw [lg_one]; omega) (by omega) (by omega) Nat.one_ne_zero h6, Option.bind_some, f_ref3_Ratio_Less.spec hk (by omega) (by omega) (by omega) (by omega) h5 m7, Option.bind_some, f_ref7_number.spec (by omega), Option.bind_some]
  unfold arQ
  cases (op == 8) <;> cases (op == 9) <;> rfl
theorem f_ref7_Arithmetic.spec {k : Nat} (hk : BK k) {op : Int} {v w : X_Value} (tv : TV v) (tw : TV w) (ov : VOk v) (ow : VOk w) :
    ∃ r, f_ref7_Arithmetic.u k (op, (v, w)) = some r ∧
      ((v.1 = 2 ∨ v.1 = 3) → (w.1 = 2 ∨ w.1 = 3) →
        (op = 5 → r.1 = qstep (qadd (qv v) (qv w))) ∧ (op = 6 → r.1 = qstep (qsub (qv v) (qv w))) ∧ (op = 7 → r.1 = qstep (qmul (qv v) (qv w))) ∧
        ((op = 8 ∨ op = 9 ∨ op = 10) → (qv w).1.2 ≠ 0 → r.1 = arQ op (qv v) (qv w))) := by
  have hk2 := hk 5000000 (Nat.le_trans (lg_le (m := 2) (by omega)) (by omega))
  show ∃ r, f_ref7_Arithmetic.f (f_ref7_IsNumber.u k) (f_ref7_Number.u k) (f_ref3_Ratio_Plus.u k) (f_ref7_number.u k) (f_ref3_Ratio_Less.u k) (f_ref3_Ratio_Times.u k) (f_ref7_Zero.u k) (f_ref7_Raise.u k) (f_ref3_Ratio_Turned.u k) (f_ref3_Ratio_Floor.u k) (f_ref3_Whole.u k) (f_ref7_I.u k) (f_ref7_power.u k) (f_ref7_bits.u k) k op v w = some r ∧ _
  rw [f_ref7_Arithmetic.f, f_ref7_Arithmetic.q, f_ref7_Arithmetic.c, f_ref7_IsNumber.spec, Option.bind_some, f_ref7_IsNumber.spec, Option.bind_some]
  by_cases hv : v.1 = 2 ∨ v.1 = 3
  · by_cases hw : w.1 = 2 ∨ w.1 = 3
    · have nv := nv_of tv ov hv
      have nw := nv_of tw ow hw
      have lv : v.2.1.2.length ≤ 128 := by rcases hv with h | h; exact intB_len (ov.int h); exact intB_len (ov.ratN h)
      have lw : w.2.1.2.length ≤ 128 := by rcases hw with h | h; exact intB_len (ow.int h); exact intB_len (ow.ratN h)
      have a1 : lg (qv v).1.2 ≤ 256 := by rw [qv_num]; exact nv.num
      have a2 := nv.den
      have a3 : lg (qv w).1.2 ≤ 256 := by rw [qv_num]; exact nw.num
      have a4 := nw.den
      have eN : ∀ {x : X_Value}, TV x → VOk x → (x.1 = 2 ∨ x.1 = 3) → f_ref7_Number.u k x = some (er (qv x)) := by
        intro x tx ox hx
        have lx : x.2.1.2.length ≤ 128 := by rcases hx with h | h; exact intB_len (ox.int h); exact intB_len (ox.ratN h)
        rcases hx with h | h
        · show f_ref7_Number.f (f_ref3_RatioOf.u k) (f_ref3_IntOf.u k) (f_ref3_Whole.u k) k x = _
          rw [f_ref7_Number.f, f_ref7_Number.b, h, show ((2 : Int) == 3) = false from rfl, cond_false, show x.2.1 = (x.2.1.1, x.2.1.2) from rfl, f_ref3_IntOf.spec tx.num (by omega) (by omega), Option.bind_some, f_ref3_Whole.spec (by omega), Option.bind_some]
          unfold qv
          rw [h]
          rfl
        · exact f_ref7_Number.spec (by omega) tx (by omega) (Nat.le_trans (intB_len (ox.ratD h)) (by omega))
      have e1 : (decide (v.1 = 2) || decide (v.1 = 3)) = true := by simpa using hv
      have e2 : (decide (w.1 = 2) || decide (w.1 = 3)) = true := by simpa using hw
      rw [e1, e2, Bool.not_true, cond_false, cond_false, eN tv ov hv, Option.bind_some, eN tw ow hw, Option.bind_some,
        f_ref3_Ratio_Plus.spec hk (by omega) (by omega) (by omega) (by omega) nv.pos nw.pos, Option.bind_some, f_ref7_number.spec (by omega), Option.bind_some,
        f_ref3_Ratio_Less.spec hk (by omega) (by omega) (by omega) (by omega) nv.pos nw.pos, Option.bind_some, f_ref7_number.spec (by omega), Option.bind_some,
        f_ref3_Ratio_Times.spec hk (by omega) (by omega) (by omega) (by omega) nv.pos nw.pos, Option.bind_some, f_ref7_number.spec (by omega), Option.bind_some,
        show (er (qv w)).1 = en (qv w).1 from rfl, f_ref7_Zero.spec, f_ref7_Raise.spec]
      simp only [Option.bind_some]
      have T26 : ∀ s, w.1 = 2 → Tot (f_ref7_Arithmetic.g26 (f_ref7_IsNumber.u k) (f_ref7_Number.u k) (f_ref3_Ratio_Plus.u k) (f_ref7_number.u k) (f_ref3_Ratio_Less.u k) (f_ref3_Ratio_Times.u k) (f_ref7_Zero.u k) (f_ref7_Raise.u k) (f_ref3_Ratio_Turned.u k) (f_ref3_Ratio_Floor.u k) (f_ref3_Whole.u k) (f_ref7_I.u k) (f_ref7_power.u k) (f_ref7_bits.u k) k w s (er (qv v))) := by
        intro s h
        have b1 : lg (w.2.1.1, v32 w.2.1.2).2 ≤ 1000 := Nat.le_trans nw.num (by omega)
        rw [f_ref7_Arithmetic.g26, gate_pos (by omega), f_ref7_Arithmetic.b_g26, f_ref7_I.spec (by omega) tw (by omega), Option.bind_some]
        exact tot_bind (f_ref7_power.tot (by omega) (by omega) (by omega) b1) fun _ _ => tot_some _
      have T27 : ∀ s, Tot (f_ref7_Arithmetic.g27 (f_ref7_IsNumber.u k) (f_ref7_Number.u k) (f_ref3_Ratio_Plus.u k) (f_ref7_number.u k) (f_ref3_Ratio_Less.u k) (f_ref3_Ratio_Times.u k) (f_ref7_Zero.u k) (f_ref7_Raise.u k) (f_ref3_Ratio_Turned.u k) (f_ref3_Ratio_Floor.u k) (f_ref3_Whole.u k) (f_ref7_I.u k) (f_ref7_power.u k) (f_ref7_bits.u k) k op v w s) := by
        intro s
        have b1 : lg (w.2.1.1, v32 w.2.1.2).2 ≤ 1000 := Nat.le_trans nw.num (by omega)
        have b2 : lg (v.2.1.1, v32 v.2.1.2).2 ≤ 1000 := Nat.le_trans nv.num (by omega)
        rw [f_ref7_Arithmetic.g27, gate_pos (by omega), f_ref7_Arithmetic.q_g27, f_ref7_Arithmetic.c_g27, f_ref7_I.spec (by omega) tv (by omega), Option.bind_some, f_ref7_I.spec (by omega) tw (by omega), Option.bind_some]
        exact tot_cond (tot_some _) (tot_cond (tot_some _) (tot_bind (f_ref7_bits.tot (by omega) b2 b1) fun _ _ => tot_some _))
      by_cases o5 : op = 5
      · subst o5
        exact ⟨_, rfl, fun _ _ => ⟨fun _ => rfl, (fun h => by cases h), (fun h => by cases h), (fun h => by omega)⟩⟩
      by_cases o6 : op = 6
      · subst o6
        exact ⟨_, rfl, fun _ _ => ⟨(fun h => by cases h), fun _ => rfl, (fun h => by cases h), (fun h => by omega)⟩⟩
      by_cases o7 : op = 7
      · subst o7
        exact ⟨_, rfl, fun _ _ => ⟨(fun h => by cases h), (fun h => by cases h), fun _ => rfl, (fun h => by omega)⟩⟩
      rw [show (op == 5) = false by simpa using o5, show (op == 6) = false by simpa using o6, show (op == 7) = false by simpa using o7, cond_false, cond_false, cond_false]
      by_cases z : (qv w).1.2 = 0
      · rw [decide_eq_true z, cond_true]
        have T : Tot (bif (op == 11) then bif w.1 != 2 then some ((0, (zV, (0, ([], (zV, []))))), false) else f_ref7_Arithmetic.g26 (f_ref7_IsNumber.u k) (f_ref7_Number.u k) (f_ref3_Ratio_Plus.u k) (f_ref7_number.u k) (f_ref3_Ratio_Less.u k) (f_ref3_Ratio_Times.u k) (f_ref7_Zero.u k) (f_ref7_Raise.u k) (f_ref3_Ratio_Turned.u k) (f_ref3_Ratio_Floor.u k) (f_ref3_Whole.u k) (f_ref7_I.u k) (f_ref7_power.u k) (f_ref7_bits.u k) k w (0, (zV, (0, ([], (zV, []))))) (er (qv v)) else f_ref7_Arithmetic.g27 (f_ref7_IsNumber.u k) (f_ref7_Number.u k) (f_ref3_Ratio_Plus.u k) (f_ref7_number.u k) (f_ref3_Ratio_Less.u k) (f_ref3_Ratio_Times.u k) (f_ref7_Zero.u k) (f_ref7_Raise.u k) (f_ref3_Ratio_Turned.u k) (f_ref3_Ratio_Floor.u k) (f_ref3_Whole.u k) (f_ref7_I.u k) (f_ref7_power.u k) (f_ref7_bits.u k) k op v w (0, (zV, (0, ([], (zV, [])))))) := by
          refine tot_cond ?_ (T27 _)
          by_cases hw2 : w.1 = 2
          · rw [hw2]; exact T26 _ hw2
          · rw [show (w.1 != 2) = true by simpa using hw2]; exact tot_some _
        have T2 : ∀ {x : Option (X_Step × Bool)}, Tot x → ∃ r, x = some r ∧ ((v.1 = 2 ∨ v.1 = 3) → (w.1 = 2 ∨ w.1 = 3) →
        (op = 5 → r.1 = qstep (qadd (qv v) (qv w))) ∧ (op = 6 → r.1 = qstep (qsub (qv v) (qv w))) ∧ (op = 7 → r.1 = qstep (qmul (qv v) (qv w))) ∧
        ((op = 8 ∨ op = 9 ∨ op = 10) → (qv w).1.2 ≠ 0 → r.1 = arQ op (qv v) (qv w))) := fun ⟨y, e⟩ => ⟨y, e, fun _ _ => ⟨fun h => absurd h o5, fun h => absurd h o6, fun h => absurd h o7, fun _ h => absurd z h⟩⟩
        refine T2 ?_
        exact tot_cond (tot_cond (tot_some _) T) (tot_cond (tot_cond (tot_some _) T) (tot_cond (tot_some _) T))
      · rw [decide_eq_false z, cond_false, f_ref7_Arithmetic.g16_spec hk (by omega) (by omega) (by omega) (by omega) nv.pos nw.pos z]
        by_cases o8 : op = 8 ∨ op = 9 ∨ op = 10
        · refine ⟨(arQ op (qv v) (qv w), true), ?_, fun _ _ => ⟨fun h => absurd h o5, fun h => absurd h o6, fun h => absurd h o7, fun _ _ => rfl⟩⟩
          rcases o8 with rfl | rfl | rfl <;> rfl
        · rw [show (op == 8) = false by simp; omega, show (op == 9) = false by simp; omega, show (op == 10) = false by simp; omega, cond_false, cond_false, cond_false]
          have T : Tot (bif (op == 11) then bif w.1 != 2 then some ((0, (zV, (0, ([], (zV, []))))), false) else f_ref7_Arithmetic.g26 (f_ref7_IsNumber.u k) (f_ref7_Number.u k) (f_ref3_Ratio_Plus.u k) (f_ref7_number.u k) (f_ref3_Ratio_Less.u k) (f_ref3_Ratio_Times.u k) (f_ref7_Zero.u k) (f_ref7_Raise.u k) (f_ref3_Ratio_Turned.u k) (f_ref3_Ratio_Floor.u k) (f_ref3_Whole.u k) (f_ref7_I.u k) (f_ref7_power.u k) (f_ref7_bits.u k) k w (0, (zV, (0, ([], (zV, []))))) (er (qv v)) else f_ref7_Arithmetic.g27 (f_ref7_IsNumber.u k) (f_ref7_Number.u k) (f_ref3_Ratio_Plus.u k) (f_ref7_number.u k) (f_ref3_Ratio_Less.u k) (f_ref3_Ratio_Times.u k) (f_ref7_Zero.u k) (f_ref7_Raise.u k) (f_ref3_Ratio_Turned.u k) (f_ref3_Ratio_Floor.u k) (f_ref3_Whole.u k) (f_ref7_I.u k) (f_ref7_power.u k) (f_ref7_bits.u k) k op v w (0, (zV, (0, ([], (zV, [])))))) := by
            refine tot_cond ?_ (T27 _)
            by_cases hw2 : w.1 = 2
            · rw [hw2]; exact T26 _ hw2
            · rw [show (w.1 != 2) = true by simpa using hw2]; exact tot_some _
          obtain ⟨y, e⟩ := T
          exact ⟨y, e, fun _ _ => ⟨fun h => absurd h o5, fun h => absurd h o6, fun h => absurd h o7, fun h => absurd h o8⟩⟩
    · have e1 : (decide (v.1 = 2) || decide (v.1 = 3)) = true := by simpa using hv
      have e2 : (decide (w.1 = 2) || decide (w.1 = 3)) = false := by
        rw [decide_eq_false (by omega), decide_eq_false (by omega)]; rfl
      rw [e1, e2]
      exact ⟨_, rfl, fun _ h => absurd h hw⟩
  · have e1 : (decide (v.1 = 2) || decide (v.1 = 3)) = false := by
      rw [decide_eq_false (by omega), decide_eq_false (by omega)]; rfl
    rw [e1]
    exact ⟨_, rfl, fun h => absurd h hv⟩
/-! ### of whole numbers -/
theorem qlow_one (z : Zt) : qlow (z, 1) = (z, 1) := by
  unfold qlow
  dsimp only
  rw [Nat.gcd_one_right, Nat.div_one, Nat.div_one]
theorem qstep_one {z : Zt} (h : lg z.2 ≤ 256) : qstep (z, 1) = resu (hval (zint z)) := by
  unfold qstep qfits qval
  rw [decide_eq_true h, decide_eq_true (by dsimp only; rw [lg_one]; omega), Bool.and_self, cond_true, decide_eq_true rfl, cond_true, zval_eq]
theorem zint_one (z : Zt) : zint (zmul z (false, 1)) = zint z := by
  rw [zint_mul]
  show zint z * ((1 : Nat) : Int) = _
  omega
theorem lg_small {n : Nat} (h : n < 65536 ^ 8) : lg n ≤ 256 := Nat.le_trans (lg_le h) (by omega)
theorem step_add {x y : Zt} (hx : x.2 < 4294967296) (hy : y.2 < 4294967296) : qstep (qadd (x, 1) (y, 1)) = resu (hval (zint x + zint y)) := by
  unfold qadd
  dsimp only
  have e := zint_add (zmul x (false, 1)) (zmul y (false, 1))
  rw [zint_one, zint_one] at e
  have a := zint_abs (zadd (zmul x (false, 1)) (zmul y (false, 1)))
  have ax := zint_abs x
  have ay := zint_abs y
  rw [Nat.mul_one, qlow_one, qstep_one (lg_small (by omega)), e]
theorem step_sub {x y : Zt} (hx : x.2 < 4294967296) (hy : y.2 < 4294967296) : qstep (qsub (x, 1) (y, 1)) = resu (hval (zint x - zint y)) := by
  unfold qsub
  dsimp only
  rw [step_add hx (show (zneg y).2 < _ from hy), zint_neg, Int.sub_eq_add_neg]
theorem step_mul {x y : Zt} (hx : x.2 < 4294967296) (hy : y.2 < 4294967296) : qstep (qmul (x, 1) (y, 1)) = resu (hval (zint x * zint y)) := by
  unfold qmul
  dsimp only
  have h : x.2 * y.2 < 4294967296 * 4294967296 := Nat.mul_lt_mul'' hx hy
  rw [Nat.mul_one, qlow_one, qstep_one (lg_small (show x.2 * y.2 < _ by omega)), zint_mul]
/-- the quotient, rounded down, by magnitudes -/
def flo (x y : Zt) : Int := if x.1 = y.1 then ((x.2 / y.2 : Nat) : Int) else if x.2 % y.2 = 0 then -((x.2 / y.2 : Nat) : Int) else -((x.2 / y.2 : Nat) : Int) - 1
theorem gcd_parts (m n : Nat) (h : n ≠ 0) : ∃ g a b, 0 < g ∧ m = g * a ∧ n = g * b ∧ m / Nat.gcd m n = a ∧ n / Nat.gcd m n = b :=
  ⟨Nat.gcd m n, m / Nat.gcd m n, n / Nat.gcd m n, Nat.gcd_pos_of_pos_right _ (by omega), (Nat.mul_div_cancel' (Nat.gcd_dvd_left m n)).symm, (Nat.mul_div_cancel' (Nat.gcd_dvd_right m n)).symm, rfl, rfl⟩
theorem qflo_eq {x y : Zt} (hy : y.2 ≠ 0) : zint (qflo (x, 1) (y, 1)) = flo x y ∧ (qflo (x, 1) (y, 1)).2 ≤ x.2 + 1 := by
  obtain ⟨s, m⟩ := x
  obtain ⟨t, n⟩ := y
  dsimp only at hy
  obtain ⟨g, a, b, hg, hm, hn, ha, hb⟩ := gcd_parts m n hy
  have e1 : qmul ((s, m), 1) (turn ((t, n), 1)) = (((s != t) && decide (0 < m), a), b) := by
    unfold qmul turn zmul qlow
    dsimp only
    rw [Nat.mul_one, Nat.one_mul, ha, hb]
  have q1 : a / b = m / n := by rw [hm, hn, Nat.mul_div_mul_left _ _ hg]
  have q2 : m % n = g * (a % b) := by rw [hm, hn, Nat.mul_mod_mul_left]
  have q3 : m / n ≤ m := Nat.div_le_self m n
  have q4 : m = 0 → m / n = 0 := fun h => by rw [h, Nat.zero_div]
  unfold qflo flo
  rw [e1]
  unfold zfloor zint
  dsimp only
  by_cases h0 : m = 0
  · have := q4 h0
    have a0 : a = 0 := by
      rcases Nat.eq_zero_or_pos a with h | h
      · exact h
      · have := Nat.mul_pos hg h; omega
    subst h0
    cases s <;> cases t <;> simp [a0, q1]
  · by_cases hr : a % b = 0
    · have : m % n = 0 := by rw [q2, hr, Nat.mul_zero]
      cases s <;> cases t <;> simp [show 0 < m by omega, hr, this, q1] <;> omega
    · have : m % n ≠ 0 := by rw [q2]; exact Nat.mul_ne_zero (by omega) hr
      cases s <;> cases t <;> simp [show 0 < m by omega, show 0 < a % b by omega, this, q1] <;> omega
theorem step_floor {x y : Zt} (hx : x.2 < 4294967296) (hy : y.2 ≠ 0) : arQ 9 (x, 1) (y, 1) = resu (hval (flo x y)) := by
  obtain ⟨h1, h2⟩ := qflo_eq (x := x) hy
  show qstep (qflo (x, 1) (y, 1), 1) = _
  rw [qstep_one (lg_small (by omega)), h1]
theorem step_mod {x y : Zt} (hx : x.2 < 4294967296) (hy : y.2 ≠ 0) (hy2 : y.2 < 4294967296) (hb : (flo x y * zint y).natAbs < 18446744073709551616 * 4294967296) : arQ 10 (x, 1) (y, 1) = resu (hval (zint x - flo x y * zint y)) := by
  obtain ⟨h1, h2⟩ := qflo_eq (x := x) hy
  show qstep (qsub (x, 1) (qmul (qflo (x, 1) (y, 1), 1) (y, 1))) = _
  have e : qmul (qflo (x, 1) (y, 1), 1) (y, 1) = (zmul (qflo (x, 1) (y, 1)) y, 1) := by
    unfold qmul
    dsimp only
    rw [Nat.mul_one, qlow_one]
  have e2 := zint_mul (qflo (x, 1) (y, 1)) y
  rw [h1] at e2
  have e3 := zint_abs (zmul (qflo (x, 1) (y, 1)) y)
  rw [e]
  unfold qsub qadd
  dsimp only
  have e5 := zint_add (zmul x (false, 1)) (zmul (zneg (zmul (qflo (x, 1) (y, 1)) y)) (false, 1))
  rw [zint_one, zint_one, zint_neg, e2] at e5
  have e6 := zint_abs (zadd (zmul x (false, 1)) (zmul (zneg (zmul (qflo (x, 1) (y, 1)) y)) (false, 1)))
  have e7 := zint_abs x
  rw [Nat.mul_one, qlow_one, qstep_one (lg_small (by omega)), e5, Int.sub_eq_add_neg]
end Go.Ab
