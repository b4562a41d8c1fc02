/- Whole numbers and ratios of the reference, and the steps made of them. -/
import Derived.Test.YtdekjkgfohlmgaaGreatDoorN1
import Derived.Test.YtdekjkgfohlmgaaGreatDoorA2
namespace Go.Ab
set_option linter.unusedVariables false
set_option linter.unusedSimpArgs false
theorem v32_dl : ∀ n, v32 (dl n) = n := by
  intro n
  induction n using Nat.strongRecOn with
  | _ n ih =>
    by_cases h : n = 0
    · subst h; rw [dl_zero]; rfl
    · rw [dl_pos h, v32, ih _ (Nat.div_lt_self (by omega) (by omega))]
      omega
def zadd (a b : Zt) : Zt := bif a.1 == b.1 then (a.1, a.2 + b.2) else bif decide (b.2 ≤ a.2) then (a.1, a.2 - b.2) else (b.1, b.2 - a.2)
theorem F44.spec {k : Nat} {a b : Zt} (hk : 500000 < k) (ha : lg a.2 ≤ 100000) (hb : lg b.2 ≤ 100000) : F44.u k (en a, en b) = some (en (zadd a b)) := by
  show F44.f _ _ _ k _ _ = _
  rw [F44.f, F44.b]
  simp only [en]
  unfold zadd
  cases h : (a.1 == b.1) with
  | true => rw [cond_true, cond_true, F92.spec ha hb (by omega)]; rfl
  | false =>
    rw [cond_false, cond_false, F93.spec (by omega) (by omega), Option.bind_some, cmp_ge]
    by_cases hle : b.2 ≤ a.2
    · rw [decide_eq_true hle, cond_true, cond_true, F94.spec ha hle (by omega)]; rfl
    · rw [decide_eq_false hle, cond_false, cond_false, F94.spec hb (by omega) (by omega)]; rfl
def zneg (a : Zt) : Zt := (!a.1 && decide (0 < a.2), a.2)
theorem F41.spec {k : Nat} {a : Zt} : F41.u k (en a) = some (en (zneg a)) := by
  show F41.f k _ = _
  rw [F41.f, F41.b]
  show (bif !a.1 then some (decide (((dg a.2).length : Int) > 0), dg a.2) else some (false, dg a.2)) = some (en (zneg a))
  rw [len_pos]
  unfold zneg
  cases a.1 <;> rfl
abbrev Qt := Zt × Nat
def er (q : Qt) : X_Int × List Int := (en q.1, dg q.2)
theorem F88.spec {k : Nat} {z : Zt} (hk : 1 < k) : F88.u k (en z) = some (er (z, 1)) := by
  show F88.f _ k _ = _
  rw [F88.f, F88.b, F132.one hk]
  rfl
theorem F89.spec {k : Nat} {b : Bool} {l : List Int} (hl : Lim l) (hb : l.length ≤ 1000000) (hk : 2 * l.length < k) : F89.u k (b, l) = some (en (b, v32 l)) := by
  show F89.f _ k _ = _
  rw [F89.f, F89.b, F131.spec hl hb hk]
  rfl
theorem F87.spec {k : Nat} {x : X_Int × X_Int} (hl : Lim x.1.2) (hb : x.1.2.length ≤ 1000000) (hl2 : Lim x.2.2) (hb2 : x.2.2.length ≤ 1000000) (hk : 2000000 < k) : F87.u k x = some (er ((x.1.1, v32 x.1.2), v32 x.2.2)) := by
  show F87.f _ _ k _ = _
  rw [F87.f, F87.b, show x.1 = (x.1.1, x.1.2) from rfl, F89.spec hl hb (by omega), Option.bind_some, F131.spec hl2 hb2 (by omega)]
  rfl
theorem le_cast (a b : Nat) : decide ((a : Int) ≤ (b : Int)) = decide (a ≤ b) := by
  by_cases h : a ≤ b
  · rw [decide_eq_true h, decide_eq_true (by omega)]
  · rw [decide_eq_false h, decide_eq_false (by omega)]
def qfits (q : Qt) : Bool := decide (lg q.1.2 ≤ 256) && decide (lg q.2 ≤ 256)
theorem F167.spec {k : Nat} {z : Zt} : F167.u k (en z, 128) = some (decide (lg z.2 ≤ 256)) := by
  show F167.f k _ _ = _
  rw [F167.f, F167.b, wrapI (by omega) (by omega)]
  exact congrArg some (le_cast (lg z.2) 256)
theorem F133.spec {k : Nat} {q : Qt} : F133.u k (er q) = some (qfits q) := by
  show F133.f _ k _ = _
  rw [F133.f, F133.b, show (er q).1 = en q.1 from rfl, F167.spec, Option.bind_some]
  unfold qfits
  cases decide (lg q.1.2 ≤ 256)
  · rfl
  · rw [cond_true, Bool.true_and]
    exact congrArg some (le_cast (lg q.2) 256)
def qval (q : Qt) : X_Value := bif decide (q.2 = 1) then zval q.1 else (3, ((zval q.1).2.1, ((false, dl q.2), ([], 0))))
theorem cmp_zero {a b : Nat} : (cmp a b == 0) = decide (a = b) := by
  unfold cmp
  split
  · rw [decide_eq_false (by omega)]; rfl
  · split
    · rw [decide_eq_false (by omega)]; rfl
    · rw [decide_eq_true (by omega)]; rfl
theorem F90.spec {k : Nat} {q : Qt} (hk : 2000000 < k) : F90.u k (er q) = some (bif qfits q then (qval q, true) else ((0, ((false, []), ((false, []), ([], 0)))), false)) := by
  show F90.f _ _ _ _ _ k _ = _
  rw [F90.f, F90.b, F133.spec, Option.bind_some]
  cases h : qfits q with
  | false => rfl
  | true =>
    unfold qfits at h
    rw [Bool.and_eq_true, decide_eq_true_eq, decide_eq_true_eq] at h
    rw [Bool.not_true, cond_false, show (er q).1 = en q.1 from rfl, F134.spec (by omega) (by omega), Option.bind_some, F132.one (by omega), Option.bind_some, show (er q).2 = dg q.2 from rfl, F93.spec (by omega) (by omega), Option.bind_some, F135.spec (by omega) (by omega), Option.bind_some, bne, cmp_zero, cond_true]
    unfold qval
    cases decide (q.2 = 1) <;> rfl
def tooLarge : X_Step := rais 42 [118, 97, 108, 117, 101, 32, 105, 115, 32, 116, 111, 111, 32, 108, 97, 114, 103, 101]
theorem F46.spec {k : Nat} {c : Int} {t : List UInt8} : F46.u k (c, t) = some (rais c t) := by
  show F46.f k _ _ = _
  rw [F46.f, F46.b]
  rfl
theorem F91.spec {k : Nat} : F91.u k () = some tooLarge := by
  show F91.f _ k = _
  rw [F91.f, F91.b, F46.spec]
  rfl
theorem F38.spec {k : Nat} {v : X_Value} : F38.u k v = some (resu v) := by
  show F38.f k _ = _
  rw [F38.f, F38.b]
  rfl
def qstep (q : Qt) : X_Step := bif qfits q then resu (qval q) else tooLarge
theorem F40.spec {k : Nat} {q : Qt} (hk : 2000000 < k) : F40.u k (er q) = some (qstep q) := by
  show F40.f _ _ _ k _ = _
  rw [F40.f, F40.b, F90.spec hk, Option.bind_some]
  unfold qstep
  cases qfits q with
  | false => rw [cond_false, cond_false, Bool.not_false, cond_true, F91.spec]; rfl
  | true => rw [cond_true, cond_true, Bool.not_true, cond_false, F38.spec]; rfl
theorem F42.spec {k : Nat} {z : Zt} (hk : 2000000 < k) : F42.u k (en z) = some (qstep (z, 1)) := by
  show F42.f _ _ k _ = _
  rw [F42.f, F42.b, F88.spec (by omega), Option.bind_some, F40.spec hk]
  rfl
theorem F37.spec {k : Nat} {v : X_Value} : F37.u k v = some (decide (v.1 = 2) || decide (v.1 = 3)) := by
  show F37.f k v = _
  rw [F37.f, F37.b]
  by_cases h : v.1 = 2
  · rw [h]; rfl
  · rw [show (v.1 == 2) = false by simpa using h, cond_false, decide_eq_false h, Bool.false_or]
    congr 1
/-- the number of a value -/
def qv (v : X_Value) : Qt := bif decide (v.1 = 3) then ((v.2.1.1, v32 v.2.1.2), v32 v.2.2.1.2) else ((v.2.1.1, v32 v.2.1.2), 1)
/-- what is asked of a number's value -/
structure NV (v : X_Value) : Prop where
  num : lg (v32 v.2.1.2) ≤ 256
  den : lg (qv v).2 ≤ 256
  pos : (qv v).2 ≠ 0
theorem F39.spec {k : Nat} (hk : 5000000 < k) {v : X_Value} (ht : TV v) (hl : v.2.1.2.length ≤ 1000000) (hl2 : v.2.2.1.2.length ≤ 1000000) : F39.u k v = some (er (qv v)) := by
  show F39.f (F87.u k) (F89.u k) (F88.u k) k v = _
  rw [F39.f, F39.b, F87.spec (x := (v.2.1, v.2.2.1)) ht.num hl ht.den hl2 (by omega), Option.bind_some, show v.2.1 = (v.2.1.1, v.2.1.2) from rfl, F89.spec ht.num hl (by omega), Option.bind_some, F88.spec (by omega), Option.bind_some]
  unfold qv
  by_cases h : v.1 = 3
  · rw [h]; rfl
  · rw [show (v.1 == 3) = false by simpa using h, decide_eq_false h]; rfl
theorem F43.spec {k : Nat} (hk : 5000000 < k) {v : X_Value} (ht : TV v) (hl : v.2.1.2.length ≤ 1000000) : F43.u k v = some (en (v.2.1.1, v32 v.2.1.2)) := by
  show F43.f (F89.u k) k v = _
  rw [F43.f, F43.b, show v.2.1 = (v.2.1.1, v.2.1.2) from rfl, F89.spec ht.num hl (by omega)]
  rfl
theorem qstep_one {z : Zt} (h : lg z.2 ≤ 256) : qstep (z, 1) = resu (hval (zint z)) := by
  unfold qstep qfits qval
  rw [decide_eq_true h, decide_eq_true (by dsimp only; rw [lg_one]; omega), Bool.and_self, cond_true, decide_eq_true rfl, cond_true, zval_eq]
end Go.Ab
