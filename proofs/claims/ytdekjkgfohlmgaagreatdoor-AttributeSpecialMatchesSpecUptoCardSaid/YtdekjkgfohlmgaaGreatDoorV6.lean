/- What parts and keys of values answer. -/
import Derived.Test.YtdekjkgfohlmgaaGreatDoorV5
namespace Go.Ab
set_option linter.unusedVariables false
set_option linter.unusedSimpArgs false
/-! ### parts -/
def bad (h : X_Heap) (x : X_Value) : Bool := x.1 == 9 || ((objV h x).1 == 2 || ((objV h x).1 == 3 || ((objV h x).1 == 4 || (objV h x).1 == 5)))
def tup (h : X_Heap) (x : X_Value) : Bool := (objV h x).1 == 1
def its (h : X_Heap) (x : X_Value) : List X_Value := (objV h x).2.2.2.2.2.2.1
/-- what is left of so many parts behind some values; none: they have more, or one that is no key -/
def pt (h : X_Heap) : Nat → List X_Value → Option Nat
  | b, [] => some b
  | 0, _ :: _ => none
  | b + 1, x :: l => bif bad h x then none else bif tup h x then pt h b (its h x ++ l) else pt h b l
termination_by b _ => b
theorem pt_nil (h : X_Heap) (b : Nat) : pt h b [] = some b := by cases b <;> simp [pt]
theorem pt_zero (h : X_Heap) (x : X_Value) (l : List X_Value) : pt h 0 (x :: l) = none := by simp [pt]
theorem pt_succ (h : X_Heap) (b : Nat) (x : X_Value) (l : List X_Value) : pt h (b + 1) (x :: l) = bif bad h x then none else bif tup h x then pt h b (its h x ++ l) else pt h b l := by
  rw [pt]
theorem pt_long {h : X_Heap} : ∀ {b : Nat} {l : List X_Value}, b < l.length → pt h b l = none := by
  intro b
  induction b with
  | zero =>
    intro l hl
    cases l with
    | nil => simp at hl
    | cons x l => exact pt_zero h x l
  | succ b ih =>
    intro l hl
    cases l with
    | nil => simp at hl
    | cons x l =>
      simp at hl
      rw [pt_succ]
      cases bad h x with
      | true => rfl
      | false =>
        rw [cond_false]
        cases tup h x with
        | true => rw [cond_true]; exact ih (by rw [List.length_append]; omega)
        | false => rw [cond_false]; exact ih hl
theorem pt_append {h : X_Heap} : ∀ {b : Nat} {l m : List X_Value}, pt h b (l ++ m) = (pt h b l).bind fun r => pt h r m := by
  intro b
  induction b with
  | zero =>
    intro l m
    cases l with
    | nil => rw [pt_nil]; rfl
    | cons x l => rw [List.cons_append, pt_zero, pt_zero]; rfl
  | succ b ih =>
    intro l m
    cases l with
    | nil => rw [pt_nil]; rfl
    | cons x l =>
      rw [List.cons_append, pt_succ, pt_succ]
      cases bad h x with
      | true => rfl
      | false =>
        rw [cond_false, cond_false]
        cases tup h x with
        | true => rw [cond_true, cond_true, ← List.append_assoc, ih]
        | false => rw [cond_false, cond_false, ih]
theorem pt_le {h : X_Heap} : ∀ {b r : Nat} {l : List X_Value}, pt h b l = some r → r + l.length ≤ b := by
  intro b r l hp
  rcases Nat.lt_or_ge b l.length with h1 | h1
  · rw [pt_long h1] at hp; cases hp
  · induction b generalizing l with
    | zero =>
      obtain rfl := List.length_eq_zero_iff.1 (show l.length = 0 by omega)
      rw [pt_nil] at hp
      cases hp
      exact Nat.le_refl _
    | succ b ih =>
      cases l with
      | nil => rw [pt_nil] at hp; cases hp; exact Nat.le_refl _
      | cons x l =>
        rw [pt_succ] at hp
        cases hb : bad h x with
        | true => rw [hb] at hp; cases hp
        | false =>
          rw [hb, cond_false] at hp
          cases ht : tup h x with
          | true =>
            rw [ht, cond_true] at hp
            rcases Nat.lt_or_ge b (its h x ++ l).length with h2 | h2
            · rw [pt_long h2] at hp; cases hp
            · have := ih hp h2
              rw [List.length_append] at this
              simp; omega
          | false =>
            rw [ht, cond_false] at hp
            rcases Nat.lt_or_ge b l.length with h2 | h2
            · rw [pt_long h2] at hp; cases hp
            · have := ih hp h2
              simp; omega
theorem pt_mono {h : X_Heap} (c : Nat) : ∀ {b r : Nat} {l : List X_Value}, pt h b l = some r → pt h (b + c) l = some (r + c) := by
  intro b
  induction b with
  | zero =>
    intro r l hp
    cases l with
    | nil => rw [pt_nil] at hp; cases hp; exact pt_nil _ _
    | cons x l => rw [pt_zero] at hp; cases hp
  | succ b ih =>
    intro r l hp
    cases l with
    | nil => rw [pt_nil] at hp; cases hp; exact pt_nil _ _
    | cons x l =>
      rw [pt_succ] at hp
      rw [show b + 1 + c = (b + c) + 1 by omega, pt_succ]
      cases hb : bad h x with
      | true => rw [hb] at hp; cases hp
      | false =>
        rw [hb, cond_false] at hp
        rw [cond_false]
        cases ht : tup h x with
        | true => rw [ht, cond_true] at hp; rw [cond_true]; exact ih hp
        | false => rw [ht, cond_false] at hp; rw [cond_false]; exact ih hp
/-- a part of what has few parts has few -/
theorem pt_mem {h : X_Heap} {b r : Nat} {l : List X_Value} (hp : pt h b l = some r) {x : X_Value} (hx : x ∈ l) : (pt h b [x]).isSome = true := by
  obtain ⟨s, t, rfl⟩ := List.append_of_mem hx
  rw [pt_append] at hp
  cases h1 : pt h b s with
  | none => rw [h1] at hp; cases hp
  | some r1 =>
    rw [h1, Option.bind_some, show x :: t = [x] ++ t from rfl, pt_append] at hp
    cases h2 : pt h r1 [x] with
    | none => rw [h2] at hp; cases hp
    | some r2 =>
      have hle := pt_le h1
      have := pt_mono (b - r1) h2
      rw [show r1 + (b - r1) = b by omega] at this
      rw [this]; rfl
theorem TH.its {h : X_Heap} (t : TH h) (x : X_Value) : (its h x).length ≤ 2000000 ∧ ∀ v ∈ its h x, TV v := ⟨(t.objV x).items, (t.objV x).itemV⟩
theorem F156.step {k n : Nat} {h : X_Heap} (t : TH h) {out l : List X_Value} {x : X_Value} (ho : out.length ≤ 1000) (hl : l.length ≤ 2000000) :
    F156.l0 (F54.u k) (F78.u k) k (n + 1) 1000 h out (x :: l) = bif bad h x then some (out ++ [x], false) else bif tup h x then F156.l0 (F54.u k) (F78.u k) k n 1000 h (out ++ [x]) ((its h x).take 1001 ++ l) else F156.l0 (F54.u k) (F78.u k) k n 1000 h (out ++ [x]) l := by
  have hi := (t.its x).1
  have hlen : ((x :: l).length : Int) = (l.length : Int) + 1 := by simp
  rw [F156.l0, F156.q_l0, F156.c_l0, hlen, decide_eq_true (by omega), cond_true, decide_eq_true (by omega), cond_true, if_pos (by omega), if_pos (by omega), if_pos (by simp only [LIM, List.length_cons, List.length_nil]; omega), F54.spec, Option.bind_some, show (x :: l).getD 0 Z_Value = x from rfl]
  have hmin : (if IntKind.i64.wrap (1000 + 1) < ((objV h x).2.2.2.2.2.2.1.length : Int) then IntKind.i64.wrap (1000 + 1) else ((objV h x).2.2.2.2.2.2.1.length : Int)) = ((min 1001 (its h x).length : Nat) : Int) := by
    rw [wrapI (by omega) (by omega)]
    unfold Go.Ab.its
    split <;> omega
  rw [hmin, if_pos ⟨by omega, by unfold Go.Ab.its; omega⟩, Int.toNat_natCast, F78.spec (by rw [List.length_take]; simp only [LIM]; omega), Option.bind_some, if_pos (by rw [List.length_take, List.length_drop, List.length_cons]; simp only [LIM]; omega)]
  rw [show List.drop (Int.toNat 1) (x :: l) = l from rfl, show List.take (min 1001 (its h x).length) (objV h x).2.2.2.2.2.2.1 = (its h x).take 1001 by
    unfold Go.Ab.its
    rw [← List.take_take, List.take_length]]
  unfold bad tup
  cases (x.1 == 9) <;> cases ((objV h x).1 == 2) <;> cases ((objV h x).1 == 3) <;> cases ((objV h x).1 == 4) <;> cases ((objV h x).1 == 5) <;> rfl
theorem F156.exit {k n : Nat} {h : X_Heap} {out l : List X_Value} (ho : l = [] ∨ out.length = 1001) : F156.l0 (F54.u k) (F78.u k) k (n + 1) 1000 h out l = some (out, true) := by
  rw [F156.l0, F156.q_l0, F156.c_l0]
  rcases ho with rfl | ho
  · rw [decide_eq_false (by simp), cond_false]
  · rw [decide_eq_false (p := (out.length : Int) ≤ 1000) (by omega), cond_false]
    cases decide ((l.length : Int) > 0) <;> rfl
theorem F156.l0_spec {k : Nat} {h : X_Heap} (t : TH h) : ∀ (b n : Nat) (out left : List X_Value), out.length + b = 1000 → b + 5 < n → left.length ≤ 1 + out.length * 1001 →
    ∃ out' ok, F156.l0 (F54.u k) (F78.u k) k n 1000 h out left = some (out', ok) ∧ ((∃ r, pt h b left = some r ∧ ok = true ∧ out'.length + r = 1000) ∨ (pt h b left = none ∧ (ok = true → 1000 < out'.length))) := by
  intro b
  induction b with
  | zero =>
    intro n out left ho hn hs
    obtain ⟨n, rfl⟩ : ∃ m, n = m + 2 := ⟨n - 2, by omega⟩
    cases left with
    | nil =>
      rw [F156.exit (.inl rfl)]
      exact ⟨out, true, rfl, .inl ⟨0, pt_nil _ _, rfl, by omega⟩⟩
    | cons x l =>
      simp at hs
      rw [pt_zero, F156.step t (by omega) (by omega)]
      cases bad h x with
      | true => exact ⟨_, _, rfl, .inr ⟨rfl, fun h => by cases h⟩⟩
      | false =>
        rw [cond_false, F156.exit (.inr (by simp; omega)), F156.exit (.inr (by simp; omega))]
        cases tup h x <;> exact ⟨_, _, rfl, .inr ⟨rfl, fun _ => by simp; omega⟩⟩
  | succ b ih =>
    intro n out left ho hn hs
    obtain ⟨n, rfl⟩ : ∃ m, n = m + 1 := ⟨n - 1, by omega⟩
    cases left with
    | nil =>
      rw [F156.exit (.inl rfl)]
      exact ⟨out, true, rfl, .inl ⟨b + 1, pt_nil _ _, rfl, by omega⟩⟩
    | cons x l =>
      simp at hs
      rw [pt_succ, F156.step t (by omega) (by omega)]
      cases bad h x with
      | true => exact ⟨_, _, rfl, .inr ⟨rfl, fun h => by cases h⟩⟩
      | false =>
        rw [cond_false, cond_false]
        cases tup h x with
        | true =>
          rw [cond_true, cond_true]
          obtain ⟨out', ok, e, hr⟩ := ih n (out ++ [x]) ((its h x).take 1001 ++ l) (by simp; omega) (by omega) (by simp; omega)
          refine ⟨out', ok, e, ?_⟩
          by_cases hlen : (its h x).length ≤ 1001
          · rwa [List.take_of_length_le hlen] at hr
          · rw [pt_long (l := (its h x).take 1001 ++ l) (by rw [List.length_append, List.length_take]; omega)] at hr
            rw [pt_long (l := its h x ++ l) (by rw [List.length_append]; omega)]
            rcases hr with ⟨r, h1, _⟩ | ⟨_, h2⟩
            · cases h1
            · exact .inr ⟨rfl, h2⟩
        | false =>
          rw [cond_false, cond_false]
          exact ih n (out ++ [x]) l (by simp; omega) (by omega) (by simp; omega)
theorem F156.spec {k : Nat} (hk : 3000000 < k) {h : X_Heap} (t : TH h) (v : X_Value) : ∃ out ok, F156.u k (h, (v, 1000)) = some (out, ok) ∧ ((∃ r, pt h 1000 [v] = some r ∧ ok = true ∧ out.length + r = 1000) ∨ (pt h 1000 [v] = none ∧ (ok = true → 1000 < out.length))) := by
  show ∃ out ok, F156.f (F54.u k) (F78.u k) k h v 1000 = some (out, ok) ∧ _
  rw [F156.f, F156.q, F156.c]
  exact F156.l0_spec t 1000 k [] [v] rfl (by omega) (by simp)
def keyed (h : X_Heap) (v : X_Value) : Bool := (pt h 1000 [v]).isSome
theorem F118.spec {k : Nat} (hk : 3000000 < k) {h : X_Heap} (t : TH h) (v : X_Value) : F118.u k (h, v) = some (keyed h v) := by
  show F118.f (F156.u k) k h v = _
  obtain ⟨out, ok, e, hr⟩ := F156.spec hk t v
  rw [F118.f, F118.b, e, Option.bind_some]
  unfold keyed
  rcases hr with ⟨r, h1, rfl, h2⟩ | ⟨h1, h2⟩
  · rw [h1, cond_true, decide_eq_true (by dsimp only; omega)]; rfl
  · rw [h1]
    cases ok with
    | false => rfl
    | true => have := h2 rfl; rw [cond_true, decide_eq_false (by dsimp only; omega)]; rfl
/-! ### keys alike -/
def all2 (f : X_Value → X_Value → Bool) : List X_Value → List X_Value → Bool
  | a :: l, b :: m => f a b && all2 f l m
  | _, _ => true
def sk (h : X_Heap) : Nat → X_Value → X_Value → Bool
  | 0, _, _ => false
  | d + 1, v, w => bif tup h v && tup h w then decide ((its h v).length = (its h w).length) && all2 (sk h d) (its h v) (its h w) else v == w
theorem F157.l0_spec {k : Nat} {c : F157.E} {h : X_Heap} {o p : X_Object} {f : X_Value → X_Value → Bool} (hlen : o.2.2.2.2.2.2.1.length = p.2.2.2.2.2.2.1.length) (hl : o.2.2.2.2.2.2.1.length ≤ 2000000)
    (hc : ∀ a ∈ o.2.2.2.2.2.2.1, ∀ b ∈ p.2.2.2.2.2.2.1, c (h, (a, b)) = some (f a b)) : ∀ (d n i : Nat), o.2.2.2.2.2.2.1.length - i = d → d < n → i ≤ o.2.2.2.2.2.2.1.length →
      F157.l0 (F54.u k) (F14.u k) c k n h o p (o.2.2.2.2.2.2.1.length : Int) (i : Int) = some (all2 f (o.2.2.2.2.2.2.1.drop i) (p.2.2.2.2.2.2.1.drop i)) := by
  intro d
  induction d with
  | zero =>
    intro n i hd hn hi
    obtain ⟨n, rfl⟩ : ∃ m, n = m + 1 := ⟨n - 1, by omega⟩
    rw [F157.l0, F157.b_l0, decide_eq_false (by omega), cond_false, List.drop_of_length_le (by omega)]
    rfl
  | succ d ih =>
    intro n i hd hn hi
    obtain ⟨n, rfl⟩ : ∃ m, n = m + 1 := ⟨n - 1, by omega⟩
    have h1 : i < o.2.2.2.2.2.2.1.length := by omega
    have h2 : i < p.2.2.2.2.2.2.1.length := by omega
    rw [F157.l0, F157.b_l0, decide_eq_true (by omega), cond_true, if_pos ⟨by omega, by omega⟩, if_pos ⟨by omega, by omega⟩, Int.toNat_natCast, getD_of h1, getD_of h2, hc _ (List.getElem_mem h1) _ (List.getElem_mem h2), Option.bind_some, wrapN (by omega), drop_cons h1, drop_cons h2, all2]
    cases f (o.2.2.2.2.2.2.1[i]) (p.2.2.2.2.2.2.1[i]) with
    | false => rfl
    | true =>
      rw [Bool.not_true, cond_false, Bool.true_and]
      exact ih n (i + 1) (by omega) (by omega) (by omega)
theorem pt_step {h : X_Heap} {b : Nat} {v : X_Value} (hp : (pt h (b + 1) [v]).isSome = true) : bad h v = false ∧ (tup h v = true → ∃ r, pt h b (its h v) = some r) := by
  rw [pt_succ] at hp
  cases hb : bad h v with
  | true => rw [hb] at hp; cases hp
  | false =>
    refine ⟨rfl, fun ht => ?_⟩
    rw [hb, ht, cond_false, cond_true, List.append_nil] at hp
    exact Option.isSome_iff_exists.1 hp
theorem F157.spec {h : X_Heap} (t : TH h) : ∀ (b k : Nat) (v w : X_Value), TV v → (pt h b [v]).isSome = true → b + 3000000 < k → F157.u k (h, (v, w)) = some (sk h b v w) := by
  intro b
  induction b with
  | zero => intro k v w tv hp hk; rw [pt_zero] at hp; cases hp
  | succ b ih =>
    intro k v w tv hp hk
    obtain ⟨k, rfl⟩ : ∃ m, k = m + 1 := ⟨k - 1, by omega⟩
    obtain ⟨hb, hit⟩ := pt_step hp
    show F157.f (F54.u (k + 1)) (F14.u (k + 1)) (F157.u k) (k + 1) h v w = _
    rw [F157.f, F157.b, F54.spec, Option.bind_some, F54.spec, Option.bind_some, F14.spec (by omega) tv, Option.bind_some, sk]
    cases h1 : tup h v with
    | false =>
      have e1 : ((objV h v).1 != 1) = true := by unfold tup at h1; rw [bne, h1]; rfl
      rw [e1]; rfl
    | true =>
      have e1 : ((objV h v).1 != 1) = false := by unfold tup at h1; rw [bne, h1]; rfl
      rw [e1, cond_false]
      cases h2 : tup h w with
      | false =>
        have e2 : ((objV h w).1 != 1) = true := by unfold tup at h2; rw [bne, h2]; rfl
        rw [e2]; rfl
      | true =>
        have e2 : ((objV h w).1 != 1) = false := by unfold tup at h2; rw [bne, h2]; rfl
        obtain ⟨r, hr⟩ := hit h1
        have hlv := (t.its v).1
        rw [e2, cond_false, Bool.and_self, cond_true]
        by_cases hlen : (its h v).length = (its h w).length
        · rw [decide_eq_true hlen, Bool.true_and, show (((objV h v).2.2.2.2.2.2.1.length : Int) != ((objV h w).2.2.2.2.2.2.1.length : Int)) = false by
            unfold its at hlen; simp [hlen], cond_false]
          have := F157.l0_spec (k := k + 1) (c := F157.u k) (h := h) (o := objV h v) (p := objV h w) (f := sk h b) hlen hlv (fun a ha c hc => ih k a c ((t.its v).2 a ha) (pt_mem hr ha) (by omega)) _ (k + 1) 0 rfl (by unfold its at hlv; omega) (by omega)
          rw [List.drop_zero, List.drop_zero] at this
          exact this
        · rw [decide_eq_false hlen, Bool.false_and, show (((objV h v).2.2.2.2.2.2.1.length : Int) != ((objV h w).2.2.2.2.2.2.1.length : Int)) = true by
            unfold its at hlen; simp; omega, cond_true]
theorem F119.l0_tot {k : Nat} (hk : 4000000 < k) {h : X_Heap} (t : TH h) {l : List X_Value} (hl : l.length ≤ 2000000) (hv : ∀ v ∈ l, TV v ∧ keyed h v = true) {w : X_Value} : ∀ (d n i : Nat), l.length - i = d → d < n → i ≤ l.length → Tot (F119.l0 (F157.u k) k n l h w (l.length : Int) (i : Int)) := by
  intro d
  induction d with
  | zero =>
    intro n i hd hn hi
    obtain ⟨n, rfl⟩ : ∃ m, n = m + 1 := ⟨n - 1, by omega⟩
    rw [F119.l0, F119.b_l0, decide_eq_false (by omega), cond_false]
    exact tot_some _
  | succ d ih =>
    intro n i hd hn hi
    obtain ⟨n, rfl⟩ : ∃ m, n = m + 1 := ⟨n - 1, by omega⟩
    have hlt : i < l.length := by omega
    obtain ⟨h1, h2⟩ := hv _ (List.getElem_mem hlt)
    rw [F119.l0, F119.b_l0, decide_eq_true (by omega), cond_true, if_pos ⟨by omega, by omega⟩, Int.toNat_natCast, getD_of hlt, F157.spec t 1000 k _ w h1 h2 (by omega), Option.bind_some, wrapN (by omega)]
    exact tot_cond (tot_some _) (ih n (i + 1) (by omega) (by omega) (by omega))
theorem F119.tot {k : Nat} (hk : 4000000 < k) {h : X_Heap} (t : TH h) {l : List X_Value} (hl : l.length ≤ 2000000) (hv : ∀ v ∈ l, TV v ∧ keyed h v = true) {w : X_Value} : Tot (F119.u k (h, (l, w))) := by
  show Tot (F119.f (F157.u k) k h l w)
  rw [F119.f, F119.b]
  exact F119.l0_tot hk t hl hv _ k 0 rfl (by omega) (by omega)
theorem F76.l0_tot {k : Nat} (hk : 4000000 < k) {h : X_Heap} (t : TH h) {l : List X_Value} (hl : l.length ≤ 2000000) (hv : ∀ v ∈ l, TV v) : ∀ (d n i : Nat), l.length - i = d → d < n → i ≤ l.length → (∀ v ∈ l.take i, keyed h v = true) → Tot (F76.l0 (F118.u k) (F119.u k) k n h l l (l.length : Int) (i : Int)) := by
  intro d
  induction d with
  | zero =>
    intro n i hd hn hi hq
    obtain ⟨n, rfl⟩ : ∃ m, n = m + 1 := ⟨n - 1, by omega⟩
    rw [F76.l0, F76.q_l0, F76.c_l0, decide_eq_false (by omega), cond_false]
    exact tot_some _
  | succ d ih =>
    intro n i hd hn hi hq
    obtain ⟨n, rfl⟩ : ∃ m, n = m + 1 := ⟨n - 1, by omega⟩
    have hlt : i < l.length := by omega
    rw [F76.l0, F76.q_l0, F76.c_l0, decide_eq_true (by omega), cond_true, if_pos ⟨by omega, by omega⟩, Int.toNat_natCast, getD_of hlt, F118.spec (by omega) t, Option.bind_some, wrapN (by omega)]
    refine tot_if (fun _ => tot_some _) fun hkd => ?_
    rw [if_pos ⟨by omega, by omega⟩]
    refine tot_bind (F119.tot hk t (by rw [List.length_take]; omega) fun v hm => ⟨hv v (List.mem_of_mem_take hm), hq v hm⟩) fun _ _ => tot_cond (tot_some _) (ih n (i + 1) (by omega) (by omega) (by omega) fun v hm => ?_)
    rw [List.take_succ_eq_append_getElem hlt] at hm
    rcases List.mem_append.1 hm with hm | hm
    · exact hq v hm
    · rw [List.mem_singleton.1 hm]; simpa using hkd
theorem F76.tot {k : Nat} (hk : 4000000 < k) {h : X_Heap} (t : TH h) {i : Nat} (hi : i < h.length) : Tot (F76.u k (h, (i : Int))) := by
  have tO := t.ob i
  have h1 := tO.keys
  show Tot (F76.f (F118.u k) (F119.u k) k h (i : Int))
  rw [F76.f, F76.b, if_pos ⟨by omega, by omega⟩, Int.toNat_natCast, show h.getD i Z_Object = hob h i from rfl]
  exact F76.l0_tot hk t h1 tO.keyV _ k 0 rfl (by omega) (by omega) (fun v hm => by rw [List.take_zero] at hm; cases hm)
end Go.Ab
