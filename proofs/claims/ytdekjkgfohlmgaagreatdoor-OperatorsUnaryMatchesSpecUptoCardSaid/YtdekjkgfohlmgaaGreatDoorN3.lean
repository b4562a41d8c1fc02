/- Integers of the program: valid ones, their negation and complement. -/
import Derived.Test.YtdekjkgfohlmgaaGreatDoorN2
namespace Go.Ab
set_option linter.unusedVariables false
set_option linter.unusedSimpArgs false
theorem F162.spec {k : Nat} {a : X_Int} (hl : a.2.length ≤ 4611686018427387904) : F162.u k a = some (intB a) := by
  show F162.f k a = _
  rw [F162.f, F162.b]
  unfold intB
  by_cases h1 : a.2.length ≤ 128
  · rw [decide_eq_true (by omega), decide_eq_true h1, cond_true, Bool.true_and]
    by_cases h0 : a.2.length = 0
    · rw [h0]
      cases a.1 <;> rfl
    · rw [ieqF (a := (a.2.length : Int)) (b := 0) (by omega), cond_false, decide_eq_true (by omega), cond_true, wrapI (by omega) (by omega), if_pos ⟨by omega, by omega⟩, decide_eq_false h0, cond_false, show ((a.2.length : Int) - 1).toNat = a.2.length - 1 by omega]
  · rw [decide_eq_false (by omega), decide_eq_false h1]
    rfl
theorem F125.l0_spec {k : Nat} {x2 : Int × Int} {l : List X_Int} (hl : l.length ≤ 100) (hv : ∀ a ∈ l, intB a = true) : ∀ (d n i : Nat), l.length - i = d → d < n → i ≤ l.length → F125.l0 (F162.u k) (F163.u k) k n x2 l (l.length : Int) (i : Int) = some (0, 0) := by
  intro d
  induction d with
  | zero =>
    intro n i hd hn hi
    obtain ⟨n, rfl⟩ : ∃ m, n = m + 1 := ⟨n - 1, by omega⟩
    rw [F125.l0, F125.b_l0, decide_eq_false (by omega), cond_false]
  | succ d ih =>
    intro n i hd hn hi
    obtain ⟨n, rfl⟩ : ∃ m, n = m + 1 := ⟨n - 1, by omega⟩
    have hlt : i < l.length := by omega
    have hb := hv _ (List.getElem_mem hlt)
    have := intB_len hb
    rw [F125.l0, F125.b_l0, decide_eq_true (by omega), cond_true, if_pos ⟨by omega, by omega⟩, Int.toNat_natCast, getD_of hlt, F162.spec (by omega), Option.bind_some, hb, Bool.not_true, cond_false, wrapN (by omega)]
    exact ih n (i + 1) (by omega) (by omega) (by omega)
theorem F125.spec {k : Nat} {l : List X_Int} (hl : l.length ≤ 100) (hk : 100 < k) (hv : ∀ a ∈ l, intB a = true) : F125.u k l = some (0, 0) := by
  show F125.f _ _ k l = _
  rw [F125.f, F125.b]
  exact F125.l0_spec hl hv _ k 0 rfl (by omega) (by omega)
theorem F126.spec {k : Nat} {s : Bool} {l : List Int} : F126.u k (s, l) = some (bif decide ((l.length : Int) > 128) then ((false, []), (14, -1)) else ((s && decide ((l.length : Int) > 0), l), (0, 0))) := by
  show F126.f _ k s l = _
  rw [F126.f, F126.b, show F163.u k (14, -1) = some (14, -1) from rfl]
  cases decide ((l.length : Int) > 128) <;> cases s <;> rfl
theorem F83.spec {k : Nat} (hk : 200 < k) {a : X_Int} (ha : intB a = true) : F83.u k a = some ((!a.1 && decide ((a.2.length : Int) > 0), a.2), (0, 0)) := by
  have := intB_len ha
  show F83.f _ _ _ k a = _
  rw [F83.f, F83.q, F83.c, F125.spec (by simp) (by omega) (fun b hb => by rw [List.mem_singleton.1 hb]; exact ha), Option.bind_some, F80.spec (by simp only [LIM]; omega), Option.bind_some, F126.spec, decide_eq_false (by omega)]
  rfl
/-! ### two's complement -/
theorem lim_cons {d : Int} {t : List Int} : Lim (d :: t) ↔ (0 ≤ d ∧ d < 4294967296) ∧ Lim t := ⟨fun h => ⟨h d List.mem_cons_self, fun x hx => h x (List.mem_cons_of_mem _ hx)⟩, fun h x hx => by
  rcases List.mem_cons.1 hx with rfl | hx
  · exact h.1
  · exact h.2 x hx⟩
theorem lim_append {a b : List Int} : Lim (a ++ b) ↔ Lim a ∧ Lim b := ⟨fun h => ⟨fun x hx => h x (List.mem_append_left _ hx), fun x hx => h x (List.mem_append_right _ hx)⟩, fun h x hx => (List.mem_append.1 hx).elim (h.1 x) (h.2 x)⟩
theorem lim_rep (n : Nat) : Lim (List.replicate n 0) := fun d hd => by rw [(List.mem_replicate.1 hd).2]; omega
theorem v32_rep : ∀ n : Nat, v32 (List.replicate n 0) = 0
  | 0 => rfl
  | n + 1 => by rw [List.replicate_succ, v32, v32_rep n]; rfl
theorem v32_append : ∀ a b : List Int, v32 (a ++ b) = v32 a + 4294967296 ^ a.length * v32 b
  | [], b => by simp [v32]
  | d :: t, b => by rw [List.cons_append, v32, v32, v32_append t b, List.length_cons, Nat.pow_succ, Nat.mul_add, Nat.mul_comm (4294967296 ^ t.length) 4294967296, Nat.mul_assoc, Nat.add_assoc]
theorem v32_ltB : ∀ {l : List Int}, Lim l → v32 l < 4294967296 ^ l.length
  | [], _ => by simp [v32]
  | d :: t, h => by
    obtain ⟨hd, ht⟩ := lim_cons.1 h
    have := v32_ltB ht
    rw [v32, List.length_cons, Nat.pow_succ]
    omega
theorem not_u32 {x : Int} (h0 : 0 ≤ x) (h1 : x < 4294967296) : notI .u32 x = 4294967295 - x := by
  obtain ⟨n, rfl⟩ := Int.eq_ofNat_of_zero_le h0
  have hn : n < 4294967296 := by omega
  unfold notI
  have e : (BitVec.ofInt IntKind.u32.bits (if IntKind.u32.signed = true then -1 else IntKind.u32.max) ^^^ BitVec.ofInt IntKind.u32.bits (n : Int)).toNat = 4294967295 - n := by
    show (BitVec.ofInt 32 4294967295 ^^^ BitVec.ofInt 32 (n : Int)).toNat = _
    rw [show (BitVec.ofInt 32 4294967295) = BitVec.allOnes 32 from rfl, BitVec.allOnes_xor, BitVec.toNat_not, BitVec.ofInt_natCast, BitVec.toNat_ofNat]
    omega
  rw [e, wrap32 (by omega) (by omega)]
  omega
def tw : Int → List Int → List Int
  | _, [] => []
  | c, x :: t => ((c + (4294967295 - x)) % 4294967296) :: tw ((c + (4294967295 - x)) / 4294967296) t
theorem tw_length : ∀ (c : Int) (l : List Int), (tw c l).length = l.length
  | _, [] => rfl
  | c, x :: t => by rw [tw, List.length_cons, tw_length, List.length_cons]
theorem tw_spec : ∀ {c : Int} {l : List Int}, 0 ≤ c → c ≤ 1 → Lim l → Lim (tw c l) ∧ (v32 (tw c l) + v32 l + 1 = c.toNat + 4294967296 ^ l.length ∨ (c = 1 ∧ v32 l = 0 ∧ v32 (tw c l) = 0))
  | c, [], h0, h1, _ => by
    refine ⟨(fun x hx => by cases hx), ?_⟩
    rw [tw, v32]
    by_cases hc : c = 0
    · left; subst hc; rfl
    · right; exact ⟨by omega, rfl, rfl⟩
  | c, x :: t, h0, h1, hl => by
    obtain ⟨hx, ht⟩ := lim_cons.1 hl
    have q0 : 0 ≤ (c + (4294967295 - x)) / 4294967296 := by omega
    have q1 : (c + (4294967295 - x)) / 4294967296 ≤ 1 := by omega
    obtain ⟨i1, i2⟩ := tw_spec q0 q1 ht
    refine ⟨by rw [tw]; exact lim_cons.2 ⟨⟨by omega, by omega⟩, i1⟩, ?_⟩
    rw [tw, v32, v32, List.length_cons, Nat.pow_succ]
    rcases i2 with i2 | ⟨i3, i4, i5⟩
    · left; omega
    · right; refine ⟨by omega, by omega, by omega⟩
theorem set_app {α : Type} (p : List α) (x y : α) (t : List α) {i : Nat} (h : p.length = i) : (p ++ x :: t).set i y = p ++ y :: t := by
  subst h
  rw [List.set_append_right _ _ (Nat.le_refl _), Nat.sub_self, List.set_cons_zero]
theorem getD_app {α : Type} (p : List α) (x : α) (t : List α) (z : α) {i : Nat} (h : p.length = i) : (p ++ x :: t).getD i z = x := by
  subst h
  simp [List.getD]
theorem F165.l0_spec {k : Nat} {m : Nat} (hm : m ≤ 1000) : ∀ (rest pre : List Int) (n i : Nat) (c : Int), pre.length = i → i + rest.length = m → rest.length < n → 0 ≤ c → c ≤ 1 → Lim rest →
    F165.l0 k n (pre ++ rest) c (m : Int) (i : Int) = some (pre ++ tw c rest)
  | [], pre, n, i, c, hp, hi, hn, h0, h1, hl => by
    simp only [List.length_nil] at hi hn
    obtain ⟨n, rfl⟩ : ∃ m, n = m + 1 := ⟨n - 1, by omega⟩
    rw [F165.l0, F165.q_l0, F165.c_l0, decide_eq_false (by omega), cond_false]
    rfl
  | x :: t, pre, n, i, c, hp, hi, hn, h0, h1, hl => by
    simp only [List.length_cons] at hi hn
    obtain ⟨n, rfl⟩ : ∃ m, n = m + 1 := ⟨n - 1, by omega⟩
    obtain ⟨hx, ht⟩ := lim_cons.1 hl
    have hlen : (pre ++ x :: t).length = m := by simp; omega
    have e1 : IntKind.u64.wrap (c + IntKind.u64.wrap (notI .u32 x)) = c + (4294967295 - x) := by rw [not_u32 hx.1 hx.2, wrapU, wrapU]; omega
    have e2 : Int.fdiv (c + (4294967295 - x)) (2 ^ min (Int.toNat 32) IntKind.u64.bits) = (c + (4294967295 - x)) / 4294967296 := by
      rw [show ((2 : Int) ^ min (Int.toNat 32) IntKind.u64.bits) = 4294967296 from rfl, Int.fdiv_eq_ediv_of_nonneg _ (by omega)]
    rw [F165.l0, F165.q_l0, F165.c_l0, decide_eq_true (by omega), cond_true, if_pos ⟨by omega, by omega⟩, if_pos ⟨by omega, by omega⟩, Nat.zero_add, Int.toNat_natCast, getD_app pre x t 0 hp, e1, e2, wrap32_mod, set_app pre x _ t hp, wrapN (by omega)]
    rw [List.take_of_length_le (by rw [hlen]; simp; omega), show pre ++ (c + (4294967295 - x)) % 4294967296 :: t = (pre ++ [(c + (4294967295 - x)) % 4294967296]) ++ t by simp]
    rw [F165.l0_spec hm t (pre ++ [(c + (4294967295 - x)) % 4294967296]) n (i + 1) _ (by simp; omega) (by omega) (by omega) (by omega) (by omega) ht, tw]
    simp
theorem F165.spec {k : Nat} (hk : 1001 < k) {a : X_Int} {m : Nat} (hm : m ≤ 1000) (hl : a.2.length ≤ m) (hL : Lim a.2) :
    ∃ r, F165.u k (a, (m : Int)) = some r ∧ r.length = m ∧ Lim r ∧ (a.1 = false → v32 r = v32 a.2) ∧ (a.1 = true → v32 r + v32 a.2 = 4294967296 ^ m ∨ (v32 a.2 = 0 ∧ v32 r = 0)) := by
  have hx : List.take (Int.toNat (m : Int)) (List.take 0 (List.replicate (Int.toNat (m : Int)) (0 : Int)) ++ List.take (Int.toNat (m : Int)) a.2 ++ List.drop (min a.2.length (Int.toNat (m : Int))) (List.replicate (Int.toNat (m : Int)) (0 : Int))) = a.2 ++ List.replicate (m - a.2.length) 0 := by
    rw [Int.toNat_natCast, List.take_zero, List.nil_append, List.take_of_length_le (l := a.2) hl, Nat.min_eq_left hl, List.drop_replicate, List.take_of_length_le (by simp; omega)]
  have hlen : (a.2 ++ List.replicate (m - a.2.length) (0 : Int)).length = m := by simp; omega
  have hlim : Lim (a.2 ++ List.replicate (m - a.2.length) 0) := lim_append.2 ⟨hL, lim_rep _⟩
  have hv : v32 (a.2 ++ List.replicate (m - a.2.length) 0) = v32 a.2 := by rw [v32_append, v32_rep]; simp
  show ∃ r, F165.f k a (m : Int) = some r ∧ _
  rw [F165.f, F165.q, F165.c, if_pos ⟨by omega, by simp only [LIM]; omega, by omega⟩, if_pos (by simp), hx, Int.toNat_natCast]
  cases ha : a.1 with
  | false => exact ⟨_, rfl, hlen, hlim, fun _ => hv, fun h => by cases h⟩
  | true =>
    obtain ⟨t1, t2⟩ := tw_spec (c := 1) (by omega) (by omega) hlim
    have := F165.l0_spec (k := k) hm (a.2 ++ List.replicate (m - a.2.length) 0) [] k 0 1 rfl (by omega) (by omega) (by omega) (by omega) hlim
    rw [List.nil_append] at this
    refine ⟨_, this, by rw [List.nil_append, tw_length, hlen], t1, (fun h => by cases h), fun _ => ?_⟩
    rw [hv, hlen] at t2
    rw [List.nil_append]
    rcases t2 with t2 | t2
    · left; omega
    · right; exact ⟨t2.2.1, t2.2.2⟩
end Go.Ab
