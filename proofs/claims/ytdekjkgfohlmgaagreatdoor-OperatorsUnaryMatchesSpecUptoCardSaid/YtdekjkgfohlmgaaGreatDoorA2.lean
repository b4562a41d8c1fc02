/- Special methods as steps: attempts. -/
import Derived.Test.YtdekjkgfohlmgaaGreatDoorA1
namespace Go.Ab
set_option linter.unusedVariables false
set_option linter.unusedSimpArgs false
theorem F124.spec {k : Nat} {n : Int} (h0 : 0 ≤ n) (h1 : n ≤ 100000000) : F124.u k ((), n) = some [] := by
  show F124.f k () n = _
  rw [F124.f, F124.q, F124.c, decide_eq_false (by omega), cond_false]
  have e : IntKind.i64.wrap (n - IntKind.i64.wrap ((0 : Int) - (0 : Int))) = n := by rw [show ((0 : Int) - 0) = 0 from rfl, wrapI (x := 0) (by omega) (by omega), wrapI (by omega) (by omega)]; omega
  rw [e]
  by_cases hn : n > 0
  · rw [decide_eq_true hn, cond_true, if_pos ⟨rfl, rfl⟩, if_pos ⟨hn, by simp only [LIM]; omega, by omega⟩, if_pos (by omega)]
    rfl
  · rw [decide_eq_false hn, cond_false]
theorem F81.l2_spec {k : Nat} {ls : List (List X_Value)} (hl : ls.flatten.length ≤ 10000000) (hn : ls.length ≤ 10000000) : ∀ (d n i : Nat), ls.length - i = d → d < n → i ≤ ls.length →
    F81.l2 (F124.u k) k n (ls.take i).flatten ls (ls.length : Int) (i : Int) = some ls.flatten := by
  intro d
  induction d with
  | zero =>
    intro n i hd hn hi
    obtain ⟨n, rfl⟩ : ∃ m, n = m + 1 := ⟨n - 1, by omega⟩
    rw [F81.l2, F81.q_l2, F81.c_l2, decide_eq_false (by omega), cond_false, List.take_of_length_le (by omega)]
  | succ d ih =>
    intro n i hd hn hi
    obtain ⟨n, rfl⟩ : ∃ m, n = m + 1 := ⟨n - 1, by omega⟩
    have hlt : i < ls.length := by omega
    have hs : (ls.take (i + 1)).flatten = (ls.take i).flatten ++ ls[i] := by rw [List.take_succ_eq_append_getElem hlt, List.flatten_append]; simp
    have hle : (ls.take (i + 1)).flatten.length ≤ ls.flatten.length := by
      have := congrArg (fun x : List (List X_Value) => x.flatten.length) (List.take_append_drop (i + 1) ls)
      simp only [List.flatten_append, List.length_append] at this
      omega
    rw [hs, List.length_append] at hle
    rw [F81.l2, F81.q_l2, F81.c_l2, decide_eq_true (by omega), cond_true, if_pos ⟨by omega, by omega⟩, Int.toNat_natCast, getD_of hlt, if_pos (by simp only [LIM]; omega), wrapN (by omega), ← hs]
    exact ih n (i + 1) (by omega) (by omega) (by omega)
theorem F81.l0_spec {k : Nat} {ls : List (List X_Value)} (hl : ls.flatten.length ≤ 10000000) (hn : ls.length ≤ 10000000) (hk : ls.length < k) : ∀ (d n i : Nat), ls.length - i = d → d < n → i ≤ ls.length →
    F81.l0 (F124.u k) k n ls ((ls.take i).flatten.length : Int) ls (ls.length : Int) (i : Int) = some ls.flatten := by
  intro d
  induction d with
  | zero =>
    intro n i hd hn' hi
    obtain ⟨n, rfl⟩ : ∃ m, n = m + 1 := ⟨n - 1, by omega⟩
    have hle : (ls.take i).flatten.length ≤ 10000000 := by rw [List.take_of_length_le (by omega)]; omega
    rw [F81.l0, F81.q_l0, F81.c_l0, decide_eq_false (by omega), cond_false, F124.spec (by omega) (by omega), Option.bind_some]
    exact F81.l2_spec hl hn _ k 0 rfl (by omega) (by omega)
  | succ d ih =>
    intro n i hd hn' hi
    obtain ⟨n, rfl⟩ : ∃ m, n = m + 1 := ⟨n - 1, by omega⟩
    have hlt : i < ls.length := by omega
    have hs : (ls.take (i + 1)).flatten = (ls.take i).flatten ++ ls[i] := by rw [List.take_succ_eq_append_getElem hlt, List.flatten_append]; simp
    have hle : (ls.take (i + 1)).flatten.length ≤ ls.flatten.length := by
      have := congrArg (fun x : List (List X_Value) => x.flatten.length) (List.take_append_drop (i + 1) ls)
      simp only [List.flatten_append, List.length_append] at this
      omega
    have he : (((ls.take i).flatten.length : Int) + (ls[i].length : Int)) = (((ls.take (i + 1)).flatten.length : Nat) : Int) := by rw [hs, List.length_append]; omega
    rw [F81.l0, F81.q_l0, F81.c_l0, decide_eq_true (by omega), cond_true, if_pos ⟨by omega, by omega⟩, Int.toNat_natCast, getD_of hlt, he, wrapI (by omega) (by omega), decide_eq_false (by omega), cond_false, wrapN (by omega)]
    exact ih n (i + 1) (by omega) (by omega) (by omega)
theorem F81.spec {k : Nat} {ls : List (List X_Value)} (hl : ls.flatten.length ≤ 10000000) (hn : ls.length ≤ 10000000) (hk : ls.length < k) : F81.u k ls = some ls.flatten := by
  show F81.f _ k ls = _
  rw [F81.f, F81.b]
  exact F81.l0_spec hl hn hk _ k 0 rfl (by omega) (by omega)
def callS (f : X_Value) (a : List X_Value) : X_Step := (2, (zV, (0, ([], (f, a)))))
/-- the call of a special method, if there is one -/
def attP (h : X_Heap) (v : X_Value) (s : List UInt8) (a : List X_Value) : List X_Step := bif (metP h v s).2.2 then [callS (metP h v s).1 ((metP h v s).2.1 ++ a)] else []
theorem F31.spec {k : Nat} (hk : 3000000 < k) {h : X_Heap} (p : HP h) {v : X_Value} (vi : VI h v) {s : List UInt8} {a : List X_Value} (ha : a.length ≤ 1000) : F31.u k (h, (v, (s, a))) = some (attP h v s a) := by
  have hm := metP_vi p vi (s := s)
  show F31.f _ _ k h v s a = _
  rw [F31.f, F31.q, F31.c, F12.spec hk p vi, Option.bind_some, attP]
  cases (metP h v s).2.2 with
  | false => rfl
  | true =>
    rw [Bool.not_true, cond_false, cond_true, show List.take 2 [(metP h v s).2.1, a] = [(metP h v s).2.1, a] from rfl, F81.spec (by simp; omega) (by simp) (by simp; omega)]
    simp [callS, zV]
theorem F86.spec {k : Nat} (hk : 3000000 < k) {h : X_Heap} (p : HP h) {v : X_Value} (vi : VI h v) {s : List UInt8} {a : List X_Value} (ha : a.length ≤ 1000) : F86.u k (h, (v, (s, a))) = some (callS (metP h v s).1 ((metP h v s).2.1 ++ a), (metP h v s).2.2) := by
  have hm := metP_vi p vi (s := s)
  show F86.f _ _ _ k h v s a = _
  rw [F86.f, F86.b, F13.spec hk p, Option.bind_some, show List.take 2 [(metP h v s).2.1, a] = [(metP h v s).2.1, a] from rfl, F81.spec (by simp; omega) (by simp) (by simp; omega), Option.bind_some]
  simp only [List.flatten_cons, List.flatten_nil, List.append_nil]
  rfl
theorem F35.spec {k : Nat} (hk : 3000000 < k) {h : X_Heap} (p : HP h) {v : X_Value} (vi : VI h v) {s : List UInt8} {a : List X_Value} (ha : a.length ≤ 1000) : F35.u k (h, (v, (s, a))) = some (attP h v s a) := by
  show F35.f _ k h v s a = _
  rw [F35.f, F35.q, F35.c, F86.spec hk p vi ha, Option.bind_some, attP]
  dsimp only
  cases (metP h v s).2.2 <;> rfl
end Go.Ab
