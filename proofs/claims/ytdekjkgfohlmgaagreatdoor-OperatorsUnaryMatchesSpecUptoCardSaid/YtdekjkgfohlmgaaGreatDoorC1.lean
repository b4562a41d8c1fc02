/- Copies of rows, values, heaps. -/
import Derived.Test.YtdekjkgfohlmgaaGreatDoorK1
namespace Go.Ab
set_option linter.unusedVariables false
set_option linter.unusedSimpArgs false
theorem F26.spec {k : Nat} {l : List (Int)} (hl : l.length * 8 ≤ LIM) : F26.u k l = some l := by
  show F26.f k l = _
  rw [F26.f, F26.q, F26.c]
  have h : (if 0 ≤ (List.length ([] : List (Int))) ∧ (List.length l) * 8 ≤ LIM then some ((List.take 0 ([] : List (Int))) ++ l) else none) = some l := by
    rw [if_pos ⟨by simp, hl⟩]
    simp
  rw [h]
  cases l with
  | nil => simp [agree]
  | cons a l => simp
theorem F27.spec {k : Nat} {l : List (List UInt8)} (hl : l.length * 16 ≤ LIM) : F27.u k l = some l := by
  show F27.f k l = _
  rw [F27.f, F27.q, F27.c]
  have h : (if 0 ≤ (List.length ([] : List (List UInt8))) ∧ (List.length l) * 16 ≤ LIM then some ((List.take 0 ([] : List (List UInt8))) ++ l) else none) = some l := by
    rw [if_pos ⟨by simp, hl⟩]
    simp
  rw [h]
  cases l with
  | nil => simp [agree]
  | cons a l => simp
theorem F80.spec {k : Nat} {l : List (Int)} (hl : l.length * 4 ≤ LIM) : F80.u k l = some l := by
  show F80.f k l = _
  rw [F80.f, F80.q, F80.c]
  have h : (if 0 ≤ (List.length ([] : List (Int))) ∧ (List.length l) * 4 ≤ LIM then some ((List.take 0 ([] : List (Int))) ++ l) else none) = some l := by
    rw [if_pos ⟨by simp, hl⟩]
    simp
  rw [h]
  cases l with
  | nil => simp [agree]
  | cons a l => simp
theorem F28.l0_spec {k : Nat} {l : List X_Value} (hl : l.length ≤ 10000000) (hv : ∀ v ∈ l, TV v) : ∀ (d n i : Nat), l.length - i = d → d < n → i ≤ l.length → F28.l0 (F80.u k) k n (l.take i) l (l.length : Int) (i : Int) = some l := by
  intro d
  induction d with
  | zero =>
    intro n i hd hn hi
    obtain ⟨n, rfl⟩ : ∃ m, n = m + 1 := ⟨n - 1, by omega⟩
    rw [F28.l0, F28.q_l0, F28.c_l0, decide_eq_false (by omega), cond_false, List.take_of_length_le (by omega)]
  | succ d ih =>
    intro n i hd hn hi
    obtain ⟨n, rfl⟩ : ∃ m, n = m + 1 := ⟨n - 1, by omega⟩
    have hlt : i < l.length := by omega
    have tv := hv _ (List.getElem_mem hlt)
    have h1 := tv.numL
    have h2 := tv.denL
    rw [F28.l0, F28.q_l0, F28.c_l0, decide_eq_true (by omega), cond_true, if_pos ⟨by omega, by omega⟩, Int.toNat_natCast, getD_of hlt, F80.spec (by simp only [LIM]; omega), Option.bind_some, F80.spec (by simp only [LIM]; omega), Option.bind_some,
      if_pos (by simp only [LIM, List.length_take, List.length_cons, List.length_nil]; omega), wrapN (by omega)]
    rw [show l.take i ++ [(l[i].1, ((l[i].2.1.1, l[i].2.1.2), ((l[i].2.2.1.1, l[i].2.2.1.2), l[i].2.2.2)))] = l.take (i + 1) from (List.take_succ_eq_append_getElem hlt).symm]
    exact ih n (i + 1) (by omega) (by omega) (by omega)
theorem F28.spec {k : Nat} {l : List X_Value} (hl : l.length ≤ 10000000) (hk : l.length < k) (hv : ∀ v ∈ l, TV v) : F28.u k l = some l := by
  show F28.f _ k l = _
  rw [F28.f, F28.b]
  exact F28.l0_spec hl hv _ k 0 rfl (by omega) (by omega)
theorem F6.l0_spec {k : Nat} (hk : 3000000 < k) {h : X_Heap} (t : TH h) {x2 : X_Heap} : ∀ (d n i : Nat), h.length - i = d → d < n → i ≤ h.length → F6.l0 (F26.u k) (F27.u k) (F28.u k) k n x2 (h.take i) h (h.length : Int) (i : Int) = some h := by
  intro d
  have hlen := t.len
  induction d with
  | zero =>
    intro n i hd hn hi
    obtain ⟨n, rfl⟩ : ∃ m, n = m + 1 := ⟨n - 1, by omega⟩
    rw [F6.l0, F6.q_l0, F6.c_l0, decide_eq_false (by omega), cond_false, List.take_of_length_le (by omega)]
  | succ d ih =>
    intro n i hd hn hi
    obtain ⟨n, rfl⟩ : ∃ m, n = m + 1 := ⟨n - 1, by omega⟩
    have hlt : i < h.length := by omega
    have tO := t.obj _ (List.getElem_mem hlt)
    have h1 := tO.refs
    have h2 := tO.order
    have h3 := tO.names
    have h4 := tO.items
    have h5 := tO.keys
    rw [F6.l0, F6.q_l0, F6.c_l0, decide_eq_true (by omega), cond_true, if_pos ⟨by omega, by omega⟩, Int.toNat_natCast, getD_of hlt, F26.spec (by simp only [LIM]; omega), Option.bind_some, F26.spec (by simp only [LIM]; omega), Option.bind_some,
      F27.spec (by simp only [LIM]; omega), Option.bind_some, F28.spec (by omega) (by omega) tO.itemV, Option.bind_some, F28.spec (by omega) (by omega) tO.keyV, Option.bind_some,
      if_pos (by simp only [LIM, List.length_take, List.length_cons, List.length_nil]; omega), wrapN (by omega)]
    have e : h.take i ++ [(h[i].1, (h[i].2.1, (h[i].2.2.1, (h[i].2.2.2.1, (h[i].2.2.2.2.1, (h[i].2.2.2.2.2.1, (h[i].2.2.2.2.2.2.1, (h[i].2.2.2.2.2.2.2.1, h[i].2.2.2.2.2.2.2.2))))))))] = h.take (i + 1) := (List.take_succ_eq_append_getElem hlt).symm
    rw [e]
    exact ih n (i + 1) (by omega) (by omega) (by omega)
/-- a copy of a heap is the heap -/
theorem F6.spec {k : Nat} (hk : 3000000 < k) {h : X_Heap} (t : TH h) : F6.u k h = some h := by
  have := t.len
  show F6.f _ _ _ k h = _
  rw [F6.f, F6.b]
  exact F6.l0_spec hk t _ k 0 rfl (by omega) (by omega)
end Go.Ab
