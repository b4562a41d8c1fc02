/- Sorting and leaving out repetitions: what comes out hangs on the elements alone. -/
import Derived.Test.YtdekjkgfohlmgaaGreatDoorPl1
import Derived.Test.YtdekjkgfohlmgaaGreatDoorHSort
namespace Go.Ab
set_option linter.unusedVariables false
set_option linter.unusedSimpArgs false
theorem le_tot (x y : List UInt8) : x ≤ y ∨ y ≤ x := List.le_total ..
theorem le_tr {x y z : List UInt8} (h : x ≤ y) (k : y ≤ z) : x ≤ z := List.le_trans h k
theorem le_as {x y : List UInt8} (h : x ≤ y) (k : y ≤ x) : x = y := List.le_antisymm h k
theorem sortS_pair (l : List (List UInt8)) : (sortS l).Pairwise fun a b => a ≤ b := by
  have := List.pairwise_mergeSort (le := fun x y : List UInt8 => decide (x ≤ y)) (fun a b c h1 h2 => by
    rw [decide_eq_true_eq] at *; exact le_tr h1 h2) (fun a b => by
    rw [Bool.or_eq_true, decide_eq_true_eq, decide_eq_true_eq]; exact le_tot a b) l
  exact this.imp fun h => of_decide_eq_true h
theorem sortS_mem {l : List (List UInt8)} {x : List UInt8} : x ∈ sortS l ↔ x ∈ l := (List.mergeSort_perm l _).mem_iff
theorem sortS_length (l : List (List UInt8)) : (sortS l).length = l.length := (List.mergeSort_perm l _).length_eq
theorem compact_length (l : List (List UInt8)) : (Lib.compact l).length ≤ l.length := by
  unfold Lib.compact Lib.compactUpTo
  rw [List.length_map]
  exact Nat.le_trans (List.length_filter_le _ _) (by simp)
theorem get_toArray {l : List (List UInt8)} {j : Nat} (h : j < l.length) : l.toArray[j]! = l[j] := by
  rw [getElem!_pos _ j (by simpa using h)]; simp
theorem compact_mem {l : List (List UInt8)} {x : List UInt8} : x ∈ Lib.compact l ↔ x ∈ l := by
  unfold Lib.compact Lib.compactUpTo
  rw [List.mem_map]
  constructor
  · rintro ⟨j, hj, rfl⟩
    have := List.mem_range.1 (List.mem_filter.1 hj).1
    rw [get_toArray this]
    exact List.getElem_mem this
  · intro hx
    obtain ⟨i, hi, rfl⟩ := List.mem_iff_getElem.1 hx
    induction i with
    | zero => exact ⟨0, List.mem_filter.2 ⟨List.mem_range.2 hi, by simp [Lib.keeps]⟩, get_toArray hi⟩
    | succ i ih =>
      by_cases he : l[i + 1] = l[i]
      · rw [he]; exact ih (by omega) (List.getElem_mem _)
      · exact ⟨i + 1, List.mem_filter.2 ⟨List.mem_range.2 hi, by simp only [Lib.keeps, Nat.add_sub_cancel, decide_eq_true_eq]; right; rw [get_toArray hi, get_toArray (by omega)]; exact he⟩, get_toArray hi⟩
theorem compact_pair {l : List (List UInt8)} (h : l.Pairwise fun a b => a ≤ b) : (Lib.compact l).Pairwise fun a b => a ≤ b ∧ a ≠ b := by
  unfold Lib.compact Lib.compactUpTo
  rw [List.pairwise_map]
  have hr : ((List.range l.length).filter (Lib.keeps l.toArray)).Pairwise (· < ·) := List.Pairwise.filter _ List.pairwise_lt_range
  rw [List.pairwise_iff_getElem] at h
  refine hr.imp_of_mem fun {i j} hi hj hij => ?_
  have hi1 := List.mem_range.1 (List.mem_filter.1 hi).1
  have hj1 := List.mem_range.1 (List.mem_filter.1 hj).1
  have hk := (List.mem_filter.1 hj).2
  simp only [Lib.keeps, decide_eq_true_eq] at hk
  rw [get_toArray hi1, get_toArray hj1] at *
  rcases hk with hk | hk
  · omega
  · rw [get_toArray (by omega)] at hk
    have h1 : l[i] ≤ l[j] := h i j hi1 hj1 hij
    refine ⟨h1, fun e => hk ?_⟩
    have h2 : l[j - 1] ≤ l[j] := h (j - 1) j (by omega) hj1 (by omega)
    have h3 : l[i] ≤ l[j - 1] := by
      by_cases q : i = j - 1
      · subst q; exact (le_tot _ _).elim id id
      · exact h i (j - 1) hi1 (by omega) (by omega)
    exact le_as (e ▸ h3) h2
theorem strict_eq : ∀ {a b : List (List UInt8)}, (a.Pairwise fun x y => x ≤ y ∧ x ≠ y) → (b.Pairwise fun x y => x ≤ y ∧ x ≠ y) → (∀ x, x ∈ a ↔ x ∈ b) → a = b
  | [], [], _, _, _ => rfl
  | [], y :: b, _, _, h => by have := (h y).2 (by simp); cases this
  | x :: a, [], _, _, h => by have := (h x).1 (by simp); cases this
  | x :: a, y :: b, ha, hb, h => by
    obtain ⟨a1, a2⟩ := List.pairwise_cons.1 ha
    obtain ⟨b1, b2⟩ := List.pairwise_cons.1 hb
    have e : x = y := by
      have hx := (h x).1 (by simp)
      have hy := (h y).2 (by simp)
      rcases List.mem_cons.1 hx with hx | hx
      · exact hx
      · rcases List.mem_cons.1 hy with hy | hy
        · exact hy.symm
        · exact le_as (a1 y hy).1 (b1 x hx).1
    subst e
    rw [strict_eq a2 b2 fun z => ⟨fun hz => ?_, fun hz => ?_⟩]
    · rcases List.mem_cons.1 ((h z).1 (by simp [hz])) with q | q
      · exact absurd q.symm (a1 z hz).2
      · exact q
    · rcases List.mem_cons.1 ((h z).2 (by simp [hz])) with q | q
      · exact absurd q.symm (b1 z hz).2
      · exact q
/-- sorted, each once -/
def uniqS (l : List (List UInt8)) : List (List UInt8) := Lib.compact (sortS l)
theorem uniqS_congr {a b : List (List UInt8)} (h : ∀ x, x ∈ a ↔ x ∈ b) : uniqS a = uniqS b :=
  strict_eq (compact_pair (sortS_pair a)) (compact_pair (sortS_pair b)) fun x => by unfold uniqS; rw [compact_mem, compact_mem, sortS_mem, sortS_mem, h]
theorem uniqS_length (l : List (List UInt8)) : (uniqS l).length ≤ l.length := Nat.le_trans (compact_length _) (Nat.le_of_eq (sortS_length l))
theorem F62.spec {k : Nat} {l : List (List UInt8)} : F62.u k l = some (Lib.compact l) := by
  rw [F62.u, if_pos (compact_length l)]
end Go.Ab
