/- Plain lemmas: numbers, gates, searching. No program in sight. -/
import Derived.Test.YtdekjkgfohlmgaaGreatDoorAbG3
namespace Go.Ab
set_option linter.unusedVariables false
set_option linter.unusedSimpArgs false
theorem wrapI {x : Int} (h : -9223372036854775808 ≤ x) (h' : x ≤ 9223372036854775807) : IntKind.i64.wrap x = x := by
  simp only [IntKind.wrap, IntKind.signed, IntKind.bits]
  simp
  split <;> omega
theorem wrapN {i : Nat} (h : i < 9223372036854775807) : IntKind.i64.wrap ((i : Int) + 1) = ((i + 1 : Nat) : Int) := by
  rw [wrapI (by omega) (by omega)]; rfl
theorem gate_pos {R : Type} {k : Nat} (h : 0 < k) (x : Option R) : gate k x = x := by
  cases k with
  | zero => omega
  | succ k => rfl
theorem drop_cons {α : Type} {l : List α} {i : Nat} (h : i < l.length) : l.drop i = l[i] :: l.drop (i + 1) := List.drop_eq_getElem_cons h
theorem getD_of {α : Type} {l : List α} {i : Nat} (h : i < l.length) (z : α) : l.getD i z = l[i] := by simp [List.getD, h]
/-- the first place from i on -/
def idxF {α : Type} (p : α → Bool) : List α → Nat → Int
  | [], _ => -1
  | x :: r, i => bif p x then (i : Int) else idxF p r (i + 1)
theorem idxF_any {α : Type} (p : α → Bool) : ∀ (l : List α) (i : Nat), decide (idxF p l i ≥ 0) = l.any p
  | [], i => by simp [idxF]
  | x :: r, i => by
    unfold idxF
    cases h : p x with
    | true => simp [h]
    | false => simp only [cond_false, List.any_cons, h, Bool.false_or]; exact idxF_any p r (i + 1)
theorem idxF_spec {α : Type} (p : α → Bool) : ∀ (l : List α) (i : Nat), 0 ≤ idxF p l i → ∃ (j : Nat) (h : j < l.length), idxF p l i = ((i + j : Nat) : Int) ∧ p l[j] = true ∧ ∀ (m : Nat) (hm : m < j), p (l[m]'(by omega)) = false
  | [], i, h => by simp [idxF] at h
  | x :: r, i, h => by
    unfold idxF at h ⊢
    cases hp : p x with
    | true => exact ⟨0, by simp, by simp, by simpa using hp, fun m hm => by omega⟩
    | false =>
      rw [hp] at h
      simp only [cond_false] at h ⊢
      obtain ⟨j, hj, h1, h2, h3⟩ := idxF_spec p r (i + 1) h
      refine ⟨j + 1, by simp; omega, by rw [h1]; congr 1; omega, by simpa using h2, fun m hm => ?_⟩
      cases m with
      | zero => simpa using hp
      | succ m => simpa using h3 m (by omega)
end Go.Ab
