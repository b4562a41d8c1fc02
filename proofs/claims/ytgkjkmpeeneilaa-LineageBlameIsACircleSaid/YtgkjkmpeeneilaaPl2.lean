/- Plain lemmas: the first place in a list; lists without repetition. No program in sight. -/
import Derived.Test.YtgkjkmpeeneilaaPl1
namespace Go.Ab
set_option linter.unusedVariables false
set_option linter.unusedSimpArgs false
theorem idxF_at {α : Type} (p : α → Bool) : ∀ (l : List α) (i : Nat), l.any p = true → ∃ (j : Nat) (hj : j < l.length), idxF p l i = ((i + j : Nat) : Int) ∧ p l[j] = true
  | [], i, h => by cases h
  | x :: l, i, h => by
    rw [show idxF p (x :: l) i = bif p x then (i : Int) else idxF p l (i + 1) from rfl]
    cases hp : p x with
    | true => exact ⟨0, by simp, by simp, by simpa using hp⟩
    | false =>
      rw [cond_false]
      obtain ⟨j, hj, e, q⟩ := idxF_at p l (i + 1) (by simpa [hp] using h)
      exact ⟨j + 1, by simpa using hj, by rw [e]; congr 1; omega, by simpa using q⟩
theorem nodup_inj {α : Type} {l : List α} (h : l.Nodup) {i j : Nat} (hi : i < l.length) (hj : j < l.length) (e : l[i] = l[j]) : i = j := by
  rw [List.Nodup, List.pairwise_iff_getElem] at h
  rcases Nat.lt_trichotomy i j with h1 | h1 | h1
  · exact absurd e (h i j hi hj h1)
  · exact h1
  · exact absurd e.symm (h j i hj hi h1)
end Go.Ab
