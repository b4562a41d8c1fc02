/- Integers of the program: signs and limbs; the complement. -/
import Derived.Test.YtdekjkgfohlmgaaGreatDoorN1q
namespace Go.Ab
set_option linter.unusedVariables false
set_option linter.unusedSimpArgs false
/-! ### limbs without leading zeros -/
theorem dl_v32 : ∀ {l : List Int}, Lim l → (∀ hn : l ≠ [], l.getLast hn ≠ 0) → dl (v32 l) = l
  | [], _, _ => dl_zero
  | d :: t, h, hl => by
    have hd := h d List.mem_cons_self
    have ht : Lim t := fun x hx => h x (List.mem_cons_of_mem _ hx)
    have e : (d.toNat + 4294967296 * v32 t) % 4294967296 = d.toNat := by omega
    have e2 : (d.toNat + 4294967296 * v32 t) / 4294967296 = v32 t := by omega
    have ih := dl_v32 ht (fun hn => by have := hl (by simp); rwa [List.getLast_cons hn] at this)
    rw [v32]
    by_cases h0 : d.toNat + 4294967296 * v32 t = 0
    · exfalso
      by_cases hn : t = []
      · subst hn
        have := hl (by simp)
        simp only [List.getLast_singleton] at this
        omega
      · have : v32 t = 0 := by omega
        rw [this, dl_zero] at ih
        exact hn ih.symm
    · rw [dl_pos h0, e, e2, ih]
      congr 1
      omega
/-- an integer as the program has it -/
def isZ (a : X_Int) (s : Bool) (n : Nat) : Prop := a = (s, dl n) ∧ (s = true → n ≠ 0) ∧ (dl n).length ≤ 128
theorem intB_isZ {a : X_Int} (h : intB a = true) (hl : Lim a.2) : isZ a a.1 (v32 a.2) := by
  have h1 := intB_len h
  unfold intB at h
  rw [Bool.and_eq_true] at h
  have hlast : ∀ hn : a.2 ≠ [], a.2.getLast hn ≠ 0 := fun hn => by
    have hp : 0 < a.2.length := List.length_pos_iff.2 hn
    have h2 := h.2
    rw [decide_eq_false (by omega), cond_false, bne_iff_ne, getD_of (by omega)] at h2
    rw [List.getLast_eq_getElem]
    exact h2
  have e := dl_v32 hl hlast
  refine ⟨by rw [e], fun hs hz => ?_, by rw [e]; exact h1⟩
  rw [hz, dl_zero] at e
  rw [← e, hs] at h
  cases h.2
theorem dl_len_lg {n : Nat} (h : (dl n).length ≤ 128) : lg n ≤ 256 := by
  have h1 : n < 65536 ^ (2 * (dl n).length) := by
    have := v32_lt (lim_dl n)
    rwa [v32_dl] at this
  exact Nat.le_trans (lg_le h1) (by omega)
end Go.Ab
