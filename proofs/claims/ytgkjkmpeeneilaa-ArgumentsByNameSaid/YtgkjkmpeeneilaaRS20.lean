/- A part of the proof: RS20. -/
import Derived.Test.YtgkjkmpeeneilaaRS5
namespace Go.Ab
set_option linter.unusedVariables false
set_option linter.unusedSimpArgs false
/-- parameters without fault -/
structure PV (P : List X_Param) : Prop where
  len : P.length ≤ 12
  kind : ∀ p ∈ P, 0 ≤ p.1 ∧ p.1 ≤ 3
  name : ∀ p ∈ P, p.1 ≠ 1 → p.2.1 ≠ []
  dflt : ∀ p ∈ P, p.2.2.length ≤ 1 ∧ (p.1 = 1 ∨ p.1 = 3 → p.2.2.length = 0)
  sorted : ∀ (i j : Nat) (hi : i < P.length) (hj : j < P.length), i < j → (P[i]).1 ≤ (P[j]).1
  once : ∀ (i j : Nat) (hi : i < P.length) (hj : j < P.length), i < j → (P[i]).1 = (P[j]).1 → (P[i]).1 ≠ 1 ∧ (P[i]).1 ≠ 3
  uniq : ∀ (i j : Nat) (hi : i < P.length) (hj : j < P.length), i < j → (P[i]).2.1 = (P[j]).2.1 → (P[j]).2.1 = []
structure RdOk (p : X_Param) (tw : Bool) (bef : Int) : Prop where
  kind : p.1 = 0 ∨ p.1 = 1 ∨ p.1 = 2 ∨ p.1 = 3
  name : p.1 ≠ 1 → p.2.1 ≠ []
  tw : tw = false
  len : p.2.2.length ≤ 1 ∧ (p.1 = 1 ∨ p.1 = 3 → p.2.2.length = 0)
  bef : bef ≤ p.1 ∧ (p.1 = 1 ∨ p.1 = 3 → p.1 ≠ bef)
theorem rd_ok {p : X_Param} {tw df fol : Bool} {bef : Int} (h : (rd1 p tw df (p.1 == 1) (p.1 == 3) (p.1 == 1 && p.2.1 == []) fol bef != 0) = false) : RdOk p tw bef := by
  have h0 : rd1 p tw df (p.1 == 1) (p.1 == 3) (p.1 == 1 && p.2.1 == []) fol bef = 0 := by simpa using h
  unfold rd1 at h0
  cases c1 : (p.1 != 0 && (p.1 != 2 && (!(p.1 == 1) && !(p.1 == 3)))) with
  | true => rw [c1] at h0; cases h0
  | false =>
    have k1 : p.1 = 0 ∨ p.1 = 1 ∨ p.1 = 2 ∨ p.1 = 3 := by
      simp only [Bool.and_eq_false_iff, bne_eq_false_iff_eq, Bool.not_eq_false', beq_iff_eq] at c1
      omega
    rw [c1, cond_false] at h0
    unfold rd2 at h0
    cases c2 : (!(p.1 == 1 && p.2.1 == []) && !nameB p.2.1) with
    | true => rw [c2] at h0; cases h0
    | false =>
      rw [c2, cond_false] at h0
      cases c3 : tw with
      | true => rw [c3] at h0; cases h0
      | false =>
        rw [c3, cond_false] at h0
        unfold rd4 at h0
        cases c4 : (decide ((p.2.2.length : Int) > 1) || (p.2.2.length : Int) == 1 && (p.1 == 1 || p.1 == 3)) with
        | true => rw [c4] at h0; cases h0
        | false =>
          rw [c4, cond_false] at h0
          unfold rd5 at h0
          cases c5 : (decide (p.1 < bef) || (p.1 == 1 || p.1 == 3) && p.1 == bef) with
          | true => rw [c5] at h0; cases h0
          | false =>
            refine ⟨k1, fun hk hn => ?_, rfl, ?_, ?_⟩
            · rw [hn, show (p.1 == 1) = false by simpa using hk] at c2
              simp [nameB] at c2
            · simp at c4
              omega
            · simp at c5
              omega
/-- what a result without fault says -/
theorem fault_all {k : Nat} (hk : 24 < k) {l : List X_Param} (hl : l.length ≤ 12) (d : Nat) : ∀ (n i : Nat) (r : X_Fault), i ≤ l.length → l.length - i = d → d < n → f_ref7_ParamsFault.l0 (f_ref7_At.u k) (f_ref7_NameOk.u k) k n l (0, 0) l (l.length : Int) (i : Int) = some r → r.1 = 0 →
    r = (0, 0) ∧ ∀ (j : Nat) (hj : j < l.length), i ≤ j → RdOk l[j] (twB (l.take j) l[j]) (bef13 l j) := by
  induction d with
  | zero =>
    intro n i r hi hd hn h hr
    obtain ⟨n, rfl⟩ : ∃ m, n = m + 1 := ⟨n - 1, by omega⟩
    rw [f_ref7_ParamsFault.l0, f_ref7_ParamsFault.b_l0, decide_eq_false (by omega), cond_false] at h
    cases h
    exact ⟨rfl, fun j hj hij => by omega⟩
  | succ d ih =>
    intro n i r hi hd hn h hr
    obtain ⟨n, rfl⟩ : ∃ m, n = m + 1 := ⟨n - 1, by omega⟩
    have hlt : i < l.length := by omega
    rw [f_ref7_ParamsFault.step hk hl hlt] at h
    dsimp only at h
    cases hc : (rd1 l[i] (twB (l.take i) l[i]) (dfB (l.take i)) ((l[i]).1 == 1) ((l[i]).1 == 3) ((l[i]).1 == 1 && (l[i]).2.1 == []) (folB l i) (bef13 l i) != 0) with
    | true =>
      rw [hc, cond_true] at h
      cases h
      rw [bne_iff_ne] at hc
      exact absurd hr hc
    | false =>
      rw [hc, cond_false] at h
      obtain ⟨h1, h2⟩ := ih n (i + 1) r (by omega) (by omega) (by omega) h hr
      refine ⟨h1, fun j hj hij => ?_⟩
      by_cases e : j = i
      · subst e; exact rd_ok hc
      · exact h2 j hj (by omega)
theorem PV.of {k : Nat} (hk : 24 < k) {l : List X_Param} {r : X_Fault} (h : f_ref7_ParamsFault.u k l = some r) (hr : r.1 = 0) : r = (0, 0) ∧ PV l := by
  have h' : f_ref7_ParamsFault.f (f_ref7_At.u k) (f_ref7_NameOk.u k) k l = some r := h
  rw [f_ref7_ParamsFault.f, f_ref7_ParamsFault.b] at h'
  by_cases hl : l.length > 12
  · rw [decide_eq_true (by omega), cond_true] at h'
    cases h'
    cases hr
  · rw [decide_eq_false (by omega), cond_false] at h'
    obtain ⟨h1, h2⟩ := fault_all hk (by omega) l.length k 0 r (by omega) (by omega) (by omega) h' hr
    have h3 : ∀ p ∈ l, ∃ tw bef, RdOk p tw bef := by
      intro p hp
      obtain ⟨i, hi, rfl⟩ := List.mem_iff_getElem.1 hp
      exact ⟨_, _, h2 i hi (by omega)⟩
    have hstep : ∀ (j : Nat) (hj : j + 1 < l.length), (l[j]).1 ≤ (l[j + 1]).1 ∧ ((l[j + 1]).1 = 1 ∨ (l[j + 1]).1 = 3 → (l[j + 1]).1 ≠ (l[j]).1) := by
      intro j hj
      have := (h2 (j + 1) hj (by omega)).bef
      rw [show bef13 l (j + 1) = (l[j]).1 by rw [bef13, if_pos (by omega), Nat.add_sub_cancel, getD_of]] at this
      exact this
    have hsort : ∀ (d i j : Nat) (hi : i < l.length) (hj : j < l.length), j = i + d → (l[i]).1 ≤ (l[j]).1 := by
      intro d
      induction d with
      | zero => intro i j hi hj e; simp only [show j = i by omega]; exact Int.le_refl _
      | succ d ih =>
        intro i j hi hj e
        have h4 := ih i (i + d) hi (by omega) rfl
        have h5 := (hstep (i + d) (by omega)).1
        simp only [show j = i + d + 1 by omega]
        omega
    refine ⟨h1, by omega, fun p hp => ?_, fun p hp => ?_, fun p hp => ?_, fun i j hi hj hij => hsort (j - i) i j hi hj (by omega), fun i j hi hj hij he => ?_, fun i j hi hj hij he => ?_⟩
    · obtain ⟨_, _, h⟩ := h3 p hp
      have := h.kind
      omega
    · obtain ⟨_, _, h⟩ := h3 p hp
      exact h.name
    · obtain ⟨_, _, h⟩ := h3 p hp
      exact h.len
    · obtain ⟨j, rfl⟩ : ∃ m, j = m + 1 := ⟨j - 1, by omega⟩
      have h4 := hsort (j - i) i j hi (by omega) (by omega)
      have h5 := hstep j hj
      constructor
      · intro h6
        exact h5.2 (.inl (by omega)) (by omega)
      · intro h6
        exact h5.2 (.inr (by omega)) (by omega)
    · have h4 := (h2 j hj (by omega)).tw
      unfold twB at h4
      rw [List.any_eq_false] at h4
      have h5 := h4 l[i] (List.mem_take_iff_getElem.2 ⟨i, by omega, rfl⟩)
      simpa [he] using h5
end Go.Ab
