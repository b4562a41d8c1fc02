/- A part of the proof: RS5. -/
import Derived.Test.YtgkjkmpeeneilaaRS4
namespace Go.Ab
set_option linter.unusedVariables false
set_option linter.unusedSimpArgs false
theorem fol_eq {l : List X_Param} {i : Nat} (hi : i < l.length) : ((l.length : Int) == ((i + 1 : Nat) : Int) || (l.getD (i + 1) z50).1 != 2) = !folB l i := by
  unfold folB
  by_cases h : i + 1 < l.length
  · rw [show ((l.length : Int) == ((i + 1 : Nat) : Int)) = false by rw [beq_eq_false_iff_ne]; omega, decide_eq_true h]
    simp [bne]
  · rw [show ((l.length : Int) == ((i + 1 : Nat) : Int)) = true by rw [beq_iff_eq]; omega, decide_eq_false h]
    rfl
theorem tw_eq (r : List X_Param) (p : X_Param) : twB r p = (p.2.1 != [] && r.any fun q => q.2.1 == p.2.1) := by
  induction r with
  | nil => simp [twB]
  | cons q r ih =>
    simp only [twB, List.any_cons] at ih ⊢
    rw [ih]
    generalize (q.2.1 == p.2.1) = b1
    generalize (p.2.1 != []) = b2
    generalize (r.any _) = b3
    cases b1 <;> cases b2 <;> cases b3 <;> rfl
theorem code_eq {l : List X_Param} {i : Nat} (hi : i < l.length) (p : X_Param) (last bef : Int) (h0 : 0 ≤ last) (h3 : last ≤ 3) (hb : bef = last ∨ (bef = -1 ∧ last = 0)) :
    rd1 p (twB (l.take i) p) (dfB (l.take i)) (p.1 == 1) (p.1 == 3) (p.1 == 1 && p.2.1 == []) (folB l i) bef = cd1 l i p last (dfB (l.take i)) := by
  rw [tw_eq]
  simp only [cd1, cd2, cd3, cd4, cd5, cd6, cd7, fol_eq hi, rd1, rd2, rd4, rd5, rd5b, rd6]
  have hne : (p.2.1 != []) = !(p.2.1 == []) := rfl
  rw [hne]
  generalize folB l i = b1
  generalize dfB (l.take i) = b2
  generalize (List.any (l.take i) _) = b3
  generalize nameB p.2.1 = b4
  generalize (p.2.1 == []) = b5
  generalize hm : (p.2.2.length : Int) = m
  have hm0 : 0 ≤ m := by omega
  generalize p.1 = c
  clear hm hne
  by_cases hc : c < 0 ∨ c > 3
  · have e1 : (decide (c < 0) || decide (c > 3)) = true := by simpa using hc
    rw [e1, show (c != 0) = true by simp; omega, show (c != 2) = true by simp; omega, show (c == 1) = false by simp; omega, show (c == 3) = false by simp; omega]
    rfl
  · have hm' : m = 0 ∨ m = 1 ∨ (decide (m > 1) = true ∧ decide (m > 0) = true ∧ (m == 1) = false ∧ (m == 0) = false) := by
      by_cases h1 : m = 0
      · exact .inl h1
      · by_cases h2 : m = 1
        · exact .inr (.inl h2)
        · refine .inr (.inr ⟨?_, ?_, ?_, ?_⟩) <;> simp <;> omega
    have hl : last = 0 ∨ last = 1 ∨ last = 2 ∨ last = 3 := by omega
    have hk : c = 0 ∨ c = 1 ∨ c = 2 ∨ c = 3 := by omega
    rcases hb with rfl | ⟨rfl, rfl⟩
    · rcases hm' with rfl | rfl | ⟨e1, e2, e3, e4⟩
      · rcases hl with rfl | rfl | rfl | rfl <;> rcases hk with rfl | rfl | rfl | rfl <;> revert b1 b2 b3 b4 b5 <;> decide
      · rcases hl with rfl | rfl | rfl | rfl <;> rcases hk with rfl | rfl | rfl | rfl <;> revert b1 b2 b3 b4 b5 <;> decide
      · rw [e1, e2, e3, e4]
        rcases hl with rfl | rfl | rfl | rfl <;> rcases hk with rfl | rfl | rfl | rfl <;> revert b1 b2 b3 b4 b5 <;> decide
    · rcases hm' with rfl | rfl | ⟨e1, e2, e3, e4⟩
      · rcases hk with rfl | rfl | rfl | rfl <;> revert b1 b2 b3 b4 b5 <;> decide
      · rcases hk with rfl | rfl | rfl | rfl <;> revert b1 b2 b3 b4 b5 <;> decide
      · rw [e1, e2, e3, e4]
        rcases hk with rfl | rfl | rfl | rfl <;> revert b1 b2 b3 b4 b5 <;> decide
theorem cd1_ok {l : List X_Param} {i : Nat} {p : X_Param} {last : Int} {opt : Bool} (h : (cd1 l i p last opt != 0) = false) : 0 ≤ p.1 ∧ p.1 ≤ 3 := by
  unfold cd1 at h
  by_cases hc : p.1 < 0 ∨ p.1 > 3
  · have e1 : (decide (p.1 < 0) || decide (p.1 > 3)) = true := by simpa using hc
    rw [e1] at h
    cases h
  · omega
theorem check_both {k : Nat} (hk : 24 < k) {l : List X_Param} (hl : l.length ≤ 12) (d : Nat) : ∀ (n i : Nat) (last : Int), i ≤ l.length → l.length - i = d → d < n → 0 ≤ last → last ≤ 3 → (bef13 l i = last ∨ (bef13 l i = -1 ∧ last = 0)) →
    ∃ r, f_arguments_Check.l0 (f_arguments_fault.u k) (f_arguments_isName.u k) (f_slices_ContainsFunc_Param.u k) (f_arguments_Check_c1.u k) k n l (0, 0) last (dfB (l.take i)) l (l.length : Int) (i : Int) = some r ∧ f_ref7_ParamsFault.l0 (f_ref7_At.u k) (f_ref7_NameOk.u k) k n l (0, 0) l (l.length : Int) (i : Int) = some r := by
  induction d with
  | zero =>
    intro n i last hi hd hn _ _ _
    obtain ⟨n, rfl⟩ : ∃ m, n = m + 1 := ⟨n - 1, by omega⟩
    refine ⟨(0, 0), ?_, ?_⟩
    · rw [f_arguments_Check.l0, f_arguments_Check.b_l0, decide_eq_false (by omega), cond_false]
    · rw [f_ref7_ParamsFault.l0, f_ref7_ParamsFault.b_l0, decide_eq_false (by omega), cond_false]
  | succ d ih =>
    intro n i last hi hd hn h0 h3 hb
    obtain ⟨n, rfl⟩ : ∃ m, n = m + 1 := ⟨n - 1, by omega⟩
    have hlt : i < l.length := by omega
    rw [f_arguments_Check.step hk hl hlt, f_ref7_ParamsFault.step hk hl hlt]
    dsimp only
    rw [code_eq hlt l[i] last (bef13 l i) h0 h3 hb]
    cases hc : (cd1 l i l[i] last (dfB (l.take i)) != 0) with
    | true => exact ⟨_, rfl, rfl⟩
    | false =>
      simp only [cond_false]
      have e2 : dfB (l.take (i + 1)) = (dfB (l.take i) || decide (((l[i]).2.2.length : Int) > 0)) := by
        rw [List.take_succ_eq_append_getElem hlt, dfB, List.any_append]; simp [dfB]
      rw [← e2]
      have hp := cd1_ok hc
      refine ih n (i + 1) _ (by omega) (by omega) (by omega) hp.1 hp.2 (.inl ?_)
      rw [bef13, if_pos (by omega), Nat.add_sub_cancel, getD_of hlt]
theorem check_eq {k : Nat} (hk : 24 < k) (l : List X_Param) : ∃ r, f_arguments_Check.u k l = some r ∧ f_ref7_ParamsFault.u k l = some r := by
  show ∃ r, f_arguments_Check.f _ _ _ _ k l = some r ∧ f_ref7_ParamsFault.f _ _ k l = some r
  rw [f_arguments_Check.f, f_arguments_Check.b, f_ref7_ParamsFault.f, f_ref7_ParamsFault.b]
  by_cases h : l.length > 12
  · rw [decide_eq_true (by omega), cond_true, cond_true, f_arguments_fault.spec, f_ref7_At.spec]
    exact ⟨_, rfl, rfl⟩
  · rw [decide_eq_false (by omega), cond_false, cond_false]
    exact check_both hk (by omega) l.length k 0 0 (by omega) (by omega) (by omega) (by omega) (by omega) (.inr ⟨rfl, rfl⟩)
theorem eqT_refl26 (r : X_Fault) : Ty.eqT Y_Fault r r = true := by simp [Ty.eqT]
theorem f_law7_ArgumentsCheckMatchesSpec.law (l : List X_Param) : ∃ k y, f_law7_ArgumentsCheckMatchesSpec.u k l = some y ∧ y = true := by
  obtain ⟨r, h1, h2⟩ := check_eq (k := 25) (by omega) l
  refine ⟨25, true, ?_, rfl⟩
  show f_law7_ArgumentsCheckMatchesSpec.f (f_arguments_Check.u 25) (f_ref7_ParamsFault.u 25) 25 l = _
  rw [f_law7_ArgumentsCheckMatchesSpec.f, f_law7_ArgumentsCheckMatchesSpec.b, h1, h2, Option.bind_some, Option.bind_some, eqT_refl26]
end Go.Ab
