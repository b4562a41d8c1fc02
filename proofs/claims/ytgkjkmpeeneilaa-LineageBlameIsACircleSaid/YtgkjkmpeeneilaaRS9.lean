/- A part of the proof: RS9. -/
import Derived.Test.YtgkjkmpeeneilaaRS8
namespace Go.Ab
set_option linter.unusedVariables false
set_option linter.unusedSimpArgs false
def ini (all : List (List Int)) : List (List Int) := ne (all ++ [heads all])
theorem ne_self {l : List (List Int)} (h : ∀ x ∈ l, x ≠ []) : ne l = l := by
  rw [ne, List.filter_eq_self]
  intro x hx
  cases x with
  | nil => exact absurd rfl (h _ hx)
  | cons a x => simp; omega
theorem good_mem {all : List (List Int)} (h : good all all.length) : ∀ l ∈ all, l ≠ [] ∧ l.length ≤ 40 := by
  intro l hl
  obtain ⟨i, hi, rfl⟩ := List.mem_iff_getElem.1 hl
  have := ocd_ok (h i hi hi)
  exact ⟨this.1, this.2.1⟩
theorem tot_le : ∀ (l : List (List Int)) (m : Nat), (∀ x ∈ l, x.length ≤ m) → tot l ≤ l.length * m
  | [], m, _ => by simp [tot]
  | x :: l, m, h => by
    have h1 := tot_le l m fun y hy => h y (List.mem_cons_of_mem _ hy)
    have h2 := h x List.mem_cons_self
    simp only [tot, List.map_cons, List.sum_cons, List.length_cons, Nat.succ_mul] at h1 ⊢
    omega
theorem MOk.start {all : List (List Int)} (hl : all.length ≤ 8) (h : good all all.length) : MOk [] (all ++ [heads all]) := by
  have hg := good_mem h
  have hh : (heads all).length = all.length := by rw [heads, List.length_map]
  refine ⟨by simp; omega, fun x hx => ?_, ?_⟩
  · rcases List.mem_append.1 hx with hx | hx
    · exact (hg x hx).2
    · rw [List.mem_singleton.1 hx, hh]; omega
  · have h1 := tot_le all 40 fun x hx => (hg x hx).2
    simp only [tot, List.map_append, List.sum_append, List.map_cons, List.map_nil, List.sum_cons, List.sum_nil, List.length_nil] at h1 ⊢
    omega
theorem lists_spec {k : Nat} (hk : 400 < k) {all : List (List Int)} (hl : all.length ≤ 8) (hne : ∀ x ∈ all, x ≠ []) : f_lineage_lists.u k all = some (all ++ [heads all]) := by
  show f_lineage_lists.f _ k all = _
  rw [f_lineage_lists.f, f_lineage_lists.b, f_slices_Clone_Lint.spec (by simp [LIM]; omega), Option.bind_some, List.take_length]
  have key : ∀ (d n i : Nat), i ≤ all.length → all.length - i = d → d < n → f_lineage_lists.l0 (f_slices_Clone_Lint.u k) k n all (heads (all.take i)) all (all.length : Int) (i : Int) = some (all ++ [heads all]) := by
    intro d
    induction d with
    | zero =>
      intro n i hi hd hn
      obtain ⟨n, rfl⟩ : ∃ m, n = m + 1 := ⟨n - 1, by omega⟩
      obtain rfl : i = all.length := by omega
      rw [f_lineage_lists.l0, f_lineage_lists.b_l0, decide_eq_false (by omega), cond_false]
      simp only [List.take_length]
      rw [if_pos ⟨Nat.le_refl _, by simp [LIM]; omega⟩]
      rfl
    | succ d ih =>
      intro n i hi hd hn
      obtain ⟨n, rfl⟩ : ∃ m, n = m + 1 := ⟨n - 1, by omega⟩
      have hlt : i < all.length := by omega
      have hn1 := List.length_pos_iff.2 (hne _ (List.getElem_mem hlt))
      have hh : heads (all.take (i + 1)) = heads (all.take i) ++ [hdI all[i]] := by
        rw [heads, heads, List.take_succ_eq_append_getElem hlt, List.map_append]; rfl
      have hhl : (heads (all.take i)).length ≤ 8 := by rw [heads, List.length_map, List.length_take]; omega
      have nx1 := ih n (i + 1) (by omega) (by omega) (by omega)
      rw [f_lineage_lists.l0, f_lineage_lists.b_l0, decide_eq_true (by omega), cond_true, if_pos ⟨by omega, by omega⟩, Int.toNat_natCast, getD_of hlt, if_pos ⟨by omega, by omega⟩, if_pos ⟨Nat.le_refl _, by simp [LIM]; omega⟩]
      simp only [List.take_length, wrapN (show i < 9223372036854775807 by omega)]
      rw [hh] at nx1
      exact nx1
  exact key all.length k 0 (by omega) (by omega) (by omega)
theorem merged_spec {k : Nat} (hk : 400 < k) {all : List (List Int)} (hl : all.length ≤ 8) (hg : good all all.length) : f_ref7_Merged.u k all = mrg k [] (ini all) := by
  have hne : ∀ x ∈ all, x ≠ [] := fun x hx => (good_mem hg x hx).1
  have hst := MOk.start hl hg
  show f_ref7_Merged.f _ k all = _
  rw [f_ref7_Merged.f, f_ref7_Merged.b]
  have key : ∀ (d n i : Nat), i ≤ all.length → all.length - i = d → d < n → f_ref7_Merged.l0 (f_ref7_inTail.u k) k n [] (all.take i) (heads (all.take i)) all (all.length : Int) (i : Int) = mrg k [] (ini all) := by
    intro d
    induction d with
    | zero =>
      intro n i hi hd hn
      obtain ⟨n, rfl⟩ : ∃ m, n = m + 1 := ⟨n - 1, by omega⟩
      obtain rfl : i = all.length := by omega
      rw [f_ref7_Merged.l0, f_ref7_Merged.b_l0, decide_eq_false (by omega), cond_false]
      simp only [List.take_length]
      have hh : (heads all).length = all.length := by rw [heads, List.length_map]
      by_cases h0 : all = []
      · subst h0
        rw [decide_eq_false (by simp [heads]), cond_false]
        exact rl2_eq hk k [] [] ⟨by simp, by simp, by simp [tot]⟩ (by simp)
      · have h1 := List.length_pos_iff.2 h0
        rw [decide_eq_true (by omega), cond_true, if_pos ⟨Nat.le_refl _, by simp [LIM]; omega⟩]
        have hall : ∀ x ∈ all ++ [heads all], x ≠ [] := by
          intro x hx
          rcases List.mem_append.1 hx with hx | hx
          · exact hne x hx
          · rw [List.mem_singleton.1 hx]; exact List.ne_nil_of_length_pos (by omega)
        have := rl2_eq hk k [] (all ++ [heads all]) hst hall
        rw [ini, ne_self hall]
        exact this
    | succ d ih =>
      intro n i hi hd hn
      obtain ⟨n, rfl⟩ : ∃ m, n = m + 1 := ⟨n - 1, by omega⟩
      have hlt : i < all.length := by omega
      have hn1 := List.length_pos_iff.2 (hne _ (List.getElem_mem hlt))
      have hh : heads (all.take (i + 1)) = heads (all.take i) ++ [hdI all[i]] := by
        rw [heads, heads, List.take_succ_eq_append_getElem hlt, List.map_append]; rfl
      have ht : all.take (i + 1) = all.take i ++ [all[i]] := List.take_succ_eq_append_getElem hlt
      have hhl : (heads (all.take i)).length ≤ 8 := by rw [heads, List.length_map, List.length_take]; omega
      have htl : (all.take i).length ≤ 8 := by rw [List.length_take]; omega
      have nx1 := ih n (i + 1) (by omega) (by omega) (by omega)
      rw [f_ref7_Merged.l0, f_ref7_Merged.b_l0, decide_eq_true (by omega), cond_true, if_pos ⟨by omega, by omega⟩, Int.toNat_natCast, getD_of hlt, if_pos ⟨Nat.le_refl _, by simp only [LIM, List.length_take, List.length_cons, List.length_nil]; omega⟩, if_pos ⟨by omega, by omega⟩, if_pos ⟨Nat.le_refl _, by simp [LIM]; omega⟩]
      rw [wrapN (show i < 9223372036854775807 by omega)]
      generalize all.take i = t at *
      simp only [List.take_length]
      rw [hh, ht] at nx1
      exact nx1
  exact key all.length k 0 (by omega) (by omega) (by omega)
/-- the linearization, or its fault -/
def ord (k : Nat) (all : List (List Int)) (r : X_Fault) : Option (List Int × X_Fault) :=
  bif r.1 != 0 then some ([], r) else (mrg k [] (ini all)).bind fun y => bif decide ((y.2.length : Int) > 0) then some ([], (19, -1)) else bif decide ((y.1.length : Int) ≥ 40) then some ([], (14, -1)) else some (y.1, (0, 0))
theorem order_eq {k : Nat} (hk : 17592186044420 < k) (all : List (List Int)) (hok : ∀ l ∈ all, okI l) : ∃ r, f_lineage_check.u k all = some r ∧ (r.1 = 0 → r = (0, 0) ∧ all.length ≤ 8 ∧ good all all.length) ∧
    f_lineage_Order.u k all = ord k all r ∧ f_ref7_Order.u k all = ord k all r := by
  obtain ⟨r, h1, h2, h3⟩ := check3 hk all hok
  refine ⟨r, h1, h3, ?_, ?_⟩
  · show f_lineage_Order.f _ _ _ _ k all = _
    rw [f_lineage_Order.f, f_lineage_Order.b, h1, Option.bind_some, ord]
    cases hc : (r.1 != 0) with
    | true => rfl
    | false =>
      obtain ⟨rfl, hl, hg⟩ := h3 (by simpa using hc)
      rw [cond_false, cond_false, lists_spec (by omega) hl (fun x hx => (good_mem hg x hx).1), Option.bind_some, List.take_length, merge_spec (by omega) (MOk.start hl hg), ini]
      rfl
  · show f_ref7_Order.f _ _ _ k all = _
    rw [f_ref7_Order.f, f_ref7_Order.b, h2, Option.bind_some, ord]
    cases hc : (r.1 != 0) with
    | true => rfl
    | false =>
      obtain ⟨rfl, hl, hg⟩ := h3 (by simpa using hc)
      rw [cond_false, cond_false, merged_spec (by omega) hl hg]
      rfl
theorem ini_ne (all : List (List Int)) : ∀ x ∈ ini all, x ≠ [] := fun x hx => (ne_mem.1 hx).2
theorem ord_some {k : Nat} (hk : 400 < k) {all : List (List Int)} {r : X_Fault} (h3 : r.1 = 0 → r = (0, 0) ∧ all.length ≤ 8 ∧ good all all.length) : ∃ y, ord k all r = some y ∧ y.1.length ≤ 40 := by
  unfold ord
  cases hc : (r.1 != 0) with
  | true => exact ⟨_, rfl, by simp⟩
  | false =>
    obtain ⟨rfl, hl, hg⟩ := h3 (by simpa using hc)
    have ht := (MOk.start hl hg).sum
    have ht2 : tot (ini all) ≤ 400 := by rw [ini, tot_ne]; simp only [List.length_nil] at ht; omega
    obtain ⟨y, hy⟩ := mrg_some k [] (ini all) (ini_ne all) (by omega)
    rw [cond_false, hy, Option.bind_some]
    by_cases h4 : (y.2.length : Int) > 0
    · rw [decide_eq_true h4]; exact ⟨_, rfl, by simp⟩
    · rw [decide_eq_false h4, cond_false]
      by_cases h5 : (y.1.length : Int) ≥ 40
      · rw [decide_eq_true h5]; exact ⟨_, rfl, by simp⟩
      · rw [decide_eq_false h5]; exact ⟨_, rfl, by simp only; omega⟩
theorem law3 (all : List (List Int)) (hok : ∀ l ∈ all, okI l) : ∃ k y, f_law7_LineageOrderMatchesSpec.u k all = some y ∧ y = true := by
  obtain ⟨r, h1, h3, h4, h5⟩ := order_eq (k := 17592186044421) (by omega) all hok
  obtain ⟨y, hy, hyl⟩ := ord_some (k := 17592186044421) (by omega) h3
  refine ⟨17592186044421, true, ?_, rfl⟩
  show f_law7_LineageOrderMatchesSpec.f (f_lineage_Order.u _) (f_ref7_Order.u _) (f_ref7_Ints.u _) 17592186044421 all = _
  rw [f_law7_LineageOrderMatchesSpec.f, f_law7_LineageOrderMatchesSpec.b, h4, h5, hy, Option.bind_some, Option.bind_some, show Ty.eqT Y_Fault y.2 y.2 = true by simp [Ty.eqT], cond_true, f_ref7_Ints.spec (by omega) (by omega), Option.bind_some]
  simp
end Go.Ab
