/- Lineage.Before answers whether both classes occur in the list of numbers and the first place of the one is less than that of the other, for every list and every two numbers. -/
import Derived.Test.YtgkjkmpeeneilaaPLineageBeforeMatchesPlacesx1
import Derived.Test.YtgkjkmpeeneilaaWSized
namespace Go.Proofs.Ytgkjkmpeeneilaa.PrintWords
/-- The word under the short name by which the row's text calls it. -/
abbrev sized_ints := @Go.Proofs.YtgkjkmpeeneilaaW.PrintWords.sized_ints
end Go.Proofs.Ytgkjkmpeeneilaa.PrintWords
namespace Go.Proofs.Ytgkjkmpeeneilaa.Pure
open Go.RowKit Go.Proofs.Ytgkjkmpeeneilaa.PLineageBeforeMatchesPlaces Go.Proofs.YtgkjkmpeeneilaaW.PrintWords Go.Proofs.YtgkjkmpeeneilaaW.PrintLast

theorem wrap_next {i : Int} {n : Nat} (h0 : 0 ≤ i) (h : i < (n : Int)) (hn : n * 8 ≤ 140737488351232) : wrap64 (i + 1) = i + 1 := by
  unfold wrap64
  omega

/-- The search from place i on ends with some answer. -/
theorem index_some (s : List Int) (v : Int) (hn : s.length * 8 ≤ 140737488351232) (d : Nat) : ∀ (k : Nat) (i : Int), 0 ≤ i → i ≤ s.length → (s.length : Int) - i = d → d < k →
    ∃ r, slices_Index_int_int.l0 k s v (s.length : Int) i = some r := by
  induction d with
  | zero =>
    intro k i h0 h1 hd hk
    obtain ⟨k, rfl⟩ : ∃ m, k = m + 1 := ⟨k - 1, by omega⟩
    exact ⟨-1, by simp only [slices_Index_int_int.l0]; rw [if_neg (by omega)]⟩
  | succ d ih =>
    intro k i h0 h1 hd hk
    obtain ⟨k, rfl⟩ : ∃ m, k = m + 1 := ⟨k - 1, by omega⟩
    have hlt : i < (s.length : Int) := by omega
    by_cases hv : v = rd s i
    · exact ⟨i, by simp only [slices_Index_int_int.l0]; rw [if_pos hlt, if_pos h0, if_pos hlt, if_pos hv]⟩
    · obtain ⟨r, hr⟩ := ih k (i + 1) (by omega) (by omega) (by omega) (by omega)
      refine ⟨r, ?_⟩
      simp only [slices_Index_int_int.l0]
      rw [if_pos hlt, if_pos h0, if_pos hlt, if_neg hv, wrap_next h0 hlt hn]
      exact hr

theorem LineageBeforeMatchesPlaces : brindlewoodlaw7_LineageBeforeMatchesPlaces.Pure := by
  intro s a b _ hn _ _ _
  obtain ⟨i, hi⟩ := index_some s a hn s.length (s.length + 1) 0 (by omega) (by omega) (by omega) (by omega)
  obtain ⟨j, hj⟩ := index_some s b hn s.length (s.length + 1) 0 (by omega) (by omega) (by omega) (by omega)
  refine ⟨s.length + 1, ?_⟩
  unfold brindlewoodlaw7_LineageBeforeMatchesPlaces.f lineage_Before.f slices_Index_int_int.f
  rw [hi, hj]
  simp only [Option.bind_some]
  by_cases h1 : i ≥ 0
  · by_cases h2 : j ≥ 0
    · simp only [if_pos h1, if_pos h2]
      simp
    · have h3 : ¬ (j > i) := by omega
      simp only [if_pos h1, if_neg h2]
      simp [h3]
  · simp only [if_neg h1]
    rfl

end Go.Proofs.Ytgkjkmpeeneilaa.Pure
