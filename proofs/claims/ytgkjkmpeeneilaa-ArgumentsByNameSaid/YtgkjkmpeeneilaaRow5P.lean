/- A part of the proof: Row5P. -/
import Derived.Test.YtgkjkmpeeneilaaRS28
import Derived.Test.YtgkjkmpeeneilaaAbG2
namespace Go.Ab
open Go.Proofs
set_option linter.unusedVariables false
set_option linter.unusedSimpArgs false
theorem bytes51 : Try.prog.bytesOf 51 = 48 := by kernel_rfl
theorem bytes58 : Try.prog.bytesOf 58 = 96 := by kernel_rfl
theorem bytes9 : Try.prog.bytesOf 9 = 16 := by kernel_rfl
theorem bytes113 : Try.prog.bytesOf 113 = 4 := by kernel_rfl
theorem len_of {n b : Nat} (h : n * b ≤ reachBytes) (hb : 4 ≤ b) : n ≤ BIG := by
  have h1 : n * 4 ≤ n * b := Nat.mul_le_mul_left n hb
  unfold reachBytes at h
  unfold BIG
  omega
theorem str_of {s : List UInt8} (h : Okd Try.prog.bytesOf .str s) : s.length ≤ 140737488355328 := by
  have h1 : s.length ≤ reachBytes := h
  unfold reachBytes at h1
  omega
theorem vOk_of {v : X_Value} (h : Okd Try.prog.bytesOf Y_Value v) : vOk v := by
  obtain ⟨_, ⟨_, h1, _⟩, ⟨_, h2, _⟩, _⟩ := h
  rw [bytes113] at h1 h2
  exact ⟨len_of h1 (by omega), len_of h2 (by omega)⟩
theorem vals_of {l : List X_Value} (h : Okd Try.prog.bytesOf (.sl 58 Y_Value) l) : l.length ≤ BIG ∧ ∀ v ∈ l, vOk v := by
  obtain ⟨h1, h2⟩ := h
  rw [bytes58] at h1
  exact ⟨len_of h1 (by omega), fun v hv => vOk_of (h2 v hv)⟩
theorem strs_of {l : List (List UInt8)} (h : Okd Try.prog.bytesOf (.sl 9 .str) l) : l.length ≤ BIG ∧ ∀ v ∈ l, v.length ≤ 140737488355328 := by
  obtain ⟨h1, h2⟩ := h
  rw [bytes9] at h1
  exact ⟨len_of h1 (by omega), fun v hv => str_of (h2 v hv)⟩
theorem pars_of {l : List X_Param} (h : Okd Try.prog.bytesOf (.sl 51 Y_Param) l) : ∀ p ∈ l, p.2.1.length ≤ 140737488355328 := fun p hp => str_of (h.2 p hp).2.1
theorem plain5 (x : (List X_Param) × ((List X_Value) × (X_Arguments × List UInt8))) (h : OkArgs Try.prog.bytesOf [.sl 51 Y_Param, .sl 58 Y_Value, Y_Arguments, .str] x) : ∃ k y, f_law7_ArgumentsBindMatchesSpec.u k x = some y ∧ y = true := by
  obtain ⟨hP, hD, hA, hf⟩ := h
  have h1 := vals_of hD
  have h2 := vals_of hA.1
  have h3 := strs_of hA.2.1
  have h4 := vals_of hA.2.2
  exact law5 x.1 x.2.1 x.2.2.1 x.2.2.2 ⟨h1.1, h2.1, h3.1, h4.1, str_of hf, h3.2, pars_of hP⟩ h1.2 h2.2 h4.2
end Go.Ab
