/- A part of the proof: RS2. -/
import Derived.Test.YtgkjkmpeeneilaaRS1
namespace Go.Ab
set_option linter.unusedVariables false
set_option linter.unusedSimpArgs false
def letterI (c : Int) : Bool := decide (97 ≤ c) && decide (c ≤ 122) || decide (65 ≤ c) && decide (c ≤ 90) || (c == 95)
def digitI (c : Int) : Bool := decide (48 ≤ c) && decide (c ≤ 57)
theorem f_arguments_isName_c1.spec {k : Nat} (c : Int) : f_arguments_isName_c1.u k c = some (!(letterI c || digitI c)) := by
  show f_arguments_isName_c1.f k c = _
  simp only [f_arguments_isName_c1.f, f_arguments_isName_c1.b, letterI, digitI, Bool.cond_eq_ite, decide_eq_true_eq]
  repeat' split
  all_goals (congr 1; rw [Bool.eq_iff_iff]; simp; try omega)
abbrev chI (c : UInt8) : Int := (c.toNat : Int)
/-- names -/
def nameB (s : List UInt8) : Bool := match s with
  | [] => false
  | c :: r => decide (r.length < 24) && !digitI (chI c) && (c :: r).all fun c => letterI (chI c) || digitI (chI c)
theorem f_arguments_isName.spec {k : Nat} {s : List UInt8} (hk : 24 < k) : f_arguments_isName.u k s = some (nameB s) := by
  show f_arguments_isName.f (f_slices_ContainsFunc_byte.u k) (f_arguments_isName_c1.u k) k s = _
  rw [f_arguments_isName.f, f_arguments_isName.b]
  cases s with
  | nil => rfl
  | cons c r =>
    rw [show ((c :: r) == []) = false from rfl, cond_false]
    by_cases hl : (c :: r).length > 24
    · rw [decide_eq_true (by omega), cond_true]
      have : ¬ r.length < 24 := by simp at hl; omega
      simp [nameB, this]
    · have hr : r.length < 24 := by simp at hl; omega
      have key : f_arguments_isName.g3 (f_slices_ContainsFunc_byte.u k) (f_arguments_isName_c1.u k) k (c :: r) = some ((c :: r).all fun c => letterI (chI c) || digitI (chI c)) := by
        rw [f_arguments_isName.g3, gate_pos (by omega), f_arguments_isName.b_g3, f_slices_ContainsFunc_byte.spec (p := fun c => !(letterI c || digitI c)) (fun x _ => by rw [f_arguments_isName_c1.spec]; rfl) (by simp; omega) (by simp; omega), Option.bind_some]
        congr 1
        rw [List.any_map]
        simp only [Function.comp_def, chI]
        rw [← List.not_all_eq_any_not, Bool.not_not]
      rw [decide_eq_false (by omega), cond_false, key]
      simp only [if_pos (show (0 : Int) ≤ 0 ∧ (0 : Int) < ((c :: r).length : Int) by simp)]
      have hz : (c :: r).getD (Int.toNat 0) 0 = c := rfl
      rw [hz]
      by_cases h1 : (c.toNat : Int) ≥ 48
      · rw [decide_eq_true h1, cond_true]
        by_cases h2 : (c.toNat : Int) ≤ 57
        · rw [decide_eq_true h2, cond_true]
          simp [nameB, digitI, chI, hr, h2, show (48 : Int) ≤ (c.toNat : Int) from h1]
        · rw [decide_eq_false h2, cond_false]
          simp [nameB, digitI, chI, hr, h2]
      · rw [decide_eq_false h1, cond_false]
        simp [nameB, digitI, chI, hr, show ¬ (48 : Int) ≤ (c.toNat : Int) from h1]
/-- from place i on -/
theorem f_ref7_NameOk.l0_spec {k : Nat} {s : List UInt8} (hl : s.length ≤ 24) (hk : 24 < k) (d : Nat) : ∀ (n i : Nat), 0 < i → i ≤ s.length → s.length - i = d → d < n →
    f_ref7_NameOk.l0 k n s (i : Int) = some ((s.drop i).all fun c => letterI (chI c) || digitI (chI c)) := by
  induction d with
  | zero =>
    intro n i h0 hi hd hn
    obtain ⟨n, rfl⟩ : ∃ m, n = m + 1 := ⟨n - 1, by omega⟩
    rw [f_ref7_NameOk.l0, f_ref7_NameOk.b_l0, decide_eq_false (by omega), cond_false, List.drop_of_length_le (by omega)]
    rfl
  | succ d ih =>
    intro n i h0 hi hd hn
    obtain ⟨n, rfl⟩ : ∃ m, n = m + 1 := ⟨n - 1, by omega⟩
    have hlt : i < s.length := by omega
    have hz : s.getD i 0 = s[i] := getD_of hlt 0
    have nx := ih n (i + 1) (by omega) (by omega) (by omega) (by omega)
    rw [f_ref7_NameOk.l0, f_ref7_NameOk.b_l0, decide_eq_true (by omega), cond_true, if_pos ⟨by omega, by omega⟩, Int.toNat_natCast, hz, drop_cons hlt]
    have hi0 : ((i : Int) == 0) = false := by simp; omega
    simp only [f_ref7_NameOk.g8, gate_pos (show 0 < k by omega), f_ref7_NameOk.b_g8, wrapN (show i < 9223372036854775807 by omega), nx, List.all_cons, hi0, cond_false]
    generalize (List.all (List.drop (i + 1) s) _) = b
    simp only [letterI, digitI, chI]
    simp only [Bool.cond_eq_ite, decide_eq_true_eq]
    repeat' split
    all_goals (clear ih nx hz hi0; congr 1; rw [Bool.eq_iff_iff]; simp at *; try omega)
theorem f_ref7_NameOk.spec {k : Nat} {s : List UInt8} (hk : 24 < k) : f_ref7_NameOk.u k s = some (nameB s) := by
  show f_ref7_NameOk.f k s = _
  rw [f_ref7_NameOk.f, f_ref7_NameOk.b]
  cases s with
  | nil => rfl
  | cons c r =>
    rw [decide_eq_false (by simp; omega), cond_false]
    by_cases hl : (c :: r).length > 24
    · rw [decide_eq_true (by omega), cond_true]
      have : ¬ r.length < 24 := by simp at hl; omega
      simp [nameB, this]
    · have hr : r.length < 24 := by simp at hl; omega
      obtain ⟨k', rfl⟩ : ∃ m, k = m + 1 := ⟨k - 1, by omega⟩
      have nx := f_ref7_NameOk.l0_spec (k := k' + 1) (s := c :: r) (by omega) (by omega) r.length k' 1 (by omega) (by simp) (by simp) (by omega)
      rw [decide_eq_false (by omega), cond_false, f_ref7_NameOk.l0, f_ref7_NameOk.b_l0, decide_eq_true (by simp), cond_true, if_pos ⟨by omega, by simp⟩, show (c :: r).getD (Int.toNat 0) 0 = c from rfl]
      simp only [f_ref7_NameOk.g8, gate_pos (show 0 < k' + 1 by omega), f_ref7_NameOk.b_g8, show IntKind.i64.wrap ((0 : Int) + 1) = ((1 : Nat) : Int) from rfl, nx, nameB, List.all_cons, show ((0 : Int) == 0) = true from rfl, cond_true]
      rw [show List.drop 1 (c :: r) = r from rfl, decide_eq_true hr]
      generalize (List.all r _) = b
      simp only [letterI, digitI, chI]
      simp only [Bool.cond_eq_ite, decide_eq_true_eq]
      repeat' split
      all_goals (clear nx; congr 1; rw [Bool.eq_iff_iff]; cases b <;> simp at * <;> omega)
end Go.Ab
