/- Law 11: values and their classes. -/
import Derived.Test.YtgbihmngjppomaaGreatDoorW0n
import Derived.Test.YtgbihmngjppomaaGreatDoorW1a
namespace Go.Ab
set_option linter.unusedVariables false
set_option linter.unusedSimpArgs false
/-! ### names -/
def ltr (c : Int) : Bool := c == 95 || ((decide (97 ≤ c) && decide (c ≤ 122)) || (decide (65 ≤ c) && decide (c ≤ 90)))
def dgt (c : Int) : Bool := decide (48 ≤ c) && decide (c ≤ 57)
/-- the letters of a name from a place on; z: the place is the first -/
def nmL : Bool → List UInt8 → Bool
  | _, [] => true
  | z, c :: l => (ltr (c.toNat : Int) || (!z && dgt (c.toNat : Int))) && nmL false l
def nmB (s : List UInt8) : Bool := decide (1 ≤ s.length) && (decide (s.length ≤ 24) && nmL true s)
theorem reg (c : Int) : (c ≤ 47) ∨ (48 ≤ c ∧ c ≤ 57) ∨ (58 ≤ c ∧ c ≤ 64) ∨ (65 ≤ c ∧ c ≤ 90) ∨ (91 ≤ c ∧ c ≤ 94) ∨ (95 ≤ c ∧ c ≤ 95) ∨ (96 ≤ c ∧ c ≤ 96) ∨ (97 ≤ c ∧ c ≤ 122) ∨ (123 ≤ c) := by omega
theorem F24.l0_spec {k : Nat} (hk : 0 < k) {s : List UInt8} (hs : s.length ≤ 1000000) : ∀ (d n i : Nat), s.length - i = d → d < n → i ≤ s.length → F24.l0 k n s (i : Int) = some (nmL (decide (i = 0)) (s.drop i)) := by
  intro d
  induction d with
  | zero =>
    intro n i hd hn hi
    obtain ⟨n, rfl⟩ : ∃ m, n = m + 1 := ⟨n - 1, by omega⟩
    rw [F24.l0, F24.b_l0, decide_eq_false (by omega), cond_false, List.drop_of_length_le (by omega)]
    cases decide (i = 0) <;> rfl
  | succ d ih =>
    intro n i hd hn hi
    obtain ⟨n, rfl⟩ : ∃ m, n = m + 1 := ⟨n - 1, by omega⟩
    have hlt : i < s.length := by omega
    have h := ih n (i + 1) (by omega) (by omega) (by omega)
    rw [decide_eq_false (by omega)] at h
    have hg : ∀ (c : Int) (b : Bool), F24.g8 k (fun x0 x3 => F24.l0 k n x0 x3) s (i : Int) c b = some ((b || (!decide (i = 0) && dgt c)) && nmL false (s.drop (i + 1))) := by
      intro c b
      rw [F24.g8, gate_pos hk, F24.q_g8, F24.c_g8, wrapN (by omega), h]
      cases b with
      | true => rfl
      | false =>
        rw [Bool.not_false, cond_true]
        by_cases h0 : i = 0
        · rw [decide_eq_true h0, show ((i : Int) == 0) = true by simp; omega]; rfl
        · rw [decide_eq_false h0, show ((i : Int) == 0) = false by simp; omega, cond_false]
          unfold dgt
          by_cases h1 : c < 48
          · rw [decide_eq_true h1, decide_eq_false (show ¬ 48 ≤ c by omega)]; rfl
          · rw [decide_eq_false h1, decide_eq_true (show 48 ≤ c by omega), cond_false]
            by_cases h2 : c > 57
            · rw [decide_eq_true h2, decide_eq_false (show ¬ c ≤ 57 by omega)]; rfl
            · rw [decide_eq_false h2, decide_eq_true (show c ≤ 57 by omega)]; rfl
    rw [F24.l0, F24.b_l0, decide_eq_true (by omega), cond_true, if_pos ⟨by omega, by omega⟩, Int.toNat_natCast, getD_of hlt, drop_cons hlt, nmL]
    simp only [hg]
    unfold ltr
    generalize ((s[i]).toNat : Int) = c
    generalize decide (i = 0) = z
    generalize nmL false (s.drop (i + 1)) = m
    generalize dgt c = g
    rcases reg c with r | r | r | r | r | r | r | r | r
    · simp only [show decide (c < 97) = true from decide_eq_true (by omega), show decide (c < 65) = true from decide_eq_true (by omega), show decide (c < 48) = true from decide_eq_true (by omega), show decide (c > 57) = false from decide_eq_false (by omega), show decide (c > 90) = false from decide_eq_false (by omega), show decide (c > 122) = false from decide_eq_false (by omega), show decide (97 ≤ c) = false from decide_eq_false (by omega), show decide (65 ≤ c) = false from decide_eq_false (by omega), show decide (48 ≤ c) = false from decide_eq_false (by omega), show decide (c ≤ 57) = true from decide_eq_true (by omega), show decide (c ≤ 90) = true from decide_eq_true (by omega), show decide (c ≤ 122) = true from decide_eq_true (by omega), show (c != 95) = true by simp; omega, show (c == 95) = false by simp; omega, cond_true, cond_false, Bool.true_or, Bool.or_true, Bool.false_or, Bool.or_false, Bool.true_and, Bool.and_true, Bool.false_and, Bool.and_false]
    · simp only [show decide (c < 97) = true from decide_eq_true (by omega), show decide (c < 65) = true from decide_eq_true (by omega), show decide (c < 48) = false from decide_eq_false (by omega), show decide (c > 57) = false from decide_eq_false (by omega), show decide (c > 90) = false from decide_eq_false (by omega), show decide (c > 122) = false from decide_eq_false (by omega), show decide (97 ≤ c) = false from decide_eq_false (by omega), show decide (65 ≤ c) = false from decide_eq_false (by omega), show decide (48 ≤ c) = true from decide_eq_true (by omega), show decide (c ≤ 57) = true from decide_eq_true (by omega), show decide (c ≤ 90) = true from decide_eq_true (by omega), show decide (c ≤ 122) = true from decide_eq_true (by omega), show (c != 95) = true by simp; omega, show (c == 95) = false by simp; omega, cond_true, cond_false, Bool.true_or, Bool.or_true, Bool.false_or, Bool.or_false, Bool.true_and, Bool.and_true, Bool.false_and, Bool.and_false]
    · simp only [show decide (c < 97) = true from decide_eq_true (by omega), show decide (c < 65) = true from decide_eq_true (by omega), show decide (c < 48) = false from decide_eq_false (by omega), show decide (c > 57) = true from decide_eq_true (by omega), show decide (c > 90) = false from decide_eq_false (by omega), show decide (c > 122) = false from decide_eq_false (by omega), show decide (97 ≤ c) = false from decide_eq_false (by omega), show decide (65 ≤ c) = false from decide_eq_false (by omega), show decide (48 ≤ c) = true from decide_eq_true (by omega), show decide (c ≤ 57) = false from decide_eq_false (by omega), show decide (c ≤ 90) = true from decide_eq_true (by omega), show decide (c ≤ 122) = true from decide_eq_true (by omega), show (c != 95) = true by simp; omega, show (c == 95) = false by simp; omega, cond_true, cond_false, Bool.true_or, Bool.or_true, Bool.false_or, Bool.or_false, Bool.true_and, Bool.and_true, Bool.false_and, Bool.and_false]
    · simp only [show decide (c < 97) = true from decide_eq_true (by omega), show decide (c < 65) = false from decide_eq_false (by omega), show decide (c < 48) = false from decide_eq_false (by omega), show decide (c > 57) = true from decide_eq_true (by omega), show decide (c > 90) = false from decide_eq_false (by omega), show decide (c > 122) = false from decide_eq_false (by omega), show decide (97 ≤ c) = false from decide_eq_false (by omega), show decide (65 ≤ c) = true from decide_eq_true (by omega), show decide (48 ≤ c) = true from decide_eq_true (by omega), show decide (c ≤ 57) = false from decide_eq_false (by omega), show decide (c ≤ 90) = true from decide_eq_true (by omega), show decide (c ≤ 122) = true from decide_eq_true (by omega), show (c != 95) = true by simp; omega, show (c == 95) = false by simp; omega, cond_true, cond_false, Bool.true_or, Bool.or_true, Bool.false_or, Bool.or_false, Bool.true_and, Bool.and_true, Bool.false_and, Bool.and_false]
    · simp only [show decide (c < 97) = true from decide_eq_true (by omega), show decide (c < 65) = false from decide_eq_false (by omega), show decide (c < 48) = false from decide_eq_false (by omega), show decide (c > 57) = true from decide_eq_true (by omega), show decide (c > 90) = true from decide_eq_true (by omega), show decide (c > 122) = false from decide_eq_false (by omega), show decide (97 ≤ c) = false from decide_eq_false (by omega), show decide (65 ≤ c) = true from decide_eq_true (by omega), show decide (48 ≤ c) = true from decide_eq_true (by omega), show decide (c ≤ 57) = false from decide_eq_false (by omega), show decide (c ≤ 90) = false from decide_eq_false (by omega), show decide (c ≤ 122) = true from decide_eq_true (by omega), show (c != 95) = true by simp; omega, show (c == 95) = false by simp; omega, cond_true, cond_false, Bool.true_or, Bool.or_true, Bool.false_or, Bool.or_false, Bool.true_and, Bool.and_true, Bool.false_and, Bool.and_false]
    · simp only [show decide (c < 97) = true from decide_eq_true (by omega), show decide (c < 65) = false from decide_eq_false (by omega), show decide (c < 48) = false from decide_eq_false (by omega), show decide (c > 57) = true from decide_eq_true (by omega), show decide (c > 90) = true from decide_eq_true (by omega), show decide (c > 122) = false from decide_eq_false (by omega), show decide (97 ≤ c) = false from decide_eq_false (by omega), show decide (65 ≤ c) = true from decide_eq_true (by omega), show decide (48 ≤ c) = true from decide_eq_true (by omega), show decide (c ≤ 57) = false from decide_eq_false (by omega), show decide (c ≤ 90) = false from decide_eq_false (by omega), show decide (c ≤ 122) = true from decide_eq_true (by omega), show (c != 95) = false by simp; omega, show (c == 95) = true by simp; omega, cond_true, cond_false, Bool.true_or, Bool.or_true, Bool.false_or, Bool.or_false, Bool.true_and, Bool.and_true, Bool.false_and, Bool.and_false]
    · simp only [show decide (c < 97) = true from decide_eq_true (by omega), show decide (c < 65) = false from decide_eq_false (by omega), show decide (c < 48) = false from decide_eq_false (by omega), show decide (c > 57) = true from decide_eq_true (by omega), show decide (c > 90) = true from decide_eq_true (by omega), show decide (c > 122) = false from decide_eq_false (by omega), show decide (97 ≤ c) = false from decide_eq_false (by omega), show decide (65 ≤ c) = true from decide_eq_true (by omega), show decide (48 ≤ c) = true from decide_eq_true (by omega), show decide (c ≤ 57) = false from decide_eq_false (by omega), show decide (c ≤ 90) = false from decide_eq_false (by omega), show decide (c ≤ 122) = true from decide_eq_true (by omega), show (c != 95) = true by simp; omega, show (c == 95) = false by simp; omega, cond_true, cond_false, Bool.true_or, Bool.or_true, Bool.false_or, Bool.or_false, Bool.true_and, Bool.and_true, Bool.false_and, Bool.and_false]
    · simp only [show decide (c < 97) = false from decide_eq_false (by omega), show decide (c < 65) = false from decide_eq_false (by omega), show decide (c < 48) = false from decide_eq_false (by omega), show decide (c > 57) = true from decide_eq_true (by omega), show decide (c > 90) = true from decide_eq_true (by omega), show decide (c > 122) = false from decide_eq_false (by omega), show decide (97 ≤ c) = true from decide_eq_true (by omega), show decide (65 ≤ c) = true from decide_eq_true (by omega), show decide (48 ≤ c) = true from decide_eq_true (by omega), show decide (c ≤ 57) = false from decide_eq_false (by omega), show decide (c ≤ 90) = false from decide_eq_false (by omega), show decide (c ≤ 122) = true from decide_eq_true (by omega), show (c != 95) = true by simp; omega, show (c == 95) = false by simp; omega, cond_true, cond_false, Bool.true_or, Bool.or_true, Bool.false_or, Bool.or_false, Bool.true_and, Bool.and_true, Bool.false_and, Bool.and_false]
    · simp only [show decide (c < 97) = false from decide_eq_false (by omega), show decide (c < 65) = false from decide_eq_false (by omega), show decide (c < 48) = false from decide_eq_false (by omega), show decide (c > 57) = true from decide_eq_true (by omega), show decide (c > 90) = true from decide_eq_true (by omega), show decide (c > 122) = true from decide_eq_true (by omega), show decide (97 ≤ c) = true from decide_eq_true (by omega), show decide (65 ≤ c) = true from decide_eq_true (by omega), show decide (48 ≤ c) = true from decide_eq_true (by omega), show decide (c ≤ 57) = false from decide_eq_false (by omega), show decide (c ≤ 90) = false from decide_eq_false (by omega), show decide (c ≤ 122) = false from decide_eq_false (by omega), show (c != 95) = true by simp; omega, show (c == 95) = false by simp; omega, cond_true, cond_false, Bool.true_or, Bool.or_true, Bool.false_or, Bool.or_false, Bool.true_and, Bool.and_true, Bool.false_and, Bool.and_false]
theorem F24.spec {k : Nat} (hk : 1000 < k) (s : List UInt8) : F24.u k s = some (nmB s) := by
  show F24.f k s = _
  rw [F24.f, F24.b]
  unfold nmB
  by_cases h1 : 1 ≤ s.length
  · rw [decide_eq_false (by omega), cond_false, decide_eq_true h1, Bool.true_and]
    by_cases h2 : s.length ≤ 24
    · rw [decide_eq_false (by omega), cond_false, decide_eq_true h2, Bool.true_and]
      exact F24.l0_spec (by omega) (by omega) _ k 0 rfl (by omega) (by omega)
    · rw [decide_eq_true (by omega), cond_true, decide_eq_false h2]; rfl
  · rw [decide_eq_true (by omega), cond_true, decide_eq_false h1]; rfl
theorem F50.l0_spec {k : Nat} (hk : 0 < k) {s : List UInt8} (hs : s.length ≤ 1000000) : ∀ (d n i : Nat), s.length - i = d → d < n → i ≤ s.length → F50.l0 k n (s.map fun c : UInt8 => (c.toNat : Int)) (s.length : Int) (i : Int) = some (nmL false (s.drop i)) := by
  intro d
  induction d with
  | zero =>
    intro n i hd hn hi
    obtain ⟨n, rfl⟩ : ∃ m, n = m + 1 := ⟨n - 1, by omega⟩
    rw [F50.l0, F50.b_l0, decide_eq_false (by omega), cond_false, List.drop_of_length_le (by omega)]
    rfl
  | succ d ih =>
    intro n i hd hn hi
    obtain ⟨n, rfl⟩ : ∃ m, n = m + 1 := ⟨n - 1, by omega⟩
    have hlt : i < s.length := by omega
    have h := ih n (i + 1) (by omega) (by omega) (by omega)
    have hg : F50.g8 k (fun x23 x24 x25 => F50.l0 k n x23 x24 x25) (s.map fun c : UInt8 => (c.toNat : Int)) (s.length : Int) (i : Int) = some (nmL false (s.drop (i + 1))) := by
      rw [F50.g8, gate_pos hk, F50.b_g8, wrapN (by omega), h]
    rw [F50.l0, F50.b_l0, decide_eq_true (by omega), cond_true, if_pos ⟨by omega, by rw [List.length_map]; omega⟩, Int.toNat_natCast, hg, drop_cons hlt, nmL, getD_of (show i < (s.map fun c : UInt8 => (c.toNat : Int)).length by rw [List.length_map]; exact hlt), List.getElem_map]
    unfold ltr dgt
    generalize ((s[i]).toNat : Int) = c
    generalize nmL false (s.drop (i + 1)) = m
    rcases reg c with r | r | r | r | r | r | r | r | r
    · simp only [show decide (c < 97) = true from decide_eq_true (by omega), show decide (c < 65) = true from decide_eq_true (by omega), show decide (c < 48) = true from decide_eq_true (by omega), show decide (c > 57) = false from decide_eq_false (by omega), show decide (c > 90) = false from decide_eq_false (by omega), show decide (c > 122) = false from decide_eq_false (by omega), show decide (97 ≤ c) = false from decide_eq_false (by omega), show decide (65 ≤ c) = false from decide_eq_false (by omega), show decide (48 ≤ c) = false from decide_eq_false (by omega), show decide (c ≤ 57) = true from decide_eq_true (by omega), show decide (c ≤ 90) = true from decide_eq_true (by omega), show decide (c ≤ 122) = true from decide_eq_true (by omega), show (c != 95) = true by simp; omega, show (c == 95) = false by simp; omega, cond_true, cond_false, Bool.not_false, Bool.true_or, Bool.or_true, Bool.false_or, Bool.or_false, Bool.true_and, Bool.and_true, Bool.false_and, Bool.and_false]
    · simp only [show decide (c < 97) = true from decide_eq_true (by omega), show decide (c < 65) = true from decide_eq_true (by omega), show decide (c < 48) = false from decide_eq_false (by omega), show decide (c > 57) = false from decide_eq_false (by omega), show decide (c > 90) = false from decide_eq_false (by omega), show decide (c > 122) = false from decide_eq_false (by omega), show decide (97 ≤ c) = false from decide_eq_false (by omega), show decide (65 ≤ c) = false from decide_eq_false (by omega), show decide (48 ≤ c) = true from decide_eq_true (by omega), show decide (c ≤ 57) = true from decide_eq_true (by omega), show decide (c ≤ 90) = true from decide_eq_true (by omega), show decide (c ≤ 122) = true from decide_eq_true (by omega), show (c != 95) = true by simp; omega, show (c == 95) = false by simp; omega, cond_true, cond_false, Bool.not_false, Bool.true_or, Bool.or_true, Bool.false_or, Bool.or_false, Bool.true_and, Bool.and_true, Bool.false_and, Bool.and_false]
    · simp only [show decide (c < 97) = true from decide_eq_true (by omega), show decide (c < 65) = true from decide_eq_true (by omega), show decide (c < 48) = false from decide_eq_false (by omega), show decide (c > 57) = true from decide_eq_true (by omega), show decide (c > 90) = false from decide_eq_false (by omega), show decide (c > 122) = false from decide_eq_false (by omega), show decide (97 ≤ c) = false from decide_eq_false (by omega), show decide (65 ≤ c) = false from decide_eq_false (by omega), show decide (48 ≤ c) = true from decide_eq_true (by omega), show decide (c ≤ 57) = false from decide_eq_false (by omega), show decide (c ≤ 90) = true from decide_eq_true (by omega), show decide (c ≤ 122) = true from decide_eq_true (by omega), show (c != 95) = true by simp; omega, show (c == 95) = false by simp; omega, cond_true, cond_false, Bool.not_false, Bool.true_or, Bool.or_true, Bool.false_or, Bool.or_false, Bool.true_and, Bool.and_true, Bool.false_and, Bool.and_false]
    · simp only [show decide (c < 97) = true from decide_eq_true (by omega), show decide (c < 65) = false from decide_eq_false (by omega), show decide (c < 48) = false from decide_eq_false (by omega), show decide (c > 57) = true from decide_eq_true (by omega), show decide (c > 90) = false from decide_eq_false (by omega), show decide (c > 122) = false from decide_eq_false (by omega), show decide (97 ≤ c) = false from decide_eq_false (by omega), show decide (65 ≤ c) = true from decide_eq_true (by omega), show decide (48 ≤ c) = true from decide_eq_true (by omega), show decide (c ≤ 57) = false from decide_eq_false (by omega), show decide (c ≤ 90) = true from decide_eq_true (by omega), show decide (c ≤ 122) = true from decide_eq_true (by omega), show (c != 95) = true by simp; omega, show (c == 95) = false by simp; omega, cond_true, cond_false, Bool.not_false, Bool.true_or, Bool.or_true, Bool.false_or, Bool.or_false, Bool.true_and, Bool.and_true, Bool.false_and, Bool.and_false]
    · simp only [show decide (c < 97) = true from decide_eq_true (by omega), show decide (c < 65) = false from decide_eq_false (by omega), show decide (c < 48) = false from decide_eq_false (by omega), show decide (c > 57) = true from decide_eq_true (by omega), show decide (c > 90) = true from decide_eq_true (by omega), show decide (c > 122) = false from decide_eq_false (by omega), show decide (97 ≤ c) = false from decide_eq_false (by omega), show decide (65 ≤ c) = true from decide_eq_true (by omega), show decide (48 ≤ c) = true from decide_eq_true (by omega), show decide (c ≤ 57) = false from decide_eq_false (by omega), show decide (c ≤ 90) = false from decide_eq_false (by omega), show decide (c ≤ 122) = true from decide_eq_true (by omega), show (c != 95) = true by simp; omega, show (c == 95) = false by simp; omega, cond_true, cond_false, Bool.not_false, Bool.true_or, Bool.or_true, Bool.false_or, Bool.or_false, Bool.true_and, Bool.and_true, Bool.false_and, Bool.and_false]
    · simp only [show decide (c < 97) = true from decide_eq_true (by omega), show decide (c < 65) = false from decide_eq_false (by omega), show decide (c < 48) = false from decide_eq_false (by omega), show decide (c > 57) = true from decide_eq_true (by omega), show decide (c > 90) = true from decide_eq_true (by omega), show decide (c > 122) = false from decide_eq_false (by omega), show decide (97 ≤ c) = false from decide_eq_false (by omega), show decide (65 ≤ c) = true from decide_eq_true (by omega), show decide (48 ≤ c) = true from decide_eq_true (by omega), show decide (c ≤ 57) = false from decide_eq_false (by omega), show decide (c ≤ 90) = false from decide_eq_false (by omega), show decide (c ≤ 122) = true from decide_eq_true (by omega), show (c != 95) = false by simp; omega, show (c == 95) = true by simp; omega, cond_true, cond_false, Bool.not_false, Bool.true_or, Bool.or_true, Bool.false_or, Bool.or_false, Bool.true_and, Bool.and_true, Bool.false_and, Bool.and_false]
    · simp only [show decide (c < 97) = true from decide_eq_true (by omega), show decide (c < 65) = false from decide_eq_false (by omega), show decide (c < 48) = false from decide_eq_false (by omega), show decide (c > 57) = true from decide_eq_true (by omega), show decide (c > 90) = true from decide_eq_true (by omega), show decide (c > 122) = false from decide_eq_false (by omega), show decide (97 ≤ c) = false from decide_eq_false (by omega), show decide (65 ≤ c) = true from decide_eq_true (by omega), show decide (48 ≤ c) = true from decide_eq_true (by omega), show decide (c ≤ 57) = false from decide_eq_false (by omega), show decide (c ≤ 90) = false from decide_eq_false (by omega), show decide (c ≤ 122) = true from decide_eq_true (by omega), show (c != 95) = true by simp; omega, show (c == 95) = false by simp; omega, cond_true, cond_false, Bool.not_false, Bool.true_or, Bool.or_true, Bool.false_or, Bool.or_false, Bool.true_and, Bool.and_true, Bool.false_and, Bool.and_false]
    · simp only [show decide (c < 97) = false from decide_eq_false (by omega), show decide (c < 65) = false from decide_eq_false (by omega), show decide (c < 48) = false from decide_eq_false (by omega), show decide (c > 57) = true from decide_eq_true (by omega), show decide (c > 90) = true from decide_eq_true (by omega), show decide (c > 122) = false from decide_eq_false (by omega), show decide (97 ≤ c) = true from decide_eq_true (by omega), show decide (65 ≤ c) = true from decide_eq_true (by omega), show decide (48 ≤ c) = true from decide_eq_true (by omega), show decide (c ≤ 57) = false from decide_eq_false (by omega), show decide (c ≤ 90) = false from decide_eq_false (by omega), show decide (c ≤ 122) = true from decide_eq_true (by omega), show (c != 95) = true by simp; omega, show (c == 95) = false by simp; omega, cond_true, cond_false, Bool.not_false, Bool.true_or, Bool.or_true, Bool.false_or, Bool.or_false, Bool.true_and, Bool.and_true, Bool.false_and, Bool.and_false]
    · simp only [show decide (c < 97) = false from decide_eq_false (by omega), show decide (c < 65) = false from decide_eq_false (by omega), show decide (c < 48) = false from decide_eq_false (by omega), show decide (c > 57) = true from decide_eq_true (by omega), show decide (c > 90) = true from decide_eq_true (by omega), show decide (c > 122) = true from decide_eq_true (by omega), show decide (97 ≤ c) = true from decide_eq_true (by omega), show decide (65 ≤ c) = true from decide_eq_true (by omega), show decide (48 ≤ c) = true from decide_eq_true (by omega), show decide (c ≤ 57) = false from decide_eq_false (by omega), show decide (c ≤ 90) = false from decide_eq_false (by omega), show decide (c ≤ 122) = false from decide_eq_false (by omega), show (c != 95) = true by simp; omega, show (c == 95) = false by simp; omega, cond_true, cond_false, Bool.not_false, Bool.true_or, Bool.or_true, Bool.false_or, Bool.or_false, Bool.true_and, Bool.and_true, Bool.false_and, Bool.and_false]
theorem nm_first (c : UInt8) (l : List UInt8) (h : dgt (c.toNat : Int) = false) : nmL false (c :: l) = nmL true (c :: l) := by
  rw [nmL, nmL, h]
  simp
theorem nm_digit (c : UInt8) (l : List UInt8) (h : dgt (c.toNat : Int) = true) : nmL true (c :: l) = false := by
  rw [nmL]
  unfold dgt at h
  unfold ltr
  rw [Bool.and_eq_true, decide_eq_true_eq, decide_eq_true_eq] at h
  obtain ⟨h1, h2⟩ := h
  rw [show ((c.toNat : Int) == 95) = false by simp; omega, decide_eq_false (show ¬ 97 ≤ (c.toNat : Int) by omega), decide_eq_false (show ¬ 65 ≤ (c.toNat : Int) by omega)]
  rfl
theorem F50.spec {k : Nat} (hk : 1000 < k) (s : List UInt8) : F50.u k s = some (nmB s) := by
  show F50.f k s = _
  rw [F50.f, F50.q, F50.c]
  unfold nmB
  cases s with
  | nil => rfl
  | cons c l =>
    rw [show ((c :: l) == []) = false from rfl, cond_false, decide_eq_true (show 1 ≤ (c :: l).length by simp), Bool.true_and]
    by_cases h2 : (c :: l).length ≤ 24
    · have h := F50.l0_spec (k := k) (s := c :: l) (by omega) (by omega) _ k 0 rfl (by omega) (by omega)
      rw [List.drop_zero] at h
      have h' : F50.l0 k k (List.map (fun c : UInt8 => (c.toNat : Int)) (c :: l)) ((List.length (List.map (fun c : UInt8 => (c.toNat : Int)) (c :: l)) : Nat) : Int) (0 : Int) = some (nmL false (c :: l)) := by rw [List.length_map]; exact h
      rw [decide_eq_false (by omega), cond_false, decide_eq_true h2, Bool.true_and, if_pos (show (0 : Int) < (((c :: l).length : Nat) : Int) by simp), if_pos (show (0 : Int) < (((c :: l).length : Nat) : Int) by simp), show (c :: l).getD 0 0 = c from rfl, h']
      by_cases d1 : 48 ≤ (c.toNat : Int)
      · rw [decide_eq_true (show (c.toNat : Int) ≥ 48 from d1), cond_true]
        by_cases d2 : (c.toNat : Int) ≤ 57
        · rw [decide_eq_true d2, cond_true, nm_digit c l (by unfold dgt; rw [decide_eq_true d1, decide_eq_true d2]; rfl)]
        · rw [decide_eq_false d2, cond_false, nm_first c l (by unfold dgt; rw [decide_eq_false d2, Bool.and_false])]
      · rw [decide_eq_false (show ¬ (c.toNat : Int) ≥ 48 from d1), cond_false, nm_first c l (by unfold dgt; rw [decide_eq_false d1, Bool.false_and])]
    · rw [decide_eq_true (by omega), cond_true, decide_eq_false h2]; rfl
theorem F23.spec {k : Nat} (hk : 1000 < k) (s : List UInt8) : F23.u k s = some (nmB s) := by
  show F23.f (F50.u k) k s = _
  rw [F23.f, F23.b, F50.spec hk]
  rfl
/-! ### the heap of the beginning -/
theorem start_spec (n : Nat) : F26.u (n + 100) () = some begL := by kernel_rfl
theorem F26.spec {k : Nat} (hk : 100 < k) : F26.u k () = some begL := by
  obtain ⟨n, rfl⟩ : ∃ n, k = n + 100 := ⟨k - 100, by omega⟩
  exact start_spec n
theorem small_to {o : X_Object} (h : (decide (o.2.1.length ≤ 1000) && (decide (o.2.2.2.1.length ≤ 1000) && (decide (o.2.2.2.2.1.length ≤ 1000) && (decide (o.2.2.2.2.2.1.length = 0) && (decide (o.2.2.2.2.2.2.1.length = 0) && (decide (o.2.2.2.2.2.2.2.1.length = 0) && (decide (-1000 ≤ o.2.2.2.2.2.2.2.2.2) && decide (o.2.2.2.2.2.2.2.2.2 ≤ 1000)))))))) = true) : TO o := by
  simp only [Bool.and_eq_true, decide_eq_true_eq] at h
  obtain ⟨h1, h2, h3, h4, h5, h6, h7, h8⟩ := h
  refine ⟨by omega, by omega, by omega, by omega, fun s hs => ?_, by omega, fun v hv => ?_, by omega, fun v hv => ?_, by omega, by omega⟩
  · rw [List.eq_nil_of_length_eq_zero h4] at hs; cases hs
  · rw [List.eq_nil_of_length_eq_zero h5] at hv; cases hv
  · rw [List.eq_nil_of_length_eq_zero h6] at hv; cases hv
theorem begL_small : begL.all (fun o => (decide (o.2.1.length ≤ 1000) && (decide (o.2.2.2.1.length ≤ 1000) && (decide (o.2.2.2.2.1.length ≤ 1000) && (decide (o.2.2.2.2.2.1.length = 0) && (decide (o.2.2.2.2.2.2.1.length = 0) && (decide (o.2.2.2.2.2.2.2.1.length = 0) && (decide (-1000 ≤ o.2.2.2.2.2.2.2.2.2) && decide (o.2.2.2.2.2.2.2.2.2 ≤ 1000))))))))) = true := by kernel_rfl
theorem begL_to : ∀ o ∈ begL, TO o := fun o ho => small_to (List.all_eq_true.1 begL_small o ho)
theorem F25.l0_refl {k : Nat} (hk : 3000000 < k) {h : X_Heap} (hl : h.length ≤ 2000000) (ho : ∀ o ∈ h, TO o) : ∀ (d n i : Nat), h.length - i = d → d < n → i ≤ h.length → F25.l0 (F51.u k) k n h h (h.length : Int) (i : Int) = some true := by
  intro d
  induction d with
  | zero =>
    intro n i hd hn hi
    obtain ⟨n, rfl⟩ : ∃ m, n = m + 1 := ⟨n - 1, by omega⟩
    rw [F25.l0, F25.q_l0, F25.c_l0, decide_eq_false (by omega), cond_false]
  | succ d ih =>
    intro n i hd hn hi
    obtain ⟨n, rfl⟩ : ∃ m, n = m + 1 := ⟨n - 1, by omega⟩
    have hlt : i < h.length := by omega
    rw [F25.l0, F25.q_l0, F25.c_l0, decide_eq_true (by omega), cond_true, if_pos ⟨by omega, by omega⟩, if_pos ⟨by omega, by omega⟩, Int.toNat_natCast, getD_of hlt, F51.refl hk (ho _ (List.getElem_mem hlt)), Option.bind_some, Bool.not_true, cond_false, wrapN (by omega)]
    exact ih n (i + 1) (by omega) (by omega) (by omega)
theorem F25.refl {k : Nat} (hk : 3000000 < k) {h : X_Heap} (hl : h.length ≤ 2000000) (ho : ∀ o ∈ h, TO o) : F25.u k (h, h) = some true := by
  show F25.f (F51.u k) k h h = _
  rw [F25.f, F25.b, show ((h.length : Int) != (h.length : Int)) = false by simp, cond_false]
  exact F25.l0_refl hk hl ho _ k 0 rfl (by omega) (by omega)
/-! ### classes -/
def kinC : List Int := [2, 3, 4, 5, 6, 7, 0, 15, 27, 2]
def objC : List Int := [0, 8, 9, 10, 11, 12, 13, 14, 16, 1, 0, 17, 18, 19, 20, 21, 22, 23, 24, 25, 26]
/-- the class of an object -/
def clO (o : X_Object) : Int := bif o.1 == 10 then o.2.2.1 else objC.getD o.1.toNat 0
/-- the class of a value -/
def clV (h : X_Heap) (v : X_Value) : Int := bif v.1 == 6 then clO (objV h v) else kinC.getD v.1.toNat 0
theorem F56.spec {k : Nat} : F56.u k () = some kinC := by kernel_rfl
theorem F57.spec {k : Nat} : F57.u k () = some objC := by kernel_rfl
theorem F58.spec {k : Nat} {o : X_Object} (h1 : 1 ≤ o.1) (h2 : o.1 < 21) : F58.u k o = some (clO o) := by
  obtain ⟨c, r⟩ := o
  have h : c = 1 ∨ c = 2 ∨ c = 3 ∨ c = 4 ∨ c = 5 ∨ c = 6 ∨ c = 7 ∨ c = 8 ∨ c = 9 ∨ c = 10 ∨ c = 11 ∨ c = 12 ∨ c = 13 ∨ c = 14 ∨ c = 15 ∨ c = 16 ∨ c = 17 ∨ c = 18 ∨ c = 19 ∨ c = 20 := by
    have : 1 ≤ c := h1
    have : c < 21 := h2
    omega
  rcases h with rfl | rfl | rfl | rfl | rfl | rfl | rfl | rfl | rfl | rfl | rfl | rfl | rfl | rfl | rfl | rfl | rfl | rfl | rfl | rfl
  all_goals rfl
theorem F28.spec {k : Nat} {h : X_Heap} (p : HP h) {v : X_Value} (vi : VI h v) (hk : 0 ≤ v.1 ∧ v.1 ≤ 8) : F28.u k (h, v) = some (clV h v) := by
  show F28.f (F56.u k) (F57.u k) k h v = _
  rw [F28.f, F28.q, F28.c, F56.spec, F57.spec, Option.bind_some, Option.bind_some]
  unfold clV
  by_cases h6 : v.1 = 6
  · have hi := vi.ref h6
    obtain ⟨i1, i2, i3⟩ := isO_lt hi
    have hkd := p.kind (j := v.2.2.2.2.toNat) (by omega)
    rw [show (v.1 != 6) = false by simpa using h6, show (v.1 == 6) = true by simpa using h6, cond_false, cond_true, if_pos ⟨i1, i2⟩, show h.getD v.2.2.2.2.toNat Z_Object = hob h v.2.2.2.2.toNat from rfl, objV_ref h6 hi, if_pos ⟨hkd.1, hkd.2⟩]
    unfold clO
    cases ((hob h v.2.2.2.2.toNat).1 == 10) <;> rfl
  · rw [show (v.1 != 6) = true by simpa using h6, show (v.1 == 6) = false by simpa using h6, cond_false, cond_true, if_pos ⟨hk.1, by show v.1 < 10; omega⟩]
theorem F29.spec {k : Nat} {h : X_Heap} (p : HP h) {v : X_Value} (vi : VI h v) (hk : 0 ≤ v.1 ∧ v.1 ≤ 8) : F29.u k (h, v) = some (clV h v) := by
  show F29.f (F58.u k) k h v = _
  rw [F29.f, F29.q, F29.c]
  unfold clV
  have hc : v.1 = 0 ∨ v.1 = 1 ∨ v.1 = 2 ∨ v.1 = 3 ∨ v.1 = 4 ∨ v.1 = 5 ∨ v.1 = 6 ∨ v.1 = 7 ∨ v.1 = 8 := by omega
  rcases hc with h0 | h0 | h0 | h0 | h0 | h0 | h6 | h0 | h0
  case inr.inr.inr.inr.inr.inr.inl =>
    have hi := vi.ref h6
    obtain ⟨i1, i2, i3⟩ := isO_lt hi
    have hkd := p.kind (j := v.2.2.2.2.toNat) (by omega)
    rw [if_pos ⟨i1, i2⟩, show h.getD v.2.2.2.2.toNat Z_Object = hob h v.2.2.2.2.toNat from rfl, F58.spec (by omega) hkd.2, objV_ref h6 hi, h6]
    rfl
  all_goals (rw [h0]; rfl)
theorem objC_lt : ∀ i : Nat, 0 ≤ objC.getD i 0 ∧ objC.getD i 0 < 49 := by
  intro i
  by_cases hi : i < 21
  · have : ∀ j : Fin 21, 0 ≤ objC.getD j.1 0 ∧ objC.getD j.1 0 < 49 := by decide
    exact this ⟨i, hi⟩
  · rw [getD_out (show objC.length ≤ i by show 21 ≤ i; omega)]; omega
theorem kinC_lt : ∀ i : Nat, 0 ≤ kinC.getD i 0 ∧ kinC.getD i 0 < 49 := by
  intro i
  by_cases hi : i < 10
  · have : ∀ j : Fin 10, 0 ≤ kinC.getD j.1 0 ∧ kinC.getD j.1 0 < 49 := by decide
    exact this ⟨i, hi⟩
  · rw [getD_out (show kinC.length ≤ i by show 10 ≤ i; omega)]; omega
theorem clV_in {h : X_Heap} (p : HP h) {v : X_Value} (vi : VI h v) : 0 ≤ clV h v ∧ clV h v < (h.length : Int) := by
  have := p.low
  unfold clV
  by_cases h6 : v.1 = 6
  · rw [show (v.1 == 6) = true by simpa using h6, cond_true]
    unfold clO
    by_cases h10 : (objV h v).1 = 10
    · rw [show ((objV h v).1 == 10) = true by simpa using h10, cond_true]
      have := isO_lt (objV_cls p h10)
      exact ⟨this.1, this.2.1⟩
    · rw [show ((objV h v).1 == 10) = false by simpa using h10, cond_false]
      have := objC_lt (objV h v).1.toNat
      omega
  · rw [show (v.1 == 6) = false by simpa using h6, cond_false]
    have := kinC_lt v.1.toNat
    omega
theorem F30.spec {k : Nat} {h : X_Heap} (p : HP h) {v : X_Value} (vi : VI h v) (hk : 0 ≤ v.1 ∧ v.1 ≤ 8) : F30.u k (h, v) = some (hob h (clV h v).toNat).2.1 := by
  show F30.f (F28.u k) k h v = _
  rw [F30.f, F30.q, F30.c, F28.spec p vi hk, Option.bind_some, if_pos (clV_in p vi)]
  rfl
theorem F31.spec {k : Nat} {h : X_Heap} (p : HP h) {v : X_Value} (vi : VI h v) (hk : 0 ≤ v.1 ∧ v.1 ≤ 8) : F31.u k (h, v) = some (hob h (clV h v).toNat).2.1 := by
  show F31.f (F29.u k) k h v = _
  rw [F31.f, F31.q, F31.c, F29.spec p vi hk, Option.bind_some, if_pos (clV_in p vi)]
  rfl
/-! ### the law -/
def textV (s : List UInt8) : X_Value := (4, ((false, []), ((false, []), (s, 0))))
def refV (n : Int) : X_Value := (6, ((false, []), ((false, []), ([], n))))
theorem tv_textV {s : List UInt8} (h : s.length ≤ 2000000) : TV (textV s) := ⟨(fun d h => by cases h), (fun d h => by cases h), (by show ([] : List Int).length ≤ _; simp), (by show ([] : List Int).length ≤ _; simp), h⟩
theorem tv_refV {n : Int} : TV (refV n) := ⟨(fun d h => by cases h), (fun d h => by cases h), (by show ([] : List Int).length ≤ _; simp), (by show ([] : List Int).length ≤ _; simp), (by show ([] : List UInt8).length ≤ _; simp)⟩
theorem sv_refl {k : Nat} (hk : 3000000 < k) {v : X_Value} (hv : TV v) : F14.u k (v, v) = some true := by rw [F14.spec hk hv, beq_self_eq_true]
theorem law11 {k : Nat} (hk : BK k) {h : X_Heap} (t : TH h) {v : X_Value} (tv : TV v) {n : Int} (n1 : -9223372036854775808 ≤ n) (n2 : n ≤ 9223372036854775807) {s : List UInt8} (hs : s.length ≤ 2000000) {c b : Int} : F4.u k (h, (v, (n, (s, (c, b))))) = some true := by
  have hk1 := bkN hk (n := 17592186044420) (by omega)
  obtain ⟨u, hu, hu2⟩ := F6.spec hk t (l := [v]) (by simp) (fun w hw => by rw [List.mem_singleton.1 hw]; exact tv)
  have e1 : F15.u k n = some (hval n) := F15.spec (by omega) n1 n2
  have e2 : F16.u k n = some (hval n) := by
    rw [F16.spec (by omega) n1 n2, zval_eq]
    unfold zint
    by_cases h0 : n < 0
    · rw [decide_eq_true h0, if_pos rfl]; congr 2; omega
    · rw [decide_eq_false h0, if_neg Bool.false_ne_true]; congr 2; omega
  have e3 : F14.u k (hval n, hval n) = some true := sv_refl (by omega) (tv_hval (n := n) (by omega))
  have e4 : F14.u k (textV s, textV s) = some true := sv_refl (by omega) (tv_textV hs)
  have e5 : F14.u k (refV n, refV n) = some true := sv_refl (by omega) tv_refV
  have e6 : F14.u k (boolV (decide (n > 0)), boolV (decide (n > 0))) = some true := sv_refl (by omega) (tv_boolV _)
  have a1 : F17.u k s = some (textV s) := rfl
  have a2 : F18.u k s = some (textV s) := rfl
  have a3 : F19.u k n = some (refV n) := rfl
  have a4 : F20.u k n = some (refV n) := rfl
  have a5 : F21.u k (decide (n > 0)) = some (boolV (decide (n > 0))) := by cases decide (n > 0) <;> rfl
  have a6 : F22.u k (decide (n > 0)) = some (boolV (decide (n > 0))) := by cases decide (n > 0) <;> rfl
  show F4.f (F15.u k) (F16.u k) (F14.u k) (F17.u k) (F18.u k) (F19.u k) (F20.u k) (F21.u k) (F22.u k) (F23.u k) (F24.u k) (F26.u k) (F27.u k) (F25.u k) (F6.u k) (F28.u k) (F29.u k) (F30.u k) (F31.u k) (F7.u k) (F32.u k) (F33.u k) k h v n s c b = _
  rw [F4.f, F4.q, F4.c, e1, Option.bind_some, e2, Option.bind_some, e3, Option.bind_some, Bool.not_true, cond_false, a1, Option.bind_some, a2, Option.bind_some, e4, Option.bind_some, Bool.not_true, cond_false, a3, Option.bind_some, a4, Option.bind_some, e5, Option.bind_some, Bool.not_true, cond_false, a5, Option.bind_some, a6, Option.bind_some, e6, Option.bind_some, Bool.not_true, cond_false,
    F23.spec (by omega), Option.bind_some, F24.spec (by omega), Option.bind_some, show (nmB s != nmB s) = false by simp, cond_false, F26.spec (by omega), Option.bind_some, F27.spec (by omega), Option.bind_some, F25.refl (by omega) (by rw [begL_len]; omega) begL_to, Option.bind_some, Bool.not_true, cond_false, hu, Option.bind_some]
  cases u with
  | false => rfl
  | true =>
    obtain ⟨p, hall⟩ := hu2 rfl
    have vh := hall v (by simp)
    have vi := vh.vi tv
    rw [Bool.not_true, cond_false, F28.spec p vi vh.kind, Option.bind_some, F29.spec p vi vh.kind, Option.bind_some, show (clV h v != clV h v) = false by simp, cond_false, F30.spec p vi vh.kind, Option.bind_some, F31.spec p vi vh.kind, Option.bind_some, show ((hob h (clV h v).toNat).2.1 != (hob h (clV h v).toNat).2.1) = false by simp, cond_false, F7.spec, Option.bind_some, F7.spec, Option.bind_some]
    cases hc : isO h c with
    | false => rfl
    | true =>
      cases hb : isO h b with
      | false => rfl
      | true =>
        obtain ⟨c1, c2, _⟩ := isO_lt hc
        obtain ⟨b1, b2, _⟩ := isO_lt hb
        rw [Bool.not_true, cond_false, cond_false, if_pos ⟨c1, c2⟩, if_pos ⟨b1, b2⟩, F32.spec (by omega) p.t c1 c2, Option.bind_some, F33.spec (by omega) p.t c1 c2, Option.bind_some, show (derB h c b == derB h c b) = true by simp]
        cases ((h.getD c.toNat Z_Object).1 != 9) <;> cases ((h.getD b.toNat Z_Object).1 != 9) <;> rfl
end Go.Ab
