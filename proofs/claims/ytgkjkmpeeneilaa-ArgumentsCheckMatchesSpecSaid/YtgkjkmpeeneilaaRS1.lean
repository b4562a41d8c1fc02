/- A part of the proof: RS1. -/
import Derived.Test.YtgkjkmpeeneilaaFB
import Derived.Test.YtgkjkmpeeneilaaPl1
namespace Go.Ab
set_option linter.unusedVariables false

theorem F81.l0_spec {k : Nat} {l : List Int} {f : (Int × Unit) → Option Bool} {p : Int → Bool} (hf : ∀ x ∈ l, f (x, ()) = some (p x)) (hl : l.length ≤ 4611686018427387904) (d : Nat) :
    ∀ (n i : Nat), i ≤ l.length → l.length - i = d → d < n → F81.l0 k n l f (l.length : Int) (i : Int) = some (idxF p (l.drop i) i) := by
  induction d with
  | zero =>
    intro n i hi hd hn
    obtain ⟨n, rfl⟩ : ∃ m, n = m + 1 := ⟨n - 1, by omega⟩
    rw [F81.l0, F81.b_l0, decide_eq_false (by omega), cond_false, List.drop_of_length_le (by omega)]
    rfl
  | succ d ih =>
    intro n i hi hd hn
    obtain ⟨n, rfl⟩ : ∃ m, n = m + 1 := ⟨n - 1, by omega⟩
    have hlt : i < l.length := by omega
    rw [F81.l0, F81.b_l0, decide_eq_true (by omega), cond_true, if_pos ⟨by omega, by omega⟩, Int.toNat_natCast, getD_of hlt, hf _ (List.getElem_mem hlt), Option.bind_some, drop_cons hlt, idxF]
    cases p l[i] with
    | true => rfl
    | false =>
      rw [cond_false, cond_false, wrapI (by omega) (by omega), show (i : Int) + 1 = ((i + 1 : Nat) : Int) from rfl]
      exact ih n (i + 1) (by omega) (by omega) (by omega)
theorem F81.spec {k : Nat} {l : List Int} {f : (Int × Unit) → Option Bool} {p : Int → Bool} (hf : ∀ x ∈ l, f (x, ()) = some (p x)) (hl : l.length ≤ 4611686018427387904) (hk : l.length < k) :
    F81.u k (l, f) = some (idxF p l 0) := by
  show F81.f k l f = _
  rw [F81.f, F81.b]
  exact F81.l0_spec hf hl l.length k 0 (by omega) (by omega) hk

theorem F61.spec {k : Nat} {l : List Int} {f : (Int × Unit) → Option Bool} {p : Int → Bool} (hf : ∀ x ∈ l, f (x, ()) = some (p x)) (hl : l.length ≤ 4611686018427387904) (hk : l.length < k) :
    F61.u k (l, f) = some (l.any p) := by
  show F61.f (F81.u k) k l f = _
  rw [F61.f, F61.b, F81.spec hf hl hk, Option.bind_some, idxF_any]

theorem F63.l0_spec {k : Nat} {l : List X50} {f : (X50 × Unit) → Option Bool} {p : X50 → Bool} (hf : ∀ x ∈ l, f (x, ()) = some (p x)) (hl : l.length ≤ 4611686018427387904) (d : Nat) :
    ∀ (n i : Nat), i ≤ l.length → l.length - i = d → d < n → F63.l0 k n l f (l.length : Int) (i : Int) = some (idxF p (l.drop i) i) := by
  induction d with
  | zero =>
    intro n i hi hd hn
    obtain ⟨n, rfl⟩ : ∃ m, n = m + 1 := ⟨n - 1, by omega⟩
    rw [F63.l0, F63.b_l0, decide_eq_false (by omega), cond_false, List.drop_of_length_le (by omega)]
    rfl
  | succ d ih =>
    intro n i hi hd hn
    obtain ⟨n, rfl⟩ : ∃ m, n = m + 1 := ⟨n - 1, by omega⟩
    have hlt : i < l.length := by omega
    rw [F63.l0, F63.b_l0, decide_eq_true (by omega), cond_true, if_pos ⟨by omega, by omega⟩, Int.toNat_natCast, getD_of hlt, hf _ (List.getElem_mem hlt), Option.bind_some, drop_cons hlt, idxF]
    cases p l[i] with
    | true => rfl
    | false =>
      rw [cond_false, cond_false, wrapI (by omega) (by omega), show (i : Int) + 1 = ((i + 1 : Nat) : Int) from rfl]
      exact ih n (i + 1) (by omega) (by omega) (by omega)
theorem F63.spec {k : Nat} {l : List X50} {f : (X50 × Unit) → Option Bool} {p : X50 → Bool} (hf : ∀ x ∈ l, f (x, ()) = some (p x)) (hl : l.length ≤ 4611686018427387904) (hk : l.length < k) :
    F63.u k (l, f) = some (idxF p l 0) := by
  show F63.f k l f = _
  rw [F63.f, F63.b]
  exact F63.l0_spec hf hl l.length k 0 (by omega) (by omega) hk

theorem F32.spec {k : Nat} {l : List X50} {f : (X50 × Unit) → Option Bool} {p : X50 → Bool} (hf : ∀ x ∈ l, f (x, ()) = some (p x)) (hl : l.length ≤ 4611686018427387904) (hk : l.length < k) :
    F32.u k (l, f) = some (l.any p) := by
  show F32.f (F63.u k) k l f = _
  rw [F32.f, F32.b, F63.spec hf hl hk, Option.bind_some, idxF_any]
end Go.Ab
