/- A part of the proof: RS1. -/
import Derived.Test.YtgkjkmpeeneilaaFA1
import Derived.Test.YtgkjkmpeeneilaaPl1
namespace Go.Ab
set_option linter.unusedVariables false
set_option linter.unusedSimpArgs false

theorem f_slices_IndexFunc_byte.l0_spec {k : Nat} {l : List Int} {f : (Int × Unit) → Option Bool} {p : Int → Bool} (hf : ∀ x ∈ l, f (x, ()) = some (p x)) (hl : l.length ≤ 4611686018427387904) (d : Nat) :
    ∀ (n i : Nat), i ≤ l.length → l.length - i = d → d < n → f_slices_IndexFunc_byte.l0 k n l f (l.length : Int) (i : Int) = some (idxF p (l.drop i) i) := by
  induction d with
  | zero =>
    intro n i hi hd hn
    obtain ⟨n, rfl⟩ : ∃ m, n = m + 1 := ⟨n - 1, by omega⟩
    rw [f_slices_IndexFunc_byte.l0, f_slices_IndexFunc_byte.b_l0, decide_eq_false (by omega), cond_false, List.drop_of_length_le (by omega)]
    rfl
  | succ d ih =>
    intro n i hi hd hn
    obtain ⟨n, rfl⟩ : ∃ m, n = m + 1 := ⟨n - 1, by omega⟩
    have hlt : i < l.length := by omega
    rw [f_slices_IndexFunc_byte.l0, f_slices_IndexFunc_byte.b_l0, decide_eq_true (by omega), cond_true, if_pos ⟨by omega, by omega⟩, Int.toNat_natCast, getD_of hlt, hf _ (List.getElem_mem hlt), Option.bind_some, drop_cons hlt, idxF]
    cases p l[i] with
    | true => rfl
    | false =>
      rw [cond_false, cond_false, wrapI (by omega) (by omega), show (i : Int) + 1 = ((i + 1 : Nat) : Int) from rfl]
      exact ih n (i + 1) (by omega) (by omega) (by omega)
theorem f_slices_IndexFunc_byte.spec {k : Nat} {l : List Int} {f : (Int × Unit) → Option Bool} {p : Int → Bool} (hf : ∀ x ∈ l, f (x, ()) = some (p x)) (hl : l.length ≤ 4611686018427387904) (hk : l.length < k) :
    f_slices_IndexFunc_byte.u k (l, f) = some (idxF p l 0) := by
  show f_slices_IndexFunc_byte.f k l f = _
  rw [f_slices_IndexFunc_byte.f, f_slices_IndexFunc_byte.b]
  exact f_slices_IndexFunc_byte.l0_spec hf hl l.length k 0 (by omega) (by omega) hk

theorem f_slices_ContainsFunc_byte.spec {k : Nat} {l : List Int} {f : (Int × Unit) → Option Bool} {p : Int → Bool} (hf : ∀ x ∈ l, f (x, ()) = some (p x)) (hl : l.length ≤ 4611686018427387904) (hk : l.length < k) :
    f_slices_ContainsFunc_byte.u k (l, f) = some (l.any p) := by
  show f_slices_ContainsFunc_byte.f (f_slices_IndexFunc_byte.u k) k l f = _
  rw [f_slices_ContainsFunc_byte.f, f_slices_ContainsFunc_byte.b, f_slices_IndexFunc_byte.spec hf hl hk, Option.bind_some, idxF_any]

theorem f_slices_IndexFunc_Param.l0_spec {k : Nat} {l : List X_Param} {f : (X_Param × Unit) → Option Bool} {p : X_Param → Bool} (hf : ∀ x ∈ l, f (x, ()) = some (p x)) (hl : l.length ≤ 4611686018427387904) (d : Nat) :
    ∀ (n i : Nat), i ≤ l.length → l.length - i = d → d < n → f_slices_IndexFunc_Param.l0 k n l f (l.length : Int) (i : Int) = some (idxF p (l.drop i) i) := by
  induction d with
  | zero =>
    intro n i hi hd hn
    obtain ⟨n, rfl⟩ : ∃ m, n = m + 1 := ⟨n - 1, by omega⟩
    rw [f_slices_IndexFunc_Param.l0, f_slices_IndexFunc_Param.b_l0, decide_eq_false (by omega), cond_false, List.drop_of_length_le (by omega)]
    rfl
  | succ d ih =>
    intro n i hi hd hn
    obtain ⟨n, rfl⟩ : ∃ m, n = m + 1 := ⟨n - 1, by omega⟩
    have hlt : i < l.length := by omega
    rw [f_slices_IndexFunc_Param.l0, f_slices_IndexFunc_Param.b_l0, decide_eq_true (by omega), cond_true, if_pos ⟨by omega, by omega⟩, Int.toNat_natCast, getD_of hlt, hf _ (List.getElem_mem hlt), Option.bind_some, drop_cons hlt, idxF]
    cases p l[i] with
    | true => rfl
    | false =>
      rw [cond_false, cond_false, wrapI (by omega) (by omega), show (i : Int) + 1 = ((i + 1 : Nat) : Int) from rfl]
      exact ih n (i + 1) (by omega) (by omega) (by omega)
theorem f_slices_IndexFunc_Param.spec {k : Nat} {l : List X_Param} {f : (X_Param × Unit) → Option Bool} {p : X_Param → Bool} (hf : ∀ x ∈ l, f (x, ()) = some (p x)) (hl : l.length ≤ 4611686018427387904) (hk : l.length < k) :
    f_slices_IndexFunc_Param.u k (l, f) = some (idxF p l 0) := by
  show f_slices_IndexFunc_Param.f k l f = _
  rw [f_slices_IndexFunc_Param.f, f_slices_IndexFunc_Param.b]
  exact f_slices_IndexFunc_Param.l0_spec hf hl l.length k 0 (by omega) (by omega) hk

theorem f_slices_ContainsFunc_Param.spec {k : Nat} {l : List X_Param} {f : (X_Param × Unit) → Option Bool} {p : X_Param → Bool} (hf : ∀ x ∈ l, f (x, ()) = some (p x)) (hl : l.length ≤ 4611686018427387904) (hk : l.length < k) :
    f_slices_ContainsFunc_Param.u k (l, f) = some (l.any p) := by
  show f_slices_ContainsFunc_Param.f (f_slices_IndexFunc_Param.u k) k l f = _
  rw [f_slices_ContainsFunc_Param.f, f_slices_ContainsFunc_Param.b, f_slices_IndexFunc_Param.spec hf hl hk, Option.bind_some, idxF_any]
end Go.Ab
