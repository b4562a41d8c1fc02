/- A part of the proof: RS3. -/
import Derived.Test.YtgkjkmpeeneilaaRS2
namespace Go.Ab
set_option linter.unusedVariables false
set_option linter.unusedSimpArgs false
theorem f_arguments_fault.spec (k : Nat) (a b : Int) : f_arguments_fault.u k (a, b) = some (a, b) := rfl
theorem f_ref7_At.spec (k : Nat) (a b : Int) : f_ref7_At.u k (a, b) = some (a, b) := rfl
theorem f_arguments_Check_c1.spec (k : Nat) (q p : X_Param) : f_arguments_Check_c1.u k (q, p) = some (q.2.1 == p.2.1) := rfl
abbrev z50 : X_Param := (0, ([], []))
/-- the codes, from the last test to the first one -/
def cd7 (p : X_Param) (opt : Bool) : Int := bif p.1 == 0 && (opt && (p.2.2.length : Int) == 0) then 11 else 0
def cd6 (l : List X_Param) (i : Nat) (p : X_Param) (opt : Bool) : Int := bif p.1 == 1 && (p.2.1 == [] && ((l.length : Int) == (i + 1 : Nat) || (l.getD (i + 1) z50).1 != 2)) then 11 else cd7 p opt
def cd5 (l : List X_Param) (i : Nat) (p : X_Param) (last : Int) (opt : Bool) : Int := bif decide (p.1 < last) || (p.1 == last && (last == 1 || last == 3) || p.1 == 2 && last == 0) then 11 else cd6 l i p opt
def cd4 (l : List X_Param) (i : Nat) (p : X_Param) (last : Int) (opt : Bool) : Int := bif decide ((p.2.2.length : Int) > 1) || decide ((p.2.2.length : Int) > 0) && (p.1 == 1 || p.1 == 3) then 6 else cd5 l i p last opt
def cd3 (l : List X_Param) (i : Nat) (p : X_Param) (last : Int) (opt : Bool) : Int := bif p.2.1 != [] && (l.take i).any (fun q => q.2.1 == p.2.1) then 8 else cd4 l i p last opt
def cd2 (l : List X_Param) (i : Nat) (p : X_Param) (last : Int) (opt : Bool) : Int := bif !nameB p.2.1 && (p.1 != 1 || p.2.1 != []) then 7 else cd3 l i p last opt
def cd1 (l : List X_Param) (i : Nat) (p : X_Param) (last : Int) (opt : Bool) : Int := bif decide (p.1 < 0) || decide (p.1 > 3) then 5 else cd2 l i p last opt
theorem f_arguments_Check.step {k n : Nat} (hk : 24 < k) {l : List X_Param} (hl : l.length ≤ 12) {i : Nat} (hi : i < l.length) (last : Int) (opt : Bool) :
    f_arguments_Check.l0 (f_arguments_fault.u k) (f_arguments_isName.u k) (f_slices_ContainsFunc_Param.u k) (f_arguments_Check_c1.u k) k (n + 1) l (0, 0) last opt l (l.length : Int) (i : Int) =
      bif cd1 l i l[i] last opt != 0 then some (cd1 l i l[i] last opt, (i : Int)) else
        f_arguments_Check.l0 (f_arguments_fault.u k) (f_arguments_isName.u k) (f_slices_ContainsFunc_Param.u k) (f_arguments_Check_c1.u k) k n l (0, 0) (l[i]).1 (opt || decide (((l[i]).2.2.length : Int) > 0)) l (l.length : Int) ((i + 1 : Nat) : Int) := by
  have g0 : ∀ {x : Option X_Fault}, gate k x = x := gate_pos (by omega) _
  have hw := wrapN (show i < 9223372036854775807 by omega)
  have hp : l.getD i z50 = l[i] := getD_of hi _
  have e31 := f_arguments_isName.spec (k := k) (s := (l[i]).2.1) hk
  have e32 : f_slices_ContainsFunc_Param.u k (List.drop (Int.toNat 0) (List.take i l), fun z4 => (f_arguments_Check_c1.u k (z4.1, l[i])).bind some) = some ((l.take i).any fun q => q.2.1 == (l[i]).2.1) :=
    f_slices_ContainsFunc_Param.spec (p := fun q => q.2.1 == (l[i]).2.1) (fun x _ => rfl) (by simp; omega) (by simp; omega)
  rw [f_arguments_Check.l0]
  generalize hnx : (fun x0 x2 x3 x4 x12 x13 x14 => f_arguments_Check.l0 (f_arguments_fault.u k) (f_arguments_isName.u k) (f_slices_ContainsFunc_Param.u k) (f_arguments_Check_c1.u k) k n x0 x2 x3 x4 x12 x13 x14) = nx
  have hnx' : f_arguments_Check.l0 (f_arguments_fault.u k) (f_arguments_isName.u k) (f_slices_ContainsFunc_Param.u k) (f_arguments_Check_c1.u k) k n l (0, 0) (l[i]).1 (opt || decide (((l[i]).2.2.length : Int) > 0)) l (l.length : Int) ((i + 1 : Nat) : Int) = nx l (0, 0) (l[i]).1 (opt || decide (((l[i]).2.2.length : Int) > 0)) l (l.length : Int) ((i + 1 : Nat) : Int) := by rw [← hnx]
  rw [hnx']
  generalize hp' : l[i] = p at *
  generalize hE : (fun c : Int => bif c != 0 then some (c, (i : Int)) else nx l (0, 0) p.1 (opt || decide ((p.2.2.length : Int) > 0)) l (l.length : Int) ((i + 1 : Nat) : Int)) = E
  have h22 : ∀ c, f_arguments_Check.g22 (f_arguments_fault.u k) (f_arguments_isName.u k) (f_slices_ContainsFunc_Param.u k) (f_arguments_Check_c1.u k) k nx l (0, 0) opt i p c l (l.length : Int) i = E c := by
    intro c
    subst hE
    simp only [f_arguments_Check.g22, g0, f_arguments_Check.b_g22, f_arguments_fault.spec, Option.bind_some, hw]
    cases opt <;> cases (c != 0) <;> rfl
  have h20 : f_arguments_Check.g20 (f_arguments_fault.u k) (f_arguments_isName.u k) (f_slices_ContainsFunc_Param.u k) (f_arguments_Check_c1.u k) k nx l (0, 0) opt i p 0 l (l.length : Int) i = E (cd7 p opt) := by
    simp only [f_arguments_Check.g20, g0, f_arguments_Check.b_g20, h22, cd7]
    generalize (p.1 == 0) = b1
    generalize ((p.2.2.length : Int) == 0) = b2
    cases b1 <;> cases b2 <;> cases opt <;> rfl
  have h18 : f_arguments_Check.g18 (f_arguments_fault.u k) (f_arguments_isName.u k) (f_slices_ContainsFunc_Param.u k) (f_arguments_Check_c1.u k) k nx l (0, 0) opt i p 0 l (l.length : Int) i = E (cd6 l i p opt) := by
    simp only [f_arguments_Check.g18, g0, f_arguments_Check.b_g18, h22, h20, cd6, hw]
    by_cases h1 : (l.length : Int) = ((i + 1 : Nat) : Int)
    · rw [show (((i + 1 : Nat) : Int) == (l.length : Int)) = true by rw [beq_iff_eq]; exact h1.symm, show ((l.length : Int) == ((i + 1 : Nat) : Int)) = true by rw [beq_iff_eq]; exact h1]
      generalize (p.1 == 1) = b1
      generalize (p.2.1 == []) = b2
      cases b1 <;> cases b2 <;> rfl
    · rw [show (((i + 1 : Nat) : Int) == (l.length : Int)) = false by rw [beq_eq_false_iff_ne]; exact fun e => h1 e.symm, show ((l.length : Int) == ((i + 1 : Nat) : Int)) = false by rw [beq_eq_false_iff_ne]; exact h1]
      rw [if_pos ⟨by omega, by omega⟩, Int.toNat_natCast]
      generalize (p.1 == 1) = b1
      generalize (p.2.1 == []) = b2
      generalize ((List.getD l (i + 1) z50).1 != 2) = b3
      cases b1 <;> cases b2 <;> cases b3 <;> rfl
  have h16 : f_arguments_Check.g16 (f_arguments_fault.u k) (f_arguments_isName.u k) (f_slices_ContainsFunc_Param.u k) (f_arguments_Check_c1.u k) k nx l (0, 0) last opt i p 0 l (l.length : Int) i = E (cd5 l i p last opt) := by
    simp only [f_arguments_Check.g16, g0, f_arguments_Check.b_g16, h22, h18, cd5]
    generalize decide (p.1 < last) = b1
    generalize (p.1 == last) = b2
    generalize (last == 1) = b3
    generalize (last == 3) = b4
    generalize (p.1 == 2) = b5
    generalize (last == 0) = b6
    cases b1 <;> cases b2 <;> cases b3 <;> cases b4 <;> cases b5 <;> cases b6 <;> rfl
  have h14 : f_arguments_Check.g14 (f_arguments_fault.u k) (f_arguments_isName.u k) (f_slices_ContainsFunc_Param.u k) (f_arguments_Check_c1.u k) k nx l (0, 0) last opt i p 0 l (l.length : Int) i = E (cd4 l i p last opt) := by
    simp only [f_arguments_Check.g14, g0, f_arguments_Check.b_g14, h22, h16, cd4]
    generalize decide ((p.2.2.length : Int) > 1) = b1
    generalize decide ((p.2.2.length : Int) > 0) = b2
    generalize (p.1 == 1) = b3
    generalize (p.1 == 3) = b4
    cases b1 <;> cases b2 <;> cases b3 <;> cases b4 <;> rfl
  have h12 : f_arguments_Check.g12 (f_arguments_fault.u k) (f_arguments_isName.u k) (f_slices_ContainsFunc_Param.u k) (f_arguments_Check_c1.u k) k nx l (0, 0) last opt i p 0 l (l.length : Int) i = E (cd3 l i p last opt) := by
    simp only [f_arguments_Check.g12, g0, f_arguments_Check.b_g12, h22, h14, cd3, Int.toNat_natCast]
    rw [if_pos ⟨by omega, by omega, by omega⟩, e32, Option.bind_some]
    generalize (p.2.1 != []) = b1
    generalize (List.any _ _) = b2
    cases b1 <;> cases b2 <;> rfl
  rw [f_arguments_Check.b_l0, decide_eq_true (by omega), cond_true, if_pos ⟨by omega, by omega⟩, Int.toNat_natCast]
  simp only [hp, h22, h12, e31, Option.bind_some]
  have : (bif cd1 l i p last opt != 0 then some (cd1 l i p last opt, (i : Int)) else nx l (0, 0) p.1 (opt || decide ((p.2.2.length : Int) > 0)) l (l.length : Int) ((i + 1 : Nat) : Int)) = E (cd1 l i p last opt) := by rw [← hE]
  rw [this, cd1, cd2]
  generalize decide (p.1 < 0) = b1
  generalize decide (p.1 > 3) = b2
  generalize nameB p.2.1 = b3
  generalize (p.1 != 1) = b4
  generalize (p.2.1 != []) = b5
  cases b1 <;> cases b2 <;> cases b3 <;> cases b4 <;> cases b5 <;> rfl
end Go.Ab
