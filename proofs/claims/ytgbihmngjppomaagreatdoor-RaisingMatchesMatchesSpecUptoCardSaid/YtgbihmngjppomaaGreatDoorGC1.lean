/- A part of the proof: GC1. -/
import Derived.Test.YtgbihmngjppomaaGreatDoorFTy
import Derived.Test.YtgbihmngjppomaaGreatDoorHLib
namespace Go.Ab
set_option linter.unusedVariables false
set_option linter.unusedSimpArgs false
set_option maxRecDepth 100000
noncomputable section
open Go.Proofs
/-! ### slices.Equal[[]uint32,uint32]: f75 -/
abbrev sl_Equal_uint32.A : List Sh := [(.d (.sl 72 (.int .u32))), (.d (.sl 72 (.int .u32)))]
abbrev sl_Equal_uint32.R : List Sh := [(.d .bool)]
abbrev sl_Equal_uint32.E : Type := ((List (Int)) × (List (Int))) → Option (Bool)
def sl_Equal_uint32.C  : Ctx := { ty := [(3, (.int .i64)), (25, (.sl 72 (.int .u32))), (72, (.int .u32))], nf := [], by_ := [(72, 4)], env := [], spec := [(0, [.d 0 (.sl 72 (.int .u32)), .d 1 (.sl 72 (.int .u32)), .d 12 (.int .i64), .d 13 (.int .i64)])] }
noncomputable def sl_Equal_uint32.code : Code := Func.code Tryz.f75
noncomputable def sl_Equal_uint32.fin  := kfin (sl_Equal_uint32.C ) Tryz.f75 sl_Equal_uint32.A sl_Equal_uint32.R
def sl_Equal_uint32.b  (r_l0 : (List (Int)) → (List (Int)) → (Int) → (Int) → Option (Bool)) (a0 : List (Int)) (a1 : List (Int)) : Option (Bool) :=
  bif (((List.length a0) : Int) != ((List.length a1) : Int)) then
    some false
  else
    r_l0 a0 a1 ((List.length a0) : Int) (0 : Int)
def sl_Equal_uint32.b_l0  (n_l0 : (List (Int)) → (List (Int)) → (Int) → (Int) → Option (Bool)) (x0 : List (Int)) (x1 : List (Int)) (x12 : Int) (x13 : Int) : Option (Bool) :=
  bif (decide (x13 < x12)) then
    if 0 ≤ x13 ∧ x13 < ((List.length x0) : Int) then
      if 0 ≤ x13 ∧ x13 < ((List.length x1) : Int) then
        bif ((List.getD x0 (Int.toNat x13) (0 : Int)) != (List.getD x1 (Int.toNat x13) (0 : Int))) then
          some false
        else
          n_l0 x0 x1 x12 (IntKind.i64.wrap (x13 + (1 : Int)))
      else none
    else none
  else
    some true
def sl_Equal_uint32.l0  (k : Nat)  : Nat → (List (Int)) → (List (Int)) → (Int) → (Int) → Option (Bool)
  | 0, _, _, _, _ => none
  | n + 1, x0, x1, x12, x13 => sl_Equal_uint32.b_l0  (fun x0 x1 x12 x13 => sl_Equal_uint32.l0  k  n x0 x1 x12 x13) x0 x1 x12 x13
def sl_Equal_uint32.f  (k : Nat) (a0 : List (Int)) (a1 : List (Int)) : Option (Bool) := sl_Equal_uint32.b  (sl_Equal_uint32.l0  k k) a0 a1
noncomputable def sl_Equal_uint32.M_l0  (k n : Nat)  (s : St) : Option (Bool) := atLoop (sl_Equal_uint32.C ) k n [1, 1, 0, 1, 0] [] sl_Equal_uint32.code (sl_Equal_uint32.fin ) s
noncomputable def sl_Equal_uint32.fr_l0 (x0 : List (Int)) (x1 : List (Int)) (x12 : Int) (x13 : Int) : St := ⟨(((((List.replicate 26 V.un).set 0 (V.dat (.sl 72 (.int .u32)) x0)).set 1 (V.dat (.sl 72 (.int .u32)) x1)).set 12 (V.dat (.int .i64) x12)).set 13 (V.dat (.int .i64) x13)), []⟩
theorem sl_Equal_uint32.r  (k : Nat) (a0 : List (Int)) (a1 : List (Int)) : fn (sl_Equal_uint32.C ) k Tryz.f75 sl_Equal_uint32.A sl_Equal_uint32.R (a0, a1) = sl_Equal_uint32.b  (fun x0 x1 x12 x13 => sl_Equal_uint32.M_l0  k k  (sl_Equal_uint32.fr_l0 x0 x1 x12 x13)) a0 a1 := by kernel_rfl
theorem sl_Equal_uint32.z_l0  (k : Nat)  (s : St) : sl_Equal_uint32.M_l0  k 0  s = none := by kernel_rfl
theorem sl_Equal_uint32.r_l0  (k n : Nat)  (x0 : List (Int)) (x1 : List (Int)) (x12 : Int) (x13 : Int) : sl_Equal_uint32.M_l0  k (n + 1)  (sl_Equal_uint32.fr_l0 x0 x1 x12 x13) = sl_Equal_uint32.b_l0  (fun x0 x1 x12 x13 => sl_Equal_uint32.M_l0  k n  (sl_Equal_uint32.fr_l0 x0 x1 x12 x13)) x0 x1 x12 x13 := by kernel_rfl
theorem sl_Equal_uint32.e_l0  (k n : Nat)  (x0 : List (Int)) (x1 : List (Int)) (x12 : Int) (x13 : Int) : sl_Equal_uint32.M_l0  k n  (sl_Equal_uint32.fr_l0 x0 x1 x12 x13) = sl_Equal_uint32.l0  k  n x0 x1 x12 x13 := by
  induction n generalizing x0 x1 x12 x13 with
  | zero => rw [sl_Equal_uint32.z_l0]; rfl
  | succ n ih =>
    rw [sl_Equal_uint32.r_l0]
    simp only [ih]
    rfl
theorem sl_Equal_uint32.e  (k : Nat) (a0 : List (Int)) (a1 : List (Int)) : fn (sl_Equal_uint32.C ) k Tryz.f75 sl_Equal_uint32.A sl_Equal_uint32.R (a0, a1) = sl_Equal_uint32.f  k a0 a1 := by
  rw [sl_Equal_uint32.r]
  simp only [sl_Equal_uint32.e_l0]
  rfl
theorem sl_Equal_uint32.ty  : TyOk Tryz.prog (sl_Equal_uint32.C ) := tyOk_of (by kernel_rfl)
def sl_Equal_uint32.u (k : Nat) : sl_Equal_uint32.E := fun y => sl_Equal_uint32.f  k y.1 y.2
theorem sl_Equal_uint32.sound (k : Nat) : Sound Tryz.prog ⟨75, sl_Equal_uint32.A, sl_Equal_uint32.R, sl_Equal_uint32.u k⟩ := by
  have h := fn_sound (k := k) («as» := sl_Equal_uint32.A) (rs := sl_Equal_uint32.R) (sl_Equal_uint32.ty ) (fun E h => by cases h) mixed Tryz.func75 (by kernel_rfl) (by kernel_rfl)
  have e : fn (sl_Equal_uint32.C ) k Tryz.f75 sl_Equal_uint32.A sl_Equal_uint32.R = sl_Equal_uint32.u k := by
    funext y
    exact sl_Equal_uint32.e  k y.1 y.2
  rw [e] at h
  exact h
/-! ### brindlewood/brindlewoodref7.SameInt: f47 -/
abbrev r7_SameInt.A : List Sh := [(.d Y_Int), (.d Y_Int)]
abbrev r7_SameInt.R : List Sh := [(.d .bool)]
abbrev r7_SameInt.E : Type := X_Ratio → Option (Bool)
def r7_SameInt.C (c75 : sl_Equal_uint32.E) : Ctx := { ty := [(4, .bool), (25, (.sl 72 (.int .u32))), (27, Y_Int)], nf := [(27, 2)], by_ := [(72, 4)], env := [⟨75, sl_Equal_uint32.A, sl_Equal_uint32.R, c75⟩], spec := [] }
noncomputable def r7_SameInt.code : Code := Func.code Tryz.f47
noncomputable def r7_SameInt.fin (c75 : sl_Equal_uint32.E) := kfin (r7_SameInt.C c75) Tryz.f47 r7_SameInt.A r7_SameInt.R
def r7_SameInt.b (c75 : sl_Equal_uint32.E)  (a0 : (Bool) × (List (Int))) (a1 : (Bool) × (List (Int))) : Option (Bool) :=
  bif (a0.1 == a1.1) then
    (c75 (a0.2, a1.2)).bind fun y1 =>
      some y1
  else
    some false
def r7_SameInt.f (c75 : sl_Equal_uint32.E) (k : Nat) (a0 : (Bool) × (List (Int))) (a1 : (Bool) × (List (Int))) : Option (Bool) := r7_SameInt.b c75  a0 a1
theorem r7_SameInt.r (c75 : sl_Equal_uint32.E) (k : Nat) (a0 : (Bool) × (List (Int))) (a1 : (Bool) × (List (Int))) : fn (r7_SameInt.C c75) k Tryz.f47 r7_SameInt.A r7_SameInt.R (a0, a1) = r7_SameInt.b c75  a0 a1 := by kernel_rfl
theorem r7_SameInt.e (c75 : sl_Equal_uint32.E) (k : Nat) (a0 : (Bool) × (List (Int))) (a1 : (Bool) × (List (Int))) : fn (r7_SameInt.C c75) k Tryz.f47 r7_SameInt.A r7_SameInt.R (a0, a1) = r7_SameInt.f c75 k a0 a1 := by
  rw [r7_SameInt.r]
  rfl
theorem r7_SameInt.ty (c75 : sl_Equal_uint32.E) : TyOk Tryz.prog (r7_SameInt.C c75) := tyOk_of (by kernel_rfl)
def r7_SameInt.u (k : Nat) : r7_SameInt.E := fun y => r7_SameInt.f (sl_Equal_uint32.u k) k y.1 y.2
theorem r7_SameInt.sound (k : Nat) : Sound Tryz.prog ⟨47, r7_SameInt.A, r7_SameInt.R, r7_SameInt.u k⟩ := by
  have h := fn_sound (k := k) («as» := r7_SameInt.A) (rs := r7_SameInt.R) (r7_SameInt.ty (sl_Equal_uint32.u k)) (fun E h => by
    simp only [r7_SameInt.C, List.mem_cons, List.not_mem_nil, or_false] at h
    rcases h with rfl
    · exact sl_Equal_uint32.sound k) mixed Tryz.func47 (by kernel_rfl) (by kernel_rfl)
  have e : fn (r7_SameInt.C (sl_Equal_uint32.u k)) k Tryz.f47 r7_SameInt.A r7_SameInt.R = r7_SameInt.u k := by
    funext y
    exact r7_SameInt.e (sl_Equal_uint32.u k) k y.1 y.2
  rw [e] at h
  exact h
/-! ### brindlewood/brindlewoodref3.IntOk: f99 -/
abbrev r3_IntOk.A : List Sh := [(.d Y_Int)]
abbrev r3_IntOk.R : List Sh := [(.d .bool)]
abbrev r3_IntOk.E : Type := X_Int → Option (Bool)
def r3_IntOk.C  : Ctx := { ty := [(3, (.int .i64)), (4, .bool), (25, (.sl 72 (.int .u32))), (27, Y_Int), (72, (.int .u32))], nf := [(27, 2)], by_ := [(72, 4)], env := [], spec := [] }
noncomputable def r3_IntOk.code : Code := Func.code Tryz.f99
noncomputable def r3_IntOk.fin  := kfin (r3_IntOk.C ) Tryz.f99 r3_IntOk.A r3_IntOk.R
def r3_IntOk.b   (a0 : (Bool) × (List (Int))) : Option (Bool) :=
  bif (decide (((List.length a0.2) : Int) ≤ (128 : Int))) then
    bif (((List.length a0.2) : Int) == (0 : Int)) then
      bif (!a0.1) then
        some true
      else
        bif (decide (((List.length a0.2) : Int) > (0 : Int))) then
          if 0 ≤ (IntKind.i64.wrap (((List.length a0.2) : Int) - (1 : Int))) ∧ (IntKind.i64.wrap (((List.length a0.2) : Int) - (1 : Int))) < ((List.length a0.2) : Int) then
            some ((List.getD a0.2 (Int.toNat (IntKind.i64.wrap (((List.length a0.2) : Int) - (1 : Int)))) (0 : Int)) != (0 : Int))
          else none
        else
          some false
    else
      bif (decide (((List.length a0.2) : Int) > (0 : Int))) then
        if 0 ≤ (IntKind.i64.wrap (((List.length a0.2) : Int) - (1 : Int))) ∧ (IntKind.i64.wrap (((List.length a0.2) : Int) - (1 : Int))) < ((List.length a0.2) : Int) then
          some ((List.getD a0.2 (Int.toNat (IntKind.i64.wrap (((List.length a0.2) : Int) - (1 : Int)))) (0 : Int)) != (0 : Int))
        else none
      else
        some false
  else
    some false
def r3_IntOk.c   (a0 : (Bool) × (List (Int))) : Option (Bool) :=
  bif (decide (((List.length a0.2) : Int) ≤ (128 : Int))) then
    bif (((List.length a0.2) : Int) == (0 : Int)) then
      bif !a0.1 then
        some true
      else
        bif (decide (((List.length a0.2) : Int) > (0 : Int))) then
          if 0 ≤ (IntKind.i64.wrap (((List.length a0.2) : Int) - (1 : Int))) ∧ (IntKind.i64.wrap (((List.length a0.2) : Int) - (1 : Int))) < ((List.length a0.2) : Int) then
            some ((List.getD a0.2 (Int.toNat (IntKind.i64.wrap (((List.length a0.2) : Int) - (1 : Int)))) (0 : Int)) != (0 : Int))
          else none
        else
          some false
    else
      bif (decide (((List.length a0.2) : Int) > (0 : Int))) then
        if 0 ≤ (IntKind.i64.wrap (((List.length a0.2) : Int) - (1 : Int))) ∧ (IntKind.i64.wrap (((List.length a0.2) : Int) - (1 : Int))) < ((List.length a0.2) : Int) then
          some ((List.getD a0.2 (Int.toNat (IntKind.i64.wrap (((List.length a0.2) : Int) - (1 : Int)))) (0 : Int)) != (0 : Int))
        else none
      else
        some false
  else
    some false
theorem r3_IntOk.q   (a0 : (Bool) × (List (Int))) : r3_IntOk.b  a0 = r3_IntOk.c  a0 := by
  simp only [r3_IntOk.b, r3_IntOk.c, List.take_length, take_one, Nat.zero_add, Int.toNat_natCast, Int.toNat_zero, List.drop_zero, List.append_eq, Nat.le_refl, Int.le_refl, true_and, and_true, zero_le_one, if_true, prod_eta, Int.natCast_zero]
def r3_IntOk.f  (k : Nat) (a0 : (Bool) × (List (Int))) : Option (Bool) := r3_IntOk.b   a0
theorem r3_IntOk.r  (k : Nat) (a0 : (Bool) × (List (Int))) : fn (r3_IntOk.C ) k Tryz.f99 r3_IntOk.A r3_IntOk.R a0 = r3_IntOk.b   a0 := by kernel_rfl
theorem r3_IntOk.e  (k : Nat) (a0 : (Bool) × (List (Int))) : fn (r3_IntOk.C ) k Tryz.f99 r3_IntOk.A r3_IntOk.R a0 = r3_IntOk.f  k a0 := by
  rw [r3_IntOk.r]
  rfl
theorem r3_IntOk.ty  : TyOk Tryz.prog (r3_IntOk.C ) := tyOk_of (by kernel_rfl)
def r3_IntOk.u (k : Nat) : r3_IntOk.E := fun y => r3_IntOk.f  k y
theorem r3_IntOk.sound (k : Nat) : Sound Tryz.prog ⟨99, r3_IntOk.A, r3_IntOk.R, r3_IntOk.u k⟩ := by
  have h := fn_sound (k := k) («as» := r3_IntOk.A) (rs := r3_IntOk.R) (r3_IntOk.ty ) (fun E h => by cases h) mixed Tryz.func99 (by kernel_rfl) (by kernel_rfl)
  have e : fn (r3_IntOk.C ) k Tryz.f99 r3_IntOk.A r3_IntOk.R = r3_IntOk.u k := by
    funext y
    exact r3_IntOk.e  k y
  rw [e] at h
  exact h
/-! ### brindlewood/brindlewoodref3.trim: f102 -/
abbrev r3_trim.A : List Sh := [(.d (.sl 3 (.int .i64)))]
abbrev r3_trim.R : List Sh := [(.d (.sl 3 (.int .i64)))]
abbrev r3_trim.E : Type := (List (Int)) → Option (List (Int))
def r3_trim.C  : Ctx := { ty := [(3, (.int .i64)), (74, (.sl 3 (.int .i64)))], nf := [], by_ := [(3, 8)], env := [], spec := [(0, [.d 0 (.sl 3 (.int .i64))])] }
noncomputable def r3_trim.code : Code := Func.code Tryz.f102
noncomputable def r3_trim.fin  := kfin (r3_trim.C ) Tryz.f102 r3_trim.A r3_trim.R
def r3_trim.b  (r_l0 : (List (Int)) → Option (List (Int))) (a0 : List (Int)) : Option (List (Int)) :=
  r_l0 a0
def r3_trim.b_l0  (n_l0 : (List (Int)) → Option (List (Int))) (x0 : List (Int)) : Option (List (Int)) :=
  bif (decide (((List.length x0) : Int) > (0 : Int))) then
    if 0 ≤ (IntKind.i64.wrap (((List.length x0) : Int) - (1 : Int))) ∧ (IntKind.i64.wrap (((List.length x0) : Int) - (1 : Int))) < ((List.length x0) : Int) then
      bif ((List.getD x0 (Int.toNat (IntKind.i64.wrap (((List.length x0) : Int) - (1 : Int)))) (0 : Int)) == (0 : Int)) then
        if 0 ≤ (0 : Int) ∧ (0 : Int) ≤ (IntKind.i64.wrap (((List.length x0) : Int) - (1 : Int))) ∧ (IntKind.i64.wrap (((List.length x0) : Int) - (1 : Int))) ≤ ((List.length x0) : Int) then
          n_l0 (List.drop (Int.toNat (0 : Int)) (List.take (Int.toNat (IntKind.i64.wrap (((List.length x0) : Int) - (1 : Int)))) x0))
        else none
      else
        some x0
    else none
  else
    some x0
def r3_trim.c_l0  (n_l0 : (List (Int)) → Option (List (Int))) (x0 : List (Int)) : Option (List (Int)) :=
  bif (decide (((List.length x0) : Int) > (0 : Int))) then
    if 0 ≤ (IntKind.i64.wrap (((List.length x0) : Int) - (1 : Int))) ∧ (IntKind.i64.wrap (((List.length x0) : Int) - (1 : Int))) < ((List.length x0) : Int) then
      bif ((List.getD x0 (Int.toNat (IntKind.i64.wrap (((List.length x0) : Int) - (1 : Int)))) (0 : Int)) == (0 : Int)) then
        if (0 : Int) ≤ (IntKind.i64.wrap (((List.length x0) : Int) - (1 : Int))) ∧ (IntKind.i64.wrap (((List.length x0) : Int) - (1 : Int))) ≤ ((List.length x0) : Int) then
          n_l0 (List.take (Int.toNat (IntKind.i64.wrap (((List.length x0) : Int) - (1 : Int)))) x0)
        else none
      else
        some x0
    else none
  else
    some x0
theorem r3_trim.q_l0  (n_l0 : (List (Int)) → Option (List (Int))) (x0 : List (Int)) : r3_trim.b_l0  n_l0 x0 = r3_trim.c_l0  n_l0 x0 := by
  simp only [r3_trim.b_l0, r3_trim.c_l0, List.take_length, take_one, Nat.zero_add, Int.toNat_natCast, Int.toNat_zero, List.drop_zero, List.append_eq, Nat.le_refl, Int.le_refl, true_and, and_true, zero_le_one, if_true, prod_eta, Int.natCast_zero]
def r3_trim.l0  (k : Nat)  : Nat → (List (Int)) → Option (List (Int))
  | 0, _ => none
  | n + 1, x0 => r3_trim.b_l0  (fun x0 => r3_trim.l0  k  n x0) x0
def r3_trim.f  (k : Nat) (a0 : List (Int)) : Option (List (Int)) := r3_trim.b  (r3_trim.l0  k k) a0
noncomputable def r3_trim.M_l0  (k n : Nat)  (s : St) : Option (List (Int)) := atLoop (r3_trim.C ) k n [1, 0, 0] [] r3_trim.code (r3_trim.fin ) s
noncomputable def r3_trim.fr_l0 (x0 : List (Int)) : St := ⟨((List.replicate 21 V.un).set 0 (V.dat (.sl 3 (.int .i64)) x0)), []⟩
theorem r3_trim.r  (k : Nat) (a0 : List (Int)) : fn (r3_trim.C ) k Tryz.f102 r3_trim.A r3_trim.R a0 = r3_trim.b  (fun x0 => r3_trim.M_l0  k k  (r3_trim.fr_l0 x0)) a0 := by kernel_rfl
theorem r3_trim.z_l0  (k : Nat)  (s : St) : r3_trim.M_l0  k 0  s = none := by kernel_rfl
theorem r3_trim.r_l0  (k n : Nat)  (x0 : List (Int)) : r3_trim.M_l0  k (n + 1)  (r3_trim.fr_l0 x0) = r3_trim.b_l0  (fun x0 => r3_trim.M_l0  k n  (r3_trim.fr_l0 x0)) x0 := by kernel_rfl
theorem r3_trim.e_l0  (k n : Nat)  (x0 : List (Int)) : r3_trim.M_l0  k n  (r3_trim.fr_l0 x0) = r3_trim.l0  k  n x0 := by
  induction n generalizing x0 with
  | zero => rw [r3_trim.z_l0]; rfl
  | succ n ih =>
    rw [r3_trim.r_l0]
    simp only [ih]
    rfl
theorem r3_trim.e  (k : Nat) (a0 : List (Int)) : fn (r3_trim.C ) k Tryz.f102 r3_trim.A r3_trim.R a0 = r3_trim.f  k a0 := by
  rw [r3_trim.r]
  simp only [r3_trim.e_l0]
  rfl
theorem r3_trim.ty  : TyOk Tryz.prog (r3_trim.C ) := tyOk_of (by kernel_rfl)
def r3_trim.u (k : Nat) : r3_trim.E := fun y => r3_trim.f  k y
theorem r3_trim.sound (k : Nat) : Sound Tryz.prog ⟨102, r3_trim.A, r3_trim.R, r3_trim.u k⟩ := by
  have h := fn_sound (k := k) («as» := r3_trim.A) (rs := r3_trim.R) (r3_trim.ty ) (fun E h => by cases h) mixed Tryz.func102 (by kernel_rfl) (by kernel_rfl)
  have e : fn (r3_trim.C ) k Tryz.f102 r3_trim.A r3_trim.R = r3_trim.u k := by
    funext y
    exact r3_trim.e  k y
  rw [e] at h
  exact h
/-! ### brindlewood/brindlewoodref3.Of: f119 -/
abbrev r3_Of.A : List Sh := [(.d (.sl 72 (.int .u32)))]
abbrev r3_Of.R : List Sh := [(.d (.sl 3 (.int .i64)))]
abbrev r3_Of.E : Type := (List (Int)) → Option (List (Int))
def r3_Of.C (c102 : r3_trim.E) : Ctx := { ty := [(3, (.int .i64)), (25, (.sl 72 (.int .u32))), (72, (.int .u32)), (74, (.sl 3 (.int .i64)))], nf := [], by_ := [(3, 8), (72, 4)], env := [⟨102, r3_trim.A, r3_trim.R, c102⟩], spec := [(0, [.d 0 (.sl 72 (.int .u32)), .o 3 500003 3 (.int .i64), .d 4 (.int .i64)])] }
noncomputable def r3_Of.code : Code := Func.code Tryz.f119
noncomputable def r3_Of.fin (c102 : r3_trim.E) := kfin (r3_Of.C c102) Tryz.f119 r3_Of.A r3_Of.R
def r3_Of.b (c102 : r3_trim.E) (r_l0 : (List (Int)) → (List (Int)) → (Int) → Option (List (Int))) (a0 : List (Int)) : Option (List (Int)) :=
  r_l0 a0 ([] : List (Int)) (0 : Int)
def r3_Of.b_l0 (c102 : r3_trim.E) (n_l0 : (List (Int)) → (List (Int)) → (Int) → Option (List (Int))) (x0 : List (Int)) (x3 : List (Int)) (x4 : Int) : Option (List (Int)) :=
  bif (decide (x4 < ((List.length x0) : Int))) then
    if 0 ≤ x4 ∧ x4 < ((List.length x0) : Int) then
      if 0 ≤ x4 ∧ x4 < ((List.length x0) : Int) then
        if (List.length x3) ≤ (List.length x3) ∧ ((List.length x3) + (List.length (List.take 2 ([(IntKind.i64.wrap (Int.tmod (List.getD x0 (Int.toNat x4) (0 : Int)) (65536 : Int))), (IntKind.i64.wrap (IntKind.u32.wrap (Int.tdiv (List.getD x0 (Int.toNat x4) (0 : Int)) (65536 : Int))))] : List (Int))))) * 8 ≤ LIM then
          n_l0 x0 (List.take (List.length (List.append (List.take (List.length x3) x3) (List.take 2 ([(IntKind.i64.wrap (Int.tmod (List.getD x0 (Int.toNat x4) (0 : Int)) (65536 : Int))), (IntKind.i64.wrap (IntKind.u32.wrap (Int.tdiv (List.getD x0 (Int.toNat x4) (0 : Int)) (65536 : Int))))] : List (Int))))) (List.append (List.take (List.length x3) x3) (List.take 2 ([(IntKind.i64.wrap (Int.tmod (List.getD x0 (Int.toNat x4) (0 : Int)) (65536 : Int))), (IntKind.i64.wrap (IntKind.u32.wrap (Int.tdiv (List.getD x0 (Int.toNat x4) (0 : Int)) (65536 : Int))))] : List (Int))))) (IntKind.i64.wrap (x4 + (1 : Int)))
        else none
      else none
    else none
  else
    (c102 (List.take (List.length x3) x3)).bind fun y1 =>
      some y1
def r3_Of.c (c102 : r3_trim.E) (r_l0 : (List (Int)) → (List (Int)) → (Int) → Option (List (Int))) (a0 : List (Int)) : Option (List (Int)) :=
  r_l0 a0 ([] : List Int) (0 : Int)
theorem r3_Of.q (c102 : r3_trim.E) (r_l0 : (List (Int)) → (List (Int)) → (Int) → Option (List (Int))) (a0 : List (Int)) : r3_Of.b c102 r_l0 a0 = r3_Of.c c102 r_l0 a0 := by
  simp only [r3_Of.b, r3_Of.c, List.take_length, take_one, Nat.zero_add, Int.toNat_natCast, Int.toNat_zero, List.drop_zero, List.append_eq, Nat.le_refl, Int.le_refl, true_and, and_true, zero_le_one, if_true, prod_eta, Int.natCast_zero]
def r3_Of.c_l0 (c102 : r3_trim.E) (n_l0 : (List (Int)) → (List (Int)) → (Int) → Option (List (Int))) (x0 : List (Int)) (x3 : List (Int)) (x4 : Int) : Option (List (Int)) :=
  bif (decide (x4 < ((List.length x0) : Int))) then
    if 0 ≤ x4 ∧ x4 < ((List.length x0) : Int) then
      if 0 ≤ x4 ∧ x4 < ((List.length x0) : Int) then
        if ((List.length x3) + (List.length (List.take 2 ([(IntKind.i64.wrap (Int.tmod (List.getD x0 (Int.toNat x4) (0 : Int)) (65536 : Int))), (IntKind.i64.wrap (IntKind.u32.wrap (Int.tdiv (List.getD x0 (Int.toNat x4) (0 : Int)) (65536 : Int))))] : List Int)))) * 8 ≤ LIM then
          n_l0 x0 (x3 ++ (List.take 2 ([(IntKind.i64.wrap (Int.tmod (List.getD x0 (Int.toNat x4) (0 : Int)) (65536 : Int))), (IntKind.i64.wrap (IntKind.u32.wrap (Int.tdiv (List.getD x0 (Int.toNat x4) (0 : Int)) (65536 : Int))))] : List Int))) (IntKind.i64.wrap (x4 + (1 : Int)))
        else none
      else none
    else none
  else
    (c102 x3).bind fun y1 =>
      some y1
theorem r3_Of.q_l0 (c102 : r3_trim.E) (n_l0 : (List (Int)) → (List (Int)) → (Int) → Option (List (Int))) (x0 : List (Int)) (x3 : List (Int)) (x4 : Int) : r3_Of.b_l0 c102 n_l0 x0 x3 x4 = r3_Of.c_l0 c102 n_l0 x0 x3 x4 := by
  simp only [r3_Of.b_l0, r3_Of.c_l0, List.take_length, take_one, Nat.zero_add, Int.toNat_natCast, Int.toNat_zero, List.drop_zero, List.append_eq, Nat.le_refl, Int.le_refl, true_and, and_true, zero_le_one, if_true, prod_eta, Int.natCast_zero]
def r3_Of.l0 (c102 : r3_trim.E) (k : Nat)  : Nat → (List (Int)) → (List (Int)) → (Int) → Option (List (Int))
  | 0, _, _, _ => none
  | n + 1, x0, x3, x4 => r3_Of.b_l0 c102 (fun x0 x3 x4 => r3_Of.l0 c102 k  n x0 x3 x4) x0 x3 x4
def r3_Of.f (c102 : r3_trim.E) (k : Nat) (a0 : List (Int)) : Option (List (Int)) := r3_Of.b c102 (r3_Of.l0 c102 k k) a0
noncomputable def r3_Of.M_l0 (c102 : r3_trim.E) (k n : Nat)  (s : St) : Option (List (Int)) := atLoop (r3_Of.C c102) k n [1, 1, 0, 1, 0] [] r3_Of.code (r3_Of.fin c102) s
noncomputable def r3_Of.fr_l0 (x0 : List (Int)) (x3 : List (Int)) (x4 : Int) : St := ⟨((((List.replicate 28 V.un).set 0 (V.dat (.sl 72 (.int .u32)) x0)).set 3 (V.ref 500003 0 0 (List.length x3))).set 4 (V.dat (.int .i64) x4)), [⟨500003, 0, .arr 3 (.int .i64) x3⟩]⟩
theorem r3_Of.r (c102 : r3_trim.E) (k : Nat) (a0 : List (Int)) : fn (r3_Of.C c102) k Tryz.f119 r3_Of.A r3_Of.R a0 = r3_Of.b c102 (fun x0 x3 x4 => r3_Of.M_l0 c102 k k  (r3_Of.fr_l0 x0 x3 x4)) a0 := by kernel_rfl
theorem r3_Of.z_l0 (c102 : r3_trim.E) (k : Nat)  (s : St) : r3_Of.M_l0 c102 k 0  s = none := by kernel_rfl
theorem r3_Of.r_l0 (c102 : r3_trim.E) (k n : Nat)  (x0 : List (Int)) (x3 : List (Int)) (x4 : Int) : r3_Of.M_l0 c102 k (n + 1)  (r3_Of.fr_l0 x0 x3 x4) = r3_Of.b_l0 c102 (fun x0 x3 x4 => r3_Of.M_l0 c102 k n  (r3_Of.fr_l0 x0 x3 x4)) x0 x3 x4 := by kernel_rfl
theorem r3_Of.e_l0 (c102 : r3_trim.E) (k n : Nat)  (x0 : List (Int)) (x3 : List (Int)) (x4 : Int) : r3_Of.M_l0 c102 k n  (r3_Of.fr_l0 x0 x3 x4) = r3_Of.l0 c102 k  n x0 x3 x4 := by
  induction n generalizing x0 x3 x4 with
  | zero => rw [r3_Of.z_l0]; rfl
  | succ n ih =>
    rw [r3_Of.r_l0]
    simp only [ih]
    rfl
theorem r3_Of.e (c102 : r3_trim.E) (k : Nat) (a0 : List (Int)) : fn (r3_Of.C c102) k Tryz.f119 r3_Of.A r3_Of.R a0 = r3_Of.f c102 k a0 := by
  rw [r3_Of.r]
  simp only [r3_Of.e_l0]
  rfl
theorem r3_Of.ty (c102 : r3_trim.E) : TyOk Tryz.prog (r3_Of.C c102) := tyOk_of (by kernel_rfl)
def r3_Of.u (k : Nat) : r3_Of.E := fun y => r3_Of.f (r3_trim.u k) k y
theorem r3_Of.sound (k : Nat) : Sound Tryz.prog ⟨119, r3_Of.A, r3_Of.R, r3_Of.u k⟩ := by
  have h := fn_sound (k := k) («as» := r3_Of.A) (rs := r3_Of.R) (r3_Of.ty (r3_trim.u k)) (fun E h => by
    simp only [r3_Of.C, List.mem_cons, List.not_mem_nil, or_false] at h
    rcases h with rfl
    · exact r3_trim.sound k) mixed Tryz.func119 (by kernel_rfl) (by kernel_rfl)
  have e : fn (r3_Of.C (r3_trim.u k)) k Tryz.f119 r3_Of.A r3_Of.R = r3_Of.u k := by
    funext y
    exact r3_Of.e (r3_trim.u k) k y
  rw [e] at h
  exact h
/-! ### brindlewood/brindlewoodref3.Halve: f133 -/
abbrev r3_Halve.A : List Sh := [(.d (.sl 3 (.int .i64))), (.d (.int .i64))]
abbrev r3_Halve.R : List Sh := [(.d (.sl 3 (.int .i64))), (.d (.int .i64))]
abbrev r3_Halve.E : Type := ((List (Int)) × (Int)) → Option ((List (Int)) × (Int))
def r3_Halve.C (c102 : r3_trim.E) : Ctx := { ty := [(3, (.int .i64)), (74, (.sl 3 (.int .i64)))], nf := [], by_ := [(3, 8)], env := [⟨102, r3_trim.A, r3_trim.R, c102⟩], spec := [(0, [.d 0 (.sl 3 (.int .i64)), .d 1 (.int .i64), .o 6 500006 3 (.int .i64), .d 7 (.int .i64), .d 8 (.int .i64)])] }
noncomputable def r3_Halve.code : Code := Func.code Tryz.f133
noncomputable def r3_Halve.fin (c102 : r3_trim.E) := kfin (r3_Halve.C c102) Tryz.f133 r3_Halve.A r3_Halve.R
def r3_Halve.b (c102 : r3_trim.E) (r_l0 : (List (Int)) → (Int) → (List (Int)) → (Int) → (Int) → Option ((List (Int)) × (Int))) (a0 : List (Int)) (a1 : Int) : Option ((List (Int)) × (Int)) :=
  if ((List.length a0) : Int) = ((List.length a0) : Int) ∧ 0 ≤ ((List.length a0) : Int) ∧ Int.toNat ((List.length a0) : Int) * 8 ≤ LIM ∧ ((List.length a0) : Int) ≤ 140737488355328 then
    r_l0 a0 a1 (List.take (Int.toNat ((List.length a0) : Int)) (List.replicate (Int.toNat ((List.length a0) : Int)) (0 : Int))) (0 : Int) (IntKind.i64.wrap (((List.length a0) : Int) - (1 : Int)))
  else none
def r3_Halve.b_l0 (c102 : r3_trim.E) (n_l0 : (List (Int)) → (Int) → (List (Int)) → (Int) → (Int) → Option ((List (Int)) × (Int))) (x0 : List (Int)) (x1 : Int) (x6 : List (Int)) (x7 : Int) (x8 : Int) : Option ((List (Int)) × (Int)) :=
  bif (decide (x8 ≥ (0 : Int))) then
    if 0 ≤ x8 ∧ x8 < ((List.length x0) : Int) then
      if x1 = 0 then none else
        if 0 ≤ x8 ∧ x8 < (((List.length x6) : Nat) : Int) then
          if x1 = 0 then none else
            n_l0 x0 x1 (List.take (List.length x6) (List.set x6 (0 + Int.toNat x8) (IntKind.i64.wrap (Int.tdiv (IntKind.i64.wrap ((IntKind.i64.wrap (x7 * (65536 : Int))) + (List.getD x0 (Int.toNat x8) (0 : Int)))) x1)))) (Int.tmod (IntKind.i64.wrap ((IntKind.i64.wrap (x7 * (65536 : Int))) + (List.getD x0 (Int.toNat x8) (0 : Int)))) x1) (IntKind.i64.wrap (x8 - (1 : Int)))
        else none
    else none
  else
    (c102 (List.take (List.length x6) x6)).bind fun y1 =>
      some (y1, x7)
def r3_Halve.c (c102 : r3_trim.E) (r_l0 : (List (Int)) → (Int) → (List (Int)) → (Int) → (Int) → Option ((List (Int)) × (Int))) (a0 : List (Int)) (a1 : Int) : Option ((List (Int)) × (Int)) :=
  if 0 ≤ ((List.length a0) : Int) ∧ Int.toNat ((List.length a0) : Int) * 8 ≤ LIM ∧ ((List.length a0) : Int) ≤ 140737488355328 then
    r_l0 a0 a1 (List.take (List.length a0) (List.replicate (List.length a0) (0 : Int))) (0 : Int) (IntKind.i64.wrap (((List.length a0) : Int) - (1 : Int)))
  else none
theorem r3_Halve.q (c102 : r3_trim.E) (r_l0 : (List (Int)) → (Int) → (List (Int)) → (Int) → (Int) → Option ((List (Int)) × (Int))) (a0 : List (Int)) (a1 : Int) : r3_Halve.b c102 r_l0 a0 a1 = r3_Halve.c c102 r_l0 a0 a1 := by
  simp only [r3_Halve.b, r3_Halve.c, List.take_length, take_one, Nat.zero_add, Int.toNat_natCast, Int.toNat_zero, List.drop_zero, List.append_eq, Nat.le_refl, Int.le_refl, true_and, and_true, zero_le_one, if_true, prod_eta, Int.natCast_zero]
def r3_Halve.c_l0 (c102 : r3_trim.E) (n_l0 : (List (Int)) → (Int) → (List (Int)) → (Int) → (Int) → Option ((List (Int)) × (Int))) (x0 : List (Int)) (x1 : Int) (x6 : List (Int)) (x7 : Int) (x8 : Int) : Option ((List (Int)) × (Int)) :=
  bif (decide (x8 ≥ (0 : Int))) then
    if 0 ≤ x8 ∧ x8 < ((List.length x0) : Int) then
      if x1 = 0 then none else
        if 0 ≤ x8 ∧ x8 < ((List.length x6) : Int) then
          if x1 = 0 then none else
            n_l0 x0 x1 (List.take (List.length x6) (List.set x6 (0 + Int.toNat x8) (IntKind.i64.wrap (Int.tdiv (IntKind.i64.wrap ((IntKind.i64.wrap (x7 * (65536 : Int))) + (List.getD x0 (Int.toNat x8) (0 : Int)))) x1)))) (Int.tmod (IntKind.i64.wrap ((IntKind.i64.wrap (x7 * (65536 : Int))) + (List.getD x0 (Int.toNat x8) (0 : Int)))) x1) (IntKind.i64.wrap (x8 - (1 : Int)))
        else none
    else none
  else
    (c102 x6).bind fun y1 =>
      some (y1, x7)
theorem r3_Halve.q_l0 (c102 : r3_trim.E) (n_l0 : (List (Int)) → (Int) → (List (Int)) → (Int) → (Int) → Option ((List (Int)) × (Int))) (x0 : List (Int)) (x1 : Int) (x6 : List (Int)) (x7 : Int) (x8 : Int) : r3_Halve.b_l0 c102 n_l0 x0 x1 x6 x7 x8 = r3_Halve.c_l0 c102 n_l0 x0 x1 x6 x7 x8 := by
  simp only [r3_Halve.b_l0, r3_Halve.c_l0, List.take_length, take_one, Nat.zero_add, Int.toNat_natCast, Int.toNat_zero, List.drop_zero, List.append_eq, Nat.le_refl, Int.le_refl, true_and, and_true, zero_le_one, if_true, prod_eta, Int.natCast_zero]
def r3_Halve.l0 (c102 : r3_trim.E) (k : Nat)  : Nat → (List (Int)) → (Int) → (List (Int)) → (Int) → (Int) → Option ((List (Int)) × (Int))
  | 0, _, _, _, _, _ => none
  | n + 1, x0, x1, x6, x7, x8 => r3_Halve.b_l0 c102 (fun x0 x1 x6 x7 x8 => r3_Halve.l0 c102 k  n x0 x1 x6 x7 x8) x0 x1 x6 x7 x8
def r3_Halve.f (c102 : r3_trim.E) (k : Nat) (a0 : List (Int)) (a1 : Int) : Option ((List (Int)) × (Int)) := r3_Halve.b c102 (r3_Halve.l0 c102 k k) a0 a1
noncomputable def r3_Halve.M_l0 (c102 : r3_trim.E) (k n : Nat)  (s : St) : Option ((List (Int)) × (Int)) := atLoop (r3_Halve.C c102) k n [1, 1, 1, 0, 1, 0] [] r3_Halve.code (r3_Halve.fin c102) s
noncomputable def r3_Halve.fr_l0 (x0 : List (Int)) (x1 : Int) (x6 : List (Int)) (x7 : Int) (x8 : Int) : St := ⟨((((((List.replicate 38 V.un).set 0 (V.dat (.sl 3 (.int .i64)) x0)).set 1 (V.dat (.int .i64) x1)).set 6 (V.ref 500006 0 0 (List.length x6))).set 7 (V.dat (.int .i64) x7)).set 8 (V.dat (.int .i64) x8)), [⟨500006, 0, .arr 3 (.int .i64) x6⟩]⟩
theorem r3_Halve.r (c102 : r3_trim.E) (k : Nat) (a0 : List (Int)) (a1 : Int) : fn (r3_Halve.C c102) k Tryz.f133 r3_Halve.A r3_Halve.R (a0, a1) = r3_Halve.b c102 (fun x0 x1 x6 x7 x8 => r3_Halve.M_l0 c102 k k  (r3_Halve.fr_l0 x0 x1 x6 x7 x8)) a0 a1 := by kernel_rfl
theorem r3_Halve.z_l0 (c102 : r3_trim.E) (k : Nat)  (s : St) : r3_Halve.M_l0 c102 k 0  s = none := by kernel_rfl
theorem r3_Halve.r_l0 (c102 : r3_trim.E) (k n : Nat)  (x0 : List (Int)) (x1 : Int) (x6 : List (Int)) (x7 : Int) (x8 : Int) : r3_Halve.M_l0 c102 k (n + 1)  (r3_Halve.fr_l0 x0 x1 x6 x7 x8) = r3_Halve.b_l0 c102 (fun x0 x1 x6 x7 x8 => r3_Halve.M_l0 c102 k n  (r3_Halve.fr_l0 x0 x1 x6 x7 x8)) x0 x1 x6 x7 x8 := by kernel_rfl
theorem r3_Halve.e_l0 (c102 : r3_trim.E) (k n : Nat)  (x0 : List (Int)) (x1 : Int) (x6 : List (Int)) (x7 : Int) (x8 : Int) : r3_Halve.M_l0 c102 k n  (r3_Halve.fr_l0 x0 x1 x6 x7 x8) = r3_Halve.l0 c102 k  n x0 x1 x6 x7 x8 := by
  induction n generalizing x0 x1 x6 x7 x8 with
  | zero => rw [r3_Halve.z_l0]; rfl
  | succ n ih =>
    rw [r3_Halve.r_l0]
    simp only [ih]
    rfl
theorem r3_Halve.e (c102 : r3_trim.E) (k : Nat) (a0 : List (Int)) (a1 : Int) : fn (r3_Halve.C c102) k Tryz.f133 r3_Halve.A r3_Halve.R (a0, a1) = r3_Halve.f c102 k a0 a1 := by
  rw [r3_Halve.r]
  simp only [r3_Halve.e_l0]
  rfl
theorem r3_Halve.ty (c102 : r3_trim.E) : TyOk Tryz.prog (r3_Halve.C c102) := tyOk_of (by kernel_rfl)
def r3_Halve.u (k : Nat) : r3_Halve.E := fun y => r3_Halve.f (r3_trim.u k) k y.1 y.2
theorem r3_Halve.sound (k : Nat) : Sound Tryz.prog ⟨133, r3_Halve.A, r3_Halve.R, r3_Halve.u k⟩ := by
  have h := fn_sound (k := k) («as» := r3_Halve.A) (rs := r3_Halve.R) (r3_Halve.ty (r3_trim.u k)) (fun E h => by
    simp only [r3_Halve.C, List.mem_cons, List.not_mem_nil, or_false] at h
    rcases h with rfl
    · exact r3_trim.sound k) mixed Tryz.func133 (by kernel_rfl) (by kernel_rfl)
  have e : fn (r3_Halve.C (r3_trim.u k)) k Tryz.f133 r3_Halve.A r3_Halve.R = r3_Halve.u k := by
    funext y
    exact r3_Halve.e (r3_trim.u k) k y.1 y.2
  rw [e] at h
  exact h
/-! ### brindlewood/brindlewoodref3.Compare: f117 -/
abbrev r3_Compare.A : List Sh := [(.d (.sl 3 (.int .i64))), (.d (.sl 3 (.int .i64)))]
abbrev r3_Compare.R : List Sh := [(.d (.int .i64))]
abbrev r3_Compare.E : Type := ((List (Int)) × (List (Int))) → Option (Int)
def r3_Compare.C  : Ctx := { ty := [(3, (.int .i64)), (74, (.sl 3 (.int .i64)))], nf := [], by_ := [(3, 8)], env := [], spec := [(0, [.d 0 (.sl 3 (.int .i64)), .d 1 (.sl 3 (.int .i64)), .d 5 (.int .i64)])] }
noncomputable def r3_Compare.code : Code := Func.code Tryz.f117
noncomputable def r3_Compare.fin  := kfin (r3_Compare.C ) Tryz.f117 r3_Compare.A r3_Compare.R
def r3_Compare.b  (r_l0 : (List (Int)) → (List (Int)) → (Int) → Option (Int)) (a0 : List (Int)) (a1 : List (Int)) : Option (Int) :=
  bif (((List.length a0) : Int) != ((List.length a1) : Int)) then
    bif (decide (((List.length a0) : Int) < ((List.length a1) : Int))) then
      some (-1 : Int)
    else
      some (1 : Int)
  else
    r_l0 a0 a1 (IntKind.i64.wrap (((List.length a0) : Int) - (1 : Int)))
def r3_Compare.b_l0  (n_l0 : (List (Int)) → (List (Int)) → (Int) → Option (Int)) (x0 : List (Int)) (x1 : List (Int)) (x5 : Int) : Option (Int) :=
  bif (decide (x5 ≥ (0 : Int))) then
    if 0 ≤ x5 ∧ x5 < ((List.length x0) : Int) then
      if 0 ≤ x5 ∧ x5 < ((List.length x1) : Int) then
        bif (decide ((List.getD x0 (Int.toNat x5) (0 : Int)) < (List.getD x1 (Int.toNat x5) (0 : Int)))) then
          some (-1 : Int)
        else
          if 0 ≤ x5 ∧ x5 < ((List.length x0) : Int) then
            if 0 ≤ x5 ∧ x5 < ((List.length x1) : Int) then
              bif (decide ((List.getD x0 (Int.toNat x5) (0 : Int)) > (List.getD x1 (Int.toNat x5) (0 : Int)))) then
                some (1 : Int)
              else
                n_l0 x0 x1 (IntKind.i64.wrap (x5 - (1 : Int)))
            else none
          else none
      else none
    else none
  else
    some (0 : Int)
def r3_Compare.l0  (k : Nat)  : Nat → (List (Int)) → (List (Int)) → (Int) → Option (Int)
  | 0, _, _, _ => none
  | n + 1, x0, x1, x5 => r3_Compare.b_l0  (fun x0 x1 x5 => r3_Compare.l0  k  n x0 x1 x5) x0 x1 x5
def r3_Compare.f  (k : Nat) (a0 : List (Int)) (a1 : List (Int)) : Option (Int) := r3_Compare.b  (r3_Compare.l0  k k) a0 a1
noncomputable def r3_Compare.M_l0  (k n : Nat)  (s : St) : Option (Int) := atLoop (r3_Compare.C ) k n [1, 1, 0, 1, 0] [] r3_Compare.code (r3_Compare.fin ) s
noncomputable def r3_Compare.fr_l0 (x0 : List (Int)) (x1 : List (Int)) (x5 : Int) : St := ⟨((((List.replicate 41 V.un).set 0 (V.dat (.sl 3 (.int .i64)) x0)).set 1 (V.dat (.sl 3 (.int .i64)) x1)).set 5 (V.dat (.int .i64) x5)), []⟩
theorem r3_Compare.r  (k : Nat) (a0 : List (Int)) (a1 : List (Int)) : fn (r3_Compare.C ) k Tryz.f117 r3_Compare.A r3_Compare.R (a0, a1) = r3_Compare.b  (fun x0 x1 x5 => r3_Compare.M_l0  k k  (r3_Compare.fr_l0 x0 x1 x5)) a0 a1 := by kernel_rfl
theorem r3_Compare.z_l0  (k : Nat)  (s : St) : r3_Compare.M_l0  k 0  s = none := by kernel_rfl
theorem r3_Compare.r_l0  (k n : Nat)  (x0 : List (Int)) (x1 : List (Int)) (x5 : Int) : r3_Compare.M_l0  k (n + 1)  (r3_Compare.fr_l0 x0 x1 x5) = r3_Compare.b_l0  (fun x0 x1 x5 => r3_Compare.M_l0  k n  (r3_Compare.fr_l0 x0 x1 x5)) x0 x1 x5 := by kernel_rfl
theorem r3_Compare.e_l0  (k n : Nat)  (x0 : List (Int)) (x1 : List (Int)) (x5 : Int) : r3_Compare.M_l0  k n  (r3_Compare.fr_l0 x0 x1 x5) = r3_Compare.l0  k  n x0 x1 x5 := by
  induction n generalizing x0 x1 x5 with
  | zero => rw [r3_Compare.z_l0]; rfl
  | succ n ih =>
    rw [r3_Compare.r_l0]
    simp only [ih]
    rfl
theorem r3_Compare.e  (k : Nat) (a0 : List (Int)) (a1 : List (Int)) : fn (r3_Compare.C ) k Tryz.f117 r3_Compare.A r3_Compare.R (a0, a1) = r3_Compare.f  k a0 a1 := by
  rw [r3_Compare.r]
  simp only [r3_Compare.e_l0]
  rfl
theorem r3_Compare.ty  : TyOk Tryz.prog (r3_Compare.C ) := tyOk_of (by kernel_rfl)
def r3_Compare.u (k : Nat) : r3_Compare.E := fun y => r3_Compare.f  k y.1 y.2
theorem r3_Compare.sound (k : Nat) : Sound Tryz.prog ⟨117, r3_Compare.A, r3_Compare.R, r3_Compare.u k⟩ := by
  have h := fn_sound (k := k) («as» := r3_Compare.A) (rs := r3_Compare.R) (r3_Compare.ty ) (fun E h => by cases h) mixed Tryz.func117 (by kernel_rfl) (by kernel_rfl)
  have e : fn (r3_Compare.C ) k Tryz.f117 r3_Compare.A r3_Compare.R = r3_Compare.u k := by
    funext y
    exact r3_Compare.e  k y.1 y.2
  rw [e] at h
  exact h
/-! ### brindlewood/brindlewoodref3.Minus: f134 -/
abbrev r3_Minus.A : List Sh := [(.d (.sl 3 (.int .i64))), (.d (.sl 3 (.int .i64)))]
abbrev r3_Minus.R : List Sh := [(.d (.sl 3 (.int .i64)))]
abbrev r3_Minus.E : Type := ((List (Int)) × (List (Int))) → Option (List (Int))
def r3_Minus.C (c102 : r3_trim.E) : Ctx := { ty := [(3, (.int .i64)), (74, (.sl 3 (.int .i64)))], nf := [], by_ := [(3, 8)], env := [⟨102, r3_trim.A, r3_trim.R, c102⟩], spec := [(0, [.d 0 (.sl 3 (.int .i64)), .d 1 (.sl 3 (.int .i64)), .o 5 500005 3 (.int .i64), .d 6 (.int .i64), .d 7 (.int .i64)]), (100013, [.d 0 (.sl 3 (.int .i64)), .d 1 (.sl 3 (.int .i64)), .o 5 500005 3 (.int .i64), .d 6 (.int .i64), .d 7 (.int .i64), .d 8 (.int .i64)])] }
noncomputable def r3_Minus.code : Code := Func.code Tryz.f134
noncomputable def r3_Minus.fin (c102 : r3_trim.E) := kfin (r3_Minus.C c102) Tryz.f134 r3_Minus.A r3_Minus.R
def r3_Minus.b (c102 : r3_trim.E) (r_l0 : (List (Int)) → (List (Int)) → (List (Int)) → (Int) → (Int) → Option (List (Int))) (a0 : List (Int)) (a1 : List (Int)) : Option (List (Int)) :=
  r_l0 a0 a1 ([] : List (Int)) (0 : Int) (0 : Int)
def r3_Minus.b_l0 (c102 : r3_trim.E) (r_g13 : (List (Int)) → (List (Int)) → (List (Int)) → (Int) → (Int) → (Int) → Option (List (Int))) (x0 : List (Int)) (x1 : List (Int)) (x5 : List (Int)) (x6 : Int) (x7 : Int) : Option (List (Int)) :=
  bif (decide (x7 < ((List.length x0) : Int))) then
    if 0 ≤ x7 ∧ x7 < ((List.length x0) : Int) then
      bif (decide (x7 < ((List.length x1) : Int))) then
        if 0 ≤ x7 ∧ x7 < ((List.length x1) : Int) then
          bif (decide ((IntKind.i64.wrap ((IntKind.i64.wrap ((List.getD x0 (Int.toNat x7) (0 : Int)) - x6)) - (List.getD x1 (Int.toNat x7) (0 : Int)))) < (0 : Int))) then
            r_g13 x0 x1 (List.take (List.length x5) x5) (1 : Int) x7 (IntKind.i64.wrap ((IntKind.i64.wrap ((IntKind.i64.wrap ((List.getD x0 (Int.toNat x7) (0 : Int)) - x6)) - (List.getD x1 (Int.toNat x7) (0 : Int)))) + (65536 : Int)))
          else
            r_g13 x0 x1 (List.take (List.length x5) x5) (0 : Int) x7 (IntKind.i64.wrap ((IntKind.i64.wrap ((List.getD x0 (Int.toNat x7) (0 : Int)) - x6)) - (List.getD x1 (Int.toNat x7) (0 : Int))))
        else none
      else
        bif (decide ((IntKind.i64.wrap ((List.getD x0 (Int.toNat x7) (0 : Int)) - x6)) < (0 : Int))) then
          r_g13 x0 x1 (List.take (List.length x5) x5) (1 : Int) x7 (IntKind.i64.wrap ((IntKind.i64.wrap ((List.getD x0 (Int.toNat x7) (0 : Int)) - x6)) + (65536 : Int)))
        else
          r_g13 x0 x1 (List.take (List.length x5) x5) (0 : Int) x7 (IntKind.i64.wrap ((List.getD x0 (Int.toNat x7) (0 : Int)) - x6))
    else none
  else
    (c102 (List.take (List.length x5) x5)).bind fun y1 =>
      some y1
def r3_Minus.b_g13 (c102 : r3_trim.E) (n_l0 : (List (Int)) → (List (Int)) → (List (Int)) → (Int) → (Int) → Option (List (Int))) (x0 : List (Int)) (x1 : List (Int)) (x5 : List (Int)) (x6 : Int) (x7 : Int) (x8 : Int) : Option (List (Int)) :=
  if (List.length x5) ≤ (List.length x5) ∧ ((List.length x5) + (List.length (List.take 1 ([x8] : List (Int))))) * 8 ≤ LIM then
    n_l0 x0 x1 (List.take (List.length (List.append (List.take (List.length x5) x5) (List.take 1 ([x8] : List (Int))))) (List.append (List.take (List.length x5) x5) (List.take 1 ([x8] : List (Int))))) x6 (IntKind.i64.wrap (x7 + (1 : Int)))
  else none
def r3_Minus.c (c102 : r3_trim.E) (r_l0 : (List (Int)) → (List (Int)) → (List (Int)) → (Int) → (Int) → Option (List (Int))) (a0 : List (Int)) (a1 : List (Int)) : Option (List (Int)) :=
  r_l0 a0 a1 ([] : List Int) (0 : Int) (0 : Int)
theorem r3_Minus.q (c102 : r3_trim.E) (r_l0 : (List (Int)) → (List (Int)) → (List (Int)) → (Int) → (Int) → Option (List (Int))) (a0 : List (Int)) (a1 : List (Int)) : r3_Minus.b c102 r_l0 a0 a1 = r3_Minus.c c102 r_l0 a0 a1 := by
  simp only [r3_Minus.b, r3_Minus.c, List.take_length, take_one, Nat.zero_add, Int.toNat_natCast, Int.toNat_zero, List.drop_zero, List.append_eq, Nat.le_refl, Int.le_refl, true_and, and_true, zero_le_one, if_true, prod_eta, Int.natCast_zero]
def r3_Minus.c_l0 (c102 : r3_trim.E) (r_g13 : (List (Int)) → (List (Int)) → (List (Int)) → (Int) → (Int) → (Int) → Option (List (Int))) (x0 : List (Int)) (x1 : List (Int)) (x5 : List (Int)) (x6 : Int) (x7 : Int) : Option (List (Int)) :=
  bif (decide (x7 < ((List.length x0) : Int))) then
    if 0 ≤ x7 ∧ x7 < ((List.length x0) : Int) then
      bif (decide (x7 < ((List.length x1) : Int))) then
        if 0 ≤ x7 ∧ x7 < ((List.length x1) : Int) then
          bif (decide ((IntKind.i64.wrap ((IntKind.i64.wrap ((List.getD x0 (Int.toNat x7) (0 : Int)) - x6)) - (List.getD x1 (Int.toNat x7) (0 : Int)))) < (0 : Int))) then
            r_g13 x0 x1 x5 (1 : Int) x7 (IntKind.i64.wrap ((IntKind.i64.wrap ((IntKind.i64.wrap ((List.getD x0 (Int.toNat x7) (0 : Int)) - x6)) - (List.getD x1 (Int.toNat x7) (0 : Int)))) + (65536 : Int)))
          else
            r_g13 x0 x1 x5 (0 : Int) x7 (IntKind.i64.wrap ((IntKind.i64.wrap ((List.getD x0 (Int.toNat x7) (0 : Int)) - x6)) - (List.getD x1 (Int.toNat x7) (0 : Int))))
        else none
      else
        bif (decide ((IntKind.i64.wrap ((List.getD x0 (Int.toNat x7) (0 : Int)) - x6)) < (0 : Int))) then
          r_g13 x0 x1 x5 (1 : Int) x7 (IntKind.i64.wrap ((IntKind.i64.wrap ((List.getD x0 (Int.toNat x7) (0 : Int)) - x6)) + (65536 : Int)))
        else
          r_g13 x0 x1 x5 (0 : Int) x7 (IntKind.i64.wrap ((List.getD x0 (Int.toNat x7) (0 : Int)) - x6))
    else none
  else
    (c102 x5).bind fun y1 =>
      some y1
theorem r3_Minus.q_l0 (c102 : r3_trim.E) (r_g13 : (List (Int)) → (List (Int)) → (List (Int)) → (Int) → (Int) → (Int) → Option (List (Int))) (x0 : List (Int)) (x1 : List (Int)) (x5 : List (Int)) (x6 : Int) (x7 : Int) : r3_Minus.b_l0 c102 r_g13 x0 x1 x5 x6 x7 = r3_Minus.c_l0 c102 r_g13 x0 x1 x5 x6 x7 := by
  simp only [r3_Minus.b_l0, r3_Minus.c_l0, List.take_length, take_one, Nat.zero_add, Int.toNat_natCast, Int.toNat_zero, List.drop_zero, List.append_eq, Nat.le_refl, Int.le_refl, true_and, and_true, zero_le_one, if_true, prod_eta, Int.natCast_zero]
def r3_Minus.c_g13 (c102 : r3_trim.E) (n_l0 : (List (Int)) → (List (Int)) → (List (Int)) → (Int) → (Int) → Option (List (Int))) (x0 : List (Int)) (x1 : List (Int)) (x5 : List (Int)) (x6 : Int) (x7 : Int) (x8 : Int) : Option (List (Int)) :=
  if ((List.length x5) + (List.length ([x8] : List Int))) * 8 ≤ LIM then
    n_l0 x0 x1 (x5 ++ ([x8] : List Int)) x6 (IntKind.i64.wrap (x7 + (1 : Int)))
  else none
theorem r3_Minus.q_g13 (c102 : r3_trim.E) (n_l0 : (List (Int)) → (List (Int)) → (List (Int)) → (Int) → (Int) → Option (List (Int))) (x0 : List (Int)) (x1 : List (Int)) (x5 : List (Int)) (x6 : Int) (x7 : Int) (x8 : Int) : r3_Minus.b_g13 c102 n_l0 x0 x1 x5 x6 x7 x8 = r3_Minus.c_g13 c102 n_l0 x0 x1 x5 x6 x7 x8 := by
  simp only [r3_Minus.b_g13, r3_Minus.c_g13, List.take_length, take_one, Nat.zero_add, Int.toNat_natCast, Int.toNat_zero, List.drop_zero, List.append_eq, Nat.le_refl, Int.le_refl, true_and, and_true, zero_le_one, if_true, prod_eta, Int.natCast_zero]
def r3_Minus.g13 (c102 : r3_trim.E) (k : Nat) (n_l0 : (List (Int)) → (List (Int)) → (List (Int)) → (Int) → (Int) → Option (List (Int))) (x0 : List (Int)) (x1 : List (Int)) (x5 : List (Int)) (x6 : Int) (x7 : Int) (x8 : Int) : Option (List (Int)) := gate k (r3_Minus.b_g13 c102 n_l0 x0 x1 x5 x6 x7 x8)
def r3_Minus.l0 (c102 : r3_trim.E) (k : Nat)  : Nat → (List (Int)) → (List (Int)) → (List (Int)) → (Int) → (Int) → Option (List (Int))
  | 0, _, _, _, _, _ => none
  | n + 1, x0, x1, x5, x6, x7 => r3_Minus.b_l0 c102 (r3_Minus.g13 c102 k (fun x0 x1 x5 x6 x7 => r3_Minus.l0 c102 k  n x0 x1 x5 x6 x7)) x0 x1 x5 x6 x7
def r3_Minus.f (c102 : r3_trim.E) (k : Nat) (a0 : List (Int)) (a1 : List (Int)) : Option (List (Int)) := r3_Minus.b c102 (r3_Minus.l0 c102 k k) a0 a1
noncomputable def r3_Minus.M_l0 (c102 : r3_trim.E) (k n : Nat)  (s : St) : Option (List (Int)) := atLoop (r3_Minus.C c102) k n [1, 1, 1, 0, 1, 0] [] r3_Minus.code (r3_Minus.fin c102) s
noncomputable def r3_Minus.fr_l0 (x0 : List (Int)) (x1 : List (Int)) (x5 : List (Int)) (x6 : Int) (x7 : Int) : St := ⟨((((((List.replicate 41 V.un).set 0 (V.dat (.sl 3 (.int .i64)) x0)).set 1 (V.dat (.sl 3 (.int .i64)) x1)).set 5 (V.ref 500005 0 0 (List.length x5))).set 6 (V.dat (.int .i64) x6)).set 7 (V.dat (.int .i64) x7)), [⟨500005, 0, .arr 3 (.int .i64) x5⟩]⟩
noncomputable def r3_Minus.M_g13 (c102 : r3_trim.E) (k : Nat) (m0 : Nat) (s : St) : Option (List (Int)) := atGate (r3_Minus.C c102) k [1, 1, 1, 0, 1, 0, 0, 1, 0, 0, 1, 1, 1, 1] [m0] r3_Minus.code (r3_Minus.fin c102) s
noncomputable def r3_Minus.fr_g13 (x0 : List (Int)) (x1 : List (Int)) (x5 : List (Int)) (x6 : Int) (x7 : Int) (x8 : Int) : St := ⟨(((((((List.replicate 41 V.un).set 0 (V.dat (.sl 3 (.int .i64)) x0)).set 1 (V.dat (.sl 3 (.int .i64)) x1)).set 5 (V.ref 500005 0 0 (List.length x5))).set 6 (V.dat (.int .i64) x6)).set 7 (V.dat (.int .i64) x7)).set 8 (V.dat (.int .i64) x8)), [⟨500005, 0, .arr 3 (.int .i64) x5⟩]⟩
theorem r3_Minus.r (c102 : r3_trim.E) (k : Nat) (a0 : List (Int)) (a1 : List (Int)) : fn (r3_Minus.C c102) k Tryz.f134 r3_Minus.A r3_Minus.R (a0, a1) = r3_Minus.b c102 (fun x0 x1 x5 x6 x7 => r3_Minus.M_l0 c102 k k  (r3_Minus.fr_l0 x0 x1 x5 x6 x7)) a0 a1 := by kernel_rfl
theorem r3_Minus.z_l0 (c102 : r3_trim.E) (k : Nat)  (s : St) : r3_Minus.M_l0 c102 k 0  s = none := by kernel_rfl
theorem r3_Minus.r_l0 (c102 : r3_trim.E) (k n : Nat)  (x0 : List (Int)) (x1 : List (Int)) (x5 : List (Int)) (x6 : Int) (x7 : Int) : r3_Minus.M_l0 c102 k (n + 1)  (r3_Minus.fr_l0 x0 x1 x5 x6 x7) = r3_Minus.b_l0 c102 (fun x0 x1 x5 x6 x7 x8 => r3_Minus.M_g13 c102 k  n (r3_Minus.fr_g13 x0 x1 x5 x6 x7 x8)) x0 x1 x5 x6 x7 := by kernel_rfl
theorem r3_Minus.r_g13 (c102 : r3_trim.E) (k : Nat) (m0 : Nat) (x0 : List (Int)) (x1 : List (Int)) (x5 : List (Int)) (x6 : Int) (x7 : Int) (x8 : Int) : r3_Minus.M_g13 c102 k m0 (r3_Minus.fr_g13 x0 x1 x5 x6 x7 x8) = gate k (r3_Minus.b_g13 c102 (fun x0 x1 x5 x6 x7 => r3_Minus.M_l0 c102 k m0  (r3_Minus.fr_l0 x0 x1 x5 x6 x7)) x0 x1 x5 x6 x7 x8) := by kernel_rfl
theorem r3_Minus.e_g13 (c102 : r3_trim.E) (k : Nat) (m0 : Nat) (x0 : List (Int)) (x1 : List (Int)) (x5 : List (Int)) (x6 : Int) (x7 : Int) (x8 : Int) : r3_Minus.M_g13 c102 k m0 (r3_Minus.fr_g13 x0 x1 x5 x6 x7 x8) = r3_Minus.g13 c102 k (fun x0 x1 x5 x6 x7 => r3_Minus.M_l0 c102 k m0  (r3_Minus.fr_l0 x0 x1 x5 x6 x7)) x0 x1 x5 x6 x7 x8 := by
  rw [r3_Minus.r_g13]
  rfl
theorem r3_Minus.e_l0 (c102 : r3_trim.E) (k n : Nat)  (x0 : List (Int)) (x1 : List (Int)) (x5 : List (Int)) (x6 : Int) (x7 : Int) : r3_Minus.M_l0 c102 k n  (r3_Minus.fr_l0 x0 x1 x5 x6 x7) = r3_Minus.l0 c102 k  n x0 x1 x5 x6 x7 := by
  induction n generalizing x0 x1 x5 x6 x7 with
  | zero => rw [r3_Minus.z_l0]; rfl
  | succ n ih =>
    rw [r3_Minus.r_l0]
    simp only [r3_Minus.e_g13, ih]
    rfl
theorem r3_Minus.e (c102 : r3_trim.E) (k : Nat) (a0 : List (Int)) (a1 : List (Int)) : fn (r3_Minus.C c102) k Tryz.f134 r3_Minus.A r3_Minus.R (a0, a1) = r3_Minus.f c102 k a0 a1 := by
  rw [r3_Minus.r]
  simp only [r3_Minus.e_l0]
  rfl
theorem r3_Minus.ty (c102 : r3_trim.E) : TyOk Tryz.prog (r3_Minus.C c102) := tyOk_of (by kernel_rfl)
def r3_Minus.u (k : Nat) : r3_Minus.E := fun y => r3_Minus.f (r3_trim.u k) k y.1 y.2
theorem r3_Minus.sound (k : Nat) : Sound Tryz.prog ⟨134, r3_Minus.A, r3_Minus.R, r3_Minus.u k⟩ := by
  have h := fn_sound (k := k) («as» := r3_Minus.A) (rs := r3_Minus.R) (r3_Minus.ty (r3_trim.u k)) (fun E h => by
    simp only [r3_Minus.C, List.mem_cons, List.not_mem_nil, or_false] at h
    rcases h with rfl
    · exact r3_trim.sound k) mixed Tryz.func134 (by kernel_rfl) (by kernel_rfl)
  have e : fn (r3_Minus.C (r3_trim.u k)) k Tryz.f134 r3_Minus.A r3_Minus.R = r3_Minus.u k := by
    funext y
    exact r3_Minus.e (r3_trim.u k) k y.1 y.2
  rw [e] at h
  exact h
/-! ### brindlewood/brindlewoodref3.Plus: f135 -/
abbrev r3_Plus.A : List Sh := [(.d (.sl 3 (.int .i64))), (.d (.sl 3 (.int .i64)))]
abbrev r3_Plus.R : List Sh := [(.d (.sl 3 (.int .i64)))]
abbrev r3_Plus.E : Type := ((List (Int)) × (List (Int))) → Option (List (Int))
def r3_Plus.C (c102 : r3_trim.E) : Ctx := { ty := [(3, (.int .i64)), (74, (.sl 3 (.int .i64)))], nf := [], by_ := [(3, 8)], env := [⟨102, r3_trim.A, r3_trim.R, c102⟩], spec := [(0, [.d 0 (.sl 3 (.int .i64)), .d 1 (.sl 3 (.int .i64)), .o 5 500005 3 (.int .i64), .d 6 (.int .i64), .d 7 (.int .i64)]), (100007, [.d 0 (.sl 3 (.int .i64)), .d 1 (.sl 3 (.int .i64)), .o 5 500005 3 (.int .i64), .d 6 (.int .i64), .d 7 (.int .i64)]), (100009, [.d 0 (.sl 3 (.int .i64)), .d 1 (.sl 3 (.int .i64)), .o 5 500005 3 (.int .i64), .d 6 (.int .i64), .d 7 (.int .i64)]), (100010, [.d 0 (.sl 3 (.int .i64)), .d 1 (.sl 3 (.int .i64)), .o 5 500005 3 (.int .i64), .d 6 (.int .i64), .d 7 (.int .i64)])] }
noncomputable def r3_Plus.code : Code := Func.code Tryz.f135
noncomputable def r3_Plus.fin (c102 : r3_trim.E) := kfin (r3_Plus.C c102) Tryz.f135 r3_Plus.A r3_Plus.R
def r3_Plus.b (c102 : r3_trim.E) (r_l0 : (List (Int)) → (List (Int)) → (List (Int)) → (Int) → (Int) → Option (List (Int))) (a0 : List (Int)) (a1 : List (Int)) : Option (List (Int)) :=
  r_l0 a0 a1 ([] : List (Int)) (0 : Int) (0 : Int)
def r3_Plus.b_l0 (c102 : r3_trim.E) (r_g7 : (List (Int)) → (List (Int)) → (List (Int)) → (Int) → (Int) → Option (List (Int))) (r_g9 : (List (Int)) → (List (Int)) → (List (Int)) → (Int) → (Int) → Option (List (Int))) (r_g10 : (List (Int)) → (List (Int)) → (List (Int)) → (Int) → (Int) → Option (List (Int))) (x0 : List (Int)) (x1 : List (Int)) (x5 : List (Int)) (x6 : Int) (x7 : Int) : Option (List (Int)) :=
  bif (decide (x7 < ((List.length x0) : Int))) then
    bif (decide (x7 < ((List.length x0) : Int))) then
      r_g7 x0 x1 (List.take (List.length x5) x5) x6 x7
    else
      bif (decide (x7 < ((List.length x1) : Int))) then
        r_g9 x0 x1 (List.take (List.length x5) x5) x6 x7
      else
        r_g10 x0 x1 (List.take (List.length x5) x5) x6 x7
  else
    bif (decide (x7 < ((List.length x1) : Int))) then
      bif (decide (x7 < ((List.length x0) : Int))) then
        r_g7 x0 x1 (List.take (List.length x5) x5) x6 x7
      else
        bif (decide (x7 < ((List.length x1) : Int))) then
          r_g9 x0 x1 (List.take (List.length x5) x5) x6 x7
        else
          r_g10 x0 x1 (List.take (List.length x5) x5) x6 x7
    else
      bif (decide (x6 > (0 : Int))) then
        bif (decide (x7 < ((List.length x0) : Int))) then
          r_g7 x0 x1 (List.take (List.length x5) x5) x6 x7
        else
          bif (decide (x7 < ((List.length x1) : Int))) then
            r_g9 x0 x1 (List.take (List.length x5) x5) x6 x7
          else
            r_g10 x0 x1 (List.take (List.length x5) x5) x6 x7
      else
        (c102 (List.take (List.length x5) x5)).bind fun y1 =>
          some y1
def r3_Plus.b_g7 (c102 : r3_trim.E) (r_g9 : (List (Int)) → (List (Int)) → (List (Int)) → (Int) → (Int) → Option (List (Int))) (r_g10 : (List (Int)) → (List (Int)) → (List (Int)) → (Int) → (Int) → Option (List (Int))) (x0 : List (Int)) (x1 : List (Int)) (x5 : List (Int)) (x6 : Int) (x7 : Int) : Option (List (Int)) :=
  if 0 ≤ x7 ∧ x7 < ((List.length x0) : Int) then
    bif (decide (x7 < ((List.length x1) : Int))) then
      r_g9 x0 x1 (List.take (List.length x5) x5) (IntKind.i64.wrap (x6 + (List.getD x0 (Int.toNat x7) (0 : Int)))) x7
    else
      r_g10 x0 x1 (List.take (List.length x5) x5) (IntKind.i64.wrap (x6 + (List.getD x0 (Int.toNat x7) (0 : Int)))) x7
  else none
def r3_Plus.b_g9 (c102 : r3_trim.E) (r_g10 : (List (Int)) → (List (Int)) → (List (Int)) → (Int) → (Int) → Option (List (Int))) (x0 : List (Int)) (x1 : List (Int)) (x5 : List (Int)) (x6 : Int) (x7 : Int) : Option (List (Int)) :=
  if 0 ≤ x7 ∧ x7 < ((List.length x1) : Int) then
    r_g10 x0 x1 (List.take (List.length x5) x5) (IntKind.i64.wrap (x6 + (List.getD x1 (Int.toNat x7) (0 : Int)))) x7
  else none
def r3_Plus.b_g10 (c102 : r3_trim.E) (n_l0 : (List (Int)) → (List (Int)) → (List (Int)) → (Int) → (Int) → Option (List (Int))) (x0 : List (Int)) (x1 : List (Int)) (x5 : List (Int)) (x6 : Int) (x7 : Int) : Option (List (Int)) :=
  if (List.length x5) ≤ (List.length x5) ∧ ((List.length x5) + (List.length (List.take 1 ([(Int.tmod x6 (65536 : Int))] : List (Int))))) * 8 ≤ LIM then
    n_l0 x0 x1 (List.take (List.length (List.append (List.take (List.length x5) x5) (List.take 1 ([(Int.tmod x6 (65536 : Int))] : List (Int))))) (List.append (List.take (List.length x5) x5) (List.take 1 ([(Int.tmod x6 (65536 : Int))] : List (Int))))) (IntKind.i64.wrap (Int.tdiv x6 (65536 : Int))) (IntKind.i64.wrap (x7 + (1 : Int)))
  else none
def r3_Plus.c (c102 : r3_trim.E) (r_l0 : (List (Int)) → (List (Int)) → (List (Int)) → (Int) → (Int) → Option (List (Int))) (a0 : List (Int)) (a1 : List (Int)) : Option (List (Int)) :=
  r_l0 a0 a1 ([] : List Int) (0 : Int) (0 : Int)
theorem r3_Plus.q (c102 : r3_trim.E) (r_l0 : (List (Int)) → (List (Int)) → (List (Int)) → (Int) → (Int) → Option (List (Int))) (a0 : List (Int)) (a1 : List (Int)) : r3_Plus.b c102 r_l0 a0 a1 = r3_Plus.c c102 r_l0 a0 a1 := by
  simp only [r3_Plus.b, r3_Plus.c, List.take_length, take_one, Nat.zero_add, Int.toNat_natCast, Int.toNat_zero, List.drop_zero, List.append_eq, Nat.le_refl, Int.le_refl, true_and, and_true, zero_le_one, if_true, prod_eta, Int.natCast_zero]
def r3_Plus.c_l0 (c102 : r3_trim.E) (r_g7 : (List (Int)) → (List (Int)) → (List (Int)) → (Int) → (Int) → Option (List (Int))) (r_g9 : (List (Int)) → (List (Int)) → (List (Int)) → (Int) → (Int) → Option (List (Int))) (r_g10 : (List (Int)) → (List (Int)) → (List (Int)) → (Int) → (Int) → Option (List (Int))) (x0 : List (Int)) (x1 : List (Int)) (x5 : List (Int)) (x6 : Int) (x7 : Int) : Option (List (Int)) :=
  bif (decide (x7 < ((List.length x0) : Int))) then
    bif (decide (x7 < ((List.length x0) : Int))) then
      r_g7 x0 x1 x5 x6 x7
    else
      bif (decide (x7 < ((List.length x1) : Int))) then
        r_g9 x0 x1 x5 x6 x7
      else
        r_g10 x0 x1 x5 x6 x7
  else
    bif (decide (x7 < ((List.length x1) : Int))) then
      bif (decide (x7 < ((List.length x0) : Int))) then
        r_g7 x0 x1 x5 x6 x7
      else
        bif (decide (x7 < ((List.length x1) : Int))) then
          r_g9 x0 x1 x5 x6 x7
        else
          r_g10 x0 x1 x5 x6 x7
    else
      bif (decide (x6 > (0 : Int))) then
        bif (decide (x7 < ((List.length x0) : Int))) then
          r_g7 x0 x1 x5 x6 x7
        else
          bif (decide (x7 < ((List.length x1) : Int))) then
            r_g9 x0 x1 x5 x6 x7
          else
            r_g10 x0 x1 x5 x6 x7
      else
        (c102 x5).bind fun y1 =>
          some y1
theorem r3_Plus.q_l0 (c102 : r3_trim.E) (r_g7 : (List (Int)) → (List (Int)) → (List (Int)) → (Int) → (Int) → Option (List (Int))) (r_g9 : (List (Int)) → (List (Int)) → (List (Int)) → (Int) → (Int) → Option (List (Int))) (r_g10 : (List (Int)) → (List (Int)) → (List (Int)) → (Int) → (Int) → Option (List (Int))) (x0 : List (Int)) (x1 : List (Int)) (x5 : List (Int)) (x6 : Int) (x7 : Int) : r3_Plus.b_l0 c102 r_g7 r_g9 r_g10 x0 x1 x5 x6 x7 = r3_Plus.c_l0 c102 r_g7 r_g9 r_g10 x0 x1 x5 x6 x7 := by
  simp only [r3_Plus.b_l0, r3_Plus.c_l0, List.take_length, take_one, Nat.zero_add, Int.toNat_natCast, Int.toNat_zero, List.drop_zero, List.append_eq, Nat.le_refl, Int.le_refl, true_and, and_true, zero_le_one, if_true, prod_eta, Int.natCast_zero]
def r3_Plus.c_g7 (c102 : r3_trim.E) (r_g9 : (List (Int)) → (List (Int)) → (List (Int)) → (Int) → (Int) → Option (List (Int))) (r_g10 : (List (Int)) → (List (Int)) → (List (Int)) → (Int) → (Int) → Option (List (Int))) (x0 : List (Int)) (x1 : List (Int)) (x5 : List (Int)) (x6 : Int) (x7 : Int) : Option (List (Int)) :=
  if 0 ≤ x7 ∧ x7 < ((List.length x0) : Int) then
    bif (decide (x7 < ((List.length x1) : Int))) then
      r_g9 x0 x1 x5 (IntKind.i64.wrap (x6 + (List.getD x0 (Int.toNat x7) (0 : Int)))) x7
    else
      r_g10 x0 x1 x5 (IntKind.i64.wrap (x6 + (List.getD x0 (Int.toNat x7) (0 : Int)))) x7
  else none
theorem r3_Plus.q_g7 (c102 : r3_trim.E) (r_g9 : (List (Int)) → (List (Int)) → (List (Int)) → (Int) → (Int) → Option (List (Int))) (r_g10 : (List (Int)) → (List (Int)) → (List (Int)) → (Int) → (Int) → Option (List (Int))) (x0 : List (Int)) (x1 : List (Int)) (x5 : List (Int)) (x6 : Int) (x7 : Int) : r3_Plus.b_g7 c102 r_g9 r_g10 x0 x1 x5 x6 x7 = r3_Plus.c_g7 c102 r_g9 r_g10 x0 x1 x5 x6 x7 := by
  simp only [r3_Plus.b_g7, r3_Plus.c_g7, List.take_length, take_one, Nat.zero_add, Int.toNat_natCast, Int.toNat_zero, List.drop_zero, List.append_eq, Nat.le_refl, Int.le_refl, true_and, and_true, zero_le_one, if_true, prod_eta, Int.natCast_zero]
def r3_Plus.c_g9 (c102 : r3_trim.E) (r_g10 : (List (Int)) → (List (Int)) → (List (Int)) → (Int) → (Int) → Option (List (Int))) (x0 : List (Int)) (x1 : List (Int)) (x5 : List (Int)) (x6 : Int) (x7 : Int) : Option (List (Int)) :=
  if 0 ≤ x7 ∧ x7 < ((List.length x1) : Int) then
    r_g10 x0 x1 x5 (IntKind.i64.wrap (x6 + (List.getD x1 (Int.toNat x7) (0 : Int)))) x7
  else none
theorem r3_Plus.q_g9 (c102 : r3_trim.E) (r_g10 : (List (Int)) → (List (Int)) → (List (Int)) → (Int) → (Int) → Option (List (Int))) (x0 : List (Int)) (x1 : List (Int)) (x5 : List (Int)) (x6 : Int) (x7 : Int) : r3_Plus.b_g9 c102 r_g10 x0 x1 x5 x6 x7 = r3_Plus.c_g9 c102 r_g10 x0 x1 x5 x6 x7 := by
  simp only [r3_Plus.b_g9, r3_Plus.c_g9, List.take_length, take_one, Nat.zero_add, Int.toNat_natCast, Int.toNat_zero, List.drop_zero, List.append_eq, Nat.le_refl, Int.le_refl, true_and, and_true, zero_le_one, if_true, prod_eta, Int.natCast_zero]
def r3_Plus.c_g10 (c102 : r3_trim.E) (n_l0 : (List (Int)) → (List (Int)) → (List (Int)) → (Int) → (Int) → Option (List (Int))) (x0 : List (Int)) (x1 : List (Int)) (x5 : List (Int)) (x6 : Int) (x7 : Int) : Option (List (Int)) :=
  if ((List.length x5) + (List.length ([(Int.tmod x6 (65536 : Int))] : List Int))) * 8 ≤ LIM then
    n_l0 x0 x1 (x5 ++ ([(Int.tmod x6 (65536 : Int))] : List Int)) (IntKind.i64.wrap (Int.tdiv x6 (65536 : Int))) (IntKind.i64.wrap (x7 + (1 : Int)))
  else none
theorem r3_Plus.q_g10 (c102 : r3_trim.E) (n_l0 : (List (Int)) → (List (Int)) → (List (Int)) → (Int) → (Int) → Option (List (Int))) (x0 : List (Int)) (x1 : List (Int)) (x5 : List (Int)) (x6 : Int) (x7 : Int) : r3_Plus.b_g10 c102 n_l0 x0 x1 x5 x6 x7 = r3_Plus.c_g10 c102 n_l0 x0 x1 x5 x6 x7 := by
  simp only [r3_Plus.b_g10, r3_Plus.c_g10, List.take_length, take_one, Nat.zero_add, Int.toNat_natCast, Int.toNat_zero, List.drop_zero, List.append_eq, Nat.le_refl, Int.le_refl, true_and, and_true, zero_le_one, if_true, prod_eta, Int.natCast_zero]
def r3_Plus.g10 (c102 : r3_trim.E) (k : Nat) (n_l0 : (List (Int)) → (List (Int)) → (List (Int)) → (Int) → (Int) → Option (List (Int))) (x0 : List (Int)) (x1 : List (Int)) (x5 : List (Int)) (x6 : Int) (x7 : Int) : Option (List (Int)) := gate k (r3_Plus.b_g10 c102 n_l0 x0 x1 x5 x6 x7)
def r3_Plus.g9 (c102 : r3_trim.E) (k : Nat) (n_l0 : (List (Int)) → (List (Int)) → (List (Int)) → (Int) → (Int) → Option (List (Int))) (x0 : List (Int)) (x1 : List (Int)) (x5 : List (Int)) (x6 : Int) (x7 : Int) : Option (List (Int)) := gate k (r3_Plus.b_g9 c102 (r3_Plus.g10 c102 k n_l0) x0 x1 x5 x6 x7)
def r3_Plus.g7 (c102 : r3_trim.E) (k : Nat) (n_l0 : (List (Int)) → (List (Int)) → (List (Int)) → (Int) → (Int) → Option (List (Int))) (x0 : List (Int)) (x1 : List (Int)) (x5 : List (Int)) (x6 : Int) (x7 : Int) : Option (List (Int)) := gate k (r3_Plus.b_g7 c102 (r3_Plus.g9 c102 k n_l0) (r3_Plus.g10 c102 k n_l0) x0 x1 x5 x6 x7)
def r3_Plus.l0 (c102 : r3_trim.E) (k : Nat)  : Nat → (List (Int)) → (List (Int)) → (List (Int)) → (Int) → (Int) → Option (List (Int))
  | 0, _, _, _, _, _ => none
  | n + 1, x0, x1, x5, x6, x7 => r3_Plus.b_l0 c102 (r3_Plus.g7 c102 k (fun x0 x1 x5 x6 x7 => r3_Plus.l0 c102 k  n x0 x1 x5 x6 x7)) (r3_Plus.g9 c102 k (fun x0 x1 x5 x6 x7 => r3_Plus.l0 c102 k  n x0 x1 x5 x6 x7)) (r3_Plus.g10 c102 k (fun x0 x1 x5 x6 x7 => r3_Plus.l0 c102 k  n x0 x1 x5 x6 x7)) x0 x1 x5 x6 x7
def r3_Plus.f (c102 : r3_trim.E) (k : Nat) (a0 : List (Int)) (a1 : List (Int)) : Option (List (Int)) := r3_Plus.b c102 (r3_Plus.l0 c102 k k) a0 a1
noncomputable def r3_Plus.M_l0 (c102 : r3_trim.E) (k n : Nat)  (s : St) : Option (List (Int)) := atLoop (r3_Plus.C c102) k n [1, 1, 1, 0, 1, 0] [] r3_Plus.code (r3_Plus.fin c102) s
noncomputable def r3_Plus.fr_l0 (x0 : List (Int)) (x1 : List (Int)) (x5 : List (Int)) (x6 : Int) (x7 : Int) : St := ⟨((((((List.replicate 53 V.un).set 0 (V.dat (.sl 3 (.int .i64)) x0)).set 1 (V.dat (.sl 3 (.int .i64)) x1)).set 5 (V.ref 500005 0 0 (List.length x5))).set 6 (V.dat (.int .i64) x6)).set 7 (V.dat (.int .i64) x7)), [⟨500005, 0, .arr 3 (.int .i64) x5⟩]⟩
noncomputable def r3_Plus.M_g7 (c102 : r3_trim.E) (k : Nat) (m0 : Nat) (s : St) : Option (List (Int)) := atGate (r3_Plus.C c102) k [1, 1, 1, 0, 1, 0, 0, 1, 0, 0, 0, 1, 0] [m0] r3_Plus.code (r3_Plus.fin c102) s
noncomputable def r3_Plus.fr_g7 (x0 : List (Int)) (x1 : List (Int)) (x5 : List (Int)) (x6 : Int) (x7 : Int) : St := ⟨((((((List.replicate 53 V.un).set 0 (V.dat (.sl 3 (.int .i64)) x0)).set 1 (V.dat (.sl 3 (.int .i64)) x1)).set 5 (V.ref 500005 0 0 (List.length x5))).set 6 (V.dat (.int .i64) x6)).set 7 (V.dat (.int .i64) x7)), [⟨500005, 0, .arr 3 (.int .i64) x5⟩]⟩
noncomputable def r3_Plus.M_g9 (c102 : r3_trim.E) (k : Nat) (m0 : Nat) (s : St) : Option (List (Int)) := atGate (r3_Plus.C c102) k [1, 1, 1, 0, 1, 0, 0, 1, 0, 0, 1, 0, 1, 0] [m0] r3_Plus.code (r3_Plus.fin c102) s
noncomputable def r3_Plus.fr_g9 (x0 : List (Int)) (x1 : List (Int)) (x5 : List (Int)) (x6 : Int) (x7 : Int) : St := ⟨((((((List.replicate 53 V.un).set 0 (V.dat (.sl 3 (.int .i64)) x0)).set 1 (V.dat (.sl 3 (.int .i64)) x1)).set 5 (V.ref 500005 0 0 (List.length x5))).set 6 (V.dat (.int .i64) x6)).set 7 (V.dat (.int .i64) x7)), [⟨500005, 0, .arr 3 (.int .i64) x5⟩]⟩
noncomputable def r3_Plus.M_g10 (c102 : r3_trim.E) (k : Nat) (m0 : Nat) (s : St) : Option (List (Int)) := atGate (r3_Plus.C c102) k [1, 1, 1, 0, 1, 0, 0, 1, 0, 0, 1, 1, 0] [m0] r3_Plus.code (r3_Plus.fin c102) s
noncomputable def r3_Plus.fr_g10 (x0 : List (Int)) (x1 : List (Int)) (x5 : List (Int)) (x6 : Int) (x7 : Int) : St := ⟨((((((List.replicate 53 V.un).set 0 (V.dat (.sl 3 (.int .i64)) x0)).set 1 (V.dat (.sl 3 (.int .i64)) x1)).set 5 (V.ref 500005 0 0 (List.length x5))).set 6 (V.dat (.int .i64) x6)).set 7 (V.dat (.int .i64) x7)), [⟨500005, 0, .arr 3 (.int .i64) x5⟩]⟩
theorem r3_Plus.r (c102 : r3_trim.E) (k : Nat) (a0 : List (Int)) (a1 : List (Int)) : fn (r3_Plus.C c102) k Tryz.f135 r3_Plus.A r3_Plus.R (a0, a1) = r3_Plus.b c102 (fun x0 x1 x5 x6 x7 => r3_Plus.M_l0 c102 k k  (r3_Plus.fr_l0 x0 x1 x5 x6 x7)) a0 a1 := by kernel_rfl
theorem r3_Plus.z_l0 (c102 : r3_trim.E) (k : Nat)  (s : St) : r3_Plus.M_l0 c102 k 0  s = none := by kernel_rfl
theorem r3_Plus.r_l0 (c102 : r3_trim.E) (k n : Nat)  (x0 : List (Int)) (x1 : List (Int)) (x5 : List (Int)) (x6 : Int) (x7 : Int) : r3_Plus.M_l0 c102 k (n + 1)  (r3_Plus.fr_l0 x0 x1 x5 x6 x7) = r3_Plus.b_l0 c102 (fun x0 x1 x5 x6 x7 => r3_Plus.M_g7 c102 k  n (r3_Plus.fr_g7 x0 x1 x5 x6 x7)) (fun x0 x1 x5 x6 x7 => r3_Plus.M_g9 c102 k  n (r3_Plus.fr_g9 x0 x1 x5 x6 x7)) (fun x0 x1 x5 x6 x7 => r3_Plus.M_g10 c102 k  n (r3_Plus.fr_g10 x0 x1 x5 x6 x7)) x0 x1 x5 x6 x7 := by kernel_rfl
theorem r3_Plus.r_g7 (c102 : r3_trim.E) (k : Nat) (m0 : Nat) (x0 : List (Int)) (x1 : List (Int)) (x5 : List (Int)) (x6 : Int) (x7 : Int) : r3_Plus.M_g7 c102 k m0 (r3_Plus.fr_g7 x0 x1 x5 x6 x7) = gate k (r3_Plus.b_g7 c102 (fun x0 x1 x5 x6 x7 => r3_Plus.M_g9 c102 k  m0 (r3_Plus.fr_g9 x0 x1 x5 x6 x7)) (fun x0 x1 x5 x6 x7 => r3_Plus.M_g10 c102 k  m0 (r3_Plus.fr_g10 x0 x1 x5 x6 x7)) x0 x1 x5 x6 x7) := by kernel_rfl
theorem r3_Plus.r_g9 (c102 : r3_trim.E) (k : Nat) (m0 : Nat) (x0 : List (Int)) (x1 : List (Int)) (x5 : List (Int)) (x6 : Int) (x7 : Int) : r3_Plus.M_g9 c102 k m0 (r3_Plus.fr_g9 x0 x1 x5 x6 x7) = gate k (r3_Plus.b_g9 c102 (fun x0 x1 x5 x6 x7 => r3_Plus.M_g10 c102 k  m0 (r3_Plus.fr_g10 x0 x1 x5 x6 x7)) x0 x1 x5 x6 x7) := by kernel_rfl
theorem r3_Plus.r_g10 (c102 : r3_trim.E) (k : Nat) (m0 : Nat) (x0 : List (Int)) (x1 : List (Int)) (x5 : List (Int)) (x6 : Int) (x7 : Int) : r3_Plus.M_g10 c102 k m0 (r3_Plus.fr_g10 x0 x1 x5 x6 x7) = gate k (r3_Plus.b_g10 c102 (fun x0 x1 x5 x6 x7 => r3_Plus.M_l0 c102 k m0  (r3_Plus.fr_l0 x0 x1 x5 x6 x7)) x0 x1 x5 x6 x7) := by kernel_rfl
theorem r3_Plus.e_g10 (c102 : r3_trim.E) (k : Nat) (m0 : Nat) (x0 : List (Int)) (x1 : List (Int)) (x5 : List (Int)) (x6 : Int) (x7 : Int) : r3_Plus.M_g10 c102 k m0 (r3_Plus.fr_g10 x0 x1 x5 x6 x7) = r3_Plus.g10 c102 k (fun x0 x1 x5 x6 x7 => r3_Plus.M_l0 c102 k m0  (r3_Plus.fr_l0 x0 x1 x5 x6 x7)) x0 x1 x5 x6 x7 := by
  rw [r3_Plus.r_g10]
  rfl
theorem r3_Plus.e_g9 (c102 : r3_trim.E) (k : Nat) (m0 : Nat) (x0 : List (Int)) (x1 : List (Int)) (x5 : List (Int)) (x6 : Int) (x7 : Int) : r3_Plus.M_g9 c102 k m0 (r3_Plus.fr_g9 x0 x1 x5 x6 x7) = r3_Plus.g9 c102 k (fun x0 x1 x5 x6 x7 => r3_Plus.M_l0 c102 k m0  (r3_Plus.fr_l0 x0 x1 x5 x6 x7)) x0 x1 x5 x6 x7 := by
  rw [r3_Plus.r_g9]
  simp only [r3_Plus.e_g10]
  rfl
theorem r3_Plus.e_g7 (c102 : r3_trim.E) (k : Nat) (m0 : Nat) (x0 : List (Int)) (x1 : List (Int)) (x5 : List (Int)) (x6 : Int) (x7 : Int) : r3_Plus.M_g7 c102 k m0 (r3_Plus.fr_g7 x0 x1 x5 x6 x7) = r3_Plus.g7 c102 k (fun x0 x1 x5 x6 x7 => r3_Plus.M_l0 c102 k m0  (r3_Plus.fr_l0 x0 x1 x5 x6 x7)) x0 x1 x5 x6 x7 := by
  rw [r3_Plus.r_g7]
  simp only [r3_Plus.e_g10, r3_Plus.e_g9]
  rfl
theorem r3_Plus.e_l0 (c102 : r3_trim.E) (k n : Nat)  (x0 : List (Int)) (x1 : List (Int)) (x5 : List (Int)) (x6 : Int) (x7 : Int) : r3_Plus.M_l0 c102 k n  (r3_Plus.fr_l0 x0 x1 x5 x6 x7) = r3_Plus.l0 c102 k  n x0 x1 x5 x6 x7 := by
  induction n generalizing x0 x1 x5 x6 x7 with
  | zero => rw [r3_Plus.z_l0]; rfl
  | succ n ih =>
    rw [r3_Plus.r_l0]
    simp only [r3_Plus.e_g10, r3_Plus.e_g7, r3_Plus.e_g9, ih]
    rfl
theorem r3_Plus.e (c102 : r3_trim.E) (k : Nat) (a0 : List (Int)) (a1 : List (Int)) : fn (r3_Plus.C c102) k Tryz.f135 r3_Plus.A r3_Plus.R (a0, a1) = r3_Plus.f c102 k a0 a1 := by
  rw [r3_Plus.r]
  simp only [r3_Plus.e_l0]
  rfl
theorem r3_Plus.ty (c102 : r3_trim.E) : TyOk Tryz.prog (r3_Plus.C c102) := tyOk_of (by kernel_rfl)
def r3_Plus.u (k : Nat) : r3_Plus.E := fun y => r3_Plus.f (r3_trim.u k) k y.1 y.2
theorem r3_Plus.sound (k : Nat) : Sound Tryz.prog ⟨135, r3_Plus.A, r3_Plus.R, r3_Plus.u k⟩ := by
  have h := fn_sound (k := k) («as» := r3_Plus.A) (rs := r3_Plus.R) (r3_Plus.ty (r3_trim.u k)) (fun E h => by
    simp only [r3_Plus.C, List.mem_cons, List.not_mem_nil, or_false] at h
    rcases h with rfl
    · exact r3_trim.sound k) mixed Tryz.func135 (by kernel_rfl) (by kernel_rfl)
  have e : fn (r3_Plus.C (r3_trim.u k)) k Tryz.f135 r3_Plus.A r3_Plus.R = r3_Plus.u k := by
    funext y
    exact r3_Plus.e (r3_trim.u k) k y.1 y.2
  rw [e] at h
  exact h
/-! ### brindlewood/brindlewoodref3.Double: f136 -/
abbrev r3_Double.A : List Sh := [(.d (.sl 3 (.int .i64))), (.d .bool)]
abbrev r3_Double.R : List Sh := [(.d (.sl 3 (.int .i64)))]
abbrev r3_Double.E : Type := ((List (Int)) × (Bool)) → Option (List (Int))
def r3_Double.C (c102 : r3_trim.E) : Ctx := { ty := [(3, (.int .i64)), (74, (.sl 3 (.int .i64)))], nf := [], by_ := [(3, 8)], env := [⟨102, r3_trim.A, r3_trim.R, c102⟩], spec := [(0, [.d 0 (.sl 3 (.int .i64)), .d 5 (.int .i64), .o 6 500006 3 (.int .i64), .d 7 (.int .i64)])] }
noncomputable def r3_Double.code : Code := Func.code Tryz.f136
noncomputable def r3_Double.fin (c102 : r3_trim.E) := kfin (r3_Double.C c102) Tryz.f136 r3_Double.A r3_Double.R
def r3_Double.b (c102 : r3_trim.E) (r_l0 : (List (Int)) → (Int) → (List (Int)) → (Int) → Option (List (Int))) (a0 : List (Int)) (a1 : Bool) : Option (List (Int)) :=
  bif a1 then
    r_l0 a0 (1 : Int) ([] : List (Int)) (0 : Int)
  else
    r_l0 a0 (0 : Int) ([] : List (Int)) (0 : Int)
def r3_Double.b_l0 (c102 : r3_trim.E) (n_l0 : (List (Int)) → (Int) → (List (Int)) → (Int) → Option (List (Int))) (x0 : List (Int)) (x5 : Int) (x6 : List (Int)) (x7 : Int) : Option (List (Int)) :=
  bif (decide (x7 < ((List.length x0) : Int))) then
    if 0 ≤ x7 ∧ x7 < ((List.length x0) : Int) then
      if (List.length x6) ≤ (List.length x6) ∧ ((List.length x6) + (List.length (List.take 1 ([(Int.tmod (IntKind.i64.wrap ((IntKind.i64.wrap ((2 : Int) * (List.getD x0 (Int.toNat x7) (0 : Int)))) + x5)) (65536 : Int))] : List (Int))))) * 8 ≤ LIM then
        n_l0 x0 (IntKind.i64.wrap (Int.tdiv (IntKind.i64.wrap ((IntKind.i64.wrap ((2 : Int) * (List.getD x0 (Int.toNat x7) (0 : Int)))) + x5)) (65536 : Int))) (List.take (List.length (List.append (List.take (List.length x6) x6) (List.take 1 ([(Int.tmod (IntKind.i64.wrap ((IntKind.i64.wrap ((2 : Int) * (List.getD x0 (Int.toNat x7) (0 : Int)))) + x5)) (65536 : Int))] : List (Int))))) (List.append (List.take (List.length x6) x6) (List.take 1 ([(Int.tmod (IntKind.i64.wrap ((IntKind.i64.wrap ((2 : Int) * (List.getD x0 (Int.toNat x7) (0 : Int)))) + x5)) (65536 : Int))] : List (Int))))) (IntKind.i64.wrap (x7 + (1 : Int)))
      else none
    else none
  else
    bif (decide (x5 > (0 : Int))) then
      if (List.length x6) ≤ (List.length x6) ∧ ((List.length x6) + (List.length (List.take 1 ([x5] : List (Int))))) * 8 ≤ LIM then
        (c102 (List.take (List.length (List.append (List.take (List.length x6) x6) (List.take 1 ([x5] : List (Int))))) (List.append (List.take (List.length x6) x6) (List.take 1 ([x5] : List (Int)))))).bind fun y1 =>
          some y1
      else none
    else
      (c102 (List.take (List.length x6) x6)).bind fun y2 =>
        some y2
def r3_Double.c (c102 : r3_trim.E) (r_l0 : (List (Int)) → (Int) → (List (Int)) → (Int) → Option (List (Int))) (a0 : List (Int)) (a1 : Bool) : Option (List (Int)) :=
  bif a1 then
    r_l0 a0 (1 : Int) ([] : List Int) (0 : Int)
  else
    r_l0 a0 (0 : Int) ([] : List Int) (0 : Int)
theorem r3_Double.q (c102 : r3_trim.E) (r_l0 : (List (Int)) → (Int) → (List (Int)) → (Int) → Option (List (Int))) (a0 : List (Int)) (a1 : Bool) : r3_Double.b c102 r_l0 a0 a1 = r3_Double.c c102 r_l0 a0 a1 := by
  simp only [r3_Double.b, r3_Double.c, List.take_length, take_one, Nat.zero_add, Int.toNat_natCast, Int.toNat_zero, List.drop_zero, List.append_eq, Nat.le_refl, Int.le_refl, true_and, and_true, zero_le_one, if_true, prod_eta, Int.natCast_zero]
def r3_Double.c_l0 (c102 : r3_trim.E) (n_l0 : (List (Int)) → (Int) → (List (Int)) → (Int) → Option (List (Int))) (x0 : List (Int)) (x5 : Int) (x6 : List (Int)) (x7 : Int) : Option (List (Int)) :=
  bif (decide (x7 < ((List.length x0) : Int))) then
    if 0 ≤ x7 ∧ x7 < ((List.length x0) : Int) then
      if ((List.length x6) + (List.length ([(Int.tmod (IntKind.i64.wrap ((IntKind.i64.wrap ((2 : Int) * (List.getD x0 (Int.toNat x7) (0 : Int)))) + x5)) (65536 : Int))] : List Int))) * 8 ≤ LIM then
        n_l0 x0 (IntKind.i64.wrap (Int.tdiv (IntKind.i64.wrap ((IntKind.i64.wrap ((2 : Int) * (List.getD x0 (Int.toNat x7) (0 : Int)))) + x5)) (65536 : Int))) (x6 ++ ([(Int.tmod (IntKind.i64.wrap ((IntKind.i64.wrap ((2 : Int) * (List.getD x0 (Int.toNat x7) (0 : Int)))) + x5)) (65536 : Int))] : List Int)) (IntKind.i64.wrap (x7 + (1 : Int)))
      else none
    else none
  else
    bif (decide (x5 > (0 : Int))) then
      if ((List.length x6) + (List.length ([x5] : List Int))) * 8 ≤ LIM then
        (c102 (x6 ++ ([x5] : List Int))).bind fun y1 =>
          some y1
      else none
    else
      (c102 x6).bind fun y2 =>
        some y2
theorem r3_Double.q_l0 (c102 : r3_trim.E) (n_l0 : (List (Int)) → (Int) → (List (Int)) → (Int) → Option (List (Int))) (x0 : List (Int)) (x5 : Int) (x6 : List (Int)) (x7 : Int) : r3_Double.b_l0 c102 n_l0 x0 x5 x6 x7 = r3_Double.c_l0 c102 n_l0 x0 x5 x6 x7 := by
  simp only [r3_Double.b_l0, r3_Double.c_l0, List.take_length, take_one, Nat.zero_add, Int.toNat_natCast, Int.toNat_zero, List.drop_zero, List.append_eq, Nat.le_refl, Int.le_refl, true_and, and_true, zero_le_one, if_true, prod_eta, Int.natCast_zero]
def r3_Double.l0 (c102 : r3_trim.E) (k : Nat)  : Nat → (List (Int)) → (Int) → (List (Int)) → (Int) → Option (List (Int))
  | 0, _, _, _, _ => none
  | n + 1, x0, x5, x6, x7 => r3_Double.b_l0 c102 (fun x0 x5 x6 x7 => r3_Double.l0 c102 k  n x0 x5 x6 x7) x0 x5 x6 x7
def r3_Double.f (c102 : r3_trim.E) (k : Nat) (a0 : List (Int)) (a1 : Bool) : Option (List (Int)) := r3_Double.b c102 (r3_Double.l0 c102 k k) a0 a1
noncomputable def r3_Double.M_l0 (c102 : r3_trim.E) (k n : Nat)  (s : St) : Option (List (Int)) := atLoop (r3_Double.C c102) k n [1, 1, 1, 1, 0, 1, 0] [] r3_Double.code (r3_Double.fin c102) s
noncomputable def r3_Double.fr_l0 (x0 : List (Int)) (x5 : Int) (x6 : List (Int)) (x7 : Int) : St := ⟨(((((List.replicate 38 V.un).set 0 (V.dat (.sl 3 (.int .i64)) x0)).set 5 (V.dat (.int .i64) x5)).set 6 (V.ref 500006 0 0 (List.length x6))).set 7 (V.dat (.int .i64) x7)), [⟨500006, 0, .arr 3 (.int .i64) x6⟩]⟩
theorem r3_Double.r (c102 : r3_trim.E) (k : Nat) (a0 : List (Int)) (a1 : Bool) : fn (r3_Double.C c102) k Tryz.f136 r3_Double.A r3_Double.R (a0, a1) = r3_Double.b c102 (fun x0 x5 x6 x7 => r3_Double.M_l0 c102 k k  (r3_Double.fr_l0 x0 x5 x6 x7)) a0 a1 := by kernel_rfl
theorem r3_Double.z_l0 (c102 : r3_trim.E) (k : Nat)  (s : St) : r3_Double.M_l0 c102 k 0  s = none := by kernel_rfl
theorem r3_Double.r_l0 (c102 : r3_trim.E) (k n : Nat)  (x0 : List (Int)) (x5 : Int) (x6 : List (Int)) (x7 : Int) : r3_Double.M_l0 c102 k (n + 1)  (r3_Double.fr_l0 x0 x5 x6 x7) = r3_Double.b_l0 c102 (fun x0 x5 x6 x7 => r3_Double.M_l0 c102 k n  (r3_Double.fr_l0 x0 x5 x6 x7)) x0 x5 x6 x7 := by kernel_rfl
theorem r3_Double.e_l0 (c102 : r3_trim.E) (k n : Nat)  (x0 : List (Int)) (x5 : Int) (x6 : List (Int)) (x7 : Int) : r3_Double.M_l0 c102 k n  (r3_Double.fr_l0 x0 x5 x6 x7) = r3_Double.l0 c102 k  n x0 x5 x6 x7 := by
  induction n generalizing x0 x5 x6 x7 with
  | zero => rw [r3_Double.z_l0]; rfl
  | succ n ih =>
    rw [r3_Double.r_l0]
    simp only [ih]
    rfl
theorem r3_Double.e (c102 : r3_trim.E) (k : Nat) (a0 : List (Int)) (a1 : Bool) : fn (r3_Double.C c102) k Tryz.f136 r3_Double.A r3_Double.R (a0, a1) = r3_Double.f c102 k a0 a1 := by
  rw [r3_Double.r]
  simp only [r3_Double.e_l0]
  rfl
theorem r3_Double.ty (c102 : r3_trim.E) : TyOk Tryz.prog (r3_Double.C c102) := tyOk_of (by kernel_rfl)
def r3_Double.u (k : Nat) : r3_Double.E := fun y => r3_Double.f (r3_trim.u k) k y.1 y.2
theorem r3_Double.sound (k : Nat) : Sound Tryz.prog ⟨136, r3_Double.A, r3_Double.R, r3_Double.u k⟩ := by
  have h := fn_sound (k := k) («as» := r3_Double.A) (rs := r3_Double.R) (r3_Double.ty (r3_trim.u k)) (fun E h => by
    simp only [r3_Double.C, List.mem_cons, List.not_mem_nil, or_false] at h
    rcases h with rfl
    · exact r3_trim.sound k) mixed Tryz.func136 (by kernel_rfl) (by kernel_rfl)
  have e : fn (r3_Double.C (r3_trim.u k)) k Tryz.f136 r3_Double.A r3_Double.R = r3_Double.u k := by
    funext y
    exact r3_Double.e (r3_trim.u k) k y.1 y.2
  rw [e] at h
  exact h
/-! ### brindlewood/brindlewoodref3.Common: f118 -/
abbrev r3_Common.A : List Sh := [(.d (.sl 3 (.int .i64))), (.d (.sl 3 (.int .i64)))]
abbrev r3_Common.R : List Sh := [(.d (.sl 3 (.int .i64)))]
abbrev r3_Common.E : Type := ((List (Int)) × (List (Int))) → Option (List (Int))
def r3_Common.C (c133 : r3_Halve.E) (c117 : r3_Compare.E) (c134 : r3_Minus.E) (c135 : r3_Plus.E) (c136 : r3_Double.E) : Ctx := { ty := [(3, (.int .i64)), (74, (.sl 3 (.int .i64)))], nf := [], by_ := [(3, 8)], env := [⟨133, r3_Halve.A, r3_Halve.R, c133⟩, ⟨117, r3_Compare.A, r3_Compare.R, c117⟩, ⟨134, r3_Minus.A, r3_Minus.R, c134⟩, ⟨135, r3_Plus.A, r3_Plus.R, c135⟩, ⟨136, r3_Double.A, r3_Double.R, c136⟩], spec := [(0, [.d 0 (.sl 3 (.int .i64)), .d 1 (.sl 3 (.int .i64)), .d 5 (.int .i64)]), (100008, [.d 0 (.sl 3 (.int .i64)), .d 1 (.sl 3 (.int .i64)), .d 5 (.int .i64)]), (3, [.d 5 (.int .i64), .d 6 (.sl 3 (.int .i64))])] }
noncomputable def r3_Common.code : Code := Func.code Tryz.f118
noncomputable def r3_Common.fin (c133 : r3_Halve.E) (c117 : r3_Compare.E) (c134 : r3_Minus.E) (c135 : r3_Plus.E) (c136 : r3_Double.E) := kfin (r3_Common.C c133 c117 c134 c135 c136) Tryz.f118 r3_Common.A r3_Common.R
def r3_Common.b (c133 : r3_Halve.E) (c117 : r3_Compare.E) (c134 : r3_Minus.E) (c135 : r3_Plus.E) (c136 : r3_Double.E) (r_l0 : (List (Int)) → (List (Int)) → (Int) → Option (List (Int))) (a0 : List (Int)) (a1 : List (Int)) : Option (List (Int)) :=
  r_l0 a0 a1 (0 : Int)
def r3_Common.b_l0 (c133 : r3_Halve.E) (c117 : r3_Compare.E) (c134 : r3_Minus.E) (c135 : r3_Plus.E) (c136 : r3_Double.E) (n_l0 : (List (Int)) → (List (Int)) → (Int) → Option (List (Int))) (r_g8 : (List (Int)) → (List (Int)) → (Int) → Option (List (Int))) (r_l3 : (Int) → (List (Int)) → Option (List (Int))) (x0 : List (Int)) (x1 : List (Int)) (x5 : Int) : Option (List (Int)) :=
  bif (decide (((List.length x0) : Int) > (0 : Int))) then
    bif (decide (((List.length x1) : Int) > (0 : Int))) then
      if 0 ≤ (0 : Int) ∧ (0 : Int) < ((List.length x0) : Int) then
        bif ((Int.tmod (List.getD x0 (Int.toNat (0 : Int)) (0 : Int)) (2 : Int)) == (0 : Int)) then
          if 0 ≤ (0 : Int) ∧ (0 : Int) < ((List.length x1) : Int) then
            bif ((Int.tmod (List.getD x1 (Int.toNat (0 : Int)) (0 : Int)) (2 : Int)) == (0 : Int)) then
              (c133 (x0, (2 : Int))).bind fun y1 =>
                (c133 (x1, (2 : Int))).bind fun y2 =>
                  n_l0 y1.1 y2.1 (IntKind.i64.wrap (x5 + (1 : Int)))
            else
              r_g8 x0 x1 x5
          else none
        else
          r_g8 x0 x1 x5
      else none
    else
      (c135 (x0, x1)).bind fun y8 =>
        r_l3 x5 y8
  else
    (c135 (x0, x1)).bind fun y10 =>
      r_l3 x5 y10
def r3_Common.b_g8 (c133 : r3_Halve.E) (c117 : r3_Compare.E) (c134 : r3_Minus.E) (c135 : r3_Plus.E) (c136 : r3_Double.E) (n_l0 : (List (Int)) → (List (Int)) → (Int) → Option (List (Int))) (x0 : List (Int)) (x1 : List (Int)) (x5 : Int) : Option (List (Int)) :=
  if 0 ≤ (0 : Int) ∧ (0 : Int) < ((List.length x0) : Int) then
    bif ((Int.tmod (List.getD x0 (Int.toNat (0 : Int)) (0 : Int)) (2 : Int)) == (0 : Int)) then
      (c133 (x0, (2 : Int))).bind fun y3 =>
        n_l0 y3.1 x1 x5
    else
      if 0 ≤ (0 : Int) ∧ (0 : Int) < ((List.length x1) : Int) then
        bif ((Int.tmod (List.getD x1 (Int.toNat (0 : Int)) (0 : Int)) (2 : Int)) == (0 : Int)) then
          (c133 (x1, (2 : Int))).bind fun y4 =>
            n_l0 x0 y4.1 x5
        else
          (c117 (x0, x1)).bind fun y5 =>
            bif (decide (y5 ≥ (0 : Int))) then
              (c134 (x0, x1)).bind fun y6 =>
                n_l0 y6 x1 x5
            else
              (c134 (x1, x0)).bind fun y7 =>
                n_l0 x0 y7 x5
      else none
  else none
def r3_Common.b_l3 (c133 : r3_Halve.E) (c117 : r3_Compare.E) (c134 : r3_Minus.E) (c135 : r3_Plus.E) (c136 : r3_Double.E) (n_l3 : (Int) → (List (Int)) → Option (List (Int))) (x5 : Int) (x6 : List (Int)) : Option (List (Int)) :=
  bif (decide (x5 > (0 : Int))) then
    (c136 (x6, false)).bind fun y9 =>
      n_l3 (IntKind.i64.wrap (x5 - (1 : Int))) y9
  else
    some x6
def r3_Common.c_l0 (c133 : r3_Halve.E) (c117 : r3_Compare.E) (c134 : r3_Minus.E) (c135 : r3_Plus.E) (c136 : r3_Double.E) (n_l0 : (List (Int)) → (List (Int)) → (Int) → Option (List (Int))) (r_g8 : (List (Int)) → (List (Int)) → (Int) → Option (List (Int))) (r_l3 : (Int) → (List (Int)) → Option (List (Int))) (x0 : List (Int)) (x1 : List (Int)) (x5 : Int) : Option (List (Int)) :=
  bif (decide (((List.length x0) : Int) > (0 : Int))) then
    bif (decide (((List.length x1) : Int) > (0 : Int))) then
      if (0 : Int) < ((List.length x0) : Int) then
        bif ((Int.tmod (List.getD x0 0 (0 : Int)) (2 : Int)) == (0 : Int)) then
          if (0 : Int) < ((List.length x1) : Int) then
            bif ((Int.tmod (List.getD x1 0 (0 : Int)) (2 : Int)) == (0 : Int)) then
              (c133 (x0, (2 : Int))).bind fun y1 =>
                (c133 (x1, (2 : Int))).bind fun y2 =>
                  n_l0 y1.1 y2.1 (IntKind.i64.wrap (x5 + (1 : Int)))
            else
              r_g8 x0 x1 x5
          else none
        else
          r_g8 x0 x1 x5
      else none
    else
      (c135 (x0, x1)).bind fun y8 =>
        r_l3 x5 y8
  else
    (c135 (x0, x1)).bind fun y10 =>
      r_l3 x5 y10
theorem r3_Common.q_l0 (c133 : r3_Halve.E) (c117 : r3_Compare.E) (c134 : r3_Minus.E) (c135 : r3_Plus.E) (c136 : r3_Double.E) (n_l0 : (List (Int)) → (List (Int)) → (Int) → Option (List (Int))) (r_g8 : (List (Int)) → (List (Int)) → (Int) → Option (List (Int))) (r_l3 : (Int) → (List (Int)) → Option (List (Int))) (x0 : List (Int)) (x1 : List (Int)) (x5 : Int) : r3_Common.b_l0 c133 c117 c134 c135 c136 n_l0 r_g8 r_l3 x0 x1 x5 = r3_Common.c_l0 c133 c117 c134 c135 c136 n_l0 r_g8 r_l3 x0 x1 x5 := by
  simp only [r3_Common.b_l0, r3_Common.c_l0, List.take_length, take_one, Nat.zero_add, Int.toNat_natCast, Int.toNat_zero, List.drop_zero, List.append_eq, Nat.le_refl, Int.le_refl, true_and, and_true, zero_le_one, if_true, prod_eta, Int.natCast_zero]
def r3_Common.c_g8 (c133 : r3_Halve.E) (c117 : r3_Compare.E) (c134 : r3_Minus.E) (c135 : r3_Plus.E) (c136 : r3_Double.E) (n_l0 : (List (Int)) → (List (Int)) → (Int) → Option (List (Int))) (x0 : List (Int)) (x1 : List (Int)) (x5 : Int) : Option (List (Int)) :=
  if (0 : Int) < ((List.length x0) : Int) then
    bif ((Int.tmod (List.getD x0 0 (0 : Int)) (2 : Int)) == (0 : Int)) then
      (c133 (x0, (2 : Int))).bind fun y3 =>
        n_l0 y3.1 x1 x5
    else
      if (0 : Int) < ((List.length x1) : Int) then
        bif ((Int.tmod (List.getD x1 0 (0 : Int)) (2 : Int)) == (0 : Int)) then
          (c133 (x1, (2 : Int))).bind fun y4 =>
            n_l0 x0 y4.1 x5
        else
          (c117 (x0, x1)).bind fun y5 =>
            bif (decide (y5 ≥ (0 : Int))) then
              (c134 (x0, x1)).bind fun y6 =>
                n_l0 y6 x1 x5
            else
              (c134 (x1, x0)).bind fun y7 =>
                n_l0 x0 y7 x5
      else none
  else none
theorem r3_Common.q_g8 (c133 : r3_Halve.E) (c117 : r3_Compare.E) (c134 : r3_Minus.E) (c135 : r3_Plus.E) (c136 : r3_Double.E) (n_l0 : (List (Int)) → (List (Int)) → (Int) → Option (List (Int))) (x0 : List (Int)) (x1 : List (Int)) (x5 : Int) : r3_Common.b_g8 c133 c117 c134 c135 c136 n_l0 x0 x1 x5 = r3_Common.c_g8 c133 c117 c134 c135 c136 n_l0 x0 x1 x5 := by
  simp only [r3_Common.b_g8, r3_Common.c_g8, List.take_length, take_one, Nat.zero_add, Int.toNat_natCast, Int.toNat_zero, List.drop_zero, List.append_eq, Nat.le_refl, Int.le_refl, true_and, and_true, zero_le_one, if_true, prod_eta, Int.natCast_zero]
def r3_Common.g8 (c133 : r3_Halve.E) (c117 : r3_Compare.E) (c134 : r3_Minus.E) (c135 : r3_Plus.E) (c136 : r3_Double.E) (k : Nat) (n_l0 : (List (Int)) → (List (Int)) → (Int) → Option (List (Int))) (x0 : List (Int)) (x1 : List (Int)) (x5 : Int) : Option (List (Int)) := gate k (r3_Common.b_g8 c133 c117 c134 c135 c136 n_l0 x0 x1 x5)
def r3_Common.l3 (c133 : r3_Halve.E) (c117 : r3_Compare.E) (c134 : r3_Minus.E) (c135 : r3_Plus.E) (c136 : r3_Double.E) (k : Nat)  : Nat → (Int) → (List (Int)) → Option (List (Int))
  | 0, _, _ => none
  | n + 1, x5, x6 => r3_Common.b_l3 c133 c117 c134 c135 c136 (fun x5 x6 => r3_Common.l3 c133 c117 c134 c135 c136 k  n x5 x6) x5 x6
def r3_Common.l0 (c133 : r3_Halve.E) (c117 : r3_Compare.E) (c134 : r3_Minus.E) (c135 : r3_Plus.E) (c136 : r3_Double.E) (k : Nat)  : Nat → (List (Int)) → (List (Int)) → (Int) → Option (List (Int))
  | 0, _, _, _ => none
  | n + 1, x0, x1, x5 => r3_Common.b_l0 c133 c117 c134 c135 c136 (fun x0 x1 x5 => r3_Common.l0 c133 c117 c134 c135 c136 k  n x0 x1 x5) (r3_Common.g8 c133 c117 c134 c135 c136 k (fun x0 x1 x5 => r3_Common.l0 c133 c117 c134 c135 c136 k  n x0 x1 x5)) (r3_Common.l3 c133 c117 c134 c135 c136 k  k) x0 x1 x5
def r3_Common.f (c133 : r3_Halve.E) (c117 : r3_Compare.E) (c134 : r3_Minus.E) (c135 : r3_Plus.E) (c136 : r3_Double.E) (k : Nat) (a0 : List (Int)) (a1 : List (Int)) : Option (List (Int)) := r3_Common.b c133 c117 c134 c135 c136 (r3_Common.l0 c133 c117 c134 c135 c136 k k) a0 a1
noncomputable def r3_Common.M_l0 (c133 : r3_Halve.E) (c117 : r3_Compare.E) (c134 : r3_Minus.E) (c135 : r3_Plus.E) (c136 : r3_Double.E) (k n : Nat)  (s : St) : Option (List (Int)) := atLoop (r3_Common.C c133 c117 c134 c135 c136) k n [1, 1, 0, 0] [] r3_Common.code (r3_Common.fin c133 c117 c134 c135 c136) s
noncomputable def r3_Common.fr_l0 (x0 : List (Int)) (x1 : List (Int)) (x5 : Int) : St := ⟨((((List.replicate 83 V.un).set 0 (V.dat (.sl 3 (.int .i64)) x0)).set 1 (V.dat (.sl 3 (.int .i64)) x1)).set 5 (V.dat (.int .i64) x5)), []⟩
noncomputable def r3_Common.M_g8 (c133 : r3_Halve.E) (c117 : r3_Compare.E) (c134 : r3_Minus.E) (c135 : r3_Plus.E) (c136 : r3_Double.E) (k : Nat) (m0 : Nat) (s : St) : Option (List (Int)) := atGate (r3_Common.C c133 c117 c134 c135 c136) k [1, 1, 0, 0, 0, 1, 0, 0, 1, 1, 0] [m0] r3_Common.code (r3_Common.fin c133 c117 c134 c135 c136) s
noncomputable def r3_Common.fr_g8 (x0 : List (Int)) (x1 : List (Int)) (x5 : Int) : St := ⟨((((List.replicate 83 V.un).set 0 (V.dat (.sl 3 (.int .i64)) x0)).set 1 (V.dat (.sl 3 (.int .i64)) x1)).set 5 (V.dat (.int .i64) x5)), []⟩
noncomputable def r3_Common.M_l3 (c133 : r3_Halve.E) (c117 : r3_Compare.E) (c134 : r3_Minus.E) (c135 : r3_Plus.E) (c136 : r3_Double.E) (k n : Nat)  (s : St) : Option (List (Int)) := atLoop (r3_Common.C c133 c117 c134 c135 c136) k n [1, 1, 1, 1, 0, 0] [] r3_Common.code (r3_Common.fin c133 c117 c134 c135 c136) s
noncomputable def r3_Common.fr_l3 (x5 : Int) (x6 : List (Int)) : St := ⟨(((List.replicate 83 V.un).set 5 (V.dat (.int .i64) x5)).set 6 (V.dat (.sl 3 (.int .i64)) x6)), []⟩
theorem r3_Common.r (c133 : r3_Halve.E) (c117 : r3_Compare.E) (c134 : r3_Minus.E) (c135 : r3_Plus.E) (c136 : r3_Double.E) (k : Nat) (a0 : List (Int)) (a1 : List (Int)) : fn (r3_Common.C c133 c117 c134 c135 c136) k Tryz.f118 r3_Common.A r3_Common.R (a0, a1) = r3_Common.b c133 c117 c134 c135 c136 (fun x0 x1 x5 => r3_Common.M_l0 c133 c117 c134 c135 c136 k k  (r3_Common.fr_l0 x0 x1 x5)) a0 a1 := by kernel_rfl
theorem r3_Common.z_l0 (c133 : r3_Halve.E) (c117 : r3_Compare.E) (c134 : r3_Minus.E) (c135 : r3_Plus.E) (c136 : r3_Double.E) (k : Nat)  (s : St) : r3_Common.M_l0 c133 c117 c134 c135 c136 k 0  s = none := by kernel_rfl
theorem r3_Common.r_l0 (c133 : r3_Halve.E) (c117 : r3_Compare.E) (c134 : r3_Minus.E) (c135 : r3_Plus.E) (c136 : r3_Double.E) (k n : Nat)  (x0 : List (Int)) (x1 : List (Int)) (x5 : Int) : r3_Common.M_l0 c133 c117 c134 c135 c136 k (n + 1)  (r3_Common.fr_l0 x0 x1 x5) = r3_Common.b_l0 c133 c117 c134 c135 c136 (fun x0 x1 x5 => r3_Common.M_l0 c133 c117 c134 c135 c136 k n  (r3_Common.fr_l0 x0 x1 x5)) (fun x0 x1 x5 => r3_Common.M_g8 c133 c117 c134 c135 c136 k  n (r3_Common.fr_g8 x0 x1 x5)) (fun x5 x6 => r3_Common.M_l3 c133 c117 c134 c135 c136 k k  (r3_Common.fr_l3 x5 x6)) x0 x1 x5 := by kernel_rfl
theorem r3_Common.r_g8 (c133 : r3_Halve.E) (c117 : r3_Compare.E) (c134 : r3_Minus.E) (c135 : r3_Plus.E) (c136 : r3_Double.E) (k : Nat) (m0 : Nat) (x0 : List (Int)) (x1 : List (Int)) (x5 : Int) : r3_Common.M_g8 c133 c117 c134 c135 c136 k m0 (r3_Common.fr_g8 x0 x1 x5) = gate k (r3_Common.b_g8 c133 c117 c134 c135 c136 (fun x0 x1 x5 => r3_Common.M_l0 c133 c117 c134 c135 c136 k m0  (r3_Common.fr_l0 x0 x1 x5)) x0 x1 x5) := by kernel_rfl
theorem r3_Common.z_l3 (c133 : r3_Halve.E) (c117 : r3_Compare.E) (c134 : r3_Minus.E) (c135 : r3_Plus.E) (c136 : r3_Double.E) (k : Nat)  (s : St) : r3_Common.M_l3 c133 c117 c134 c135 c136 k 0  s = none := by kernel_rfl
theorem r3_Common.r_l3 (c133 : r3_Halve.E) (c117 : r3_Compare.E) (c134 : r3_Minus.E) (c135 : r3_Plus.E) (c136 : r3_Double.E) (k n : Nat)  (x5 : Int) (x6 : List (Int)) : r3_Common.M_l3 c133 c117 c134 c135 c136 k (n + 1)  (r3_Common.fr_l3 x5 x6) = r3_Common.b_l3 c133 c117 c134 c135 c136 (fun x5 x6 => r3_Common.M_l3 c133 c117 c134 c135 c136 k n  (r3_Common.fr_l3 x5 x6)) x5 x6 := by kernel_rfl
theorem r3_Common.e_g8 (c133 : r3_Halve.E) (c117 : r3_Compare.E) (c134 : r3_Minus.E) (c135 : r3_Plus.E) (c136 : r3_Double.E) (k : Nat) (m0 : Nat) (x0 : List (Int)) (x1 : List (Int)) (x5 : Int) : r3_Common.M_g8 c133 c117 c134 c135 c136 k m0 (r3_Common.fr_g8 x0 x1 x5) = r3_Common.g8 c133 c117 c134 c135 c136 k (fun x0 x1 x5 => r3_Common.M_l0 c133 c117 c134 c135 c136 k m0  (r3_Common.fr_l0 x0 x1 x5)) x0 x1 x5 := by
  rw [r3_Common.r_g8]
  rfl
theorem r3_Common.e_l3 (c133 : r3_Halve.E) (c117 : r3_Compare.E) (c134 : r3_Minus.E) (c135 : r3_Plus.E) (c136 : r3_Double.E) (k n : Nat)  (x5 : Int) (x6 : List (Int)) : r3_Common.M_l3 c133 c117 c134 c135 c136 k n  (r3_Common.fr_l3 x5 x6) = r3_Common.l3 c133 c117 c134 c135 c136 k  n x5 x6 := by
  induction n generalizing x5 x6 with
  | zero => rw [r3_Common.z_l3]; rfl
  | succ n ih =>
    rw [r3_Common.r_l3]
    simp only [ih]
    rfl
theorem r3_Common.e_l0 (c133 : r3_Halve.E) (c117 : r3_Compare.E) (c134 : r3_Minus.E) (c135 : r3_Plus.E) (c136 : r3_Double.E) (k n : Nat)  (x0 : List (Int)) (x1 : List (Int)) (x5 : Int) : r3_Common.M_l0 c133 c117 c134 c135 c136 k n  (r3_Common.fr_l0 x0 x1 x5) = r3_Common.l0 c133 c117 c134 c135 c136 k  n x0 x1 x5 := by
  induction n generalizing x0 x1 x5 with
  | zero => rw [r3_Common.z_l0]; rfl
  | succ n ih =>
    rw [r3_Common.r_l0]
    simp only [r3_Common.e_g8, r3_Common.e_l3, ih]
    rfl
theorem r3_Common.e (c133 : r3_Halve.E) (c117 : r3_Compare.E) (c134 : r3_Minus.E) (c135 : r3_Plus.E) (c136 : r3_Double.E) (k : Nat) (a0 : List (Int)) (a1 : List (Int)) : fn (r3_Common.C c133 c117 c134 c135 c136) k Tryz.f118 r3_Common.A r3_Common.R (a0, a1) = r3_Common.f c133 c117 c134 c135 c136 k a0 a1 := by
  rw [r3_Common.r]
  simp only [r3_Common.e_l0]
  rfl
theorem r3_Common.ty (c133 : r3_Halve.E) (c117 : r3_Compare.E) (c134 : r3_Minus.E) (c135 : r3_Plus.E) (c136 : r3_Double.E) : TyOk Tryz.prog (r3_Common.C c133 c117 c134 c135 c136) := tyOk_of (by kernel_rfl)
def r3_Common.u (k : Nat) : r3_Common.E := fun y => r3_Common.f (r3_Halve.u k) (r3_Compare.u k) (r3_Minus.u k) (r3_Plus.u k) (r3_Double.u k) k y.1 y.2
theorem r3_Common.sound (k : Nat) : Sound Tryz.prog ⟨118, r3_Common.A, r3_Common.R, r3_Common.u k⟩ := by
  have h := fn_sound (k := k) («as» := r3_Common.A) (rs := r3_Common.R) (r3_Common.ty (r3_Halve.u k) (r3_Compare.u k) (r3_Minus.u k) (r3_Plus.u k) (r3_Double.u k)) (fun E h => by
    simp only [r3_Common.C, List.mem_cons, List.not_mem_nil, or_false] at h
    rcases h with rfl | rfl | rfl | rfl | rfl
    · exact r3_Halve.sound k
    · exact r3_Compare.sound k
    · exact r3_Minus.sound k
    · exact r3_Plus.sound k
    · exact r3_Double.sound k) mixed Tryz.func118 (by kernel_rfl) (by kernel_rfl)
  have e : fn (r3_Common.C (r3_Halve.u k) (r3_Compare.u k) (r3_Minus.u k) (r3_Plus.u k) (r3_Double.u k)) k Tryz.f118 r3_Common.A r3_Common.R = r3_Common.u k := by
    funext y
    exact r3_Common.e (r3_Halve.u k) (r3_Compare.u k) (r3_Minus.u k) (r3_Plus.u k) (r3_Double.u k) k y.1 y.2
  rw [e] at h
  exact h
/-! ### brindlewood/brindlewoodref3.Small: f120 -/
abbrev r3_Small.A : List Sh := [(.d (.int .i64))]
abbrev r3_Small.R : List Sh := [(.d (.sl 3 (.int .i64)))]
abbrev r3_Small.E : Type := (Int) → Option (List (Int))
def r3_Small.C  : Ctx := { ty := [(3, (.int .i64)), (74, (.sl 3 (.int .i64)))], nf := [], by_ := [(3, 8)], env := [], spec := [(0, [.d 0 (.int .i64), .o 3 500003 3 (.int .i64)])] }
noncomputable def r3_Small.code : Code := Func.code Tryz.f120
noncomputable def r3_Small.fin  := kfin (r3_Small.C ) Tryz.f120 r3_Small.A r3_Small.R
def r3_Small.b  (r_l0 : (Int) → (List (Int)) → Option (List (Int))) (a0 : Int) : Option (List (Int)) :=
  r_l0 a0 ([] : List (Int))
def r3_Small.b_l0  (n_l0 : (Int) → (List (Int)) → Option (List (Int))) (x0 : Int) (x3 : List (Int)) : Option (List (Int)) :=
  bif (decide (x0 > (0 : Int))) then
    if (List.length x3) ≤ (List.length x3) ∧ ((List.length x3) + (List.length (List.take 1 ([(Int.tmod x0 (65536 : Int))] : List (Int))))) * 8 ≤ LIM then
      n_l0 (IntKind.i64.wrap (Int.tdiv x0 (65536 : Int))) (List.take (List.length (List.append (List.take (List.length x3) x3) (List.take 1 ([(Int.tmod x0 (65536 : Int))] : List (Int))))) (List.append (List.take (List.length x3) x3) (List.take 1 ([(Int.tmod x0 (65536 : Int))] : List (Int)))))
    else none
  else
    some (List.take (List.length x3) x3)
def r3_Small.c  (r_l0 : (Int) → (List (Int)) → Option (List (Int))) (a0 : Int) : Option (List (Int)) :=
  r_l0 a0 ([] : List Int)
theorem r3_Small.q  (r_l0 : (Int) → (List (Int)) → Option (List (Int))) (a0 : Int) : r3_Small.b  r_l0 a0 = r3_Small.c  r_l0 a0 := by
  simp only [r3_Small.b, r3_Small.c, List.take_length, take_one, Nat.zero_add, Int.toNat_natCast, Int.toNat_zero, List.drop_zero, List.append_eq, Nat.le_refl, Int.le_refl, true_and, and_true, zero_le_one, if_true, prod_eta, Int.natCast_zero]
def r3_Small.c_l0  (n_l0 : (Int) → (List (Int)) → Option (List (Int))) (x0 : Int) (x3 : List (Int)) : Option (List (Int)) :=
  bif (decide (x0 > (0 : Int))) then
    if ((List.length x3) + (List.length ([(Int.tmod x0 (65536 : Int))] : List Int))) * 8 ≤ LIM then
      n_l0 (IntKind.i64.wrap (Int.tdiv x0 (65536 : Int))) (x3 ++ ([(Int.tmod x0 (65536 : Int))] : List Int))
    else none
  else
    some x3
theorem r3_Small.q_l0  (n_l0 : (Int) → (List (Int)) → Option (List (Int))) (x0 : Int) (x3 : List (Int)) : r3_Small.b_l0  n_l0 x0 x3 = r3_Small.c_l0  n_l0 x0 x3 := by
  simp only [r3_Small.b_l0, r3_Small.c_l0, List.take_length, take_one, Nat.zero_add, Int.toNat_natCast, Int.toNat_zero, List.drop_zero, List.append_eq, Nat.le_refl, Int.le_refl, true_and, and_true, zero_le_one, if_true, prod_eta, Int.natCast_zero]
def r3_Small.l0  (k : Nat)  : Nat → (Int) → (List (Int)) → Option (List (Int))
  | 0, _, _ => none
  | n + 1, x0, x3 => r3_Small.b_l0  (fun x0 x3 => r3_Small.l0  k  n x0 x3) x0 x3
def r3_Small.f  (k : Nat) (a0 : Int) : Option (List (Int)) := r3_Small.b  (r3_Small.l0  k k) a0
noncomputable def r3_Small.M_l0  (k n : Nat)  (s : St) : Option (List (Int)) := atLoop (r3_Small.C ) k n [1, 1, 0, 0] [] r3_Small.code (r3_Small.fin ) s
noncomputable def r3_Small.fr_l0 (x0 : Int) (x3 : List (Int)) : St := ⟨(((List.replicate 14 V.un).set 0 (V.dat (.int .i64) x0)).set 3 (V.ref 500003 0 0 (List.length x3))), [⟨500003, 0, .arr 3 (.int .i64) x3⟩]⟩
theorem r3_Small.r  (k : Nat) (a0 : Int) : fn (r3_Small.C ) k Tryz.f120 r3_Small.A r3_Small.R a0 = r3_Small.b  (fun x0 x3 => r3_Small.M_l0  k k  (r3_Small.fr_l0 x0 x3)) a0 := by kernel_rfl
theorem r3_Small.z_l0  (k : Nat)  (s : St) : r3_Small.M_l0  k 0  s = none := by kernel_rfl
theorem r3_Small.r_l0  (k n : Nat)  (x0 : Int) (x3 : List (Int)) : r3_Small.M_l0  k (n + 1)  (r3_Small.fr_l0 x0 x3) = r3_Small.b_l0  (fun x0 x3 => r3_Small.M_l0  k n  (r3_Small.fr_l0 x0 x3)) x0 x3 := by kernel_rfl
theorem r3_Small.e_l0  (k n : Nat)  (x0 : Int) (x3 : List (Int)) : r3_Small.M_l0  k n  (r3_Small.fr_l0 x0 x3) = r3_Small.l0  k  n x0 x3 := by
  induction n generalizing x0 x3 with
  | zero => rw [r3_Small.z_l0]; rfl
  | succ n ih =>
    rw [r3_Small.r_l0]
    simp only [ih]
    rfl
theorem r3_Small.e  (k : Nat) (a0 : Int) : fn (r3_Small.C ) k Tryz.f120 r3_Small.A r3_Small.R a0 = r3_Small.f  k a0 := by
  rw [r3_Small.r]
  simp only [r3_Small.e_l0]
  rfl
theorem r3_Small.ty  : TyOk Tryz.prog (r3_Small.C ) := tyOk_of (by kernel_rfl)
def r3_Small.u (k : Nat) : r3_Small.E := fun y => r3_Small.f  k y
theorem r3_Small.sound (k : Nat) : Sound Tryz.prog ⟨120, r3_Small.A, r3_Small.R, r3_Small.u k⟩ := by
  have h := fn_sound (k := k) («as» := r3_Small.A) (rs := r3_Small.R) (r3_Small.ty ) (fun E h => by cases h) mixed Tryz.func120 (by kernel_rfl) (by kernel_rfl)
  have e : fn (r3_Small.C ) k Tryz.f120 r3_Small.A r3_Small.R = r3_Small.u k := by
    funext y
    exact r3_Small.e  k y
  rw [e] at h
  exact h
/-! ### brindlewood/brindlewoodref3.RatioOk: f100 -/
abbrev r3_RatioOk.A : List Sh := [(.d Y_Ratio)]
abbrev r3_RatioOk.R : List Sh := [(.d .bool)]
abbrev r3_RatioOk.E : Type := X_Ratio → Option (Bool)
def r3_RatioOk.C (c99 : r3_IntOk.E) (c119 : r3_Of.E) (c118 : r3_Common.E) (c120 : r3_Small.E) (c117 : r3_Compare.E) : Ctx := { ty := [(3, (.int .i64)), (4, .bool), (25, (.sl 72 (.int .u32))), (27, Y_Int), (126, Y_Ratio)], nf := [(27, 2), (126, 2)], by_ := [(72, 4)], env := [⟨99, r3_IntOk.A, r3_IntOk.R, c99⟩, ⟨119, r3_Of.A, r3_Of.R, c119⟩, ⟨118, r3_Common.A, r3_Common.R, c118⟩, ⟨120, r3_Small.A, r3_Small.R, c120⟩, ⟨117, r3_Compare.A, r3_Compare.R, c117⟩], spec := [] }
noncomputable def r3_RatioOk.code : Code := Func.code Tryz.f100
noncomputable def r3_RatioOk.fin (c99 : r3_IntOk.E) (c119 : r3_Of.E) (c118 : r3_Common.E) (c120 : r3_Small.E) (c117 : r3_Compare.E) := kfin (r3_RatioOk.C c99 c119 c118 c120 c117) Tryz.f100 r3_RatioOk.A r3_RatioOk.R
def r3_RatioOk.b (c99 : r3_IntOk.E) (c119 : r3_Of.E) (c118 : r3_Common.E) (c120 : r3_Small.E) (c117 : r3_Compare.E)  (a0 : X_Int × X_Int) : Option (Bool) :=
  (c99 a0.1).bind fun y1 =>
    bif (!y1) then
      some false
    else
      (c99 a0.2).bind fun y2 =>
        bif (!y2) then
          some false
        else
          bif a0.2.1 then
            some false
          else
            bif (((List.length a0.2.2) : Int) == (0 : Int)) then
              some false
            else
              (c119 a0.1.2).bind fun y3 =>
                (c119 a0.2.2).bind fun y4 =>
                  (c118 (y3, y4)).bind fun y5 =>
                    (c120 (1 : Int)).bind fun y6 =>
                      (c117 (y5, y6)).bind fun y7 =>
                        some (y7 == (0 : Int))
def r3_RatioOk.c (c99 : r3_IntOk.E) (c119 : r3_Of.E) (c118 : r3_Common.E) (c120 : r3_Small.E) (c117 : r3_Compare.E)  (a0 : X_Int × X_Int) : Option (Bool) :=
  (c99 a0.1).bind fun y1 =>
    bif !y1 then
      some false
    else
      (c99 a0.2).bind fun y2 =>
        bif !y2 then
          some false
        else
          bif a0.2.1 then
            some false
          else
            bif (((List.length a0.2.2) : Int) == (0 : Int)) then
              some false
            else
              (c119 a0.1.2).bind fun y3 =>
                (c119 a0.2.2).bind fun y4 =>
                  (c118 (y3, y4)).bind fun y5 =>
                    (c120 (1 : Int)).bind fun y6 =>
                      (c117 (y5, y6)).bind fun y7 =>
                        some (y7 == (0 : Int))
theorem r3_RatioOk.q (c99 : r3_IntOk.E) (c119 : r3_Of.E) (c118 : r3_Common.E) (c120 : r3_Small.E) (c117 : r3_Compare.E)  (a0 : X_Int × X_Int) : r3_RatioOk.b c99 c119 c118 c120 c117 a0 = r3_RatioOk.c c99 c119 c118 c120 c117 a0 := by
  simp only [r3_RatioOk.b, r3_RatioOk.c, List.take_length, take_one, Nat.zero_add, Int.toNat_natCast, Int.toNat_zero, List.drop_zero, List.append_eq, Nat.le_refl, Int.le_refl, true_and, and_true, zero_le_one, if_true, prod_eta, Int.natCast_zero]
def r3_RatioOk.f (c99 : r3_IntOk.E) (c119 : r3_Of.E) (c118 : r3_Common.E) (c120 : r3_Small.E) (c117 : r3_Compare.E) (k : Nat) (a0 : X_Int × X_Int) : Option (Bool) := r3_RatioOk.b c99 c119 c118 c120 c117  a0
theorem r3_RatioOk.r (c99 : r3_IntOk.E) (c119 : r3_Of.E) (c118 : r3_Common.E) (c120 : r3_Small.E) (c117 : r3_Compare.E) (k : Nat) (a0 : X_Int × X_Int) : fn (r3_RatioOk.C c99 c119 c118 c120 c117) k Tryz.f100 r3_RatioOk.A r3_RatioOk.R a0 = r3_RatioOk.b c99 c119 c118 c120 c117  a0 := by kernel_rfl
theorem r3_RatioOk.e (c99 : r3_IntOk.E) (c119 : r3_Of.E) (c118 : r3_Common.E) (c120 : r3_Small.E) (c117 : r3_Compare.E) (k : Nat) (a0 : X_Int × X_Int) : fn (r3_RatioOk.C c99 c119 c118 c120 c117) k Tryz.f100 r3_RatioOk.A r3_RatioOk.R a0 = r3_RatioOk.f c99 c119 c118 c120 c117 k a0 := by
  rw [r3_RatioOk.r]
  rfl
theorem r3_RatioOk.ty (c99 : r3_IntOk.E) (c119 : r3_Of.E) (c118 : r3_Common.E) (c120 : r3_Small.E) (c117 : r3_Compare.E) : TyOk Tryz.prog (r3_RatioOk.C c99 c119 c118 c120 c117) := tyOk_of (by kernel_rfl)
def r3_RatioOk.u (k : Nat) : r3_RatioOk.E := fun y => r3_RatioOk.f (r3_IntOk.u k) (r3_Of.u k) (r3_Common.u k) (r3_Small.u k) (r3_Compare.u k) k y
theorem r3_RatioOk.sound (k : Nat) : Sound Tryz.prog ⟨100, r3_RatioOk.A, r3_RatioOk.R, r3_RatioOk.u k⟩ := by
  have h := fn_sound (k := k) («as» := r3_RatioOk.A) (rs := r3_RatioOk.R) (r3_RatioOk.ty (r3_IntOk.u k) (r3_Of.u k) (r3_Common.u k) (r3_Small.u k) (r3_Compare.u k)) (fun E h => by
    simp only [r3_RatioOk.C, List.mem_cons, List.not_mem_nil, or_false] at h
    rcases h with rfl | rfl | rfl | rfl | rfl
    · exact r3_IntOk.sound k
    · exact r3_Of.sound k
    · exact r3_Common.sound k
    · exact r3_Small.sound k
    · exact r3_Compare.sound k) mixed Tryz.func100 (by kernel_rfl) (by kernel_rfl)
  have e : fn (r3_RatioOk.C (r3_IntOk.u k) (r3_Of.u k) (r3_Common.u k) (r3_Small.u k) (r3_Compare.u k)) k Tryz.f100 r3_RatioOk.A r3_RatioOk.R = r3_RatioOk.u k := by
    funext y
    exact r3_RatioOk.e (r3_IntOk.u k) (r3_Of.u k) (r3_Common.u k) (r3_Small.u k) (r3_Compare.u k) k y
  rw [e] at h
  exact h
/-! ### brindlewood/brindlewoodref7.NameOk: f24 -/
abbrev r7_NameOk.A : List Sh := [(.d .str)]
abbrev r7_NameOk.R : List Sh := [(.d .bool)]
abbrev r7_NameOk.E : Type := (List UInt8) → Option (Bool)
def r7_NameOk.C  : Ctx := { ty := [(3, (.int .i64)), (5, (.int .u8)), (9, .str)], nf := [], by_ := [], env := [], spec := [(0, [.d 0 .str, .d 3 (.int .i64)]), (100008, [.d 0 .str, .d 3 (.int .i64), .d 4 (.int .u8), .d 5 .bool])] }
noncomputable def r7_NameOk.code : Code := Func.code Tryz.f24
noncomputable def r7_NameOk.fin  := kfin (r7_NameOk.C ) Tryz.f24 r7_NameOk.A r7_NameOk.R
def r7_NameOk.b  (r_l0 : (List UInt8) → (Int) → Option (Bool)) (a0 : List UInt8) : Option (Bool) :=
  bif (decide (((List.length a0) : Int) < (1 : Int))) then
    some false
  else
    bif (decide (((List.length a0) : Int) > (24 : Int))) then
      some false
    else
      r_l0 a0 (0 : Int)
def r7_NameOk.b_l0  (r_g8 : (List UInt8) → (Int) → (Int) → (Bool) → Option (Bool)) (x0 : List UInt8) (x3 : Int) : Option (Bool) :=
  bif (decide (x3 < ((List.length x0) : Int))) then
    if 0 ≤ x3 ∧ x3 < ((List.length x0) : Int) then
      bif (((List.getD x0 (Int.toNat x3) 0).toNat : Int) == (95 : Int)) then
        r_g8 x0 x3 ((List.getD x0 (Int.toNat x3) 0).toNat : Int) true
      else
        bif (decide ((97 : Int) ≤ ((List.getD x0 (Int.toNat x3) 0).toNat : Int))) then
          bif (decide (((List.getD x0 (Int.toNat x3) 0).toNat : Int) ≤ (122 : Int))) then
            r_g8 x0 x3 ((List.getD x0 (Int.toNat x3) 0).toNat : Int) true
          else
            bif (decide ((65 : Int) ≤ ((List.getD x0 (Int.toNat x3) 0).toNat : Int))) then
              r_g8 x0 x3 ((List.getD x0 (Int.toNat x3) 0).toNat : Int) (decide (((List.getD x0 (Int.toNat x3) 0).toNat : Int) ≤ (90 : Int)))
            else
              r_g8 x0 x3 ((List.getD x0 (Int.toNat x3) 0).toNat : Int) false
        else
          bif (decide ((65 : Int) ≤ ((List.getD x0 (Int.toNat x3) 0).toNat : Int))) then
            r_g8 x0 x3 ((List.getD x0 (Int.toNat x3) 0).toNat : Int) (decide (((List.getD x0 (Int.toNat x3) 0).toNat : Int) ≤ (90 : Int)))
          else
            r_g8 x0 x3 ((List.getD x0 (Int.toNat x3) 0).toNat : Int) false
    else none
  else
    some true
def r7_NameOk.b_g8  (n_l0 : (List UInt8) → (Int) → Option (Bool)) (x0 : List UInt8) (x3 : Int) (x4 : Int) (x5 : Bool) : Option (Bool) :=
  bif (!x5) then
    bif (x3 == (0 : Int)) then
      some false
    else
      bif (decide (x4 < (48 : Int))) then
        some false
      else
        bif (decide (x4 > (57 : Int))) then
          some false
        else
          n_l0 x0 (IntKind.i64.wrap (x3 + (1 : Int)))
  else
    n_l0 x0 (IntKind.i64.wrap (x3 + (1 : Int)))
def r7_NameOk.c_g8  (n_l0 : (List UInt8) → (Int) → Option (Bool)) (x0 : List UInt8) (x3 : Int) (x4 : Int) (x5 : Bool) : Option (Bool) :=
  bif !x5 then
    bif (x3 == (0 : Int)) then
      some false
    else
      bif (decide (x4 < (48 : Int))) then
        some false
      else
        bif (decide (x4 > (57 : Int))) then
          some false
        else
          n_l0 x0 (IntKind.i64.wrap (x3 + (1 : Int)))
  else
    n_l0 x0 (IntKind.i64.wrap (x3 + (1 : Int)))
theorem r7_NameOk.q_g8  (n_l0 : (List UInt8) → (Int) → Option (Bool)) (x0 : List UInt8) (x3 : Int) (x4 : Int) (x5 : Bool) : r7_NameOk.b_g8  n_l0 x0 x3 x4 x5 = r7_NameOk.c_g8  n_l0 x0 x3 x4 x5 := by
  simp only [r7_NameOk.b_g8, r7_NameOk.c_g8, List.take_length, take_one, Nat.zero_add, Int.toNat_natCast, Int.toNat_zero, List.drop_zero, List.append_eq, Nat.le_refl, Int.le_refl, true_and, and_true, zero_le_one, if_true, prod_eta, Int.natCast_zero]
def r7_NameOk.g8  (k : Nat) (n_l0 : (List UInt8) → (Int) → Option (Bool)) (x0 : List UInt8) (x3 : Int) (x4 : Int) (x5 : Bool) : Option (Bool) := gate k (r7_NameOk.b_g8  n_l0 x0 x3 x4 x5)
def r7_NameOk.l0  (k : Nat)  : Nat → (List UInt8) → (Int) → Option (Bool)
  | 0, _, _ => none
  | n + 1, x0, x3 => r7_NameOk.b_l0  (r7_NameOk.g8  k (fun x0 x3 => r7_NameOk.l0  k  n x0 x3)) x0 x3
def r7_NameOk.f  (k : Nat) (a0 : List UInt8) : Option (Bool) := r7_NameOk.b  (r7_NameOk.l0  k k) a0
noncomputable def r7_NameOk.M_l0  (k n : Nat)  (s : St) : Option (Bool) := atLoop (r7_NameOk.C ) k n [1, 1, 0, 1, 0] [] r7_NameOk.code (r7_NameOk.fin ) s
noncomputable def r7_NameOk.fr_l0 (x0 : List UInt8) (x3 : Int) : St := ⟨(((List.replicate 55 V.un).set 0 (V.dat .str x0)).set 3 (V.dat (.int .i64) x3)), []⟩
noncomputable def r7_NameOk.M_g8  (k : Nat) (m0 : Nat) (s : St) : Option (Bool) := atGate (r7_NameOk.C ) k [1, 1, 0, 1, 0, 0, 1, 0, 0, 1, 1, 0] [m0] r7_NameOk.code (r7_NameOk.fin ) s
noncomputable def r7_NameOk.fr_g8 (x0 : List UInt8) (x3 : Int) (x4 : Int) (x5 : Bool) : St := ⟨(((((List.replicate 55 V.un).set 0 (V.dat .str x0)).set 3 (V.dat (.int .i64) x3)).set 4 (V.dat (.int .u8) x4)).set 5 (V.dat .bool x5)), []⟩
theorem r7_NameOk.r  (k : Nat) (a0 : List UInt8) : fn (r7_NameOk.C ) k Tryz.f24 r7_NameOk.A r7_NameOk.R a0 = r7_NameOk.b  (fun x0 x3 => r7_NameOk.M_l0  k k  (r7_NameOk.fr_l0 x0 x3)) a0 := by kernel_rfl
theorem r7_NameOk.z_l0  (k : Nat)  (s : St) : r7_NameOk.M_l0  k 0  s = none := by kernel_rfl
theorem r7_NameOk.r_l0  (k n : Nat)  (x0 : List UInt8) (x3 : Int) : r7_NameOk.M_l0  k (n + 1)  (r7_NameOk.fr_l0 x0 x3) = r7_NameOk.b_l0  (fun x0 x3 x4 x5 => r7_NameOk.M_g8  k  n (r7_NameOk.fr_g8 x0 x3 x4 x5)) x0 x3 := by kernel_rfl
theorem r7_NameOk.r_g8  (k : Nat) (m0 : Nat) (x0 : List UInt8) (x3 : Int) (x4 : Int) (x5 : Bool) : r7_NameOk.M_g8  k m0 (r7_NameOk.fr_g8 x0 x3 x4 x5) = gate k (r7_NameOk.b_g8  (fun x0 x3 => r7_NameOk.M_l0  k m0  (r7_NameOk.fr_l0 x0 x3)) x0 x3 x4 x5) := by kernel_rfl
theorem r7_NameOk.e_g8  (k : Nat) (m0 : Nat) (x0 : List UInt8) (x3 : Int) (x4 : Int) (x5 : Bool) : r7_NameOk.M_g8  k m0 (r7_NameOk.fr_g8 x0 x3 x4 x5) = r7_NameOk.g8  k (fun x0 x3 => r7_NameOk.M_l0  k m0  (r7_NameOk.fr_l0 x0 x3)) x0 x3 x4 x5 := by
  rw [r7_NameOk.r_g8]
  rfl
theorem r7_NameOk.e_l0  (k n : Nat)  (x0 : List UInt8) (x3 : Int) : r7_NameOk.M_l0  k n  (r7_NameOk.fr_l0 x0 x3) = r7_NameOk.l0  k  n x0 x3 := by
  induction n generalizing x0 x3 with
  | zero => rw [r7_NameOk.z_l0]; rfl
  | succ n ih =>
    rw [r7_NameOk.r_l0]
    simp only [r7_NameOk.e_g8, ih]
    rfl
theorem r7_NameOk.e  (k : Nat) (a0 : List UInt8) : fn (r7_NameOk.C ) k Tryz.f24 r7_NameOk.A r7_NameOk.R a0 = r7_NameOk.f  k a0 := by
  rw [r7_NameOk.r]
  simp only [r7_NameOk.e_l0]
  rfl
theorem r7_NameOk.ty  : TyOk Tryz.prog (r7_NameOk.C ) := tyOk_of (by kernel_rfl)
def r7_NameOk.u (k : Nat) : r7_NameOk.E := fun y => r7_NameOk.f  k y
theorem r7_NameOk.sound (k : Nat) : Sound Tryz.prog ⟨24, r7_NameOk.A, r7_NameOk.R, r7_NameOk.u k⟩ := by
  have h := fn_sound (k := k) («as» := r7_NameOk.A) (rs := r7_NameOk.R) (r7_NameOk.ty ) (fun E h => by cases h) mixed Tryz.func24 (by kernel_rfl) (by kernel_rfl)
  have e : fn (r7_NameOk.C ) k Tryz.f24 r7_NameOk.A r7_NameOk.R = r7_NameOk.u k := by
    funext y
    exact r7_NameOk.e  k y
  rw [e] at h
  exact h
/-! ### brindlewood/brindlewoodref7.DottedOk: f89 -/
abbrev r7_DottedOk.A : List Sh := [(.d .str)]
abbrev r7_DottedOk.R : List Sh := [(.d .bool)]
abbrev r7_DottedOk.E : Type := (List UInt8) → Option (Bool)
def r7_DottedOk.C (c110 : f_strings_Split.E) (c24 : r7_NameOk.E) : Ctx := { ty := [(3, (.int .i64)), (9, .str), (33, (.sl 9 .str))], nf := [], by_ := [(9, 16)], env := [⟨110, f_strings_Split.A, f_strings_Split.R, c110⟩, ⟨24, r7_NameOk.A, r7_NameOk.R, c24⟩], spec := [(0, [.d 0 .str, .d 6 (.sl 9 .str), .d 7 (.int .i64), .d 8 (.int .i64)])] }
noncomputable def r7_DottedOk.code : Code := Func.code Tryz.f89
noncomputable def r7_DottedOk.fin (c110 : f_strings_Split.E) (c24 : r7_NameOk.E) := kfin (r7_DottedOk.C c110 c24) Tryz.f89 r7_DottedOk.A r7_DottedOk.R
def r7_DottedOk.b (c110 : f_strings_Split.E) (c24 : r7_NameOk.E) (r_l0 : (List UInt8) → (List (List UInt8)) → (Int) → (Int) → Option (Bool)) (a0 : List UInt8) : Option (Bool) :=
  (c110 (a0, [46])).bind fun y1 =>
    r_l0 a0 y1 ((List.length y1) : Int) (0 : Int)
def r7_DottedOk.b_l0 (c110 : f_strings_Split.E) (c24 : r7_NameOk.E) (n_l0 : (List UInt8) → (List (List UInt8)) → (Int) → (Int) → Option (Bool)) (x0 : List UInt8) (x6 : List (List UInt8)) (x7 : Int) (x8 : Int) : Option (Bool) :=
  bif (decide (x8 < x7)) then
    if 0 ≤ x8 ∧ x8 < ((List.length x6) : Int) then
      (c24 (List.getD x6 (Int.toNat x8) [])).bind fun y2 =>
        bif (!y2) then
          some false
        else
          n_l0 x0 x6 x7 (IntKind.i64.wrap (x8 + (1 : Int)))
    else none
  else
    some (decide (((List.length x0) : Int) ≤ (60 : Int)))
def r7_DottedOk.c_l0 (c110 : f_strings_Split.E) (c24 : r7_NameOk.E) (n_l0 : (List UInt8) → (List (List UInt8)) → (Int) → (Int) → Option (Bool)) (x0 : List UInt8) (x6 : List (List UInt8)) (x7 : Int) (x8 : Int) : Option (Bool) :=
  bif (decide (x8 < x7)) then
    if 0 ≤ x8 ∧ x8 < ((List.length x6) : Int) then
      (c24 (List.getD x6 (Int.toNat x8) [])).bind fun y2 =>
        bif !y2 then
          some false
        else
          n_l0 x0 x6 x7 (IntKind.i64.wrap (x8 + (1 : Int)))
    else none
  else
    some (decide (((List.length x0) : Int) ≤ (60 : Int)))
theorem r7_DottedOk.q_l0 (c110 : f_strings_Split.E) (c24 : r7_NameOk.E) (n_l0 : (List UInt8) → (List (List UInt8)) → (Int) → (Int) → Option (Bool)) (x0 : List UInt8) (x6 : List (List UInt8)) (x7 : Int) (x8 : Int) : r7_DottedOk.b_l0 c110 c24 n_l0 x0 x6 x7 x8 = r7_DottedOk.c_l0 c110 c24 n_l0 x0 x6 x7 x8 := by
  simp only [r7_DottedOk.b_l0, r7_DottedOk.c_l0, List.take_length, take_one, Nat.zero_add, Int.toNat_natCast, Int.toNat_zero, List.drop_zero, List.append_eq, Nat.le_refl, Int.le_refl, true_and, and_true, zero_le_one, if_true, prod_eta, Int.natCast_zero]
def r7_DottedOk.l0 (c110 : f_strings_Split.E) (c24 : r7_NameOk.E) (k : Nat)  : Nat → (List UInt8) → (List (List UInt8)) → (Int) → (Int) → Option (Bool)
  | 0, _, _, _, _ => none
  | n + 1, x0, x6, x7, x8 => r7_DottedOk.b_l0 c110 c24 (fun x0 x6 x7 x8 => r7_DottedOk.l0 c110 c24 k  n x0 x6 x7 x8) x0 x6 x7 x8
def r7_DottedOk.f (c110 : f_strings_Split.E) (c24 : r7_NameOk.E) (k : Nat) (a0 : List UInt8) : Option (Bool) := r7_DottedOk.b c110 c24 (r7_DottedOk.l0 c110 c24 k k) a0
noncomputable def r7_DottedOk.M_l0 (c110 : f_strings_Split.E) (c24 : r7_NameOk.E) (k n : Nat)  (s : St) : Option (Bool) := atLoop (r7_DottedOk.C c110 c24) k n [1, 0, 1, 0] [] r7_DottedOk.code (r7_DottedOk.fin c110 c24) s
noncomputable def r7_DottedOk.fr_l0 (x0 : List UInt8) (x6 : List (List UInt8)) (x7 : Int) (x8 : Int) : St := ⟨(((((List.replicate 19 V.un).set 0 (V.dat .str x0)).set 6 (V.dat (.sl 9 .str) x6)).set 7 (V.dat (.int .i64) x7)).set 8 (V.dat (.int .i64) x8)), []⟩
theorem r7_DottedOk.r (c110 : f_strings_Split.E) (c24 : r7_NameOk.E) (k : Nat) (a0 : List UInt8) : fn (r7_DottedOk.C c110 c24) k Tryz.f89 r7_DottedOk.A r7_DottedOk.R a0 = r7_DottedOk.b c110 c24 (fun x0 x6 x7 x8 => r7_DottedOk.M_l0 c110 c24 k k  (r7_DottedOk.fr_l0 x0 x6 x7 x8)) a0 := by kernel_rfl
theorem r7_DottedOk.z_l0 (c110 : f_strings_Split.E) (c24 : r7_NameOk.E) (k : Nat)  (s : St) : r7_DottedOk.M_l0 c110 c24 k 0  s = none := by kernel_rfl
theorem r7_DottedOk.r_l0 (c110 : f_strings_Split.E) (c24 : r7_NameOk.E) (k n : Nat)  (x0 : List UInt8) (x6 : List (List UInt8)) (x7 : Int) (x8 : Int) : r7_DottedOk.M_l0 c110 c24 k (n + 1)  (r7_DottedOk.fr_l0 x0 x6 x7 x8) = r7_DottedOk.b_l0 c110 c24 (fun x0 x6 x7 x8 => r7_DottedOk.M_l0 c110 c24 k n  (r7_DottedOk.fr_l0 x0 x6 x7 x8)) x0 x6 x7 x8 := by kernel_rfl
theorem r7_DottedOk.e_l0 (c110 : f_strings_Split.E) (c24 : r7_NameOk.E) (k n : Nat)  (x0 : List UInt8) (x6 : List (List UInt8)) (x7 : Int) (x8 : Int) : r7_DottedOk.M_l0 c110 c24 k n  (r7_DottedOk.fr_l0 x0 x6 x7 x8) = r7_DottedOk.l0 c110 c24 k  n x0 x6 x7 x8 := by
  induction n generalizing x0 x6 x7 x8 with
  | zero => rw [r7_DottedOk.z_l0]; rfl
  | succ n ih =>
    rw [r7_DottedOk.r_l0]
    simp only [ih]
    rfl
theorem r7_DottedOk.e (c110 : f_strings_Split.E) (c24 : r7_NameOk.E) (k : Nat) (a0 : List UInt8) : fn (r7_DottedOk.C c110 c24) k Tryz.f89 r7_DottedOk.A r7_DottedOk.R a0 = r7_DottedOk.f c110 c24 k a0 := by
  rw [r7_DottedOk.r]
  simp only [r7_DottedOk.e_l0]
  rfl
theorem r7_DottedOk.ty (c110 : f_strings_Split.E) (c24 : r7_NameOk.E) : TyOk Tryz.prog (r7_DottedOk.C c110 c24) := tyOk_of (by kernel_rfl)
def r7_DottedOk.u (k : Nat) : r7_DottedOk.E := fun y => r7_DottedOk.f (f_strings_Split.u k) (r7_NameOk.u k) k y
theorem r7_DottedOk.sound (k : Nat) : Sound Tryz.prog ⟨89, r7_DottedOk.A, r7_DottedOk.R, r7_DottedOk.u k⟩ := by
  have h := fn_sound (k := k) («as» := r7_DottedOk.A) (rs := r7_DottedOk.R) (r7_DottedOk.ty (f_strings_Split.u k) (r7_NameOk.u k)) (fun E h => by
    simp only [r7_DottedOk.C, List.mem_cons, List.not_mem_nil, or_false] at h
    rcases h with rfl | rfl
    · exact f_strings_Split.sound k
    · exact r7_NameOk.sound k) mixed Tryz.func89 (by kernel_rfl) (by kernel_rfl)
  have e : fn (r7_DottedOk.C (f_strings_Split.u k) (r7_NameOk.u k)) k Tryz.f89 r7_DottedOk.A r7_DottedOk.R = r7_DottedOk.u k := by
    funext y
    exact r7_DottedOk.e (f_strings_Split.u k) (r7_NameOk.u k) k y
  rw [e] at h
  exact h
end
end Go.Ab
