/- A part of the proof: GC1. -/
import Derived.Test.YtgbihmngjppomaaGreatDoorFTy
import Derived.Test.YtgbihmngjppomaaGreatDoorHLib
namespace Go.Ab
set_option linter.unusedVariables false
set_option linter.unusedSimpArgs false
set_option maxRecDepth 100000
noncomputable section
open Go.Proofs
/-! ### slices.Equal[[]uint32,uint32]: f75 -/
abbrev F75.A : List Sh := [(.d (.sl 72 (.int .u32))), (.d (.sl 72 (.int .u32)))]
abbrev F75.R : List Sh := [(.d .bool)]
abbrev F75.E : Type := ((List (Int)) × (List (Int))) → Option (Bool)
def F75.C  : Ctx := { ty := [(3, (.int .i64)), (25, (.sl 72 (.int .u32))), (72, (.int .u32))], nf := [], by_ := [(72, 4)], env := [], spec := [(0, [.d 0 (.sl 72 (.int .u32)), .d 1 (.sl 72 (.int .u32)), .d 12 (.int .i64), .d 13 (.int .i64)])] }
noncomputable def F75.code : Code := Func.code Tryz.f75
noncomputable def F75.fin  := kfin (F75.C ) Tryz.f75 F75.A F75.R
def F75.b  (r_l0 : (List (Int)) → (List (Int)) → (Int) → (Int) → Option (Bool)) (a0 : List (Int)) (a1 : List (Int)) : Option (Bool) :=
 bif (((List.length a0) : Int) != ((List.length a1) : Int)) then
 some false
 else
 r_l0 a0 a1 ((List.length a0) : Int) (0 : Int)
def F75.b_l0  (n_l0 : (List (Int)) → (List (Int)) → (Int) → (Int) → Option (Bool)) (x0 : List (Int)) (x1 : List (Int)) (x12 : Int) (x13 : Int) : Option (Bool) :=
 bif (decide (x13 < x12)) then
 if 0 ≤ x13 ∧ x13 < ((List.length x0) : Int) then
 if 0 ≤ x13 ∧ x13 < ((List.length x1) : Int) then
 bif ((List.getD x0 (Int.toNat x13) (0 : Int)) != (List.getD x1 (Int.toNat x13) (0 : Int))) then
 some false
 else
 n_l0 x0 x1 x12 (IntKind.i64.wrap (x13 + (1 : Int)))
 else none
 else none
 else
 some true
def F75.l0  (k : Nat)  : Nat → (List (Int)) → (List (Int)) → (Int) → (Int) → Option (Bool)
  | 0, _, _, _, _ => none
  | n + 1, x0, x1, x12, x13 => F75.b_l0  (fun x0 x1 x12 x13 => F75.l0  k  n x0 x1 x12 x13) x0 x1 x12 x13
def F75.f  (k : Nat) (a0 : List (Int)) (a1 : List (Int)) : Option (Bool) := F75.b  (F75.l0  k k) a0 a1
noncomputable def F75.M_l0  (k n : Nat)  (s : St) : Option (Bool) := atLoop (F75.C ) k n [1, 1, 0, 1, 0] [] F75.code (F75.fin ) s
noncomputable def F75.fr_l0 (x0 : List (Int)) (x1 : List (Int)) (x12 : Int) (x13 : Int) : St := ⟨(((((List.replicate 26 V.un).set 0 (V.dat (.sl 72 (.int .u32)) x0)).set 1 (V.dat (.sl 72 (.int .u32)) x1)).set 12 (V.dat (.int .i64) x12)).set 13 (V.dat (.int .i64) x13)), []⟩
theorem F75.r  (k : Nat) (a0 : List (Int)) (a1 : List (Int)) : fn (F75.C ) k Tryz.f75 F75.A F75.R (a0, a1) = F75.b  (fun x0 x1 x12 x13 => F75.M_l0  k k  (F75.fr_l0 x0 x1 x12 x13)) a0 a1 := by kernel_rfl
theorem F75.z_l0  (k : Nat)  (s : St) : F75.M_l0  k 0  s = none := by kernel_rfl
theorem F75.r_l0  (k n : Nat)  (x0 : List (Int)) (x1 : List (Int)) (x12 : Int) (x13 : Int) : F75.M_l0  k (n + 1)  (F75.fr_l0 x0 x1 x12 x13) = F75.b_l0  (fun x0 x1 x12 x13 => F75.M_l0  k n  (F75.fr_l0 x0 x1 x12 x13)) x0 x1 x12 x13 := by kernel_rfl
theorem F75.e_l0  (k n : Nat)  (x0 : List (Int)) (x1 : List (Int)) (x12 : Int) (x13 : Int) : F75.M_l0  k n  (F75.fr_l0 x0 x1 x12 x13) = F75.l0  k  n x0 x1 x12 x13 := by
  induction n generalizing x0 x1 x12 x13 with
  | zero => rw [F75.z_l0]; rfl
  | succ n ih =>
    rw [F75.r_l0]
    simp only [ih]
    rfl
theorem F75.e  (k : Nat) (a0 : List (Int)) (a1 : List (Int)) : fn (F75.C ) k Tryz.f75 F75.A F75.R (a0, a1) = F75.f  k a0 a1 := by
  rw [F75.r]
  simp only [F75.e_l0]
  rfl
theorem F75.ty  : TyOk Tryz.prog (F75.C ) := tyOk_of (by kernel_rfl)
def F75.u (k : Nat) : F75.E := fun y => F75.f  k y.1 y.2
theorem F75.sound (k : Nat) : Sound Tryz.prog ⟨75, F75.A, F75.R, F75.u k⟩ := by
  have h := fn_sound (k := k) («as» := F75.A) (rs := F75.R) (F75.ty ) (fun E h => by cases h) mixed Tryz.func75 (by kernel_rfl) (by kernel_rfl)
  have e : fn (F75.C ) k Tryz.f75 F75.A F75.R = F75.u k := by
    funext y
    exact F75.e  k y.1 y.2
  rw [e] at h
  exact h
/-! ### brindlewood/brindlewoodref7.SameInt: f47 -/
abbrev F47.A : List Sh := [(.d Y_Int), (.d Y_Int)]
abbrev F47.R : List Sh := [(.d .bool)]
abbrev F47.E : Type := X_Ratio → Option (Bool)
def F47.C (c75 : F75.E) : Ctx := { ty := [(4, .bool), (25, (.sl 72 (.int .u32))), (27, Y_Int)], nf := [(27, 2)], by_ := [(72, 4)], env := [⟨75, F75.A, F75.R, c75⟩], spec := [] }
noncomputable def F47.code : Code := Func.code Tryz.f47
noncomputable def F47.fin (c75 : F75.E) := kfin (F47.C c75) Tryz.f47 F47.A F47.R
def F47.b (c75 : F75.E)  (a0 : (Bool) × (List (Int))) (a1 : (Bool) × (List (Int))) : Option (Bool) :=
 bif (a0.1 == a1.1) then
 (c75 (a0.2, a1.2)).bind fun y1 =>
 some y1
 else
 some false
def F47.f (c75 : F75.E) (k : Nat) (a0 : (Bool) × (List (Int))) (a1 : (Bool) × (List (Int))) : Option (Bool) := F47.b c75  a0 a1
theorem F47.r (c75 : F75.E) (k : Nat) (a0 : (Bool) × (List (Int))) (a1 : (Bool) × (List (Int))) : fn (F47.C c75) k Tryz.f47 F47.A F47.R (a0, a1) = F47.b c75  a0 a1 := by kernel_rfl
theorem F47.e (c75 : F75.E) (k : Nat) (a0 : (Bool) × (List (Int))) (a1 : (Bool) × (List (Int))) : fn (F47.C c75) k Tryz.f47 F47.A F47.R (a0, a1) = F47.f c75 k a0 a1 := by
  rw [F47.r]
  rfl
theorem F47.ty (c75 : F75.E) : TyOk Tryz.prog (F47.C c75) := tyOk_of (by kernel_rfl)
def F47.u (k : Nat) : F47.E := fun y => F47.f (F75.u k) k y.1 y.2
theorem F47.sound (k : Nat) : Sound Tryz.prog ⟨47, F47.A, F47.R, F47.u k⟩ := by
  have h := fn_sound (k := k) («as» := F47.A) (rs := F47.R) (F47.ty (F75.u k)) (fun E h => by
    simp only [F47.C, List.mem_cons, List.not_mem_nil, or_false] at h
    rcases h with rfl
    · exact F75.sound k) mixed Tryz.func47 (by kernel_rfl) (by kernel_rfl)
  have e : fn (F47.C (F75.u k)) k Tryz.f47 F47.A F47.R = F47.u k := by
    funext y
    exact F47.e (F75.u k) k y.1 y.2
  rw [e] at h
  exact h
/-! ### brindlewood/brindlewoodref3.IntOk: f99 -/
abbrev F99.A : List Sh := [(.d Y_Int)]
abbrev F99.R : List Sh := [(.d .bool)]
abbrev F99.E : Type := X_Int → Option (Bool)
def F99.C  : Ctx := { ty := [(3, (.int .i64)), (4, .bool), (25, (.sl 72 (.int .u32))), (27, Y_Int), (72, (.int .u32))], nf := [(27, 2)], by_ := [(72, 4)], env := [], spec := [] }
noncomputable def F99.code : Code := Func.code Tryz.f99
noncomputable def F99.fin  := kfin (F99.C ) Tryz.f99 F99.A F99.R
def F99.b   (a0 : (Bool) × (List (Int))) : Option (Bool) :=
 bif (decide (((List.length a0.2) : Int) ≤ (128 : Int))) then
 bif (((List.length a0.2) : Int) == (0 : Int)) then
 bif (!a0.1) then
 some true
 else
 bif (decide (((List.length a0.2) : Int) > (0 : Int))) then
 if 0 ≤ (IntKind.i64.wrap (((List.length a0.2) : Int) - (1 : Int))) ∧ (IntKind.i64.wrap (((List.length a0.2) : Int) - (1 : Int))) < ((List.length a0.2) : Int) then
 some ((List.getD a0.2 (Int.toNat (IntKind.i64.wrap (((List.length a0.2) : Int) - (1 : Int)))) (0 : Int)) != (0 : Int))
 else none
 else
 some false
 else
 bif (decide (((List.length a0.2) : Int) > (0 : Int))) then
 if 0 ≤ (IntKind.i64.wrap (((List.length a0.2) : Int) - (1 : Int))) ∧ (IntKind.i64.wrap (((List.length a0.2) : Int) - (1 : Int))) < ((List.length a0.2) : Int) then
 some ((List.getD a0.2 (Int.toNat (IntKind.i64.wrap (((List.length a0.2) : Int) - (1 : Int)))) (0 : Int)) != (0 : Int))
 else none
 else
 some false
 else
 some false
def F99.c   (a0 : (Bool) × (List (Int))) : Option (Bool) :=
 bif (decide (((List.length a0.2) : Int) ≤ (128 : Int))) then
 bif (((List.length a0.2) : Int) == (0 : Int)) then
 bif !a0.1 then
 some true
 else
 bif (decide (((List.length a0.2) : Int) > (0 : Int))) then
 if 0 ≤ (IntKind.i64.wrap (((List.length a0.2) : Int) - (1 : Int))) ∧ (IntKind.i64.wrap (((List.length a0.2) : Int) - (1 : Int))) < ((List.length a0.2) : Int) then
 some ((List.getD a0.2 (Int.toNat (IntKind.i64.wrap (((List.length a0.2) : Int) - (1 : Int)))) (0 : Int)) != (0 : Int))
 else none
 else
 some false
 else
 bif (decide (((List.length a0.2) : Int) > (0 : Int))) then
 if 0 ≤ (IntKind.i64.wrap (((List.length a0.2) : Int) - (1 : Int))) ∧ (IntKind.i64.wrap (((List.length a0.2) : Int) - (1 : Int))) < ((List.length a0.2) : Int) then
 some ((List.getD a0.2 (Int.toNat (IntKind.i64.wrap (((List.length a0.2) : Int) - (1 : Int)))) (0 : Int)) != (0 : Int))
 else none
 else
 some false
 else
 some false
theorem F99.q   (a0 : (Bool) × (List (Int))) : F99.b  a0 = F99.c  a0 := by
  simp only [F99.b, F99.c, List.take_length, take_one, Nat.zero_add, Int.toNat_natCast, Int.toNat_zero, List.drop_zero, List.append_eq, Nat.le_refl, Int.le_refl, true_and, and_true, zero_le_one, if_true, prod_eta, Int.natCast_zero]
def F99.f  (k : Nat) (a0 : (Bool) × (List (Int))) : Option (Bool) := F99.b   a0
theorem F99.r  (k : Nat) (a0 : (Bool) × (List (Int))) : fn (F99.C ) k Tryz.f99 F99.A F99.R a0 = F99.b   a0 := by kernel_rfl
theorem F99.e  (k : Nat) (a0 : (Bool) × (List (Int))) : fn (F99.C ) k Tryz.f99 F99.A F99.R a0 = F99.f  k a0 := by
  rw [F99.r]
  rfl
theorem F99.ty  : TyOk Tryz.prog (F99.C ) := tyOk_of (by kernel_rfl)
def F99.u (k : Nat) : F99.E := fun y => F99.f  k y
theorem F99.sound (k : Nat) : Sound Tryz.prog ⟨99, F99.A, F99.R, F99.u k⟩ := by
  have h := fn_sound (k := k) («as» := F99.A) (rs := F99.R) (F99.ty ) (fun E h => by cases h) mixed Tryz.func99 (by kernel_rfl) (by kernel_rfl)
  have e : fn (F99.C ) k Tryz.f99 F99.A F99.R = F99.u k := by
    funext y
    exact F99.e  k y
  rw [e] at h
  exact h
/-! ### brindlewood/brindlewoodref3.trim: f102 -/
abbrev F102.A : List Sh := [(.d (.sl 3 (.int .i64)))]
abbrev F102.R : List Sh := [(.d (.sl 3 (.int .i64)))]
abbrev F102.E : Type := (List (Int)) → Option (List (Int))
def F102.C  : Ctx := { ty := [(3, (.int .i64)), (74, (.sl 3 (.int .i64)))], nf := [], by_ := [(3, 8)], env := [], spec := [(0, [.d 0 (.sl 3 (.int .i64))])] }
noncomputable def F102.code : Code := Func.code Tryz.f102
noncomputable def F102.fin  := kfin (F102.C ) Tryz.f102 F102.A F102.R
def F102.b  (r_l0 : (List (Int)) → Option (List (Int))) (a0 : List (Int)) : Option (List (Int)) :=
 r_l0 a0
def F102.b_l0  (n_l0 : (List (Int)) → Option (List (Int))) (x0 : List (Int)) : Option (List (Int)) :=
 bif (decide (((List.length x0) : Int) > (0 : Int))) then
 if 0 ≤ (IntKind.i64.wrap (((List.length x0) : Int) - (1 : Int))) ∧ (IntKind.i64.wrap (((List.length x0) : Int) - (1 : Int))) < ((List.length x0) : Int) then
 bif ((List.getD x0 (Int.toNat (IntKind.i64.wrap (((List.length x0) : Int) - (1 : Int)))) (0 : Int)) == (0 : Int)) then
 if 0 ≤ (0 : Int) ∧ (0 : Int) ≤ (IntKind.i64.wrap (((List.length x0) : Int) - (1 : Int))) ∧ (IntKind.i64.wrap (((List.length x0) : Int) - (1 : Int))) ≤ ((List.length x0) : Int) then
 n_l0 (List.drop (Int.toNat (0 : Int)) (List.take (Int.toNat (IntKind.i64.wrap (((List.length x0) : Int) - (1 : Int)))) x0))
 else none
 else
 some x0
 else none
 else
 some x0
def F102.c_l0  (n_l0 : (List (Int)) → Option (List (Int))) (x0 : List (Int)) : Option (List (Int)) :=
 bif (decide (((List.length x0) : Int) > (0 : Int))) then
 if 0 ≤ (IntKind.i64.wrap (((List.length x0) : Int) - (1 : Int))) ∧ (IntKind.i64.wrap (((List.length x0) : Int) - (1 : Int))) < ((List.length x0) : Int) then
 bif ((List.getD x0 (Int.toNat (IntKind.i64.wrap (((List.length x0) : Int) - (1 : Int)))) (0 : Int)) == (0 : Int)) then
 if (0 : Int) ≤ (IntKind.i64.wrap (((List.length x0) : Int) - (1 : Int))) ∧ (IntKind.i64.wrap (((List.length x0) : Int) - (1 : Int))) ≤ ((List.length x0) : Int) then
 n_l0 (List.take (Int.toNat (IntKind.i64.wrap (((List.length x0) : Int) - (1 : Int)))) x0)
 else none
 else
 some x0
 else none
 else
 some x0
theorem F102.q_l0  (n_l0 : (List (Int)) → Option (List (Int))) (x0 : List (Int)) : F102.b_l0  n_l0 x0 = F102.c_l0  n_l0 x0 := by
  simp only [F102.b_l0, F102.c_l0, List.take_length, take_one, Nat.zero_add, Int.toNat_natCast, Int.toNat_zero, List.drop_zero, List.append_eq, Nat.le_refl, Int.le_refl, true_and, and_true, zero_le_one, if_true, prod_eta, Int.natCast_zero]
def F102.l0  (k : Nat)  : Nat → (List (Int)) → Option (List (Int))
  | 0, _ => none
  | n + 1, x0 => F102.b_l0  (fun x0 => F102.l0  k  n x0) x0
def F102.f  (k : Nat) (a0 : List (Int)) : Option (List (Int)) := F102.b  (F102.l0  k k) a0
noncomputable def F102.M_l0  (k n : Nat)  (s : St) : Option (List (Int)) := atLoop (F102.C ) k n [1, 0, 0] [] F102.code (F102.fin ) s
noncomputable def F102.fr_l0 (x0 : List (Int)) : St := ⟨((List.replicate 21 V.un).set 0 (V.dat (.sl 3 (.int .i64)) x0)), []⟩
theorem F102.r  (k : Nat) (a0 : List (Int)) : fn (F102.C ) k Tryz.f102 F102.A F102.R a0 = F102.b  (fun x0 => F102.M_l0  k k  (F102.fr_l0 x0)) a0 := by kernel_rfl
theorem F102.z_l0  (k : Nat)  (s : St) : F102.M_l0  k 0  s = none := by kernel_rfl
theorem F102.r_l0  (k n : Nat)  (x0 : List (Int)) : F102.M_l0  k (n + 1)  (F102.fr_l0 x0) = F102.b_l0  (fun x0 => F102.M_l0  k n  (F102.fr_l0 x0)) x0 := by kernel_rfl
theorem F102.e_l0  (k n : Nat)  (x0 : List (Int)) : F102.M_l0  k n  (F102.fr_l0 x0) = F102.l0  k  n x0 := by
  induction n generalizing x0 with
  | zero => rw [F102.z_l0]; rfl
  | succ n ih =>
    rw [F102.r_l0]
    simp only [ih]
    rfl
theorem F102.e  (k : Nat) (a0 : List (Int)) : fn (F102.C ) k Tryz.f102 F102.A F102.R a0 = F102.f  k a0 := by
  rw [F102.r]
  simp only [F102.e_l0]
  rfl
theorem F102.ty  : TyOk Tryz.prog (F102.C ) := tyOk_of (by kernel_rfl)
def F102.u (k : Nat) : F102.E := fun y => F102.f  k y
theorem F102.sound (k : Nat) : Sound Tryz.prog ⟨102, F102.A, F102.R, F102.u k⟩ := by
  have h := fn_sound (k := k) («as» := F102.A) (rs := F102.R) (F102.ty ) (fun E h => by cases h) mixed Tryz.func102 (by kernel_rfl) (by kernel_rfl)
  have e : fn (F102.C ) k Tryz.f102 F102.A F102.R = F102.u k := by
    funext y
    exact F102.e  k y
  rw [e] at h
  exact h
/-! ### brindlewood/brindlewoodref3.Of: f119 -/
abbrev F119.A : List Sh := [(.d (.sl 72 (.int .u32)))]
abbrev F119.R : List Sh := [(.d (.sl 3 (.int .i64)))]
abbrev F119.E : Type := (List (Int)) → Option (List (Int))
def F119.C (c102 : F102.E) : Ctx := { ty := [(3, (.int .i64)), (25, (.sl 72 (.int .u32))), (72, (.int .u32)), (74, (.sl 3 (.int .i64)))], nf := [], by_ := [(3, 8), (72, 4)], env := [⟨102, F102.A, F102.R, c102⟩], spec := [(0, [.d 0 (.sl 72 (.int .u32)), .o 3 500003 3 (.int .i64), .d 4 (.int .i64)])] }
noncomputable def F119.code : Code := Func.code Tryz.f119
noncomputable def F119.fin (c102 : F102.E) := kfin (F119.C c102) Tryz.f119 F119.A F119.R
def F119.b (c102 : F102.E) (r_l0 : (List (Int)) → (List (Int)) → (Int) → Option (List (Int))) (a0 : List (Int)) : Option (List (Int)) :=
 r_l0 a0 ([] : List (Int)) (0 : Int)
def F119.b_l0 (c102 : F102.E) (n_l0 : (List (Int)) → (List (Int)) → (Int) → Option (List (Int))) (x0 : List (Int)) (x3 : List (Int)) (x4 : Int) : Option (List (Int)) :=
 bif (decide (x4 < ((List.length x0) : Int))) then
 if 0 ≤ x4 ∧ x4 < ((List.length x0) : Int) then
 if 0 ≤ x4 ∧ x4 < ((List.length x0) : Int) then
 if (List.length x3) ≤ (List.length x3) ∧ ((List.length x3) + (List.length (List.take 2 ([(IntKind.i64.wrap (Int.tmod (List.getD x0 (Int.toNat x4) (0 : Int)) (65536 : Int))), (IntKind.i64.wrap (IntKind.u32.wrap (Int.tdiv (List.getD x0 (Int.toNat x4) (0 : Int)) (65536 : Int))))] : List (Int))))) * 8 ≤ LIM then
 n_l0 x0 (List.take (List.length (List.append (List.take (List.length x3) x3) (List.take 2 ([(IntKind.i64.wrap (Int.tmod (List.getD x0 (Int.toNat x4) (0 : Int)) (65536 : Int))), (IntKind.i64.wrap (IntKind.u32.wrap (Int.tdiv (List.getD x0 (Int.toNat x4) (0 : Int)) (65536 : Int))))] : List (Int))))) (List.append (List.take (List.length x3) x3) (List.take 2 ([(IntKind.i64.wrap (Int.tmod (List.getD x0 (Int.toNat x4) (0 : Int)) (65536 : Int))), (IntKind.i64.wrap (IntKind.u32.wrap (Int.tdiv (List.getD x0 (Int.toNat x4) (0 : Int)) (65536 : Int))))] : List (Int))))) (IntKind.i64.wrap (x4 + (1 : Int)))
 else none
 else none
 else none
 else
 (c102 (List.take (List.length x3) x3)).bind fun y1 =>
 some y1
def F119.c (c102 : F102.E) (r_l0 : (List (Int)) → (List (Int)) → (Int) → Option (List (Int))) (a0 : List (Int)) : Option (List (Int)) :=
 r_l0 a0 ([] : List Int) (0 : Int)
theorem F119.q (c102 : F102.E) (r_l0 : (List (Int)) → (List (Int)) → (Int) → Option (List (Int))) (a0 : List (Int)) : F119.b c102 r_l0 a0 = F119.c c102 r_l0 a0 := by
  simp only [F119.b, F119.c, List.take_length, take_one, Nat.zero_add, Int.toNat_natCast, Int.toNat_zero, List.drop_zero, List.append_eq, Nat.le_refl, Int.le_refl, true_and, and_true, zero_le_one, if_true, prod_eta, Int.natCast_zero]
def F119.c_l0 (c102 : F102.E) (n_l0 : (List (Int)) → (List (Int)) → (Int) → Option (List (Int))) (x0 : List (Int)) (x3 : List (Int)) (x4 : Int) : Option (List (Int)) :=
 bif (decide (x4 < ((List.length x0) : Int))) then
 if 0 ≤ x4 ∧ x4 < ((List.length x0) : Int) then
 if 0 ≤ x4 ∧ x4 < ((List.length x0) : Int) then
 if ((List.length x3) + (List.length (List.take 2 ([(IntKind.i64.wrap (Int.tmod (List.getD x0 (Int.toNat x4) (0 : Int)) (65536 : Int))), (IntKind.i64.wrap (IntKind.u32.wrap (Int.tdiv (List.getD x0 (Int.toNat x4) (0 : Int)) (65536 : Int))))] : List Int)))) * 8 ≤ LIM then
 n_l0 x0 (x3 ++ (List.take 2 ([(IntKind.i64.wrap (Int.tmod (List.getD x0 (Int.toNat x4) (0 : Int)) (65536 : Int))), (IntKind.i64.wrap (IntKind.u32.wrap (Int.tdiv (List.getD x0 (Int.toNat x4) (0 : Int)) (65536 : Int))))] : List Int))) (IntKind.i64.wrap (x4 + (1 : Int)))
 else none
 else none
 else none
 else
 (c102 x3).bind fun y1 =>
 some y1
theorem F119.q_l0 (c102 : F102.E) (n_l0 : (List (Int)) → (List (Int)) → (Int) → Option (List (Int))) (x0 : List (Int)) (x3 : List (Int)) (x4 : Int) : F119.b_l0 c102 n_l0 x0 x3 x4 = F119.c_l0 c102 n_l0 x0 x3 x4 := by
  simp only [F119.b_l0, F119.c_l0, List.take_length, take_one, Nat.zero_add, Int.toNat_natCast, Int.toNat_zero, List.drop_zero, List.append_eq, Nat.le_refl, Int.le_refl, true_and, and_true, zero_le_one, if_true, prod_eta, Int.natCast_zero]
def F119.l0 (c102 : F102.E) (k : Nat)  : Nat → (List (Int)) → (List (Int)) → (Int) → Option (List (Int))
  | 0, _, _, _ => none
  | n + 1, x0, x3, x4 => F119.b_l0 c102 (fun x0 x3 x4 => F119.l0 c102 k  n x0 x3 x4) x0 x3 x4
def F119.f (c102 : F102.E) (k : Nat) (a0 : List (Int)) : Option (List (Int)) := F119.b c102 (F119.l0 c102 k k) a0
noncomputable def F119.M_l0 (c102 : F102.E) (k n : Nat)  (s : St) : Option (List (Int)) := atLoop (F119.C c102) k n [1, 1, 0, 1, 0] [] F119.code (F119.fin c102) s
noncomputable def F119.fr_l0 (x0 : List (Int)) (x3 : List (Int)) (x4 : Int) : St := ⟨((((List.replicate 28 V.un).set 0 (V.dat (.sl 72 (.int .u32)) x0)).set 3 (V.ref 500003 0 0 (List.length x3))).set 4 (V.dat (.int .i64) x4)), [⟨500003, 0, .arr 3 (.int .i64) x3⟩]⟩
theorem F119.r (c102 : F102.E) (k : Nat) (a0 : List (Int)) : fn (F119.C c102) k Tryz.f119 F119.A F119.R a0 = F119.b c102 (fun x0 x3 x4 => F119.M_l0 c102 k k  (F119.fr_l0 x0 x3 x4)) a0 := by kernel_rfl
theorem F119.z_l0 (c102 : F102.E) (k : Nat)  (s : St) : F119.M_l0 c102 k 0  s = none := by kernel_rfl
theorem F119.r_l0 (c102 : F102.E) (k n : Nat)  (x0 : List (Int)) (x3 : List (Int)) (x4 : Int) : F119.M_l0 c102 k (n + 1)  (F119.fr_l0 x0 x3 x4) = F119.b_l0 c102 (fun x0 x3 x4 => F119.M_l0 c102 k n  (F119.fr_l0 x0 x3 x4)) x0 x3 x4 := by kernel_rfl
theorem F119.e_l0 (c102 : F102.E) (k n : Nat)  (x0 : List (Int)) (x3 : List (Int)) (x4 : Int) : F119.M_l0 c102 k n  (F119.fr_l0 x0 x3 x4) = F119.l0 c102 k  n x0 x3 x4 := by
  induction n generalizing x0 x3 x4 with
  | zero => rw [F119.z_l0]; rfl
  | succ n ih =>
    rw [F119.r_l0]
    simp only [ih]
    rfl
theorem F119.e (c102 : F102.E) (k : Nat) (a0 : List (Int)) : fn (F119.C c102) k Tryz.f119 F119.A F119.R a0 = F119.f c102 k a0 := by
  rw [F119.r]
  simp only [F119.e_l0]
  rfl
theorem F119.ty (c102 : F102.E) : TyOk Tryz.prog (F119.C c102) := tyOk_of (by kernel_rfl)
def F119.u (k : Nat) : F119.E := fun y => F119.f (F102.u k) k y
theorem F119.sound (k : Nat) : Sound Tryz.prog ⟨119, F119.A, F119.R, F119.u k⟩ := by
  have h := fn_sound (k := k) («as» := F119.A) (rs := F119.R) (F119.ty (F102.u k)) (fun E h => by
    simp only [F119.C, List.mem_cons, List.not_mem_nil, or_false] at h
    rcases h with rfl
    · exact F102.sound k) mixed Tryz.func119 (by kernel_rfl) (by kernel_rfl)
  have e : fn (F119.C (F102.u k)) k Tryz.f119 F119.A F119.R = F119.u k := by
    funext y
    exact F119.e (F102.u k) k y
  rw [e] at h
  exact h
/-! ### brindlewood/brindlewoodref3.Halve: f133 -/
abbrev F133.A : List Sh := [(.d (.sl 3 (.int .i64))), (.d (.int .i64))]
abbrev F133.R : List Sh := [(.d (.sl 3 (.int .i64))), (.d (.int .i64))]
abbrev F133.E : Type := ((List (Int)) × (Int)) → Option ((List (Int)) × (Int))
def F133.C (c102 : F102.E) : Ctx := { ty := [(3, (.int .i64)), (74, (.sl 3 (.int .i64)))], nf := [], by_ := [(3, 8)], env := [⟨102, F102.A, F102.R, c102⟩], spec := [(0, [.d 0 (.sl 3 (.int .i64)), .d 1 (.int .i64), .o 6 500006 3 (.int .i64), .d 7 (.int .i64), .d 8 (.int .i64)])] }
noncomputable def F133.code : Code := Func.code Tryz.f133
noncomputable def F133.fin (c102 : F102.E) := kfin (F133.C c102) Tryz.f133 F133.A F133.R
def F133.b (c102 : F102.E) (r_l0 : (List (Int)) → (Int) → (List (Int)) → (Int) → (Int) → Option ((List (Int)) × (Int))) (a0 : List (Int)) (a1 : Int) : Option ((List (Int)) × (Int)) :=
 if ((List.length a0) : Int) = ((List.length a0) : Int) ∧ 0 ≤ ((List.length a0) : Int) ∧ Int.toNat ((List.length a0) : Int) * 8 ≤ LIM ∧ ((List.length a0) : Int) ≤ 140737488355328 then
 r_l0 a0 a1 (List.take (Int.toNat ((List.length a0) : Int)) (List.replicate (Int.toNat ((List.length a0) : Int)) (0 : Int))) (0 : Int) (IntKind.i64.wrap (((List.length a0) : Int) - (1 : Int)))
 else none
def F133.b_l0 (c102 : F102.E) (n_l0 : (List (Int)) → (Int) → (List (Int)) → (Int) → (Int) → Option ((List (Int)) × (Int))) (x0 : List (Int)) (x1 : Int) (x6 : List (Int)) (x7 : Int) (x8 : Int) : Option ((List (Int)) × (Int)) :=
 bif (decide (x8 ≥ (0 : Int))) then
 if 0 ≤ x8 ∧ x8 < ((List.length x0) : Int) then
 if x1 = 0 then none else
 if 0 ≤ x8 ∧ x8 < (((List.length x6) : Nat) : Int) then
 if x1 = 0 then none else
 n_l0 x0 x1 (List.take (List.length x6) (List.set x6 (0 + Int.toNat x8) (IntKind.i64.wrap (Int.tdiv (IntKind.i64.wrap ((IntKind.i64.wrap (x7 * (65536 : Int))) + (List.getD x0 (Int.toNat x8) (0 : Int)))) x1)))) (Int.tmod (IntKind.i64.wrap ((IntKind.i64.wrap (x7 * (65536 : Int))) + (List.getD x0 (Int.toNat x8) (0 : Int)))) x1) (IntKind.i64.wrap (x8 - (1 : Int)))
 else none
 else none
 else
 (c102 (List.take (List.length x6) x6)).bind fun y1 =>
 some (y1, x7)
def F133.c (c102 : F102.E) (r_l0 : (List (Int)) → (Int) → (List (Int)) → (Int) → (Int) → Option ((List (Int)) × (Int))) (a0 : List (Int)) (a1 : Int) : Option ((List (Int)) × (Int)) :=
 if 0 ≤ ((List.length a0) : Int) ∧ Int.toNat ((List.length a0) : Int) * 8 ≤ LIM ∧ ((List.length a0) : Int) ≤ 140737488355328 then
 r_l0 a0 a1 (List.take (List.length a0) (List.replicate (List.length a0) (0 : Int))) (0 : Int) (IntKind.i64.wrap (((List.length a0) : Int) - (1 : Int)))
 else none
theorem F133.q (c102 : F102.E) (r_l0 : (List (Int)) → (Int) → (List (Int)) → (Int) → (Int) → Option ((List (Int)) × (Int))) (a0 : List (Int)) (a1 : Int) : F133.b c102 r_l0 a0 a1 = F133.c c102 r_l0 a0 a1 := by
  simp only [F133.b, F133.c, List.take_length, take_one, Nat.zero_add, Int.toNat_natCast, Int.toNat_zero, List.drop_zero, List.append_eq, Nat.le_refl, Int.le_refl, true_and, and_true, zero_le_one, if_true, prod_eta, Int.natCast_zero]
def F133.c_l0 (c102 : F102.E) (n_l0 : (List (Int)) → (Int) → (List (Int)) → (Int) → (Int) → Option ((List (Int)) × (Int))) (x0 : List (Int)) (x1 : Int) (x6 : List (Int)) (x7 : Int) (x8 : Int) : Option ((List (Int)) × (Int)) :=
 bif (decide (x8 ≥ (0 : Int))) then
 if 0 ≤ x8 ∧ x8 < ((List.length x0) : Int) then
 if x1 = 0 then none else
 if 0 ≤ x8 ∧ x8 < ((List.length x6) : Int) then
 if x1 = 0 then none else
 n_l0 x0 x1 (List.take (List.length x6) (List.set x6 (0 + Int.toNat x8) (IntKind.i64.wrap (Int.tdiv (IntKind.i64.wrap ((IntKind.i64.wrap (x7 * (65536 : Int))) + (List.getD x0 (Int.toNat x8) (0 : Int)))) x1)))) (Int.tmod (IntKind.i64.wrap ((IntKind.i64.wrap (x7 * (65536 : Int))) + (List.getD x0 (Int.toNat x8) (0 : Int)))) x1) (IntKind.i64.wrap (x8 - (1 : Int)))
 else none
 else none
 else
 (c102 x6).bind fun y1 =>
 some (y1, x7)
theorem F133.q_l0 (c102 : F102.E) (n_l0 : (List (Int)) → (Int) → (List (Int)) → (Int) → (Int) → Option ((List (Int)) × (Int))) (x0 : List (Int)) (x1 : Int) (x6 : List (Int)) (x7 : Int) (x8 : Int) : F133.b_l0 c102 n_l0 x0 x1 x6 x7 x8 = F133.c_l0 c102 n_l0 x0 x1 x6 x7 x8 := by
  simp only [F133.b_l0, F133.c_l0, List.take_length, take_one, Nat.zero_add, Int.toNat_natCast, Int.toNat_zero, List.drop_zero, List.append_eq, Nat.le_refl, Int.le_refl, true_and, and_true, zero_le_one, if_true, prod_eta, Int.natCast_zero]
def F133.l0 (c102 : F102.E) (k : Nat)  : Nat → (List (Int)) → (Int) → (List (Int)) → (Int) → (Int) → Option ((List (Int)) × (Int))
  | 0, _, _, _, _, _ => none
  | n + 1, x0, x1, x6, x7, x8 => F133.b_l0 c102 (fun x0 x1 x6 x7 x8 => F133.l0 c102 k  n x0 x1 x6 x7 x8) x0 x1 x6 x7 x8
def F133.f (c102 : F102.E) (k : Nat) (a0 : List (Int)) (a1 : Int) : Option ((List (Int)) × (Int)) := F133.b c102 (F133.l0 c102 k k) a0 a1
noncomputable def F133.M_l0 (c102 : F102.E) (k n : Nat)  (s : St) : Option ((List (Int)) × (Int)) := atLoop (F133.C c102) k n [1, 1, 1, 0, 1, 0] [] F133.code (F133.fin c102) s
noncomputable def F133.fr_l0 (x0 : List (Int)) (x1 : Int) (x6 : List (Int)) (x7 : Int) (x8 : Int) : St := ⟨((((((List.replicate 38 V.un).set 0 (V.dat (.sl 3 (.int .i64)) x0)).set 1 (V.dat (.int .i64) x1)).set 6 (V.ref 500006 0 0 (List.length x6))).set 7 (V.dat (.int .i64) x7)).set 8 (V.dat (.int .i64) x8)), [⟨500006, 0, .arr 3 (.int .i64) x6⟩]⟩
theorem F133.r (c102 : F102.E) (k : Nat) (a0 : List (Int)) (a1 : Int) : fn (F133.C c102) k Tryz.f133 F133.A F133.R (a0, a1) = F133.b c102 (fun x0 x1 x6 x7 x8 => F133.M_l0 c102 k k  (F133.fr_l0 x0 x1 x6 x7 x8)) a0 a1 := by kernel_rfl
theorem F133.z_l0 (c102 : F102.E) (k : Nat)  (s : St) : F133.M_l0 c102 k 0  s = none := by kernel_rfl
theorem F133.r_l0 (c102 : F102.E) (k n : Nat)  (x0 : List (Int)) (x1 : Int) (x6 : List (Int)) (x7 : Int) (x8 : Int) : F133.M_l0 c102 k (n + 1)  (F133.fr_l0 x0 x1 x6 x7 x8) = F133.b_l0 c102 (fun x0 x1 x6 x7 x8 => F133.M_l0 c102 k n  (F133.fr_l0 x0 x1 x6 x7 x8)) x0 x1 x6 x7 x8 := by kernel_rfl
theorem F133.e_l0 (c102 : F102.E) (k n : Nat)  (x0 : List (Int)) (x1 : Int) (x6 : List (Int)) (x7 : Int) (x8 : Int) : F133.M_l0 c102 k n  (F133.fr_l0 x0 x1 x6 x7 x8) = F133.l0 c102 k  n x0 x1 x6 x7 x8 := by
  induction n generalizing x0 x1 x6 x7 x8 with
  | zero => rw [F133.z_l0]; rfl
  | succ n ih =>
    rw [F133.r_l0]
    simp only [ih]
    rfl
theorem F133.e (c102 : F102.E) (k : Nat) (a0 : List (Int)) (a1 : Int) : fn (F133.C c102) k Tryz.f133 F133.A F133.R (a0, a1) = F133.f c102 k a0 a1 := by
  rw [F133.r]
  simp only [F133.e_l0]
  rfl
theorem F133.ty (c102 : F102.E) : TyOk Tryz.prog (F133.C c102) := tyOk_of (by kernel_rfl)
def F133.u (k : Nat) : F133.E := fun y => F133.f (F102.u k) k y.1 y.2
theorem F133.sound (k : Nat) : Sound Tryz.prog ⟨133, F133.A, F133.R, F133.u k⟩ := by
  have h := fn_sound (k := k) («as» := F133.A) (rs := F133.R) (F133.ty (F102.u k)) (fun E h => by
    simp only [F133.C, List.mem_cons, List.not_mem_nil, or_false] at h
    rcases h with rfl
    · exact F102.sound k) mixed Tryz.func133 (by kernel_rfl) (by kernel_rfl)
  have e : fn (F133.C (F102.u k)) k Tryz.f133 F133.A F133.R = F133.u k := by
    funext y
    exact F133.e (F102.u k) k y.1 y.2
  rw [e] at h
  exact h
/-! ### brindlewood/brindlewoodref3.Compare: f117 -/
abbrev F117.A : List Sh := [(.d (.sl 3 (.int .i64))), (.d (.sl 3 (.int .i64)))]
abbrev F117.R : List Sh := [(.d (.int .i64))]
abbrev F117.E : Type := ((List (Int)) × (List (Int))) → Option (Int)
def F117.C  : Ctx := { ty := [(3, (.int .i64)), (74, (.sl 3 (.int .i64)))], nf := [], by_ := [(3, 8)], env := [], spec := [(0, [.d 0 (.sl 3 (.int .i64)), .d 1 (.sl 3 (.int .i64)), .d 5 (.int .i64)])] }
noncomputable def F117.code : Code := Func.code Tryz.f117
noncomputable def F117.fin  := kfin (F117.C ) Tryz.f117 F117.A F117.R
def F117.b  (r_l0 : (List (Int)) → (List (Int)) → (Int) → Option (Int)) (a0 : List (Int)) (a1 : List (Int)) : Option (Int) :=
 bif (((List.length a0) : Int) != ((List.length a1) : Int)) then
 bif (decide (((List.length a0) : Int) < ((List.length a1) : Int))) then
 some (-1 : Int)
 else
 some (1 : Int)
 else
 r_l0 a0 a1 (IntKind.i64.wrap (((List.length a0) : Int) - (1 : Int)))
def F117.b_l0  (n_l0 : (List (Int)) → (List (Int)) → (Int) → Option (Int)) (x0 : List (Int)) (x1 : List (Int)) (x5 : Int) : Option (Int) :=
 bif (decide (x5 ≥ (0 : Int))) then
 if 0 ≤ x5 ∧ x5 < ((List.length x0) : Int) then
 if 0 ≤ x5 ∧ x5 < ((List.length x1) : Int) then
 bif (decide ((List.getD x0 (Int.toNat x5) (0 : Int)) < (List.getD x1 (Int.toNat x5) (0 : Int)))) then
 some (-1 : Int)
 else
 if 0 ≤ x5 ∧ x5 < ((List.length x0) : Int) then
 if 0 ≤ x5 ∧ x5 < ((List.length x1) : Int) then
 bif (decide ((List.getD x0 (Int.toNat x5) (0 : Int)) > (List.getD x1 (Int.toNat x5) (0 : Int)))) then
 some (1 : Int)
 else
 n_l0 x0 x1 (IntKind.i64.wrap (x5 - (1 : Int)))
 else none
 else none
 else none
 else none
 else
 some (0 : Int)
def F117.l0  (k : Nat)  : Nat → (List (Int)) → (List (Int)) → (Int) → Option (Int)
  | 0, _, _, _ => none
  | n + 1, x0, x1, x5 => F117.b_l0  (fun x0 x1 x5 => F117.l0  k  n x0 x1 x5) x0 x1 x5
def F117.f  (k : Nat) (a0 : List (Int)) (a1 : List (Int)) : Option (Int) := F117.b  (F117.l0  k k) a0 a1
noncomputable def F117.M_l0  (k n : Nat)  (s : St) : Option (Int) := atLoop (F117.C ) k n [1, 1, 0, 1, 0] [] F117.code (F117.fin ) s
noncomputable def F117.fr_l0 (x0 : List (Int)) (x1 : List (Int)) (x5 : Int) : St := ⟨((((List.replicate 41 V.un).set 0 (V.dat (.sl 3 (.int .i64)) x0)).set 1 (V.dat (.sl 3 (.int .i64)) x1)).set 5 (V.dat (.int .i64) x5)), []⟩
theorem F117.r  (k : Nat) (a0 : List (Int)) (a1 : List (Int)) : fn (F117.C ) k Tryz.f117 F117.A F117.R (a0, a1) = F117.b  (fun x0 x1 x5 => F117.M_l0  k k  (F117.fr_l0 x0 x1 x5)) a0 a1 := by kernel_rfl
theorem F117.z_l0  (k : Nat)  (s : St) : F117.M_l0  k 0  s = none := by kernel_rfl
theorem F117.r_l0  (k n : Nat)  (x0 : List (Int)) (x1 : List (Int)) (x5 : Int) : F117.M_l0  k (n + 1)  (F117.fr_l0 x0 x1 x5) = F117.b_l0  (fun x0 x1 x5 => F117.M_l0  k n  (F117.fr_l0 x0 x1 x5)) x0 x1 x5 := by kernel_rfl
theorem F117.e_l0  (k n : Nat)  (x0 : List (Int)) (x1 : List (Int)) (x5 : Int) : F117.M_l0  k n  (F117.fr_l0 x0 x1 x5) = F117.l0  k  n x0 x1 x5 := by
  induction n generalizing x0 x1 x5 with
  | zero => rw [F117.z_l0]; rfl
  | succ n ih =>
    rw [F117.r_l0]
    simp only [ih]
    rfl
theorem F117.e  (k : Nat) (a0 : List (Int)) (a1 : List (Int)) : fn (F117.C ) k Tryz.f117 F117.A F117.R (a0, a1) = F117.f  k a0 a1 := by
  rw [F117.r]
  simp only [F117.e_l0]
  rfl
theorem F117.ty  : TyOk Tryz.prog (F117.C ) := tyOk_of (by kernel_rfl)
def F117.u (k : Nat) : F117.E := fun y => F117.f  k y.1 y.2
theorem F117.sound (k : Nat) : Sound Tryz.prog ⟨117, F117.A, F117.R, F117.u k⟩ := by
  have h := fn_sound (k := k) («as» := F117.A) (rs := F117.R) (F117.ty ) (fun E h => by cases h) mixed Tryz.func117 (by kernel_rfl) (by kernel_rfl)
  have e : fn (F117.C ) k Tryz.f117 F117.A F117.R = F117.u k := by
    funext y
    exact F117.e  k y.1 y.2
  rw [e] at h
  exact h
/-! ### brindlewood/brindlewoodref3.Minus: f134 -/
abbrev F134.A : List Sh := [(.d (.sl 3 (.int .i64))), (.d (.sl 3 (.int .i64)))]
abbrev F134.R : List Sh := [(.d (.sl 3 (.int .i64)))]
abbrev F134.E : Type := ((List (Int)) × (List (Int))) → Option (List (Int))
def F134.C (c102 : F102.E) : Ctx := { ty := [(3, (.int .i64)), (74, (.sl 3 (.int .i64)))], nf := [], by_ := [(3, 8)], env := [⟨102, F102.A, F102.R, c102⟩], spec := [(0, [.d 0 (.sl 3 (.int .i64)), .d 1 (.sl 3 (.int .i64)), .o 5 500005 3 (.int .i64), .d 6 (.int .i64), .d 7 (.int .i64)]), (100013, [.d 0 (.sl 3 (.int .i64)), .d 1 (.sl 3 (.int .i64)), .o 5 500005 3 (.int .i64), .d 6 (.int .i64), .d 7 (.int .i64), .d 8 (.int .i64)])] }
noncomputable def F134.code : Code := Func.code Tryz.f134
noncomputable def F134.fin (c102 : F102.E) := kfin (F134.C c102) Tryz.f134 F134.A F134.R
def F134.b (c102 : F102.E) (r_l0 : (List (Int)) → (List (Int)) → (List (Int)) → (Int) → (Int) → Option (List (Int))) (a0 : List (Int)) (a1 : List (Int)) : Option (List (Int)) :=
 r_l0 a0 a1 ([] : List (Int)) (0 : Int) (0 : Int)
def F134.b_l0 (c102 : F102.E) (r_g13 : (List (Int)) → (List (Int)) → (List (Int)) → (Int) → (Int) → (Int) → Option (List (Int))) (x0 : List (Int)) (x1 : List (Int)) (x5 : List (Int)) (x6 : Int) (x7 : Int) : Option (List (Int)) :=
 bif (decide (x7 < ((List.length x0) : Int))) then
 if 0 ≤ x7 ∧ x7 < ((List.length x0) : Int) then
 bif (decide (x7 < ((List.length x1) : Int))) then
 if 0 ≤ x7 ∧ x7 < ((List.length x1) : Int) then
 bif (decide ((IntKind.i64.wrap ((IntKind.i64.wrap ((List.getD x0 (Int.toNat x7) (0 : Int)) - x6)) - (List.getD x1 (Int.toNat x7) (0 : Int)))) < (0 : Int))) then
 r_g13 x0 x1 (List.take (List.length x5) x5) (1 : Int) x7 (IntKind.i64.wrap ((IntKind.i64.wrap ((IntKind.i64.wrap ((List.getD x0 (Int.toNat x7) (0 : Int)) - x6)) - (List.getD x1 (Int.toNat x7) (0 : Int)))) + (65536 : Int)))
 else
 r_g13 x0 x1 (List.take (List.length x5) x5) (0 : Int) x7 (IntKind.i64.wrap ((IntKind.i64.wrap ((List.getD x0 (Int.toNat x7) (0 : Int)) - x6)) - (List.getD x1 (Int.toNat x7) (0 : Int))))
 else none
 else
 bif (decide ((IntKind.i64.wrap ((List.getD x0 (Int.toNat x7) (0 : Int)) - x6)) < (0 : Int))) then
 r_g13 x0 x1 (List.take (List.length x5) x5) (1 : Int) x7 (IntKind.i64.wrap ((IntKind.i64.wrap ((List.getD x0 (Int.toNat x7) (0 : Int)) - x6)) + (65536 : Int)))
 else
 r_g13 x0 x1 (List.take (List.length x5) x5) (0 : Int) x7 (IntKind.i64.wrap ((List.getD x0 (Int.toNat x7) (0 : Int)) - x6))
 else none
 else
 (c102 (List.take (List.length x5) x5)).bind fun y1 =>
 some y1
def F134.b_g13 (c102 : F102.E) (n_l0 : (List (Int)) → (List (Int)) → (List (Int)) → (Int) → (Int) → Option (List (Int))) (x0 : List (Int)) (x1 : List (Int)) (x5 : List (Int)) (x6 : Int) (x7 : Int) (x8 : Int) : Option (List (Int)) :=
 if (List.length x5) ≤ (List.length x5) ∧ ((List.length x5) + (List.length (List.take 1 ([x8] : List (Int))))) * 8 ≤ LIM then
 n_l0 x0 x1 (List.take (List.length (List.append (List.take (List.length x5) x5) (List.take 1 ([x8] : List (Int))))) (List.append (List.take (List.length x5) x5) (List.take 1 ([x8] : List (Int))))) x6 (IntKind.i64.wrap (x7 + (1 : Int)))
 else none
def F134.c (c102 : F102.E) (r_l0 : (List (Int)) → (List (Int)) → (List (Int)) → (Int) → (Int) → Option (List (Int))) (a0 : List (Int)) (a1 : List (Int)) : Option (List (Int)) :=
 r_l0 a0 a1 ([] : List Int) (0 : Int) (0 : Int)
theorem F134.q (c102 : F102.E) (r_l0 : (List (Int)) → (List (Int)) → (List (Int)) → (Int) → (Int) → Option (List (Int))) (a0 : List (Int)) (a1 : List (Int)) : F134.b c102 r_l0 a0 a1 = F134.c c102 r_l0 a0 a1 := by
  simp only [F134.b, F134.c, List.take_length, take_one, Nat.zero_add, Int.toNat_natCast, Int.toNat_zero, List.drop_zero, List.append_eq, Nat.le_refl, Int.le_refl, true_and, and_true, zero_le_one, if_true, prod_eta, Int.natCast_zero]
def F134.c_l0 (c102 : F102.E) (r_g13 : (List (Int)) → (List (Int)) → (List (Int)) → (Int) → (Int) → (Int) → Option (List (Int))) (x0 : List (Int)) (x1 : List (Int)) (x5 : List (Int)) (x6 : Int) (x7 : Int) : Option (List (Int)) :=
 bif (decide (x7 < ((List.length x0) : Int))) then
 if 0 ≤ x7 ∧ x7 < ((List.length x0) : Int) then
 bif (decide (x7 < ((List.length x1) : Int))) then
 if 0 ≤ x7 ∧ x7 < ((List.length x1) : Int) then
 bif (decide ((IntKind.i64.wrap ((IntKind.i64.wrap ((List.getD x0 (Int.toNat x7) (0 : Int)) - x6)) - (List.getD x1 (Int.toNat x7) (0 : Int)))) < (0 : Int))) then
 r_g13 x0 x1 x5 (1 : Int) x7 (IntKind.i64.wrap ((IntKind.i64.wrap ((IntKind.i64.wrap ((List.getD x0 (Int.toNat x7) (0 : Int)) - x6)) - (List.getD x1 (Int.toNat x7) (0 : Int)))) + (65536 : Int)))
 else
 r_g13 x0 x1 x5 (0 : Int) x7 (IntKind.i64.wrap ((IntKind.i64.wrap ((List.getD x0 (Int.toNat x7) (0 : Int)) - x6)) - (List.getD x1 (Int.toNat x7) (0 : Int))))
 else none
 else
 bif (decide ((IntKind.i64.wrap ((List.getD x0 (Int.toNat x7) (0 : Int)) - x6)) < (0 : Int))) then
 r_g13 x0 x1 x5 (1 : Int) x7 (IntKind.i64.wrap ((IntKind.i64.wrap ((List.getD x0 (Int.toNat x7) (0 : Int)) - x6)) + (65536 : Int)))
 else
 r_g13 x0 x1 x5 (0 : Int) x7 (IntKind.i64.wrap ((List.getD x0 (Int.toNat x7) (0 : Int)) - x6))
 else none
 else
 (c102 x5).bind fun y1 =>
 some y1
theorem F134.q_l0 (c102 : F102.E) (r_g13 : (List (Int)) → (List (Int)) → (List (Int)) → (Int) → (Int) → (Int) → Option (List (Int))) (x0 : List (Int)) (x1 : List (Int)) (x5 : List (Int)) (x6 : Int) (x7 : Int) : F134.b_l0 c102 r_g13 x0 x1 x5 x6 x7 = F134.c_l0 c102 r_g13 x0 x1 x5 x6 x7 := by
  simp only [F134.b_l0, F134.c_l0, List.take_length, take_one, Nat.zero_add, Int.toNat_natCast, Int.toNat_zero, List.drop_zero, List.append_eq, Nat.le_refl, Int.le_refl, true_and, and_true, zero_le_one, if_true, prod_eta, Int.natCast_zero]
def F134.c_g13 (c102 : F102.E) (n_l0 : (List (Int)) → (List (Int)) → (List (Int)) → (Int) → (Int) → Option (List (Int))) (x0 : List (Int)) (x1 : List (Int)) (x5 : List (Int)) (x6 : Int) (x7 : Int) (x8 : Int) : Option (List (Int)) :=
 if ((List.length x5) + (List.length ([x8] : List Int))) * 8 ≤ LIM then
 n_l0 x0 x1 (x5 ++ ([x8] : List Int)) x6 (IntKind.i64.wrap (x7 + (1 : Int)))
 else none
theorem F134.q_g13 (c102 : F102.E) (n_l0 : (List (Int)) → (List (Int)) → (List (Int)) → (Int) → (Int) → Option (List (Int))) (x0 : List (Int)) (x1 : List (Int)) (x5 : List (Int)) (x6 : Int) (x7 : Int) (x8 : Int) : F134.b_g13 c102 n_l0 x0 x1 x5 x6 x7 x8 = F134.c_g13 c102 n_l0 x0 x1 x5 x6 x7 x8 := by
  simp only [F134.b_g13, F134.c_g13, List.take_length, take_one, Nat.zero_add, Int.toNat_natCast, Int.toNat_zero, List.drop_zero, List.append_eq, Nat.le_refl, Int.le_refl, true_and, and_true, zero_le_one, if_true, prod_eta, Int.natCast_zero]
def F134.g13 (c102 : F102.E) (k : Nat) (n_l0 : (List (Int)) → (List (Int)) → (List (Int)) → (Int) → (Int) → Option (List (Int))) (x0 : List (Int)) (x1 : List (Int)) (x5 : List (Int)) (x6 : Int) (x7 : Int) (x8 : Int) : Option (List (Int)) := gate k (F134.b_g13 c102 n_l0 x0 x1 x5 x6 x7 x8)
def F134.l0 (c102 : F102.E) (k : Nat)  : Nat → (List (Int)) → (List (Int)) → (List (Int)) → (Int) → (Int) → Option (List (Int))
  | 0, _, _, _, _, _ => none
  | n + 1, x0, x1, x5, x6, x7 => F134.b_l0 c102 (F134.g13 c102 k (fun x0 x1 x5 x6 x7 => F134.l0 c102 k  n x0 x1 x5 x6 x7)) x0 x1 x5 x6 x7
def F134.f (c102 : F102.E) (k : Nat) (a0 : List (Int)) (a1 : List (Int)) : Option (List (Int)) := F134.b c102 (F134.l0 c102 k k) a0 a1
noncomputable def F134.M_l0 (c102 : F102.E) (k n : Nat)  (s : St) : Option (List (Int)) := atLoop (F134.C c102) k n [1, 1, 1, 0, 1, 0] [] F134.code (F134.fin c102) s
noncomputable def F134.fr_l0 (x0 : List (Int)) (x1 : List (Int)) (x5 : List (Int)) (x6 : Int) (x7 : Int) : St := ⟨((((((List.replicate 41 V.un).set 0 (V.dat (.sl 3 (.int .i64)) x0)).set 1 (V.dat (.sl 3 (.int .i64)) x1)).set 5 (V.ref 500005 0 0 (List.length x5))).set 6 (V.dat (.int .i64) x6)).set 7 (V.dat (.int .i64) x7)), [⟨500005, 0, .arr 3 (.int .i64) x5⟩]⟩
noncomputable def F134.M_g13 (c102 : F102.E) (k : Nat) (m0 : Nat) (s : St) : Option (List (Int)) := atGate (F134.C c102) k [1, 1, 1, 0, 1, 0, 0, 1, 0, 0, 1, 1, 1, 1] [m0] F134.code (F134.fin c102) s
noncomputable def F134.fr_g13 (x0 : List (Int)) (x1 : List (Int)) (x5 : List (Int)) (x6 : Int) (x7 : Int) (x8 : Int) : St := ⟨(((((((List.replicate 41 V.un).set 0 (V.dat (.sl 3 (.int .i64)) x0)).set 1 (V.dat (.sl 3 (.int .i64)) x1)).set 5 (V.ref 500005 0 0 (List.length x5))).set 6 (V.dat (.int .i64) x6)).set 7 (V.dat (.int .i64) x7)).set 8 (V.dat (.int .i64) x8)), [⟨500005, 0, .arr 3 (.int .i64) x5⟩]⟩
theorem F134.r (c102 : F102.E) (k : Nat) (a0 : List (Int)) (a1 : List (Int)) : fn (F134.C c102) k Tryz.f134 F134.A F134.R (a0, a1) = F134.b c102 (fun x0 x1 x5 x6 x7 => F134.M_l0 c102 k k  (F134.fr_l0 x0 x1 x5 x6 x7)) a0 a1 := by kernel_rfl
theorem F134.z_l0 (c102 : F102.E) (k : Nat)  (s : St) : F134.M_l0 c102 k 0  s = none := by kernel_rfl
theorem F134.r_l0 (c102 : F102.E) (k n : Nat)  (x0 : List (Int)) (x1 : List (Int)) (x5 : List (Int)) (x6 : Int) (x7 : Int) : F134.M_l0 c102 k (n + 1)  (F134.fr_l0 x0 x1 x5 x6 x7) = F134.b_l0 c102 (fun x0 x1 x5 x6 x7 x8 => F134.M_g13 c102 k  n (F134.fr_g13 x0 x1 x5 x6 x7 x8)) x0 x1 x5 x6 x7 := by kernel_rfl
theorem F134.r_g13 (c102 : F102.E) (k : Nat) (m0 : Nat) (x0 : List (Int)) (x1 : List (Int)) (x5 : List (Int)) (x6 : Int) (x7 : Int) (x8 : Int) : F134.M_g13 c102 k m0 (F134.fr_g13 x0 x1 x5 x6 x7 x8) = gate k (F134.b_g13 c102 (fun x0 x1 x5 x6 x7 => F134.M_l0 c102 k m0  (F134.fr_l0 x0 x1 x5 x6 x7)) x0 x1 x5 x6 x7 x8) := by kernel_rfl
theorem F134.e_g13 (c102 : F102.E) (k : Nat) (m0 : Nat) (x0 : List (Int)) (x1 : List (Int)) (x5 : List (Int)) (x6 : Int) (x7 : Int) (x8 : Int) : F134.M_g13 c102 k m0 (F134.fr_g13 x0 x1 x5 x6 x7 x8) = F134.g13 c102 k (fun x0 x1 x5 x6 x7 => F134.M_l0 c102 k m0  (F134.fr_l0 x0 x1 x5 x6 x7)) x0 x1 x5 x6 x7 x8 := by
  rw [F134.r_g13]
  rfl
theorem F134.e_l0 (c102 : F102.E) (k n : Nat)  (x0 : List (Int)) (x1 : List (Int)) (x5 : List (Int)) (x6 : Int) (x7 : Int) : F134.M_l0 c102 k n  (F134.fr_l0 x0 x1 x5 x6 x7) = F134.l0 c102 k  n x0 x1 x5 x6 x7 := by
  induction n generalizing x0 x1 x5 x6 x7 with
  | zero => rw [F134.z_l0]; rfl
  | succ n ih =>
    rw [F134.r_l0]
    simp only [F134.e_g13, ih]
    rfl
theorem F134.e (c102 : F102.E) (k : Nat) (a0 : List (Int)) (a1 : List (Int)) : fn (F134.C c102) k Tryz.f134 F134.A F134.R (a0, a1) = F134.f c102 k a0 a1 := by
  rw [F134.r]
  simp only [F134.e_l0]
  rfl
theorem F134.ty (c102 : F102.E) : TyOk Tryz.prog (F134.C c102) := tyOk_of (by kernel_rfl)
def F134.u (k : Nat) : F134.E := fun y => F134.f (F102.u k) k y.1 y.2
theorem F134.sound (k : Nat) : Sound Tryz.prog ⟨134, F134.A, F134.R, F134.u k⟩ := by
  have h := fn_sound (k := k) («as» := F134.A) (rs := F134.R) (F134.ty (F102.u k)) (fun E h => by
    simp only [F134.C, List.mem_cons, List.not_mem_nil, or_false] at h
    rcases h with rfl
    · exact F102.sound k) mixed Tryz.func134 (by kernel_rfl) (by kernel_rfl)
  have e : fn (F134.C (F102.u k)) k Tryz.f134 F134.A F134.R = F134.u k := by
    funext y
    exact F134.e (F102.u k) k y.1 y.2
  rw [e] at h
  exact h
/-! ### brindlewood/brindlewoodref3.Plus: f135 -/
abbrev F135.A : List Sh := [(.d (.sl 3 (.int .i64))), (.d (.sl 3 (.int .i64)))]
abbrev F135.R : List Sh := [(.d (.sl 3 (.int .i64)))]
abbrev F135.E : Type := ((List (Int)) × (List (Int))) → Option (List (Int))
def F135.C (c102 : F102.E) : Ctx := { ty := [(3, (.int .i64)), (74, (.sl 3 (.int .i64)))], nf := [], by_ := [(3, 8)], env := [⟨102, F102.A, F102.R, c102⟩], spec := [(0, [.d 0 (.sl 3 (.int .i64)), .d 1 (.sl 3 (.int .i64)), .o 5 500005 3 (.int .i64), .d 6 (.int .i64), .d 7 (.int .i64)]), (100007, [.d 0 (.sl 3 (.int .i64)), .d 1 (.sl 3 (.int .i64)), .o 5 500005 3 (.int .i64), .d 6 (.int .i64), .d 7 (.int .i64)]), (100009, [.d 0 (.sl 3 (.int .i64)), .d 1 (.sl 3 (.int .i64)), .o 5 500005 3 (.int .i64), .d 6 (.int .i64), .d 7 (.int .i64)]), (100010, [.d 0 (.sl 3 (.int .i64)), .d 1 (.sl 3 (.int .i64)), .o 5 500005 3 (.int .i64), .d 6 (.int .i64), .d 7 (.int .i64)])] }
noncomputable def F135.code : Code := Func.code Tryz.f135
noncomputable def F135.fin (c102 : F102.E) := kfin (F135.C c102) Tryz.f135 F135.A F135.R
def F135.b (c102 : F102.E) (r_l0 : (List (Int)) → (List (Int)) → (List (Int)) → (Int) → (Int) → Option (List (Int))) (a0 : List (Int)) (a1 : List (Int)) : Option (List (Int)) :=
 r_l0 a0 a1 ([] : List (Int)) (0 : Int) (0 : Int)
def F135.b_l0 (c102 : F102.E) (r_g7 : (List (Int)) → (List (Int)) → (List (Int)) → (Int) → (Int) → Option (List (Int))) (r_g9 : (List (Int)) → (List (Int)) → (List (Int)) → (Int) → (Int) → Option (List (Int))) (r_g10 : (List (Int)) → (List (Int)) → (List (Int)) → (Int) → (Int) → Option (List (Int))) (x0 : List (Int)) (x1 : List (Int)) (x5 : List (Int)) (x6 : Int) (x7 : Int) : Option (List (Int)) :=
 bif (decide (x7 < ((List.length x0) : Int))) then
 bif (decide (x7 < ((List.length x0) : Int))) then
 r_g7 x0 x1 (List.take (List.length x5) x5) x6 x7
 else
 bif (decide (x7 < ((List.length x1) : Int))) then
 r_g9 x0 x1 (List.take (List.length x5) x5) x6 x7
 else
 r_g10 x0 x1 (List.take (List.length x5) x5) x6 x7
 else
 bif (decide (x7 < ((List.length x1) : Int))) then
 bif (decide (x7 < ((List.length x0) : Int))) then
 r_g7 x0 x1 (List.take (List.length x5) x5) x6 x7
 else
 bif (decide (x7 < ((List.length x1) : Int))) then
 r_g9 x0 x1 (List.take (List.length x5) x5) x6 x7
 else
 r_g10 x0 x1 (List.take (List.length x5) x5) x6 x7
 else
 bif (decide (x6 > (0 : Int))) then
 bif (decide (x7 < ((List.length x0) : Int))) then
 r_g7 x0 x1 (List.take (List.length x5) x5) x6 x7
 else
 bif (decide (x7 < ((List.length x1) : Int))) then
 r_g9 x0 x1 (List.take (List.length x5) x5) x6 x7
 else
 r_g10 x0 x1 (List.take (List.length x5) x5) x6 x7
 else
 (c102 (List.take (List.length x5) x5)).bind fun y1 =>
 some y1
def F135.b_g7 (c102 : F102.E) (r_g9 : (List (Int)) → (List (Int)) → (List (Int)) → (Int) → (Int) → Option (List (Int))) (r_g10 : (List (Int)) → (List (Int)) → (List (Int)) → (Int) → (Int) → Option (List (Int))) (x0 : List (Int)) (x1 : List (Int)) (x5 : List (Int)) (x6 : Int) (x7 : Int) : Option (List (Int)) :=
 if 0 ≤ x7 ∧ x7 < ((List.length x0) : Int) then
 bif (decide (x7 < ((List.length x1) : Int))) then
 r_g9 x0 x1 (List.take (List.length x5) x5) (IntKind.i64.wrap (x6 + (List.getD x0 (Int.toNat x7) (0 : Int)))) x7
 else
 r_g10 x0 x1 (List.take (List.length x5) x5) (IntKind.i64.wrap (x6 + (List.getD x0 (Int.toNat x7) (0 : Int)))) x7
 else none
def F135.b_g9 (c102 : F102.E) (r_g10 : (List (Int)) → (List (Int)) → (List (Int)) → (Int) → (Int) → Option (List (Int))) (x0 : List (Int)) (x1 : List (Int)) (x5 : List (Int)) (x6 : Int) (x7 : Int) : Option (List (Int)) :=
 if 0 ≤ x7 ∧ x7 < ((List.length x1) : Int) then
 r_g10 x0 x1 (List.take (List.length x5) x5) (IntKind.i64.wrap (x6 + (List.getD x1 (Int.toNat x7) (0 : Int)))) x7
 else none
def F135.b_g10 (c102 : F102.E) (n_l0 : (List (Int)) → (List (Int)) → (List (Int)) → (Int) → (Int) → Option (List (Int))) (x0 : List (Int)) (x1 : List (Int)) (x5 : List (Int)) (x6 : Int) (x7 : Int) : Option (List (Int)) :=
 if (List.length x5) ≤ (List.length x5) ∧ ((List.length x5) + (List.length (List.take 1 ([(Int.tmod x6 (65536 : Int))] : List (Int))))) * 8 ≤ LIM then
 n_l0 x0 x1 (List.take (List.length (List.append (List.take (List.length x5) x5) (List.take 1 ([(Int.tmod x6 (65536 : Int))] : List (Int))))) (List.append (List.take (List.length x5) x5) (List.take 1 ([(Int.tmod x6 (65536 : Int))] : List (Int))))) (IntKind.i64.wrap (Int.tdiv x6 (65536 : Int))) (IntKind.i64.wrap (x7 + (1 : Int)))
 else none
def F135.c (c102 : F102.E) (r_l0 : (List (Int)) → (List (Int)) → (List (Int)) → (Int) → (Int) → Option (List (Int))) (a0 : List (Int)) (a1 : List (Int)) : Option (List (Int)) :=
 r_l0 a0 a1 ([] : List Int) (0 : Int) (0 : Int)
theorem F135.q (c102 : F102.E) (r_l0 : (List (Int)) → (List (Int)) → (List (Int)) → (Int) → (Int) → Option (List (Int))) (a0 : List (Int)) (a1 : List (Int)) : F135.b c102 r_l0 a0 a1 = F135.c c102 r_l0 a0 a1 := by
  simp only [F135.b, F135.c, List.take_length, take_one, Nat.zero_add, Int.toNat_natCast, Int.toNat_zero, List.drop_zero, List.append_eq, Nat.le_refl, Int.le_refl, true_and, and_true, zero_le_one, if_true, prod_eta, Int.natCast_zero]
def F135.c_l0 (c102 : F102.E) (r_g7 : (List (Int)) → (List (Int)) → (List (Int)) → (Int) → (Int) → Option (List (Int))) (r_g9 : (List (Int)) → (List (Int)) → (List (Int)) → (Int) → (Int) → Option (List (Int))) (r_g10 : (List (Int)) → (List (Int)) → (List (Int)) → (Int) → (Int) → Option (List (Int))) (x0 : List (Int)) (x1 : List (Int)) (x5 : List (Int)) (x6 : Int) (x7 : Int) : Option (List (Int)) :=
 bif (decide (x7 < ((List.length x0) : Int))) then
 bif (decide (x7 < ((List.length x0) : Int))) then
 r_g7 x0 x1 x5 x6 x7
 else
 bif (decide (x7 < ((List.length x1) : Int))) then
 r_g9 x0 x1 x5 x6 x7
 else
 r_g10 x0 x1 x5 x6 x7
 else
 bif (decide (x7 < ((List.length x1) : Int))) then
 bif (decide (x7 < ((List.length x0) : Int))) then
 r_g7 x0 x1 x5 x6 x7
 else
 bif (decide (x7 < ((List.length x1) : Int))) then
 r_g9 x0 x1 x5 x6 x7
 else
 r_g10 x0 x1 x5 x6 x7
 else
 bif (decide (x6 > (0 : Int))) then
 bif (decide (x7 < ((List.length x0) : Int))) then
 r_g7 x0 x1 x5 x6 x7
 else
 bif (decide (x7 < ((List.length x1) : Int))) then
 r_g9 x0 x1 x5 x6 x7
 else
 r_g10 x0 x1 x5 x6 x7
 else
 (c102 x5).bind fun y1 =>
 some y1
theorem F135.q_l0 (c102 : F102.E) (r_g7 : (List (Int)) → (List (Int)) → (List (Int)) → (Int) → (Int) → Option (List (Int))) (r_g9 : (List (Int)) → (List (Int)) → (List (Int)) → (Int) → (Int) → Option (List (Int))) (r_g10 : (List (Int)) → (List (Int)) → (List (Int)) → (Int) → (Int) → Option (List (Int))) (x0 : List (Int)) (x1 : List (Int)) (x5 : List (Int)) (x6 : Int) (x7 : Int) : F135.b_l0 c102 r_g7 r_g9 r_g10 x0 x1 x5 x6 x7 = F135.c_l0 c102 r_g7 r_g9 r_g10 x0 x1 x5 x6 x7 := by
  simp only [F135.b_l0, F135.c_l0, List.take_length, take_one, Nat.zero_add, Int.toNat_natCast, Int.toNat_zero, List.drop_zero, List.append_eq, Nat.le_refl, Int.le_refl, true_and, and_true, zero_le_one, if_true, prod_eta, Int.natCast_zero]
def F135.c_g7 (c102 : F102.E) (r_g9 : (List (Int)) → (List (Int)) → (List (Int)) → (Int) → (Int) → Option (List (Int))) (r_g10 : (List (Int)) → (List (Int)) → (List (Int)) → (Int) → (Int) → Option (List (Int))) (x0 : List (Int)) (x1 : List (Int)) (x5 : List (Int)) (x6 : Int) (x7 : Int) : Option (List (Int)) :=
 if 0 ≤ x7 ∧ x7 < ((List.length x0) : Int) then
 bif (decide (x7 < ((List.length x1) : Int))) then
 r_g9 x0 x1 x5 (IntKind.i64.wrap (x6 + (List.getD x0 (Int.toNat x7) (0 : Int)))) x7
 else
 r_g10 x0 x1 x5 (IntKind.i64.wrap (x6 + (List.getD x0 (Int.toNat x7) (0 : Int)))) x7
 else none
theorem F135.q_g7 (c102 : F102.E) (r_g9 : (List (Int)) → (List (Int)) → (List (Int)) → (Int) → (Int) → Option (List (Int))) (r_g10 : (List (Int)) → (List (Int)) → (List (Int)) → (Int) → (Int) → Option (List (Int))) (x0 : List (Int)) (x1 : List (Int)) (x5 : List (Int)) (x6 : Int) (x7 : Int) : F135.b_g7 c102 r_g9 r_g10 x0 x1 x5 x6 x7 = F135.c_g7 c102 r_g9 r_g10 x0 x1 x5 x6 x7 := by
  simp only [F135.b_g7, F135.c_g7, List.take_length, take_one, Nat.zero_add, Int.toNat_natCast, Int.toNat_zero, List.drop_zero, List.append_eq, Nat.le_refl, Int.le_refl, true_and, and_true, zero_le_one, if_true, prod_eta, Int.natCast_zero]
def F135.c_g9 (c102 : F102.E) (r_g10 : (List (Int)) → (List (Int)) → (List (Int)) → (Int) → (Int) → Option (List (Int))) (x0 : List (Int)) (x1 : List (Int)) (x5 : List (Int)) (x6 : Int) (x7 : Int) : Option (List (Int)) :=
 if 0 ≤ x7 ∧ x7 < ((List.length x1) : Int) then
 r_g10 x0 x1 x5 (IntKind.i64.wrap (x6 + (List.getD x1 (Int.toNat x7) (0 : Int)))) x7
 else none
theorem F135.q_g9 (c102 : F102.E) (r_g10 : (List (Int)) → (List (Int)) → (List (Int)) → (Int) → (Int) → Option (List (Int))) (x0 : List (Int)) (x1 : List (Int)) (x5 : List (Int)) (x6 : Int) (x7 : Int) : F135.b_g9 c102 r_g10 x0 x1 x5 x6 x7 = F135.c_g9 c102 r_g10 x0 x1 x5 x6 x7 := by
  simp only [F135.b_g9, F135.c_g9, List.take_length, take_one, Nat.zero_add, Int.toNat_natCast, Int.toNat_zero, List.drop_zero, List.append_eq, Nat.le_refl, Int.le_refl, true_and, and_true, zero_le_one, if_true, prod_eta, Int.natCast_zero]
def F135.c_g10 (c102 : F102.E) (n_l0 : (List (Int)) → (List (Int)) → (List (Int)) → (Int) → (Int) → Option (List (Int))) (x0 : List (Int)) (x1 : List (Int)) (x5 : List (Int)) (x6 : Int) (x7 : Int) : Option (List (Int)) :=
 if ((List.length x5) + (List.length ([(Int.tmod x6 (65536 : Int))] : List Int))) * 8 ≤ LIM then
 n_l0 x0 x1 (x5 ++ ([(Int.tmod x6 (65536 : Int))] : List Int)) (IntKind.i64.wrap (Int.tdiv x6 (65536 : Int))) (IntKind.i64.wrap (x7 + (1 : Int)))
 else none
theorem F135.q_g10 (c102 : F102.E) (n_l0 : (List (Int)) → (List (Int)) → (List (Int)) → (Int) → (Int) → Option (List (Int))) (x0 : List (Int)) (x1 : List (Int)) (x5 : List (Int)) (x6 : Int) (x7 : Int) : F135.b_g10 c102 n_l0 x0 x1 x5 x6 x7 = F135.c_g10 c102 n_l0 x0 x1 x5 x6 x7 := by
  simp only [F135.b_g10, F135.c_g10, List.take_length, take_one, Nat.zero_add, Int.toNat_natCast, Int.toNat_zero, List.drop_zero, List.append_eq, Nat.le_refl, Int.le_refl, true_and, and_true, zero_le_one, if_true, prod_eta, Int.natCast_zero]
def F135.g10 (c102 : F102.E) (k : Nat) (n_l0 : (List (Int)) → (List (Int)) → (List (Int)) → (Int) → (Int) → Option (List (Int))) (x0 : List (Int)) (x1 : List (Int)) (x5 : List (Int)) (x6 : Int) (x7 : Int) : Option (List (Int)) := gate k (F135.b_g10 c102 n_l0 x0 x1 x5 x6 x7)
def F135.g9 (c102 : F102.E) (k : Nat) (n_l0 : (List (Int)) → (List (Int)) → (List (Int)) → (Int) → (Int) → Option (List (Int))) (x0 : List (Int)) (x1 : List (Int)) (x5 : List (Int)) (x6 : Int) (x7 : Int) : Option (List (Int)) := gate k (F135.b_g9 c102 (F135.g10 c102 k n_l0) x0 x1 x5 x6 x7)
def F135.g7 (c102 : F102.E) (k : Nat) (n_l0 : (List (Int)) → (List (Int)) → (List (Int)) → (Int) → (Int) → Option (List (Int))) (x0 : List (Int)) (x1 : List (Int)) (x5 : List (Int)) (x6 : Int) (x7 : Int) : Option (List (Int)) := gate k (F135.b_g7 c102 (F135.g9 c102 k n_l0) (F135.g10 c102 k n_l0) x0 x1 x5 x6 x7)
def F135.l0 (c102 : F102.E) (k : Nat)  : Nat → (List (Int)) → (List (Int)) → (List (Int)) → (Int) → (Int) → Option (List (Int))
  | 0, _, _, _, _, _ => none
  | n + 1, x0, x1, x5, x6, x7 => F135.b_l0 c102 (F135.g7 c102 k (fun x0 x1 x5 x6 x7 => F135.l0 c102 k  n x0 x1 x5 x6 x7)) (F135.g9 c102 k (fun x0 x1 x5 x6 x7 => F135.l0 c102 k  n x0 x1 x5 x6 x7)) (F135.g10 c102 k (fun x0 x1 x5 x6 x7 => F135.l0 c102 k  n x0 x1 x5 x6 x7)) x0 x1 x5 x6 x7
def F135.f (c102 : F102.E) (k : Nat) (a0 : List (Int)) (a1 : List (Int)) : Option (List (Int)) := F135.b c102 (F135.l0 c102 k k) a0 a1
noncomputable def F135.M_l0 (c102 : F102.E) (k n : Nat)  (s : St) : Option (List (Int)) := atLoop (F135.C c102) k n [1, 1, 1, 0, 1, 0] [] F135.code (F135.fin c102) s
noncomputable def F135.fr_l0 (x0 : List (Int)) (x1 : List (Int)) (x5 : List (Int)) (x6 : Int) (x7 : Int) : St := ⟨((((((List.replicate 53 V.un).set 0 (V.dat (.sl 3 (.int .i64)) x0)).set 1 (V.dat (.sl 3 (.int .i64)) x1)).set 5 (V.ref 500005 0 0 (List.length x5))).set 6 (V.dat (.int .i64) x6)).set 7 (V.dat (.int .i64) x7)), [⟨500005, 0, .arr 3 (.int .i64) x5⟩]⟩
noncomputable def F135.M_g7 (c102 : F102.E) (k : Nat) (m0 : Nat) (s : St) : Option (List (Int)) := atGate (F135.C c102) k [1, 1, 1, 0, 1, 0, 0, 1, 0, 0, 0, 1, 0] [m0] F135.code (F135.fin c102) s
noncomputable def F135.fr_g7 (x0 : List (Int)) (x1 : List (Int)) (x5 : List (Int)) (x6 : Int) (x7 : Int) : St := ⟨((((((List.replicate 53 V.un).set 0 (V.dat (.sl 3 (.int .i64)) x0)).set 1 (V.dat (.sl 3 (.int .i64)) x1)).set 5 (V.ref 500005 0 0 (List.length x5))).set 6 (V.dat (.int .i64) x6)).set 7 (V.dat (.int .i64) x7)), [⟨500005, 0, .arr 3 (.int .i64) x5⟩]⟩
noncomputable def F135.M_g9 (c102 : F102.E) (k : Nat) (m0 : Nat) (s : St) : Option (List (Int)) := atGate (F135.C c102) k [1, 1, 1, 0, 1, 0, 0, 1, 0, 0, 1, 0, 1, 0] [m0] F135.code (F135.fin c102) s
noncomputable def F135.fr_g9 (x0 : List (Int)) (x1 : List (Int)) (x5 : List (Int)) (x6 : Int) (x7 : Int) : St := ⟨((((((List.replicate 53 V.un).set 0 (V.dat (.sl 3 (.int .i64)) x0)).set 1 (V.dat (.sl 3 (.int .i64)) x1)).set 5 (V.ref 500005 0 0 (List.length x5))).set 6 (V.dat (.int .i64) x6)).set 7 (V.dat (.int .i64) x7)), [⟨500005, 0, .arr 3 (.int .i64) x5⟩]⟩
noncomputable def F135.M_g10 (c102 : F102.E) (k : Nat) (m0 : Nat) (s : St) : Option (List (Int)) := atGate (F135.C c102) k [1, 1, 1, 0, 1, 0, 0, 1, 0, 0, 1, 1, 0] [m0] F135.code (F135.fin c102) s
noncomputable def F135.fr_g10 (x0 : List (Int)) (x1 : List (Int)) (x5 : List (Int)) (x6 : Int) (x7 : Int) : St := ⟨((((((List.replicate 53 V.un).set 0 (V.dat (.sl 3 (.int .i64)) x0)).set 1 (V.dat (.sl 3 (.int .i64)) x1)).set 5 (V.ref 500005 0 0 (List.length x5))).set 6 (V.dat (.int .i64) x6)).set 7 (V.dat (.int .i64) x7)), [⟨500005, 0, .arr 3 (.int .i64) x5⟩]⟩
theorem F135.r (c102 : F102.E) (k : Nat) (a0 : List (Int)) (a1 : List (Int)) : fn (F135.C c102) k Tryz.f135 F135.A F135.R (a0, a1) = F135.b c102 (fun x0 x1 x5 x6 x7 => F135.M_l0 c102 k k  (F135.fr_l0 x0 x1 x5 x6 x7)) a0 a1 := by kernel_rfl
theorem F135.z_l0 (c102 : F102.E) (k : Nat)  (s : St) : F135.M_l0 c102 k 0  s = none := by kernel_rfl
theorem F135.r_l0 (c102 : F102.E) (k n : Nat)  (x0 : List (Int)) (x1 : List (Int)) (x5 : List (Int)) (x6 : Int) (x7 : Int) : F135.M_l0 c102 k (n + 1)  (F135.fr_l0 x0 x1 x5 x6 x7) = F135.b_l0 c102 (fun x0 x1 x5 x6 x7 => F135.M_g7 c102 k  n (F135.fr_g7 x0 x1 x5 x6 x7)) (fun x0 x1 x5 x6 x7 => F135.M_g9 c102 k  n (F135.fr_g9 x0 x1 x5 x6 x7)) (fun x0 x1 x5 x6 x7 => F135.M_g10 c102 k  n (F135.fr_g10 x0 x1 x5 x6 x7)) x0 x1 x5 x6 x7 := by kernel_rfl
theorem F135.r_g7 (c102 : F102.E) (k : Nat) (m0 : Nat) (x0 : List (Int)) (x1 : List (Int)) (x5 : List (Int)) (x6 : Int) (x7 : Int) : F135.M_g7 c102 k m0 (F135.fr_g7 x0 x1 x5 x6 x7) = gate k (F135.b_g7 c102 (fun x0 x1 x5 x6 x7 => F135.M_g9 c102 k  m0 (F135.fr_g9 x0 x1 x5 x6 x7)) (fun x0 x1 x5 x6 x7 => F135.M_g10 c102 k  m0 (F135.fr_g10 x0 x1 x5 x6 x7)) x0 x1 x5 x6 x7) := by kernel_rfl
theorem F135.r_g9 (c102 : F102.E) (k : Nat) (m0 : Nat) (x0 : List (Int)) (x1 : List (Int)) (x5 : List (Int)) (x6 : Int) (x7 : Int) : F135.M_g9 c102 k m0 (F135.fr_g9 x0 x1 x5 x6 x7) = gate k (F135.b_g9 c102 (fun x0 x1 x5 x6 x7 => F135.M_g10 c102 k  m0 (F135.fr_g10 x0 x1 x5 x6 x7)) x0 x1 x5 x6 x7) := by kernel_rfl
theorem F135.r_g10 (c102 : F102.E) (k : Nat) (m0 : Nat) (x0 : List (Int)) (x1 : List (Int)) (x5 : List (Int)) (x6 : Int) (x7 : Int) : F135.M_g10 c102 k m0 (F135.fr_g10 x0 x1 x5 x6 x7) = gate k (F135.b_g10 c102 (fun x0 x1 x5 x6 x7 => F135.M_l0 c102 k m0  (F135.fr_l0 x0 x1 x5 x6 x7)) x0 x1 x5 x6 x7) := by kernel_rfl
theorem F135.e_g10 (c102 : F102.E) (k : Nat) (m0 : Nat) (x0 : List (Int)) (x1 : List (Int)) (x5 : List (Int)) (x6 : Int) (x7 : Int) : F135.M_g10 c102 k m0 (F135.fr_g10 x0 x1 x5 x6 x7) = F135.g10 c102 k (fun x0 x1 x5 x6 x7 => F135.M_l0 c102 k m0  (F135.fr_l0 x0 x1 x5 x6 x7)) x0 x1 x5 x6 x7 := by
  rw [F135.r_g10]
  rfl
theorem F135.e_g9 (c102 : F102.E) (k : Nat) (m0 : Nat) (x0 : List (Int)) (x1 : List (Int)) (x5 : List (Int)) (x6 : Int) (x7 : Int) : F135.M_g9 c102 k m0 (F135.fr_g9 x0 x1 x5 x6 x7) = F135.g9 c102 k (fun x0 x1 x5 x6 x7 => F135.M_l0 c102 k m0  (F135.fr_l0 x0 x1 x5 x6 x7)) x0 x1 x5 x6 x7 := by
  rw [F135.r_g9]
  simp only [F135.e_g10]
  rfl
theorem F135.e_g7 (c102 : F102.E) (k : Nat) (m0 : Nat) (x0 : List (Int)) (x1 : List (Int)) (x5 : List (Int)) (x6 : Int) (x7 : Int) : F135.M_g7 c102 k m0 (F135.fr_g7 x0 x1 x5 x6 x7) = F135.g7 c102 k (fun x0 x1 x5 x6 x7 => F135.M_l0 c102 k m0  (F135.fr_l0 x0 x1 x5 x6 x7)) x0 x1 x5 x6 x7 := by
  rw [F135.r_g7]
  simp only [F135.e_g10, F135.e_g9]
  rfl
theorem F135.e_l0 (c102 : F102.E) (k n : Nat)  (x0 : List (Int)) (x1 : List (Int)) (x5 : List (Int)) (x6 : Int) (x7 : Int) : F135.M_l0 c102 k n  (F135.fr_l0 x0 x1 x5 x6 x7) = F135.l0 c102 k  n x0 x1 x5 x6 x7 := by
  induction n generalizing x0 x1 x5 x6 x7 with
  | zero => rw [F135.z_l0]; rfl
  | succ n ih =>
    rw [F135.r_l0]
    simp only [F135.e_g10, F135.e_g7, F135.e_g9, ih]
    rfl
theorem F135.e (c102 : F102.E) (k : Nat) (a0 : List (Int)) (a1 : List (Int)) : fn (F135.C c102) k Tryz.f135 F135.A F135.R (a0, a1) = F135.f c102 k a0 a1 := by
  rw [F135.r]
  simp only [F135.e_l0]
  rfl
theorem F135.ty (c102 : F102.E) : TyOk Tryz.prog (F135.C c102) := tyOk_of (by kernel_rfl)
def F135.u (k : Nat) : F135.E := fun y => F135.f (F102.u k) k y.1 y.2
theorem F135.sound (k : Nat) : Sound Tryz.prog ⟨135, F135.A, F135.R, F135.u k⟩ := by
  have h := fn_sound (k := k) («as» := F135.A) (rs := F135.R) (F135.ty (F102.u k)) (fun E h => by
    simp only [F135.C, List.mem_cons, List.not_mem_nil, or_false] at h
    rcases h with rfl
    · exact F102.sound k) mixed Tryz.func135 (by kernel_rfl) (by kernel_rfl)
  have e : fn (F135.C (F102.u k)) k Tryz.f135 F135.A F135.R = F135.u k := by
    funext y
    exact F135.e (F102.u k) k y.1 y.2
  rw [e] at h
  exact h
/-! ### brindlewood/brindlewoodref3.Double: f136 -/
abbrev F136.A : List Sh := [(.d (.sl 3 (.int .i64))), (.d .bool)]
abbrev F136.R : List Sh := [(.d (.sl 3 (.int .i64)))]
abbrev F136.E : Type := ((List (Int)) × (Bool)) → Option (List (Int))
def F136.C (c102 : F102.E) : Ctx := { ty := [(3, (.int .i64)), (74, (.sl 3 (.int .i64)))], nf := [], by_ := [(3, 8)], env := [⟨102, F102.A, F102.R, c102⟩], spec := [(0, [.d 0 (.sl 3 (.int .i64)), .d 5 (.int .i64), .o 6 500006 3 (.int .i64), .d 7 (.int .i64)])] }
noncomputable def F136.code : Code := Func.code Tryz.f136
noncomputable def F136.fin (c102 : F102.E) := kfin (F136.C c102) Tryz.f136 F136.A F136.R
def F136.b (c102 : F102.E) (r_l0 : (List (Int)) → (Int) → (List (Int)) → (Int) → Option (List (Int))) (a0 : List (Int)) (a1 : Bool) : Option (List (Int)) :=
 bif a1 then
 r_l0 a0 (1 : Int) ([] : List (Int)) (0 : Int)
 else
 r_l0 a0 (0 : Int) ([] : List (Int)) (0 : Int)
def F136.b_l0 (c102 : F102.E) (n_l0 : (List (Int)) → (Int) → (List (Int)) → (Int) → Option (List (Int))) (x0 : List (Int)) (x5 : Int) (x6 : List (Int)) (x7 : Int) : Option (List (Int)) :=
 bif (decide (x7 < ((List.length x0) : Int))) then
 if 0 ≤ x7 ∧ x7 < ((List.length x0) : Int) then
 if (List.length x6) ≤ (List.length x6) ∧ ((List.length x6) + (List.length (List.take 1 ([(Int.tmod (IntKind.i64.wrap ((IntKind.i64.wrap ((2 : Int) * (List.getD x0 (Int.toNat x7) (0 : Int)))) + x5)) (65536 : Int))] : List (Int))))) * 8 ≤ LIM then
 n_l0 x0 (IntKind.i64.wrap (Int.tdiv (IntKind.i64.wrap ((IntKind.i64.wrap ((2 : Int) * (List.getD x0 (Int.toNat x7) (0 : Int)))) + x5)) (65536 : Int))) (List.take (List.length (List.append (List.take (List.length x6) x6) (List.take 1 ([(Int.tmod (IntKind.i64.wrap ((IntKind.i64.wrap ((2 : Int) * (List.getD x0 (Int.toNat x7) (0 : Int)))) + x5)) (65536 : Int))] : List (Int))))) (List.append (List.take (List.length x6) x6) (List.take 1 ([(Int.tmod (IntKind.i64.wrap ((IntKind.i64.wrap ((2 : Int) * (List.getD x0 (Int.toNat x7) (0 : Int)))) + x5)) (65536 : Int))] : List (Int))))) (IntKind.i64.wrap (x7 + (1 : Int)))
 else none
 else none
 else
 bif (decide (x5 > (0 : Int))) then
 if (List.length x6) ≤ (List.length x6) ∧ ((List.length x6) + (List.length (List.take 1 ([x5] : List (Int))))) * 8 ≤ LIM then
 (c102 (List.take (List.length (List.append (List.take (List.length x6) x6) (List.take 1 ([x5] : List (Int))))) (List.append (List.take (List.length x6) x6) (List.take 1 ([x5] : List (Int)))))).bind fun y1 =>
 some y1
 else none
 else
 (c102 (List.take (List.length x6) x6)).bind fun y2 =>
 some y2
def F136.c (c102 : F102.E) (r_l0 : (List (Int)) → (Int) → (List (Int)) → (Int) → Option (List (Int))) (a0 : List (Int)) (a1 : Bool) : Option (List (Int)) :=
 bif a1 then
 r_l0 a0 (1 : Int) ([] : List Int) (0 : Int)
 else
 r_l0 a0 (0 : Int) ([] : List Int) (0 : Int)
theorem F136.q (c102 : F102.E) (r_l0 : (List (Int)) → (Int) → (List (Int)) → (Int) → Option (List (Int))) (a0 : List (Int)) (a1 : Bool) : F136.b c102 r_l0 a0 a1 = F136.c c102 r_l0 a0 a1 := by
  simp only [F136.b, F136.c, List.take_length, take_one, Nat.zero_add, Int.toNat_natCast, Int.toNat_zero, List.drop_zero, List.append_eq, Nat.le_refl, Int.le_refl, true_and, and_true, zero_le_one, if_true, prod_eta, Int.natCast_zero]
def F136.c_l0 (c102 : F102.E) (n_l0 : (List (Int)) → (Int) → (List (Int)) → (Int) → Option (List (Int))) (x0 : List (Int)) (x5 : Int) (x6 : List (Int)) (x7 : Int) : Option (List (Int)) :=
 bif (decide (x7 < ((List.length x0) : Int))) then
 if 0 ≤ x7 ∧ x7 < ((List.length x0) : Int) then
 if ((List.length x6) + (List.length ([(Int.tmod (IntKind.i64.wrap ((IntKind.i64.wrap ((2 : Int) * (List.getD x0 (Int.toNat x7) (0 : Int)))) + x5)) (65536 : Int))] : List Int))) * 8 ≤ LIM then
 n_l0 x0 (IntKind.i64.wrap (Int.tdiv (IntKind.i64.wrap ((IntKind.i64.wrap ((2 : Int) * (List.getD x0 (Int.toNat x7) (0 : Int)))) + x5)) (65536 : Int))) (x6 ++ ([(Int.tmod (IntKind.i64.wrap ((IntKind.i64.wrap ((2 : Int) * (List.getD x0 (Int.toNat x7) (0 : Int)))) + x5)) (65536 : Int))] : List Int)) (IntKind.i64.wrap (x7 + (1 : Int)))
 else none
 else none
 else
 bif (decide (x5 > (0 : Int))) then
 if ((List.length x6) + (List.length ([x5] : List Int))) * 8 ≤ LIM then
 (c102 (x6 ++ ([x5] : List Int))).bind fun y1 =>
 some y1
 else none
 else
 (c102 x6).bind fun y2 =>
 some y2
theorem F136.q_l0 (c102 : F102.E) (n_l0 : (List (Int)) → (Int) → (List (Int)) → (Int) → Option (List (Int))) (x0 : List (Int)) (x5 : Int) (x6 : List (Int)) (x7 : Int) : F136.b_l0 c102 n_l0 x0 x5 x6 x7 = F136.c_l0 c102 n_l0 x0 x5 x6 x7 := by
  simp only [F136.b_l0, F136.c_l0, List.take_length, take_one, Nat.zero_add, Int.toNat_natCast, Int.toNat_zero, List.drop_zero, List.append_eq, Nat.le_refl, Int.le_refl, true_and, and_true, zero_le_one, if_true, prod_eta, Int.natCast_zero]
def F136.l0 (c102 : F102.E) (k : Nat)  : Nat → (List (Int)) → (Int) → (List (Int)) → (Int) → Option (List (Int))
  | 0, _, _, _, _ => none
  | n + 1, x0, x5, x6, x7 => F136.b_l0 c102 (fun x0 x5 x6 x7 => F136.l0 c102 k  n x0 x5 x6 x7) x0 x5 x6 x7
def F136.f (c102 : F102.E) (k : Nat) (a0 : List (Int)) (a1 : Bool) : Option (List (Int)) := F136.b c102 (F136.l0 c102 k k) a0 a1
noncomputable def F136.M_l0 (c102 : F102.E) (k n : Nat)  (s : St) : Option (List (Int)) := atLoop (F136.C c102) k n [1, 1, 1, 1, 0, 1, 0] [] F136.code (F136.fin c102) s
noncomputable def F136.fr_l0 (x0 : List (Int)) (x5 : Int) (x6 : List (Int)) (x7 : Int) : St := ⟨(((((List.replicate 38 V.un).set 0 (V.dat (.sl 3 (.int .i64)) x0)).set 5 (V.dat (.int .i64) x5)).set 6 (V.ref 500006 0 0 (List.length x6))).set 7 (V.dat (.int .i64) x7)), [⟨500006, 0, .arr 3 (.int .i64) x6⟩]⟩
theorem F136.r (c102 : F102.E) (k : Nat) (a0 : List (Int)) (a1 : Bool) : fn (F136.C c102) k Tryz.f136 F136.A F136.R (a0, a1) = F136.b c102 (fun x0 x5 x6 x7 => F136.M_l0 c102 k k  (F136.fr_l0 x0 x5 x6 x7)) a0 a1 := by kernel_rfl
theorem F136.z_l0 (c102 : F102.E) (k : Nat)  (s : St) : F136.M_l0 c102 k 0  s = none := by kernel_rfl
theorem F136.r_l0 (c102 : F102.E) (k n : Nat)  (x0 : List (Int)) (x5 : Int) (x6 : List (Int)) (x7 : Int) : F136.M_l0 c102 k (n + 1)  (F136.fr_l0 x0 x5 x6 x7) = F136.b_l0 c102 (fun x0 x5 x6 x7 => F136.M_l0 c102 k n  (F136.fr_l0 x0 x5 x6 x7)) x0 x5 x6 x7 := by kernel_rfl
theorem F136.e_l0 (c102 : F102.E) (k n : Nat)  (x0 : List (Int)) (x5 : Int) (x6 : List (Int)) (x7 : Int) : F136.M_l0 c102 k n  (F136.fr_l0 x0 x5 x6 x7) = F136.l0 c102 k  n x0 x5 x6 x7 := by
  induction n generalizing x0 x5 x6 x7 with
  | zero => rw [F136.z_l0]; rfl
  | succ n ih =>
    rw [F136.r_l0]
    simp only [ih]
    rfl
theorem F136.e (c102 : F102.E) (k : Nat) (a0 : List (Int)) (a1 : Bool) : fn (F136.C c102) k Tryz.f136 F136.A F136.R (a0, a1) = F136.f c102 k a0 a1 := by
  rw [F136.r]
  simp only [F136.e_l0]
  rfl
theorem F136.ty (c102 : F102.E) : TyOk Tryz.prog (F136.C c102) := tyOk_of (by kernel_rfl)
def F136.u (k : Nat) : F136.E := fun y => F136.f (F102.u k) k y.1 y.2
theorem F136.sound (k : Nat) : Sound Tryz.prog ⟨136, F136.A, F136.R, F136.u k⟩ := by
  have h := fn_sound (k := k) («as» := F136.A) (rs := F136.R) (F136.ty (F102.u k)) (fun E h => by
    simp only [F136.C, List.mem_cons, List.not_mem_nil, or_false] at h
    rcases h with rfl
    · exact F102.sound k) mixed Tryz.func136 (by kernel_rfl) (by kernel_rfl)
  have e : fn (F136.C (F102.u k)) k Tryz.f136 F136.A F136.R = F136.u k := by
    funext y
    exact F136.e (F102.u k) k y.1 y.2
  rw [e] at h
  exact h
/-! ### brindlewood/brindlewoodref3.Common: f118 -/
abbrev F118.A : List Sh := [(.d (.sl 3 (.int .i64))), (.d (.sl 3 (.int .i64)))]
abbrev F118.R : List Sh := [(.d (.sl 3 (.int .i64)))]
abbrev F118.E : Type := ((List (Int)) × (List (Int))) → Option (List (Int))
def F118.C (c133 : F133.E) (c117 : F117.E) (c134 : F134.E) (c135 : F135.E) (c136 : F136.E) : Ctx := { ty := [(3, (.int .i64)), (74, (.sl 3 (.int .i64)))], nf := [], by_ := [(3, 8)], env := [⟨133, F133.A, F133.R, c133⟩, ⟨117, F117.A, F117.R, c117⟩, ⟨134, F134.A, F134.R, c134⟩, ⟨135, F135.A, F135.R, c135⟩, ⟨136, F136.A, F136.R, c136⟩], spec := [(0, [.d 0 (.sl 3 (.int .i64)), .d 1 (.sl 3 (.int .i64)), .d 5 (.int .i64)]), (100008, [.d 0 (.sl 3 (.int .i64)), .d 1 (.sl 3 (.int .i64)), .d 5 (.int .i64)]), (3, [.d 5 (.int .i64), .d 6 (.sl 3 (.int .i64))])] }
noncomputable def F118.code : Code := Func.code Tryz.f118
noncomputable def F118.fin (c133 : F133.E) (c117 : F117.E) (c134 : F134.E) (c135 : F135.E) (c136 : F136.E) := kfin (F118.C c133 c117 c134 c135 c136) Tryz.f118 F118.A F118.R
def F118.b (c133 : F133.E) (c117 : F117.E) (c134 : F134.E) (c135 : F135.E) (c136 : F136.E) (r_l0 : (List (Int)) → (List (Int)) → (Int) → Option (List (Int))) (a0 : List (Int)) (a1 : List (Int)) : Option (List (Int)) :=
 r_l0 a0 a1 (0 : Int)
def F118.b_l0 (c133 : F133.E) (c117 : F117.E) (c134 : F134.E) (c135 : F135.E) (c136 : F136.E) (n_l0 : (List (Int)) → (List (Int)) → (Int) → Option (List (Int))) (r_g8 : (List (Int)) → (List (Int)) → (Int) → Option (List (Int))) (r_l3 : (Int) → (List (Int)) → Option (List (Int))) (x0 : List (Int)) (x1 : List (Int)) (x5 : Int) : Option (List (Int)) :=
 bif (decide (((List.length x0) : Int) > (0 : Int))) then
 bif (decide (((List.length x1) : Int) > (0 : Int))) then
 if 0 ≤ (0 : Int) ∧ (0 : Int) < ((List.length x0) : Int) then
 bif ((Int.tmod (List.getD x0 (Int.toNat (0 : Int)) (0 : Int)) (2 : Int)) == (0 : Int)) then
 if 0 ≤ (0 : Int) ∧ (0 : Int) < ((List.length x1) : Int) then
 bif ((Int.tmod (List.getD x1 (Int.toNat (0 : Int)) (0 : Int)) (2 : Int)) == (0 : Int)) then
 (c133 (x0, (2 : Int))).bind fun y1 =>
 (c133 (x1, (2 : Int))).bind fun y2 =>
 n_l0 y1.1 y2.1 (IntKind.i64.wrap (x5 + (1 : Int)))
 else
 r_g8 x0 x1 x5
 else none
 else
 r_g8 x0 x1 x5
 else none
 else
 (c135 (x0, x1)).bind fun y8 =>
 r_l3 x5 y8
 else
 (c135 (x0, x1)).bind fun y10 =>
 r_l3 x5 y10
def F118.b_g8 (c133 : F133.E) (c117 : F117.E) (c134 : F134.E) (c135 : F135.E) (c136 : F136.E) (n_l0 : (List (Int)) → (List (Int)) → (Int) → Option (List (Int))) (x0 : List (Int)) (x1 : List (Int)) (x5 : Int) : Option (List (Int)) :=
 if 0 ≤ (0 : Int) ∧ (0 : Int) < ((List.length x0) : Int) then
 bif ((Int.tmod (List.getD x0 (Int.toNat (0 : Int)) (0 : Int)) (2 : Int)) == (0 : Int)) then
 (c133 (x0, (2 : Int))).bind fun y3 =>
 n_l0 y3.1 x1 x5
 else
 if 0 ≤ (0 : Int) ∧ (0 : Int) < ((List.length x1) : Int) then
 bif ((Int.tmod (List.getD x1 (Int.toNat (0 : Int)) (0 : Int)) (2 : Int)) == (0 : Int)) then
 (c133 (x1, (2 : Int))).bind fun y4 =>
 n_l0 x0 y4.1 x5
 else
 (c117 (x0, x1)).bind fun y5 =>
 bif (decide (y5 ≥ (0 : Int))) then
 (c134 (x0, x1)).bind fun y6 =>
 n_l0 y6 x1 x5
 else
 (c134 (x1, x0)).bind fun y7 =>
 n_l0 x0 y7 x5
 else none
 else none
def F118.b_l3 (c133 : F133.E) (c117 : F117.E) (c134 : F134.E) (c135 : F135.E) (c136 : F136.E) (n_l3 : (Int) → (List (Int)) → Option (List (Int))) (x5 : Int) (x6 : List (Int)) : Option (List (Int)) :=
 bif (decide (x5 > (0 : Int))) then
 (c136 (x6, false)).bind fun y9 =>
 n_l3 (IntKind.i64.wrap (x5 - (1 : Int))) y9
 else
 some x6
def F118.c_l0 (c133 : F133.E) (c117 : F117.E) (c134 : F134.E) (c135 : F135.E) (c136 : F136.E) (n_l0 : (List (Int)) → (List (Int)) → (Int) → Option (List (Int))) (r_g8 : (List (Int)) → (List (Int)) → (Int) → Option (List (Int))) (r_l3 : (Int) → (List (Int)) → Option (List (Int))) (x0 : List (Int)) (x1 : List (Int)) (x5 : Int) : Option (List (Int)) :=
 bif (decide (((List.length x0) : Int) > (0 : Int))) then
 bif (decide (((List.length x1) : Int) > (0 : Int))) then
 if (0 : Int) < ((List.length x0) : Int) then
 bif ((Int.tmod (List.getD x0 0 (0 : Int)) (2 : Int)) == (0 : Int)) then
 if (0 : Int) < ((List.length x1) : Int) then
 bif ((Int.tmod (List.getD x1 0 (0 : Int)) (2 : Int)) == (0 : Int)) then
 (c133 (x0, (2 : Int))).bind fun y1 =>
 (c133 (x1, (2 : Int))).bind fun y2 =>
 n_l0 y1.1 y2.1 (IntKind.i64.wrap (x5 + (1 : Int)))
 else
 r_g8 x0 x1 x5
 else none
 else
 r_g8 x0 x1 x5
 else none
 else
 (c135 (x0, x1)).bind fun y8 =>
 r_l3 x5 y8
 else
 (c135 (x0, x1)).bind fun y10 =>
 r_l3 x5 y10
theorem F118.q_l0 (c133 : F133.E) (c117 : F117.E) (c134 : F134.E) (c135 : F135.E) (c136 : F136.E) (n_l0 : (List (Int)) → (List (Int)) → (Int) → Option (List (Int))) (r_g8 : (List (Int)) → (List (Int)) → (Int) → Option (List (Int))) (r_l3 : (Int) → (List (Int)) → Option (List (Int))) (x0 : List (Int)) (x1 : List (Int)) (x5 : Int) : F118.b_l0 c133 c117 c134 c135 c136 n_l0 r_g8 r_l3 x0 x1 x5 = F118.c_l0 c133 c117 c134 c135 c136 n_l0 r_g8 r_l3 x0 x1 x5 := by
  simp only [F118.b_l0, F118.c_l0, List.take_length, take_one, Nat.zero_add, Int.toNat_natCast, Int.toNat_zero, List.drop_zero, List.append_eq, Nat.le_refl, Int.le_refl, true_and, and_true, zero_le_one, if_true, prod_eta, Int.natCast_zero]
def F118.c_g8 (c133 : F133.E) (c117 : F117.E) (c134 : F134.E) (c135 : F135.E) (c136 : F136.E) (n_l0 : (List (Int)) → (List (Int)) → (Int) → Option (List (Int))) (x0 : List (Int)) (x1 : List (Int)) (x5 : Int) : Option (List (Int)) :=
 if (0 : Int) < ((List.length x0) : Int) then
 bif ((Int.tmod (List.getD x0 0 (0 : Int)) (2 : Int)) == (0 : Int)) then
 (c133 (x0, (2 : Int))).bind fun y3 =>
 n_l0 y3.1 x1 x5
 else
 if (0 : Int) < ((List.length x1) : Int) then
 bif ((Int.tmod (List.getD x1 0 (0 : Int)) (2 : Int)) == (0 : Int)) then
 (c133 (x1, (2 : Int))).bind fun y4 =>
 n_l0 x0 y4.1 x5
 else
 (c117 (x0, x1)).bind fun y5 =>
 bif (decide (y5 ≥ (0 : Int))) then
 (c134 (x0, x1)).bind fun y6 =>
 n_l0 y6 x1 x5
 else
 (c134 (x1, x0)).bind fun y7 =>
 n_l0 x0 y7 x5
 else none
 else none
theorem F118.q_g8 (c133 : F133.E) (c117 : F117.E) (c134 : F134.E) (c135 : F135.E) (c136 : F136.E) (n_l0 : (List (Int)) → (List (Int)) → (Int) → Option (List (Int))) (x0 : List (Int)) (x1 : List (Int)) (x5 : Int) : F118.b_g8 c133 c117 c134 c135 c136 n_l0 x0 x1 x5 = F118.c_g8 c133 c117 c134 c135 c136 n_l0 x0 x1 x5 := by
  simp only [F118.b_g8, F118.c_g8, List.take_length, take_one, Nat.zero_add, Int.toNat_natCast, Int.toNat_zero, List.drop_zero, List.append_eq, Nat.le_refl, Int.le_refl, true_and, and_true, zero_le_one, if_true, prod_eta, Int.natCast_zero]
def F118.g8 (c133 : F133.E) (c117 : F117.E) (c134 : F134.E) (c135 : F135.E) (c136 : F136.E) (k : Nat) (n_l0 : (List (Int)) → (List (Int)) → (Int) → Option (List (Int))) (x0 : List (Int)) (x1 : List (Int)) (x5 : Int) : Option (List (Int)) := gate k (F118.b_g8 c133 c117 c134 c135 c136 n_l0 x0 x1 x5)
def F118.l3 (c133 : F133.E) (c117 : F117.E) (c134 : F134.E) (c135 : F135.E) (c136 : F136.E) (k : Nat)  : Nat → (Int) → (List (Int)) → Option (List (Int))
  | 0, _, _ => none
  | n + 1, x5, x6 => F118.b_l3 c133 c117 c134 c135 c136 (fun x5 x6 => F118.l3 c133 c117 c134 c135 c136 k  n x5 x6) x5 x6
def F118.l0 (c133 : F133.E) (c117 : F117.E) (c134 : F134.E) (c135 : F135.E) (c136 : F136.E) (k : Nat)  : Nat → (List (Int)) → (List (Int)) → (Int) → Option (List (Int))
  | 0, _, _, _ => none
  | n + 1, x0, x1, x5 => F118.b_l0 c133 c117 c134 c135 c136 (fun x0 x1 x5 => F118.l0 c133 c117 c134 c135 c136 k  n x0 x1 x5) (F118.g8 c133 c117 c134 c135 c136 k (fun x0 x1 x5 => F118.l0 c133 c117 c134 c135 c136 k  n x0 x1 x5)) (F118.l3 c133 c117 c134 c135 c136 k  k) x0 x1 x5
def F118.f (c133 : F133.E) (c117 : F117.E) (c134 : F134.E) (c135 : F135.E) (c136 : F136.E) (k : Nat) (a0 : List (Int)) (a1 : List (Int)) : Option (List (Int)) := F118.b c133 c117 c134 c135 c136 (F118.l0 c133 c117 c134 c135 c136 k k) a0 a1
noncomputable def F118.M_l0 (c133 : F133.E) (c117 : F117.E) (c134 : F134.E) (c135 : F135.E) (c136 : F136.E) (k n : Nat)  (s : St) : Option (List (Int)) := atLoop (F118.C c133 c117 c134 c135 c136) k n [1, 1, 0, 0] [] F118.code (F118.fin c133 c117 c134 c135 c136) s
noncomputable def F118.fr_l0 (x0 : List (Int)) (x1 : List (Int)) (x5 : Int) : St := ⟨((((List.replicate 83 V.un).set 0 (V.dat (.sl 3 (.int .i64)) x0)).set 1 (V.dat (.sl 3 (.int .i64)) x1)).set 5 (V.dat (.int .i64) x5)), []⟩
noncomputable def F118.M_g8 (c133 : F133.E) (c117 : F117.E) (c134 : F134.E) (c135 : F135.E) (c136 : F136.E) (k : Nat) (m0 : Nat) (s : St) : Option (List (Int)) := atGate (F118.C c133 c117 c134 c135 c136) k [1, 1, 0, 0, 0, 1, 0, 0, 1, 1, 0] [m0] F118.code (F118.fin c133 c117 c134 c135 c136) s
noncomputable def F118.fr_g8 (x0 : List (Int)) (x1 : List (Int)) (x5 : Int) : St := ⟨((((List.replicate 83 V.un).set 0 (V.dat (.sl 3 (.int .i64)) x0)).set 1 (V.dat (.sl 3 (.int .i64)) x1)).set 5 (V.dat (.int .i64) x5)), []⟩
noncomputable def F118.M_l3 (c133 : F133.E) (c117 : F117.E) (c134 : F134.E) (c135 : F135.E) (c136 : F136.E) (k n : Nat)  (s : St) : Option (List (Int)) := atLoop (F118.C c133 c117 c134 c135 c136) k n [1, 1, 1, 1, 0, 0] [] F118.code (F118.fin c133 c117 c134 c135 c136) s
noncomputable def F118.fr_l3 (x5 : Int) (x6 : List (Int)) : St := ⟨(((List.replicate 83 V.un).set 5 (V.dat (.int .i64) x5)).set 6 (V.dat (.sl 3 (.int .i64)) x6)), []⟩
theorem F118.r (c133 : F133.E) (c117 : F117.E) (c134 : F134.E) (c135 : F135.E) (c136 : F136.E) (k : Nat) (a0 : List (Int)) (a1 : List (Int)) : fn (F118.C c133 c117 c134 c135 c136) k Tryz.f118 F118.A F118.R (a0, a1) = F118.b c133 c117 c134 c135 c136 (fun x0 x1 x5 => F118.M_l0 c133 c117 c134 c135 c136 k k  (F118.fr_l0 x0 x1 x5)) a0 a1 := by kernel_rfl
theorem F118.z_l0 (c133 : F133.E) (c117 : F117.E) (c134 : F134.E) (c135 : F135.E) (c136 : F136.E) (k : Nat)  (s : St) : F118.M_l0 c133 c117 c134 c135 c136 k 0  s = none := by kernel_rfl
theorem F118.r_l0 (c133 : F133.E) (c117 : F117.E) (c134 : F134.E) (c135 : F135.E) (c136 : F136.E) (k n : Nat)  (x0 : List (Int)) (x1 : List (Int)) (x5 : Int) : F118.M_l0 c133 c117 c134 c135 c136 k (n + 1)  (F118.fr_l0 x0 x1 x5) = F118.b_l0 c133 c117 c134 c135 c136 (fun x0 x1 x5 => F118.M_l0 c133 c117 c134 c135 c136 k n  (F118.fr_l0 x0 x1 x5)) (fun x0 x1 x5 => F118.M_g8 c133 c117 c134 c135 c136 k  n (F118.fr_g8 x0 x1 x5)) (fun x5 x6 => F118.M_l3 c133 c117 c134 c135 c136 k k  (F118.fr_l3 x5 x6)) x0 x1 x5 := by kernel_rfl
theorem F118.r_g8 (c133 : F133.E) (c117 : F117.E) (c134 : F134.E) (c135 : F135.E) (c136 : F136.E) (k : Nat) (m0 : Nat) (x0 : List (Int)) (x1 : List (Int)) (x5 : Int) : F118.M_g8 c133 c117 c134 c135 c136 k m0 (F118.fr_g8 x0 x1 x5) = gate k (F118.b_g8 c133 c117 c134 c135 c136 (fun x0 x1 x5 => F118.M_l0 c133 c117 c134 c135 c136 k m0  (F118.fr_l0 x0 x1 x5)) x0 x1 x5) := by kernel_rfl
theorem F118.z_l3 (c133 : F133.E) (c117 : F117.E) (c134 : F134.E) (c135 : F135.E) (c136 : F136.E) (k : Nat)  (s : St) : F118.M_l3 c133 c117 c134 c135 c136 k 0  s = none := by kernel_rfl
theorem F118.r_l3 (c133 : F133.E) (c117 : F117.E) (c134 : F134.E) (c135 : F135.E) (c136 : F136.E) (k n : Nat)  (x5 : Int) (x6 : List (Int)) : F118.M_l3 c133 c117 c134 c135 c136 k (n + 1)  (F118.fr_l3 x5 x6) = F118.b_l3 c133 c117 c134 c135 c136 (fun x5 x6 => F118.M_l3 c133 c117 c134 c135 c136 k n  (F118.fr_l3 x5 x6)) x5 x6 := by kernel_rfl
theorem F118.e_g8 (c133 : F133.E) (c117 : F117.E) (c134 : F134.E) (c135 : F135.E) (c136 : F136.E) (k : Nat) (m0 : Nat) (x0 : List (Int)) (x1 : List (Int)) (x5 : Int) : F118.M_g8 c133 c117 c134 c135 c136 k m0 (F118.fr_g8 x0 x1 x5) = F118.g8 c133 c117 c134 c135 c136 k (fun x0 x1 x5 => F118.M_l0 c133 c117 c134 c135 c136 k m0  (F118.fr_l0 x0 x1 x5)) x0 x1 x5 := by
  rw [F118.r_g8]
  rfl
theorem F118.e_l3 (c133 : F133.E) (c117 : F117.E) (c134 : F134.E) (c135 : F135.E) (c136 : F136.E) (k n : Nat)  (x5 : Int) (x6 : List (Int)) : F118.M_l3 c133 c117 c134 c135 c136 k n  (F118.fr_l3 x5 x6) = F118.l3 c133 c117 c134 c135 c136 k  n x5 x6 := by
  induction n generalizing x5 x6 with
  | zero => rw [F118.z_l3]; rfl
  | succ n ih =>
    rw [F118.r_l3]
    simp only [ih]
    rfl
theorem F118.e_l0 (c133 : F133.E) (c117 : F117.E) (c134 : F134.E) (c135 : F135.E) (c136 : F136.E) (k n : Nat)  (x0 : List (Int)) (x1 : List (Int)) (x5 : Int) : F118.M_l0 c133 c117 c134 c135 c136 k n  (F118.fr_l0 x0 x1 x5) = F118.l0 c133 c117 c134 c135 c136 k  n x0 x1 x5 := by
  induction n generalizing x0 x1 x5 with
  | zero => rw [F118.z_l0]; rfl
  | succ n ih =>
    rw [F118.r_l0]
    simp only [F118.e_g8, F118.e_l3, ih]
    rfl
theorem F118.e (c133 : F133.E) (c117 : F117.E) (c134 : F134.E) (c135 : F135.E) (c136 : F136.E) (k : Nat) (a0 : List (Int)) (a1 : List (Int)) : fn (F118.C c133 c117 c134 c135 c136) k Tryz.f118 F118.A F118.R (a0, a1) = F118.f c133 c117 c134 c135 c136 k a0 a1 := by
  rw [F118.r]
  simp only [F118.e_l0]
  rfl
theorem F118.ty (c133 : F133.E) (c117 : F117.E) (c134 : F134.E) (c135 : F135.E) (c136 : F136.E) : TyOk Tryz.prog (F118.C c133 c117 c134 c135 c136) := tyOk_of (by kernel_rfl)
def F118.u (k : Nat) : F118.E := fun y => F118.f (F133.u k) (F117.u k) (F134.u k) (F135.u k) (F136.u k) k y.1 y.2
theorem F118.sound (k : Nat) : Sound Tryz.prog ⟨118, F118.A, F118.R, F118.u k⟩ := by
  have h := fn_sound (k := k) («as» := F118.A) (rs := F118.R) (F118.ty (F133.u k) (F117.u k) (F134.u k) (F135.u k) (F136.u k)) (fun E h => by
    simp only [F118.C, List.mem_cons, List.not_mem_nil, or_false] at h
    rcases h with rfl | rfl | rfl | rfl | rfl
    · exact F133.sound k
    · exact F117.sound k
    · exact F134.sound k
    · exact F135.sound k
    · exact F136.sound k) mixed Tryz.func118 (by kernel_rfl) (by kernel_rfl)
  have e : fn (F118.C (F133.u k) (F117.u k) (F134.u k) (F135.u k) (F136.u k)) k Tryz.f118 F118.A F118.R = F118.u k := by
    funext y
    exact F118.e (F133.u k) (F117.u k) (F134.u k) (F135.u k) (F136.u k) k y.1 y.2
  rw [e] at h
  exact h
/-! ### brindlewood/brindlewoodref3.Small: f120 -/
abbrev F120.A : List Sh := [(.d (.int .i64))]
abbrev F120.R : List Sh := [(.d (.sl 3 (.int .i64)))]
abbrev F120.E : Type := (Int) → Option (List (Int))
def F120.C  : Ctx := { ty := [(3, (.int .i64)), (74, (.sl 3 (.int .i64)))], nf := [], by_ := [(3, 8)], env := [], spec := [(0, [.d 0 (.int .i64), .o 3 500003 3 (.int .i64)])] }
noncomputable def F120.code : Code := Func.code Tryz.f120
noncomputable def F120.fin  := kfin (F120.C ) Tryz.f120 F120.A F120.R
def F120.b  (r_l0 : (Int) → (List (Int)) → Option (List (Int))) (a0 : Int) : Option (List (Int)) :=
 r_l0 a0 ([] : List (Int))
def F120.b_l0  (n_l0 : (Int) → (List (Int)) → Option (List (Int))) (x0 : Int) (x3 : List (Int)) : Option (List (Int)) :=
 bif (decide (x0 > (0 : Int))) then
 if (List.length x3) ≤ (List.length x3) ∧ ((List.length x3) + (List.length (List.take 1 ([(Int.tmod x0 (65536 : Int))] : List (Int))))) * 8 ≤ LIM then
 n_l0 (IntKind.i64.wrap (Int.tdiv x0 (65536 : Int))) (List.take (List.length (List.append (List.take (List.length x3) x3) (List.take 1 ([(Int.tmod x0 (65536 : Int))] : List (Int))))) (List.append (List.take (List.length x3) x3) (List.take 1 ([(Int.tmod x0 (65536 : Int))] : List (Int)))))
 else none
 else
 some (List.take (List.length x3) x3)
def F120.c  (r_l0 : (Int) → (List (Int)) → Option (List (Int))) (a0 : Int) : Option (List (Int)) :=
 r_l0 a0 ([] : List Int)
theorem F120.q  (r_l0 : (Int) → (List (Int)) → Option (List (Int))) (a0 : Int) : F120.b  r_l0 a0 = F120.c  r_l0 a0 := by
  simp only [F120.b, F120.c, List.take_length, take_one, Nat.zero_add, Int.toNat_natCast, Int.toNat_zero, List.drop_zero, List.append_eq, Nat.le_refl, Int.le_refl, true_and, and_true, zero_le_one, if_true, prod_eta, Int.natCast_zero]
def F120.c_l0  (n_l0 : (Int) → (List (Int)) → Option (List (Int))) (x0 : Int) (x3 : List (Int)) : Option (List (Int)) :=
 bif (decide (x0 > (0 : Int))) then
 if ((List.length x3) + (List.length ([(Int.tmod x0 (65536 : Int))] : List Int))) * 8 ≤ LIM then
 n_l0 (IntKind.i64.wrap (Int.tdiv x0 (65536 : Int))) (x3 ++ ([(Int.tmod x0 (65536 : Int))] : List Int))
 else none
 else
 some x3
theorem F120.q_l0  (n_l0 : (Int) → (List (Int)) → Option (List (Int))) (x0 : Int) (x3 : List (Int)) : F120.b_l0  n_l0 x0 x3 = F120.c_l0  n_l0 x0 x3 := by
  simp only [F120.b_l0, F120.c_l0, List.take_length, take_one, Nat.zero_add, Int.toNat_natCast, Int.toNat_zero, List.drop_zero, List.append_eq, Nat.le_refl, Int.le_refl, true_and, and_true, zero_le_one, if_true, prod_eta, Int.natCast_zero]
def F120.l0  (k : Nat)  : Nat → (Int) → (List (Int)) → Option (List (Int))
  | 0, _, _ => none
  | n + 1, x0, x3 => F120.b_l0  (fun x0 x3 => F120.l0  k  n x0 x3) x0 x3
def F120.f  (k : Nat) (a0 : Int) : Option (List (Int)) := F120.b  (F120.l0  k k) a0
noncomputable def F120.M_l0  (k n : Nat)  (s : St) : Option (List (Int)) := atLoop (F120.C ) k n [1, 1, 0, 0] [] F120.code (F120.fin ) s
noncomputable def F120.fr_l0 (x0 : Int) (x3 : List (Int)) : St := ⟨(((List.replicate 14 V.un).set 0 (V.dat (.int .i64) x0)).set 3 (V.ref 500003 0 0 (List.length x3))), [⟨500003, 0, .arr 3 (.int .i64) x3⟩]⟩
theorem F120.r  (k : Nat) (a0 : Int) : fn (F120.C ) k Tryz.f120 F120.A F120.R a0 = F120.b  (fun x0 x3 => F120.M_l0  k k  (F120.fr_l0 x0 x3)) a0 := by kernel_rfl
theorem F120.z_l0  (k : Nat)  (s : St) : F120.M_l0  k 0  s = none := by kernel_rfl
theorem F120.r_l0  (k n : Nat)  (x0 : Int) (x3 : List (Int)) : F120.M_l0  k (n + 1)  (F120.fr_l0 x0 x3) = F120.b_l0  (fun x0 x3 => F120.M_l0  k n  (F120.fr_l0 x0 x3)) x0 x3 := by kernel_rfl
theorem F120.e_l0  (k n : Nat)  (x0 : Int) (x3 : List (Int)) : F120.M_l0  k n  (F120.fr_l0 x0 x3) = F120.l0  k  n x0 x3 := by
  induction n generalizing x0 x3 with
  | zero => rw [F120.z_l0]; rfl
  | succ n ih =>
    rw [F120.r_l0]
    simp only [ih]
    rfl
theorem F120.e  (k : Nat) (a0 : Int) : fn (F120.C ) k Tryz.f120 F120.A F120.R a0 = F120.f  k a0 := by
  rw [F120.r]
  simp only [F120.e_l0]
  rfl
theorem F120.ty  : TyOk Tryz.prog (F120.C ) := tyOk_of (by kernel_rfl)
def F120.u (k : Nat) : F120.E := fun y => F120.f  k y
theorem F120.sound (k : Nat) : Sound Tryz.prog ⟨120, F120.A, F120.R, F120.u k⟩ := by
  have h := fn_sound (k := k) («as» := F120.A) (rs := F120.R) (F120.ty ) (fun E h => by cases h) mixed Tryz.func120 (by kernel_rfl) (by kernel_rfl)
  have e : fn (F120.C ) k Tryz.f120 F120.A F120.R = F120.u k := by
    funext y
    exact F120.e  k y
  rw [e] at h
  exact h
/-! ### brindlewood/brindlewoodref3.RatioOk: f100 -/
abbrev F100.A : List Sh := [(.d Y_Ratio)]
abbrev F100.R : List Sh := [(.d .bool)]
abbrev F100.E : Type := X_Ratio → Option (Bool)
def F100.C (c99 : F99.E) (c119 : F119.E) (c118 : F118.E) (c120 : F120.E) (c117 : F117.E) : Ctx := { ty := [(3, (.int .i64)), (4, .bool), (25, (.sl 72 (.int .u32))), (27, Y_Int), (126, Y_Ratio)], nf := [(27, 2), (126, 2)], by_ := [(72, 4)], env := [⟨99, F99.A, F99.R, c99⟩, ⟨119, F119.A, F119.R, c119⟩, ⟨118, F118.A, F118.R, c118⟩, ⟨120, F120.A, F120.R, c120⟩, ⟨117, F117.A, F117.R, c117⟩], spec := [] }
noncomputable def F100.code : Code := Func.code Tryz.f100
noncomputable def F100.fin (c99 : F99.E) (c119 : F119.E) (c118 : F118.E) (c120 : F120.E) (c117 : F117.E) := kfin (F100.C c99 c119 c118 c120 c117) Tryz.f100 F100.A F100.R
def F100.b (c99 : F99.E) (c119 : F119.E) (c118 : F118.E) (c120 : F120.E) (c117 : F117.E)  (a0 : X_Int × X_Int) : Option (Bool) :=
 (c99 a0.1).bind fun y1 =>
 bif (!y1) then
 some false
 else
 (c99 a0.2).bind fun y2 =>
 bif (!y2) then
 some false
 else
 bif a0.2.1 then
 some false
 else
 bif (((List.length a0.2.2) : Int) == (0 : Int)) then
 some false
 else
 (c119 a0.1.2).bind fun y3 =>
 (c119 a0.2.2).bind fun y4 =>
 (c118 (y3, y4)).bind fun y5 =>
 (c120 (1 : Int)).bind fun y6 =>
 (c117 (y5, y6)).bind fun y7 =>
 some (y7 == (0 : Int))
def F100.c (c99 : F99.E) (c119 : F119.E) (c118 : F118.E) (c120 : F120.E) (c117 : F117.E)  (a0 : X_Int × X_Int) : Option (Bool) :=
 (c99 a0.1).bind fun y1 =>
 bif !y1 then
 some false
 else
 (c99 a0.2).bind fun y2 =>
 bif !y2 then
 some false
 else
 bif a0.2.1 then
 some false
 else
 bif (((List.length a0.2.2) : Int) == (0 : Int)) then
 some false
 else
 (c119 a0.1.2).bind fun y3 =>
 (c119 a0.2.2).bind fun y4 =>
 (c118 (y3, y4)).bind fun y5 =>
 (c120 (1 : Int)).bind fun y6 =>
 (c117 (y5, y6)).bind fun y7 =>
 some (y7 == (0 : Int))
theorem F100.q (c99 : F99.E) (c119 : F119.E) (c118 : F118.E) (c120 : F120.E) (c117 : F117.E)  (a0 : X_Int × X_Int) : F100.b c99 c119 c118 c120 c117 a0 = F100.c c99 c119 c118 c120 c117 a0 := by
  simp only [F100.b, F100.c, List.take_length, take_one, Nat.zero_add, Int.toNat_natCast, Int.toNat_zero, List.drop_zero, List.append_eq, Nat.le_refl, Int.le_refl, true_and, and_true, zero_le_one, if_true, prod_eta, Int.natCast_zero]
def F100.f (c99 : F99.E) (c119 : F119.E) (c118 : F118.E) (c120 : F120.E) (c117 : F117.E) (k : Nat) (a0 : X_Int × X_Int) : Option (Bool) := F100.b c99 c119 c118 c120 c117  a0
theorem F100.r (c99 : F99.E) (c119 : F119.E) (c118 : F118.E) (c120 : F120.E) (c117 : F117.E) (k : Nat) (a0 : X_Int × X_Int) : fn (F100.C c99 c119 c118 c120 c117) k Tryz.f100 F100.A F100.R a0 = F100.b c99 c119 c118 c120 c117  a0 := by kernel_rfl
theorem F100.e (c99 : F99.E) (c119 : F119.E) (c118 : F118.E) (c120 : F120.E) (c117 : F117.E) (k : Nat) (a0 : X_Int × X_Int) : fn (F100.C c99 c119 c118 c120 c117) k Tryz.f100 F100.A F100.R a0 = F100.f c99 c119 c118 c120 c117 k a0 := by
  rw [F100.r]
  rfl
theorem F100.ty (c99 : F99.E) (c119 : F119.E) (c118 : F118.E) (c120 : F120.E) (c117 : F117.E) : TyOk Tryz.prog (F100.C c99 c119 c118 c120 c117) := tyOk_of (by kernel_rfl)
def F100.u (k : Nat) : F100.E := fun y => F100.f (F99.u k) (F119.u k) (F118.u k) (F120.u k) (F117.u k) k y
theorem F100.sound (k : Nat) : Sound Tryz.prog ⟨100, F100.A, F100.R, F100.u k⟩ := by
  have h := fn_sound (k := k) («as» := F100.A) (rs := F100.R) (F100.ty (F99.u k) (F119.u k) (F118.u k) (F120.u k) (F117.u k)) (fun E h => by
    simp only [F100.C, List.mem_cons, List.not_mem_nil, or_false] at h
    rcases h with rfl | rfl | rfl | rfl | rfl
    · exact F99.sound k
    · exact F119.sound k
    · exact F118.sound k
    · exact F120.sound k
    · exact F117.sound k) mixed Tryz.func100 (by kernel_rfl) (by kernel_rfl)
  have e : fn (F100.C (F99.u k) (F119.u k) (F118.u k) (F120.u k) (F117.u k)) k Tryz.f100 F100.A F100.R = F100.u k := by
    funext y
    exact F100.e (F99.u k) (F119.u k) (F118.u k) (F120.u k) (F117.u k) k y
  rw [e] at h
  exact h
/-! ### brindlewood/brindlewoodref7.NameOk: f24 -/
abbrev F24.A : List Sh := [(.d .str)]
abbrev F24.R : List Sh := [(.d .bool)]
abbrev F24.E : Type := (List UInt8) → Option (Bool)
def F24.C  : Ctx := { ty := [(3, (.int .i64)), (5, (.int .u8)), (9, .str)], nf := [], by_ := [], env := [], spec := [(0, [.d 0 .str, .d 3 (.int .i64)]), (100008, [.d 0 .str, .d 3 (.int .i64), .d 4 (.int .u8), .d 5 .bool])] }
noncomputable def F24.code : Code := Func.code Tryz.f24
noncomputable def F24.fin  := kfin (F24.C ) Tryz.f24 F24.A F24.R
def F24.b  (r_l0 : (List UInt8) → (Int) → Option (Bool)) (a0 : List UInt8) : Option (Bool) :=
 bif (decide (((List.length a0) : Int) < (1 : Int))) then
 some false
 else
 bif (decide (((List.length a0) : Int) > (24 : Int))) then
 some false
 else
 r_l0 a0 (0 : Int)
def F24.b_l0  (r_g8 : (List UInt8) → (Int) → (Int) → (Bool) → Option (Bool)) (x0 : List UInt8) (x3 : Int) : Option (Bool) :=
 bif (decide (x3 < ((List.length x0) : Int))) then
 if 0 ≤ x3 ∧ x3 < ((List.length x0) : Int) then
 bif (((List.getD x0 (Int.toNat x3) 0).toNat : Int) == (95 : Int)) then
 r_g8 x0 x3 ((List.getD x0 (Int.toNat x3) 0).toNat : Int) true
 else
 bif (decide ((97 : Int) ≤ ((List.getD x0 (Int.toNat x3) 0).toNat : Int))) then
 bif (decide (((List.getD x0 (Int.toNat x3) 0).toNat : Int) ≤ (122 : Int))) then
 r_g8 x0 x3 ((List.getD x0 (Int.toNat x3) 0).toNat : Int) true
 else
 bif (decide ((65 : Int) ≤ ((List.getD x0 (Int.toNat x3) 0).toNat : Int))) then
 r_g8 x0 x3 ((List.getD x0 (Int.toNat x3) 0).toNat : Int) (decide (((List.getD x0 (Int.toNat x3) 0).toNat : Int) ≤ (90 : Int)))
 else
 r_g8 x0 x3 ((List.getD x0 (Int.toNat x3) 0).toNat : Int) false
 else
 bif (decide ((65 : Int) ≤ ((List.getD x0 (Int.toNat x3) 0).toNat : Int))) then
 r_g8 x0 x3 ((List.getD x0 (Int.toNat x3) 0).toNat : Int) (decide (((List.getD x0 (Int.toNat x3) 0).toNat : Int) ≤ (90 : Int)))
 else
 r_g8 x0 x3 ((List.getD x0 (Int.toNat x3) 0).toNat : Int) false
 else none
 else
 some true
def F24.b_g8  (n_l0 : (List UInt8) → (Int) → Option (Bool)) (x0 : List UInt8) (x3 : Int) (x4 : Int) (x5 : Bool) : Option (Bool) :=
 bif (!x5) then
 bif (x3 == (0 : Int)) then
 some false
 else
 bif (decide (x4 < (48 : Int))) then
 some false
 else
 bif (decide (x4 > (57 : Int))) then
 some false
 else
 n_l0 x0 (IntKind.i64.wrap (x3 + (1 : Int)))
 else
 n_l0 x0 (IntKind.i64.wrap (x3 + (1 : Int)))
def F24.c_g8  (n_l0 : (List UInt8) → (Int) → Option (Bool)) (x0 : List UInt8) (x3 : Int) (x4 : Int) (x5 : Bool) : Option (Bool) :=
 bif !x5 then
 bif (x3 == (0 : Int)) then
 some false
 else
 bif (decide (x4 < (48 : Int))) then
 some false
 else
 bif (decide (x4 > (57 : Int))) then
 some false
 else
 n_l0 x0 (IntKind.i64.wrap (x3 + (1 : Int)))
 else
 n_l0 x0 (IntKind.i64.wrap (x3 + (1 : Int)))
theorem F24.q_g8  (n_l0 : (List UInt8) → (Int) → Option (Bool)) (x0 : List UInt8) (x3 : Int) (x4 : Int) (x5 : Bool) : F24.b_g8  n_l0 x0 x3 x4 x5 = F24.c_g8  n_l0 x0 x3 x4 x5 := by
  simp only [F24.b_g8, F24.c_g8, List.take_length, take_one, Nat.zero_add, Int.toNat_natCast, Int.toNat_zero, List.drop_zero, List.append_eq, Nat.le_refl, Int.le_refl, true_and, and_true, zero_le_one, if_true, prod_eta, Int.natCast_zero]
def F24.g8  (k : Nat) (n_l0 : (List UInt8) → (Int) → Option (Bool)) (x0 : List UInt8) (x3 : Int) (x4 : Int) (x5 : Bool) : Option (Bool) := gate k (F24.b_g8  n_l0 x0 x3 x4 x5)
def F24.l0  (k : Nat)  : Nat → (List UInt8) → (Int) → Option (Bool)
  | 0, _, _ => none
  | n + 1, x0, x3 => F24.b_l0  (F24.g8  k (fun x0 x3 => F24.l0  k  n x0 x3)) x0 x3
def F24.f  (k : Nat) (a0 : List UInt8) : Option (Bool) := F24.b  (F24.l0  k k) a0
noncomputable def F24.M_l0  (k n : Nat)  (s : St) : Option (Bool) := atLoop (F24.C ) k n [1, 1, 0, 1, 0] [] F24.code (F24.fin ) s
noncomputable def F24.fr_l0 (x0 : List UInt8) (x3 : Int) : St := ⟨(((List.replicate 55 V.un).set 0 (V.dat .str x0)).set 3 (V.dat (.int .i64) x3)), []⟩
noncomputable def F24.M_g8  (k : Nat) (m0 : Nat) (s : St) : Option (Bool) := atGate (F24.C ) k [1, 1, 0, 1, 0, 0, 1, 0, 0, 1, 1, 0] [m0] F24.code (F24.fin ) s
noncomputable def F24.fr_g8 (x0 : List UInt8) (x3 : Int) (x4 : Int) (x5 : Bool) : St := ⟨(((((List.replicate 55 V.un).set 0 (V.dat .str x0)).set 3 (V.dat (.int .i64) x3)).set 4 (V.dat (.int .u8) x4)).set 5 (V.dat .bool x5)), []⟩
theorem F24.r  (k : Nat) (a0 : List UInt8) : fn (F24.C ) k Tryz.f24 F24.A F24.R a0 = F24.b  (fun x0 x3 => F24.M_l0  k k  (F24.fr_l0 x0 x3)) a0 := by kernel_rfl
theorem F24.z_l0  (k : Nat)  (s : St) : F24.M_l0  k 0  s = none := by kernel_rfl
theorem F24.r_l0  (k n : Nat)  (x0 : List UInt8) (x3 : Int) : F24.M_l0  k (n + 1)  (F24.fr_l0 x0 x3) = F24.b_l0  (fun x0 x3 x4 x5 => F24.M_g8  k  n (F24.fr_g8 x0 x3 x4 x5)) x0 x3 := by kernel_rfl
theorem F24.r_g8  (k : Nat) (m0 : Nat) (x0 : List UInt8) (x3 : Int) (x4 : Int) (x5 : Bool) : F24.M_g8  k m0 (F24.fr_g8 x0 x3 x4 x5) = gate k (F24.b_g8  (fun x0 x3 => F24.M_l0  k m0  (F24.fr_l0 x0 x3)) x0 x3 x4 x5) := by kernel_rfl
theorem F24.e_g8  (k : Nat) (m0 : Nat) (x0 : List UInt8) (x3 : Int) (x4 : Int) (x5 : Bool) : F24.M_g8  k m0 (F24.fr_g8 x0 x3 x4 x5) = F24.g8  k (fun x0 x3 => F24.M_l0  k m0  (F24.fr_l0 x0 x3)) x0 x3 x4 x5 := by
  rw [F24.r_g8]
  rfl
theorem F24.e_l0  (k n : Nat)  (x0 : List UInt8) (x3 : Int) : F24.M_l0  k n  (F24.fr_l0 x0 x3) = F24.l0  k  n x0 x3 := by
  induction n generalizing x0 x3 with
  | zero => rw [F24.z_l0]; rfl
  | succ n ih =>
    rw [F24.r_l0]
    simp only [F24.e_g8, ih]
    rfl
theorem F24.e  (k : Nat) (a0 : List UInt8) : fn (F24.C ) k Tryz.f24 F24.A F24.R a0 = F24.f  k a0 := by
  rw [F24.r]
  simp only [F24.e_l0]
  rfl
theorem F24.ty  : TyOk Tryz.prog (F24.C ) := tyOk_of (by kernel_rfl)
def F24.u (k : Nat) : F24.E := fun y => F24.f  k y
theorem F24.sound (k : Nat) : Sound Tryz.prog ⟨24, F24.A, F24.R, F24.u k⟩ := by
  have h := fn_sound (k := k) («as» := F24.A) (rs := F24.R) (F24.ty ) (fun E h => by cases h) mixed Tryz.func24 (by kernel_rfl) (by kernel_rfl)
  have e : fn (F24.C ) k Tryz.f24 F24.A F24.R = F24.u k := by
    funext y
    exact F24.e  k y
  rw [e] at h
  exact h
/-! ### brindlewood/brindlewoodref7.DottedOk: f89 -/
abbrev F89.A : List Sh := [(.d .str)]
abbrev F89.R : List Sh := [(.d .bool)]
abbrev F89.E : Type := (List UInt8) → Option (Bool)
def F89.C (c110 : F110.E) (c24 : F24.E) : Ctx := { ty := [(3, (.int .i64)), (9, .str), (33, (.sl 9 .str))], nf := [], by_ := [(9, 16)], env := [⟨110, F110.A, F110.R, c110⟩, ⟨24, F24.A, F24.R, c24⟩], spec := [(0, [.d 0 .str, .d 6 (.sl 9 .str), .d 7 (.int .i64), .d 8 (.int .i64)])] }
noncomputable def F89.code : Code := Func.code Tryz.f89
noncomputable def F89.fin (c110 : F110.E) (c24 : F24.E) := kfin (F89.C c110 c24) Tryz.f89 F89.A F89.R
def F89.b (c110 : F110.E) (c24 : F24.E) (r_l0 : (List UInt8) → (List (List UInt8)) → (Int) → (Int) → Option (Bool)) (a0 : List UInt8) : Option (Bool) :=
 (c110 (a0, [46])).bind fun y1 =>
 r_l0 a0 y1 ((List.length y1) : Int) (0 : Int)
def F89.b_l0 (c110 : F110.E) (c24 : F24.E) (n_l0 : (List UInt8) → (List (List UInt8)) → (Int) → (Int) → Option (Bool)) (x0 : List UInt8) (x6 : List (List UInt8)) (x7 : Int) (x8 : Int) : Option (Bool) :=
 bif (decide (x8 < x7)) then
 if 0 ≤ x8 ∧ x8 < ((List.length x6) : Int) then
 (c24 (List.getD x6 (Int.toNat x8) [])).bind fun y2 =>
 bif (!y2) then
 some false
 else
 n_l0 x0 x6 x7 (IntKind.i64.wrap (x8 + (1 : Int)))
 else none
 else
 some (decide (((List.length x0) : Int) ≤ (60 : Int)))
def F89.c_l0 (c110 : F110.E) (c24 : F24.E) (n_l0 : (List UInt8) → (List (List UInt8)) → (Int) → (Int) → Option (Bool)) (x0 : List UInt8) (x6 : List (List UInt8)) (x7 : Int) (x8 : Int) : Option (Bool) :=
 bif (decide (x8 < x7)) then
 if 0 ≤ x8 ∧ x8 < ((List.length x6) : Int) then
 (c24 (List.getD x6 (Int.toNat x8) [])).bind fun y2 =>
 bif !y2 then
 some false
 else
 n_l0 x0 x6 x7 (IntKind.i64.wrap (x8 + (1 : Int)))
 else none
 else
 some (decide (((List.length x0) : Int) ≤ (60 : Int)))
theorem F89.q_l0 (c110 : F110.E) (c24 : F24.E) (n_l0 : (List UInt8) → (List (List UInt8)) → (Int) → (Int) → Option (Bool)) (x0 : List UInt8) (x6 : List (List UInt8)) (x7 : Int) (x8 : Int) : F89.b_l0 c110 c24 n_l0 x0 x6 x7 x8 = F89.c_l0 c110 c24 n_l0 x0 x6 x7 x8 := by
  simp only [F89.b_l0, F89.c_l0, List.take_length, take_one, Nat.zero_add, Int.toNat_natCast, Int.toNat_zero, List.drop_zero, List.append_eq, Nat.le_refl, Int.le_refl, true_and, and_true, zero_le_one, if_true, prod_eta, Int.natCast_zero]
def F89.l0 (c110 : F110.E) (c24 : F24.E) (k : Nat)  : Nat → (List UInt8) → (List (List UInt8)) → (Int) → (Int) → Option (Bool)
  | 0, _, _, _, _ => none
  | n + 1, x0, x6, x7, x8 => F89.b_l0 c110 c24 (fun x0 x6 x7 x8 => F89.l0 c110 c24 k  n x0 x6 x7 x8) x0 x6 x7 x8
def F89.f (c110 : F110.E) (c24 : F24.E) (k : Nat) (a0 : List UInt8) : Option (Bool) := F89.b c110 c24 (F89.l0 c110 c24 k k) a0
noncomputable def F89.M_l0 (c110 : F110.E) (c24 : F24.E) (k n : Nat)  (s : St) : Option (Bool) := atLoop (F89.C c110 c24) k n [1, 0, 1, 0] [] F89.code (F89.fin c110 c24) s
noncomputable def F89.fr_l0 (x0 : List UInt8) (x6 : List (List UInt8)) (x7 : Int) (x8 : Int) : St := ⟨(((((List.replicate 19 V.un).set 0 (V.dat .str x0)).set 6 (V.dat (.sl 9 .str) x6)).set 7 (V.dat (.int .i64) x7)).set 8 (V.dat (.int .i64) x8)), []⟩
theorem F89.r (c110 : F110.E) (c24 : F24.E) (k : Nat) (a0 : List UInt8) : fn (F89.C c110 c24) k Tryz.f89 F89.A F89.R a0 = F89.b c110 c24 (fun x0 x6 x7 x8 => F89.M_l0 c110 c24 k k  (F89.fr_l0 x0 x6 x7 x8)) a0 := by kernel_rfl
theorem F89.z_l0 (c110 : F110.E) (c24 : F24.E) (k : Nat)  (s : St) : F89.M_l0 c110 c24 k 0  s = none := by kernel_rfl
theorem F89.r_l0 (c110 : F110.E) (c24 : F24.E) (k n : Nat)  (x0 : List UInt8) (x6 : List (List UInt8)) (x7 : Int) (x8 : Int) : F89.M_l0 c110 c24 k (n + 1)  (F89.fr_l0 x0 x6 x7 x8) = F89.b_l0 c110 c24 (fun x0 x6 x7 x8 => F89.M_l0 c110 c24 k n  (F89.fr_l0 x0 x6 x7 x8)) x0 x6 x7 x8 := by kernel_rfl
theorem F89.e_l0 (c110 : F110.E) (c24 : F24.E) (k n : Nat)  (x0 : List UInt8) (x6 : List (List UInt8)) (x7 : Int) (x8 : Int) : F89.M_l0 c110 c24 k n  (F89.fr_l0 x0 x6 x7 x8) = F89.l0 c110 c24 k  n x0 x6 x7 x8 := by
  induction n generalizing x0 x6 x7 x8 with
  | zero => rw [F89.z_l0]; rfl
  | succ n ih =>
    rw [F89.r_l0]
    simp only [ih]
    rfl
theorem F89.e (c110 : F110.E) (c24 : F24.E) (k : Nat) (a0 : List UInt8) : fn (F89.C c110 c24) k Tryz.f89 F89.A F89.R a0 = F89.f c110 c24 k a0 := by
  rw [F89.r]
  simp only [F89.e_l0]
  rfl
theorem F89.ty (c110 : F110.E) (c24 : F24.E) : TyOk Tryz.prog (F89.C c110 c24) := tyOk_of (by kernel_rfl)
def F89.u (k : Nat) : F89.E := fun y => F89.f (F110.u k) (F24.u k) k y
theorem F89.sound (k : Nat) : Sound Tryz.prog ⟨89, F89.A, F89.R, F89.u k⟩ := by
  have h := fn_sound (k := k) («as» := F89.A) (rs := F89.R) (F89.ty (F110.u k) (F24.u k)) (fun E h => by
    simp only [F89.C, List.mem_cons, List.not_mem_nil, or_false] at h
    rcases h with rfl | rfl
    · exact F110.sound k
    · exact F24.sound k) mixed Tryz.func89 (by kernel_rfl) (by kernel_rfl)
  have e : fn (F89.C (F110.u k) (F24.u k)) k Tryz.f89 F89.A F89.R = F89.u k := by
    funext y
    exact F89.e (F110.u k) (F24.u k) k y
  rw [e] at h
  exact h
end
end Go.Ab
