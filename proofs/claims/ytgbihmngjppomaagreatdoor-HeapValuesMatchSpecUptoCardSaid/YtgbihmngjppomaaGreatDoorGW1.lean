/- A part of the proof: GW1. -/
import Derived.Test.YtgbihmngjppomaaGreatDoorFTy
import Derived.Test.YtgbihmngjppomaaGreatDoorGC1
import Derived.Test.YtgbihmngjppomaaGreatDoorGC2
import Derived.Test.YtgbihmngjppomaaGreatDoorGT1
import Derived.Test.YtgbihmngjppomaaGreatDoorGT4
import Derived.Test.YtgbihmngjppomaaGreatDoorGU0
import Derived.Test.YtgbihmngjppomaaGreatDoorHLib
namespace Go.Ab
set_option linter.unusedVariables false
set_option linter.unusedSimpArgs false
set_option maxRecDepth 100000
noncomputable section
open Go.Proofs
/-! ### brindlewood/heap.Int: f15 -/
abbrev F15.A : List Sh := [(.d (.int .i64))]
abbrev F15.R : List Sh := [(.d Y_Value)]
abbrev F15.E : Type := (Int) → Option X_Value
def F15.C  : Ctx := { ty := [(3, (.int .i64)), (4, .bool), (25, (.sl 72 (.int .u32))), (27, Y_Int), (29, Y_Value), (70, (.int .u64)), (72, (.int .u32))], nf := [(27, 2), (29, 5)], by_ := [(72, 4)], env := [], spec := [(0, [.bx 2 600002 (.pair (.d (.int .i64)) (.pair (.pair (.d .bool) (.o 72 (.int .u32))) (.pair (.pair (.d .bool) (.o 72 (.int .u32))) (.d (.pair .str (.int .i64)))))), .bx 3 600003 (.pair (.d (.int .i64)) (.pair (.pair (.d .bool) (.o 72 (.int .u32))) (.pair (.pair (.d .bool) (.o 72 (.int .u32))) (.d (.pair .str (.int .i64)))))), .d 4 (.int .u64)])] }
noncomputable def F15.code : Code := Func.code Tryz.f15
noncomputable def F15.fin  := kfin (F15.C ) Tryz.f15 F15.A F15.R
def F15.b  (r_l0 : X_Value → X_Value → (Int) → Option X_Value) (a0 : Int) : Option X_Value :=
 bif (decide (a0 < (0 : Int))) then
 r_l0 ((0 : Int), ((false, ([] : List (Int))), ((false, ([] : List (Int))), ([], (0 : Int))))) ((2 : Int), ((true, ([] : List (Int))), ((false, ([] : List (Int))), ([], (0 : Int))))) (IntKind.u64.wrap (0 - (IntKind.u64.wrap a0)))
 else
 r_l0 ((0 : Int), ((false, ([] : List (Int))), ((false, ([] : List (Int))), ([], (0 : Int))))) ((2 : Int), ((false, ([] : List (Int))), ((false, ([] : List (Int))), ([], (0 : Int))))) (IntKind.u64.wrap a0)
def F15.b_l0  (n_l0 : X_Value → X_Value → (Int) → Option X_Value) (x2 : X_Value) (x3 : X_Value) (x4 : Int) : Option X_Value :=
 bif (decide (x4 > (0 : Int))) then
 if (List.length x3.2.1.2) ≤ (List.length x3.2.1.2) ∧ ((List.length x3.2.1.2) + (List.length (List.take 1 ([(IntKind.u32.wrap x4)] : List (Int))))) * 4 ≤ LIM then
 n_l0 (x2.1, ((x2.2.1.1, (List.take (List.length x2.2.1.2) x2.2.1.2)), ((x2.2.2.1.1, (List.take (List.length x2.2.2.1.2) x2.2.2.1.2)), x2.2.2.2))) (x3.1, ((x3.2.1.1, (List.take (List.length (List.append (List.take (List.length x3.2.1.2) x3.2.1.2) (List.take 1 ([(IntKind.u32.wrap x4)] : List (Int))))) (List.append (List.take (List.length x3.2.1.2) x3.2.1.2) (List.take 1 ([(IntKind.u32.wrap x4)] : List (Int)))))), ((x3.2.2.1.1, (List.take (List.length x3.2.2.1.2) x3.2.2.1.2)), x3.2.2.2))) (Int.fdiv x4 (2 ^ min (Int.toNat (32 : Int)) IntKind.u64.bits))
 else none
 else
 some (x3.1, ((x3.2.1.1, (List.take (List.length x3.2.1.2) x3.2.1.2)), ((x3.2.2.1.1, (List.take (List.length x3.2.2.1.2) x3.2.2.1.2)), x3.2.2.2)))
def F15.c  (r_l0 : X_Value → X_Value → (Int) → Option X_Value) (a0 : Int) : Option X_Value :=
 bif (decide (a0 < (0 : Int))) then
 r_l0 ((0 : Int), ((false, ([] : List Int)), ((false, ([] : List Int)), ([], (0 : Int))))) ((2 : Int), ((true, ([] : List Int)), ((false, ([] : List Int)), ([], (0 : Int))))) (IntKind.u64.wrap (0 - (IntKind.u64.wrap a0)))
 else
 r_l0 ((0 : Int), ((false, ([] : List Int)), ((false, ([] : List Int)), ([], (0 : Int))))) ((2 : Int), ((false, ([] : List Int)), ((false, ([] : List Int)), ([], (0 : Int))))) (IntKind.u64.wrap a0)
theorem F15.q  (r_l0 : X_Value → X_Value → (Int) → Option X_Value) (a0 : Int) : F15.b  r_l0 a0 = F15.c  r_l0 a0 := by
  simp only [F15.b, F15.c, List.take_length, take_one, Nat.zero_add, Int.toNat_natCast, Int.toNat_zero, List.drop_zero, List.append_eq, Nat.le_refl, Int.le_refl, true_and, and_true, zero_le_one, if_true, prod_eta, Int.natCast_zero]
def F15.c_l0  (n_l0 : X_Value → X_Value → (Int) → Option X_Value) (x2 : X_Value) (x3 : X_Value) (x4 : Int) : Option X_Value :=
 bif (decide (x4 > (0 : Int))) then
 if ((List.length x3.2.1.2) + (List.length ([(IntKind.u32.wrap x4)] : List Int))) * 4 ≤ LIM then
 n_l0 x2 (x3.1, ((x3.2.1.1, (x3.2.1.2 ++ ([(IntKind.u32.wrap x4)] : List Int))), x3.2.2)) (Int.fdiv x4 (2 ^ min (Int.toNat (32 : Int)) IntKind.u64.bits))
 else none
 else
 some x3
theorem F15.q_l0  (n_l0 : X_Value → X_Value → (Int) → Option X_Value) (x2 : X_Value) (x3 : X_Value) (x4 : Int) : F15.b_l0  n_l0 x2 x3 x4 = F15.c_l0  n_l0 x2 x3 x4 := by
  simp only [F15.b_l0, F15.c_l0, List.take_length, take_one, Nat.zero_add, Int.toNat_natCast, Int.toNat_zero, List.drop_zero, List.append_eq, Nat.le_refl, Int.le_refl, true_and, and_true, zero_le_one, if_true, prod_eta, Int.natCast_zero]
def F15.l0  (k : Nat)  : Nat → X_Value → X_Value → (Int) → Option X_Value
  | 0, _, _, _ => none
  | n + 1, x2, x3, x4 => F15.b_l0  (fun x2 x3 x4 => F15.l0  k  n x2 x3 x4) x2 x3 x4
def F15.f  (k : Nat) (a0 : Int) : Option X_Value := F15.b  (F15.l0  k k) a0
noncomputable def F15.M_l0  (k n : Nat)  (s : St) : Option X_Value := atLoop (F15.C ) k n [1, 1, 1, 1, 0, 0] [] F15.code (F15.fin ) s
noncomputable def F15.fr_l0 (x2 : X_Value) (x3 : X_Value) (x4 : Int) : St := ⟨((((List.replicate 28 V.un).set 2 (V.bp 600002 0 [])).set 3 (V.bp 600003 0 [])).set 4 (V.dat (.int .u64) x4)), [⟨600003, 0, .box (V.st (V.dat (.int .i64) x3.1) (V.st (V.st (V.dat .bool x3.2.1.1) (V.ref 11600048 0 0 (List.length x3.2.1.2))) (V.st (V.st (V.dat .bool x3.2.2.1.1) (V.ref 11600049 0 0 (List.length x3.2.2.1.2))) (V.dat (.pair .str (.int .i64)) x3.2.2.2))))⟩, ⟨11600048, 0, .arr 72 (.int .u32) x3.2.1.2⟩, ⟨11600049, 0, .arr 72 (.int .u32) x3.2.2.1.2⟩, ⟨600002, 0, .box (V.st (V.dat (.int .i64) x2.1) (V.st (V.st (V.dat .bool x2.2.1.1) (V.ref 11600032 0 0 (List.length x2.2.1.2))) (V.st (V.st (V.dat .bool x2.2.2.1.1) (V.ref 11600033 0 0 (List.length x2.2.2.1.2))) (V.dat (.pair .str (.int .i64)) x2.2.2.2))))⟩, ⟨11600032, 0, .arr 72 (.int .u32) x2.2.1.2⟩, ⟨11600033, 0, .arr 72 (.int .u32) x2.2.2.1.2⟩]⟩
theorem F15.r  (k : Nat) (a0 : Int) : fn (F15.C ) k Tryz.f15 F15.A F15.R a0 = F15.b  (fun x2 x3 x4 => F15.M_l0  k k  (F15.fr_l0 x2 x3 x4)) a0 := by kernel_rfl
theorem F15.z_l0  (k : Nat)  (s : St) : F15.M_l0  k 0  s = none := by kernel_rfl
theorem F15.r_l0  (k n : Nat)  (x2 : X_Value) (x3 : X_Value) (x4 : Int) : F15.M_l0  k (n + 1)  (F15.fr_l0 x2 x3 x4) = F15.b_l0  (fun x2 x3 x4 => F15.M_l0  k n  (F15.fr_l0 x2 x3 x4)) x2 x3 x4 := by kernel_rfl
theorem F15.e_l0  (k n : Nat)  (x2 : X_Value) (x3 : X_Value) (x4 : Int) : F15.M_l0  k n  (F15.fr_l0 x2 x3 x4) = F15.l0  k  n x2 x3 x4 := by
  induction n generalizing x2 x3 x4 with
  | zero => rw [F15.z_l0]; rfl
  | succ n ih =>
    rw [F15.r_l0]
    simp only [ih]
    rfl
theorem F15.e  (k : Nat) (a0 : Int) : fn (F15.C ) k Tryz.f15 F15.A F15.R a0 = F15.f  k a0 := by
  rw [F15.r]
  simp only [F15.e_l0]
  rfl
theorem F15.ty  : TyOk Tryz.prog (F15.C ) := tyOk_of (by kernel_rfl)
def F15.u (k : Nat) : F15.E := fun y => F15.f  k y
theorem F15.sound (k : Nat) : Sound Tryz.prog ⟨15, F15.A, F15.R, F15.u k⟩ := by
  have h := fn_sound (k := k) («as» := F15.A) (rs := F15.R) (F15.ty ) (fun E h => by cases h) mixed Tryz.func15 (by kernel_rfl) (by kernel_rfl)
  have e : fn (F15.C ) k Tryz.f15 F15.A F15.R = F15.u k := by
    funext y
    exact F15.e  k y
  rw [e] at h
  exact h
/-! ### brindlewood/brindlewoodref3.Binary: f77 -/
abbrev F77.A : List Sh := [(.d (.sl 4 .bool))]
abbrev F77.R : List Sh := [(.d (.sl 3 (.int .i64)))]
abbrev F77.E : Type := (List (Bool)) → Option (List (Int))
def F77.C (c102 : F102.E) : Ctx := { ty := [(3, (.int .i64)), (4, .bool), (74, (.sl 3 (.int .i64))), (103, (.sl 4 .bool))], nf := [], by_ := [(3, 8), (4, 1)], env := [⟨102, F102.A, F102.R, c102⟩], spec := [(0, [.d 0 (.sl 4 .bool), .o 3 500003 3 (.int .i64), .d 4 (.int .i64)]), (2, [.d 0 (.sl 4 .bool), .o 3 500003 3 (.int .i64), .d 4 (.int .i64), .d 5 (.int .i64), .d 6 (.int .i64)])] }
noncomputable def F77.code : Code := Func.code Tryz.f77
noncomputable def F77.fin (c102 : F102.E) := kfin (F77.C c102) Tryz.f77 F77.A F77.R
def F77.b (c102 : F102.E) (r_l0 : (List (Bool)) → (List (Int)) → (Int) → Option (List (Int))) (a0 : List (Bool)) : Option (List (Int)) :=
 r_l0 a0 ([] : List (Int)) (0 : Int)
def F77.b_l0 (c102 : F102.E) (r_l2 : (List (Bool)) → (List (Int)) → (Int) → (Int) → (Int) → Option (List (Int))) (x0 : List (Bool)) (x3 : List (Int)) (x4 : Int) : Option (List (Int)) :=
 bif (decide (x4 < ((List.length x0) : Int))) then
 r_l2 x0 (List.take (List.length x3) x3) x4 (0 : Int) (15 : Int)
 else
 (c102 (List.take (List.length x3) x3)).bind fun y1 =>
 some y1
def F77.b_l2 (c102 : F102.E) (n_l2 : (List (Bool)) → (List (Int)) → (Int) → (Int) → (Int) → Option (List (Int))) (n_l0 : (List (Bool)) → (List (Int)) → (Int) → Option (List (Int))) (x0 : List (Bool)) (x3 : List (Int)) (x4 : Int) (x5 : Int) (x6 : Int) : Option (List (Int)) :=
 bif (decide (x6 ≥ (0 : Int))) then
 bif (decide ((IntKind.i64.wrap (x4 + x6)) < ((List.length x0) : Int))) then
 if 0 ≤ (IntKind.i64.wrap (x4 + x6)) ∧ (IntKind.i64.wrap (x4 + x6)) < ((List.length x0) : Int) then
 bif (List.getD x0 (Int.toNat (IntKind.i64.wrap (x4 + x6))) false) then
 n_l2 x0 (List.take (List.length x3) x3) x4 (IntKind.i64.wrap ((IntKind.i64.wrap (x5 * (2 : Int))) + (1 : Int))) (IntKind.i64.wrap (x6 - (1 : Int)))
 else
 n_l2 x0 (List.take (List.length x3) x3) x4 (IntKind.i64.wrap (x5 * (2 : Int))) (IntKind.i64.wrap (x6 - (1 : Int)))
 else none
 else
 n_l2 x0 (List.take (List.length x3) x3) x4 (IntKind.i64.wrap (x5 * (2 : Int))) (IntKind.i64.wrap (x6 - (1 : Int)))
 else
 if (List.length x3) ≤ (List.length x3) ∧ ((List.length x3) + (List.length (List.take 1 ([x5] : List (Int))))) * 8 ≤ LIM then
 n_l0 x0 (List.take (List.length (List.append (List.take (List.length x3) x3) (List.take 1 ([x5] : List (Int))))) (List.append (List.take (List.length x3) x3) (List.take 1 ([x5] : List (Int))))) (IntKind.i64.wrap (x4 + (16 : Int)))
 else none
def F77.c (c102 : F102.E) (r_l0 : (List (Bool)) → (List (Int)) → (Int) → Option (List (Int))) (a0 : List (Bool)) : Option (List (Int)) :=
 r_l0 a0 ([] : List Int) (0 : Int)
theorem F77.q (c102 : F102.E) (r_l0 : (List (Bool)) → (List (Int)) → (Int) → Option (List (Int))) (a0 : List (Bool)) : F77.b c102 r_l0 a0 = F77.c c102 r_l0 a0 := by
  simp only [F77.b, F77.c, List.take_length, take_one, Nat.zero_add, Int.toNat_natCast, Int.toNat_zero, List.drop_zero, List.append_eq, Nat.le_refl, Int.le_refl, true_and, and_true, zero_le_one, if_true, prod_eta, Int.natCast_zero]
def F77.c_l0 (c102 : F102.E) (r_l2 : (List (Bool)) → (List (Int)) → (Int) → (Int) → (Int) → Option (List (Int))) (x0 : List (Bool)) (x3 : List (Int)) (x4 : Int) : Option (List (Int)) :=
 bif (decide (x4 < ((List.length x0) : Int))) then
 r_l2 x0 x3 x4 (0 : Int) (15 : Int)
 else
 (c102 x3).bind fun y1 =>
 some y1
theorem F77.q_l0 (c102 : F102.E) (r_l2 : (List (Bool)) → (List (Int)) → (Int) → (Int) → (Int) → Option (List (Int))) (x0 : List (Bool)) (x3 : List (Int)) (x4 : Int) : F77.b_l0 c102 r_l2 x0 x3 x4 = F77.c_l0 c102 r_l2 x0 x3 x4 := by
  simp only [F77.b_l0, F77.c_l0, List.take_length, take_one, Nat.zero_add, Int.toNat_natCast, Int.toNat_zero, List.drop_zero, List.append_eq, Nat.le_refl, Int.le_refl, true_and, and_true, zero_le_one, if_true, prod_eta, Int.natCast_zero]
def F77.c_l2 (c102 : F102.E) (n_l2 : (List (Bool)) → (List (Int)) → (Int) → (Int) → (Int) → Option (List (Int))) (n_l0 : (List (Bool)) → (List (Int)) → (Int) → Option (List (Int))) (x0 : List (Bool)) (x3 : List (Int)) (x4 : Int) (x5 : Int) (x6 : Int) : Option (List (Int)) :=
 bif (decide (x6 ≥ (0 : Int))) then
 bif (decide ((IntKind.i64.wrap (x4 + x6)) < ((List.length x0) : Int))) then
 if 0 ≤ (IntKind.i64.wrap (x4 + x6)) ∧ (IntKind.i64.wrap (x4 + x6)) < ((List.length x0) : Int) then
 bif (List.getD x0 (Int.toNat (IntKind.i64.wrap (x4 + x6))) false) then
 n_l2 x0 x3 x4 (IntKind.i64.wrap ((IntKind.i64.wrap (x5 * (2 : Int))) + (1 : Int))) (IntKind.i64.wrap (x6 - (1 : Int)))
 else
 n_l2 x0 x3 x4 (IntKind.i64.wrap (x5 * (2 : Int))) (IntKind.i64.wrap (x6 - (1 : Int)))
 else none
 else
 n_l2 x0 x3 x4 (IntKind.i64.wrap (x5 * (2 : Int))) (IntKind.i64.wrap (x6 - (1 : Int)))
 else
 if ((List.length x3) + (List.length ([x5] : List Int))) * 8 ≤ LIM then
 n_l0 x0 (x3 ++ ([x5] : List Int)) (IntKind.i64.wrap (x4 + (16 : Int)))
 else none
theorem F77.q_l2 (c102 : F102.E) (n_l2 : (List (Bool)) → (List (Int)) → (Int) → (Int) → (Int) → Option (List (Int))) (n_l0 : (List (Bool)) → (List (Int)) → (Int) → Option (List (Int))) (x0 : List (Bool)) (x3 : List (Int)) (x4 : Int) (x5 : Int) (x6 : Int) : F77.b_l2 c102 n_l2 n_l0 x0 x3 x4 x5 x6 = F77.c_l2 c102 n_l2 n_l0 x0 x3 x4 x5 x6 := by
  simp only [F77.b_l2, F77.c_l2, List.take_length, take_one, Nat.zero_add, Int.toNat_natCast, Int.toNat_zero, List.drop_zero, List.append_eq, Nat.le_refl, Int.le_refl, true_and, and_true, zero_le_one, if_true, prod_eta, Int.natCast_zero]
def F77.l2 (c102 : F102.E) (k : Nat) (n_l0 : (List (Bool)) → (List (Int)) → (Int) → Option (List (Int))) : Nat → (List (Bool)) → (List (Int)) → (Int) → (Int) → (Int) → Option (List (Int))
  | 0, _, _, _, _, _ => none
  | n + 1, x0, x3, x4, x5, x6 => F77.b_l2 c102 (fun x0 x3 x4 x5 x6 => F77.l2 c102 k n_l0 n x0 x3 x4 x5 x6) n_l0 x0 x3 x4 x5 x6
def F77.l0 (c102 : F102.E) (k : Nat)  : Nat → (List (Bool)) → (List (Int)) → (Int) → Option (List (Int))
  | 0, _, _, _ => none
  | n + 1, x0, x3, x4 => F77.b_l0 c102 (F77.l2 c102 k (fun x0 x3 x4 => F77.l0 c102 k  n x0 x3 x4) k) x0 x3 x4
def F77.f (c102 : F102.E) (k : Nat) (a0 : List (Bool)) : Option (List (Int)) := F77.b c102 (F77.l0 c102 k k) a0
noncomputable def F77.M_l0 (c102 : F102.E) (k n : Nat)  (s : St) : Option (List (Int)) := atLoop (F77.C c102) k n [1, 1, 0, 1, 0] [] F77.code (F77.fin c102) s
noncomputable def F77.fr_l0 (x0 : List (Bool)) (x3 : List (Int)) (x4 : Int) : St := ⟨((((List.replicate 41 V.un).set 0 (V.dat (.sl 4 .bool) x0)).set 3 (V.ref 500003 0 0 (List.length x3))).set 4 (V.dat (.int .i64) x4)), [⟨500003, 0, .arr 3 (.int .i64) x3⟩]⟩
noncomputable def F77.M_l2 (c102 : F102.E) (k n : Nat) (m0 : Nat) (s : St) : Option (List (Int)) := atLoop (F77.C c102) k n [1, 1, 0, 1, 0, 0, 1, 0, 0, 1, 0, 1, 0] [m0] F77.code (F77.fin c102) s
noncomputable def F77.fr_l2 (x0 : List (Bool)) (x3 : List (Int)) (x4 : Int) (x5 : Int) (x6 : Int) : St := ⟨((((((List.replicate 41 V.un).set 0 (V.dat (.sl 4 .bool) x0)).set 3 (V.ref 500003 0 0 (List.length x3))).set 4 (V.dat (.int .i64) x4)).set 5 (V.dat (.int .i64) x5)).set 6 (V.dat (.int .i64) x6)), [⟨500003, 0, .arr 3 (.int .i64) x3⟩]⟩
theorem F77.r (c102 : F102.E) (k : Nat) (a0 : List (Bool)) : fn (F77.C c102) k Tryz.f77 F77.A F77.R a0 = F77.b c102 (fun x0 x3 x4 => F77.M_l0 c102 k k  (F77.fr_l0 x0 x3 x4)) a0 := by kernel_rfl
theorem F77.z_l0 (c102 : F102.E) (k : Nat)  (s : St) : F77.M_l0 c102 k 0  s = none := by kernel_rfl
theorem F77.r_l0 (c102 : F102.E) (k n : Nat)  (x0 : List (Bool)) (x3 : List (Int)) (x4 : Int) : F77.M_l0 c102 k (n + 1)  (F77.fr_l0 x0 x3 x4) = F77.b_l0 c102 (fun x0 x3 x4 x5 x6 => F77.M_l2 c102 k k n (F77.fr_l2 x0 x3 x4 x5 x6)) x0 x3 x4 := by kernel_rfl
theorem F77.z_l2 (c102 : F102.E) (k : Nat) (m0 : Nat) (s : St) : F77.M_l2 c102 k 0 m0 s = none := by kernel_rfl
theorem F77.r_l2 (c102 : F102.E) (k n : Nat) (m0 : Nat) (x0 : List (Bool)) (x3 : List (Int)) (x4 : Int) (x5 : Int) (x6 : Int) : F77.M_l2 c102 k (n + 1) m0 (F77.fr_l2 x0 x3 x4 x5 x6) = F77.b_l2 c102 (fun x0 x3 x4 x5 x6 => F77.M_l2 c102 k n m0 (F77.fr_l2 x0 x3 x4 x5 x6)) (fun x0 x3 x4 => F77.M_l0 c102 k m0  (F77.fr_l0 x0 x3 x4)) x0 x3 x4 x5 x6 := by kernel_rfl
theorem F77.e_l2 (c102 : F102.E) (k n : Nat) (m0 : Nat) (x0 : List (Bool)) (x3 : List (Int)) (x4 : Int) (x5 : Int) (x6 : Int) : F77.M_l2 c102 k n m0 (F77.fr_l2 x0 x3 x4 x5 x6) = F77.l2 c102 k (fun x0 x3 x4 => F77.M_l0 c102 k m0  (F77.fr_l0 x0 x3 x4)) n x0 x3 x4 x5 x6 := by
  induction n generalizing x0 x3 x4 x5 x6 with
  | zero => rw [F77.z_l2]; rfl
  | succ n ih =>
    rw [F77.r_l2]
    simp only [ih]
    rfl
theorem F77.e_l0 (c102 : F102.E) (k n : Nat)  (x0 : List (Bool)) (x3 : List (Int)) (x4 : Int) : F77.M_l0 c102 k n  (F77.fr_l0 x0 x3 x4) = F77.l0 c102 k  n x0 x3 x4 := by
  induction n generalizing x0 x3 x4 with
  | zero => rw [F77.z_l0]; rfl
  | succ n ih =>
    rw [F77.r_l0]
    simp only [F77.e_l2, ih]
    rfl
theorem F77.e (c102 : F102.E) (k : Nat) (a0 : List (Bool)) : fn (F77.C c102) k Tryz.f77 F77.A F77.R a0 = F77.f c102 k a0 := by
  rw [F77.r]
  simp only [F77.e_l0]
  rfl
theorem F77.ty (c102 : F102.E) : TyOk Tryz.prog (F77.C c102) := tyOk_of (by kernel_rfl)
def F77.u (k : Nat) : F77.E := fun y => F77.f (F102.u k) k y
theorem F77.sound (k : Nat) : Sound Tryz.prog ⟨77, F77.A, F77.R, F77.u k⟩ := by
  have h := fn_sound (k := k) («as» := F77.A) (rs := F77.R) (F77.ty (F102.u k)) (fun E h => by
    simp only [F77.C, List.mem_cons, List.not_mem_nil, or_false] at h
    rcases h with rfl
    · exact F102.sound k) mixed Tryz.func77 (by kernel_rfl) (by kernel_rfl)
  have e : fn (F77.C (F102.u k)) k Tryz.f77 F77.A F77.R = F77.u k := by
    funext y
    exact F77.e (F102.u k) k y
  rw [e] at h
  exact h
/-! ### brindlewood/brindlewoodref3.Number: f49 -/
abbrev F49.A : List Sh := [(.d (.int .i64))]
abbrev F49.R : List Sh := [(.d (.pair .bool (.sl 3 (.int .i64))))]
abbrev F49.E : Type := (Int) → Option X_Int
def F49.C (c77 : F77.E) : Ctx := { ty := [(3, (.int .i64)), (76, (.pair .bool (.sl 3 (.int .i64)))), (103, (.sl 4 .bool))], nf := [(76, 2)], by_ := [(4, 1)], env := [⟨77, F77.A, F77.R, c77⟩], spec := [(0, [.d 0 (.int .i64), .bx 2 600002 (.pair (.d .bool) (.o 3 (.int .i64))), .o 3 500003 4 .bool, .d 4 .bool])] }
noncomputable def F49.code : Code := Func.code Tryz.f49
noncomputable def F49.fin (c77 : F77.E) := kfin (F49.C c77) Tryz.f49 F49.A F49.R
def F49.b (c77 : F77.E) (r_l0 : (Int) → X_Int → (List (Bool)) → (Bool) → Option X_Int) (a0 : Int) : Option X_Int :=
 r_l0 a0 (false, ([] : List (Int))) ([] : List (Bool)) (decide (a0 < (0 : Int)))
def F49.b_l0 (c77 : F77.E) (n_l0 : (Int) → X_Int → (List (Bool)) → (Bool) → Option X_Int) (x0 : Int) (x2 : (Bool) × (List (Int))) (x3 : List (Bool)) (x4 : Bool) : Option X_Int :=
 bif (x0 != (0 : Int)) then
 if (List.length x3) ≤ (List.length x3) ∧ ((List.length x3) + (List.length (List.take 1 ([((Int.tmod x0 (2 : Int)) != (0 : Int))] : List (Bool))))) * 1 ≤ LIM then
 n_l0 (IntKind.i64.wrap (Int.tdiv x0 (2 : Int))) (x2.1, (List.take (List.length x2.2) x2.2)) (List.take (List.length (List.append (List.take (List.length x3) x3) (List.take 1 ([((Int.tmod x0 (2 : Int)) != (0 : Int))] : List (Bool))))) (List.append (List.take (List.length x3) x3) (List.take 1 ([((Int.tmod x0 (2 : Int)) != (0 : Int))] : List (Bool))))) x4
 else none
 else
 (c77 (List.take (List.length x3) x3)).bind fun y1 =>
 some (x4, y1)
def F49.c (c77 : F77.E) (r_l0 : (Int) → X_Int → (List (Bool)) → (Bool) → Option X_Int) (a0 : Int) : Option X_Int :=
 r_l0 a0 (false, ([] : List Int)) ([] : List Bool) (decide (a0 < (0 : Int)))
theorem F49.q (c77 : F77.E) (r_l0 : (Int) → X_Int → (List (Bool)) → (Bool) → Option X_Int) (a0 : Int) : F49.b c77 r_l0 a0 = F49.c c77 r_l0 a0 := by
  simp only [F49.b, F49.c, List.take_length, take_one, Nat.zero_add, Int.toNat_natCast, Int.toNat_zero, List.drop_zero, List.append_eq, Nat.le_refl, Int.le_refl, true_and, and_true, zero_le_one, if_true, prod_eta, Int.natCast_zero]
def F49.c_l0 (c77 : F77.E) (n_l0 : (Int) → X_Int → (List (Bool)) → (Bool) → Option X_Int) (x0 : Int) (x2 : (Bool) × (List (Int))) (x3 : List (Bool)) (x4 : Bool) : Option X_Int :=
 bif (x0 != (0 : Int)) then
 if ((List.length x3) + (List.length ([((Int.tmod x0 (2 : Int)) != (0 : Int))] : List Bool))) * 1 ≤ LIM then
 n_l0 (IntKind.i64.wrap (Int.tdiv x0 (2 : Int))) x2 (x3 ++ ([((Int.tmod x0 (2 : Int)) != (0 : Int))] : List Bool)) x4
 else none
 else
 (c77 x3).bind fun y1 =>
 some (x4, y1)
theorem F49.q_l0 (c77 : F77.E) (n_l0 : (Int) → X_Int → (List (Bool)) → (Bool) → Option X_Int) (x0 : Int) (x2 : (Bool) × (List (Int))) (x3 : List (Bool)) (x4 : Bool) : F49.b_l0 c77 n_l0 x0 x2 x3 x4 = F49.c_l0 c77 n_l0 x0 x2 x3 x4 := by
  simp only [F49.b_l0, F49.c_l0, List.take_length, take_one, Nat.zero_add, Int.toNat_natCast, Int.toNat_zero, List.drop_zero, List.append_eq, Nat.le_refl, Int.le_refl, true_and, and_true, zero_le_one, if_true, prod_eta, Int.natCast_zero]
def F49.l0 (c77 : F77.E) (k : Nat)  : Nat → (Int) → X_Int → (List (Bool)) → (Bool) → Option X_Int
  | 0, _, _, _, _ => none
  | n + 1, x0, x2, x3, x4 => F49.b_l0 c77 (fun x0 x2 x3 x4 => F49.l0 c77 k  n x0 x2 x3 x4) x0 x2 x3 x4
def F49.f (c77 : F77.E) (k : Nat) (a0 : Int) : Option X_Int := F49.b c77 (F49.l0 c77 k k) a0
noncomputable def F49.M_l0 (c77 : F77.E) (k n : Nat)  (s : St) : Option X_Int := atLoop (F49.C c77) k n [1, 1, 1, 0, 0] [] F49.code (F49.fin c77) s
noncomputable def F49.fr_l0 (x0 : Int) (x2 : (Bool) × (List (Int))) (x3 : List (Bool)) (x4 : Bool) : St := ⟨(((((List.replicate 21 V.un).set 0 (V.dat (.int .i64) x0)).set 2 (V.bp 600002 0 [])).set 3 (V.ref 500003 0 0 (List.length x3))).set 4 (V.dat .bool x4)), [⟨500003, 0, .arr 4 .bool x3⟩, ⟨600002, 0, .box (V.st (V.dat .bool x2.1) (V.ref 11600032 0 0 (List.length x2.2)))⟩, ⟨11600032, 0, .arr 3 (.int .i64) x2.2⟩]⟩
theorem F49.r (c77 : F77.E) (k : Nat) (a0 : Int) : fn (F49.C c77) k Tryz.f49 F49.A F49.R a0 = F49.b c77 (fun x0 x2 x3 x4 => F49.M_l0 c77 k k  (F49.fr_l0 x0 x2 x3 x4)) a0 := by kernel_rfl
theorem F49.z_l0 (c77 : F77.E) (k : Nat)  (s : St) : F49.M_l0 c77 k 0  s = none := by kernel_rfl
theorem F49.r_l0 (c77 : F77.E) (k n : Nat)  (x0 : Int) (x2 : (Bool) × (List (Int))) (x3 : List (Bool)) (x4 : Bool) : F49.M_l0 c77 k (n + 1)  (F49.fr_l0 x0 x2 x3 x4) = F49.b_l0 c77 (fun x0 x2 x3 x4 => F49.M_l0 c77 k n  (F49.fr_l0 x0 x2 x3 x4)) x0 x2 x3 x4 := by kernel_rfl
theorem F49.e_l0 (c77 : F77.E) (k n : Nat)  (x0 : Int) (x2 : (Bool) × (List (Int))) (x3 : List (Bool)) (x4 : Bool) : F49.M_l0 c77 k n  (F49.fr_l0 x0 x2 x3 x4) = F49.l0 c77 k  n x0 x2 x3 x4 := by
  induction n generalizing x0 x2 x3 x4 with
  | zero => rw [F49.z_l0]; rfl
  | succ n ih =>
    rw [F49.r_l0]
    simp only [ih]
    rfl
theorem F49.e (c77 : F77.E) (k : Nat) (a0 : Int) : fn (F49.C c77) k Tryz.f49 F49.A F49.R a0 = F49.f c77 k a0 := by
  rw [F49.r]
  simp only [F49.e_l0]
  rfl
theorem F49.ty (c77 : F77.E) : TyOk Tryz.prog (F49.C c77) := tyOk_of (by kernel_rfl)
def F49.u (k : Nat) : F49.E := fun y => F49.f (F77.u k) k y
theorem F49.sound (k : Nat) : Sound Tryz.prog ⟨49, F49.A, F49.R, F49.u k⟩ := by
  have h := fn_sound (k := k) («as» := F49.A) (rs := F49.R) (F49.ty (F77.u k)) (fun E h => by
    simp only [F49.C, List.mem_cons, List.not_mem_nil, or_false] at h
    rcases h with rfl
    · exact F77.sound k) mixed Tryz.func49 (by kernel_rfl) (by kernel_rfl)
  have e : fn (F49.C (F77.u k)) k Tryz.f49 F49.A F49.R = F49.u k := by
    funext y
    exact F49.e (F77.u k) k y
  rw [e] at h
  exact h
/-! ### brindlewood/brindlewoodref3.Limbs: f76 -/
abbrev F76.A : List Sh := [(.d (.sl 3 (.int .i64)))]
abbrev F76.R : List Sh := [(.d (.sl 72 (.int .u32)))]
abbrev F76.E : Type := (List (Int)) → Option (List (Int))
def F76.C  : Ctx := { ty := [(3, (.int .i64)), (25, (.sl 72 (.int .u32))), (72, (.int .u32)), (74, (.sl 3 (.int .i64)))], nf := [], by_ := [(3, 8), (72, 4)], env := [], spec := [(0, [.d 0 (.sl 3 (.int .i64)), .o 3 500003 72 (.int .u32), .d 4 (.int .i64)]), (100008, [.d 0 (.sl 3 (.int .i64)), .o 3 500003 72 (.int .u32), .d 4 (.int .i64), .d 5 (.int .u32)])] }
noncomputable def F76.code : Code := Func.code Tryz.f76
noncomputable def F76.fin  := kfin (F76.C ) Tryz.f76 F76.A F76.R
def F76.b  (r_l0 : (List (Int)) → (List (Int)) → (Int) → Option (List (Int))) (a0 : List (Int)) : Option (List (Int)) :=
 r_l0 a0 ([] : List (Int)) (0 : Int)
def F76.b_l0  (r_g8 : (List (Int)) → (List (Int)) → (Int) → (Int) → Option (List (Int))) (x0 : List (Int)) (x3 : List (Int)) (x4 : Int) : Option (List (Int)) :=
 bif (decide (x4 < ((List.length x0) : Int))) then
 if 0 ≤ x4 ∧ x4 < ((List.length x0) : Int) then
 bif (decide ((IntKind.i64.wrap (x4 + (1 : Int))) < ((List.length x0) : Int))) then
 if 0 ≤ (IntKind.i64.wrap (x4 + (1 : Int))) ∧ (IntKind.i64.wrap (x4 + (1 : Int))) < ((List.length x0) : Int) then
 r_g8 x0 (List.take (List.length x3) x3) x4 (IntKind.u32.wrap ((IntKind.u32.wrap (List.getD x0 (Int.toNat x4) (0 : Int))) + (IntKind.u32.wrap ((IntKind.u32.wrap (List.getD x0 (Int.toNat (IntKind.i64.wrap (x4 + (1 : Int)))) (0 : Int))) * (65536 : Int)))))
 else none
 else
 r_g8 x0 (List.take (List.length x3) x3) x4 (IntKind.u32.wrap (List.getD x0 (Int.toNat x4) (0 : Int)))
 else none
 else
 some (List.take (List.length x3) x3)
def F76.b_g8  (n_l0 : (List (Int)) → (List (Int)) → (Int) → Option (List (Int))) (x0 : List (Int)) (x3 : List (Int)) (x4 : Int) (x5 : Int) : Option (List (Int)) :=
 if (List.length x3) ≤ (List.length x3) ∧ ((List.length x3) + (List.length (List.take 1 ([x5] : List (Int))))) * 4 ≤ LIM then
 n_l0 x0 (List.take (List.length (List.append (List.take (List.length x3) x3) (List.take 1 ([x5] : List (Int))))) (List.append (List.take (List.length x3) x3) (List.take 1 ([x5] : List (Int))))) (IntKind.i64.wrap (x4 + (2 : Int)))
 else none
def F76.c  (r_l0 : (List (Int)) → (List (Int)) → (Int) → Option (List (Int))) (a0 : List (Int)) : Option (List (Int)) :=
 r_l0 a0 ([] : List Int) (0 : Int)
theorem F76.q  (r_l0 : (List (Int)) → (List (Int)) → (Int) → Option (List (Int))) (a0 : List (Int)) : F76.b  r_l0 a0 = F76.c  r_l0 a0 := by
  simp only [F76.b, F76.c, List.take_length, take_one, Nat.zero_add, Int.toNat_natCast, Int.toNat_zero, List.drop_zero, List.append_eq, Nat.le_refl, Int.le_refl, true_and, and_true, zero_le_one, if_true, prod_eta, Int.natCast_zero]
def F76.c_l0  (r_g8 : (List (Int)) → (List (Int)) → (Int) → (Int) → Option (List (Int))) (x0 : List (Int)) (x3 : List (Int)) (x4 : Int) : Option (List (Int)) :=
 bif (decide (x4 < ((List.length x0) : Int))) then
 if 0 ≤ x4 ∧ x4 < ((List.length x0) : Int) then
 bif (decide ((IntKind.i64.wrap (x4 + (1 : Int))) < ((List.length x0) : Int))) then
 if 0 ≤ (IntKind.i64.wrap (x4 + (1 : Int))) ∧ (IntKind.i64.wrap (x4 + (1 : Int))) < ((List.length x0) : Int) then
 r_g8 x0 x3 x4 (IntKind.u32.wrap ((IntKind.u32.wrap (List.getD x0 (Int.toNat x4) (0 : Int))) + (IntKind.u32.wrap ((IntKind.u32.wrap (List.getD x0 (Int.toNat (IntKind.i64.wrap (x4 + (1 : Int)))) (0 : Int))) * (65536 : Int)))))
 else none
 else
 r_g8 x0 x3 x4 (IntKind.u32.wrap (List.getD x0 (Int.toNat x4) (0 : Int)))
 else none
 else
 some x3
theorem F76.q_l0  (r_g8 : (List (Int)) → (List (Int)) → (Int) → (Int) → Option (List (Int))) (x0 : List (Int)) (x3 : List (Int)) (x4 : Int) : F76.b_l0  r_g8 x0 x3 x4 = F76.c_l0  r_g8 x0 x3 x4 := by
  simp only [F76.b_l0, F76.c_l0, List.take_length, take_one, Nat.zero_add, Int.toNat_natCast, Int.toNat_zero, List.drop_zero, List.append_eq, Nat.le_refl, Int.le_refl, true_and, and_true, zero_le_one, if_true, prod_eta, Int.natCast_zero]
def F76.c_g8  (n_l0 : (List (Int)) → (List (Int)) → (Int) → Option (List (Int))) (x0 : List (Int)) (x3 : List (Int)) (x4 : Int) (x5 : Int) : Option (List (Int)) :=
 if ((List.length x3) + (List.length ([x5] : List Int))) * 4 ≤ LIM then
 n_l0 x0 (x3 ++ ([x5] : List Int)) (IntKind.i64.wrap (x4 + (2 : Int)))
 else none
theorem F76.q_g8  (n_l0 : (List (Int)) → (List (Int)) → (Int) → Option (List (Int))) (x0 : List (Int)) (x3 : List (Int)) (x4 : Int) (x5 : Int) : F76.b_g8  n_l0 x0 x3 x4 x5 = F76.c_g8  n_l0 x0 x3 x4 x5 := by
  simp only [F76.b_g8, F76.c_g8, List.take_length, take_one, Nat.zero_add, Int.toNat_natCast, Int.toNat_zero, List.drop_zero, List.append_eq, Nat.le_refl, Int.le_refl, true_and, and_true, zero_le_one, if_true, prod_eta, Int.natCast_zero]
def F76.g8  (k : Nat) (n_l0 : (List (Int)) → (List (Int)) → (Int) → Option (List (Int))) (x0 : List (Int)) (x3 : List (Int)) (x4 : Int) (x5 : Int) : Option (List (Int)) := gate k (F76.b_g8  n_l0 x0 x3 x4 x5)
def F76.l0  (k : Nat)  : Nat → (List (Int)) → (List (Int)) → (Int) → Option (List (Int))
  | 0, _, _, _ => none
  | n + 1, x0, x3, x4 => F76.b_l0  (F76.g8  k (fun x0 x3 x4 => F76.l0  k  n x0 x3 x4)) x0 x3 x4
def F76.f  (k : Nat) (a0 : List (Int)) : Option (List (Int)) := F76.b  (F76.l0  k k) a0
noncomputable def F76.M_l0  (k n : Nat)  (s : St) : Option (List (Int)) := atLoop (F76.C ) k n [1, 1, 0, 1, 0] [] F76.code (F76.fin ) s
noncomputable def F76.fr_l0 (x0 : List (Int)) (x3 : List (Int)) (x4 : Int) : St := ⟨((((List.replicate 36 V.un).set 0 (V.dat (.sl 3 (.int .i64)) x0)).set 3 (V.ref 500003 0 0 (List.length x3))).set 4 (V.dat (.int .i64) x4)), [⟨500003, 0, .arr 72 (.int .u32) x3⟩]⟩
noncomputable def F76.M_g8  (k : Nat) (m0 : Nat) (s : St) : Option (List (Int)) := atGate (F76.C ) k [1, 1, 0, 1, 0, 0, 1, 0, 0, 1, 1] [m0] F76.code (F76.fin ) s
noncomputable def F76.fr_g8 (x0 : List (Int)) (x3 : List (Int)) (x4 : Int) (x5 : Int) : St := ⟨(((((List.replicate 36 V.un).set 0 (V.dat (.sl 3 (.int .i64)) x0)).set 3 (V.ref 500003 0 0 (List.length x3))).set 4 (V.dat (.int .i64) x4)).set 5 (V.dat (.int .u32) x5)), [⟨500003, 0, .arr 72 (.int .u32) x3⟩]⟩
theorem F76.r  (k : Nat) (a0 : List (Int)) : fn (F76.C ) k Tryz.f76 F76.A F76.R a0 = F76.b  (fun x0 x3 x4 => F76.M_l0  k k  (F76.fr_l0 x0 x3 x4)) a0 := by kernel_rfl
theorem F76.z_l0  (k : Nat)  (s : St) : F76.M_l0  k 0  s = none := by kernel_rfl
theorem F76.r_l0  (k n : Nat)  (x0 : List (Int)) (x3 : List (Int)) (x4 : Int) : F76.M_l0  k (n + 1)  (F76.fr_l0 x0 x3 x4) = F76.b_l0  (fun x0 x3 x4 x5 => F76.M_g8  k  n (F76.fr_g8 x0 x3 x4 x5)) x0 x3 x4 := by kernel_rfl
theorem F76.r_g8  (k : Nat) (m0 : Nat) (x0 : List (Int)) (x3 : List (Int)) (x4 : Int) (x5 : Int) : F76.M_g8  k m0 (F76.fr_g8 x0 x3 x4 x5) = gate k (F76.b_g8  (fun x0 x3 x4 => F76.M_l0  k m0  (F76.fr_l0 x0 x3 x4)) x0 x3 x4 x5) := by kernel_rfl
theorem F76.e_g8  (k : Nat) (m0 : Nat) (x0 : List (Int)) (x3 : List (Int)) (x4 : Int) (x5 : Int) : F76.M_g8  k m0 (F76.fr_g8 x0 x3 x4 x5) = F76.g8  k (fun x0 x3 x4 => F76.M_l0  k m0  (F76.fr_l0 x0 x3 x4)) x0 x3 x4 x5 := by
  rw [F76.r_g8]
  rfl
theorem F76.e_l0  (k n : Nat)  (x0 : List (Int)) (x3 : List (Int)) (x4 : Int) : F76.M_l0  k n  (F76.fr_l0 x0 x3 x4) = F76.l0  k  n x0 x3 x4 := by
  induction n generalizing x0 x3 x4 with
  | zero => rw [F76.z_l0]; rfl
  | succ n ih =>
    rw [F76.r_l0]
    simp only [F76.e_g8, ih]
    rfl
theorem F76.e  (k : Nat) (a0 : List (Int)) : fn (F76.C ) k Tryz.f76 F76.A F76.R a0 = F76.f  k a0 := by
  rw [F76.r]
  simp only [F76.e_l0]
  rfl
theorem F76.ty  : TyOk Tryz.prog (F76.C ) := tyOk_of (by kernel_rfl)
def F76.u (k : Nat) : F76.E := fun y => F76.f  k y
theorem F76.sound (k : Nat) : Sound Tryz.prog ⟨76, F76.A, F76.R, F76.u k⟩ := by
  have h := fn_sound (k := k) («as» := F76.A) (rs := F76.R) (F76.ty ) (fun E h => by cases h) mixed Tryz.func76 (by kernel_rfl) (by kernel_rfl)
  have e : fn (F76.C ) k Tryz.f76 F76.A F76.R = F76.u k := by
    funext y
    exact F76.e  k y
  rw [e] at h
  exact h
/-! ### brindlewood/brindlewoodref7.Whole: f48 -/
abbrev F48.A : List Sh := [(.d (.pair .bool (.sl 3 (.int .i64))))]
abbrev F48.R : List Sh := [(.d Y_Value)]
abbrev F48.E : Type := X_Int → Option X_Value
def F48.C (c76 : F76.E) : Ctx := { ty := [(3, (.int .i64)), (4, .bool), (27, Y_Int), (29, Y_Value), (74, (.sl 3 (.int .i64))), (76, (.pair .bool (.sl 3 (.int .i64))))], nf := [(27, 2), (29, 5), (76, 2)], by_ := [(3, 8)], env := [⟨76, F76.A, F76.R, c76⟩], spec := [] }
noncomputable def F48.code : Code := Func.code Tryz.f48
noncomputable def F48.fin (c76 : F76.E) := kfin (F48.C c76) Tryz.f48 F48.A F48.R
def F48.b (c76 : F76.E)  (a0 : (Bool) × (List (Int))) : Option X_Value :=
 bif a0.1 then
 (c76 a0.2).bind fun y1 =>
 some ((2 : Int), (((decide (((List.length a0.2) : Int) > (0 : Int))), y1), ((false, ([] : List (Int))), ([], (0 : Int)))))
 else
 (c76 a0.2).bind fun y2 =>
 some ((2 : Int), ((false, y2), ((false, ([] : List (Int))), ([], (0 : Int)))))
def F48.c (c76 : F76.E)  (a0 : (Bool) × (List (Int))) : Option X_Value :=
 bif a0.1 then
 (c76 a0.2).bind fun y1 =>
 some ((2 : Int), (((decide (((List.length a0.2) : Int) > (0 : Int))), y1), ((false, ([] : List Int)), ([], (0 : Int)))))
 else
 (c76 a0.2).bind fun y2 =>
 some ((2 : Int), ((false, y2), ((false, ([] : List Int)), ([], (0 : Int)))))
theorem F48.q (c76 : F76.E)  (a0 : (Bool) × (List (Int))) : F48.b c76 a0 = F48.c c76 a0 := by
  simp only [F48.b, F48.c, List.take_length, take_one, Nat.zero_add, Int.toNat_natCast, Int.toNat_zero, List.drop_zero, List.append_eq, Nat.le_refl, Int.le_refl, true_and, and_true, zero_le_one, if_true, prod_eta, Int.natCast_zero]
def F48.f (c76 : F76.E) (k : Nat) (a0 : (Bool) × (List (Int))) : Option X_Value := F48.b c76  a0
theorem F48.r (c76 : F76.E) (k : Nat) (a0 : (Bool) × (List (Int))) : fn (F48.C c76) k Tryz.f48 F48.A F48.R a0 = F48.b c76  a0 := by kernel_rfl
theorem F48.e (c76 : F76.E) (k : Nat) (a0 : (Bool) × (List (Int))) : fn (F48.C c76) k Tryz.f48 F48.A F48.R a0 = F48.f c76 k a0 := by
  rw [F48.r]
  rfl
theorem F48.ty (c76 : F76.E) : TyOk Tryz.prog (F48.C c76) := tyOk_of (by kernel_rfl)
def F48.u (k : Nat) : F48.E := fun y => F48.f (F76.u k) k y
theorem F48.sound (k : Nat) : Sound Tryz.prog ⟨48, F48.A, F48.R, F48.u k⟩ := by
  have h := fn_sound (k := k) («as» := F48.A) (rs := F48.R) (F48.ty (F76.u k)) (fun E h => by
    simp only [F48.C, List.mem_cons, List.not_mem_nil, or_false] at h
    rcases h with rfl
    · exact F76.sound k) mixed Tryz.func48 (by kernel_rfl) (by kernel_rfl)
  have e : fn (F48.C (F76.u k)) k Tryz.f48 F48.A F48.R = F48.u k := by
    funext y
    exact F48.e (F76.u k) k y
  rw [e] at h
  exact h
/-! ### brindlewood/brindlewoodref7.N: f16 -/
abbrev F16.A : List Sh := [(.d (.int .i64))]
abbrev F16.R : List Sh := [(.d Y_Value)]
abbrev F16.E : Type := (Int) → Option X_Value
def F16.C (c49 : F49.E) (c48 : F48.E) : Ctx := { ty := [(29, Y_Value)], nf := [], by_ := [], env := [⟨49, F49.A, F49.R, c49⟩, ⟨48, F48.A, F48.R, c48⟩], spec := [] }
noncomputable def F16.code : Code := Func.code Tryz.f16
noncomputable def F16.fin (c49 : F49.E) (c48 : F48.E) := kfin (F16.C c49 c48) Tryz.f16 F16.A F16.R
def F16.b (c49 : F49.E) (c48 : F48.E)  (a0 : Int) : Option X_Value :=
 (c49 a0).bind fun y1 =>
 (c48 y1).bind fun y2 =>
 some y2
def F16.f (c49 : F49.E) (c48 : F48.E) (k : Nat) (a0 : Int) : Option X_Value := F16.b c49 c48  a0
theorem F16.r (c49 : F49.E) (c48 : F48.E) (k : Nat) (a0 : Int) : fn (F16.C c49 c48) k Tryz.f16 F16.A F16.R a0 = F16.b c49 c48  a0 := by kernel_rfl
theorem F16.e (c49 : F49.E) (c48 : F48.E) (k : Nat) (a0 : Int) : fn (F16.C c49 c48) k Tryz.f16 F16.A F16.R a0 = F16.f c49 c48 k a0 := by
  rw [F16.r]
  rfl
theorem F16.ty (c49 : F49.E) (c48 : F48.E) : TyOk Tryz.prog (F16.C c49 c48) := tyOk_of (by kernel_rfl)
def F16.u (k : Nat) : F16.E := fun y => F16.f (F49.u k) (F48.u k) k y
theorem F16.sound (k : Nat) : Sound Tryz.prog ⟨16, F16.A, F16.R, F16.u k⟩ := by
  have h := fn_sound (k := k) («as» := F16.A) (rs := F16.R) (F16.ty (F49.u k) (F48.u k)) (fun E h => by
    simp only [F16.C, List.mem_cons, List.not_mem_nil, or_false] at h
    rcases h with rfl | rfl
    · exact F49.sound k
    · exact F48.sound k) mixed Tryz.func16 (by kernel_rfl) (by kernel_rfl)
  have e : fn (F16.C (F49.u k) (F48.u k)) k Tryz.f16 F16.A F16.R = F16.u k := by
    funext y
    exact F16.e (F49.u k) (F48.u k) k y
  rw [e] at h
  exact h
/-! ### brindlewood/heap.Text: f17 -/
abbrev F17.A : List Sh := [(.d .str)]
abbrev F17.R : List Sh := [(.d Y_Value)]
abbrev F17.E : Type := (List UInt8) → Option X_Value
def F17.C  : Ctx := { ty := [(29, Y_Value)], nf := [(29, 5)], by_ := [], env := [], spec := [] }
noncomputable def F17.code : Code := Func.code Tryz.f17
noncomputable def F17.fin  := kfin (F17.C ) Tryz.f17 F17.A F17.R
def F17.b   (a0 : List UInt8) : Option X_Value :=
 some ((4 : Int), ((false, ([] : List (Int))), ((false, ([] : List (Int))), (a0, (0 : Int)))))
def F17.f  (k : Nat) (a0 : List UInt8) : Option X_Value := F17.b   a0
theorem F17.r  (k : Nat) (a0 : List UInt8) : fn (F17.C ) k Tryz.f17 F17.A F17.R a0 = F17.b   a0 := by kernel_rfl
theorem F17.e  (k : Nat) (a0 : List UInt8) : fn (F17.C ) k Tryz.f17 F17.A F17.R a0 = F17.f  k a0 := by
  rw [F17.r]
  rfl
theorem F17.ty  : TyOk Tryz.prog (F17.C ) := tyOk_of (by kernel_rfl)
def F17.u (k : Nat) : F17.E := fun y => F17.f  k y
theorem F17.sound (k : Nat) : Sound Tryz.prog ⟨17, F17.A, F17.R, F17.u k⟩ := by
  have h := fn_sound (k := k) («as» := F17.A) (rs := F17.R) (F17.ty ) (fun E h => by cases h) mixed Tryz.func17 (by kernel_rfl) (by kernel_rfl)
  have e : fn (F17.C ) k Tryz.f17 F17.A F17.R = F17.u k := by
    funext y
    exact F17.e  k y
  rw [e] at h
  exact h
/-! ### brindlewood/brindlewoodref7.T: f18 -/
abbrev F18.A : List Sh := [(.d .str)]
abbrev F18.R : List Sh := [(.d Y_Value)]
abbrev F18.E : Type := (List UInt8) → Option X_Value
def F18.C  : Ctx := { ty := [(29, Y_Value)], nf := [(29, 5)], by_ := [], env := [], spec := [] }
noncomputable def F18.code : Code := Func.code Tryz.f18
noncomputable def F18.fin  := kfin (F18.C ) Tryz.f18 F18.A F18.R
def F18.b   (a0 : List UInt8) : Option X_Value :=
 some ((4 : Int), ((false, ([] : List (Int))), ((false, ([] : List (Int))), (a0, (0 : Int)))))
def F18.f  (k : Nat) (a0 : List UInt8) : Option X_Value := F18.b   a0
theorem F18.r  (k : Nat) (a0 : List UInt8) : fn (F18.C ) k Tryz.f18 F18.A F18.R a0 = F18.b   a0 := by kernel_rfl
theorem F18.e  (k : Nat) (a0 : List UInt8) : fn (F18.C ) k Tryz.f18 F18.A F18.R a0 = F18.f  k a0 := by
  rw [F18.r]
  rfl
theorem F18.ty  : TyOk Tryz.prog (F18.C ) := tyOk_of (by kernel_rfl)
def F18.u (k : Nat) : F18.E := fun y => F18.f  k y
theorem F18.sound (k : Nat) : Sound Tryz.prog ⟨18, F18.A, F18.R, F18.u k⟩ := by
  have h := fn_sound (k := k) («as» := F18.A) (rs := F18.R) (F18.ty ) (fun E h => by cases h) mixed Tryz.func18 (by kernel_rfl) (by kernel_rfl)
  have e : fn (F18.C ) k Tryz.f18 F18.A F18.R = F18.u k := by
    funext y
    exact F18.e  k y
  rw [e] at h
  exact h
/-! ### brindlewood/heap.Ref: f19 -/
abbrev F19.A : List Sh := [(.d (.int .i64))]
abbrev F19.R : List Sh := [(.d Y_Value)]
abbrev F19.E : Type := (Int) → Option X_Value
def F19.C  : Ctx := { ty := [(29, Y_Value)], nf := [(29, 5)], by_ := [], env := [], spec := [] }
noncomputable def F19.code : Code := Func.code Tryz.f19
noncomputable def F19.fin  := kfin (F19.C ) Tryz.f19 F19.A F19.R
def F19.b   (a0 : Int) : Option X_Value :=
 some ((6 : Int), ((false, ([] : List (Int))), ((false, ([] : List (Int))), ([], a0))))
def F19.f  (k : Nat) (a0 : Int) : Option X_Value := F19.b   a0
theorem F19.r  (k : Nat) (a0 : Int) : fn (F19.C ) k Tryz.f19 F19.A F19.R a0 = F19.b   a0 := by kernel_rfl
theorem F19.e  (k : Nat) (a0 : Int) : fn (F19.C ) k Tryz.f19 F19.A F19.R a0 = F19.f  k a0 := by
  rw [F19.r]
  rfl
theorem F19.ty  : TyOk Tryz.prog (F19.C ) := tyOk_of (by kernel_rfl)
def F19.u (k : Nat) : F19.E := fun y => F19.f  k y
theorem F19.sound (k : Nat) : Sound Tryz.prog ⟨19, F19.A, F19.R, F19.u k⟩ := by
  have h := fn_sound (k := k) («as» := F19.A) (rs := F19.R) (F19.ty ) (fun E h => by cases h) mixed Tryz.func19 (by kernel_rfl) (by kernel_rfl)
  have e : fn (F19.C ) k Tryz.f19 F19.A F19.R = F19.u k := by
    funext y
    exact F19.e  k y
  rw [e] at h
  exact h
/-! ### brindlewood/brindlewoodref7.O: f20 -/
abbrev F20.A : List Sh := [(.d (.int .i64))]
abbrev F20.R : List Sh := [(.d Y_Value)]
abbrev F20.E : Type := (Int) → Option X_Value
def F20.C  : Ctx := { ty := [(29, Y_Value)], nf := [(29, 5)], by_ := [], env := [], spec := [] }
noncomputable def F20.code : Code := Func.code Tryz.f20
noncomputable def F20.fin  := kfin (F20.C ) Tryz.f20 F20.A F20.R
def F20.b   (a0 : Int) : Option X_Value :=
 some ((6 : Int), ((false, ([] : List (Int))), ((false, ([] : List (Int))), ([], a0))))
def F20.f  (k : Nat) (a0 : Int) : Option X_Value := F20.b   a0
theorem F20.r  (k : Nat) (a0 : Int) : fn (F20.C ) k Tryz.f20 F20.A F20.R a0 = F20.b   a0 := by kernel_rfl
theorem F20.e  (k : Nat) (a0 : Int) : fn (F20.C ) k Tryz.f20 F20.A F20.R a0 = F20.f  k a0 := by
  rw [F20.r]
  rfl
theorem F20.ty  : TyOk Tryz.prog (F20.C ) := tyOk_of (by kernel_rfl)
def F20.u (k : Nat) : F20.E := fun y => F20.f  k y
theorem F20.sound (k : Nat) : Sound Tryz.prog ⟨20, F20.A, F20.R, F20.u k⟩ := by
  have h := fn_sound (k := k) («as» := F20.A) (rs := F20.R) (F20.ty ) (fun E h => by cases h) mixed Tryz.func20 (by kernel_rfl) (by kernel_rfl)
  have e : fn (F20.C ) k Tryz.f20 F20.A F20.R = F20.u k := by
    funext y
    exact F20.e  k y
  rw [e] at h
  exact h
/-! ### brindlewood/heap.isName: f50 -/
abbrev F50.A : List Sh := [(.d .str)]
abbrev F50.R : List Sh := [(.d .bool)]
abbrev F50.E : Type := (List UInt8) → Option (Bool)
def F50.C  : Ctx := { ty := [(3, (.int .i64)), (5, (.int .u8)), (9, .str), (105, (.sl 5 (.int .u8)))], nf := [], by_ := [(5, 1)], env := [], spec := [(0, [.d 23 (.sl 5 (.int .u8)), .d 24 (.int .i64), .d 25 (.int .i64)]), (100008, [.d 23 (.sl 5 (.int .u8)), .d 24 (.int .i64), .d 25 (.int .i64)])] }
noncomputable def F50.code : Code := Func.code Tryz.f50
noncomputable def F50.fin  := kfin (F50.C ) Tryz.f50 F50.A F50.R
def F50.b  (r_l0 : (List (Int)) → (Int) → (Int) → Option (Bool)) (a0 : List UInt8) : Option (Bool) :=
 bif (a0 == []) then
 some false
 else
 bif (decide (((List.length a0) : Int) > (24 : Int))) then
 some false
 else
 if 0 ≤ (0 : Int) ∧ (0 : Int) < ((List.length a0) : Int) then
 bif (decide (((List.getD a0 (Int.toNat (0 : Int)) 0).toNat : Int) ≥ (48 : Int))) then
 if 0 ≤ (0 : Int) ∧ (0 : Int) < ((List.length a0) : Int) then
 bif (decide (((List.getD a0 (Int.toNat (0 : Int)) 0).toNat : Int) ≤ (57 : Int))) then
 some false
 else
 r_l0 (List.map (fun c : UInt8 => (c.toNat : Int)) a0) ((List.length (List.map (fun c : UInt8 => (c.toNat : Int)) a0)) : Int) (0 : Int)
 else none
 else
 r_l0 (List.map (fun c : UInt8 => (c.toNat : Int)) a0) ((List.length (List.map (fun c : UInt8 => (c.toNat : Int)) a0)) : Int) (0 : Int)
 else none
def F50.b_l0  (r_g8 : (List (Int)) → (Int) → (Int) → Option (Bool)) (x23 : List (Int)) (x24 : Int) (x25 : Int) : Option (Bool) :=
 bif (decide (x25 < x24)) then
 if 0 ≤ x25 ∧ x25 < ((List.length x23) : Int) then
 bif (decide ((List.getD x23 (Int.toNat x25) (0 : Int)) < (97 : Int))) then
 bif (decide ((List.getD x23 (Int.toNat x25) (0 : Int)) < (65 : Int))) then
 bif (decide ((List.getD x23 (Int.toNat x25) (0 : Int)) < (48 : Int))) then
 bif ((List.getD x23 (Int.toNat x25) (0 : Int)) != (95 : Int)) then
 some false
 else
 r_g8 x23 x24 x25
 else
 bif (decide ((List.getD x23 (Int.toNat x25) (0 : Int)) > (57 : Int))) then
 bif ((List.getD x23 (Int.toNat x25) (0 : Int)) != (95 : Int)) then
 some false
 else
 r_g8 x23 x24 x25
 else
 r_g8 x23 x24 x25
 else
 bif (decide ((List.getD x23 (Int.toNat x25) (0 : Int)) > (90 : Int))) then
 bif (decide ((List.getD x23 (Int.toNat x25) (0 : Int)) < (48 : Int))) then
 bif ((List.getD x23 (Int.toNat x25) (0 : Int)) != (95 : Int)) then
 some false
 else
 r_g8 x23 x24 x25
 else
 bif (decide ((List.getD x23 (Int.toNat x25) (0 : Int)) > (57 : Int))) then
 bif ((List.getD x23 (Int.toNat x25) (0 : Int)) != (95 : Int)) then
 some false
 else
 r_g8 x23 x24 x25
 else
 r_g8 x23 x24 x25
 else
 r_g8 x23 x24 x25
 else
 bif (decide ((List.getD x23 (Int.toNat x25) (0 : Int)) > (122 : Int))) then
 bif (decide ((List.getD x23 (Int.toNat x25) (0 : Int)) < (65 : Int))) then
 bif (decide ((List.getD x23 (Int.toNat x25) (0 : Int)) < (48 : Int))) then
 bif ((List.getD x23 (Int.toNat x25) (0 : Int)) != (95 : Int)) then
 some false
 else
 r_g8 x23 x24 x25
 else
 bif (decide ((List.getD x23 (Int.toNat x25) (0 : Int)) > (57 : Int))) then
 bif ((List.getD x23 (Int.toNat x25) (0 : Int)) != (95 : Int)) then
 some false
 else
 r_g8 x23 x24 x25
 else
 r_g8 x23 x24 x25
 else
 bif (decide ((List.getD x23 (Int.toNat x25) (0 : Int)) > (90 : Int))) then
 bif (decide ((List.getD x23 (Int.toNat x25) (0 : Int)) < (48 : Int))) then
 bif ((List.getD x23 (Int.toNat x25) (0 : Int)) != (95 : Int)) then
 some false
 else
 r_g8 x23 x24 x25
 else
 bif (decide ((List.getD x23 (Int.toNat x25) (0 : Int)) > (57 : Int))) then
 bif ((List.getD x23 (Int.toNat x25) (0 : Int)) != (95 : Int)) then
 some false
 else
 r_g8 x23 x24 x25
 else
 r_g8 x23 x24 x25
 else
 r_g8 x23 x24 x25
 else
 r_g8 x23 x24 x25
 else none
 else
 some true
def F50.b_g8  (n_l0 : (List (Int)) → (Int) → (Int) → Option (Bool)) (x23 : List (Int)) (x24 : Int) (x25 : Int) : Option (Bool) :=
 n_l0 x23 x24 (IntKind.i64.wrap (x25 + (1 : Int)))
def F50.c  (r_l0 : (List (Int)) → (Int) → (Int) → Option (Bool)) (a0 : List UInt8) : Option (Bool) :=
 bif (a0 == []) then
 some false
 else
 bif (decide (((List.length a0) : Int) > (24 : Int))) then
 some false
 else
 if (0 : Int) < ((List.length a0) : Int) then
 bif (decide (((List.getD a0 0 0).toNat : Int) ≥ (48 : Int))) then
 if (0 : Int) < ((List.length a0) : Int) then
 bif (decide (((List.getD a0 0 0).toNat : Int) ≤ (57 : Int))) then
 some false
 else
 r_l0 (List.map (fun c : UInt8 => (c.toNat : Int)) a0) ((List.length (List.map (fun c : UInt8 => (c.toNat : Int)) a0)) : Int) (0 : Int)
 else none
 else
 r_l0 (List.map (fun c : UInt8 => (c.toNat : Int)) a0) ((List.length (List.map (fun c : UInt8 => (c.toNat : Int)) a0)) : Int) (0 : Int)
 else none
theorem F50.q  (r_l0 : (List (Int)) → (Int) → (Int) → Option (Bool)) (a0 : List UInt8) : F50.b  r_l0 a0 = F50.c  r_l0 a0 := by
  simp only [F50.b, F50.c, List.take_length, take_one, Nat.zero_add, Int.toNat_natCast, Int.toNat_zero, List.drop_zero, List.append_eq, Nat.le_refl, Int.le_refl, true_and, and_true, zero_le_one, if_true, prod_eta, Int.natCast_zero]
def F50.g8  (k : Nat) (n_l0 : (List (Int)) → (Int) → (Int) → Option (Bool)) (x23 : List (Int)) (x24 : Int) (x25 : Int) : Option (Bool) := gate k (F50.b_g8  n_l0 x23 x24 x25)
def F50.l0  (k : Nat)  : Nat → (List (Int)) → (Int) → (Int) → Option (Bool)
  | 0, _, _, _ => none
  | n + 1, x23, x24, x25 => F50.b_l0  (F50.g8  k (fun x23 x24 x25 => F50.l0  k  n x23 x24 x25)) x23 x24 x25
def F50.f  (k : Nat) (a0 : List UInt8) : Option (Bool) := F50.b  (F50.l0  k k) a0
noncomputable def F50.M_l0  (k n : Nat)  (s : St) : Option (Bool) := atLoop (F50.C ) k n [1, 1, 0, 1, 0] [] F50.code (F50.fin ) s
noncomputable def F50.fr_l0 (x23 : List (Int)) (x24 : Int) (x25 : Int) : St := ⟨((((List.replicate 56 V.un).set 23 (V.dat (.sl 5 (.int .u8)) x23)).set 24 (V.dat (.int .i64) x24)).set 25 (V.dat (.int .i64) x25)), []⟩
noncomputable def F50.M_g8  (k : Nat) (m0 : Nat) (s : St) : Option (Bool) := atGate (F50.C ) k [1, 1, 0, 1, 0, 0, 1, 1, 1] [m0] F50.code (F50.fin ) s
noncomputable def F50.fr_g8 (x23 : List (Int)) (x24 : Int) (x25 : Int) : St := ⟨((((List.replicate 56 V.un).set 23 (V.dat (.sl 5 (.int .u8)) x23)).set 24 (V.dat (.int .i64) x24)).set 25 (V.dat (.int .i64) x25)), []⟩
theorem F50.r  (k : Nat) (a0 : List UInt8) : fn (F50.C ) k Tryz.f50 F50.A F50.R a0 = F50.b  (fun x23 x24 x25 => F50.M_l0  k k  (F50.fr_l0 x23 x24 x25)) a0 := by kernel_rfl
theorem F50.z_l0  (k : Nat)  (s : St) : F50.M_l0  k 0  s = none := by kernel_rfl
theorem F50.r_l0  (k n : Nat)  (x23 : List (Int)) (x24 : Int) (x25 : Int) : F50.M_l0  k (n + 1)  (F50.fr_l0 x23 x24 x25) = F50.b_l0  (fun x23 x24 x25 => F50.M_g8  k  n (F50.fr_g8 x23 x24 x25)) x23 x24 x25 := by kernel_rfl
theorem F50.r_g8  (k : Nat) (m0 : Nat) (x23 : List (Int)) (x24 : Int) (x25 : Int) : F50.M_g8  k m0 (F50.fr_g8 x23 x24 x25) = gate k (F50.b_g8  (fun x23 x24 x25 => F50.M_l0  k m0  (F50.fr_l0 x23 x24 x25)) x23 x24 x25) := by kernel_rfl
theorem F50.e_g8  (k : Nat) (m0 : Nat) (x23 : List (Int)) (x24 : Int) (x25 : Int) : F50.M_g8  k m0 (F50.fr_g8 x23 x24 x25) = F50.g8  k (fun x23 x24 x25 => F50.M_l0  k m0  (F50.fr_l0 x23 x24 x25)) x23 x24 x25 := by
  rw [F50.r_g8]
  rfl
theorem F50.e_l0  (k n : Nat)  (x23 : List (Int)) (x24 : Int) (x25 : Int) : F50.M_l0  k n  (F50.fr_l0 x23 x24 x25) = F50.l0  k  n x23 x24 x25 := by
  induction n generalizing x23 x24 x25 with
  | zero => rw [F50.z_l0]; rfl
  | succ n ih =>
    rw [F50.r_l0]
    simp only [F50.e_g8, ih]
    rfl
theorem F50.e  (k : Nat) (a0 : List UInt8) : fn (F50.C ) k Tryz.f50 F50.A F50.R a0 = F50.f  k a0 := by
  rw [F50.r]
  simp only [F50.e_l0]
  rfl
theorem F50.ty  : TyOk Tryz.prog (F50.C ) := tyOk_of (by kernel_rfl)
def F50.u (k : Nat) : F50.E := fun y => F50.f  k y
theorem F50.sound (k : Nat) : Sound Tryz.prog ⟨50, F50.A, F50.R, F50.u k⟩ := by
  have h := fn_sound (k := k) («as» := F50.A) (rs := F50.R) (F50.ty ) (fun E h => by cases h) mixed Tryz.func50 (by kernel_rfl) (by kernel_rfl)
  have e : fn (F50.C ) k Tryz.f50 F50.A F50.R = F50.u k := by
    funext y
    exact F50.e  k y
  rw [e] at h
  exact h
/-! ### brindlewood/heap.IsName: f23 -/
abbrev F23.A : List Sh := [(.d .str)]
abbrev F23.R : List Sh := [(.d .bool)]
abbrev F23.E : Type := (List UInt8) → Option (Bool)
def F23.C (c50 : F50.E) : Ctx := { ty := [], nf := [], by_ := [], env := [⟨50, F50.A, F50.R, c50⟩], spec := [] }
noncomputable def F23.code : Code := Func.code Tryz.f23
noncomputable def F23.fin (c50 : F50.E) := kfin (F23.C c50) Tryz.f23 F23.A F23.R
def F23.b (c50 : F50.E)  (a0 : List UInt8) : Option (Bool) :=
 (c50 a0).bind fun y1 =>
 some y1
def F23.f (c50 : F50.E) (k : Nat) (a0 : List UInt8) : Option (Bool) := F23.b c50  a0
theorem F23.r (c50 : F50.E) (k : Nat) (a0 : List UInt8) : fn (F23.C c50) k Tryz.f23 F23.A F23.R a0 = F23.b c50  a0 := by kernel_rfl
theorem F23.e (c50 : F50.E) (k : Nat) (a0 : List UInt8) : fn (F23.C c50) k Tryz.f23 F23.A F23.R a0 = F23.f c50 k a0 := by
  rw [F23.r]
  rfl
theorem F23.ty (c50 : F50.E) : TyOk Tryz.prog (F23.C c50) := tyOk_of (by kernel_rfl)
def F23.u (k : Nat) : F23.E := fun y => F23.f (F50.u k) k y
theorem F23.sound (k : Nat) : Sound Tryz.prog ⟨23, F23.A, F23.R, F23.u k⟩ := by
  have h := fn_sound (k := k) («as» := F23.A) (rs := F23.R) (F23.ty (F50.u k)) (fun E h => by
    simp only [F23.C, List.mem_cons, List.not_mem_nil, or_false] at h
    rcases h with rfl
    · exact F50.sound k) mixed Tryz.func23 (by kernel_rfl) (by kernel_rfl)
  have e : fn (F23.C (F50.u k)) k Tryz.f23 F23.A F23.R = F23.u k := by
    funext y
    exact F23.e (F50.u k) k y
  rw [e] at h
  exact h
/-! ### brindlewood/heap.parent: f53 -/
abbrev F53.A : List Sh := [(.d (.int .i64))]
abbrev F53.R : List Sh := [(.d (.int .i64))]
abbrev F53.E : Type := (Int) → Option (Int)
def F53.C  : Ctx := { ty := [(3, (.int .i64))], nf := [], by_ := [], env := [], spec := [] }
noncomputable def F53.code : Code := Func.code Tryz.f53
noncomputable def F53.fin  := kfin (F53.C ) Tryz.f53 F53.A F53.R
def F53.b   (a0 : Int) : Option (Int) :=
 bif (a0 == (29 : Int)) then
 bif (a0 == (29 : Int)) then
 some (28 : Int)
 else
 bif (a0 == (35 : Int)) then
 some (34 : Int)
 else
 bif (a0 == (38 : Int)) then
 bif (a0 == (38 : Int)) then
 some (37 : Int)
 else
 bif (a0 == (41 : Int)) then
 some (40 : Int)
 else
 bif (a0 == (43 : Int)) then
 some (42 : Int)
 else
 bif (decide (a0 > (31 : Int))) then
 some (31 : Int)
 else
 some (0 : Int)
 else
 bif (a0 == (39 : Int)) then
 some (37 : Int)
 else
 bif (a0 == (41 : Int)) then
 some (40 : Int)
 else
 bif (a0 == (43 : Int)) then
 some (42 : Int)
 else
 bif (decide (a0 > (31 : Int))) then
 some (31 : Int)
 else
 some (0 : Int)
 else
 bif (a0 == (30 : Int)) then
 bif (a0 == (30 : Int)) then
 some (28 : Int)
 else
 bif (a0 == (35 : Int)) then
 some (34 : Int)
 else
 bif (a0 == (38 : Int)) then
 bif (a0 == (38 : Int)) then
 some (37 : Int)
 else
 bif (a0 == (41 : Int)) then
 some (40 : Int)
 else
 bif (a0 == (43 : Int)) then
 some (42 : Int)
 else
 bif (decide (a0 > (31 : Int))) then
 some (31 : Int)
 else
 some (0 : Int)
 else
 bif (a0 == (39 : Int)) then
 some (37 : Int)
 else
 bif (a0 == (41 : Int)) then
 some (40 : Int)
 else
 bif (a0 == (43 : Int)) then
 some (42 : Int)
 else
 bif (decide (a0 > (31 : Int))) then
 some (31 : Int)
 else
 some (0 : Int)
 else
 bif (a0 == (31 : Int)) then
 some (28 : Int)
 else
 bif (a0 == (35 : Int)) then
 some (34 : Int)
 else
 bif (a0 == (38 : Int)) then
 bif (a0 == (38 : Int)) then
 some (37 : Int)
 else
 bif (a0 == (41 : Int)) then
 some (40 : Int)
 else
 bif (a0 == (43 : Int)) then
 some (42 : Int)
 else
 bif (decide (a0 > (31 : Int))) then
 some (31 : Int)
 else
 some (0 : Int)
 else
 bif (a0 == (39 : Int)) then
 some (37 : Int)
 else
 bif (a0 == (41 : Int)) then
 some (40 : Int)
 else
 bif (a0 == (43 : Int)) then
 some (42 : Int)
 else
 bif (decide (a0 > (31 : Int))) then
 some (31 : Int)
 else
 some (0 : Int)
def F53.f  (k : Nat) (a0 : Int) : Option (Int) := F53.b   a0
theorem F53.r  (k : Nat) (a0 : Int) : fn (F53.C ) k Tryz.f53 F53.A F53.R a0 = F53.b   a0 := by kernel_rfl
theorem F53.e  (k : Nat) (a0 : Int) : fn (F53.C ) k Tryz.f53 F53.A F53.R a0 = F53.f  k a0 := by
  rw [F53.r]
  rfl
theorem F53.ty  : TyOk Tryz.prog (F53.C ) := tyOk_of (by kernel_rfl)
def F53.u (k : Nat) : F53.E := fun y => F53.f  k y
theorem F53.sound (k : Nat) : Sound Tryz.prog ⟨53, F53.A, F53.R, F53.u k⟩ := by
  have h := fn_sound (k := k) («as» := F53.A) (rs := F53.R) (F53.ty ) (fun E h => by cases h) mixed Tryz.func53 (by kernel_rfl) (by kernel_rfl)
  have e : fn (F53.C ) k Tryz.f53 F53.A F53.R = F53.u k := by
    funext y
    exact F53.e  k y
  rw [e] at h
  exact h
/-! ### brindlewood/heap.Start: f26 -/
abbrev F26.A : List Sh := []
abbrev F26.R : List Sh := [(.d Y_Heap)]
abbrev F26.E : Type := (Unit) → Option (List X_Object)
def F26.C (c52 : F52.E) (c53 : F53.E) : Ctx := { ty := [(3, (.int .i64)), (9, .str), (22, (.sl 36 Y_Object)), (24, Y_Heap), (32, (.sl 3 (.int .i64))), (33, (.sl 9 .str)), (36, Y_Object)], nf := [(24, 1), (36, 10)], by_ := [(3, 8), (9, 16), (36, 168)], env := [⟨52, F52.A, F52.R, c52⟩, ⟨53, F53.A, F53.R, c53⟩], spec := [(0, [.bx 0 600000 (.one (.o 36 Y_Object)), .bx 1 600001 (.one (.o 36 Y_Object)), .d 6 (.sl 9 .str), .d 7 (.int .i64), .d 8 (.int .i64)]), (100010, [.bx 0 600000 (.one (.o 36 Y_Object)), .bx 1 600001 (.one (.o 36 Y_Object)), .bx 4 600004 (.pair (.d (.int .i64)) (.pair (.d .str) (.pair (.d (.int .i64)) (.pair (.o 3 (.int .i64)) (.pair (.o 3 (.int .i64)) (.pair (.o 9 .str) (.pair (.o 29 Y_Value) (.pair (.o 29 Y_Value) (.d Y_Fault))))))))), .d 6 (.sl 9 .str), .d 7 (.int .i64), .d 8 (.int .i64)])] }
noncomputable def F26.code : Code := Func.code Tryz.f26
noncomputable def F26.fin (c52 : F52.E) (c53 : F53.E) := kfin (F26.C c52 c53) Tryz.f26 F26.A F26.R
def F26.b (c52 : F52.E) (c53 : F53.E) (r_l0 : (List X_Object) → (List X_Object) → (List (List UInt8)) → (Int) → (Int) → Option (List X_Object))  : Option (List X_Object) :=
 (c52 [111, 98, 106, 101, 99, 116, 32, 99, 108, 97, 115, 115, 32, 110, 105, 108, 95, 116, 121, 112, 101, 32, 98, 111, 111, 108, 32, 105, 110, 116, 32, 114, 97, 116, 105, 111, 32, 116, 101, 120, 116, 32, 98, 121, 116, 101, 115, 32, 116, 117, 112, 108, 101, 32, 108, 105, 115, 116, 32, 100, 105, 99, 116, 32, 115, 101, 116, 32, 114, 97, 110, 103, 101, 32, 99, 101, 108, 108, 32, 102, 117, 110, 99, 116, 105, 111, 110, 32, 98, 117, 105, 108, 116, 105, 110, 32, 109, 101, 116, 104, 111, 100, 32, 109, 111, 100, 117, 108, 101, 32, 112, 114, 111, 112, 101, 114, 116, 121, 32, 115, 116, 97, 116, 105, 99, 32, 99, 108, 97, 115, 115, 95, 109, 101, 116, 104, 111, 100, 32, 115, 117, 112, 101, 114, 95, 116, 121, 112, 101, 32, 105, 116, 101, 114, 97, 116, 111, 114, 32, 103, 101, 110, 101, 114, 97, 116, 111, 114, 32, 119, 101, 97, 107, 32, 116, 97, 115, 107, 32, 116, 105, 109, 101, 114, 32, 112, 97, 115, 115, 95, 116, 121, 112, 101, 32, 82, 97, 105, 115, 101, 100, 32, 69, 120, 105, 116, 32, 67, 97, 110, 99, 101, 108, 32, 69, 114, 114, 111, 114, 32, 84, 121, 112, 101, 69, 114, 114, 111, 114, 32, 86, 97, 108, 117, 101, 69, 114, 114, 111, 114, 32, 78, 97, 109, 101, 69, 114, 114, 111, 114, 32, 85, 110, 98, 111, 117, 110, 100, 69, 114, 114, 111, 114, 32, 65, 116, 116, 114, 105, 98, 117, 116, 101, 69, 114, 114, 111, 114, 32, 76, 111, 111, 107, 117, 112, 69, 114, 114, 111, 114, 32, 73, 110, 100, 101, 120, 69, 114, 114, 111, 114, 32, 75, 101, 121, 69, 114, 114, 111, 114, 32, 65, 114, 105, 116, 104, 109, 101, 116, 105, 99, 69, 114, 114, 111, 114, 32, 68, 105, 118, 105, 115, 105, 111, 110, 69, 114, 114, 111, 114, 32, 76, 105, 109, 105, 116, 69, 114, 114, 111, 114, 32, 82, 101, 99, 117, 114, 115, 105, 111, 110, 69, 114, 114, 111, 114, 32, 65, 115, 115, 101, 114, 116, 105, 111, 110, 69, 114, 114, 111, 114, 32, 73, 109, 112, 111, 114, 116, 69, 114, 114, 111, 114, 32, 83, 116, 111, 112, 69, 114, 114, 111, 114, 32, 83, 116, 97, 116, 101, 69, 114, 114, 111, 114, 32, 71, 114, 111, 117, 112, 69, 114, 114, 111, 114]).bind fun y1 =>
 r_l0 ([] : List X_Object) ([] : List X_Object) y1 ((List.length y1) : Int) (0 : Int)
def F26.b_l0 (c52 : F52.E) (c53 : F53.E) (r_g10 : (List X_Object) → (List X_Object) → X_Object → (List (List UInt8)) → (Int) → (Int) → Option (List X_Object)) (x0 : List X_Object) (x1 : List X_Object) (x6 : List (List UInt8)) (x7 : Int) (x8 : Int) : Option (List X_Object) :=
 bif (decide (x8 < x7)) then
 if 0 ≤ x8 ∧ x8 < ((List.length x6) : Int) then
 bif (decide (x8 > (0 : Int))) then
 (c53 x8).bind fun y2 =>
 if 0 ≤ y2 ∧ y2 < (((List.length x1) : Nat) : Int) then
 if 1 ≤ (List.length ([x8] : List (Int))) ∧ (1 + (List.length ((((((List.getD x1 (0 + Int.toNat y2) Z_Object).2).2).2).2).1))) * 8 ≤ LIM then
 r_g10 (List.take (List.length x0) x0) (List.take (List.length x1) x1) ((9 : Int), ((List.getD x6 (Int.toNat x8) []), ((0 : Int), ((List.take 1 ([y2] : List (Int))), ((List.take (List.length (List.append (List.take 1 ([x8] : List (Int))) ((((((List.getD x1 (0 + Int.toNat y2) Z_Object).2).2).2).2).1))) (List.append (List.take 1 ([x8] : List (Int))) ((((((List.getD x1 (0 + Int.toNat y2) Z_Object).2).2).2).2).1))), (([] : List (List UInt8)), (([] : List X_Value), (([] : List X_Value), ((0 : Int), (0 : Int)))))))))) x6 x7 x8
 else none
 else none
 else
 r_g10 (List.take (List.length x0) x0) (List.take (List.length x1) x1) ((9 : Int), ((List.getD x6 (Int.toNat x8) []), ((0 : Int), (([] : List (Int)), ((List.take 1 ([x8] : List (Int))), (([] : List (List UInt8)), (([] : List X_Value), (([] : List X_Value), ((0 : Int), (0 : Int)))))))))) x6 x7 x8
 else none
 else
 some (List.take (List.length x1) x1)
def F26.b_g10 (c52 : F52.E) (c53 : F53.E) (n_l0 : (List X_Object) → (List X_Object) → (List (List UInt8)) → (Int) → (Int) → Option (List X_Object)) (x0 : List X_Object) (x1 : List X_Object) (x4 : X_Object) (x6 : List (List UInt8)) (x7 : Int) (x8 : Int) : Option (List X_Object) :=
 if (List.length x1) ≤ (List.length x1) ∧ ((List.length x1) + (List.length (List.take 1 ([(x4.1, (x4.2.1, (x4.2.2.1, ((List.take (List.length x4.2.2.2.1) x4.2.2.2.1), ((List.take (List.length x4.2.2.2.2.1) x4.2.2.2.2.1), ((List.take (List.length x4.2.2.2.2.2.1) x4.2.2.2.2.2.1), ((List.take (List.length x4.2.2.2.2.2.2.1) x4.2.2.2.2.2.2.1), ((List.take (List.length x4.2.2.2.2.2.2.2.1) x4.2.2.2.2.2.2.2.1), x4.2.2.2.2.2.2.2.2))))))))] : List X_Object)))) * 168 ≤ LIM then
 n_l0 (List.take (List.length x0) x0) (List.take (List.length (List.append (List.take (List.length x1) x1) (List.take 1 ([(x4.1, (x4.2.1, (x4.2.2.1, ((List.take (List.length x4.2.2.2.1) x4.2.2.2.1), ((List.take (List.length x4.2.2.2.2.1) x4.2.2.2.2.1), ((List.take (List.length x4.2.2.2.2.2.1) x4.2.2.2.2.2.1), ((List.take (List.length x4.2.2.2.2.2.2.1) x4.2.2.2.2.2.2.1), ((List.take (List.length x4.2.2.2.2.2.2.2.1) x4.2.2.2.2.2.2.2.1), x4.2.2.2.2.2.2.2.2))))))))] : List X_Object)))) (List.append (List.take (List.length x1) x1) (List.take 1 ([(x4.1, (x4.2.1, (x4.2.2.1, ((List.take (List.length x4.2.2.2.1) x4.2.2.2.1), ((List.take (List.length x4.2.2.2.2.1) x4.2.2.2.2.1), ((List.take (List.length x4.2.2.2.2.2.1) x4.2.2.2.2.2.1), ((List.take (List.length x4.2.2.2.2.2.2.1) x4.2.2.2.2.2.2.1), ((List.take (List.length x4.2.2.2.2.2.2.2.1) x4.2.2.2.2.2.2.2.1), x4.2.2.2.2.2.2.2.2))))))))] : List X_Object)))) x6 x7 (IntKind.i64.wrap (x8 + (1 : Int)))
 else none
def F26.g10 (c52 : F52.E) (c53 : F53.E) (k : Nat) (n_l0 : (List X_Object) → (List X_Object) → (List (List UInt8)) → (Int) → (Int) → Option (List X_Object)) (x0 : List X_Object) (x1 : List X_Object) (x4 : X_Object) (x6 : List (List UInt8)) (x7 : Int) (x8 : Int) : Option (List X_Object) := gate k (F26.b_g10 c52 c53 n_l0 x0 x1 x4 x6 x7 x8)
def F26.l0 (c52 : F52.E) (c53 : F53.E) (k : Nat)  : Nat → (List X_Object) → (List X_Object) → (List (List UInt8)) → (Int) → (Int) → Option (List X_Object)
  | 0, _, _, _, _, _ => none
  | n + 1, x0, x1, x6, x7, x8 => F26.b_l0 c52 c53 (F26.g10 c52 c53 k (fun x0 x1 x6 x7 x8 => F26.l0 c52 c53 k  n x0 x1 x6 x7 x8)) x0 x1 x6 x7 x8
def F26.f (c52 : F52.E) (c53 : F53.E) (k : Nat)  : Option (List X_Object) := F26.b c52 c53 (F26.l0 c52 c53 k k) 
noncomputable def F26.M_l0 (c52 : F52.E) (c53 : F53.E) (k n : Nat)  (s : St) : Option (List X_Object) := atLoop (F26.C c52 c53) k n [1, 1, 0, 1, 0] [] F26.code (F26.fin c52 c53) s
noncomputable def F26.fr_l0 (x0 : List X_Object) (x1 : List X_Object) (x6 : List (List UInt8)) (x7 : Int) (x8 : Int) : St := ⟨((((((List.replicate 42 V.un).set 0 (V.bp 600000 0 [])).set 1 (V.bp 600001 0 [])).set 6 (V.dat (.sl 9 .str) x6)).set 7 (V.dat (.int .i64) x7)).set 8 (V.dat (.int .i64) x8)), [⟨600001, 0, .box (V.st1 (V.ref 11600016 0 0 (List.length x1)))⟩, ⟨11600016, 0, .arr 36 Y_Object x1⟩, ⟨600000, 0, .box (V.st1 (V.ref 11600000 0 0 (List.length x0)))⟩, ⟨11600000, 0, .arr 36 Y_Object x0⟩]⟩
noncomputable def F26.M_g10 (c52 : F52.E) (c53 : F53.E) (k : Nat) (m0 : Nat) (s : St) : Option (List X_Object) := atGate (F26.C c52 c53) k [1, 1, 0, 1, 0, 0, 1, 1, 0, 0, 1, 1, 1] [m0] F26.code (F26.fin c52 c53) s
noncomputable def F26.fr_g10 (x0 : List X_Object) (x1 : List X_Object) (x4 : X_Object) (x6 : List (List UInt8)) (x7 : Int) (x8 : Int) : St := ⟨(((((((List.replicate 42 V.un).set 0 (V.bp 600000 0 [])).set 1 (V.bp 600001 0 [])).set 4 (V.bp 600004 0 [])).set 6 (V.dat (.sl 9 .str) x6)).set 7 (V.dat (.int .i64) x7)).set 8 (V.dat (.int .i64) x8)), [⟨600004, 0, .box (V.st (V.dat (.int .i64) x4.1) (V.st (V.dat .str x4.2.1) (V.st (V.dat (.int .i64) x4.2.2.1) (V.st (V.ref 11600064 0 0 (List.length x4.2.2.2.1)) (V.st (V.ref 11600065 0 0 (List.length x4.2.2.2.2.1)) (V.st (V.ref 11600066 0 0 (List.length x4.2.2.2.2.2.1)) (V.st (V.ref 11600067 0 0 (List.length x4.2.2.2.2.2.2.1)) (V.st (V.ref 11600068 0 0 (List.length x4.2.2.2.2.2.2.2.1)) (V.dat Y_Fault x4.2.2.2.2.2.2.2.2)))))))))⟩, ⟨11600064, 0, .arr 3 (.int .i64) x4.2.2.2.1⟩, ⟨11600065, 0, .arr 3 (.int .i64) x4.2.2.2.2.1⟩, ⟨11600066, 0, .arr 9 .str x4.2.2.2.2.2.1⟩, ⟨11600067, 0, .arr 29 Y_Value x4.2.2.2.2.2.2.1⟩, ⟨11600068, 0, .arr 29 Y_Value x4.2.2.2.2.2.2.2.1⟩, ⟨600001, 0, .box (V.st1 (V.ref 11600016 0 0 (List.length x1)))⟩, ⟨11600016, 0, .arr 36 Y_Object x1⟩, ⟨600000, 0, .box (V.st1 (V.ref 11600000 0 0 (List.length x0)))⟩, ⟨11600000, 0, .arr 36 Y_Object x0⟩]⟩
theorem F26.r (c52 : F52.E) (c53 : F53.E) (k : Nat)  : fn (F26.C c52 c53) k Tryz.f26 F26.A F26.R () = F26.b c52 c53 (fun x0 x1 x6 x7 x8 => F26.M_l0 c52 c53 k k  (F26.fr_l0 x0 x1 x6 x7 x8))  := by kernel_rfl
theorem F26.z_l0 (c52 : F52.E) (c53 : F53.E) (k : Nat)  (s : St) : F26.M_l0 c52 c53 k 0  s = none := by kernel_rfl
theorem F26.r_l0 (c52 : F52.E) (c53 : F53.E) (k n : Nat)  (x0 : List X_Object) (x1 : List X_Object) (x6 : List (List UInt8)) (x7 : Int) (x8 : Int) : F26.M_l0 c52 c53 k (n + 1)  (F26.fr_l0 x0 x1 x6 x7 x8) = F26.b_l0 c52 c53 (fun x0 x1 x4 x6 x7 x8 => F26.M_g10 c52 c53 k  n (F26.fr_g10 x0 x1 x4 x6 x7 x8)) x0 x1 x6 x7 x8 := by kernel_rfl
theorem F26.r_g10 (c52 : F52.E) (c53 : F53.E) (k : Nat) (m0 : Nat) (x0 : List X_Object) (x1 : List X_Object) (x4 : X_Object) (x6 : List (List UInt8)) (x7 : Int) (x8 : Int) : F26.M_g10 c52 c53 k m0 (F26.fr_g10 x0 x1 x4 x6 x7 x8) = gate k (F26.b_g10 c52 c53 (fun x0 x1 x6 x7 x8 => F26.M_l0 c52 c53 k m0  (F26.fr_l0 x0 x1 x6 x7 x8)) x0 x1 x4 x6 x7 x8) := by kernel_rfl
theorem F26.e_g10 (c52 : F52.E) (c53 : F53.E) (k : Nat) (m0 : Nat) (x0 : List X_Object) (x1 : List X_Object) (x4 : X_Object) (x6 : List (List UInt8)) (x7 : Int) (x8 : Int) : F26.M_g10 c52 c53 k m0 (F26.fr_g10 x0 x1 x4 x6 x7 x8) = F26.g10 c52 c53 k (fun x0 x1 x6 x7 x8 => F26.M_l0 c52 c53 k m0  (F26.fr_l0 x0 x1 x6 x7 x8)) x0 x1 x4 x6 x7 x8 := by
  rw [F26.r_g10]
  rfl
theorem F26.e_l0 (c52 : F52.E) (c53 : F53.E) (k n : Nat)  (x0 : List X_Object) (x1 : List X_Object) (x6 : List (List UInt8)) (x7 : Int) (x8 : Int) : F26.M_l0 c52 c53 k n  (F26.fr_l0 x0 x1 x6 x7 x8) = F26.l0 c52 c53 k  n x0 x1 x6 x7 x8 := by
  induction n generalizing x0 x1 x6 x7 x8 with
  | zero => rw [F26.z_l0]; rfl
  | succ n ih =>
    rw [F26.r_l0]
    simp only [F26.e_g10, ih]
    rfl
theorem F26.e (c52 : F52.E) (c53 : F53.E) (k : Nat)  : fn (F26.C c52 c53) k Tryz.f26 F26.A F26.R () = F26.f c52 c53 k  := by
  rw [F26.r]
  simp only [F26.e_l0]
  rfl
theorem F26.ty (c52 : F52.E) (c53 : F53.E) : TyOk Tryz.prog (F26.C c52 c53) := tyOk_of (by kernel_rfl)
def F26.u (k : Nat) : F26.E := fun y => F26.f (F52.u k) (F53.u k) k 
theorem F26.sound (k : Nat) : Sound Tryz.prog ⟨26, F26.A, F26.R, F26.u k⟩ := by
  have h := fn_sound (k := k) («as» := F26.A) (rs := F26.R) (F26.ty (F52.u k) (F53.u k)) (fun E h => by
    simp only [F26.C, List.mem_cons, List.not_mem_nil, or_false] at h
    rcases h with rfl | rfl
    · exact F52.sound k
    · exact F53.sound k) mixed Tryz.func26 (by kernel_rfl) (by kernel_rfl)
  have e : fn (F26.C (F52.u k) (F53.u k)) k Tryz.f26 F26.A F26.R = F26.u k := by
    funext y
    exact F26.e (F52.u k) (F53.u k) k 
  rw [e] at h
  exact h
/-! ### brindlewood/brindlewoodref7.SameHeap: f25 -/
abbrev F25.A : List Sh := [(.d Y_Heap), (.d Y_Heap)]
abbrev F25.R : List Sh := [(.d .bool)]
abbrev F25.E : Type := ((List X_Object) × (List X_Object)) → Option (Bool)
def F25.C (c51 : F51.E) : Ctx := { ty := [(3, (.int .i64)), (22, (.sl 36 Y_Object)), (24, Y_Heap), (36, Y_Object)], nf := [(24, 1)], by_ := [(36, 168)], env := [⟨51, F51.A, F51.R, c51⟩], spec := [(0, [.bx 2 600002 (.d Y_Heap), .bx 3 600003 (.d Y_Heap), .d 15 (.int .i64), .d 16 (.int .i64)])] }
noncomputable def F25.code : Code := Func.code Tryz.f25
noncomputable def F25.fin (c51 : F51.E) := kfin (F25.C c51) Tryz.f25 F25.A F25.R
def F25.b (c51 : F51.E) (r_l0 : (List X_Object) → (List X_Object) → (Int) → (Int) → Option (Bool)) (a0 : List X_Object) (a1 : List X_Object) : Option (Bool) :=
 bif (((List.length a0) : Int) != ((List.length a1) : Int)) then
 some false
 else
 r_l0 a0 a1 ((List.length a0) : Int) (0 : Int)
def F25.b_l0 (c51 : F51.E) (n_l0 : (List X_Object) → (List X_Object) → (Int) → (Int) → Option (Bool)) (x2 : List X_Object) (x3 : List X_Object) (x15 : Int) (x16 : Int) : Option (Bool) :=
 bif (decide (x16 < x15)) then
 if 0 ≤ x16 ∧ x16 < ((List.length x2) : Int) then
 if 0 ≤ x16 ∧ x16 < ((List.length x3) : Int) then
 (c51 ((List.getD x2 (Int.toNat x16) Z_Object), (List.getD x3 (Int.toNat x16) Z_Object))).bind fun y1 =>
 bif (!y1) then
 some false
 else
 n_l0 x2 x3 x15 (IntKind.i64.wrap (x16 + (1 : Int)))
 else none
 else none
 else
 some true
def F25.c_l0 (c51 : F51.E) (n_l0 : (List X_Object) → (List X_Object) → (Int) → (Int) → Option (Bool)) (x2 : List X_Object) (x3 : List X_Object) (x15 : Int) (x16 : Int) : Option (Bool) :=
 bif (decide (x16 < x15)) then
 if 0 ≤ x16 ∧ x16 < ((List.length x2) : Int) then
 if 0 ≤ x16 ∧ x16 < ((List.length x3) : Int) then
 (c51 ((List.getD x2 (Int.toNat x16) Z_Object), (List.getD x3 (Int.toNat x16) Z_Object))).bind fun y1 =>
 bif !y1 then
 some false
 else
 n_l0 x2 x3 x15 (IntKind.i64.wrap (x16 + (1 : Int)))
 else none
 else none
 else
 some true
theorem F25.q_l0 (c51 : F51.E) (n_l0 : (List X_Object) → (List X_Object) → (Int) → (Int) → Option (Bool)) (x2 : List X_Object) (x3 : List X_Object) (x15 : Int) (x16 : Int) : F25.b_l0 c51 n_l0 x2 x3 x15 x16 = F25.c_l0 c51 n_l0 x2 x3 x15 x16 := by
  simp only [F25.b_l0, F25.c_l0, List.take_length, take_one, Nat.zero_add, Int.toNat_natCast, Int.toNat_zero, List.drop_zero, List.append_eq, Nat.le_refl, Int.le_refl, true_and, and_true, zero_le_one, if_true, prod_eta, Int.natCast_zero]
def F25.l0 (c51 : F51.E) (k : Nat)  : Nat → (List X_Object) → (List X_Object) → (Int) → (Int) → Option (Bool)
  | 0, _, _, _, _ => none
  | n + 1, x2, x3, x15, x16 => F25.b_l0 c51 (fun x2 x3 x15 x16 => F25.l0 c51 k  n x2 x3 x15 x16) x2 x3 x15 x16
def F25.f (c51 : F51.E) (k : Nat) (a0 : List X_Object) (a1 : List X_Object) : Option (Bool) := F25.b c51 (F25.l0 c51 k k) a0 a1
noncomputable def F25.M_l0 (c51 : F51.E) (k n : Nat)  (s : St) : Option (Bool) := atLoop (F25.C c51) k n [1, 1, 0, 1, 0] [] F25.code (F25.fin c51) s
noncomputable def F25.fr_l0 (x2 : List X_Object) (x3 : List X_Object) (x15 : Int) (x16 : Int) : St := ⟨(((((List.replicate 32 V.un).set 2 (V.bp 600002 0 [])).set 3 (V.bp 600003 0 [])).set 15 (V.dat (.int .i64) x15)).set 16 (V.dat (.int .i64) x16)), [⟨600003, 0, .box (V.dat Y_Heap x3)⟩, ⟨600002, 0, .box (V.dat Y_Heap x2)⟩]⟩
theorem F25.r (c51 : F51.E) (k : Nat) (a0 : List X_Object) (a1 : List X_Object) : fn (F25.C c51) k Tryz.f25 F25.A F25.R (a0, a1) = F25.b c51 (fun x2 x3 x15 x16 => F25.M_l0 c51 k k  (F25.fr_l0 x2 x3 x15 x16)) a0 a1 := by kernel_rfl
theorem F25.z_l0 (c51 : F51.E) (k : Nat)  (s : St) : F25.M_l0 c51 k 0  s = none := by kernel_rfl
theorem F25.r_l0 (c51 : F51.E) (k n : Nat)  (x2 : List X_Object) (x3 : List X_Object) (x15 : Int) (x16 : Int) : F25.M_l0 c51 k (n + 1)  (F25.fr_l0 x2 x3 x15 x16) = F25.b_l0 c51 (fun x2 x3 x15 x16 => F25.M_l0 c51 k n  (F25.fr_l0 x2 x3 x15 x16)) x2 x3 x15 x16 := by kernel_rfl
theorem F25.e_l0 (c51 : F51.E) (k n : Nat)  (x2 : List X_Object) (x3 : List X_Object) (x15 : Int) (x16 : Int) : F25.M_l0 c51 k n  (F25.fr_l0 x2 x3 x15 x16) = F25.l0 c51 k  n x2 x3 x15 x16 := by
  induction n generalizing x2 x3 x15 x16 with
  | zero => rw [F25.z_l0]; rfl
  | succ n ih =>
    rw [F25.r_l0]
    simp only [ih]
    rfl
theorem F25.e (c51 : F51.E) (k : Nat) (a0 : List X_Object) (a1 : List X_Object) : fn (F25.C c51) k Tryz.f25 F25.A F25.R (a0, a1) = F25.f c51 k a0 a1 := by
  rw [F25.r]
  simp only [F25.e_l0]
  rfl
theorem F25.ty (c51 : F51.E) : TyOk Tryz.prog (F25.C c51) := tyOk_of (by kernel_rfl)
def F25.u (k : Nat) : F25.E := fun y => F25.f (F51.u k) k y.1 y.2
theorem F25.sound (k : Nat) : Sound Tryz.prog ⟨25, F25.A, F25.R, F25.u k⟩ := by
  have h := fn_sound (k := k) («as» := F25.A) (rs := F25.R) (F25.ty (F51.u k)) (fun E h => by
    simp only [F25.C, List.mem_cons, List.not_mem_nil, or_false] at h
    rcases h with rfl
    · exact F51.sound k) mixed Tryz.func25 (by kernel_rfl) (by kernel_rfl)
  have e : fn (F25.C (F51.u k)) k Tryz.f25 F25.A F25.R = F25.u k := by
    funext y
    exact F25.e (F51.u k) k y.1 y.2
  rw [e] at h
  exact h
/-! ### brindlewood/heap.kindClasses: f56 -/
abbrev F56.A : List Sh := []
abbrev F56.R : List Sh := [(.d (.sl 3 (.int .i64)))]
abbrev F56.E : Type := (Unit) → Option (List (Int))
def F56.C  : Ctx := { ty := [(32, (.sl 3 (.int .i64)))], nf := [], by_ := [(3, 8)], env := [], spec := [] }
noncomputable def F56.code : Code := Func.code Tryz.f56
noncomputable def F56.fin  := kfin (F56.C ) Tryz.f56 F56.A F56.R
def F56.b    : Option (List (Int)) :=
 some (List.take 10 ([(2 : Int), (3 : Int), (4 : Int), (5 : Int), (6 : Int), (7 : Int), (0 : Int), (15 : Int), (27 : Int), (2 : Int)] : List (Int)))
def F56.f  (k : Nat)  : Option (List (Int)) := F56.b   
theorem F56.r  (k : Nat)  : fn (F56.C ) k Tryz.f56 F56.A F56.R () = F56.b    := by kernel_rfl
theorem F56.e  (k : Nat)  : fn (F56.C ) k Tryz.f56 F56.A F56.R () = F56.f  k  := by
  rw [F56.r]
  rfl
theorem F56.ty  : TyOk Tryz.prog (F56.C ) := tyOk_of (by kernel_rfl)
def F56.u (k : Nat) : F56.E := fun y => F56.f  k 
theorem F56.sound (k : Nat) : Sound Tryz.prog ⟨56, F56.A, F56.R, F56.u k⟩ := by
  have h := fn_sound (k := k) («as» := F56.A) (rs := F56.R) (F56.ty ) (fun E h => by cases h) mixed Tryz.func56 (by kernel_rfl) (by kernel_rfl)
  have e : fn (F56.C ) k Tryz.f56 F56.A F56.R = F56.u k := by
    funext y
    exact F56.e  k 
  rw [e] at h
  exact h
/-! ### brindlewood/heap.objectClasses: f57 -/
abbrev F57.A : List Sh := []
abbrev F57.R : List Sh := [(.d (.sl 3 (.int .i64)))]
abbrev F57.E : Type := (Unit) → Option (List (Int))
def F57.C  : Ctx := { ty := [(32, (.sl 3 (.int .i64)))], nf := [], by_ := [(3, 8)], env := [], spec := [] }
noncomputable def F57.code : Code := Func.code Tryz.f57
noncomputable def F57.fin  := kfin (F57.C ) Tryz.f57 F57.A F57.R
def F57.b    : Option (List (Int)) :=
 some (List.take 21 ([(0 : Int), (8 : Int), (9 : Int), (10 : Int), (11 : Int), (12 : Int), (13 : Int), (14 : Int), (16 : Int), (1 : Int), (0 : Int), (17 : Int), (18 : Int), (19 : Int), (20 : Int), (21 : Int), (22 : Int), (23 : Int), (24 : Int), (25 : Int), (26 : Int)] : List (Int)))
def F57.f  (k : Nat)  : Option (List (Int)) := F57.b   
theorem F57.r  (k : Nat)  : fn (F57.C ) k Tryz.f57 F57.A F57.R () = F57.b    := by kernel_rfl
theorem F57.e  (k : Nat)  : fn (F57.C ) k Tryz.f57 F57.A F57.R () = F57.f  k  := by
  rw [F57.r]
  rfl
theorem F57.ty  : TyOk Tryz.prog (F57.C ) := tyOk_of (by kernel_rfl)
def F57.u (k : Nat) : F57.E := fun y => F57.f  k 
theorem F57.sound (k : Nat) : Sound Tryz.prog ⟨57, F57.A, F57.R, F57.u k⟩ := by
  have h := fn_sound (k := k) («as» := F57.A) (rs := F57.R) (F57.ty ) (fun E h => by cases h) mixed Tryz.func57 (by kernel_rfl) (by kernel_rfl)
  have e : fn (F57.C ) k Tryz.f57 F57.A F57.R = F57.u k := by
    funext y
    exact F57.e  k 
  rw [e] at h
  exact h
/-! ### brindlewood/heap.ClassOf: f28 -/
abbrev F28.A : List Sh := [(.d Y_Heap), (.d Y_Value)]
abbrev F28.R : List Sh := [(.d (.int .i64))]
abbrev F28.E : Type := ((List X_Object) × X_Value) → Option (Int)
def F28.C (c56 : F56.E) (c57 : F57.E) : Ctx := { ty := [(3, (.int .i64)), (22, (.sl 36 Y_Object)), (24, Y_Heap), (29, Y_Value), (32, (.sl 3 (.int .i64))), (36, Y_Object)], nf := [(24, 1), (29, 5), (36, 10)], by_ := [(3, 8), (36, 168)], env := [⟨56, F56.A, F56.R, c56⟩, ⟨57, F57.A, F57.R, c57⟩], spec := [] }
noncomputable def F28.code : Code := Func.code Tryz.f28
noncomputable def F28.fin (c56 : F56.E) (c57 : F57.E) := kfin (F28.C c56 c57) Tryz.f28 F28.A F28.R
def F28.b (c56 : F56.E) (c57 : F57.E)  (a0 : List X_Object) (a1 : X_Value) : Option (Int) :=
 bif (a1.1 != (6 : Int)) then
 (c56 ()).bind fun y1 =>
 if 0 ≤ a1.1 ∧ a1.1 < ((List.length y1) : Int) then
 some (List.getD y1 (Int.toNat a1.1) (0 : Int))
 else none
 else
 if 0 ≤ a1.2.2.2.2 ∧ a1.2.2.2.2 < ((List.length a0) : Int) then
 bif (((List.getD a0 (Int.toNat a1.2.2.2.2) Z_Object).1) == (10 : Int)) then
 some ((((List.getD a0 (Int.toNat a1.2.2.2.2) Z_Object).2).2).1)
 else
 (c57 ()).bind fun y2 =>
 if 0 ≤ ((List.getD a0 (Int.toNat a1.2.2.2.2) Z_Object).1) ∧ ((List.getD a0 (Int.toNat a1.2.2.2.2) Z_Object).1) < ((List.length y2) : Int) then
 some (List.getD y2 (Int.toNat ((List.getD a0 (Int.toNat a1.2.2.2.2) Z_Object).1)) (0 : Int))
 else none
 else none
def F28.c (c56 : F56.E) (c57 : F57.E)  (a0 : List X_Object) (a1 : X_Value) : Option (Int) :=
 bif (a1.1 != (6 : Int)) then
 (c56 ()).bind fun y1 =>
 if 0 ≤ a1.1 ∧ a1.1 < ((List.length y1) : Int) then
 some (List.getD y1 (Int.toNat a1.1) (0 : Int))
 else none
 else
 if 0 ≤ a1.2.2.2.2 ∧ a1.2.2.2.2 < ((List.length a0) : Int) then
 bif (((List.getD a0 (Int.toNat a1.2.2.2.2) Z_Object).1) == (10 : Int)) then
 some ((((List.getD a0 (Int.toNat a1.2.2.2.2) Z_Object).2).2).1)
 else
 (c57 ()).bind fun y2 =>
 if 0 ≤ ((List.getD a0 (Int.toNat a1.2.2.2.2) Z_Object).1) ∧ ((List.getD a0 (Int.toNat a1.2.2.2.2) Z_Object).1) < ((List.length y2) : Int) then
 some (List.getD y2 (Int.toNat ((List.getD a0 (Int.toNat a1.2.2.2.2) Z_Object).1)) (0 : Int))
 else none
 else none
theorem F28.q (c56 : F56.E) (c57 : F57.E)  (a0 : List X_Object) (a1 : X_Value) : F28.b c56 c57 a0 a1 = F28.c c56 c57 a0 a1 := by
  simp only [F28.b, F28.c, List.take_length, take_one, Nat.zero_add, Int.toNat_natCast, Int.toNat_zero, List.drop_zero, List.append_eq, Nat.le_refl, Int.le_refl, true_and, and_true, zero_le_one, if_true, prod_eta, Int.natCast_zero]
def F28.f (c56 : F56.E) (c57 : F57.E) (k : Nat) (a0 : List X_Object) (a1 : X_Value) : Option (Int) := F28.b c56 c57  a0 a1
theorem F28.r (c56 : F56.E) (c57 : F57.E) (k : Nat) (a0 : List X_Object) (a1 : X_Value) : fn (F28.C c56 c57) k Tryz.f28 F28.A F28.R (a0, a1) = F28.b c56 c57  a0 a1 := by kernel_rfl
theorem F28.e (c56 : F56.E) (c57 : F57.E) (k : Nat) (a0 : List X_Object) (a1 : X_Value) : fn (F28.C c56 c57) k Tryz.f28 F28.A F28.R (a0, a1) = F28.f c56 c57 k a0 a1 := by
  rw [F28.r]
  rfl
theorem F28.ty (c56 : F56.E) (c57 : F57.E) : TyOk Tryz.prog (F28.C c56 c57) := tyOk_of (by kernel_rfl)
def F28.u (k : Nat) : F28.E := fun y => F28.f (F56.u k) (F57.u k) k y.1 y.2
theorem F28.sound (k : Nat) : Sound Tryz.prog ⟨28, F28.A, F28.R, F28.u k⟩ := by
  have h := fn_sound (k := k) («as» := F28.A) (rs := F28.R) (F28.ty (F56.u k) (F57.u k)) (fun E h => by
    simp only [F28.C, List.mem_cons, List.not_mem_nil, or_false] at h
    rcases h with rfl | rfl
    · exact F56.sound k
    · exact F57.sound k) mixed Tryz.func28 (by kernel_rfl) (by kernel_rfl)
  have e : fn (F28.C (F56.u k) (F57.u k)) k Tryz.f28 F28.A F28.R = F28.u k := by
    funext y
    exact F28.e (F56.u k) (F57.u k) k y.1 y.2
  rw [e] at h
  exact h
/-! ### brindlewood/brindlewoodref7.classOfObject: f58 -/
abbrev F58.A : List Sh := [(.d Y_Object)]
abbrev F58.R : List Sh := [(.d (.int .i64))]
abbrev F58.E : Type := X_Object → Option (Int)
def F58.C  : Ctx := { ty := [(3, (.int .i64)), (36, Y_Object)], nf := [(36, 10)], by_ := [], env := [], spec := [] }
noncomputable def F58.code : Code := Func.code Tryz.f58
noncomputable def F58.fin  := kfin (F58.C ) Tryz.f58 F58.A F58.R
def F58.b   (a0 : X_Object) : Option (Int) :=
 bif (a0.1 == (10 : Int)) then
 some a0.2.2.1
 else
 bif (a0.1 == (8 : Int)) then
 some (16 : Int)
 else
 bif (a0.1 == (9 : Int)) then
 some (1 : Int)
 else
 bif (a0.1 == (11 : Int)) then
 some (17 : Int)
 else
 bif (a0.1 == (12 : Int)) then
 some (18 : Int)
 else
 bif (a0.1 == (13 : Int)) then
 some (19 : Int)
 else
 bif (a0.1 == (14 : Int)) then
 some (20 : Int)
 else
 bif (decide (a0.1 ≥ (15 : Int))) then
 some (IntKind.i64.wrap ((IntKind.i64.wrap ((21 : Int) + a0.1)) - (15 : Int)))
 else
 some (IntKind.i64.wrap ((IntKind.i64.wrap ((8 : Int) + a0.1)) - (1 : Int)))
def F58.f  (k : Nat) (a0 : X_Object) : Option (Int) := F58.b   a0
theorem F58.r  (k : Nat) (a0 : X_Object) : fn (F58.C ) k Tryz.f58 F58.A F58.R a0 = F58.b   a0 := by kernel_rfl
theorem F58.e  (k : Nat) (a0 : X_Object) : fn (F58.C ) k Tryz.f58 F58.A F58.R a0 = F58.f  k a0 := by
  rw [F58.r]
  rfl
theorem F58.ty  : TyOk Tryz.prog (F58.C ) := tyOk_of (by kernel_rfl)
def F58.u (k : Nat) : F58.E := fun y => F58.f  k y
theorem F58.sound (k : Nat) : Sound Tryz.prog ⟨58, F58.A, F58.R, F58.u k⟩ := by
  have h := fn_sound (k := k) («as» := F58.A) (rs := F58.R) (F58.ty ) (fun E h => by cases h) mixed Tryz.func58 (by kernel_rfl) (by kernel_rfl)
  have e : fn (F58.C ) k Tryz.f58 F58.A F58.R = F58.u k := by
    funext y
    exact F58.e  k y
  rw [e] at h
  exact h
/-! ### brindlewood/brindlewoodref7.ClassOf: f29 -/
abbrev F29.A : List Sh := [(.d Y_Heap), (.d Y_Value)]
abbrev F29.R : List Sh := [(.d (.int .i64))]
abbrev F29.E : Type := ((List X_Object) × X_Value) → Option (Int)
def F29.C (c58 : F58.E) : Ctx := { ty := [(3, (.int .i64)), (22, (.sl 36 Y_Object)), (24, Y_Heap), (29, Y_Value), (36, Y_Object)], nf := [(24, 1), (29, 5)], by_ := [(36, 168)], env := [⟨58, F58.A, F58.R, c58⟩], spec := [] }
noncomputable def F29.code : Code := Func.code Tryz.f29
noncomputable def F29.fin (c58 : F58.E) := kfin (F29.C c58) Tryz.f29 F29.A F29.R
def F29.b (c58 : F58.E)  (a0 : List X_Object) (a1 : X_Value) : Option (Int) :=
 bif (a1.1 == (1 : Int)) then
 some (3 : Int)
 else
 bif (a1.1 == (2 : Int)) then
 some (4 : Int)
 else
 bif (a1.1 == (3 : Int)) then
 some (5 : Int)
 else
 bif (a1.1 == (4 : Int)) then
 some (6 : Int)
 else
 bif (a1.1 == (5 : Int)) then
 some (7 : Int)
 else
 bif (a1.1 == (7 : Int)) then
 some (15 : Int)
 else
 bif (a1.1 == (8 : Int)) then
 some (27 : Int)
 else
 bif (a1.1 == (6 : Int)) then
 if 0 ≤ a1.2.2.2.2 ∧ a1.2.2.2.2 < ((List.length a0) : Int) then
 (c58 (List.getD a0 (Int.toNat a1.2.2.2.2) Z_Object)).bind fun y1 =>
 some y1
 else none
 else
 some (2 : Int)
def F29.c (c58 : F58.E)  (a0 : List X_Object) (a1 : X_Value) : Option (Int) :=
 bif (a1.1 == (1 : Int)) then
 some (3 : Int)
 else
 bif (a1.1 == (2 : Int)) then
 some (4 : Int)
 else
 bif (a1.1 == (3 : Int)) then
 some (5 : Int)
 else
 bif (a1.1 == (4 : Int)) then
 some (6 : Int)
 else
 bif (a1.1 == (5 : Int)) then
 some (7 : Int)
 else
 bif (a1.1 == (7 : Int)) then
 some (15 : Int)
 else
 bif (a1.1 == (8 : Int)) then
 some (27 : Int)
 else
 bif (a1.1 == (6 : Int)) then
 if 0 ≤ a1.2.2.2.2 ∧ a1.2.2.2.2 < ((List.length a0) : Int) then
 (c58 (List.getD a0 (Int.toNat a1.2.2.2.2) Z_Object)).bind fun y1 =>
 some y1
 else none
 else
 some (2 : Int)
theorem F29.q (c58 : F58.E)  (a0 : List X_Object) (a1 : X_Value) : F29.b c58 a0 a1 = F29.c c58 a0 a1 := by
  simp only [F29.b, F29.c, List.take_length, take_one, Nat.zero_add, Int.toNat_natCast, Int.toNat_zero, List.drop_zero, List.append_eq, Nat.le_refl, Int.le_refl, true_and, and_true, zero_le_one, if_true, prod_eta, Int.natCast_zero]
def F29.f (c58 : F58.E) (k : Nat) (a0 : List X_Object) (a1 : X_Value) : Option (Int) := F29.b c58  a0 a1
theorem F29.r (c58 : F58.E) (k : Nat) (a0 : List X_Object) (a1 : X_Value) : fn (F29.C c58) k Tryz.f29 F29.A F29.R (a0, a1) = F29.b c58  a0 a1 := by kernel_rfl
theorem F29.e (c58 : F58.E) (k : Nat) (a0 : List X_Object) (a1 : X_Value) : fn (F29.C c58) k Tryz.f29 F29.A F29.R (a0, a1) = F29.f c58 k a0 a1 := by
  rw [F29.r]
  rfl
theorem F29.ty (c58 : F58.E) : TyOk Tryz.prog (F29.C c58) := tyOk_of (by kernel_rfl)
def F29.u (k : Nat) : F29.E := fun y => F29.f (F58.u k) k y.1 y.2
theorem F29.sound (k : Nat) : Sound Tryz.prog ⟨29, F29.A, F29.R, F29.u k⟩ := by
  have h := fn_sound (k := k) («as» := F29.A) (rs := F29.R) (F29.ty (F58.u k)) (fun E h => by
    simp only [F29.C, List.mem_cons, List.not_mem_nil, or_false] at h
    rcases h with rfl
    · exact F58.sound k) mixed Tryz.func29 (by kernel_rfl) (by kernel_rfl)
  have e : fn (F29.C (F58.u k)) k Tryz.f29 F29.A F29.R = F29.u k := by
    funext y
    exact F29.e (F58.u k) k y.1 y.2
  rw [e] at h
  exact h
/-! ### brindlewood/heap.Name: f30 -/
abbrev F30.A : List Sh := [(.d Y_Heap), (.d Y_Value)]
abbrev F30.R : List Sh := [(.d .str)]
abbrev F30.E : Type := ((List X_Object) × X_Value) → Option (List UInt8)
def F30.C (c28 : F28.E) : Ctx := { ty := [(9, .str), (22, (.sl 36 Y_Object)), (24, Y_Heap), (29, Y_Value), (36, Y_Object)], nf := [(24, 1), (36, 10)], by_ := [(36, 168)], env := [⟨28, F28.A, F28.R, c28⟩], spec := [] }
noncomputable def F30.code : Code := Func.code Tryz.f30
noncomputable def F30.fin (c28 : F28.E) := kfin (F30.C c28) Tryz.f30 F30.A F30.R
def F30.b (c28 : F28.E)  (a0 : List X_Object) (a1 : X_Value) : Option (List UInt8) :=
 (c28 (a0, a1)).bind fun y1 =>
 if 0 ≤ y1 ∧ y1 < ((List.length a0) : Int) then
 some (((List.getD a0 (Int.toNat y1) Z_Object).2).1)
 else none
def F30.c (c28 : F28.E)  (a0 : List X_Object) (a1 : X_Value) : Option (List UInt8) :=
 (c28 (a0, a1)).bind fun y1 =>
 if 0 ≤ y1 ∧ y1 < ((List.length a0) : Int) then
 some (((List.getD a0 (Int.toNat y1) Z_Object).2).1)
 else none
theorem F30.q (c28 : F28.E)  (a0 : List X_Object) (a1 : X_Value) : F30.b c28 a0 a1 = F30.c c28 a0 a1 := by
  simp only [F30.b, F30.c, List.take_length, take_one, Nat.zero_add, Int.toNat_natCast, Int.toNat_zero, List.drop_zero, List.append_eq, Nat.le_refl, Int.le_refl, true_and, and_true, zero_le_one, if_true, prod_eta, Int.natCast_zero]
def F30.f (c28 : F28.E) (k : Nat) (a0 : List X_Object) (a1 : X_Value) : Option (List UInt8) := F30.b c28  a0 a1
theorem F30.r (c28 : F28.E) (k : Nat) (a0 : List X_Object) (a1 : X_Value) : fn (F30.C c28) k Tryz.f30 F30.A F30.R (a0, a1) = F30.b c28  a0 a1 := by kernel_rfl
theorem F30.e (c28 : F28.E) (k : Nat) (a0 : List X_Object) (a1 : X_Value) : fn (F30.C c28) k Tryz.f30 F30.A F30.R (a0, a1) = F30.f c28 k a0 a1 := by
  rw [F30.r]
  rfl
theorem F30.ty (c28 : F28.E) : TyOk Tryz.prog (F30.C c28) := tyOk_of (by kernel_rfl)
def F30.u (k : Nat) : F30.E := fun y => F30.f (F28.u k) k y.1 y.2
theorem F30.sound (k : Nat) : Sound Tryz.prog ⟨30, F30.A, F30.R, F30.u k⟩ := by
  have h := fn_sound (k := k) («as» := F30.A) (rs := F30.R) (F30.ty (F28.u k)) (fun E h => by
    simp only [F30.C, List.mem_cons, List.not_mem_nil, or_false] at h
    rcases h with rfl
    · exact F28.sound k) mixed Tryz.func30 (by kernel_rfl) (by kernel_rfl)
  have e : fn (F30.C (F28.u k)) k Tryz.f30 F30.A F30.R = F30.u k := by
    funext y
    exact F30.e (F28.u k) k y.1 y.2
  rw [e] at h
  exact h
/-! ### brindlewood/brindlewoodref7.ClassName: f31 -/
abbrev F31.A : List Sh := [(.d Y_Heap), (.d Y_Value)]
abbrev F31.R : List Sh := [(.d .str)]
abbrev F31.E : Type := ((List X_Object) × X_Value) → Option (List UInt8)
def F31.C (c29 : F29.E) : Ctx := { ty := [(9, .str), (22, (.sl 36 Y_Object)), (24, Y_Heap), (29, Y_Value), (36, Y_Object)], nf := [(24, 1), (36, 10)], by_ := [(36, 168)], env := [⟨29, F29.A, F29.R, c29⟩], spec := [] }
noncomputable def F31.code : Code := Func.code Tryz.f31
noncomputable def F31.fin (c29 : F29.E) := kfin (F31.C c29) Tryz.f31 F31.A F31.R
def F31.b (c29 : F29.E)  (a0 : List X_Object) (a1 : X_Value) : Option (List UInt8) :=
 (c29 (a0, a1)).bind fun y1 =>
 if 0 ≤ y1 ∧ y1 < ((List.length a0) : Int) then
 some (((List.getD a0 (Int.toNat y1) Z_Object).2).1)
 else none
def F31.c (c29 : F29.E)  (a0 : List X_Object) (a1 : X_Value) : Option (List UInt8) :=
 (c29 (a0, a1)).bind fun y1 =>
 if 0 ≤ y1 ∧ y1 < ((List.length a0) : Int) then
 some (((List.getD a0 (Int.toNat y1) Z_Object).2).1)
 else none
theorem F31.q (c29 : F29.E)  (a0 : List X_Object) (a1 : X_Value) : F31.b c29 a0 a1 = F31.c c29 a0 a1 := by
  simp only [F31.b, F31.c, List.take_length, take_one, Nat.zero_add, Int.toNat_natCast, Int.toNat_zero, List.drop_zero, List.append_eq, Nat.le_refl, Int.le_refl, true_and, and_true, zero_le_one, if_true, prod_eta, Int.natCast_zero]
def F31.f (c29 : F29.E) (k : Nat) (a0 : List X_Object) (a1 : X_Value) : Option (List UInt8) := F31.b c29  a0 a1
theorem F31.r (c29 : F29.E) (k : Nat) (a0 : List X_Object) (a1 : X_Value) : fn (F31.C c29) k Tryz.f31 F31.A F31.R (a0, a1) = F31.b c29  a0 a1 := by kernel_rfl
theorem F31.e (c29 : F29.E) (k : Nat) (a0 : List X_Object) (a1 : X_Value) : fn (F31.C c29) k Tryz.f31 F31.A F31.R (a0, a1) = F31.f c29 k a0 a1 := by
  rw [F31.r]
  rfl
theorem F31.ty (c29 : F29.E) : TyOk Tryz.prog (F31.C c29) := tyOk_of (by kernel_rfl)
def F31.u (k : Nat) : F31.E := fun y => F31.f (F29.u k) k y.1 y.2
theorem F31.sound (k : Nat) : Sound Tryz.prog ⟨31, F31.A, F31.R, F31.u k⟩ := by
  have h := fn_sound (k := k) («as» := F31.A) (rs := F31.R) (F31.ty (F29.u k)) (fun E h => by
    simp only [F31.C, List.mem_cons, List.not_mem_nil, or_false] at h
    rcases h with rfl
    · exact F29.sound k) mixed Tryz.func31 (by kernel_rfl) (by kernel_rfl)
  have e : fn (F31.C (F29.u k)) k Tryz.f31 F31.A F31.R = F31.u k := by
    funext y
    exact F31.e (F29.u k) k y.1 y.2
  rw [e] at h
  exact h
/-! ### brindlewood/brindlewoodlaw7.HeapValuesMatchSpec: f4 -/
abbrev F4.A : List Sh := [(.d Y_Heap), (.d Y_Value), (.d (.int .i64)), (.d .str), (.d (.int .i64)), (.d (.int .i64))]
abbrev F4.R : List Sh := [(.d .bool)]
abbrev F4.E : Type := ((List X_Object) × (X_Value × ((Int) × ((List UInt8) × X_acceptRange)))) → Option (Bool)
def F4.C (c15 : F15.E) (c16 : F16.E) (c14 : F14.E) (c17 : F17.E) (c18 : F18.E) (c19 : F19.E) (c20 : F20.E) (c21 : F21.E) (c22 : F22.E) (c23 : F23.E) (c24 : F24.E) (c26 : F26.E) (c27 : F27.E) (c25 : F25.E) (c6 : F6.E) (c28 : F28.E) (c29 : F29.E) (c30 : F30.E) (c31 : F31.E) (c7 : F7.E) (c32 : F32.E) (c33 : F33.E) : Ctx := { ty := [(3, (.int .i64)), (4, .bool), (9, .str), (22, (.sl 36 Y_Object)), (24, Y_Heap), (29, Y_Value), (34, (.sl 29 Y_Value)), (36, Y_Object)], nf := [(24, 1), (36, 10)], by_ := [(29, 96), (36, 168)], env := [⟨15, F15.A, F15.R, c15⟩, ⟨16, F16.A, F16.R, c16⟩, ⟨14, F14.A, F14.R, c14⟩, ⟨17, F17.A, F17.R, c17⟩, ⟨18, F18.A, F18.R, c18⟩, ⟨19, F19.A, F19.R, c19⟩, ⟨20, F20.A, F20.R, c20⟩, ⟨21, F21.A, F21.R, c21⟩, ⟨22, F22.A, F22.R, c22⟩, ⟨23, F23.A, F23.R, c23⟩, ⟨24, F24.A, F24.R, c24⟩, ⟨26, F26.A, F26.R, c26⟩, ⟨27, F27.A, F27.R, c27⟩, ⟨25, F25.A, F25.R, c25⟩, ⟨6, F6.A, F6.R, c6⟩, ⟨28, F28.A, F28.R, c28⟩, ⟨29, F29.A, F29.R, c29⟩, ⟨30, F30.A, F30.R, c30⟩, ⟨31, F31.A, F31.R, c31⟩, ⟨7, F7.A, F7.R, c7⟩, ⟨32, F32.A, F32.R, c32⟩, ⟨33, F33.A, F33.R, c33⟩], spec := [] }
noncomputable def F4.code : Code := Func.code Tryz.f4
noncomputable def F4.fin (c15 : F15.E) (c16 : F16.E) (c14 : F14.E) (c17 : F17.E) (c18 : F18.E) (c19 : F19.E) (c20 : F20.E) (c21 : F21.E) (c22 : F22.E) (c23 : F23.E) (c24 : F24.E) (c26 : F26.E) (c27 : F27.E) (c25 : F25.E) (c6 : F6.E) (c28 : F28.E) (c29 : F29.E) (c30 : F30.E) (c31 : F31.E) (c7 : F7.E) (c32 : F32.E) (c33 : F33.E) := kfin (F4.C c15 c16 c14 c17 c18 c19 c20 c21 c22 c23 c24 c26 c27 c25 c6 c28 c29 c30 c31 c7 c32 c33) Tryz.f4 F4.A F4.R
def F4.b (c15 : F15.E) (c16 : F16.E) (c14 : F14.E) (c17 : F17.E) (c18 : F18.E) (c19 : F19.E) (c20 : F20.E) (c21 : F21.E) (c22 : F22.E) (c23 : F23.E) (c24 : F24.E) (c26 : F26.E) (c27 : F27.E) (c25 : F25.E) (c6 : F6.E) (c28 : F28.E) (c29 : F29.E) (c30 : F30.E) (c31 : F31.E) (c7 : F7.E) (c32 : F32.E) (c33 : F33.E)  (a0 : List X_Object) (a1 : X_Value) (a2 : Int) (a3 : List UInt8) (a4 : Int) (a5 : Int) : Option (Bool) :=
 (c15 a2).bind fun y1 =>
 (c16 a2).bind fun y2 =>
 (c14 (y1, y2)).bind fun y3 =>
 bif (!y3) then
 some false
 else
 (c17 a3).bind fun y4 =>
 (c18 a3).bind fun y5 =>
 (c14 (y4, y5)).bind fun y6 =>
 bif (!y6) then
 some false
 else
 (c19 a2).bind fun y7 =>
 (c20 a2).bind fun y8 =>
 (c14 (y7, y8)).bind fun y9 =>
 bif (!y9) then
 some false
 else
 (c21 (decide (a2 > (0 : Int)))).bind fun y10 =>
 (c22 (decide (a2 > (0 : Int)))).bind fun y11 =>
 (c14 (y10, y11)).bind fun y12 =>
 bif (!y12) then
 some false
 else
 (c23 a3).bind fun y13 =>
 (c24 a3).bind fun y14 =>
 bif (y13 != y14) then
 some false
 else
 (c26 ()).bind fun y15 =>
 (c27 ()).bind fun y16 =>
 (c25 (y15, y16)).bind fun y17 =>
 bif (!y17) then
 some false
 else
 (c6 (a0, (List.take 1 ([a1] : List X_Value)))).bind fun y18 =>
 bif (!y18) then
 some true
 else
 (c28 (a0, a1)).bind fun y19 =>
 (c29 (a0, a1)).bind fun y20 =>
 bif (y19 != y20) then
 some false
 else
 (c30 (a0, a1)).bind fun y21 =>
 (c31 (a0, a1)).bind fun y22 =>
 bif (y21 != y22) then
 some false
 else
 (c7 (a0, a4)).bind fun y23 =>
 bif (!y23) then
 some true
 else
 (c7 (a0, a5)).bind fun y24 =>
 bif (!y24) then
 some true
 else
 if 0 ≤ a4 ∧ a4 < ((List.length a0) : Int) then
 bif (((List.getD a0 (Int.toNat a4) Z_Object).1) != (9 : Int)) then
 some true
 else
 if 0 ≤ a5 ∧ a5 < ((List.length a0) : Int) then
 bif (((List.getD a0 (Int.toNat a5) Z_Object).1) != (9 : Int)) then
 some true
 else
 (c32 (a0, (a4, a5))).bind fun y25 =>
 (c33 (a0, (a4, a5))).bind fun y26 =>
 some (y25 == y26)
 else none
 else none
def F4.c (c15 : F15.E) (c16 : F16.E) (c14 : F14.E) (c17 : F17.E) (c18 : F18.E) (c19 : F19.E) (c20 : F20.E) (c21 : F21.E) (c22 : F22.E) (c23 : F23.E) (c24 : F24.E) (c26 : F26.E) (c27 : F27.E) (c25 : F25.E) (c6 : F6.E) (c28 : F28.E) (c29 : F29.E) (c30 : F30.E) (c31 : F31.E) (c7 : F7.E) (c32 : F32.E) (c33 : F33.E)  (a0 : List X_Object) (a1 : X_Value) (a2 : Int) (a3 : List UInt8) (a4 : Int) (a5 : Int) : Option (Bool) :=
 (c15 a2).bind fun y1 =>
 (c16 a2).bind fun y2 =>
 (c14 (y1, y2)).bind fun y3 =>
 bif !y3 then
 some false
 else
 (c17 a3).bind fun y4 =>
 (c18 a3).bind fun y5 =>
 (c14 (y4, y5)).bind fun y6 =>
 bif !y6 then
 some false
 else
 (c19 a2).bind fun y7 =>
 (c20 a2).bind fun y8 =>
 (c14 (y7, y8)).bind fun y9 =>
 bif !y9 then
 some false
 else
 (c21 (decide (a2 > (0 : Int)))).bind fun y10 =>
 (c22 (decide (a2 > (0 : Int)))).bind fun y11 =>
 (c14 (y10, y11)).bind fun y12 =>
 bif !y12 then
 some false
 else
 (c23 a3).bind fun y13 =>
 (c24 a3).bind fun y14 =>
 bif (y13 != y14) then
 some false
 else
 (c26 ()).bind fun y15 =>
 (c27 ()).bind fun y16 =>
 (c25 (y15, y16)).bind fun y17 =>
 bif !y17 then
 some false
 else
 (c6 (a0, ([a1] : List X_Value))).bind fun y18 =>
 bif !y18 then
 some true
 else
 (c28 (a0, a1)).bind fun y19 =>
 (c29 (a0, a1)).bind fun y20 =>
 bif (y19 != y20) then
 some false
 else
 (c30 (a0, a1)).bind fun y21 =>
 (c31 (a0, a1)).bind fun y22 =>
 bif (y21 != y22) then
 some false
 else
 (c7 (a0, a4)).bind fun y23 =>
 bif !y23 then
 some true
 else
 (c7 (a0, a5)).bind fun y24 =>
 bif !y24 then
 some true
 else
 if 0 ≤ a4 ∧ a4 < ((List.length a0) : Int) then
 bif (((List.getD a0 (Int.toNat a4) Z_Object).1) != (9 : Int)) then
 some true
 else
 if 0 ≤ a5 ∧ a5 < ((List.length a0) : Int) then
 bif (((List.getD a0 (Int.toNat a5) Z_Object).1) != (9 : Int)) then
 some true
 else
 (c32 (a0, (a4, a5))).bind fun y25 =>
 (c33 (a0, (a4, a5))).bind fun y26 =>
 some (y25 == y26)
 else none
 else none
theorem F4.q (c15 : F15.E) (c16 : F16.E) (c14 : F14.E) (c17 : F17.E) (c18 : F18.E) (c19 : F19.E) (c20 : F20.E) (c21 : F21.E) (c22 : F22.E) (c23 : F23.E) (c24 : F24.E) (c26 : F26.E) (c27 : F27.E) (c25 : F25.E) (c6 : F6.E) (c28 : F28.E) (c29 : F29.E) (c30 : F30.E) (c31 : F31.E) (c7 : F7.E) (c32 : F32.E) (c33 : F33.E)  (a0 : List X_Object) (a1 : X_Value) (a2 : Int) (a3 : List UInt8) (a4 : Int) (a5 : Int) : F4.b c15 c16 c14 c17 c18 c19 c20 c21 c22 c23 c24 c26 c27 c25 c6 c28 c29 c30 c31 c7 c32 c33 a0 a1 a2 a3 a4 a5 = F4.c c15 c16 c14 c17 c18 c19 c20 c21 c22 c23 c24 c26 c27 c25 c6 c28 c29 c30 c31 c7 c32 c33 a0 a1 a2 a3 a4 a5 := by
  simp only [F4.b, F4.c, List.take_length, take_one, Nat.zero_add, Int.toNat_natCast, Int.toNat_zero, List.drop_zero, List.append_eq, Nat.le_refl, Int.le_refl, true_and, and_true, zero_le_one, if_true, prod_eta, Int.natCast_zero]
def F4.f (c15 : F15.E) (c16 : F16.E) (c14 : F14.E) (c17 : F17.E) (c18 : F18.E) (c19 : F19.E) (c20 : F20.E) (c21 : F21.E) (c22 : F22.E) (c23 : F23.E) (c24 : F24.E) (c26 : F26.E) (c27 : F27.E) (c25 : F25.E) (c6 : F6.E) (c28 : F28.E) (c29 : F29.E) (c30 : F30.E) (c31 : F31.E) (c7 : F7.E) (c32 : F32.E) (c33 : F33.E) (k : Nat) (a0 : List X_Object) (a1 : X_Value) (a2 : Int) (a3 : List UInt8) (a4 : Int) (a5 : Int) : Option (Bool) := F4.b c15 c16 c14 c17 c18 c19 c20 c21 c22 c23 c24 c26 c27 c25 c6 c28 c29 c30 c31 c7 c32 c33  a0 a1 a2 a3 a4 a5
theorem F4.r (c15 : F15.E) (c16 : F16.E) (c14 : F14.E) (c17 : F17.E) (c18 : F18.E) (c19 : F19.E) (c20 : F20.E) (c21 : F21.E) (c22 : F22.E) (c23 : F23.E) (c24 : F24.E) (c26 : F26.E) (c27 : F27.E) (c25 : F25.E) (c6 : F6.E) (c28 : F28.E) (c29 : F29.E) (c30 : F30.E) (c31 : F31.E) (c7 : F7.E) (c32 : F32.E) (c33 : F33.E) (k : Nat) (a0 : List X_Object) (a1 : X_Value) (a2 : Int) (a3 : List UInt8) (a4 : Int) (a5 : Int) : fn (F4.C c15 c16 c14 c17 c18 c19 c20 c21 c22 c23 c24 c26 c27 c25 c6 c28 c29 c30 c31 c7 c32 c33) k Tryz.f4 F4.A F4.R (a0, (a1, (a2, (a3, (a4, a5))))) = F4.b c15 c16 c14 c17 c18 c19 c20 c21 c22 c23 c24 c26 c27 c25 c6 c28 c29 c30 c31 c7 c32 c33  a0 a1 a2 a3 a4 a5 := by kernel_rfl
theorem F4.e (c15 : F15.E) (c16 : F16.E) (c14 : F14.E) (c17 : F17.E) (c18 : F18.E) (c19 : F19.E) (c20 : F20.E) (c21 : F21.E) (c22 : F22.E) (c23 : F23.E) (c24 : F24.E) (c26 : F26.E) (c27 : F27.E) (c25 : F25.E) (c6 : F6.E) (c28 : F28.E) (c29 : F29.E) (c30 : F30.E) (c31 : F31.E) (c7 : F7.E) (c32 : F32.E) (c33 : F33.E) (k : Nat) (a0 : List X_Object) (a1 : X_Value) (a2 : Int) (a3 : List UInt8) (a4 : Int) (a5 : Int) : fn (F4.C c15 c16 c14 c17 c18 c19 c20 c21 c22 c23 c24 c26 c27 c25 c6 c28 c29 c30 c31 c7 c32 c33) k Tryz.f4 F4.A F4.R (a0, (a1, (a2, (a3, (a4, a5))))) = F4.f c15 c16 c14 c17 c18 c19 c20 c21 c22 c23 c24 c26 c27 c25 c6 c28 c29 c30 c31 c7 c32 c33 k a0 a1 a2 a3 a4 a5 := by
  rw [F4.r]
  rfl
theorem F4.ty (c15 : F15.E) (c16 : F16.E) (c14 : F14.E) (c17 : F17.E) (c18 : F18.E) (c19 : F19.E) (c20 : F20.E) (c21 : F21.E) (c22 : F22.E) (c23 : F23.E) (c24 : F24.E) (c26 : F26.E) (c27 : F27.E) (c25 : F25.E) (c6 : F6.E) (c28 : F28.E) (c29 : F29.E) (c30 : F30.E) (c31 : F31.E) (c7 : F7.E) (c32 : F32.E) (c33 : F33.E) : TyOk Tryz.prog (F4.C c15 c16 c14 c17 c18 c19 c20 c21 c22 c23 c24 c26 c27 c25 c6 c28 c29 c30 c31 c7 c32 c33) := tyOk_of (by kernel_rfl)
def F4.u (k : Nat) : F4.E := fun y => F4.f (F15.u k) (F16.u k) (F14.u k) (F17.u k) (F18.u k) (F19.u k) (F20.u k) (F21.u k) (F22.u k) (F23.u k) (F24.u k) (F26.u k) (F27.u k) (F25.u k) (F6.u k) (F28.u k) (F29.u k) (F30.u k) (F31.u k) (F7.u k) (F32.u k) (F33.u k) k y.1 y.2.1 y.2.2.1 y.2.2.2.1 y.2.2.2.2.1 y.2.2.2.2.2
theorem F4.sound (k : Nat) : Sound Tryz.prog ⟨4, F4.A, F4.R, F4.u k⟩ := by
  have h := fn_sound (k := k) («as» := F4.A) (rs := F4.R) (F4.ty (F15.u k) (F16.u k) (F14.u k) (F17.u k) (F18.u k) (F19.u k) (F20.u k) (F21.u k) (F22.u k) (F23.u k) (F24.u k) (F26.u k) (F27.u k) (F25.u k) (F6.u k) (F28.u k) (F29.u k) (F30.u k) (F31.u k) (F7.u k) (F32.u k) (F33.u k)) (fun E h => by
    simp only [F4.C, List.mem_cons, List.not_mem_nil, or_false] at h
    rcases h with rfl | rfl | rfl | rfl | rfl | rfl | rfl | rfl | rfl | rfl | rfl | rfl | rfl | rfl | rfl | rfl | rfl | rfl | rfl | rfl | rfl | rfl
    · exact F15.sound k
    · exact F16.sound k
    · exact F14.sound k
    · exact F17.sound k
    · exact F18.sound k
    · exact F19.sound k
    · exact F20.sound k
    · exact F21.sound k
    · exact F22.sound k
    · exact F23.sound k
    · exact F24.sound k
    · exact F26.sound k
    · exact F27.sound k
    · exact F25.sound k
    · exact F6.sound k
    · exact F28.sound k
    · exact F29.sound k
    · exact F30.sound k
    · exact F31.sound k
    · exact F7.sound k
    · exact F32.sound k
    · exact F33.sound k) mixed Tryz.func4 (by kernel_rfl) (by kernel_rfl)
  have e : fn (F4.C (F15.u k) (F16.u k) (F14.u k) (F17.u k) (F18.u k) (F19.u k) (F20.u k) (F21.u k) (F22.u k) (F23.u k) (F24.u k) (F26.u k) (F27.u k) (F25.u k) (F6.u k) (F28.u k) (F29.u k) (F30.u k) (F31.u k) (F7.u k) (F32.u k) (F33.u k)) k Tryz.f4 F4.A F4.R = F4.u k := by
    funext y
    exact F4.e (F15.u k) (F16.u k) (F14.u k) (F17.u k) (F18.u k) (F19.u k) (F20.u k) (F21.u k) (F22.u k) (F23.u k) (F24.u k) (F26.u k) (F27.u k) (F25.u k) (F6.u k) (F28.u k) (F29.u k) (F30.u k) (F31.u k) (F7.u k) (F32.u k) (F33.u k) k y.1 y.2.1 y.2.2.1 y.2.2.2.1 y.2.2.2.2.1 y.2.2.2.2.2
  rw [e] at h
  exact h
end
end Go.Ab
