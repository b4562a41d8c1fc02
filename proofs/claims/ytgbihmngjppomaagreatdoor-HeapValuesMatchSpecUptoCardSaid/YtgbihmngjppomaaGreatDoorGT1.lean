/- A part of the proof: GT1. -/
import Derived.Test.YtgbihmngjppomaaGreatDoorFTy
import Derived.Test.YtgbihmngjppomaaGreatDoorGC1
import Derived.Test.YtgbihmngjppomaaGreatDoorGC2
import Derived.Test.YtgbihmngjppomaaGreatDoorHLib
namespace Go.Ab
set_option linter.unusedVariables false
set_option linter.unusedSimpArgs false
set_option maxRecDepth 100000
noncomputable section
open Go.Proofs
/-! ### brindlewood/brindlewoodref7.At: f64 -/
abbrev F64.A : List Sh := [(.d (.int .i64)), (.d (.int .i64))]
abbrev F64.R : List Sh := [(.d Y_Fault)]
abbrev F64.E : Type := X_acceptRange → Option X_acceptRange
def F64.C  : Ctx := { ty := [(64, Y_Fault)], nf := [(64, 2)], by_ := [], env := [], spec := [] }
noncomputable def F64.code : Code := Func.code Tryz.f64
noncomputable def F64.fin  := kfin (F64.C ) Tryz.f64 F64.A F64.R
def F64.b   (a0 : Int) (a1 : Int) : Option X_acceptRange :=
 some (a0, a1)
def F64.f  (k : Nat) (a0 : Int) (a1 : Int) : Option X_acceptRange := F64.b   a0 a1
theorem F64.r  (k : Nat) (a0 : Int) (a1 : Int) : fn (F64.C ) k Tryz.f64 F64.A F64.R (a0, a1) = F64.b   a0 a1 := by kernel_rfl
theorem F64.e  (k : Nat) (a0 : Int) (a1 : Int) : fn (F64.C ) k Tryz.f64 F64.A F64.R (a0, a1) = F64.f  k a0 a1 := by
  rw [F64.r]
  rfl
theorem F64.ty  : TyOk Tryz.prog (F64.C ) := tyOk_of (by kernel_rfl)
def F64.u (k : Nat) : F64.E := fun y => F64.f  k y.1 y.2
theorem F64.sound (k : Nat) : Sound Tryz.prog ⟨64, F64.A, F64.R, F64.u k⟩ := by
  have h := fn_sound (k := k) («as» := F64.A) (rs := F64.R) (F64.ty ) (fun E h => by cases h) mixed Tryz.func64 (by kernel_rfl) (by kernel_rfl)
  have e : fn (F64.C ) k Tryz.f64 F64.A F64.R = F64.u k := by
    funext y
    exact F64.e  k y.1 y.2
  rw [e] at h
  exact h
/-! ### slices.Index[[]string,string]: f55 -/
abbrev F55.A : List Sh := [(.d (.sl 9 .str)), (.d .str)]
abbrev F55.R : List Sh := [(.d (.int .i64))]
abbrev F55.E : Type := ((List (List UInt8)) × (List UInt8)) → Option (Int)
def F55.C  : Ctx := { ty := [(3, (.int .i64)), (9, .str), (33, (.sl 9 .str))], nf := [], by_ := [(9, 16)], env := [], spec := [(0, [.d 0 (.sl 9 .str), .d 1 .str, .d 7 (.int .i64), .d 8 (.int .i64)])] }
noncomputable def F55.code : Code := Func.code Tryz.f55
noncomputable def F55.fin  := kfin (F55.C ) Tryz.f55 F55.A F55.R
def F55.b  (r_l0 : (List (List UInt8)) → (List UInt8) → (Int) → (Int) → Option (Int)) (a0 : List (List UInt8)) (a1 : List UInt8) : Option (Int) :=
 r_l0 a0 a1 ((List.length a0) : Int) (0 : Int)
def F55.b_l0  (n_l0 : (List (List UInt8)) → (List UInt8) → (Int) → (Int) → Option (Int)) (x0 : List (List UInt8)) (x1 : List UInt8) (x7 : Int) (x8 : Int) : Option (Int) :=
 bif (decide (x8 < x7)) then
 if 0 ≤ x8 ∧ x8 < ((List.length x0) : Int) then
 bif (x1 == (List.getD x0 (Int.toNat x8) [])) then
 some x8
 else
 n_l0 x0 x1 x7 (IntKind.i64.wrap (x8 + (1 : Int)))
 else none
 else
 some (-1 : Int)
def F55.l0  (k : Nat)  : Nat → (List (List UInt8)) → (List UInt8) → (Int) → (Int) → Option (Int)
  | 0, _, _, _, _ => none
  | n + 1, x0, x1, x7, x8 => F55.b_l0  (fun x0 x1 x7 x8 => F55.l0  k  n x0 x1 x7 x8) x0 x1 x7 x8
def F55.f  (k : Nat) (a0 : List (List UInt8)) (a1 : List UInt8) : Option (Int) := F55.b  (F55.l0  k k) a0 a1
noncomputable def F55.M_l0  (k n : Nat)  (s : St) : Option (Int) := atLoop (F55.C ) k n [1, 0, 1, 0] [] F55.code (F55.fin ) s
noncomputable def F55.fr_l0 (x0 : List (List UInt8)) (x1 : List UInt8) (x7 : Int) (x8 : Int) : St := ⟨(((((List.replicate 19 V.un).set 0 (V.dat (.sl 9 .str) x0)).set 1 (V.dat .str x1)).set 7 (V.dat (.int .i64) x7)).set 8 (V.dat (.int .i64) x8)), []⟩
theorem F55.r  (k : Nat) (a0 : List (List UInt8)) (a1 : List UInt8) : fn (F55.C ) k Tryz.f55 F55.A F55.R (a0, a1) = F55.b  (fun x0 x1 x7 x8 => F55.M_l0  k k  (F55.fr_l0 x0 x1 x7 x8)) a0 a1 := by kernel_rfl
theorem F55.z_l0  (k : Nat)  (s : St) : F55.M_l0  k 0  s = none := by kernel_rfl
theorem F55.r_l0  (k n : Nat)  (x0 : List (List UInt8)) (x1 : List UInt8) (x7 : Int) (x8 : Int) : F55.M_l0  k (n + 1)  (F55.fr_l0 x0 x1 x7 x8) = F55.b_l0  (fun x0 x1 x7 x8 => F55.M_l0  k n  (F55.fr_l0 x0 x1 x7 x8)) x0 x1 x7 x8 := by kernel_rfl
theorem F55.e_l0  (k n : Nat)  (x0 : List (List UInt8)) (x1 : List UInt8) (x7 : Int) (x8 : Int) : F55.M_l0  k n  (F55.fr_l0 x0 x1 x7 x8) = F55.l0  k  n x0 x1 x7 x8 := by
  induction n generalizing x0 x1 x7 x8 with
  | zero => rw [F55.z_l0]; rfl
  | succ n ih =>
    rw [F55.r_l0]
    simp only [ih]
    rfl
theorem F55.e  (k : Nat) (a0 : List (List UInt8)) (a1 : List UInt8) : fn (F55.C ) k Tryz.f55 F55.A F55.R (a0, a1) = F55.f  k a0 a1 := by
  rw [F55.r]
  simp only [F55.e_l0]
  rfl
theorem F55.ty  : TyOk Tryz.prog (F55.C ) := tyOk_of (by kernel_rfl)
def F55.u (k : Nat) : F55.E := fun y => F55.f  k y.1 y.2
theorem F55.sound (k : Nat) : Sound Tryz.prog ⟨55, F55.A, F55.R, F55.u k⟩ := by
  have h := fn_sound (k := k) («as» := F55.A) (rs := F55.R) (F55.ty ) (fun E h => by cases h) mixed Tryz.func55 (by kernel_rfl) (by kernel_rfl)
  have e : fn (F55.C ) k Tryz.f55 F55.A F55.R = F55.u k := by
    funext y
    exact F55.e  k y.1 y.2
  rw [e] at h
  exact h
/-! ### brindlewood/brindlewoodref7.Begin: f27 -/
abbrev F27.A : List Sh := []
abbrev F27.R : List Sh := [(.d Y_Heap)]
abbrev F27.E : Type := (Unit) → Option (List X_Object)
def F27.C (c52 : F52.E) (c54 : F54.E) (c55 : F55.E) : Ctx := { ty := [(3, (.int .i64)), (9, .str), (22, (.sl 36 Y_Object)), (24, Y_Heap), (32, (.sl 3 (.int .i64))), (33, (.sl 9 .str)), (36, Y_Object)], nf := [(24, 1), (36, 10)], by_ := [(3, 8), (9, 16), (36, 168)], env := [⟨52, F52.A, F52.R, c52⟩, ⟨54, F54.A, F54.R, c54⟩, ⟨55, F55.A, F55.R, c55⟩], spec := [(0, [.bx 0 600000 (.one (.o 36 Y_Object)), .bx 1 600001 (.one (.o 36 Y_Object)), .o 2 500002 9 .str, .d 10 (.sl 9 .str), .d 11 (.int .i64), .d 12 (.int .i64)]), (100011, [.bx 0 600000 (.one (.o 36 Y_Object)), .bx 1 600001 (.one (.o 36 Y_Object)), .o 2 500002 9 .str, .d 5 .str, .bx 8 600008 (.pair (.d (.int .i64)) (.pair (.d .str) (.pair (.d (.int .i64)) (.pair (.o 3 (.int .i64)) (.pair (.o 3 (.int .i64)) (.pair (.o 9 .str) (.pair (.o 29 Y_Value) (.pair (.o 29 Y_Value) (.d Y_Fault))))))))), .d 10 (.sl 9 .str), .d 11 (.int .i64), .d 12 (.int .i64)])] }
noncomputable def F27.code : Code := Func.code Tryz.f27
noncomputable def F27.fin (c52 : F52.E) (c54 : F54.E) (c55 : F55.E) := kfin (F27.C c52 c54 c55) Tryz.f27 F27.A F27.R
def F27.b (c52 : F52.E) (c54 : F54.E) (c55 : F55.E) (r_l0 : (List X_Object) → (List X_Object) → (List (List UInt8)) → (List (List UInt8)) → (Int) → (Int) → Option (List X_Object))  : Option (List X_Object) :=
 (c52 [111, 98, 106, 101, 99, 116, 32, 99, 108, 97, 115, 115, 58, 111, 98, 106, 101, 99, 116, 32, 110, 105, 108, 95, 116, 121, 112, 101, 58, 111, 98, 106, 101, 99, 116, 32, 98, 111, 111, 108, 58, 111, 98, 106, 101, 99, 116, 32, 105, 110, 116, 58, 111, 98, 106, 101, 99, 116, 32, 114, 97, 116, 105, 111, 58, 111, 98, 106, 101, 99, 116, 32, 116, 101, 120, 116, 58, 111, 98, 106, 101, 99, 116, 32, 98, 121, 116, 101, 115, 58, 111, 98, 106, 101, 99, 116, 32, 116, 117, 112, 108, 101, 58, 111, 98, 106, 101, 99, 116, 32, 108, 105, 115, 116, 58, 111, 98, 106, 101, 99, 116, 32, 100, 105, 99, 116, 58, 111, 98, 106, 101, 99, 116, 32, 115, 101, 116, 58, 111, 98, 106, 101, 99, 116, 32, 114, 97, 110, 103, 101, 58, 111, 98, 106, 101, 99, 116, 32, 99, 101, 108, 108, 58, 111, 98, 106, 101, 99, 116, 32, 102, 117, 110, 99, 116, 105, 111, 110, 58, 111, 98, 106, 101, 99, 116, 32, 98, 117, 105, 108, 116, 105, 110, 58, 111, 98, 106, 101, 99, 116, 32, 109, 101, 116, 104, 111, 100, 58, 111, 98, 106, 101, 99, 116, 32, 109, 111, 100, 117, 108, 101, 58, 111, 98, 106, 101, 99, 116, 32, 112, 114, 111, 112, 101, 114, 116, 121, 58, 111, 98, 106, 101, 99, 116, 32, 115, 116, 97, 116, 105, 99, 58, 111, 98, 106, 101, 99, 116, 32, 99, 108, 97, 115, 115, 95, 109, 101, 116, 104, 111, 100, 58, 111, 98, 106, 101, 99, 116, 32, 115, 117, 112, 101, 114, 95, 116, 121, 112, 101, 58, 111, 98, 106, 101, 99, 116, 32, 105, 116, 101, 114, 97, 116, 111, 114, 58, 111, 98, 106, 101, 99, 116, 32, 103, 101, 110, 101, 114, 97, 116, 111, 114, 58, 111, 98, 106, 101, 99, 116, 32, 119, 101, 97, 107, 58, 111, 98, 106, 101, 99, 116, 32, 116, 97, 115, 107, 58, 111, 98, 106, 101, 99, 116, 32, 116, 105, 109, 101, 114, 58, 111, 98, 106, 101, 99, 116, 32, 112, 97, 115, 115, 95, 116, 121, 112, 101, 58, 111, 98, 106, 101, 99, 116, 32, 82, 97, 105, 115, 101, 100, 58, 111, 98, 106, 101, 99, 116, 32, 69, 120, 105, 116, 58, 82, 97, 105, 115, 101, 100, 32, 67, 97, 110, 99, 101, 108, 58, 82, 97, 105, 115, 101, 100, 32, 69, 114, 114, 111, 114, 58, 82, 97, 105, 115, 101, 100, 32, 84, 121, 112, 101, 69, 114, 114, 111, 114, 58, 69, 114, 114, 111, 114, 32, 86, 97, 108, 117, 101, 69, 114, 114, 111, 114, 58, 69, 114, 114, 111, 114, 32, 78, 97, 109, 101, 69, 114, 114, 111, 114, 58, 69, 114, 114, 111, 114, 32, 85, 110, 98, 111, 117, 110, 100, 69, 114, 114, 111, 114, 58, 78, 97, 109, 101, 69, 114, 114, 111, 114, 32, 65, 116, 116, 114, 105, 98, 117, 116, 101, 69, 114, 114, 111, 114, 58, 69, 114, 114, 111, 114, 32, 76, 111, 111, 107, 117, 112, 69, 114, 114, 111, 114, 58, 69, 114, 114, 111, 114, 32, 73, 110, 100, 101, 120, 69, 114, 114, 111, 114, 58, 76, 111, 111, 107, 117, 112, 69, 114, 114, 111, 114, 32, 75, 101, 121, 69, 114, 114, 111, 114, 58, 76, 111, 111, 107, 117, 112, 69, 114, 114, 111, 114, 32, 65, 114, 105, 116, 104, 109, 101, 116, 105, 99, 69, 114, 114, 111, 114, 58, 69, 114, 114, 111, 114, 32, 68, 105, 118, 105, 115, 105, 111, 110, 69, 114, 114, 111, 114, 58, 65, 114, 105, 116, 104, 109, 101, 116, 105, 99, 69, 114, 114, 111, 114, 32, 76, 105, 109, 105, 116, 69, 114, 114, 111, 114, 58, 69, 114, 114, 111, 114, 32, 82, 101, 99, 117, 114, 115, 105, 111, 110, 69, 114, 114, 111, 114, 58, 76, 105, 109, 105, 116, 69, 114, 114, 111, 114, 32, 65, 115, 115, 101, 114, 116, 105, 111, 110, 69, 114, 114, 111, 114, 58, 69, 114, 114, 111, 114, 32, 73, 109, 112, 111, 114, 116, 69, 114, 114, 111, 114, 58, 69, 114, 114, 111, 114, 32, 83, 116, 111, 112, 69, 114, 114, 111, 114, 58, 69, 114, 114, 111, 114, 32, 83, 116, 97, 116, 101, 69, 114, 114, 111, 114, 58, 69, 114, 114, 111, 114, 32, 71, 114, 111, 117, 112, 69, 114, 114, 111, 114, 58, 69, 114, 114, 111, 114]).bind fun y1 =>
 r_l0 ([] : List X_Object) ([] : List X_Object) ([] : List (List UInt8)) y1 ((List.length y1) : Int) (0 : Int)
def F27.b_l0 (c52 : F52.E) (c54 : F54.E) (c55 : F55.E) (r_g11 : (List X_Object) → (List X_Object) → (List (List UInt8)) → (List UInt8) → X_Object → (List (List UInt8)) → (Int) → (Int) → Option (List X_Object)) (x0 : List X_Object) (x1 : List X_Object) (x2 : List (List UInt8)) (x10 : List (List UInt8)) (x11 : Int) (x12 : Int) : Option (List X_Object) :=
 bif (decide (x12 < x11)) then
 if 0 ≤ x12 ∧ x12 < ((List.length x10) : Int) then
 (c54 ((List.getD x10 (Int.toNat x12) []), [58])).bind fun y2 =>
 bif y2.2.2 then
 (c55 ((List.take (List.length x2) x2), y2.2.1)).bind fun y3 =>
 if 0 ≤ y3 ∧ y3 < (((List.length x1) : Nat) : Int) then
 if 1 ≤ (List.length ([x12] : List (Int))) ∧ (1 + (List.length ((((((List.getD x1 (0 + Int.toNat y3) Z_Object).2).2).2).2).1))) * 8 ≤ LIM then
 r_g11 (List.take (List.length x0) x0) (List.take (List.length x1) x1) (List.take (List.length x2) x2) y2.1 ((9 : Int), (y2.1, ((0 : Int), ((List.take 1 ([y3] : List (Int))), ((List.take (List.length (List.append (List.take 1 ([x12] : List (Int))) ((((((List.getD x1 (0 + Int.toNat y3) Z_Object).2).2).2).2).1))) (List.append (List.take 1 ([x12] : List (Int))) ((((((List.getD x1 (0 + Int.toNat y3) Z_Object).2).2).2).2).1))), (([] : List (List UInt8)), (([] : List X_Value), (([] : List X_Value), ((0 : Int), (0 : Int)))))))))) x10 x11 x12
 else none
 else none
 else
 r_g11 (List.take (List.length x0) x0) (List.take (List.length x1) x1) (List.take (List.length x2) x2) y2.1 ((9 : Int), (y2.1, ((0 : Int), (([] : List (Int)), ((List.take 1 ([x12] : List (Int))), (([] : List (List UInt8)), (([] : List X_Value), (([] : List X_Value), ((0 : Int), (0 : Int)))))))))) x10 x11 x12
 else none
 else
 some (List.take (List.length x1) x1)
def F27.b_g11 (c52 : F52.E) (c54 : F54.E) (c55 : F55.E) (n_l0 : (List X_Object) → (List X_Object) → (List (List UInt8)) → (List (List UInt8)) → (Int) → (Int) → Option (List X_Object)) (x0 : List X_Object) (x1 : List X_Object) (x2 : List (List UInt8)) (x5 : List UInt8) (x8 : X_Object) (x10 : List (List UInt8)) (x11 : Int) (x12 : Int) : Option (List X_Object) :=
 if (List.length x2) ≤ (List.length x2) ∧ ((List.length x2) + (List.length (List.take 1 ([x5] : List (List UInt8))))) * 16 ≤ LIM then
 if (List.length x1) ≤ (List.length x1) ∧ ((List.length x1) + (List.length (List.take 1 ([(x8.1, (x8.2.1, (x8.2.2.1, ((List.take (List.length x8.2.2.2.1) x8.2.2.2.1), ((List.take (List.length x8.2.2.2.2.1) x8.2.2.2.2.1), ((List.take (List.length x8.2.2.2.2.2.1) x8.2.2.2.2.2.1), ((List.take (List.length x8.2.2.2.2.2.2.1) x8.2.2.2.2.2.2.1), ((List.take (List.length x8.2.2.2.2.2.2.2.1) x8.2.2.2.2.2.2.2.1), x8.2.2.2.2.2.2.2.2))))))))] : List X_Object)))) * 168 ≤ LIM then
 n_l0 (List.take (List.length x0) x0) (List.take (List.length (List.append (List.take (List.length x1) x1) (List.take 1 ([(x8.1, (x8.2.1, (x8.2.2.1, ((List.take (List.length x8.2.2.2.1) x8.2.2.2.1), ((List.take (List.length x8.2.2.2.2.1) x8.2.2.2.2.1), ((List.take (List.length x8.2.2.2.2.2.1) x8.2.2.2.2.2.1), ((List.take (List.length x8.2.2.2.2.2.2.1) x8.2.2.2.2.2.2.1), ((List.take (List.length x8.2.2.2.2.2.2.2.1) x8.2.2.2.2.2.2.2.1), x8.2.2.2.2.2.2.2.2))))))))] : List X_Object)))) (List.append (List.take (List.length x1) x1) (List.take 1 ([(x8.1, (x8.2.1, (x8.2.2.1, ((List.take (List.length x8.2.2.2.1) x8.2.2.2.1), ((List.take (List.length x8.2.2.2.2.1) x8.2.2.2.2.1), ((List.take (List.length x8.2.2.2.2.2.1) x8.2.2.2.2.2.1), ((List.take (List.length x8.2.2.2.2.2.2.1) x8.2.2.2.2.2.2.1), ((List.take (List.length x8.2.2.2.2.2.2.2.1) x8.2.2.2.2.2.2.2.1), x8.2.2.2.2.2.2.2.2))))))))] : List X_Object)))) (List.take (List.length (List.append (List.take (List.length x2) x2) (List.take 1 ([x5] : List (List UInt8))))) (List.append (List.take (List.length x2) x2) (List.take 1 ([x5] : List (List UInt8))))) x10 x11 (IntKind.i64.wrap (x12 + (1 : Int)))
 else none
 else none
def F27.g11 (c52 : F52.E) (c54 : F54.E) (c55 : F55.E) (k : Nat) (n_l0 : (List X_Object) → (List X_Object) → (List (List UInt8)) → (List (List UInt8)) → (Int) → (Int) → Option (List X_Object)) (x0 : List X_Object) (x1 : List X_Object) (x2 : List (List UInt8)) (x5 : List UInt8) (x8 : X_Object) (x10 : List (List UInt8)) (x11 : Int) (x12 : Int) : Option (List X_Object) := gate k (F27.b_g11 c52 c54 c55 n_l0 x0 x1 x2 x5 x8 x10 x11 x12)
def F27.l0 (c52 : F52.E) (c54 : F54.E) (c55 : F55.E) (k : Nat)  : Nat → (List X_Object) → (List X_Object) → (List (List UInt8)) → (List (List UInt8)) → (Int) → (Int) → Option (List X_Object)
  | 0, _, _, _, _, _, _ => none
  | n + 1, x0, x1, x2, x10, x11, x12 => F27.b_l0 c52 c54 c55 (F27.g11 c52 c54 c55 k (fun x0 x1 x2 x10 x11 x12 => F27.l0 c52 c54 c55 k  n x0 x1 x2 x10 x11 x12)) x0 x1 x2 x10 x11 x12
def F27.f (c52 : F52.E) (c54 : F54.E) (c55 : F55.E) (k : Nat)  : Option (List X_Object) := F27.b c52 c54 c55 (F27.l0 c52 c54 c55 k k) 
noncomputable def F27.M_l0 (c52 : F52.E) (c54 : F54.E) (c55 : F55.E) (k n : Nat)  (s : St) : Option (List X_Object) := atLoop (F27.C c52 c54 c55) k n [1, 1, 1, 0, 1, 0] [] F27.code (F27.fin c52 c54 c55) s
noncomputable def F27.fr_l0 (x0 : List X_Object) (x1 : List X_Object) (x2 : List (List UInt8)) (x10 : List (List UInt8)) (x11 : Int) (x12 : Int) : St := ⟨(((((((List.replicate 56 V.un).set 0 (V.bp 600000 0 [])).set 1 (V.bp 600001 0 [])).set 2 (V.ref 500002 0 0 (List.length x2))).set 10 (V.dat (.sl 9 .str) x10)).set 11 (V.dat (.int .i64) x11)).set 12 (V.dat (.int .i64) x12)), [⟨500002, 0, .arr 9 .str x2⟩, ⟨600001, 0, .box (V.st1 (V.ref 11600016 0 0 (List.length x1)))⟩, ⟨11600016, 0, .arr 36 Y_Object x1⟩, ⟨600000, 0, .box (V.st1 (V.ref 11600000 0 0 (List.length x0)))⟩, ⟨11600000, 0, .arr 36 Y_Object x0⟩]⟩
noncomputable def F27.M_g11 (c52 : F52.E) (c54 : F54.E) (c55 : F55.E) (k : Nat) (m0 : Nat) (s : St) : Option (List X_Object) := atGate (F27.C c52 c54 c55) k [1, 1, 1, 0, 1, 0, 0, 1, 1, 0, 0, 1, 1, 1, 1, 0] [m0] F27.code (F27.fin c52 c54 c55) s
noncomputable def F27.fr_g11 (x0 : List X_Object) (x1 : List X_Object) (x2 : List (List UInt8)) (x5 : List UInt8) (x8 : X_Object) (x10 : List (List UInt8)) (x11 : Int) (x12 : Int) : St := ⟨(((((((((List.replicate 56 V.un).set 0 (V.bp 600000 0 [])).set 1 (V.bp 600001 0 [])).set 2 (V.ref 500002 0 0 (List.length x2))).set 5 (V.dat .str x5)).set 8 (V.bp 600008 0 [])).set 10 (V.dat (.sl 9 .str) x10)).set 11 (V.dat (.int .i64) x11)).set 12 (V.dat (.int .i64) x12)), [⟨600008, 0, .box (V.st (V.dat (.int .i64) x8.1) (V.st (V.dat .str x8.2.1) (V.st (V.dat (.int .i64) x8.2.2.1) (V.st (V.ref 11600128 0 0 (List.length x8.2.2.2.1)) (V.st (V.ref 11600129 0 0 (List.length x8.2.2.2.2.1)) (V.st (V.ref 11600130 0 0 (List.length x8.2.2.2.2.2.1)) (V.st (V.ref 11600131 0 0 (List.length x8.2.2.2.2.2.2.1)) (V.st (V.ref 11600132 0 0 (List.length x8.2.2.2.2.2.2.2.1)) (V.dat Y_Fault x8.2.2.2.2.2.2.2.2)))))))))⟩, ⟨11600128, 0, .arr 3 (.int .i64) x8.2.2.2.1⟩, ⟨11600129, 0, .arr 3 (.int .i64) x8.2.2.2.2.1⟩, ⟨11600130, 0, .arr 9 .str x8.2.2.2.2.2.1⟩, ⟨11600131, 0, .arr 29 Y_Value x8.2.2.2.2.2.2.1⟩, ⟨11600132, 0, .arr 29 Y_Value x8.2.2.2.2.2.2.2.1⟩, ⟨500002, 0, .arr 9 .str x2⟩, ⟨600001, 0, .box (V.st1 (V.ref 11600016 0 0 (List.length x1)))⟩, ⟨11600016, 0, .arr 36 Y_Object x1⟩, ⟨600000, 0, .box (V.st1 (V.ref 11600000 0 0 (List.length x0)))⟩, ⟨11600000, 0, .arr 36 Y_Object x0⟩]⟩
theorem F27.r (c52 : F52.E) (c54 : F54.E) (c55 : F55.E) (k : Nat)  : fn (F27.C c52 c54 c55) k Tryz.f27 F27.A F27.R () = F27.b c52 c54 c55 (fun x0 x1 x2 x10 x11 x12 => F27.M_l0 c52 c54 c55 k k  (F27.fr_l0 x0 x1 x2 x10 x11 x12))  := by kernel_rfl
theorem F27.z_l0 (c52 : F52.E) (c54 : F54.E) (c55 : F55.E) (k : Nat)  (s : St) : F27.M_l0 c52 c54 c55 k 0  s = none := by kernel_rfl
theorem F27.r_l0 (c52 : F52.E) (c54 : F54.E) (c55 : F55.E) (k n : Nat)  (x0 : List X_Object) (x1 : List X_Object) (x2 : List (List UInt8)) (x10 : List (List UInt8)) (x11 : Int) (x12 : Int) : F27.M_l0 c52 c54 c55 k (n + 1)  (F27.fr_l0 x0 x1 x2 x10 x11 x12) = F27.b_l0 c52 c54 c55 (fun x0 x1 x2 x5 x8 x10 x11 x12 => F27.M_g11 c52 c54 c55 k  n (F27.fr_g11 x0 x1 x2 x5 x8 x10 x11 x12)) x0 x1 x2 x10 x11 x12 := by kernel_rfl
theorem F27.r_g11 (c52 : F52.E) (c54 : F54.E) (c55 : F55.E) (k : Nat) (m0 : Nat) (x0 : List X_Object) (x1 : List X_Object) (x2 : List (List UInt8)) (x5 : List UInt8) (x8 : X_Object) (x10 : List (List UInt8)) (x11 : Int) (x12 : Int) : F27.M_g11 c52 c54 c55 k m0 (F27.fr_g11 x0 x1 x2 x5 x8 x10 x11 x12) = gate k (F27.b_g11 c52 c54 c55 (fun x0 x1 x2 x10 x11 x12 => F27.M_l0 c52 c54 c55 k m0  (F27.fr_l0 x0 x1 x2 x10 x11 x12)) x0 x1 x2 x5 x8 x10 x11 x12) := by kernel_rfl
theorem F27.e_g11 (c52 : F52.E) (c54 : F54.E) (c55 : F55.E) (k : Nat) (m0 : Nat) (x0 : List X_Object) (x1 : List X_Object) (x2 : List (List UInt8)) (x5 : List UInt8) (x8 : X_Object) (x10 : List (List UInt8)) (x11 : Int) (x12 : Int) : F27.M_g11 c52 c54 c55 k m0 (F27.fr_g11 x0 x1 x2 x5 x8 x10 x11 x12) = F27.g11 c52 c54 c55 k (fun x0 x1 x2 x10 x11 x12 => F27.M_l0 c52 c54 c55 k m0  (F27.fr_l0 x0 x1 x2 x10 x11 x12)) x0 x1 x2 x5 x8 x10 x11 x12 := by
  rw [F27.r_g11]
  rfl
theorem F27.e_l0 (c52 : F52.E) (c54 : F54.E) (c55 : F55.E) (k n : Nat)  (x0 : List X_Object) (x1 : List X_Object) (x2 : List (List UInt8)) (x10 : List (List UInt8)) (x11 : Int) (x12 : Int) : F27.M_l0 c52 c54 c55 k n  (F27.fr_l0 x0 x1 x2 x10 x11 x12) = F27.l0 c52 c54 c55 k  n x0 x1 x2 x10 x11 x12 := by
  induction n generalizing x0 x1 x2 x10 x11 x12 with
  | zero => rw [F27.z_l0]; rfl
  | succ n ih =>
    rw [F27.r_l0]
    simp only [F27.e_g11, ih]
    rfl
theorem F27.e (c52 : F52.E) (c54 : F54.E) (c55 : F55.E) (k : Nat)  : fn (F27.C c52 c54 c55) k Tryz.f27 F27.A F27.R () = F27.f c52 c54 c55 k  := by
  rw [F27.r]
  simp only [F27.e_l0]
  rfl
theorem F27.ty (c52 : F52.E) (c54 : F54.E) (c55 : F55.E) : TyOk Tryz.prog (F27.C c52 c54 c55) := tyOk_of (by kernel_rfl)
def F27.u (k : Nat) : F27.E := fun y => F27.f (F52.u k) (F54.u k) (F55.u k) k 
theorem F27.sound (k : Nat) : Sound Tryz.prog ⟨27, F27.A, F27.R, F27.u k⟩ := by
  have h := fn_sound (k := k) («as» := F27.A) (rs := F27.R) (F27.ty (F52.u k) (F54.u k) (F55.u k)) (fun E h => by
    simp only [F27.C, List.mem_cons, List.not_mem_nil, or_false] at h
    rcases h with rfl | rfl | rfl
    · exact F52.sound k
    · exact F54.sound k
    · exact F55.sound k) mixed Tryz.func27 (by kernel_rfl) (by kernel_rfl)
  have e : fn (F27.C (F52.u k) (F54.u k) (F55.u k)) k Tryz.f27 F27.A F27.R = F27.u k := by
    funext y
    exact F27.e (F52.u k) (F54.u k) (F55.u k) k 
  rw [e] at h
  exact h
/-! ### slices.Equal[[]int,int]: f103 -/
abbrev F103.A : List Sh := [(.d (.sl 3 (.int .i64))), (.d (.sl 3 (.int .i64)))]
abbrev F103.R : List Sh := [(.d .bool)]
abbrev F103.E : Type := ((List (Int)) × (List (Int))) → Option (Bool)
def F103.C  : Ctx := { ty := [(3, (.int .i64)), (32, (.sl 3 (.int .i64)))], nf := [], by_ := [(3, 8)], env := [], spec := [(0, [.d 0 (.sl 3 (.int .i64)), .d 1 (.sl 3 (.int .i64)), .d 12 (.int .i64), .d 13 (.int .i64)])] }
noncomputable def F103.code : Code := Func.code Tryz.f103
noncomputable def F103.fin  := kfin (F103.C ) Tryz.f103 F103.A F103.R
def F103.b  (r_l0 : (List (Int)) → (List (Int)) → (Int) → (Int) → Option (Bool)) (a0 : List (Int)) (a1 : List (Int)) : Option (Bool) :=
 bif (((List.length a0) : Int) != ((List.length a1) : Int)) then
 some false
 else
 r_l0 a0 a1 ((List.length a0) : Int) (0 : Int)
def F103.b_l0  (n_l0 : (List (Int)) → (List (Int)) → (Int) → (Int) → Option (Bool)) (x0 : List (Int)) (x1 : List (Int)) (x12 : Int) (x13 : Int) : Option (Bool) :=
 bif (decide (x13 < x12)) then
 if 0 ≤ x13 ∧ x13 < ((List.length x0) : Int) then
 if 0 ≤ x13 ∧ x13 < ((List.length x1) : Int) then
 bif ((List.getD x0 (Int.toNat x13) (0 : Int)) != (List.getD x1 (Int.toNat x13) (0 : Int))) then
 some false
 else
 n_l0 x0 x1 x12 (IntKind.i64.wrap (x13 + (1 : Int)))
 else none
 else none
 else
 some true
def F103.l0  (k : Nat)  : Nat → (List (Int)) → (List (Int)) → (Int) → (Int) → Option (Bool)
  | 0, _, _, _, _ => none
  | n + 1, x0, x1, x12, x13 => F103.b_l0  (fun x0 x1 x12 x13 => F103.l0  k  n x0 x1 x12 x13) x0 x1 x12 x13
def F103.f  (k : Nat) (a0 : List (Int)) (a1 : List (Int)) : Option (Bool) := F103.b  (F103.l0  k k) a0 a1
noncomputable def F103.M_l0  (k n : Nat)  (s : St) : Option (Bool) := atLoop (F103.C ) k n [1, 1, 0, 1, 0] [] F103.code (F103.fin ) s
noncomputable def F103.fr_l0 (x0 : List (Int)) (x1 : List (Int)) (x12 : Int) (x13 : Int) : St := ⟨(((((List.replicate 26 V.un).set 0 (V.dat (.sl 3 (.int .i64)) x0)).set 1 (V.dat (.sl 3 (.int .i64)) x1)).set 12 (V.dat (.int .i64) x12)).set 13 (V.dat (.int .i64) x13)), []⟩
theorem F103.r  (k : Nat) (a0 : List (Int)) (a1 : List (Int)) : fn (F103.C ) k Tryz.f103 F103.A F103.R (a0, a1) = F103.b  (fun x0 x1 x12 x13 => F103.M_l0  k k  (F103.fr_l0 x0 x1 x12 x13)) a0 a1 := by kernel_rfl
theorem F103.z_l0  (k : Nat)  (s : St) : F103.M_l0  k 0  s = none := by kernel_rfl
theorem F103.r_l0  (k n : Nat)  (x0 : List (Int)) (x1 : List (Int)) (x12 : Int) (x13 : Int) : F103.M_l0  k (n + 1)  (F103.fr_l0 x0 x1 x12 x13) = F103.b_l0  (fun x0 x1 x12 x13 => F103.M_l0  k n  (F103.fr_l0 x0 x1 x12 x13)) x0 x1 x12 x13 := by kernel_rfl
theorem F103.e_l0  (k n : Nat)  (x0 : List (Int)) (x1 : List (Int)) (x12 : Int) (x13 : Int) : F103.M_l0  k n  (F103.fr_l0 x0 x1 x12 x13) = F103.l0  k  n x0 x1 x12 x13 := by
  induction n generalizing x0 x1 x12 x13 with
  | zero => rw [F103.z_l0]; rfl
  | succ n ih =>
    rw [F103.r_l0]
    simp only [ih]
    rfl
theorem F103.e  (k : Nat) (a0 : List (Int)) (a1 : List (Int)) : fn (F103.C ) k Tryz.f103 F103.A F103.R (a0, a1) = F103.f  k a0 a1 := by
  rw [F103.r]
  simp only [F103.e_l0]
  rfl
theorem F103.ty  : TyOk Tryz.prog (F103.C ) := tyOk_of (by kernel_rfl)
def F103.u (k : Nat) : F103.E := fun y => F103.f  k y.1 y.2
theorem F103.sound (k : Nat) : Sound Tryz.prog ⟨103, F103.A, F103.R, F103.u k⟩ := by
  have h := fn_sound (k := k) («as» := F103.A) (rs := F103.R) (F103.ty ) (fun E h => by cases h) mixed Tryz.func103 (by kernel_rfl) (by kernel_rfl)
  have e : fn (F103.C ) k Tryz.f103 F103.A F103.R = F103.u k := by
    funext y
    exact F103.e  k y.1 y.2
  rw [e] at h
  exact h
/-! ### brindlewood/brindlewoodref7.Ints: f78 -/
abbrev F78.A : List Sh := [(.d (.sl 3 (.int .i64))), (.d (.sl 3 (.int .i64)))]
abbrev F78.R : List Sh := [(.d .bool)]
abbrev F78.E : Type := ((List (Int)) × (List (Int))) → Option (Bool)
def F78.C (c103 : F103.E) : Ctx := { ty := [], nf := [], by_ := [], env := [⟨103, F103.A, F103.R, c103⟩], spec := [] }
noncomputable def F78.code : Code := Func.code Tryz.f78
noncomputable def F78.fin (c103 : F103.E) := kfin (F78.C c103) Tryz.f78 F78.A F78.R
def F78.b (c103 : F103.E)  (a0 : List (Int)) (a1 : List (Int)) : Option (Bool) :=
 (c103 (a0, a1)).bind fun y1 =>
 some y1
def F78.f (c103 : F103.E) (k : Nat) (a0 : List (Int)) (a1 : List (Int)) : Option (Bool) := F78.b c103  a0 a1
theorem F78.r (c103 : F103.E) (k : Nat) (a0 : List (Int)) (a1 : List (Int)) : fn (F78.C c103) k Tryz.f78 F78.A F78.R (a0, a1) = F78.b c103  a0 a1 := by kernel_rfl
theorem F78.e (c103 : F103.E) (k : Nat) (a0 : List (Int)) (a1 : List (Int)) : fn (F78.C c103) k Tryz.f78 F78.A F78.R (a0, a1) = F78.f c103 k a0 a1 := by
  rw [F78.r]
  rfl
theorem F78.ty (c103 : F103.E) : TyOk Tryz.prog (F78.C c103) := tyOk_of (by kernel_rfl)
def F78.u (k : Nat) : F78.E := fun y => F78.f (F103.u k) k y.1 y.2
theorem F78.sound (k : Nat) : Sound Tryz.prog ⟨78, F78.A, F78.R, F78.u k⟩ := by
  have h := fn_sound (k := k) («as» := F78.A) (rs := F78.R) (F78.ty (F103.u k)) (fun E h => by
    simp only [F78.C, List.mem_cons, List.not_mem_nil, or_false] at h
    rcases h with rfl
    · exact F103.sound k) mixed Tryz.func78 (by kernel_rfl) (by kernel_rfl)
  have e : fn (F78.C (F103.u k)) k Tryz.f78 F78.A F78.R = F78.u k := by
    funext y
    exact F78.e (F103.u k) k y.1 y.2
  rw [e] at h
  exact h
/-! ### slices.Equal[[]string,string]: f104 -/
abbrev F104.A : List Sh := [(.d (.sl 9 .str)), (.d (.sl 9 .str))]
abbrev F104.R : List Sh := [(.d .bool)]
abbrev F104.E : Type := ((List (List UInt8)) × (List (List UInt8))) → Option (Bool)
def F104.C  : Ctx := { ty := [(3, (.int .i64)), (9, .str), (33, (.sl 9 .str))], nf := [], by_ := [(9, 16)], env := [], spec := [(0, [.d 0 (.sl 9 .str), .d 1 (.sl 9 .str), .d 12 (.int .i64), .d 13 (.int .i64)])] }
noncomputable def F104.code : Code := Func.code Tryz.f104
noncomputable def F104.fin  := kfin (F104.C ) Tryz.f104 F104.A F104.R
def F104.b  (r_l0 : (List (List UInt8)) → (List (List UInt8)) → (Int) → (Int) → Option (Bool)) (a0 : List (List UInt8)) (a1 : List (List UInt8)) : Option (Bool) :=
 bif (((List.length a0) : Int) != ((List.length a1) : Int)) then
 some false
 else
 r_l0 a0 a1 ((List.length a0) : Int) (0 : Int)
def F104.b_l0  (n_l0 : (List (List UInt8)) → (List (List UInt8)) → (Int) → (Int) → Option (Bool)) (x0 : List (List UInt8)) (x1 : List (List UInt8)) (x12 : Int) (x13 : Int) : Option (Bool) :=
 bif (decide (x13 < x12)) then
 if 0 ≤ x13 ∧ x13 < ((List.length x0) : Int) then
 if 0 ≤ x13 ∧ x13 < ((List.length x1) : Int) then
 bif ((List.getD x0 (Int.toNat x13) []) != (List.getD x1 (Int.toNat x13) [])) then
 some false
 else
 n_l0 x0 x1 x12 (IntKind.i64.wrap (x13 + (1 : Int)))
 else none
 else none
 else
 some true
def F104.l0  (k : Nat)  : Nat → (List (List UInt8)) → (List (List UInt8)) → (Int) → (Int) → Option (Bool)
  | 0, _, _, _, _ => none
  | n + 1, x0, x1, x12, x13 => F104.b_l0  (fun x0 x1 x12 x13 => F104.l0  k  n x0 x1 x12 x13) x0 x1 x12 x13
def F104.f  (k : Nat) (a0 : List (List UInt8)) (a1 : List (List UInt8)) : Option (Bool) := F104.b  (F104.l0  k k) a0 a1
noncomputable def F104.M_l0  (k n : Nat)  (s : St) : Option (Bool) := atLoop (F104.C ) k n [1, 1, 0, 1, 0] [] F104.code (F104.fin ) s
noncomputable def F104.fr_l0 (x0 : List (List UInt8)) (x1 : List (List UInt8)) (x12 : Int) (x13 : Int) : St := ⟨(((((List.replicate 26 V.un).set 0 (V.dat (.sl 9 .str) x0)).set 1 (V.dat (.sl 9 .str) x1)).set 12 (V.dat (.int .i64) x12)).set 13 (V.dat (.int .i64) x13)), []⟩
theorem F104.r  (k : Nat) (a0 : List (List UInt8)) (a1 : List (List UInt8)) : fn (F104.C ) k Tryz.f104 F104.A F104.R (a0, a1) = F104.b  (fun x0 x1 x12 x13 => F104.M_l0  k k  (F104.fr_l0 x0 x1 x12 x13)) a0 a1 := by kernel_rfl
theorem F104.z_l0  (k : Nat)  (s : St) : F104.M_l0  k 0  s = none := by kernel_rfl
theorem F104.r_l0  (k n : Nat)  (x0 : List (List UInt8)) (x1 : List (List UInt8)) (x12 : Int) (x13 : Int) : F104.M_l0  k (n + 1)  (F104.fr_l0 x0 x1 x12 x13) = F104.b_l0  (fun x0 x1 x12 x13 => F104.M_l0  k n  (F104.fr_l0 x0 x1 x12 x13)) x0 x1 x12 x13 := by kernel_rfl
theorem F104.e_l0  (k n : Nat)  (x0 : List (List UInt8)) (x1 : List (List UInt8)) (x12 : Int) (x13 : Int) : F104.M_l0  k n  (F104.fr_l0 x0 x1 x12 x13) = F104.l0  k  n x0 x1 x12 x13 := by
  induction n generalizing x0 x1 x12 x13 with
  | zero => rw [F104.z_l0]; rfl
  | succ n ih =>
    rw [F104.r_l0]
    simp only [ih]
    rfl
theorem F104.e  (k : Nat) (a0 : List (List UInt8)) (a1 : List (List UInt8)) : fn (F104.C ) k Tryz.f104 F104.A F104.R (a0, a1) = F104.f  k a0 a1 := by
  rw [F104.r]
  simp only [F104.e_l0]
  rfl
theorem F104.ty  : TyOk Tryz.prog (F104.C ) := tyOk_of (by kernel_rfl)
def F104.u (k : Nat) : F104.E := fun y => F104.f  k y.1 y.2
theorem F104.sound (k : Nat) : Sound Tryz.prog ⟨104, F104.A, F104.R, F104.u k⟩ := by
  have h := fn_sound (k := k) («as» := F104.A) (rs := F104.R) (F104.ty ) (fun E h => by cases h) mixed Tryz.func104 (by kernel_rfl) (by kernel_rfl)
  have e : fn (F104.C ) k Tryz.f104 F104.A F104.R = F104.u k := by
    funext y
    exact F104.e  k y.1 y.2
  rw [e] at h
  exact h
/-! ### brindlewood/brindlewoodref7.Strings: f79 -/
abbrev F79.A : List Sh := [(.d (.sl 9 .str)), (.d (.sl 9 .str))]
abbrev F79.R : List Sh := [(.d .bool)]
abbrev F79.E : Type := ((List (List UInt8)) × (List (List UInt8))) → Option (Bool)
def F79.C (c104 : F104.E) : Ctx := { ty := [], nf := [], by_ := [], env := [⟨104, F104.A, F104.R, c104⟩], spec := [] }
noncomputable def F79.code : Code := Func.code Tryz.f79
noncomputable def F79.fin (c104 : F104.E) := kfin (F79.C c104) Tryz.f79 F79.A F79.R
def F79.b (c104 : F104.E)  (a0 : List (List UInt8)) (a1 : List (List UInt8)) : Option (Bool) :=
 (c104 (a0, a1)).bind fun y1 =>
 some y1
def F79.f (c104 : F104.E) (k : Nat) (a0 : List (List UInt8)) (a1 : List (List UInt8)) : Option (Bool) := F79.b c104  a0 a1
theorem F79.r (c104 : F104.E) (k : Nat) (a0 : List (List UInt8)) (a1 : List (List UInt8)) : fn (F79.C c104) k Tryz.f79 F79.A F79.R (a0, a1) = F79.b c104  a0 a1 := by kernel_rfl
theorem F79.e (c104 : F104.E) (k : Nat) (a0 : List (List UInt8)) (a1 : List (List UInt8)) : fn (F79.C c104) k Tryz.f79 F79.A F79.R (a0, a1) = F79.f c104 k a0 a1 := by
  rw [F79.r]
  rfl
theorem F79.ty (c104 : F104.E) : TyOk Tryz.prog (F79.C c104) := tyOk_of (by kernel_rfl)
def F79.u (k : Nat) : F79.E := fun y => F79.f (F104.u k) k y.1 y.2
theorem F79.sound (k : Nat) : Sound Tryz.prog ⟨79, F79.A, F79.R, F79.u k⟩ := by
  have h := fn_sound (k := k) («as» := F79.A) (rs := F79.R) (F79.ty (F104.u k)) (fun E h => by
    simp only [F79.C, List.mem_cons, List.not_mem_nil, or_false] at h
    rcases h with rfl
    · exact F104.sound k) mixed Tryz.func79 (by kernel_rfl) (by kernel_rfl)
  have e : fn (F79.C (F104.u k)) k Tryz.f79 F79.A F79.R = F79.u k := by
    funext y
    exact F79.e (F104.u k) k y.1 y.2
  rw [e] at h
  exact h
/-! ### brindlewood/brindlewoodref7.SameValues: f38 -/
abbrev F38.A : List Sh := [(.d (.sl 29 Y_Value)), (.d (.sl 29 Y_Value))]
abbrev F38.R : List Sh := [(.d .bool)]
abbrev F38.E : Type := ((List X_Value) × (List X_Value)) → Option (Bool)
def F38.C (c14 : F14.E) : Ctx := { ty := [(3, (.int .i64)), (29, Y_Value), (34, (.sl 29 Y_Value))], nf := [], by_ := [(29, 96)], env := [⟨14, F14.A, F14.R, c14⟩], spec := [(0, [.d 0 (.sl 29 Y_Value), .d 1 (.sl 29 Y_Value), .d 12 (.int .i64), .d 13 (.int .i64)])] }
noncomputable def F38.code : Code := Func.code Tryz.f38
noncomputable def F38.fin (c14 : F14.E) := kfin (F38.C c14) Tryz.f38 F38.A F38.R
def F38.b (c14 : F14.E) (r_l0 : (List X_Value) → (List X_Value) → (Int) → (Int) → Option (Bool)) (a0 : List X_Value) (a1 : List X_Value) : Option (Bool) :=
 bif (((List.length a0) : Int) != ((List.length a1) : Int)) then
 some false
 else
 r_l0 a0 a1 ((List.length a0) : Int) (0 : Int)
def F38.b_l0 (c14 : F14.E) (n_l0 : (List X_Value) → (List X_Value) → (Int) → (Int) → Option (Bool)) (x0 : List X_Value) (x1 : List X_Value) (x12 : Int) (x13 : Int) : Option (Bool) :=
 bif (decide (x13 < x12)) then
 if 0 ≤ x13 ∧ x13 < ((List.length x0) : Int) then
 if 0 ≤ x13 ∧ x13 < ((List.length x1) : Int) then
 (c14 ((List.getD x0 (Int.toNat x13) Z_Value), (List.getD x1 (Int.toNat x13) Z_Value))).bind fun y1 =>
 bif (!y1) then
 some false
 else
 n_l0 x0 x1 x12 (IntKind.i64.wrap (x13 + (1 : Int)))
 else none
 else none
 else
 some true
def F38.c_l0 (c14 : F14.E) (n_l0 : (List X_Value) → (List X_Value) → (Int) → (Int) → Option (Bool)) (x0 : List X_Value) (x1 : List X_Value) (x12 : Int) (x13 : Int) : Option (Bool) :=
 bif (decide (x13 < x12)) then
 if 0 ≤ x13 ∧ x13 < ((List.length x0) : Int) then
 if 0 ≤ x13 ∧ x13 < ((List.length x1) : Int) then
 (c14 ((List.getD x0 (Int.toNat x13) Z_Value), (List.getD x1 (Int.toNat x13) Z_Value))).bind fun y1 =>
 bif !y1 then
 some false
 else
 n_l0 x0 x1 x12 (IntKind.i64.wrap (x13 + (1 : Int)))
 else none
 else none
 else
 some true
theorem F38.q_l0 (c14 : F14.E) (n_l0 : (List X_Value) → (List X_Value) → (Int) → (Int) → Option (Bool)) (x0 : List X_Value) (x1 : List X_Value) (x12 : Int) (x13 : Int) : F38.b_l0 c14 n_l0 x0 x1 x12 x13 = F38.c_l0 c14 n_l0 x0 x1 x12 x13 := by
  simp only [F38.b_l0, F38.c_l0, List.take_length, take_one, Nat.zero_add, Int.toNat_natCast, Int.toNat_zero, List.drop_zero, List.append_eq, Nat.le_refl, Int.le_refl, true_and, and_true, zero_le_one, if_true, prod_eta, Int.natCast_zero]
def F38.l0 (c14 : F14.E) (k : Nat)  : Nat → (List X_Value) → (List X_Value) → (Int) → (Int) → Option (Bool)
  | 0, _, _, _, _ => none
  | n + 1, x0, x1, x12, x13 => F38.b_l0 c14 (fun x0 x1 x12 x13 => F38.l0 c14 k  n x0 x1 x12 x13) x0 x1 x12 x13
def F38.f (c14 : F14.E) (k : Nat) (a0 : List X_Value) (a1 : List X_Value) : Option (Bool) := F38.b c14 (F38.l0 c14 k k) a0 a1
noncomputable def F38.M_l0 (c14 : F14.E) (k n : Nat)  (s : St) : Option (Bool) := atLoop (F38.C c14) k n [1, 1, 0, 1, 0] [] F38.code (F38.fin c14) s
noncomputable def F38.fr_l0 (x0 : List X_Value) (x1 : List X_Value) (x12 : Int) (x13 : Int) : St := ⟨(((((List.replicate 27 V.un).set 0 (V.dat (.sl 29 Y_Value) x0)).set 1 (V.dat (.sl 29 Y_Value) x1)).set 12 (V.dat (.int .i64) x12)).set 13 (V.dat (.int .i64) x13)), []⟩
theorem F38.r (c14 : F14.E) (k : Nat) (a0 : List X_Value) (a1 : List X_Value) : fn (F38.C c14) k Tryz.f38 F38.A F38.R (a0, a1) = F38.b c14 (fun x0 x1 x12 x13 => F38.M_l0 c14 k k  (F38.fr_l0 x0 x1 x12 x13)) a0 a1 := by kernel_rfl
theorem F38.z_l0 (c14 : F14.E) (k : Nat)  (s : St) : F38.M_l0 c14 k 0  s = none := by kernel_rfl
theorem F38.r_l0 (c14 : F14.E) (k n : Nat)  (x0 : List X_Value) (x1 : List X_Value) (x12 : Int) (x13 : Int) : F38.M_l0 c14 k (n + 1)  (F38.fr_l0 x0 x1 x12 x13) = F38.b_l0 c14 (fun x0 x1 x12 x13 => F38.M_l0 c14 k n  (F38.fr_l0 x0 x1 x12 x13)) x0 x1 x12 x13 := by kernel_rfl
theorem F38.e_l0 (c14 : F14.E) (k n : Nat)  (x0 : List X_Value) (x1 : List X_Value) (x12 : Int) (x13 : Int) : F38.M_l0 c14 k n  (F38.fr_l0 x0 x1 x12 x13) = F38.l0 c14 k  n x0 x1 x12 x13 := by
  induction n generalizing x0 x1 x12 x13 with
  | zero => rw [F38.z_l0]; rfl
  | succ n ih =>
    rw [F38.r_l0]
    simp only [ih]
    rfl
theorem F38.e (c14 : F14.E) (k : Nat) (a0 : List X_Value) (a1 : List X_Value) : fn (F38.C c14) k Tryz.f38 F38.A F38.R (a0, a1) = F38.f c14 k a0 a1 := by
  rw [F38.r]
  simp only [F38.e_l0]
  rfl
theorem F38.ty (c14 : F14.E) : TyOk Tryz.prog (F38.C c14) := tyOk_of (by kernel_rfl)
def F38.u (k : Nat) : F38.E := fun y => F38.f (F14.u k) k y.1 y.2
theorem F38.sound (k : Nat) : Sound Tryz.prog ⟨38, F38.A, F38.R, F38.u k⟩ := by
  have h := fn_sound (k := k) («as» := F38.A) (rs := F38.R) (F38.ty (F14.u k)) (fun E h => by
    simp only [F38.C, List.mem_cons, List.not_mem_nil, or_false] at h
    rcases h with rfl
    · exact F14.sound k) mixed Tryz.func38 (by kernel_rfl) (by kernel_rfl)
  have e : fn (F38.C (F14.u k)) k Tryz.f38 F38.A F38.R = F38.u k := by
    funext y
    exact F38.e (F14.u k) k y.1 y.2
  rw [e] at h
  exact h
/-! ### brindlewood/brindlewoodref7.SameObject: f51 -/
abbrev F51.A : List Sh := [(.d Y_Object), (.d Y_Object)]
abbrev F51.R : List Sh := [(.d .bool)]
abbrev F51.E : Type := (X_Object × X_Object) → Option (Bool)
def F51.C (c78 : F78.E) (c79 : F79.E) (c38 : F38.E) : Ctx := { ty := [(3, (.int .i64)), (9, .str), (32, (.sl 3 (.int .i64))), (33, (.sl 9 .str)), (34, (.sl 29 Y_Value)), (36, Y_Object)], nf := [(36, 10)], by_ := [(3, 8), (9, 16), (29, 96)], env := [⟨78, F78.A, F78.R, c78⟩, ⟨79, F79.A, F79.R, c79⟩, ⟨38, F38.A, F38.R, c38⟩], spec := [] }
noncomputable def F51.code : Code := Func.code Tryz.f51
noncomputable def F51.fin (c78 : F78.E) (c79 : F79.E) (c38 : F38.E) := kfin (F51.C c78 c79 c38) Tryz.f51 F51.A F51.R
def F51.b (c78 : F78.E) (c79 : F79.E) (c38 : F38.E)  (a0 : X_Object) (a1 : X_Object) : Option (Bool) :=
 bif (a0.1 == a1.1) then
 bif (a0.2.1 == a1.2.1) then
 bif (a0.2.2.1 == a1.2.2.1) then
 bif (a0.2.2.2.2.2.2.2.2.1 == a1.2.2.2.2.2.2.2.2.1) then
 bif (a0.2.2.2.2.2.2.2.2.2 == a1.2.2.2.2.2.2.2.2.2) then
 (c78 (a0.2.2.2.1, a1.2.2.2.1)).bind fun y1 =>
 bif y1 then
 (c78 (a0.2.2.2.2.1, a1.2.2.2.2.1)).bind fun y2 =>
 bif y2 then
 (c79 (a0.2.2.2.2.2.1, a1.2.2.2.2.2.1)).bind fun y3 =>
 bif y3 then
 (c38 (a0.2.2.2.2.2.2.1, a1.2.2.2.2.2.2.1)).bind fun y4 =>
 bif y4 then
 (c38 (a0.2.2.2.2.2.2.2.1, a1.2.2.2.2.2.2.2.1)).bind fun y5 =>
 some y5
 else
 some false
 else
 some false
 else
 some false
 else
 some false
 else
 some false
 else
 some false
 else
 some false
 else
 some false
 else
 some false
def F51.f (c78 : F78.E) (c79 : F79.E) (c38 : F38.E) (k : Nat) (a0 : X_Object) (a1 : X_Object) : Option (Bool) := F51.b c78 c79 c38  a0 a1
theorem F51.r (c78 : F78.E) (c79 : F79.E) (c38 : F38.E) (k : Nat) (a0 : X_Object) (a1 : X_Object) : fn (F51.C c78 c79 c38) k Tryz.f51 F51.A F51.R (a0, a1) = F51.b c78 c79 c38  a0 a1 := by kernel_rfl
theorem F51.e (c78 : F78.E) (c79 : F79.E) (c38 : F38.E) (k : Nat) (a0 : X_Object) (a1 : X_Object) : fn (F51.C c78 c79 c38) k Tryz.f51 F51.A F51.R (a0, a1) = F51.f c78 c79 c38 k a0 a1 := by
  rw [F51.r]
  rfl
theorem F51.ty (c78 : F78.E) (c79 : F79.E) (c38 : F38.E) : TyOk Tryz.prog (F51.C c78 c79 c38) := tyOk_of (by kernel_rfl)
def F51.u (k : Nat) : F51.E := fun y => F51.f (F78.u k) (F79.u k) (F38.u k) k y.1 y.2
theorem F51.sound (k : Nat) : Sound Tryz.prog ⟨51, F51.A, F51.R, F51.u k⟩ := by
  have h := fn_sound (k := k) («as» := F51.A) (rs := F51.R) (F51.ty (F78.u k) (F79.u k) (F38.u k)) (fun E h => by
    simp only [F51.C, List.mem_cons, List.not_mem_nil, or_false] at h
    rcases h with rfl | rfl | rfl
    · exact F78.sound k
    · exact F79.sound k
    · exact F38.sound k) mixed Tryz.func51 (by kernel_rfl) (by kernel_rfl)
  have e : fn (F51.C (F78.u k) (F79.u k) (F38.u k)) k Tryz.f51 F51.A F51.R = F51.u k := by
    funext y
    exact F51.e (F78.u k) (F79.u k) (F38.u k) k y.1 y.2
  rw [e] at h
  exact h
/-! ### brindlewood/brindlewoodref7.used: f86 -/
abbrev F86.A : List Sh := [(.d (.int .i64))]
abbrev F86.R : List Sh := [(.d .str)]
abbrev F86.E : Type := (Int) → Option (List UInt8)
def F86.C (c110 : F110.E) : Ctx := { ty := [(9, .str), (33, (.sl 9 .str))], nf := [], by_ := [(9, 16)], env := [⟨110, F110.A, F110.R, c110⟩], spec := [] }
noncomputable def F86.code : Code := Func.code Tryz.f86
noncomputable def F86.fin (c110 : F110.E) := kfin (F86.C c110) Tryz.f86 F86.A F86.R
def F86.b (c110 : F110.E)  (a0 : Int) : Option (List UInt8) :=
 (c110 ([32, 42, 32, 42, 32, 107, 58, 32, 107, 48, 32, 51, 32, 49, 32, 110, 99, 114, 100, 115, 42, 32, 50, 32, 110, 114, 97, 115, 61, 32, 99, 97, 61, 32, 110, 97, 61, 32, 51, 32, 49, 32, 49, 32, 50, 32, 115, 50, 32, 110, 100, 115, 42, 32, 115, 48, 32, 115, 50, 32, 49], [32])).bind fun y1 =>
 if 0 ≤ a0 ∧ a0 < ((List.length y1) : Int) then
 some (List.getD y1 (Int.toNat a0) [])
 else none
def F86.f (c110 : F110.E) (k : Nat) (a0 : Int) : Option (List UInt8) := F86.b c110  a0
theorem F86.r (c110 : F110.E) (k : Nat) (a0 : Int) : fn (F86.C c110) k Tryz.f86 F86.A F86.R a0 = F86.b c110  a0 := by kernel_rfl
theorem F86.e (c110 : F110.E) (k : Nat) (a0 : Int) : fn (F86.C c110) k Tryz.f86 F86.A F86.R a0 = F86.f c110 k a0 := by
  rw [F86.r]
  rfl
theorem F86.ty (c110 : F110.E) : TyOk Tryz.prog (F86.C c110) := tyOk_of (by kernel_rfl)
def F86.u (k : Nat) : F86.E := fun y => F86.f (F110.u k) k y
theorem F86.sound (k : Nat) : Sound Tryz.prog ⟨86, F86.A, F86.R, F86.u k⟩ := by
  have h := fn_sound (k := k) («as» := F86.A) (rs := F86.R) (F86.ty (F110.u k)) (fun E h => by
    simp only [F86.C, List.mem_cons, List.not_mem_nil, or_false] at h
    rcases h with rfl
    · exact F110.sound k) mixed Tryz.func86 (by kernel_rfl) (by kernel_rfl)
  have e : fn (F86.C (F110.u k)) k Tryz.f86 F86.A F86.R = F86.u k := by
    funext y
    exact F86.e (F110.u k) k y
  rw [e] at h
  exact h
/-! ### brindlewood/brindlewoodref7.greatest: f88 -/
abbrev F88.A : List Sh := [(.d (.int .i64))]
abbrev F88.R : List Sh := [(.d (.int .i64))]
abbrev F88.E : Type := (Int) → Option (Int)
def F88.C  : Ctx := { ty := [(3, (.int .i64))], nf := [], by_ := [], env := [], spec := [] }
noncomputable def F88.code : Code := Func.code Tryz.f88
noncomputable def F88.fin  := kfin (F88.C ) Tryz.f88 F88.A F88.R
def F88.b   (a0 : Int) : Option (Int) :=
 bif (a0 == (7 : Int)) then
 some (1 : Int)
 else
 bif (a0 == (17 : Int)) then
 some (3 : Int)
 else
 bif (a0 == (19 : Int)) then
 some (3 : Int)
 else
 bif (a0 == (16 : Int)) then
 bif (a0 == (16 : Int)) then
 some (1099511627776 : Int)
 else
 bif (a0 == (18 : Int)) then
 some (5000 : Int)
 else
 some (0 : Int)
 else
 bif (a0 == (9 : Int)) then
 some (1099511627776 : Int)
 else
 bif (a0 == (18 : Int)) then
 some (5000 : Int)
 else
 some (0 : Int)
def F88.f  (k : Nat) (a0 : Int) : Option (Int) := F88.b   a0
theorem F88.r  (k : Nat) (a0 : Int) : fn (F88.C ) k Tryz.f88 F88.A F88.R a0 = F88.b   a0 := by kernel_rfl
theorem F88.e  (k : Nat) (a0 : Int) : fn (F88.C ) k Tryz.f88 F88.A F88.R a0 = F88.f  k a0 := by
  rw [F88.r]
  rfl
theorem F88.ty  : TyOk Tryz.prog (F88.C ) := tyOk_of (by kernel_rfl)
def F88.u (k : Nat) : F88.E := fun y => F88.f  k y
theorem F88.sound (k : Nat) : Sound Tryz.prog ⟨88, F88.A, F88.R, F88.u k⟩ := by
  have h := fn_sound (k := k) («as» := F88.A) (rs := F88.R) (F88.ty ) (fun E h => by cases h) mixed Tryz.func88 (by kernel_rfl) (by kernel_rfl)
  have e : fn (F88.C ) k Tryz.f88 F88.A F88.R = F88.u k := by
    funext y
    exact F88.e  k y
  rw [e] at h
  exact h
/-! ### brindlewood/brindlewoodref7.shape: f65 -/
abbrev F65.A : List Sh := [(.d Y_Heap), (.d (.int .i64))]
abbrev F65.R : List Sh := [(.d (.int .i64))]
abbrev F65.E : Type := ((List X_Object) × (Int)) → Option (Int)
def F65.C (c86 : F86.E) (c87 : F87.E) (c88 : F88.E) : Ctx := { ty := [(3, (.int .i64)), (4, .bool), (5, (.int .u8)), (9, .str), (22, (.sl 36 Y_Object)), (24, Y_Heap), (32, (.sl 3 (.int .i64))), (33, (.sl 9 .str)), (34, (.sl 29 Y_Value)), (36, Y_Object), (103, (.sl 4 .bool))], nf := [(24, 1), (36, 10)], by_ := [(3, 8), (4, 1), (9, 16), (29, 96), (36, 168)], env := [⟨86, F86.A, F86.R, c86⟩, ⟨87, F87.A, F87.R, c87⟩, ⟨88, F88.A, F88.R, c88⟩], spec := [(0, [.bx 5 600005 (.d Y_Object), .d 6 .str, .d 7 .str, .o 8 500008 4 .bool, .d 46 (.int .i64), .d 47 (.int .i64)]), (100022, [.bx 5 600005 (.d Y_Object), .d 10 (.int .i64)])] }
noncomputable def F65.code : Code := Func.code Tryz.f65
noncomputable def F65.fin (c86 : F86.E) (c87 : F87.E) (c88 : F88.E) := kfin (F65.C c86 c87 c88) Tryz.f65 F65.A F65.R
def F65.b (c86 : F86.E) (c87 : F87.E) (c88 : F88.E) (r_l0 : X_Object → (List UInt8) → (List UInt8) → (List (Bool)) → (Int) → (Int) → Option (Int)) (a0 : List X_Object) (a1 : Int) : Option (Int) :=
 if 0 ≤ a1 ∧ a1 < ((List.length a0) : Int) then
 (c86 ((List.getD a0 (Int.toNat a1) Z_Object).1)).bind fun y1 =>
 r_l0 (List.getD a0 (Int.toNat a1) Z_Object) y1 [110, 99, 114, 97, 107, 100, 115] (List.take 7 ([((((List.getD a0 (Int.toNat a1) Z_Object).2).1) == []), (((((List.getD a0 (Int.toNat a1) Z_Object).2).2).1) == (0 : Int)), (((List.length (((((List.getD a0 (Int.toNat a1) Z_Object).2).2).2).1)) : Int) == (0 : Int)), (((List.length (((((((List.getD a0 (Int.toNat a1) Z_Object).2).2).2).2).2).1)) : Int) == (0 : Int)), (((List.length (((((((((List.getD a0 (Int.toNat a1) Z_Object).2).2).2).2).2).2).2).1)) : Int) == (0 : Int)), (((((((((((List.getD a0 (Int.toNat a1) Z_Object).2).2).2).2).2).2).2).2).1) == (0 : Int)), (((((((((((List.getD a0 (Int.toNat a1) Z_Object).2).2).2).2).2).2).2).2).2) == (0 : Int))] : List (Bool))) ((7 : Nat) : Int) (0 : Int)
 else none
def F65.b_l0 (c86 : F86.E) (c87 : F87.E) (c88 : F88.E) (n_l0 : X_Object → (List UInt8) → (List UInt8) → (List (Bool)) → (Int) → (Int) → Option (Int)) (r_g22 : X_Object → (Int) → Option (Int)) (x5 : X_Object) (x6 : List UInt8) (x7 : List UInt8) (x8 : List (Bool)) (x46 : Int) (x47 : Int) : Option (Int) :=
 bif (decide (x47 < x46)) then
 if 0 ≤ x47 ∧ x47 < (((List.length x8) : Nat) : Int) then
 bif (!(List.getD x8 (0 + Int.toNat x47) false)) then
 if 0 ≤ x47 ∧ x47 ≤ (IntKind.i64.wrap (x47 + (1 : Int))) ∧ (IntKind.i64.wrap (x47 + (1 : Int))) ≤ ((List.length x7) : Int) then
 (c87 (x6, (List.drop (Int.toNat x47) (List.take (Int.toNat (IntKind.i64.wrap (x47 + (1 : Int)))) x7)))).bind fun y2 =>
 bif (!y2) then
 some (6 : Int)
 else
 n_l0 x5 x6 x7 (List.take (List.length x8) x8) x46 (IntKind.i64.wrap (x47 + (1 : Int)))
 else none
 else
 n_l0 x5 x6 x7 (List.take (List.length x8) x8) x46 (IntKind.i64.wrap (x47 + (1 : Int)))
 else none
 else
 bif (x6 != []) then
 if 0 ≤ (IntKind.i64.wrap (((List.length x6) : Int) - (1 : Int))) ∧ (IntKind.i64.wrap (((List.length x6) : Int) - (1 : Int))) < ((List.length x6) : Int) then
 bif (((List.getD x6 (Int.toNat (IntKind.i64.wrap (((List.length x6) : Int) - (1 : Int)))) 0).toNat : Int) == (42 : Int)) then
 r_g22 x5 ((List.length x5.2.2.2.2.2.2.1) : Int)
 else
 bif (((List.getD x6 (Int.toNat (IntKind.i64.wrap (((List.length x6) : Int) - (1 : Int)))) 0).toNat : Int) == (61 : Int)) then
 r_g22 x5 ((List.length x5.2.2.2.2.2.1) : Int)
 else
 bif (((List.getD x6 (Int.toNat (IntKind.i64.wrap (((List.length x6) : Int) - (1 : Int)))) 0).toNat : Int) == (58 : Int)) then
 r_g22 x5 ((List.length x5.2.2.2.2.2.2.2.1) : Int)
 else
 r_g22 x5 (IntKind.i64.wrap (IntKind.u8.wrap (((List.getD x6 (Int.toNat (IntKind.i64.wrap (((List.length x6) : Int) - (1 : Int)))) 0).toNat : Int) - (48 : Int))))
 else none
 else
 r_g22 x5 (0 : Int)
def F65.b_g22 (c86 : F86.E) (c87 : F87.E) (c88 : F88.E)  (x5 : X_Object) (x10 : Int) : Option (Int) :=
 bif (((List.length x5.2.2.2.2.2.2.1) : Int) != x10) then
 some (6 : Int)
 else
 bif (decide (x5.2.2.2.2.2.2.2.2.1 < (0 : Int))) then
 some (6 : Int)
 else
 bif (decide (x5.2.2.2.2.2.2.2.2.2 < (0 : Int))) then
 some (6 : Int)
 else
 (c88 x5.1).bind fun y3 =>
 bif (decide (x5.2.2.2.2.2.2.2.2.2 > y3)) then
 some (6 : Int)
 else
 bif (x5.1 != (9 : Int)) then
 bif (decide (((List.length x5.2.2.2.2.1) : Int) > (0 : Int))) then
 some (6 : Int)
 else
 some (0 : Int)
 else
 some (0 : Int)
def F65.c (c86 : F86.E) (c87 : F87.E) (c88 : F88.E) (r_l0 : X_Object → (List UInt8) → (List UInt8) → (List (Bool)) → (Int) → (Int) → Option (Int)) (a0 : List X_Object) (a1 : Int) : Option (Int) :=
 if 0 ≤ a1 ∧ a1 < ((List.length a0) : Int) then
 (c86 ((List.getD a0 (Int.toNat a1) Z_Object).1)).bind fun y1 =>
 r_l0 (List.getD a0 (Int.toNat a1) Z_Object) y1 [110, 99, 114, 97, 107, 100, 115] (List.take 7 ([((((List.getD a0 (Int.toNat a1) Z_Object).2).1) == []), (((((List.getD a0 (Int.toNat a1) Z_Object).2).2).1) == (0 : Int)), (((List.length (((((List.getD a0 (Int.toNat a1) Z_Object).2).2).2).1)) : Int) == (0 : Int)), (((List.length (((((((List.getD a0 (Int.toNat a1) Z_Object).2).2).2).2).2).1)) : Int) == (0 : Int)), (((List.length (((((((((List.getD a0 (Int.toNat a1) Z_Object).2).2).2).2).2).2).2).1)) : Int) == (0 : Int)), (((((((((((List.getD a0 (Int.toNat a1) Z_Object).2).2).2).2).2).2).2).2).1) == (0 : Int)), (((((((((((List.getD a0 (Int.toNat a1) Z_Object).2).2).2).2).2).2).2).2).2) == (0 : Int))] : List Bool)) ((7 : Nat) : Int) (0 : Int)
 else none
theorem F65.q (c86 : F86.E) (c87 : F87.E) (c88 : F88.E) (r_l0 : X_Object → (List UInt8) → (List UInt8) → (List (Bool)) → (Int) → (Int) → Option (Int)) (a0 : List X_Object) (a1 : Int) : F65.b c86 c87 c88 r_l0 a0 a1 = F65.c c86 c87 c88 r_l0 a0 a1 := by
  simp only [F65.b, F65.c, List.take_length, take_one, Nat.zero_add, Int.toNat_natCast, Int.toNat_zero, List.drop_zero, List.append_eq, Nat.le_refl, Int.le_refl, true_and, and_true, zero_le_one, if_true, prod_eta, Int.natCast_zero]
def F65.c_l0 (c86 : F86.E) (c87 : F87.E) (c88 : F88.E) (n_l0 : X_Object → (List UInt8) → (List UInt8) → (List (Bool)) → (Int) → (Int) → Option (Int)) (r_g22 : X_Object → (Int) → Option (Int)) (x5 : X_Object) (x6 : List UInt8) (x7 : List UInt8) (x8 : List (Bool)) (x46 : Int) (x47 : Int) : Option (Int) :=
 bif (decide (x47 < x46)) then
 if 0 ≤ x47 ∧ x47 < ((List.length x8) : Int) then
 bif (! (List.getD x8 (0 + Int.toNat x47) false)) then
 if 0 ≤ x47 ∧ x47 ≤ (IntKind.i64.wrap (x47 + (1 : Int))) ∧ (IntKind.i64.wrap (x47 + (1 : Int))) ≤ ((List.length x7) : Int) then
 (c87 (x6, (List.drop (Int.toNat x47) (List.take (Int.toNat (IntKind.i64.wrap (x47 + (1 : Int)))) x7)))).bind fun y2 =>
 bif !y2 then
 some (6 : Int)
 else
 n_l0 x5 x6 x7 x8 x46 (IntKind.i64.wrap (x47 + (1 : Int)))
 else none
 else
 n_l0 x5 x6 x7 x8 x46 (IntKind.i64.wrap (x47 + (1 : Int)))
 else none
 else
 bif (x6 != []) then
 if 0 ≤ (IntKind.i64.wrap (((List.length x6) : Int) - (1 : Int))) ∧ (IntKind.i64.wrap (((List.length x6) : Int) - (1 : Int))) < ((List.length x6) : Int) then
 bif (((List.getD x6 (Int.toNat (IntKind.i64.wrap (((List.length x6) : Int) - (1 : Int)))) 0).toNat : Int) == (42 : Int)) then
 r_g22 x5 ((List.length x5.2.2.2.2.2.2.1) : Int)
 else
 bif (((List.getD x6 (Int.toNat (IntKind.i64.wrap (((List.length x6) : Int) - (1 : Int)))) 0).toNat : Int) == (61 : Int)) then
 r_g22 x5 ((List.length x5.2.2.2.2.2.1) : Int)
 else
 bif (((List.getD x6 (Int.toNat (IntKind.i64.wrap (((List.length x6) : Int) - (1 : Int)))) 0).toNat : Int) == (58 : Int)) then
 r_g22 x5 ((List.length x5.2.2.2.2.2.2.2.1) : Int)
 else
 r_g22 x5 (IntKind.i64.wrap (IntKind.u8.wrap (((List.getD x6 (Int.toNat (IntKind.i64.wrap (((List.length x6) : Int) - (1 : Int)))) 0).toNat : Int) - (48 : Int))))
 else none
 else
 r_g22 x5 (0 : Int)
theorem F65.q_l0 (c86 : F86.E) (c87 : F87.E) (c88 : F88.E) (n_l0 : X_Object → (List UInt8) → (List UInt8) → (List (Bool)) → (Int) → (Int) → Option (Int)) (r_g22 : X_Object → (Int) → Option (Int)) (x5 : X_Object) (x6 : List UInt8) (x7 : List UInt8) (x8 : List (Bool)) (x46 : Int) (x47 : Int) : F65.b_l0 c86 c87 c88 n_l0 r_g22 x5 x6 x7 x8 x46 x47 = F65.c_l0 c86 c87 c88 n_l0 r_g22 x5 x6 x7 x8 x46 x47 := by
  simp only [F65.b_l0, F65.c_l0, List.take_length, take_one, Nat.zero_add, Int.toNat_natCast, Int.toNat_zero, List.drop_zero, List.append_eq, Nat.le_refl, Int.le_refl, true_and, and_true, zero_le_one, if_true, prod_eta, Int.natCast_zero]
def F65.g22 (c86 : F86.E) (c87 : F87.E) (c88 : F88.E) (k : Nat)  (x5 : X_Object) (x10 : Int) : Option (Int) := gate k (F65.b_g22 c86 c87 c88  x5 x10)
def F65.l0 (c86 : F86.E) (c87 : F87.E) (c88 : F88.E) (k : Nat)  : Nat → X_Object → (List UInt8) → (List UInt8) → (List (Bool)) → (Int) → (Int) → Option (Int)
  | 0, _, _, _, _, _, _ => none
  | n + 1, x5, x6, x7, x8, x46, x47 => F65.b_l0 c86 c87 c88 (fun x5 x6 x7 x8 x46 x47 => F65.l0 c86 c87 c88 k  n x5 x6 x7 x8 x46 x47) (F65.g22 c86 c87 c88 k ) x5 x6 x7 x8 x46 x47
def F65.f (c86 : F86.E) (c87 : F87.E) (c88 : F88.E) (k : Nat) (a0 : List X_Object) (a1 : Int) : Option (Int) := F65.b c86 c87 c88 (F65.l0 c86 c87 c88 k k) a0 a1
noncomputable def F65.M_l0 (c86 : F86.E) (c87 : F87.E) (c88 : F88.E) (k n : Nat)  (s : St) : Option (Int) := atLoop (F65.C c86 c87 c88) k n [1, 1, 1, 1, 1, 0, 1, 0] [] F65.code (F65.fin c86 c87 c88) s
noncomputable def F65.fr_l0 (x5 : X_Object) (x6 : List UInt8) (x7 : List UInt8) (x8 : List (Bool)) (x46 : Int) (x47 : Int) : St := ⟨(((((((List.replicate 126 V.un).set 5 (V.bp 600005 0 [])).set 6 (V.dat .str x6)).set 7 (V.dat .str x7)).set 8 (V.ref 500008 0 0 (List.length x8))).set 46 (V.dat (.int .i64) x46)).set 47 (V.dat (.int .i64) x47)), [⟨500008, 0, .arr 4 .bool x8⟩, ⟨600005, 0, .box (V.dat Y_Object x5)⟩]⟩
noncomputable def F65.M_g22 (c86 : F86.E) (c87 : F87.E) (c88 : F88.E) (k : Nat)  (s : St) : Option (Int) := atGate (F65.C c86 c87 c88) k [1, 1, 1, 1, 1, 1, 1, 1, 0, 0] [] F65.code (F65.fin c86 c87 c88) s
noncomputable def F65.fr_g22 (x5 : X_Object) (x10 : Int) : St := ⟨(((List.replicate 126 V.un).set 5 (V.bp 600005 0 [])).set 10 (V.dat (.int .i64) x10)), [⟨600005, 0, .box (V.dat Y_Object x5)⟩]⟩
theorem F65.r (c86 : F86.E) (c87 : F87.E) (c88 : F88.E) (k : Nat) (a0 : List X_Object) (a1 : Int) : fn (F65.C c86 c87 c88) k Tryz.f65 F65.A F65.R (a0, a1) = F65.b c86 c87 c88 (fun x5 x6 x7 x8 x46 x47 => F65.M_l0 c86 c87 c88 k k  (F65.fr_l0 x5 x6 x7 x8 x46 x47)) a0 a1 := by kernel_rfl
theorem F65.z_l0 (c86 : F86.E) (c87 : F87.E) (c88 : F88.E) (k : Nat)  (s : St) : F65.M_l0 c86 c87 c88 k 0  s = none := by kernel_rfl
theorem F65.r_l0 (c86 : F86.E) (c87 : F87.E) (c88 : F88.E) (k n : Nat)  (x5 : X_Object) (x6 : List UInt8) (x7 : List UInt8) (x8 : List (Bool)) (x46 : Int) (x47 : Int) : F65.M_l0 c86 c87 c88 k (n + 1)  (F65.fr_l0 x5 x6 x7 x8 x46 x47) = F65.b_l0 c86 c87 c88 (fun x5 x6 x7 x8 x46 x47 => F65.M_l0 c86 c87 c88 k n  (F65.fr_l0 x5 x6 x7 x8 x46 x47)) (fun x5 x10 => F65.M_g22 c86 c87 c88 k   (F65.fr_g22 x5 x10)) x5 x6 x7 x8 x46 x47 := by kernel_rfl
theorem F65.r_g22 (c86 : F86.E) (c87 : F87.E) (c88 : F88.E) (k : Nat)  (x5 : X_Object) (x10 : Int) : F65.M_g22 c86 c87 c88 k  (F65.fr_g22 x5 x10) = gate k (F65.b_g22 c86 c87 c88  x5 x10) := by kernel_rfl
theorem F65.e_g22 (c86 : F86.E) (c87 : F87.E) (c88 : F88.E) (k : Nat)  (x5 : X_Object) (x10 : Int) : F65.M_g22 c86 c87 c88 k  (F65.fr_g22 x5 x10) = F65.g22 c86 c87 c88 k  x5 x10 := by
  rw [F65.r_g22]
  rfl
theorem F65.e_l0 (c86 : F86.E) (c87 : F87.E) (c88 : F88.E) (k n : Nat)  (x5 : X_Object) (x6 : List UInt8) (x7 : List UInt8) (x8 : List (Bool)) (x46 : Int) (x47 : Int) : F65.M_l0 c86 c87 c88 k n  (F65.fr_l0 x5 x6 x7 x8 x46 x47) = F65.l0 c86 c87 c88 k  n x5 x6 x7 x8 x46 x47 := by
  induction n generalizing x5 x6 x7 x8 x46 x47 with
  | zero => rw [F65.z_l0]; rfl
  | succ n ih =>
    rw [F65.r_l0]
    simp only [F65.e_g22, ih]
    rfl
theorem F65.e (c86 : F86.E) (c87 : F87.E) (c88 : F88.E) (k : Nat) (a0 : List X_Object) (a1 : Int) : fn (F65.C c86 c87 c88) k Tryz.f65 F65.A F65.R (a0, a1) = F65.f c86 c87 c88 k a0 a1 := by
  rw [F65.r]
  simp only [F65.e_l0]
  rfl
theorem F65.ty (c86 : F86.E) (c87 : F87.E) (c88 : F88.E) : TyOk Tryz.prog (F65.C c86 c87 c88) := tyOk_of (by kernel_rfl)
def F65.u (k : Nat) : F65.E := fun y => F65.f (F86.u k) (F87.u k) (F88.u k) k y.1 y.2
theorem F65.sound (k : Nat) : Sound Tryz.prog ⟨65, F65.A, F65.R, F65.u k⟩ := by
  have h := fn_sound (k := k) («as» := F65.A) (rs := F65.R) (F65.ty (F86.u k) (F87.u k) (F88.u k)) (fun E h => by
    simp only [F65.C, List.mem_cons, List.not_mem_nil, or_false] at h
    rcases h with rfl | rfl | rfl
    · exact F86.sound k
    · exact F87.sound k
    · exact F88.sound k) mixed Tryz.func65 (by kernel_rfl) (by kernel_rfl)
  have e : fn (F65.C (F86.u k) (F87.u k) (F88.u k)) k Tryz.f65 F65.A F65.R = F65.u k := by
    funext y
    exact F65.e (F86.u k) (F87.u k) (F88.u k) k y.1 y.2
  rw [e] at h
  exact h
/-! ### brindlewood/brindlewoodref7.sizes: f66 -/
abbrev F66.A : List Sh := [(.d Y_Heap), (.d (.int .i64))]
abbrev F66.R : List Sh := [(.d (.int .i64))]
abbrev F66.E : Type := ((List X_Object) × (Int)) → Option (Int)
def F66.C (c86 : F86.E) (c87 : F87.E) (c24 : F24.E) (c89 : F89.E) : Ctx := { ty := [(3, (.int .i64)), (9, .str), (22, (.sl 36 Y_Object)), (24, Y_Heap), (32, (.sl 3 (.int .i64))), (33, (.sl 9 .str)), (34, (.sl 29 Y_Value)), (36, Y_Object)], nf := [(24, 1), (36, 10)], by_ := [(3, 8), (9, 16), (29, 96), (36, 168)], env := [⟨86, F86.A, F86.R, c86⟩, ⟨87, F87.A, F87.R, c87⟩, ⟨24, F24.A, F24.R, c24⟩, ⟨89, F89.A, F89.R, c89⟩], spec := [(100008, [.bx 5 600005 (.d Y_Object)])] }
noncomputable def F66.code : Code := Func.code Tryz.f66
noncomputable def F66.fin (c86 : F86.E) (c87 : F87.E) (c24 : F24.E) (c89 : F89.E) := kfin (F66.C c86 c87 c24 c89) Tryz.f66 F66.A F66.R
def F66.b (c86 : F86.E) (c87 : F87.E) (c24 : F24.E) (c89 : F89.E) (r_g8 : X_Object → Option (Int)) (a0 : List X_Object) (a1 : Int) : Option (Int) :=
 if 0 ≤ a1 ∧ a1 < ((List.length a0) : Int) then
 (c86 ((List.getD a0 (Int.toNat a1) Z_Object).1)).bind fun y1 =>
 (c87 (y1, [110])).bind fun y2 =>
 bif y2 then
 (c24 (((List.getD a0 (Int.toNat a1) Z_Object).2).1)).bind fun y3 =>
 bif (((List.getD a0 (Int.toNat a1) Z_Object).1) == (11 : Int)) then
 (c89 (((List.getD a0 (Int.toNat a1) Z_Object).2).1)).bind fun y4 =>
 bif (!y4) then
 some (7 : Int)
 else
 r_g8 (List.getD a0 (Int.toNat a1) Z_Object)
 else
 bif (!y3) then
 some (7 : Int)
 else
 r_g8 (List.getD a0 (Int.toNat a1) Z_Object)
 else
 r_g8 (List.getD a0 (Int.toNat a1) Z_Object)
 else none
def F66.b_g8 (c86 : F86.E) (c87 : F87.E) (c24 : F24.E) (c89 : F89.E)  (x5 : X_Object) : Option (Int) :=
 bif (decide ((if ((List.length x5.2.2.2.1) : Int) > (if ((List.length x5.2.2.2.2.2.2.2.1) : Int) > ((List.length x5.2.2.2.2.2.2.1) : Int) then ((List.length x5.2.2.2.2.2.2.2.1) : Int) else ((List.length x5.2.2.2.2.2.2.1) : Int)) then ((List.length x5.2.2.2.1) : Int) else (if ((List.length x5.2.2.2.2.2.2.2.1) : Int) > ((List.length x5.2.2.2.2.2.2.1) : Int) then ((List.length x5.2.2.2.2.2.2.2.1) : Int) else ((List.length x5.2.2.2.2.2.2.1) : Int))) > (1000 : Int))) then
 some (2 : Int)
 else
 bif (decide (((List.length x5.2.2.2.2.2.1) : Int) > (200 : Int))) then
 some (2 : Int)
 else
 some (0 : Int)
def F66.c (c86 : F86.E) (c87 : F87.E) (c24 : F24.E) (c89 : F89.E) (r_g8 : X_Object → Option (Int)) (a0 : List X_Object) (a1 : Int) : Option (Int) :=
 if 0 ≤ a1 ∧ a1 < ((List.length a0) : Int) then
 (c86 ((List.getD a0 (Int.toNat a1) Z_Object).1)).bind fun y1 =>
 (c87 (y1, [110])).bind fun y2 =>
 bif y2 then
 (c24 (((List.getD a0 (Int.toNat a1) Z_Object).2).1)).bind fun y3 =>
 bif (((List.getD a0 (Int.toNat a1) Z_Object).1) == (11 : Int)) then
 (c89 (((List.getD a0 (Int.toNat a1) Z_Object).2).1)).bind fun y4 =>
 bif !y4 then
 some (7 : Int)
 else
 r_g8 (List.getD a0 (Int.toNat a1) Z_Object)
 else
 bif !y3 then
 some (7 : Int)
 else
 r_g8 (List.getD a0 (Int.toNat a1) Z_Object)
 else
 r_g8 (List.getD a0 (Int.toNat a1) Z_Object)
 else none
theorem F66.q (c86 : F86.E) (c87 : F87.E) (c24 : F24.E) (c89 : F89.E) (r_g8 : X_Object → Option (Int)) (a0 : List X_Object) (a1 : Int) : F66.b c86 c87 c24 c89 r_g8 a0 a1 = F66.c c86 c87 c24 c89 r_g8 a0 a1 := by
  simp only [F66.b, F66.c, List.take_length, take_one, Nat.zero_add, Int.toNat_natCast, Int.toNat_zero, List.drop_zero, List.append_eq, Nat.le_refl, Int.le_refl, true_and, and_true, zero_le_one, if_true, prod_eta, Int.natCast_zero]
def F66.g8 (c86 : F86.E) (c87 : F87.E) (c24 : F24.E) (c89 : F89.E) (k : Nat)  (x5 : X_Object) : Option (Int) := gate k (F66.b_g8 c86 c87 c24 c89  x5)
def F66.f (c86 : F86.E) (c87 : F87.E) (c24 : F24.E) (c89 : F89.E) (k : Nat) (a0 : List X_Object) (a1 : Int) : Option (Int) := F66.b c86 c87 c24 c89 (F66.g8 c86 c87 c24 c89 k) a0 a1
noncomputable def F66.M_g8 (c86 : F86.E) (c87 : F87.E) (c24 : F24.E) (c89 : F89.E) (k : Nat)  (s : St) : Option (Int) := atGate (F66.C c86 c87 c24 c89) k [1, 1, 1, 0, 0] [] F66.code (F66.fin c86 c87 c24 c89) s
noncomputable def F66.fr_g8 (x5 : X_Object) : St := ⟨((List.replicate 44 V.un).set 5 (V.bp 600005 0 [])), [⟨600005, 0, .box (V.dat Y_Object x5)⟩]⟩
theorem F66.r (c86 : F86.E) (c87 : F87.E) (c24 : F24.E) (c89 : F89.E) (k : Nat) (a0 : List X_Object) (a1 : Int) : fn (F66.C c86 c87 c24 c89) k Tryz.f66 F66.A F66.R (a0, a1) = F66.b c86 c87 c24 c89 (fun x5 => F66.M_g8 c86 c87 c24 c89 k   (F66.fr_g8 x5)) a0 a1 := by kernel_rfl
theorem F66.r_g8 (c86 : F86.E) (c87 : F87.E) (c24 : F24.E) (c89 : F89.E) (k : Nat)  (x5 : X_Object) : F66.M_g8 c86 c87 c24 c89 k  (F66.fr_g8 x5) = gate k (F66.b_g8 c86 c87 c24 c89  x5) := by kernel_rfl
theorem F66.e_g8 (c86 : F86.E) (c87 : F87.E) (c24 : F24.E) (c89 : F89.E) (k : Nat)  (x5 : X_Object) : F66.M_g8 c86 c87 c24 c89 k  (F66.fr_g8 x5) = F66.g8 c86 c87 c24 c89 k  x5 := by
  rw [F66.r_g8]
  rfl
theorem F66.e (c86 : F86.E) (c87 : F87.E) (c24 : F24.E) (c89 : F89.E) (k : Nat) (a0 : List X_Object) (a1 : Int) : fn (F66.C c86 c87 c24 c89) k Tryz.f66 F66.A F66.R (a0, a1) = F66.f c86 c87 c24 c89 k a0 a1 := by
  rw [F66.r]
  simp only [F66.e_g8]
  rfl
theorem F66.ty (c86 : F86.E) (c87 : F87.E) (c24 : F24.E) (c89 : F89.E) : TyOk Tryz.prog (F66.C c86 c87 c24 c89) := tyOk_of (by kernel_rfl)
def F66.u (k : Nat) : F66.E := fun y => F66.f (F86.u k) (F87.u k) (F24.u k) (F89.u k) k y.1 y.2
theorem F66.sound (k : Nat) : Sound Tryz.prog ⟨66, F66.A, F66.R, F66.u k⟩ := by
  have h := fn_sound (k := k) («as» := F66.A) (rs := F66.R) (F66.ty (F86.u k) (F87.u k) (F24.u k) (F89.u k)) (fun E h => by
    simp only [F66.C, List.mem_cons, List.not_mem_nil, or_false] at h
    rcases h with rfl | rfl | rfl | rfl
    · exact F86.sound k
    · exact F87.sound k
    · exact F24.sound k
    · exact F89.sound k) mixed Tryz.func66 (by kernel_rfl) (by kernel_rfl)
  have e : fn (F66.C (F86.u k) (F87.u k) (F24.u k) (F89.u k)) k Tryz.f66 F66.A F66.R = F66.u k := by
    funext y
    exact F66.e (F86.u k) (F87.u k) (F24.u k) (F89.u k) k y.1 y.2
  rw [e] at h
  exact h
/-! ### slices.Contains[[]string,string]: f112 -/
abbrev F112.A : List Sh := [(.d (.sl 9 .str)), (.d .str)]
abbrev F112.R : List Sh := [(.d .bool)]
abbrev F112.E : Type := ((List (List UInt8)) × (List UInt8)) → Option (Bool)
def F112.C (c55 : F55.E) : Ctx := { ty := [(3, (.int .i64))], nf := [], by_ := [], env := [⟨55, F55.A, F55.R, c55⟩], spec := [] }
noncomputable def F112.code : Code := Func.code Tryz.f112
noncomputable def F112.fin (c55 : F55.E) := kfin (F112.C c55) Tryz.f112 F112.A F112.R
def F112.b (c55 : F55.E)  (a0 : List (List UInt8)) (a1 : List UInt8) : Option (Bool) :=
 (c55 (a0, a1)).bind fun y1 =>
 some (decide (y1 ≥ (0 : Int)))
def F112.f (c55 : F55.E) (k : Nat) (a0 : List (List UInt8)) (a1 : List UInt8) : Option (Bool) := F112.b c55  a0 a1
theorem F112.r (c55 : F55.E) (k : Nat) (a0 : List (List UInt8)) (a1 : List UInt8) : fn (F112.C c55) k Tryz.f112 F112.A F112.R (a0, a1) = F112.b c55  a0 a1 := by kernel_rfl
theorem F112.e (c55 : F55.E) (k : Nat) (a0 : List (List UInt8)) (a1 : List UInt8) : fn (F112.C c55) k Tryz.f112 F112.A F112.R (a0, a1) = F112.f c55 k a0 a1 := by
  rw [F112.r]
  rfl
theorem F112.ty (c55 : F55.E) : TyOk Tryz.prog (F112.C c55) := tyOk_of (by kernel_rfl)
def F112.u (k : Nat) : F112.E := fun y => F112.f (F55.u k) k y.1 y.2
theorem F112.sound (k : Nat) : Sound Tryz.prog ⟨112, F112.A, F112.R, F112.u k⟩ := by
  have h := fn_sound (k := k) («as» := F112.A) (rs := F112.R) (F112.ty (F55.u k)) (fun E h => by
    simp only [F112.C, List.mem_cons, List.not_mem_nil, or_false] at h
    rcases h with rfl
    · exact F55.sound k) mixed Tryz.func112 (by kernel_rfl) (by kernel_rfl)
  have e : fn (F112.C (F55.u k)) k Tryz.f112 F112.A F112.R = F112.u k := by
    funext y
    exact F112.e (F55.u k) k y.1 y.2
  rw [e] at h
  exact h
/-! ### brindlewood/brindlewoodref7.HasString: f90 -/
abbrev F90.A : List Sh := [(.d (.sl 9 .str)), (.d .str)]
abbrev F90.R : List Sh := [(.d .bool)]
abbrev F90.E : Type := ((List (List UInt8)) × (List UInt8)) → Option (Bool)
def F90.C (c112 : F112.E) : Ctx := { ty := [], nf := [], by_ := [], env := [⟨112, F112.A, F112.R, c112⟩], spec := [] }
noncomputable def F90.code : Code := Func.code Tryz.f90
noncomputable def F90.fin (c112 : F112.E) := kfin (F90.C c112) Tryz.f90 F90.A F90.R
def F90.b (c112 : F112.E)  (a0 : List (List UInt8)) (a1 : List UInt8) : Option (Bool) :=
 (c112 (a0, a1)).bind fun y1 =>
 some y1
def F90.f (c112 : F112.E) (k : Nat) (a0 : List (List UInt8)) (a1 : List UInt8) : Option (Bool) := F90.b c112  a0 a1
theorem F90.r (c112 : F112.E) (k : Nat) (a0 : List (List UInt8)) (a1 : List UInt8) : fn (F90.C c112) k Tryz.f90 F90.A F90.R (a0, a1) = F90.b c112  a0 a1 := by kernel_rfl
theorem F90.e (c112 : F112.E) (k : Nat) (a0 : List (List UInt8)) (a1 : List UInt8) : fn (F90.C c112) k Tryz.f90 F90.A F90.R (a0, a1) = F90.f c112 k a0 a1 := by
  rw [F90.r]
  rfl
theorem F90.ty (c112 : F112.E) : TyOk Tryz.prog (F90.C c112) := tyOk_of (by kernel_rfl)
def F90.u (k : Nat) : F90.E := fun y => F90.f (F112.u k) k y.1 y.2
theorem F90.sound (k : Nat) : Sound Tryz.prog ⟨90, F90.A, F90.R, F90.u k⟩ := by
  have h := fn_sound (k := k) («as» := F90.A) (rs := F90.R) (F90.ty (F112.u k)) (fun E h => by
    simp only [F90.C, List.mem_cons, List.not_mem_nil, or_false] at h
    rcases h with rfl
    · exact F112.sound k) mixed Tryz.func90 (by kernel_rfl) (by kernel_rfl)
  have e : fn (F90.C (F112.u k)) k Tryz.f90 F90.A F90.R = F90.u k := by
    funext y
    exact F90.e (F112.u k) k y.1 y.2
  rw [e] at h
  exact h
/-! ### brindlewood/brindlewoodref7.names: f67 -/
abbrev F67.A : List Sh := [(.d Y_Heap), (.d (.int .i64))]
abbrev F67.R : List Sh := [(.d (.int .i64))]
abbrev F67.E : Type := ((List X_Object) × (Int)) → Option (Int)
def F67.C (c24 : F24.E) (c90 : F90.E) : Ctx := { ty := [(3, (.int .i64)), (9, .str), (22, (.sl 36 Y_Object)), (24, Y_Heap), (33, (.sl 9 .str)), (36, Y_Object)], nf := [(24, 1), (36, 10)], by_ := [(9, 16), (36, 168)], env := [⟨24, F24.A, F24.R, c24⟩, ⟨90, F90.A, F90.R, c90⟩], spec := [(0, [.d 5 (.sl 9 .str), .d 14 (.sl 9 .str), .d 15 (.int .i64), .d 16 (.int .i64)])] }
noncomputable def F67.code : Code := Func.code Tryz.f67
noncomputable def F67.fin (c24 : F24.E) (c90 : F90.E) := kfin (F67.C c24 c90) Tryz.f67 F67.A F67.R
def F67.b (c24 : F24.E) (c90 : F90.E) (r_l0 : (List (List UInt8)) → (List (List UInt8)) → (Int) → (Int) → Option (Int)) (a0 : List X_Object) (a1 : Int) : Option (Int) :=
 if 0 ≤ a1 ∧ a1 < ((List.length a0) : Int) then
 r_l0 (((((((List.getD a0 (Int.toNat a1) Z_Object).2).2).2).2).2).1) (((((((List.getD a0 (Int.toNat a1) Z_Object).2).2).2).2).2).1) ((List.length (((((((List.getD a0 (Int.toNat a1) Z_Object).2).2).2).2).2).1)) : Int) (0 : Int)
 else none
def F67.b_l0 (c24 : F24.E) (c90 : F90.E) (n_l0 : (List (List UInt8)) → (List (List UInt8)) → (Int) → (Int) → Option (Int)) (x5 : List (List UInt8)) (x14 : List (List UInt8)) (x15 : Int) (x16 : Int) : Option (Int) :=
 bif (decide (x16 < x15)) then
 if 0 ≤ x16 ∧ x16 < ((List.length x14) : Int) then
 (c24 (List.getD x14 (Int.toNat x16) [])).bind fun y1 =>
 bif (!y1) then
 some (7 : Int)
 else
 if 0 ≤ (0 : Int) ∧ (0 : Int) ≤ x16 ∧ x16 ≤ ((List.length x5) : Int) then
 (c90 ((List.drop (Int.toNat (0 : Int)) (List.take (Int.toNat x16) x5)), (List.getD x14 (Int.toNat x16) []))).bind fun y2 =>
 bif y2 then
 some (8 : Int)
 else
 n_l0 x5 x14 x15 (IntKind.i64.wrap (x16 + (1 : Int)))
 else none
 else none
 else
 some (0 : Int)
def F67.c (c24 : F24.E) (c90 : F90.E) (r_l0 : (List (List UInt8)) → (List (List UInt8)) → (Int) → (Int) → Option (Int)) (a0 : List X_Object) (a1 : Int) : Option (Int) :=
 if 0 ≤ a1 ∧ a1 < ((List.length a0) : Int) then
 r_l0 (((((((List.getD a0 (Int.toNat a1) Z_Object).2).2).2).2).2).1) (((((((List.getD a0 (Int.toNat a1) Z_Object).2).2).2).2).2).1) ((List.length (((((((List.getD a0 (Int.toNat a1) Z_Object).2).2).2).2).2).1)) : Int) (0 : Int)
 else none
theorem F67.q (c24 : F24.E) (c90 : F90.E) (r_l0 : (List (List UInt8)) → (List (List UInt8)) → (Int) → (Int) → Option (Int)) (a0 : List X_Object) (a1 : Int) : F67.b c24 c90 r_l0 a0 a1 = F67.c c24 c90 r_l0 a0 a1 := by
  simp only [F67.b, F67.c, List.take_length, take_one, Nat.zero_add, Int.toNat_natCast, Int.toNat_zero, List.drop_zero, List.append_eq, Nat.le_refl, Int.le_refl, true_and, and_true, zero_le_one, if_true, prod_eta, Int.natCast_zero]
def F67.c_l0 (c24 : F24.E) (c90 : F90.E) (n_l0 : (List (List UInt8)) → (List (List UInt8)) → (Int) → (Int) → Option (Int)) (x5 : List (List UInt8)) (x14 : List (List UInt8)) (x15 : Int) (x16 : Int) : Option (Int) :=
 bif (decide (x16 < x15)) then
 if 0 ≤ x16 ∧ x16 < ((List.length x14) : Int) then
 (c24 (List.getD x14 (Int.toNat x16) [])).bind fun y1 =>
 bif !y1 then
 some (7 : Int)
 else
 if (0 : Int) ≤ x16 ∧ x16 ≤ ((List.length x5) : Int) then
 (c90 ((List.take (Int.toNat x16) x5), (List.getD x14 (Int.toNat x16) []))).bind fun y2 =>
 bif y2 then
 some (8 : Int)
 else
 n_l0 x5 x14 x15 (IntKind.i64.wrap (x16 + (1 : Int)))
 else none
 else none
 else
 some (0 : Int)
theorem F67.q_l0 (c24 : F24.E) (c90 : F90.E) (n_l0 : (List (List UInt8)) → (List (List UInt8)) → (Int) → (Int) → Option (Int)) (x5 : List (List UInt8)) (x14 : List (List UInt8)) (x15 : Int) (x16 : Int) : F67.b_l0 c24 c90 n_l0 x5 x14 x15 x16 = F67.c_l0 c24 c90 n_l0 x5 x14 x15 x16 := by
  simp only [F67.b_l0, F67.c_l0, List.take_length, take_one, Nat.zero_add, Int.toNat_natCast, Int.toNat_zero, List.drop_zero, List.append_eq, Nat.le_refl, Int.le_refl, true_and, and_true, zero_le_one, if_true, prod_eta, Int.natCast_zero]
def F67.l0 (c24 : F24.E) (c90 : F90.E) (k : Nat)  : Nat → (List (List UInt8)) → (List (List UInt8)) → (Int) → (Int) → Option (Int)
  | 0, _, _, _, _ => none
  | n + 1, x5, x14, x15, x16 => F67.b_l0 c24 c90 (fun x5 x14 x15 x16 => F67.l0 c24 c90 k  n x5 x14 x15 x16) x5 x14 x15 x16
def F67.f (c24 : F24.E) (c90 : F90.E) (k : Nat) (a0 : List X_Object) (a1 : Int) : Option (Int) := F67.b c24 c90 (F67.l0 c24 c90 k k) a0 a1
noncomputable def F67.M_l0 (c24 : F24.E) (c90 : F90.E) (k n : Nat)  (s : St) : Option (Int) := atLoop (F67.C c24 c90) k n [1, 1, 0, 1, 0] [] F67.code (F67.fin c24 c90) s
noncomputable def F67.fr_l0 (x5 : List (List UInt8)) (x14 : List (List UInt8)) (x15 : Int) (x16 : Int) : St := ⟨(((((List.replicate 30 V.un).set 5 (V.dat (.sl 9 .str) x5)).set 14 (V.dat (.sl 9 .str) x14)).set 15 (V.dat (.int .i64) x15)).set 16 (V.dat (.int .i64) x16)), []⟩
theorem F67.r (c24 : F24.E) (c90 : F90.E) (k : Nat) (a0 : List X_Object) (a1 : Int) : fn (F67.C c24 c90) k Tryz.f67 F67.A F67.R (a0, a1) = F67.b c24 c90 (fun x5 x14 x15 x16 => F67.M_l0 c24 c90 k k  (F67.fr_l0 x5 x14 x15 x16)) a0 a1 := by kernel_rfl
theorem F67.z_l0 (c24 : F24.E) (c90 : F90.E) (k : Nat)  (s : St) : F67.M_l0 c24 c90 k 0  s = none := by kernel_rfl
theorem F67.r_l0 (c24 : F24.E) (c90 : F90.E) (k n : Nat)  (x5 : List (List UInt8)) (x14 : List (List UInt8)) (x15 : Int) (x16 : Int) : F67.M_l0 c24 c90 k (n + 1)  (F67.fr_l0 x5 x14 x15 x16) = F67.b_l0 c24 c90 (fun x5 x14 x15 x16 => F67.M_l0 c24 c90 k n  (F67.fr_l0 x5 x14 x15 x16)) x5 x14 x15 x16 := by kernel_rfl
theorem F67.e_l0 (c24 : F24.E) (c90 : F90.E) (k n : Nat)  (x5 : List (List UInt8)) (x14 : List (List UInt8)) (x15 : Int) (x16 : Int) : F67.M_l0 c24 c90 k n  (F67.fr_l0 x5 x14 x15 x16) = F67.l0 c24 c90 k  n x5 x14 x15 x16 := by
  induction n generalizing x5 x14 x15 x16 with
  | zero => rw [F67.z_l0]; rfl
  | succ n ih =>
    rw [F67.r_l0]
    simp only [ih]
    rfl
theorem F67.e (c24 : F24.E) (c90 : F90.E) (k : Nat) (a0 : List X_Object) (a1 : Int) : fn (F67.C c24 c90) k Tryz.f67 F67.A F67.R (a0, a1) = F67.f c24 c90 k a0 a1 := by
  rw [F67.r]
  simp only [F67.e_l0]
  rfl
theorem F67.ty (c24 : F24.E) (c90 : F90.E) : TyOk Tryz.prog (F67.C c24 c90) := tyOk_of (by kernel_rfl)
def F67.u (k : Nat) : F67.E := fun y => F67.f (F24.u k) (F90.u k) k y.1 y.2
theorem F67.sound (k : Nat) : Sound Tryz.prog ⟨67, F67.A, F67.R, F67.u k⟩ := by
  have h := fn_sound (k := k) («as» := F67.A) (rs := F67.R) (F67.ty (F24.u k) (F90.u k)) (fun E h => by
    simp only [F67.C, List.mem_cons, List.not_mem_nil, or_false] at h
    rcases h with rfl | rfl
    · exact F24.sound k
    · exact F90.sound k) mixed Tryz.func67 (by kernel_rfl) (by kernel_rfl)
  have e : fn (F67.C (F24.u k) (F90.u k)) k Tryz.f67 F67.A F67.R = F67.u k := by
    funext y
    exact F67.e (F24.u k) (F90.u k) k y.1 y.2
  rw [e] at h
  exact h
/-! ### slices.Clone[[]brindlewood/api.Value,brindlewood/api.Value]: f72 -/
abbrev F72.A : List Sh := [(.d (.sl 29 Y_Value))]
abbrev F72.R : List Sh := [(.o 29 Y_Value)]
abbrev F72.E : Type := (List X_Value) → Option (List X_Value)
def F72.C  : Ctx := { ty := [(34, (.sl 29 Y_Value))], nf := [], by_ := [(29, 96)], env := [], spec := [] }
noncomputable def F72.code : Code := Func.code Tryz.f72
noncomputable def F72.fin  := kfin (F72.C ) Tryz.f72 F72.A F72.R
def F72.b   (a0 : List X_Value) : Option (List X_Value) :=
 if 0 < (List.length a0) then
 if 0 ≤ (List.length ([] : List X_Value)) ∧ (0 + (List.length a0)) * 96 ≤ LIM then
 some (List.take (List.length (List.append (List.take 0 ([] : List X_Value)) a0)) (List.append (List.take 0 ([] : List X_Value)) a0))
 else none
 else
 agree
 (some ([] : List X_Value))
 (if 0 ≤ (List.length ([] : List X_Value)) ∧ (0 + (List.length a0)) * 96 ≤ LIM then
 some (List.take (List.length (List.append (List.take 0 ([] : List X_Value)) a0)) (List.append (List.take 0 ([] : List X_Value)) a0))
 else none)
def F72.f  (k : Nat) (a0 : List X_Value) : Option (List X_Value) := F72.b   a0
theorem F72.r  (k : Nat) (a0 : List X_Value) : fn (F72.C ) k Tryz.f72 F72.A F72.R a0 = F72.b   a0 := by kernel_rfl
theorem F72.e  (k : Nat) (a0 : List X_Value) : fn (F72.C ) k Tryz.f72 F72.A F72.R a0 = F72.f  k a0 := by
  rw [F72.r]
  rfl
theorem F72.ty  : TyOk Tryz.prog (F72.C ) := tyOk_of (by kernel_rfl)
def F72.u (k : Nat) : F72.E := fun y => F72.f  k y
theorem F72.sound (k : Nat) : Sound Tryz.prog ⟨72, F72.A, F72.R, F72.u k⟩ := by
  have h := fn_sound (k := k) («as» := F72.A) (rs := F72.R) (F72.ty ) (fun E h => by cases h) mixed Tryz.func72 (by kernel_rfl) (by kernel_rfl)
  have e : fn (F72.C ) k Tryz.f72 F72.A F72.R = F72.u k := by
    funext y
    exact F72.e  k y
  rw [e] at h
  exact h
/-! ### brindlewood/brindlewoodref7.IsObject: f7 -/
abbrev F7.A : List Sh := [(.d Y_Heap), (.d (.int .i64))]
abbrev F7.R : List Sh := [(.d .bool)]
abbrev F7.E : Type := ((List X_Object) × (Int)) → Option (Bool)
def F7.C  : Ctx := { ty := [(3, (.int .i64)), (22, (.sl 36 Y_Object)), (24, Y_Heap), (36, Y_Object)], nf := [(24, 1), (36, 10)], by_ := [(36, 168)], env := [], spec := [] }
noncomputable def F7.code : Code := Func.code Tryz.f7
noncomputable def F7.fin  := kfin (F7.C ) Tryz.f7 F7.A F7.R
def F7.b   (a0 : List X_Object) (a1 : Int) : Option (Bool) :=
 bif (decide (a1 ≥ (0 : Int))) then
 bif (decide (a1 < ((List.length a0) : Int))) then
 if 0 ≤ a1 ∧ a1 < ((List.length a0) : Int) then
 some (((List.getD a0 (Int.toNat a1) Z_Object).1) != (0 : Int))
 else none
 else
 some false
 else
 some false
def F7.c   (a0 : List X_Object) (a1 : Int) : Option (Bool) :=
 bif (decide (a1 ≥ (0 : Int))) then
 bif (decide (a1 < ((List.length a0) : Int))) then
 if 0 ≤ a1 ∧ a1 < ((List.length a0) : Int) then
 some (((List.getD a0 (Int.toNat a1) Z_Object).1) != (0 : Int))
 else none
 else
 some false
 else
 some false
theorem F7.q   (a0 : List X_Object) (a1 : Int) : F7.b  a0 a1 = F7.c  a0 a1 := by
  simp only [F7.b, F7.c, List.take_length, take_one, Nat.zero_add, Int.toNat_natCast, Int.toNat_zero, List.drop_zero, List.append_eq, Nat.le_refl, Int.le_refl, true_and, and_true, zero_le_one, if_true, prod_eta, Int.natCast_zero]
def F7.f  (k : Nat) (a0 : List X_Object) (a1 : Int) : Option (Bool) := F7.b   a0 a1
theorem F7.r  (k : Nat) (a0 : List X_Object) (a1 : Int) : fn (F7.C ) k Tryz.f7 F7.A F7.R (a0, a1) = F7.b   a0 a1 := by kernel_rfl
theorem F7.e  (k : Nat) (a0 : List X_Object) (a1 : Int) : fn (F7.C ) k Tryz.f7 F7.A F7.R (a0, a1) = F7.f  k a0 a1 := by
  rw [F7.r]
  rfl
theorem F7.ty  : TyOk Tryz.prog (F7.C ) := tyOk_of (by kernel_rfl)
def F7.u (k : Nat) : F7.E := fun y => F7.f  k y.1 y.2
theorem F7.sound (k : Nat) : Sound Tryz.prog ⟨7, F7.A, F7.R, F7.u k⟩ := by
  have h := fn_sound (k := k) («as» := F7.A) (rs := F7.R) (F7.ty ) (fun E h => by cases h) mixed Tryz.func7 (by kernel_rfl) (by kernel_rfl)
  have e : fn (F7.C ) k Tryz.f7 F7.A F7.R = F7.u k := by
    funext y
    exact F7.e  k y.1 y.2
  rw [e] at h
  exact h
/-! ### brindlewood/brindlewoodref7.values: f68 -/
abbrev F68.A : List Sh := [(.d Y_Heap), (.d (.int .i64))]
abbrev F68.R : List Sh := [(.d (.int .i64))]
abbrev F68.E : Type := ((List X_Object) × (Int)) → Option (Int)
def F68.C (c72 : F72.E) (c73 : F73.E) (c7 : F7.E) : Ctx := { ty := [(3, (.int .i64)), (22, (.sl 36 Y_Object)), (24, Y_Heap), (29, Y_Value), (32, (.sl 3 (.int .i64))), (34, (.sl 29 Y_Value)), (36, Y_Object)], nf := [(24, 1), (29, 5), (36, 10)], by_ := [(3, 8), (29, 96), (36, 168)], env := [⟨72, F72.A, F72.R, c72⟩, ⟨73, F73.A, F73.R, c73⟩, ⟨7, F7.A, F7.R, c7⟩], spec := [(0, [.bx 2 600002 (.d Y_Heap), .bx 5 600005 (.d Y_Object), .o 6 500006 29 Y_Value, .al 25 6, .d 26 (.int .i64), .d 27 (.int .i64)]), (2, [.bx 2 600002 (.d Y_Heap), .bx 5 600005 (.d Y_Object), .o 9 500009 3 (.int .i64), .o 58 500058 29 Y_Value, .d 59 (.int .i64), .d 60 (.int .i64)]), (4, [.bx 2 600002 (.d Y_Heap), .o 87 500087 3 (.int .i64), .d 88 (.int .i64), .d 89 (.int .i64)])] }
noncomputable def F68.code : Code := Func.code Tryz.f68
noncomputable def F68.fin (c72 : F72.E) (c73 : F73.E) (c7 : F7.E) := kfin (F68.C c72 c73 c7) Tryz.f68 F68.A F68.R
def F68.b (c72 : F72.E) (c73 : F73.E) (c7 : F7.E) (r_l0 : (List X_Object) → X_Object → (List X_Value) → (Int) → (Int) → Option (Int)) (a0 : List X_Object) (a1 : Int) : Option (Int) :=
 if 0 ≤ a1 ∧ a1 < ((List.length a0) : Int) then
 (c72 (((((((((List.getD a0 (Int.toNat a1) Z_Object).2).2).2).2).2).2).2).1)).bind fun y1 =>
 if (List.length y1) ≤ (List.length y1) ∧ ((List.length y1) + (List.length ((((((((List.getD a0 (Int.toNat a1) Z_Object).2).2).2).2).2).2).1))) * 96 ≤ LIM then
 if (List.length (List.append (List.take (List.length y1) y1) ((((((((List.getD a0 (Int.toNat a1) Z_Object).2).2).2).2).2).2).1))) = (List.length (List.append (List.take (List.length y1) y1) ((((((((List.getD a0 (Int.toNat a1) Z_Object).2).2).2).2).2).2).1))) then
 r_l0 a0 (List.getD a0 (Int.toNat a1) Z_Object) (List.take (List.length (List.append (List.take (List.length y1) y1) ((((((((List.getD a0 (Int.toNat a1) Z_Object).2).2).2).2).2).2).1))) (List.append (List.take (List.length y1) y1) ((((((((List.getD a0 (Int.toNat a1) Z_Object).2).2).2).2).2).2).1))) (((List.length (List.append (List.take (List.length y1) y1) ((((((((List.getD a0 (Int.toNat a1) Z_Object).2).2).2).2).2).2).1))) : Nat) : Int) (0 : Int)
 else none
 else none
 else none
def F68.b_l0 (c72 : F72.E) (c73 : F73.E) (c7 : F7.E) (n_l0 : (List X_Object) → X_Object → (List X_Value) → (Int) → (Int) → Option (Int)) (r_l2 : (List X_Object) → X_Object → (List (Int)) → (List X_Value) → (Int) → (Int) → Option (Int)) (x2 : List X_Object) (x5 : X_Object) (x6 : List X_Value) (x26 : Int) (x27 : Int) : Option (Int) :=
 bif (decide (x27 < x26)) then
 if 0 ≤ x27 ∧ x27 < (((List.length x6) : Nat) : Int) then
 bif (((List.getD x6 (0 + Int.toNat x27) Z_Value).1) == (9 : Int)) then
 bif (x5.1 == (6 : Int)) then
 (c73 ((0 : Int), (List.getD x6 (0 + Int.toNat x27) Z_Value).2)).bind fun y2 =>
 bif (!y2) then
 some (6 : Int)
 else
 if (List.length x6) = (List.length x6) then
 n_l0 x2 x5 (List.take (List.length x6) x6) x26 (IntKind.i64.wrap (x27 + (1 : Int)))
 else none
 else
 bif (x5.1 == (17 : Int)) then
 (c73 ((0 : Int), (List.getD x6 (0 + Int.toNat x27) Z_Value).2)).bind fun y3 =>
 bif (!y3) then
 some (6 : Int)
 else
 if (List.length x6) = (List.length x6) then
 n_l0 x2 x5 (List.take (List.length x6) x6) x26 (IntKind.i64.wrap (x27 + (1 : Int)))
 else none
 else
 (c73 (List.getD x6 (0 + Int.toNat x27) Z_Value)).bind fun y4 =>
 bif (!y4) then
 some (6 : Int)
 else
 if (List.length x6) = (List.length x6) then
 n_l0 x2 x5 (List.take (List.length x6) x6) x26 (IntKind.i64.wrap (x27 + (1 : Int)))
 else none
 else
 (c73 (List.getD x6 (0 + Int.toNat x27) Z_Value)).bind fun y5 =>
 bif (!y5) then
 some (6 : Int)
 else
 if (List.length x6) = (List.length x6) then
 n_l0 x2 x5 (List.take (List.length x6) x6) x26 (IntKind.i64.wrap (x27 + (1 : Int)))
 else none
 else none
 else
 if 1 ≤ (List.length ([x5.2.2.1] : List (Int))) ∧ (1 + (List.length x5.2.2.2.1)) * 8 ≤ LIM then
 if (List.length (List.append (List.take 1 ([x5.2.2.1] : List (Int))) x5.2.2.2.1)) ≤ (List.length (List.append (List.take 1 ([x5.2.2.1] : List (Int))) x5.2.2.2.1)) ∧ ((List.length (List.append (List.take 1 ([x5.2.2.1] : List (Int))) x5.2.2.2.1)) + (List.length x5.2.2.2.2.1)) * 8 ≤ LIM then
 r_l2 x2 x5 (List.take (List.length (List.append (List.take (List.length (List.append (List.take 1 ([x5.2.2.1] : List (Int))) x5.2.2.2.1)) (List.append (List.take 1 ([x5.2.2.1] : List (Int))) x5.2.2.2.1)) x5.2.2.2.2.1)) (List.append (List.take (List.length (List.append (List.take 1 ([x5.2.2.1] : List (Int))) x5.2.2.2.1)) (List.append (List.take 1 ([x5.2.2.1] : List (Int))) x5.2.2.2.1)) x5.2.2.2.2.1)) (List.take (List.length x6) x6) (((List.length x6) : Nat) : Int) (0 : Int)
 else none
 else none
def F68.b_l2 (c72 : F72.E) (c73 : F73.E) (c7 : F7.E) (n_l2 : (List X_Object) → X_Object → (List (Int)) → (List X_Value) → (Int) → (Int) → Option (Int)) (r_l4 : (List X_Object) → (List (Int)) → (Int) → (Int) → Option (Int)) (x2 : List X_Object) (x5 : X_Object) (x9 : List (Int)) (x58 : List X_Value) (x59 : Int) (x60 : Int) : Option (Int) :=
 bif (decide (x60 < x59)) then
 if 0 ≤ x60 ∧ x60 < (((List.length x58) : Nat) : Int) then
 bif (((List.getD x58 (0 + Int.toNat x60) Z_Value).1) == (6 : Int)) then
 if (List.length x9) ≤ (List.length x9) ∧ ((List.length x9) + (List.length (List.take 1 ([((((List.getD x58 (0 + Int.toNat x60) Z_Value).2).2).2).2] : List (Int))))) * 8 ≤ LIM then
 n_l2 x2 x5 (List.take (List.length (List.append (List.take (List.length x9) x9) (List.take 1 ([((((List.getD x58 (0 + Int.toNat x60) Z_Value).2).2).2).2] : List (Int))))) (List.append (List.take (List.length x9) x9) (List.take 1 ([((((List.getD x58 (0 + Int.toNat x60) Z_Value).2).2).2).2] : List (Int))))) (List.take (List.length x58) x58) x59 (IntKind.i64.wrap (x60 + (1 : Int)))
 else none
 else
 n_l2 x2 x5 (List.take (List.length x9) x9) (List.take (List.length x58) x58) x59 (IntKind.i64.wrap (x60 + (1 : Int)))
 else none
 else
 bif (x5.1 == (18 : Int)) then
 bif (x5.2.2.2.2.2.2.2.2.2 != (0 : Int)) then
 if (List.length x9) ≤ (List.length x9) ∧ ((List.length x9) + (List.length (List.take 1 ([(IntKind.i64.wrap (x5.2.2.2.2.2.2.2.2.2 - (1 : Int)))] : List (Int))))) * 8 ≤ LIM then
 r_l4 x2 (List.take (List.length (List.append (List.take (List.length x9) x9) (List.take 1 ([(IntKind.i64.wrap (x5.2.2.2.2.2.2.2.2.2 - (1 : Int)))] : List (Int))))) (List.append (List.take (List.length x9) x9) (List.take 1 ([(IntKind.i64.wrap (x5.2.2.2.2.2.2.2.2.2 - (1 : Int)))] : List (Int))))) (((List.length (List.append (List.take (List.length x9) x9) (List.take 1 ([(IntKind.i64.wrap (x5.2.2.2.2.2.2.2.2.2 - (1 : Int)))] : List (Int))))) : Nat) : Int) (0 : Int)
 else none
 else
 r_l4 x2 (List.take (List.length x9) x9) (((List.length x9) : Nat) : Int) (0 : Int)
 else
 r_l4 x2 (List.take (List.length x9) x9) (((List.length x9) : Nat) : Int) (0 : Int)
def F68.b_l4 (c72 : F72.E) (c73 : F73.E) (c7 : F7.E) (n_l4 : (List X_Object) → (List (Int)) → (Int) → (Int) → Option (Int)) (x2 : List X_Object) (x87 : List (Int)) (x88 : Int) (x89 : Int) : Option (Int) :=
 bif (decide (x89 < x88)) then
 if 0 ≤ x89 ∧ x89 < (((List.length x87) : Nat) : Int) then
 (c7 (x2, (List.getD x87 (0 + Int.toNat x89) (0 : Int)))).bind fun y6 =>
 bif (!y6) then
 some (4 : Int)
 else
 n_l4 x2 (List.take (List.length x87) x87) x88 (IntKind.i64.wrap (x89 + (1 : Int)))
 else none
 else
 some (0 : Int)
def F68.c (c72 : F72.E) (c73 : F73.E) (c7 : F7.E) (r_l0 : (List X_Object) → X_Object → (List X_Value) → (Int) → (Int) → Option (Int)) (a0 : List X_Object) (a1 : Int) : Option (Int) :=
 if 0 ≤ a1 ∧ a1 < ((List.length a0) : Int) then
 (c72 (((((((((List.getD a0 (Int.toNat a1) Z_Object).2).2).2).2).2).2).2).1)).bind fun y1 =>
 if ((List.length y1) + (List.length ((((((((List.getD a0 (Int.toNat a1) Z_Object).2).2).2).2).2).2).1))) * 96 ≤ LIM then
 r_l0 a0 (List.getD a0 (Int.toNat a1) Z_Object) (y1 ++ ((((((((List.getD a0 (Int.toNat a1) Z_Object).2).2).2).2).2).2).1)) ((List.length (y1 ++ ((((((((List.getD a0 (Int.toNat a1) Z_Object).2).2).2).2).2).2).1))) : Int) (0 : Int)
 else none
 else none
theorem F68.q (c72 : F72.E) (c73 : F73.E) (c7 : F7.E) (r_l0 : (List X_Object) → X_Object → (List X_Value) → (Int) → (Int) → Option (Int)) (a0 : List X_Object) (a1 : Int) : F68.b c72 c73 c7 r_l0 a0 a1 = F68.c c72 c73 c7 r_l0 a0 a1 := by
  simp only [F68.b, F68.c, List.take_length, take_one, Nat.zero_add, Int.toNat_natCast, Int.toNat_zero, List.drop_zero, List.append_eq, Nat.le_refl, Int.le_refl, true_and, and_true, zero_le_one, if_true, prod_eta, Int.natCast_zero]
def F68.c_l0 (c72 : F72.E) (c73 : F73.E) (c7 : F7.E) (n_l0 : (List X_Object) → X_Object → (List X_Value) → (Int) → (Int) → Option (Int)) (r_l2 : (List X_Object) → X_Object → (List (Int)) → (List X_Value) → (Int) → (Int) → Option (Int)) (x2 : List X_Object) (x5 : X_Object) (x6 : List X_Value) (x26 : Int) (x27 : Int) : Option (Int) :=
 bif (decide (x27 < x26)) then
 if 0 ≤ x27 ∧ x27 < ((List.length x6) : Int) then
 bif (((List.getD x6 (0 + Int.toNat x27) Z_Value).1) == (9 : Int)) then
 bif (x5.1 == (6 : Int)) then
 (c73 ((0 : Int), (List.getD x6 (0 + Int.toNat x27) Z_Value).2)).bind fun y2 =>
 bif !y2 then
 some (6 : Int)
 else
 n_l0 x2 x5 x6 x26 (IntKind.i64.wrap (x27 + (1 : Int)))
 else
 bif (x5.1 == (17 : Int)) then
 (c73 ((0 : Int), (List.getD x6 (0 + Int.toNat x27) Z_Value).2)).bind fun y3 =>
 bif !y3 then
 some (6 : Int)
 else
 n_l0 x2 x5 x6 x26 (IntKind.i64.wrap (x27 + (1 : Int)))
 else
 (c73 (List.getD x6 (0 + Int.toNat x27) Z_Value)).bind fun y4 =>
 bif !y4 then
 some (6 : Int)
 else
 n_l0 x2 x5 x6 x26 (IntKind.i64.wrap (x27 + (1 : Int)))
 else
 (c73 (List.getD x6 (0 + Int.toNat x27) Z_Value)).bind fun y5 =>
 bif !y5 then
 some (6 : Int)
 else
 n_l0 x2 x5 x6 x26 (IntKind.i64.wrap (x27 + (1 : Int)))
 else none
 else
 if 1 ≤ (List.length ([x5.2.2.1] : List Int)) ∧ (1 + (List.length x5.2.2.2.1)) * 8 ≤ LIM then
 if ((List.length (([x5.2.2.1] : List Int) ++ x5.2.2.2.1)) + (List.length x5.2.2.2.2.1)) * 8 ≤ LIM then
 r_l2 x2 x5 ((([x5.2.2.1] : List Int) ++ x5.2.2.2.1) ++ x5.2.2.2.2.1) x6 ((List.length x6) : Int) (0 : Int)
 else none
 else none
theorem F68.q_l0 (c72 : F72.E) (c73 : F73.E) (c7 : F7.E) (n_l0 : (List X_Object) → X_Object → (List X_Value) → (Int) → (Int) → Option (Int)) (r_l2 : (List X_Object) → X_Object → (List (Int)) → (List X_Value) → (Int) → (Int) → Option (Int)) (x2 : List X_Object) (x5 : X_Object) (x6 : List X_Value) (x26 : Int) (x27 : Int) : F68.b_l0 c72 c73 c7 n_l0 r_l2 x2 x5 x6 x26 x27 = F68.c_l0 c72 c73 c7 n_l0 r_l2 x2 x5 x6 x26 x27 := by
  simp only [F68.b_l0, F68.c_l0, List.take_length, take_one, Nat.zero_add, Int.toNat_natCast, Int.toNat_zero, List.drop_zero, List.append_eq, Nat.le_refl, Int.le_refl, true_and, and_true, zero_le_one, if_true, prod_eta, Int.natCast_zero]
def F68.c_l2 (c72 : F72.E) (c73 : F73.E) (c7 : F7.E) (n_l2 : (List X_Object) → X_Object → (List (Int)) → (List X_Value) → (Int) → (Int) → Option (Int)) (r_l4 : (List X_Object) → (List (Int)) → (Int) → (Int) → Option (Int)) (x2 : List X_Object) (x5 : X_Object) (x9 : List (Int)) (x58 : List X_Value) (x59 : Int) (x60 : Int) : Option (Int) :=
 bif (decide (x60 < x59)) then
 if 0 ≤ x60 ∧ x60 < ((List.length x58) : Int) then
 bif (((List.getD x58 (0 + Int.toNat x60) Z_Value).1) == (6 : Int)) then
 if ((List.length x9) + (List.length ([((((List.getD x58 (0 + Int.toNat x60) Z_Value).2).2).2).2] : List Int))) * 8 ≤ LIM then
 n_l2 x2 x5 (x9 ++ ([((((List.getD x58 (0 + Int.toNat x60) Z_Value).2).2).2).2] : List Int)) x58 x59 (IntKind.i64.wrap (x60 + (1 : Int)))
 else none
 else
 n_l2 x2 x5 x9 x58 x59 (IntKind.i64.wrap (x60 + (1 : Int)))
 else none
 else
 bif (x5.1 == (18 : Int)) then
 bif (x5.2.2.2.2.2.2.2.2.2 != (0 : Int)) then
 if ((List.length x9) + (List.length ([(IntKind.i64.wrap (x5.2.2.2.2.2.2.2.2.2 - (1 : Int)))] : List Int))) * 8 ≤ LIM then
 r_l4 x2 (x9 ++ ([(IntKind.i64.wrap (x5.2.2.2.2.2.2.2.2.2 - (1 : Int)))] : List Int)) ((List.length (x9 ++ ([(IntKind.i64.wrap (x5.2.2.2.2.2.2.2.2.2 - (1 : Int)))] : List Int))) : Int) (0 : Int)
 else none
 else
 r_l4 x2 x9 ((List.length x9) : Int) (0 : Int)
 else
 r_l4 x2 x9 ((List.length x9) : Int) (0 : Int)
theorem F68.q_l2 (c72 : F72.E) (c73 : F73.E) (c7 : F7.E) (n_l2 : (List X_Object) → X_Object → (List (Int)) → (List X_Value) → (Int) → (Int) → Option (Int)) (r_l4 : (List X_Object) → (List (Int)) → (Int) → (Int) → Option (Int)) (x2 : List X_Object) (x5 : X_Object) (x9 : List (Int)) (x58 : List X_Value) (x59 : Int) (x60 : Int) : F68.b_l2 c72 c73 c7 n_l2 r_l4 x2 x5 x9 x58 x59 x60 = F68.c_l2 c72 c73 c7 n_l2 r_l4 x2 x5 x9 x58 x59 x60 := by
  simp only [F68.b_l2, F68.c_l2, List.take_length, take_one, Nat.zero_add, Int.toNat_natCast, Int.toNat_zero, List.drop_zero, List.append_eq, Nat.le_refl, Int.le_refl, true_and, and_true, zero_le_one, if_true, prod_eta, Int.natCast_zero]
def F68.c_l4 (c72 : F72.E) (c73 : F73.E) (c7 : F7.E) (n_l4 : (List X_Object) → (List (Int)) → (Int) → (Int) → Option (Int)) (x2 : List X_Object) (x87 : List (Int)) (x88 : Int) (x89 : Int) : Option (Int) :=
 bif (decide (x89 < x88)) then
 if 0 ≤ x89 ∧ x89 < ((List.length x87) : Int) then
 (c7 (x2, (List.getD x87 (0 + Int.toNat x89) (0 : Int)))).bind fun y6 =>
 bif !y6 then
 some (4 : Int)
 else
 n_l4 x2 x87 x88 (IntKind.i64.wrap (x89 + (1 : Int)))
 else none
 else
 some (0 : Int)
theorem F68.q_l4 (c72 : F72.E) (c73 : F73.E) (c7 : F7.E) (n_l4 : (List X_Object) → (List (Int)) → (Int) → (Int) → Option (Int)) (x2 : List X_Object) (x87 : List (Int)) (x88 : Int) (x89 : Int) : F68.b_l4 c72 c73 c7 n_l4 x2 x87 x88 x89 = F68.c_l4 c72 c73 c7 n_l4 x2 x87 x88 x89 := by
  simp only [F68.b_l4, F68.c_l4, List.take_length, take_one, Nat.zero_add, Int.toNat_natCast, Int.toNat_zero, List.drop_zero, List.append_eq, Nat.le_refl, Int.le_refl, true_and, and_true, zero_le_one, if_true, prod_eta, Int.natCast_zero]
def F68.l4 (c72 : F72.E) (c73 : F73.E) (c7 : F7.E) (k : Nat)  : Nat → (List X_Object) → (List (Int)) → (Int) → (Int) → Option (Int)
  | 0, _, _, _, _ => none
  | n + 1, x2, x87, x88, x89 => F68.b_l4 c72 c73 c7 (fun x2 x87 x88 x89 => F68.l4 c72 c73 c7 k  n x2 x87 x88 x89) x2 x87 x88 x89
def F68.l2 (c72 : F72.E) (c73 : F73.E) (c7 : F7.E) (k : Nat)  : Nat → (List X_Object) → X_Object → (List (Int)) → (List X_Value) → (Int) → (Int) → Option (Int)
  | 0, _, _, _, _, _, _ => none
  | n + 1, x2, x5, x9, x58, x59, x60 => F68.b_l2 c72 c73 c7 (fun x2 x5 x9 x58 x59 x60 => F68.l2 c72 c73 c7 k  n x2 x5 x9 x58 x59 x60) (F68.l4 c72 c73 c7 k  k) x2 x5 x9 x58 x59 x60
def F68.l0 (c72 : F72.E) (c73 : F73.E) (c7 : F7.E) (k : Nat)  : Nat → (List X_Object) → X_Object → (List X_Value) → (Int) → (Int) → Option (Int)
  | 0, _, _, _, _, _ => none
  | n + 1, x2, x5, x6, x26, x27 => F68.b_l0 c72 c73 c7 (fun x2 x5 x6 x26 x27 => F68.l0 c72 c73 c7 k  n x2 x5 x6 x26 x27) (F68.l2 c72 c73 c7 k  k) x2 x5 x6 x26 x27
def F68.f (c72 : F72.E) (c73 : F73.E) (c7 : F7.E) (k : Nat) (a0 : List X_Object) (a1 : Int) : Option (Int) := F68.b c72 c73 c7 (F68.l0 c72 c73 c7 k k) a0 a1
noncomputable def F68.M_l0 (c72 : F72.E) (c73 : F73.E) (c7 : F7.E) (k n : Nat)  (s : St) : Option (Int) := atLoop (F68.C c72 c73 c7) k n [1, 1, 1, 0, 1, 0] [] F68.code (F68.fin c72 c73 c7) s
noncomputable def F68.fr_l0 (x2 : List X_Object) (x5 : X_Object) (x6 : List X_Value) (x26 : Int) (x27 : Int) : St := ⟨(((((((List.replicate 98 V.un).set 2 (V.bp 600002 0 [])).set 5 (V.bp 600005 0 [])).set 6 (V.ref 500006 0 0 (List.length x6))).set 25 (V.ref 500006 0 0 (List.length x6))).set 26 (V.dat (.int .i64) x26)).set 27 (V.dat (.int .i64) x27)), [⟨500006, 0, .arr 29 Y_Value x6⟩, ⟨600005, 0, .box (V.dat Y_Object x5)⟩, ⟨600002, 0, .box (V.dat Y_Heap x2)⟩]⟩
noncomputable def F68.M_l2 (c72 : F72.E) (c73 : F73.E) (c7 : F7.E) (k n : Nat)  (s : St) : Option (Int) := atLoop (F68.C c72 c73 c7) k n [1, 1, 1, 1, 1, 0, 1, 0] [] F68.code (F68.fin c72 c73 c7) s
noncomputable def F68.fr_l2 (x2 : List X_Object) (x5 : X_Object) (x9 : List (Int)) (x58 : List X_Value) (x59 : Int) (x60 : Int) : St := ⟨(((((((List.replicate 98 V.un).set 2 (V.bp 600002 0 [])).set 5 (V.bp 600005 0 [])).set 9 (V.ref 500009 0 0 (List.length x9))).set 58 (V.ref 500058 0 0 (List.length x58))).set 59 (V.dat (.int .i64) x59)).set 60 (V.dat (.int .i64) x60)), [⟨500058, 0, .arr 29 Y_Value x58⟩, ⟨500009, 0, .arr 3 (.int .i64) x9⟩, ⟨600005, 0, .box (V.dat Y_Object x5)⟩, ⟨600002, 0, .box (V.dat Y_Heap x2)⟩]⟩
noncomputable def F68.M_l4 (c72 : F72.E) (c73 : F73.E) (c7 : F7.E) (k n : Nat)  (s : St) : Option (Int) := atLoop (F68.C c72 c73 c7) k n [1, 1, 1, 1, 1, 1, 1, 0, 1, 0] [] F68.code (F68.fin c72 c73 c7) s
noncomputable def F68.fr_l4 (x2 : List X_Object) (x87 : List (Int)) (x88 : Int) (x89 : Int) : St := ⟨(((((List.replicate 98 V.un).set 2 (V.bp 600002 0 [])).set 87 (V.ref 500087 0 0 (List.length x87))).set 88 (V.dat (.int .i64) x88)).set 89 (V.dat (.int .i64) x89)), [⟨500087, 0, .arr 3 (.int .i64) x87⟩, ⟨600002, 0, .box (V.dat Y_Heap x2)⟩]⟩
theorem F68.r (c72 : F72.E) (c73 : F73.E) (c7 : F7.E) (k : Nat) (a0 : List X_Object) (a1 : Int) : fn (F68.C c72 c73 c7) k Tryz.f68 F68.A F68.R (a0, a1) = F68.b c72 c73 c7 (fun x2 x5 x6 x26 x27 => F68.M_l0 c72 c73 c7 k k  (F68.fr_l0 x2 x5 x6 x26 x27)) a0 a1 := by kernel_rfl
theorem F68.z_l0 (c72 : F72.E) (c73 : F73.E) (c7 : F7.E) (k : Nat)  (s : St) : F68.M_l0 c72 c73 c7 k 0  s = none := by kernel_rfl
theorem F68.r_l0 (c72 : F72.E) (c73 : F73.E) (c7 : F7.E) (k n : Nat)  (x2 : List X_Object) (x5 : X_Object) (x6 : List X_Value) (x26 : Int) (x27 : Int) : F68.M_l0 c72 c73 c7 k (n + 1)  (F68.fr_l0 x2 x5 x6 x26 x27) = F68.b_l0 c72 c73 c7 (fun x2 x5 x6 x26 x27 => F68.M_l0 c72 c73 c7 k n  (F68.fr_l0 x2 x5 x6 x26 x27)) (fun x2 x5 x9 x58 x59 x60 => F68.M_l2 c72 c73 c7 k k  (F68.fr_l2 x2 x5 x9 x58 x59 x60)) x2 x5 x6 x26 x27 := by kernel_rfl
theorem F68.z_l2 (c72 : F72.E) (c73 : F73.E) (c7 : F7.E) (k : Nat)  (s : St) : F68.M_l2 c72 c73 c7 k 0  s = none := by kernel_rfl
theorem F68.r_l2 (c72 : F72.E) (c73 : F73.E) (c7 : F7.E) (k n : Nat)  (x2 : List X_Object) (x5 : X_Object) (x9 : List (Int)) (x58 : List X_Value) (x59 : Int) (x60 : Int) : F68.M_l2 c72 c73 c7 k (n + 1)  (F68.fr_l2 x2 x5 x9 x58 x59 x60) = F68.b_l2 c72 c73 c7 (fun x2 x5 x9 x58 x59 x60 => F68.M_l2 c72 c73 c7 k n  (F68.fr_l2 x2 x5 x9 x58 x59 x60)) (fun x2 x87 x88 x89 => F68.M_l4 c72 c73 c7 k k  (F68.fr_l4 x2 x87 x88 x89)) x2 x5 x9 x58 x59 x60 := by kernel_rfl
theorem F68.z_l4 (c72 : F72.E) (c73 : F73.E) (c7 : F7.E) (k : Nat)  (s : St) : F68.M_l4 c72 c73 c7 k 0  s = none := by kernel_rfl
theorem F68.r_l4 (c72 : F72.E) (c73 : F73.E) (c7 : F7.E) (k n : Nat)  (x2 : List X_Object) (x87 : List (Int)) (x88 : Int) (x89 : Int) : F68.M_l4 c72 c73 c7 k (n + 1)  (F68.fr_l4 x2 x87 x88 x89) = F68.b_l4 c72 c73 c7 (fun x2 x87 x88 x89 => F68.M_l4 c72 c73 c7 k n  (F68.fr_l4 x2 x87 x88 x89)) x2 x87 x88 x89 := by kernel_rfl
theorem F68.e_l4 (c72 : F72.E) (c73 : F73.E) (c7 : F7.E) (k n : Nat)  (x2 : List X_Object) (x87 : List (Int)) (x88 : Int) (x89 : Int) : F68.M_l4 c72 c73 c7 k n  (F68.fr_l4 x2 x87 x88 x89) = F68.l4 c72 c73 c7 k  n x2 x87 x88 x89 := by
  induction n generalizing x2 x87 x88 x89 with
  | zero => rw [F68.z_l4]; rfl
  | succ n ih =>
    rw [F68.r_l4]
    simp only [ih]
    rfl
theorem F68.e_l2 (c72 : F72.E) (c73 : F73.E) (c7 : F7.E) (k n : Nat)  (x2 : List X_Object) (x5 : X_Object) (x9 : List (Int)) (x58 : List X_Value) (x59 : Int) (x60 : Int) : F68.M_l2 c72 c73 c7 k n  (F68.fr_l2 x2 x5 x9 x58 x59 x60) = F68.l2 c72 c73 c7 k  n x2 x5 x9 x58 x59 x60 := by
  induction n generalizing x2 x5 x9 x58 x59 x60 with
  | zero => rw [F68.z_l2]; rfl
  | succ n ih =>
    rw [F68.r_l2]
    simp only [F68.e_l4, ih]
    rfl
theorem F68.e_l0 (c72 : F72.E) (c73 : F73.E) (c7 : F7.E) (k n : Nat)  (x2 : List X_Object) (x5 : X_Object) (x6 : List X_Value) (x26 : Int) (x27 : Int) : F68.M_l0 c72 c73 c7 k n  (F68.fr_l0 x2 x5 x6 x26 x27) = F68.l0 c72 c73 c7 k  n x2 x5 x6 x26 x27 := by
  induction n generalizing x2 x5 x6 x26 x27 with
  | zero => rw [F68.z_l0]; rfl
  | succ n ih =>
    rw [F68.r_l0]
    simp only [F68.e_l2, ih]
    rfl
theorem F68.e (c72 : F72.E) (c73 : F73.E) (c7 : F7.E) (k : Nat) (a0 : List X_Object) (a1 : Int) : fn (F68.C c72 c73 c7) k Tryz.f68 F68.A F68.R (a0, a1) = F68.f c72 c73 c7 k a0 a1 := by
  rw [F68.r]
  simp only [F68.e_l0]
  rfl
theorem F68.ty (c72 : F72.E) (c73 : F73.E) (c7 : F7.E) : TyOk Tryz.prog (F68.C c72 c73 c7) := tyOk_of (by kernel_rfl)
def F68.u (k : Nat) : F68.E := fun y => F68.f (F72.u k) (F73.u k) (F7.u k) k y.1 y.2
theorem F68.sound (k : Nat) : Sound Tryz.prog ⟨68, F68.A, F68.R, F68.u k⟩ := by
  have h := fn_sound (k := k) («as» := F68.A) (rs := F68.R) (F68.ty (F72.u k) (F73.u k) (F7.u k)) (fun E h => by
    simp only [F68.C, List.mem_cons, List.not_mem_nil, or_false] at h
    rcases h with rfl | rfl | rfl
    · exact F72.sound k
    · exact F73.sound k
    · exact F7.sound k) mixed Tryz.func68 (by kernel_rfl) (by kernel_rfl)
  have e : fn (F68.C (F72.u k) (F73.u k) (F7.u k)) k Tryz.f68 F68.A F68.R = F68.u k := by
    funext y
    exact F68.e (F72.u k) (F73.u k) (F7.u k) k y.1 y.2
  rw [e] at h
  exact h
/-! ### brindlewood/brindlewoodref7.RangeOk: f91 -/
abbrev F91.A : List Sh := [(.d Y_Object)]
abbrev F91.R : List Sh := [(.d .bool)]
abbrev F91.E : Type := X_Object → Option (Bool)
def F91.C  : Ctx := { ty := [(3, (.int .i64)), (25, (.sl 72 (.int .u32))), (27, Y_Int), (29, Y_Value), (34, (.sl 29 Y_Value)), (36, Y_Object)], nf := [(27, 2), (29, 5), (36, 10)], by_ := [(29, 96), (72, 4)], env := [], spec := [(0, [.bx 1 600001 (.d Y_Object), .d 6 (.sl 29 Y_Value), .d 7 (.int .i64), .d 8 (.int .i64)])] }
noncomputable def F91.code : Code := Func.code Tryz.f91
noncomputable def F91.fin  := kfin (F91.C ) Tryz.f91 F91.A F91.R
def F91.b  (r_l0 : X_Object → (List X_Value) → (Int) → (Int) → Option (Bool)) (a0 : X_Object) : Option (Bool) :=
 r_l0 a0 a0.2.2.2.2.2.2.1 ((List.length a0.2.2.2.2.2.2.1) : Int) (0 : Int)
def F91.b_l0  (n_l0 : X_Object → (List X_Value) → (Int) → (Int) → Option (Bool)) (x1 : X_Object) (x6 : List X_Value) (x7 : Int) (x8 : Int) : Option (Bool) :=
 bif (decide (x8 < x7)) then
 if 0 ≤ x8 ∧ x8 < ((List.length x6) : Int) then
 bif (((List.getD x6 (Int.toNat x8) Z_Value).1) != (2 : Int)) then
 some false
 else
 bif (decide (((List.length ((((List.getD x6 (Int.toNat x8) Z_Value).2).1).2)) : Int) > (40 : Int))) then
 some false
 else
 n_l0 x1 x6 x7 (IntKind.i64.wrap (x8 + (1 : Int)))
 else none
 else
 if 0 ≤ (2 : Int) ∧ (2 : Int) < ((List.length x1.2.2.2.2.2.2.1) : Int) then
 some (decide (((List.length ((((List.getD x1.2.2.2.2.2.2.1 (Int.toNat (2 : Int)) Z_Value).2).1).2)) : Int) > (0 : Int)))
 else none
def F91.c_l0  (n_l0 : X_Object → (List X_Value) → (Int) → (Int) → Option (Bool)) (x1 : X_Object) (x6 : List X_Value) (x7 : Int) (x8 : Int) : Option (Bool) :=
 bif (decide (x8 < x7)) then
 if 0 ≤ x8 ∧ x8 < ((List.length x6) : Int) then
 bif (((List.getD x6 (Int.toNat x8) Z_Value).1) != (2 : Int)) then
 some false
 else
 bif (decide (((List.length ((((List.getD x6 (Int.toNat x8) Z_Value).2).1).2)) : Int) > (40 : Int))) then
 some false
 else
 n_l0 x1 x6 x7 (IntKind.i64.wrap (x8 + (1 : Int)))
 else none
 else
 if 0 ≤ (2 : Int) ∧ (2 : Int) < ((List.length x1.2.2.2.2.2.2.1) : Int) then
 some (decide (((List.length ((((List.getD x1.2.2.2.2.2.2.1 (Int.toNat (2 : Int)) Z_Value).2).1).2)) : Int) > (0 : Int)))
 else none
theorem F91.q_l0  (n_l0 : X_Object → (List X_Value) → (Int) → (Int) → Option (Bool)) (x1 : X_Object) (x6 : List X_Value) (x7 : Int) (x8 : Int) : F91.b_l0  n_l0 x1 x6 x7 x8 = F91.c_l0  n_l0 x1 x6 x7 x8 := by
  simp only [F91.b_l0, F91.c_l0, List.take_length, take_one, Nat.zero_add, Int.toNat_natCast, Int.toNat_zero, List.drop_zero, List.append_eq, Nat.le_refl, Int.le_refl, true_and, and_true, zero_le_one, if_true, prod_eta, Int.natCast_zero]
def F91.l0  (k : Nat)  : Nat → X_Object → (List X_Value) → (Int) → (Int) → Option (Bool)
  | 0, _, _, _, _ => none
  | n + 1, x1, x6, x7, x8 => F91.b_l0  (fun x1 x6 x7 x8 => F91.l0  k  n x1 x6 x7 x8) x1 x6 x7 x8
def F91.f  (k : Nat) (a0 : X_Object) : Option (Bool) := F91.b  (F91.l0  k k) a0
noncomputable def F91.M_l0  (k n : Nat)  (s : St) : Option (Bool) := atLoop (F91.C ) k n [1, 0, 1, 0] [] F91.code (F91.fin ) s
noncomputable def F91.fr_l0 (x1 : X_Object) (x6 : List X_Value) (x7 : Int) (x8 : Int) : St := ⟨(((((List.replicate 31 V.un).set 1 (V.bp 600001 0 [])).set 6 (V.dat (.sl 29 Y_Value) x6)).set 7 (V.dat (.int .i64) x7)).set 8 (V.dat (.int .i64) x8)), [⟨600001, 0, .box (V.dat Y_Object x1)⟩]⟩
theorem F91.r  (k : Nat) (a0 : X_Object) : fn (F91.C ) k Tryz.f91 F91.A F91.R a0 = F91.b  (fun x1 x6 x7 x8 => F91.M_l0  k k  (F91.fr_l0 x1 x6 x7 x8)) a0 := by kernel_rfl
theorem F91.z_l0  (k : Nat)  (s : St) : F91.M_l0  k 0  s = none := by kernel_rfl
theorem F91.r_l0  (k n : Nat)  (x1 : X_Object) (x6 : List X_Value) (x7 : Int) (x8 : Int) : F91.M_l0  k (n + 1)  (F91.fr_l0 x1 x6 x7 x8) = F91.b_l0  (fun x1 x6 x7 x8 => F91.M_l0  k n  (F91.fr_l0 x1 x6 x7 x8)) x1 x6 x7 x8 := by kernel_rfl
theorem F91.e_l0  (k n : Nat)  (x1 : X_Object) (x6 : List X_Value) (x7 : Int) (x8 : Int) : F91.M_l0  k n  (F91.fr_l0 x1 x6 x7 x8) = F91.l0  k  n x1 x6 x7 x8 := by
  induction n generalizing x1 x6 x7 x8 with
  | zero => rw [F91.z_l0]; rfl
  | succ n ih =>
    rw [F91.r_l0]
    simp only [ih]
    rfl
theorem F91.e  (k : Nat) (a0 : X_Object) : fn (F91.C ) k Tryz.f91 F91.A F91.R a0 = F91.f  k a0 := by
  rw [F91.r]
  simp only [F91.e_l0]
  rfl
theorem F91.ty  : TyOk Tryz.prog (F91.C ) := tyOk_of (by kernel_rfl)
def F91.u (k : Nat) : F91.E := fun y => F91.f  k y
theorem F91.sound (k : Nat) : Sound Tryz.prog ⟨91, F91.A, F91.R, F91.u k⟩ := by
  have h := fn_sound (k := k) («as» := F91.A) (rs := F91.R) (F91.ty ) (fun E h => by cases h) mixed Tryz.func91 (by kernel_rfl) (by kernel_rfl)
  have e : fn (F91.C ) k Tryz.f91 F91.A F91.R = F91.u k := by
    funext y
    exact F91.e  k y
  rw [e] at h
  exact h
/-! ### brindlewood/brindlewoodref7.Obj: f34 -/
abbrev F34.A : List Sh := [(.d Y_Heap), (.d Y_Value)]
abbrev F34.R : List Sh := [(.d Y_Object)]
abbrev F34.E : Type := ((List X_Object) × X_Value) → Option X_Object
def F34.C (c7 : F7.E) : Ctx := { ty := [(3, (.int .i64)), (22, (.sl 36 Y_Object)), (24, Y_Heap), (29, Y_Value), (36, Y_Object)], nf := [(24, 1), (29, 5), (36, 10)], by_ := [(36, 168)], env := [⟨7, F7.A, F7.R, c7⟩], spec := [] }
noncomputable def F34.code : Code := Func.code Tryz.f34
noncomputable def F34.fin (c7 : F7.E) := kfin (F34.C c7) Tryz.f34 F34.A F34.R
def F34.b (c7 : F7.E)  (a0 : List X_Object) (a1 : X_Value) : Option X_Object :=
 bif (a1.1 != (6 : Int)) then
 some ((0 : Int), ([], ((0 : Int), (([] : List (Int)), (([] : List (Int)), (([] : List (List UInt8)), (([] : List X_Value), (([] : List X_Value), ((0 : Int), (0 : Int))))))))))
 else
 (c7 (a0, a1.2.2.2.2)).bind fun y1 =>
 bif (!y1) then
 some ((0 : Int), ([], ((0 : Int), (([] : List (Int)), (([] : List (Int)), (([] : List (List UInt8)), (([] : List X_Value), (([] : List X_Value), ((0 : Int), (0 : Int))))))))))
 else
 if 0 ≤ a1.2.2.2.2 ∧ a1.2.2.2.2 < ((List.length a0) : Int) then
 some (List.getD a0 (Int.toNat a1.2.2.2.2) Z_Object)
 else none
def F34.c (c7 : F7.E)  (a0 : List X_Object) (a1 : X_Value) : Option X_Object :=
 bif (a1.1 != (6 : Int)) then
 some ((0 : Int), ([], ((0 : Int), (([] : List Int), (([] : List Int), (([] : List (List UInt8)), (([] : List X_Value), (([] : List X_Value), ((0 : Int), (0 : Int))))))))))
 else
 (c7 (a0, a1.2.2.2.2)).bind fun y1 =>
 bif !y1 then
 some ((0 : Int), ([], ((0 : Int), (([] : List Int), (([] : List Int), (([] : List (List UInt8)), (([] : List X_Value), (([] : List X_Value), ((0 : Int), (0 : Int))))))))))
 else
 if 0 ≤ a1.2.2.2.2 ∧ a1.2.2.2.2 < ((List.length a0) : Int) then
 some (List.getD a0 (Int.toNat a1.2.2.2.2) Z_Object)
 else none
theorem F34.q (c7 : F7.E)  (a0 : List X_Object) (a1 : X_Value) : F34.b c7 a0 a1 = F34.c c7 a0 a1 := by
  simp only [F34.b, F34.c, List.take_length, take_one, Nat.zero_add, Int.toNat_natCast, Int.toNat_zero, List.drop_zero, List.append_eq, Nat.le_refl, Int.le_refl, true_and, and_true, zero_le_one, if_true, prod_eta, Int.natCast_zero]
def F34.f (c7 : F7.E) (k : Nat) (a0 : List X_Object) (a1 : X_Value) : Option X_Object := F34.b c7  a0 a1
theorem F34.r (c7 : F7.E) (k : Nat) (a0 : List X_Object) (a1 : X_Value) : fn (F34.C c7) k Tryz.f34 F34.A F34.R (a0, a1) = F34.b c7  a0 a1 := by kernel_rfl
theorem F34.e (c7 : F7.E) (k : Nat) (a0 : List X_Object) (a1 : X_Value) : fn (F34.C c7) k Tryz.f34 F34.A F34.R (a0, a1) = F34.f c7 k a0 a1 := by
  rw [F34.r]
  rfl
theorem F34.ty (c7 : F7.E) : TyOk Tryz.prog (F34.C c7) := tyOk_of (by kernel_rfl)
def F34.u (k : Nat) : F34.E := fun y => F34.f (F7.u k) k y.1 y.2
theorem F34.sound (k : Nat) : Sound Tryz.prog ⟨34, F34.A, F34.R, F34.u k⟩ := by
  have h := fn_sound (k := k) («as» := F34.A) (rs := F34.R) (F34.ty (F7.u k)) (fun E h => by
    simp only [F34.C, List.mem_cons, List.not_mem_nil, or_false] at h
    rcases h with rfl
    · exact F7.sound k) mixed Tryz.func34 (by kernel_rfl) (by kernel_rfl)
  have e : fn (F34.C (F7.u k)) k Tryz.f34 F34.A F34.R = F34.u k := by
    funext y
    exact F34.e (F7.u k) k y.1 y.2
  rw [e] at h
  exact h
end
end Go.Ab
