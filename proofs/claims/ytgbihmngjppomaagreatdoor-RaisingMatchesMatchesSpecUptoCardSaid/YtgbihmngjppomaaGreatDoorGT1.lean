/- A part of the proof: GT1. -/
import Derived.Test.YtgbihmngjppomaaGreatDoorFTy
import Derived.Test.YtgbihmngjppomaaGreatDoorGC1
import Derived.Test.YtgbihmngjppomaaGreatDoorGC2
import Derived.Test.YtgbihmngjppomaaGreatDoorHLib
namespace Go.Ab
set_option linter.unusedVariables false
set_option linter.unusedSimpArgs false
set_option maxRecDepth 100000
noncomputable section
open Go.Proofs
/-! ### brindlewood/brindlewoodref7.At: f64 -/
abbrev r7_At.A : List Sh := [(.d (.int .i64)), (.d (.int .i64))]
abbrev r7_At.R : List Sh := [(.d Y_Fault)]
abbrev r7_At.E : Type := X_acceptRange → Option X_acceptRange
def r7_At.C  : Ctx := { ty := [(64, Y_Fault)], nf := [(64, 2)], by_ := [], env := [], spec := [] }
noncomputable def r7_At.code : Code := Func.code Tryz.f64
noncomputable def r7_At.fin  := kfin (r7_At.C ) Tryz.f64 r7_At.A r7_At.R
def r7_At.b   (a0 : Int) (a1 : Int) : Option X_acceptRange :=
  some (a0, a1)
def r7_At.f  (k : Nat) (a0 : Int) (a1 : Int) : Option X_acceptRange := r7_At.b   a0 a1
theorem r7_At.r  (k : Nat) (a0 : Int) (a1 : Int) : fn (r7_At.C ) k Tryz.f64 r7_At.A r7_At.R (a0, a1) = r7_At.b   a0 a1 := by kernel_rfl
theorem r7_At.e  (k : Nat) (a0 : Int) (a1 : Int) : fn (r7_At.C ) k Tryz.f64 r7_At.A r7_At.R (a0, a1) = r7_At.f  k a0 a1 := by
  rw [r7_At.r]
  rfl
theorem r7_At.ty  : TyOk Tryz.prog (r7_At.C ) := tyOk_of (by kernel_rfl)
def r7_At.u (k : Nat) : r7_At.E := fun y => r7_At.f  k y.1 y.2
theorem r7_At.sound (k : Nat) : Sound Tryz.prog ⟨64, r7_At.A, r7_At.R, r7_At.u k⟩ := by
  have h := fn_sound (k := k) («as» := r7_At.A) (rs := r7_At.R) (r7_At.ty ) (fun E h => by cases h) mixed Tryz.func64 (by kernel_rfl) (by kernel_rfl)
  have e : fn (r7_At.C ) k Tryz.f64 r7_At.A r7_At.R = r7_At.u k := by
    funext y
    exact r7_At.e  k y.1 y.2
  rw [e] at h
  exact h
/-! ### slices.Index[[]string,string]: f55 -/
abbrev sl_Index_string.A : List Sh := [(.d (.sl 9 .str)), (.d .str)]
abbrev sl_Index_string.R : List Sh := [(.d (.int .i64))]
abbrev sl_Index_string.E : Type := ((List (List UInt8)) × (List UInt8)) → Option (Int)
def sl_Index_string.C  : Ctx := { ty := [(3, (.int .i64)), (9, .str), (33, (.sl 9 .str))], nf := [], by_ := [(9, 16)], env := [], spec := [(0, [.d 0 (.sl 9 .str), .d 1 .str, .d 7 (.int .i64), .d 8 (.int .i64)])] }
noncomputable def sl_Index_string.code : Code := Func.code Tryz.f55
noncomputable def sl_Index_string.fin  := kfin (sl_Index_string.C ) Tryz.f55 sl_Index_string.A sl_Index_string.R
def sl_Index_string.b  (r_l0 : (List (List UInt8)) → (List UInt8) → (Int) → (Int) → Option (Int)) (a0 : List (List UInt8)) (a1 : List UInt8) : Option (Int) :=
  r_l0 a0 a1 ((List.length a0) : Int) (0 : Int)
def sl_Index_string.b_l0  (n_l0 : (List (List UInt8)) → (List UInt8) → (Int) → (Int) → Option (Int)) (x0 : List (List UInt8)) (x1 : List UInt8) (x7 : Int) (x8 : Int) : Option (Int) :=
  bif (decide (x8 < x7)) then
    if 0 ≤ x8 ∧ x8 < ((List.length x0) : Int) then
      bif (x1 == (List.getD x0 (Int.toNat x8) [])) then
        some x8
      else
        n_l0 x0 x1 x7 (IntKind.i64.wrap (x8 + (1 : Int)))
    else none
  else
    some (-1 : Int)
def sl_Index_string.l0  (k : Nat)  : Nat → (List (List UInt8)) → (List UInt8) → (Int) → (Int) → Option (Int)
  | 0, _, _, _, _ => none
  | n + 1, x0, x1, x7, x8 => sl_Index_string.b_l0  (fun x0 x1 x7 x8 => sl_Index_string.l0  k  n x0 x1 x7 x8) x0 x1 x7 x8
def sl_Index_string.f  (k : Nat) (a0 : List (List UInt8)) (a1 : List UInt8) : Option (Int) := sl_Index_string.b  (sl_Index_string.l0  k k) a0 a1
noncomputable def sl_Index_string.M_l0  (k n : Nat)  (s : St) : Option (Int) := atLoop (sl_Index_string.C ) k n [1, 0, 1, 0] [] sl_Index_string.code (sl_Index_string.fin ) s
noncomputable def sl_Index_string.fr_l0 (x0 : List (List UInt8)) (x1 : List UInt8) (x7 : Int) (x8 : Int) : St := ⟨(((((List.replicate 19 V.un).set 0 (V.dat (.sl 9 .str) x0)).set 1 (V.dat .str x1)).set 7 (V.dat (.int .i64) x7)).set 8 (V.dat (.int .i64) x8)), []⟩
theorem sl_Index_string.r  (k : Nat) (a0 : List (List UInt8)) (a1 : List UInt8) : fn (sl_Index_string.C ) k Tryz.f55 sl_Index_string.A sl_Index_string.R (a0, a1) = sl_Index_string.b  (fun x0 x1 x7 x8 => sl_Index_string.M_l0  k k  (sl_Index_string.fr_l0 x0 x1 x7 x8)) a0 a1 := by kernel_rfl
theorem sl_Index_string.z_l0  (k : Nat)  (s : St) : sl_Index_string.M_l0  k 0  s = none := by kernel_rfl
theorem sl_Index_string.r_l0  (k n : Nat)  (x0 : List (List UInt8)) (x1 : List UInt8) (x7 : Int) (x8 : Int) : sl_Index_string.M_l0  k (n + 1)  (sl_Index_string.fr_l0 x0 x1 x7 x8) = sl_Index_string.b_l0  (fun x0 x1 x7 x8 => sl_Index_string.M_l0  k n  (sl_Index_string.fr_l0 x0 x1 x7 x8)) x0 x1 x7 x8 := by kernel_rfl
theorem sl_Index_string.e_l0  (k n : Nat)  (x0 : List (List UInt8)) (x1 : List UInt8) (x7 : Int) (x8 : Int) : sl_Index_string.M_l0  k n  (sl_Index_string.fr_l0 x0 x1 x7 x8) = sl_Index_string.l0  k  n x0 x1 x7 x8 := by
  induction n generalizing x0 x1 x7 x8 with
  | zero => rw [sl_Index_string.z_l0]; rfl
  | succ n ih =>
    rw [sl_Index_string.r_l0]
    simp only [ih]
    rfl
theorem sl_Index_string.e  (k : Nat) (a0 : List (List UInt8)) (a1 : List UInt8) : fn (sl_Index_string.C ) k Tryz.f55 sl_Index_string.A sl_Index_string.R (a0, a1) = sl_Index_string.f  k a0 a1 := by
  rw [sl_Index_string.r]
  simp only [sl_Index_string.e_l0]
  rfl
theorem sl_Index_string.ty  : TyOk Tryz.prog (sl_Index_string.C ) := tyOk_of (by kernel_rfl)
def sl_Index_string.u (k : Nat) : sl_Index_string.E := fun y => sl_Index_string.f  k y.1 y.2
theorem sl_Index_string.sound (k : Nat) : Sound Tryz.prog ⟨55, sl_Index_string.A, sl_Index_string.R, sl_Index_string.u k⟩ := by
  have h := fn_sound (k := k) («as» := sl_Index_string.A) (rs := sl_Index_string.R) (sl_Index_string.ty ) (fun E h => by cases h) mixed Tryz.func55 (by kernel_rfl) (by kernel_rfl)
  have e : fn (sl_Index_string.C ) k Tryz.f55 sl_Index_string.A sl_Index_string.R = sl_Index_string.u k := by
    funext y
    exact sl_Index_string.e  k y.1 y.2
  rw [e] at h
  exact h
/-! ### brindlewood/brindlewoodref7.Begin: f27 -/
abbrev r7_Begin.A : List Sh := []
abbrev r7_Begin.R : List Sh := [(.d Y_Heap)]
abbrev r7_Begin.E : Type := (Unit) → Option (List X_Object)
def r7_Begin.C (c52 : f_strings_Fields.E) (c54 : f_strings_Cut.E) (c55 : sl_Index_string.E) : Ctx := { ty := [(3, (.int .i64)), (9, .str), (22, (.sl 36 Y_Object)), (24, Y_Heap), (32, (.sl 3 (.int .i64))), (33, (.sl 9 .str)), (36, Y_Object)], nf := [(24, 1), (36, 10)], by_ := [(3, 8), (9, 16), (36, 168)], env := [⟨52, f_strings_Fields.A, f_strings_Fields.R, c52⟩, ⟨54, f_strings_Cut.A, f_strings_Cut.R, c54⟩, ⟨55, sl_Index_string.A, sl_Index_string.R, c55⟩], spec := [(0, [.bx 0 600000 (.one (.o 36 Y_Object)), .bx 1 600001 (.one (.o 36 Y_Object)), .o 2 500002 9 .str, .d 10 (.sl 9 .str), .d 11 (.int .i64), .d 12 (.int .i64)]), (100011, [.bx 0 600000 (.one (.o 36 Y_Object)), .bx 1 600001 (.one (.o 36 Y_Object)), .o 2 500002 9 .str, .d 5 .str, .bx 8 600008 (.pair (.d (.int .i64)) (.pair (.d .str) (.pair (.d (.int .i64)) (.pair (.o 3 (.int .i64)) (.pair (.o 3 (.int .i64)) (.pair (.o 9 .str) (.pair (.o 29 Y_Value) (.pair (.o 29 Y_Value) (.d Y_Fault))))))))), .d 10 (.sl 9 .str), .d 11 (.int .i64), .d 12 (.int .i64)])] }
noncomputable def r7_Begin.code : Code := Func.code Tryz.f27
noncomputable def r7_Begin.fin (c52 : f_strings_Fields.E) (c54 : f_strings_Cut.E) (c55 : sl_Index_string.E) := kfin (r7_Begin.C c52 c54 c55) Tryz.f27 r7_Begin.A r7_Begin.R
def r7_Begin.b (c52 : f_strings_Fields.E) (c54 : f_strings_Cut.E) (c55 : sl_Index_string.E) (r_l0 : (List X_Object) → (List X_Object) → (List (List UInt8)) → (List (List UInt8)) → (Int) → (Int) → Option (List X_Object))  : Option (List X_Object) :=
  (c52 [111, 98, 106, 101, 99, 116, 32, 99, 108, 97, 115, 115, 58, 111, 98, 106, 101, 99, 116, 32, 110, 105, 108, 95, 116, 121, 112, 101, 58, 111, 98, 106, 101, 99, 116, 32, 98, 111, 111, 108, 58, 111, 98, 106, 101, 99, 116, 32, 105, 110, 116, 58, 111, 98, 106, 101, 99, 116, 32, 114, 97, 116, 105, 111, 58, 111, 98, 106, 101, 99, 116, 32, 116, 101, 120, 116, 58, 111, 98, 106, 101, 99, 116, 32, 98, 121, 116, 101, 115, 58, 111, 98, 106, 101, 99, 116, 32, 116, 117, 112, 108, 101, 58, 111, 98, 106, 101, 99, 116, 32, 108, 105, 115, 116, 58, 111, 98, 106, 101, 99, 116, 32, 100, 105, 99, 116, 58, 111, 98, 106, 101, 99, 116, 32, 115, 101, 116, 58, 111, 98, 106, 101, 99, 116, 32, 114, 97, 110, 103, 101, 58, 111, 98, 106, 101, 99, 116, 32, 99, 101, 108, 108, 58, 111, 98, 106, 101, 99, 116, 32, 102, 117, 110, 99, 116, 105, 111, 110, 58, 111, 98, 106, 101, 99, 116, 32, 98, 117, 105, 108, 116, 105, 110, 58, 111, 98, 106, 101, 99, 116, 32, 109, 101, 116, 104, 111, 100, 58, 111, 98, 106, 101, 99, 116, 32, 109, 111, 100, 117, 108, 101, 58, 111, 98, 106, 101, 99, 116, 32, 112, 114, 111, 112, 101, 114, 116, 121, 58, 111, 98, 106, 101, 99, 116, 32, 115, 116, 97, 116, 105, 99, 58, 111, 98, 106, 101, 99, 116, 32, 99, 108, 97, 115, 115, 95, 109, 101, 116, 104, 111, 100, 58, 111, 98, 106, 101, 99, 116, 32, 115, 117, 112, 101, 114, 95, 116, 121, 112, 101, 58, 111, 98, 106, 101, 99, 116, 32, 105, 116, 101, 114, 97, 116, 111, 114, 58, 111, 98, 106, 101, 99, 116, 32, 103, 101, 110, 101, 114, 97, 116, 111, 114, 58, 111, 98, 106, 101, 99, 116, 32, 119, 101, 97, 107, 58, 111, 98, 106, 101, 99, 116, 32, 116, 97, 115, 107, 58, 111, 98, 106, 101, 99, 116, 32, 116, 105, 109, 101, 114, 58, 111, 98, 106, 101, 99, 116, 32, 112, 97, 115, 115, 95, 116, 121, 112, 101, 58, 111, 98, 106, 101, 99, 116, 32, 82, 97, 105, 115, 101, 100, 58, 111, 98, 106, 101, 99, 116, 32, 69, 120, 105, 116, 58, 82, 97, 105, 115, 101, 100, 32, 67, 97, 110, 99, 101, 108, 58, 82, 97, 105, 115, 101, 100, 32, 69, 114, 114, 111, 114, 58, 82, 97, 105, 115, 101, 100, 32, 84, 121, 112, 101, 69, 114, 114, 111, 114, 58, 69, 114, 114, 111, 114, 32, 86, 97, 108, 117, 101, 69, 114, 114, 111, 114, 58, 69, 114, 114, 111, 114, 32, 78, 97, 109, 101, 69, 114, 114, 111, 114, 58, 69, 114, 114, 111, 114, 32, 85, 110, 98, 111, 117, 110, 100, 69, 114, 114, 111, 114, 58, 78, 97, 109, 101, 69, 114, 114, 111, 114, 32, 65, 116, 116, 114, 105, 98, 117, 116, 101, 69, 114, 114, 111, 114, 58, 69, 114, 114, 111, 114, 32, 76, 111, 111, 107, 117, 112, 69, 114, 114, 111, 114, 58, 69, 114, 114, 111, 114, 32, 73, 110, 100, 101, 120, 69, 114, 114, 111, 114, 58, 76, 111, 111, 107, 117, 112, 69, 114, 114, 111, 114, 32, 75, 101, 121, 69, 114, 114, 111, 114, 58, 76, 111, 111, 107, 117, 112, 69, 114, 114, 111, 114, 32, 65, 114, 105, 116, 104, 109, 101, 116, 105, 99, 69, 114, 114, 111, 114, 58, 69, 114, 114, 111, 114, 32, 68, 105, 118, 105, 115, 105, 111, 110, 69, 114, 114, 111, 114, 58, 65, 114, 105, 116, 104, 109, 101, 116, 105, 99, 69, 114, 114, 111, 114, 32, 76, 105, 109, 105, 116, 69, 114, 114, 111, 114, 58, 69, 114, 114, 111, 114, 32, 82, 101, 99, 117, 114, 115, 105, 111, 110, 69, 114, 114, 111, 114, 58, 76, 105, 109, 105, 116, 69, 114, 114, 111, 114, 32, 65, 115, 115, 101, 114, 116, 105, 111, 110, 69, 114, 114, 111, 114, 58, 69, 114, 114, 111, 114, 32, 73, 109, 112, 111, 114, 116, 69, 114, 114, 111, 114, 58, 69, 114, 114, 111, 114, 32, 83, 116, 111, 112, 69, 114, 114, 111, 114, 58, 69, 114, 114, 111, 114, 32, 83, 116, 97, 116, 101, 69, 114, 114, 111, 114, 58, 69, 114, 114, 111, 114, 32, 71, 114, 111, 117, 112, 69, 114, 114, 111, 114, 58, 69, 114, 114, 111, 114]).bind fun y1 =>
    r_l0 ([] : List X_Object) ([] : List X_Object) ([] : List (List UInt8)) y1 ((List.length y1) : Int) (0 : Int)
def r7_Begin.b_l0 (c52 : f_strings_Fields.E) (c54 : f_strings_Cut.E) (c55 : sl_Index_string.E) (r_g11 : (List X_Object) → (List X_Object) → (List (List UInt8)) → (List UInt8) → X_Object → (List (List UInt8)) → (Int) → (Int) → Option (List X_Object)) (x0 : List X_Object) (x1 : List X_Object) (x2 : List (List UInt8)) (x10 : List (List UInt8)) (x11 : Int) (x12 : Int) : Option (List X_Object) :=
  bif (decide (x12 < x11)) then
    if 0 ≤ x12 ∧ x12 < ((List.length x10) : Int) then
      (c54 ((List.getD x10 (Int.toNat x12) []), [58])).bind fun y2 =>
        bif y2.2.2 then
          (c55 ((List.take (List.length x2) x2), y2.2.1)).bind fun y3 =>
            if 0 ≤ y3 ∧ y3 < (((List.length x1) : Nat) : Int) then
              if 1 ≤ (List.length ([x12] : List (Int))) ∧ (1 + (List.length ((((((List.getD x1 (0 + Int.toNat y3) Z_Object).2).2).2).2).1))) * 8 ≤ LIM then
                r_g11 (List.take (List.length x0) x0) (List.take (List.length x1) x1) (List.take (List.length x2) x2) y2.1 ((9 : Int), (y2.1, ((0 : Int), ((List.take 1 ([y3] : List (Int))), ((List.take (List.length (List.append (List.take 1 ([x12] : List (Int))) ((((((List.getD x1 (0 + Int.toNat y3) Z_Object).2).2).2).2).1))) (List.append (List.take 1 ([x12] : List (Int))) ((((((List.getD x1 (0 + Int.toNat y3) Z_Object).2).2).2).2).1))), (([] : List (List UInt8)), (([] : List X_Value), (([] : List X_Value), ((0 : Int), (0 : Int)))))))))) x10 x11 x12
              else none
            else none
        else
          r_g11 (List.take (List.length x0) x0) (List.take (List.length x1) x1) (List.take (List.length x2) x2) y2.1 ((9 : Int), (y2.1, ((0 : Int), (([] : List (Int)), ((List.take 1 ([x12] : List (Int))), (([] : List (List UInt8)), (([] : List X_Value), (([] : List X_Value), ((0 : Int), (0 : Int)))))))))) x10 x11 x12
    else none
  else
    some (List.take (List.length x1) x1)
def r7_Begin.b_g11 (c52 : f_strings_Fields.E) (c54 : f_strings_Cut.E) (c55 : sl_Index_string.E) (n_l0 : (List X_Object) → (List X_Object) → (List (List UInt8)) → (List (List UInt8)) → (Int) → (Int) → Option (List X_Object)) (x0 : List X_Object) (x1 : List X_Object) (x2 : List (List UInt8)) (x5 : List UInt8) (x8 : X_Object) (x10 : List (List UInt8)) (x11 : Int) (x12 : Int) : Option (List X_Object) :=
  if (List.length x2) ≤ (List.length x2) ∧ ((List.length x2) + (List.length (List.take 1 ([x5] : List (List UInt8))))) * 16 ≤ LIM then
    if (List.length x1) ≤ (List.length x1) ∧ ((List.length x1) + (List.length (List.take 1 ([(x8.1, (x8.2.1, (x8.2.2.1, ((List.take (List.length x8.2.2.2.1) x8.2.2.2.1), ((List.take (List.length x8.2.2.2.2.1) x8.2.2.2.2.1), ((List.take (List.length x8.2.2.2.2.2.1) x8.2.2.2.2.2.1), ((List.take (List.length x8.2.2.2.2.2.2.1) x8.2.2.2.2.2.2.1), ((List.take (List.length x8.2.2.2.2.2.2.2.1) x8.2.2.2.2.2.2.2.1), x8.2.2.2.2.2.2.2.2))))))))] : List X_Object)))) * 168 ≤ LIM then
      n_l0 (List.take (List.length x0) x0) (List.take (List.length (List.append (List.take (List.length x1) x1) (List.take 1 ([(x8.1, (x8.2.1, (x8.2.2.1, ((List.take (List.length x8.2.2.2.1) x8.2.2.2.1), ((List.take (List.length x8.2.2.2.2.1) x8.2.2.2.2.1), ((List.take (List.length x8.2.2.2.2.2.1) x8.2.2.2.2.2.1), ((List.take (List.length x8.2.2.2.2.2.2.1) x8.2.2.2.2.2.2.1), ((List.take (List.length x8.2.2.2.2.2.2.2.1) x8.2.2.2.2.2.2.2.1), x8.2.2.2.2.2.2.2.2))))))))] : List X_Object)))) (List.append (List.take (List.length x1) x1) (List.take 1 ([(x8.1, (x8.2.1, (x8.2.2.1, ((List.take (List.length x8.2.2.2.1) x8.2.2.2.1), ((List.take (List.length x8.2.2.2.2.1) x8.2.2.2.2.1), ((List.take (List.length x8.2.2.2.2.2.1) x8.2.2.2.2.2.1), ((List.take (List.length x8.2.2.2.2.2.2.1) x8.2.2.2.2.2.2.1), ((List.take (List.length x8.2.2.2.2.2.2.2.1) x8.2.2.2.2.2.2.2.1), x8.2.2.2.2.2.2.2.2))))))))] : List X_Object)))) (List.take (List.length (List.append (List.take (List.length x2) x2) (List.take 1 ([x5] : List (List UInt8))))) (List.append (List.take (List.length x2) x2) (List.take 1 ([x5] : List (List UInt8))))) x10 x11 (IntKind.i64.wrap (x12 + (1 : Int)))
    else none
  else none
def r7_Begin.g11 (c52 : f_strings_Fields.E) (c54 : f_strings_Cut.E) (c55 : sl_Index_string.E) (k : Nat) (n_l0 : (List X_Object) → (List X_Object) → (List (List UInt8)) → (List (List UInt8)) → (Int) → (Int) → Option (List X_Object)) (x0 : List X_Object) (x1 : List X_Object) (x2 : List (List UInt8)) (x5 : List UInt8) (x8 : X_Object) (x10 : List (List UInt8)) (x11 : Int) (x12 : Int) : Option (List X_Object) := gate k (r7_Begin.b_g11 c52 c54 c55 n_l0 x0 x1 x2 x5 x8 x10 x11 x12)
def r7_Begin.l0 (c52 : f_strings_Fields.E) (c54 : f_strings_Cut.E) (c55 : sl_Index_string.E) (k : Nat)  : Nat → (List X_Object) → (List X_Object) → (List (List UInt8)) → (List (List UInt8)) → (Int) → (Int) → Option (List X_Object)
  | 0, _, _, _, _, _, _ => none
  | n + 1, x0, x1, x2, x10, x11, x12 => r7_Begin.b_l0 c52 c54 c55 (r7_Begin.g11 c52 c54 c55 k (fun x0 x1 x2 x10 x11 x12 => r7_Begin.l0 c52 c54 c55 k  n x0 x1 x2 x10 x11 x12)) x0 x1 x2 x10 x11 x12
def r7_Begin.f (c52 : f_strings_Fields.E) (c54 : f_strings_Cut.E) (c55 : sl_Index_string.E) (k : Nat)  : Option (List X_Object) := r7_Begin.b c52 c54 c55 (r7_Begin.l0 c52 c54 c55 k k) 
noncomputable def r7_Begin.M_l0 (c52 : f_strings_Fields.E) (c54 : f_strings_Cut.E) (c55 : sl_Index_string.E) (k n : Nat)  (s : St) : Option (List X_Object) := atLoop (r7_Begin.C c52 c54 c55) k n [1, 1, 1, 0, 1, 0] [] r7_Begin.code (r7_Begin.fin c52 c54 c55) s
noncomputable def r7_Begin.fr_l0 (x0 : List X_Object) (x1 : List X_Object) (x2 : List (List UInt8)) (x10 : List (List UInt8)) (x11 : Int) (x12 : Int) : St := ⟨(((((((List.replicate 56 V.un).set 0 (V.bp 600000 0 [])).set 1 (V.bp 600001 0 [])).set 2 (V.ref 500002 0 0 (List.length x2))).set 10 (V.dat (.sl 9 .str) x10)).set 11 (V.dat (.int .i64) x11)).set 12 (V.dat (.int .i64) x12)), [⟨500002, 0, .arr 9 .str x2⟩, ⟨600001, 0, .box (V.st1 (V.ref 11600016 0 0 (List.length x1)))⟩, ⟨11600016, 0, .arr 36 Y_Object x1⟩, ⟨600000, 0, .box (V.st1 (V.ref 11600000 0 0 (List.length x0)))⟩, ⟨11600000, 0, .arr 36 Y_Object x0⟩]⟩
noncomputable def r7_Begin.M_g11 (c52 : f_strings_Fields.E) (c54 : f_strings_Cut.E) (c55 : sl_Index_string.E) (k : Nat) (m0 : Nat) (s : St) : Option (List X_Object) := atGate (r7_Begin.C c52 c54 c55) k [1, 1, 1, 0, 1, 0, 0, 1, 1, 0, 0, 1, 1, 1, 1, 0] [m0] r7_Begin.code (r7_Begin.fin c52 c54 c55) s
noncomputable def r7_Begin.fr_g11 (x0 : List X_Object) (x1 : List X_Object) (x2 : List (List UInt8)) (x5 : List UInt8) (x8 : X_Object) (x10 : List (List UInt8)) (x11 : Int) (x12 : Int) : St := ⟨(((((((((List.replicate 56 V.un).set 0 (V.bp 600000 0 [])).set 1 (V.bp 600001 0 [])).set 2 (V.ref 500002 0 0 (List.length x2))).set 5 (V.dat .str x5)).set 8 (V.bp 600008 0 [])).set 10 (V.dat (.sl 9 .str) x10)).set 11 (V.dat (.int .i64) x11)).set 12 (V.dat (.int .i64) x12)), [⟨600008, 0, .box (V.st (V.dat (.int .i64) x8.1) (V.st (V.dat .str x8.2.1) (V.st (V.dat (.int .i64) x8.2.2.1) (V.st (V.ref 11600128 0 0 (List.length x8.2.2.2.1)) (V.st (V.ref 11600129 0 0 (List.length x8.2.2.2.2.1)) (V.st (V.ref 11600130 0 0 (List.length x8.2.2.2.2.2.1)) (V.st (V.ref 11600131 0 0 (List.length x8.2.2.2.2.2.2.1)) (V.st (V.ref 11600132 0 0 (List.length x8.2.2.2.2.2.2.2.1)) (V.dat Y_Fault x8.2.2.2.2.2.2.2.2)))))))))⟩, ⟨11600128, 0, .arr 3 (.int .i64) x8.2.2.2.1⟩, ⟨11600129, 0, .arr 3 (.int .i64) x8.2.2.2.2.1⟩, ⟨11600130, 0, .arr 9 .str x8.2.2.2.2.2.1⟩, ⟨11600131, 0, .arr 29 Y_Value x8.2.2.2.2.2.2.1⟩, ⟨11600132, 0, .arr 29 Y_Value x8.2.2.2.2.2.2.2.1⟩, ⟨500002, 0, .arr 9 .str x2⟩, ⟨600001, 0, .box (V.st1 (V.ref 11600016 0 0 (List.length x1)))⟩, ⟨11600016, 0, .arr 36 Y_Object x1⟩, ⟨600000, 0, .box (V.st1 (V.ref 11600000 0 0 (List.length x0)))⟩, ⟨11600000, 0, .arr 36 Y_Object x0⟩]⟩
theorem r7_Begin.r (c52 : f_strings_Fields.E) (c54 : f_strings_Cut.E) (c55 : sl_Index_string.E) (k : Nat)  : fn (r7_Begin.C c52 c54 c55) k Tryz.f27 r7_Begin.A r7_Begin.R () = r7_Begin.b c52 c54 c55 (fun x0 x1 x2 x10 x11 x12 => r7_Begin.M_l0 c52 c54 c55 k k  (r7_Begin.fr_l0 x0 x1 x2 x10 x11 x12))  := by kernel_rfl
theorem r7_Begin.z_l0 (c52 : f_strings_Fields.E) (c54 : f_strings_Cut.E) (c55 : sl_Index_string.E) (k : Nat)  (s : St) : r7_Begin.M_l0 c52 c54 c55 k 0  s = none := by kernel_rfl
theorem r7_Begin.r_l0 (c52 : f_strings_Fields.E) (c54 : f_strings_Cut.E) (c55 : sl_Index_string.E) (k n : Nat)  (x0 : List X_Object) (x1 : List X_Object) (x2 : List (List UInt8)) (x10 : List (List UInt8)) (x11 : Int) (x12 : Int) : r7_Begin.M_l0 c52 c54 c55 k (n + 1)  (r7_Begin.fr_l0 x0 x1 x2 x10 x11 x12) = r7_Begin.b_l0 c52 c54 c55 (fun x0 x1 x2 x5 x8 x10 x11 x12 => r7_Begin.M_g11 c52 c54 c55 k  n (r7_Begin.fr_g11 x0 x1 x2 x5 x8 x10 x11 x12)) x0 x1 x2 x10 x11 x12 := by kernel_rfl
theorem r7_Begin.r_g11 (c52 : f_strings_Fields.E) (c54 : f_strings_Cut.E) (c55 : sl_Index_string.E) (k : Nat) (m0 : Nat) (x0 : List X_Object) (x1 : List X_Object) (x2 : List (List UInt8)) (x5 : List UInt8) (x8 : X_Object) (x10 : List (List UInt8)) (x11 : Int) (x12 : Int) : r7_Begin.M_g11 c52 c54 c55 k m0 (r7_Begin.fr_g11 x0 x1 x2 x5 x8 x10 x11 x12) = gate k (r7_Begin.b_g11 c52 c54 c55 (fun x0 x1 x2 x10 x11 x12 => r7_Begin.M_l0 c52 c54 c55 k m0  (r7_Begin.fr_l0 x0 x1 x2 x10 x11 x12)) x0 x1 x2 x5 x8 x10 x11 x12) := by kernel_rfl
theorem r7_Begin.e_g11 (c52 : f_strings_Fields.E) (c54 : f_strings_Cut.E) (c55 : sl_Index_string.E) (k : Nat) (m0 : Nat) (x0 : List X_Object) (x1 : List X_Object) (x2 : List (List UInt8)) (x5 : List UInt8) (x8 : X_Object) (x10 : List (List UInt8)) (x11 : Int) (x12 : Int) : r7_Begin.M_g11 c52 c54 c55 k m0 (r7_Begin.fr_g11 x0 x1 x2 x5 x8 x10 x11 x12) = r7_Begin.g11 c52 c54 c55 k (fun x0 x1 x2 x10 x11 x12 => r7_Begin.M_l0 c52 c54 c55 k m0  (r7_Begin.fr_l0 x0 x1 x2 x10 x11 x12)) x0 x1 x2 x5 x8 x10 x11 x12 := by
  rw [r7_Begin.r_g11]
  rfl
theorem r7_Begin.e_l0 (c52 : f_strings_Fields.E) (c54 : f_strings_Cut.E) (c55 : sl_Index_string.E) (k n : Nat)  (x0 : List X_Object) (x1 : List X_Object) (x2 : List (List UInt8)) (x10 : List (List UInt8)) (x11 : Int) (x12 : Int) : r7_Begin.M_l0 c52 c54 c55 k n  (r7_Begin.fr_l0 x0 x1 x2 x10 x11 x12) = r7_Begin.l0 c52 c54 c55 k  n x0 x1 x2 x10 x11 x12 := by
  induction n generalizing x0 x1 x2 x10 x11 x12 with
  | zero => rw [r7_Begin.z_l0]; rfl
  | succ n ih =>
    rw [r7_Begin.r_l0]
    simp only [r7_Begin.e_g11, ih]
    rfl
theorem r7_Begin.e (c52 : f_strings_Fields.E) (c54 : f_strings_Cut.E) (c55 : sl_Index_string.E) (k : Nat)  : fn (r7_Begin.C c52 c54 c55) k Tryz.f27 r7_Begin.A r7_Begin.R () = r7_Begin.f c52 c54 c55 k  := by
  rw [r7_Begin.r]
  simp only [r7_Begin.e_l0]
  rfl
theorem r7_Begin.ty (c52 : f_strings_Fields.E) (c54 : f_strings_Cut.E) (c55 : sl_Index_string.E) : TyOk Tryz.prog (r7_Begin.C c52 c54 c55) := tyOk_of (by kernel_rfl)
def r7_Begin.u (k : Nat) : r7_Begin.E := fun y => r7_Begin.f (f_strings_Fields.u k) (f_strings_Cut.u k) (sl_Index_string.u k) k 
theorem r7_Begin.sound (k : Nat) : Sound Tryz.prog ⟨27, r7_Begin.A, r7_Begin.R, r7_Begin.u k⟩ := by
  have h := fn_sound (k := k) («as» := r7_Begin.A) (rs := r7_Begin.R) (r7_Begin.ty (f_strings_Fields.u k) (f_strings_Cut.u k) (sl_Index_string.u k)) (fun E h => by
    simp only [r7_Begin.C, List.mem_cons, List.not_mem_nil, or_false] at h
    rcases h with rfl | rfl | rfl
    · exact f_strings_Fields.sound k
    · exact f_strings_Cut.sound k
    · exact sl_Index_string.sound k) mixed Tryz.func27 (by kernel_rfl) (by kernel_rfl)
  have e : fn (r7_Begin.C (f_strings_Fields.u k) (f_strings_Cut.u k) (sl_Index_string.u k)) k Tryz.f27 r7_Begin.A r7_Begin.R = r7_Begin.u k := by
    funext y
    exact r7_Begin.e (f_strings_Fields.u k) (f_strings_Cut.u k) (sl_Index_string.u k) k 
  rw [e] at h
  exact h
/-! ### slices.Equal[[]int,int]: f103 -/
abbrev sl_Equal_int.A : List Sh := [(.d (.sl 3 (.int .i64))), (.d (.sl 3 (.int .i64)))]
abbrev sl_Equal_int.R : List Sh := [(.d .bool)]
abbrev sl_Equal_int.E : Type := ((List (Int)) × (List (Int))) → Option (Bool)
def sl_Equal_int.C  : Ctx := { ty := [(3, (.int .i64)), (32, (.sl 3 (.int .i64)))], nf := [], by_ := [(3, 8)], env := [], spec := [(0, [.d 0 (.sl 3 (.int .i64)), .d 1 (.sl 3 (.int .i64)), .d 12 (.int .i64), .d 13 (.int .i64)])] }
noncomputable def sl_Equal_int.code : Code := Func.code Tryz.f103
noncomputable def sl_Equal_int.fin  := kfin (sl_Equal_int.C ) Tryz.f103 sl_Equal_int.A sl_Equal_int.R
def sl_Equal_int.b  (r_l0 : (List (Int)) → (List (Int)) → (Int) → (Int) → Option (Bool)) (a0 : List (Int)) (a1 : List (Int)) : Option (Bool) :=
  bif (((List.length a0) : Int) != ((List.length a1) : Int)) then
    some false
  else
    r_l0 a0 a1 ((List.length a0) : Int) (0 : Int)
def sl_Equal_int.b_l0  (n_l0 : (List (Int)) → (List (Int)) → (Int) → (Int) → Option (Bool)) (x0 : List (Int)) (x1 : List (Int)) (x12 : Int) (x13 : Int) : Option (Bool) :=
  bif (decide (x13 < x12)) then
    if 0 ≤ x13 ∧ x13 < ((List.length x0) : Int) then
      if 0 ≤ x13 ∧ x13 < ((List.length x1) : Int) then
        bif ((List.getD x0 (Int.toNat x13) (0 : Int)) != (List.getD x1 (Int.toNat x13) (0 : Int))) then
          some false
        else
          n_l0 x0 x1 x12 (IntKind.i64.wrap (x13 + (1 : Int)))
      else none
    else none
  else
    some true
def sl_Equal_int.l0  (k : Nat)  : Nat → (List (Int)) → (List (Int)) → (Int) → (Int) → Option (Bool)
  | 0, _, _, _, _ => none
  | n + 1, x0, x1, x12, x13 => sl_Equal_int.b_l0  (fun x0 x1 x12 x13 => sl_Equal_int.l0  k  n x0 x1 x12 x13) x0 x1 x12 x13
def sl_Equal_int.f  (k : Nat) (a0 : List (Int)) (a1 : List (Int)) : Option (Bool) := sl_Equal_int.b  (sl_Equal_int.l0  k k) a0 a1
noncomputable def sl_Equal_int.M_l0  (k n : Nat)  (s : St) : Option (Bool) := atLoop (sl_Equal_int.C ) k n [1, 1, 0, 1, 0] [] sl_Equal_int.code (sl_Equal_int.fin ) s
noncomputable def sl_Equal_int.fr_l0 (x0 : List (Int)) (x1 : List (Int)) (x12 : Int) (x13 : Int) : St := ⟨(((((List.replicate 26 V.un).set 0 (V.dat (.sl 3 (.int .i64)) x0)).set 1 (V.dat (.sl 3 (.int .i64)) x1)).set 12 (V.dat (.int .i64) x12)).set 13 (V.dat (.int .i64) x13)), []⟩
theorem sl_Equal_int.r  (k : Nat) (a0 : List (Int)) (a1 : List (Int)) : fn (sl_Equal_int.C ) k Tryz.f103 sl_Equal_int.A sl_Equal_int.R (a0, a1) = sl_Equal_int.b  (fun x0 x1 x12 x13 => sl_Equal_int.M_l0  k k  (sl_Equal_int.fr_l0 x0 x1 x12 x13)) a0 a1 := by kernel_rfl
theorem sl_Equal_int.z_l0  (k : Nat)  (s : St) : sl_Equal_int.M_l0  k 0  s = none := by kernel_rfl
theorem sl_Equal_int.r_l0  (k n : Nat)  (x0 : List (Int)) (x1 : List (Int)) (x12 : Int) (x13 : Int) : sl_Equal_int.M_l0  k (n + 1)  (sl_Equal_int.fr_l0 x0 x1 x12 x13) = sl_Equal_int.b_l0  (fun x0 x1 x12 x13 => sl_Equal_int.M_l0  k n  (sl_Equal_int.fr_l0 x0 x1 x12 x13)) x0 x1 x12 x13 := by kernel_rfl
theorem sl_Equal_int.e_l0  (k n : Nat)  (x0 : List (Int)) (x1 : List (Int)) (x12 : Int) (x13 : Int) : sl_Equal_int.M_l0  k n  (sl_Equal_int.fr_l0 x0 x1 x12 x13) = sl_Equal_int.l0  k  n x0 x1 x12 x13 := by
  induction n generalizing x0 x1 x12 x13 with
  | zero => rw [sl_Equal_int.z_l0]; rfl
  | succ n ih =>
    rw [sl_Equal_int.r_l0]
    simp only [ih]
    rfl
theorem sl_Equal_int.e  (k : Nat) (a0 : List (Int)) (a1 : List (Int)) : fn (sl_Equal_int.C ) k Tryz.f103 sl_Equal_int.A sl_Equal_int.R (a0, a1) = sl_Equal_int.f  k a0 a1 := by
  rw [sl_Equal_int.r]
  simp only [sl_Equal_int.e_l0]
  rfl
theorem sl_Equal_int.ty  : TyOk Tryz.prog (sl_Equal_int.C ) := tyOk_of (by kernel_rfl)
def sl_Equal_int.u (k : Nat) : sl_Equal_int.E := fun y => sl_Equal_int.f  k y.1 y.2
theorem sl_Equal_int.sound (k : Nat) : Sound Tryz.prog ⟨103, sl_Equal_int.A, sl_Equal_int.R, sl_Equal_int.u k⟩ := by
  have h := fn_sound (k := k) («as» := sl_Equal_int.A) (rs := sl_Equal_int.R) (sl_Equal_int.ty ) (fun E h => by cases h) mixed Tryz.func103 (by kernel_rfl) (by kernel_rfl)
  have e : fn (sl_Equal_int.C ) k Tryz.f103 sl_Equal_int.A sl_Equal_int.R = sl_Equal_int.u k := by
    funext y
    exact sl_Equal_int.e  k y.1 y.2
  rw [e] at h
  exact h
/-! ### brindlewood/brindlewoodref7.Ints: f78 -/
abbrev r7_Ints.A : List Sh := [(.d (.sl 3 (.int .i64))), (.d (.sl 3 (.int .i64)))]
abbrev r7_Ints.R : List Sh := [(.d .bool)]
abbrev r7_Ints.E : Type := ((List (Int)) × (List (Int))) → Option (Bool)
def r7_Ints.C (c103 : sl_Equal_int.E) : Ctx := { ty := [], nf := [], by_ := [], env := [⟨103, sl_Equal_int.A, sl_Equal_int.R, c103⟩], spec := [] }
noncomputable def r7_Ints.code : Code := Func.code Tryz.f78
noncomputable def r7_Ints.fin (c103 : sl_Equal_int.E) := kfin (r7_Ints.C c103) Tryz.f78 r7_Ints.A r7_Ints.R
def r7_Ints.b (c103 : sl_Equal_int.E)  (a0 : List (Int)) (a1 : List (Int)) : Option (Bool) :=
  (c103 (a0, a1)).bind fun y1 =>
    some y1
def r7_Ints.f (c103 : sl_Equal_int.E) (k : Nat) (a0 : List (Int)) (a1 : List (Int)) : Option (Bool) := r7_Ints.b c103  a0 a1
theorem r7_Ints.r (c103 : sl_Equal_int.E) (k : Nat) (a0 : List (Int)) (a1 : List (Int)) : fn (r7_Ints.C c103) k Tryz.f78 r7_Ints.A r7_Ints.R (a0, a1) = r7_Ints.b c103  a0 a1 := by kernel_rfl
theorem r7_Ints.e (c103 : sl_Equal_int.E) (k : Nat) (a0 : List (Int)) (a1 : List (Int)) : fn (r7_Ints.C c103) k Tryz.f78 r7_Ints.A r7_Ints.R (a0, a1) = r7_Ints.f c103 k a0 a1 := by
  rw [r7_Ints.r]
  rfl
theorem r7_Ints.ty (c103 : sl_Equal_int.E) : TyOk Tryz.prog (r7_Ints.C c103) := tyOk_of (by kernel_rfl)
def r7_Ints.u (k : Nat) : r7_Ints.E := fun y => r7_Ints.f (sl_Equal_int.u k) k y.1 y.2
theorem r7_Ints.sound (k : Nat) : Sound Tryz.prog ⟨78, r7_Ints.A, r7_Ints.R, r7_Ints.u k⟩ := by
  have h := fn_sound (k := k) («as» := r7_Ints.A) (rs := r7_Ints.R) (r7_Ints.ty (sl_Equal_int.u k)) (fun E h => by
    simp only [r7_Ints.C, List.mem_cons, List.not_mem_nil, or_false] at h
    rcases h with rfl
    · exact sl_Equal_int.sound k) mixed Tryz.func78 (by kernel_rfl) (by kernel_rfl)
  have e : fn (r7_Ints.C (sl_Equal_int.u k)) k Tryz.f78 r7_Ints.A r7_Ints.R = r7_Ints.u k := by
    funext y
    exact r7_Ints.e (sl_Equal_int.u k) k y.1 y.2
  rw [e] at h
  exact h
/-! ### slices.Equal[[]string,string]: f104 -/
abbrev sl_Equal_string.A : List Sh := [(.d (.sl 9 .str)), (.d (.sl 9 .str))]
abbrev sl_Equal_string.R : List Sh := [(.d .bool)]
abbrev sl_Equal_string.E : Type := ((List (List UInt8)) × (List (List UInt8))) → Option (Bool)
def sl_Equal_string.C  : Ctx := { ty := [(3, (.int .i64)), (9, .str), (33, (.sl 9 .str))], nf := [], by_ := [(9, 16)], env := [], spec := [(0, [.d 0 (.sl 9 .str), .d 1 (.sl 9 .str), .d 12 (.int .i64), .d 13 (.int .i64)])] }
noncomputable def sl_Equal_string.code : Code := Func.code Tryz.f104
noncomputable def sl_Equal_string.fin  := kfin (sl_Equal_string.C ) Tryz.f104 sl_Equal_string.A sl_Equal_string.R
def sl_Equal_string.b  (r_l0 : (List (List UInt8)) → (List (List UInt8)) → (Int) → (Int) → Option (Bool)) (a0 : List (List UInt8)) (a1 : List (List UInt8)) : Option (Bool) :=
  bif (((List.length a0) : Int) != ((List.length a1) : Int)) then
    some false
  else
    r_l0 a0 a1 ((List.length a0) : Int) (0 : Int)
def sl_Equal_string.b_l0  (n_l0 : (List (List UInt8)) → (List (List UInt8)) → (Int) → (Int) → Option (Bool)) (x0 : List (List UInt8)) (x1 : List (List UInt8)) (x12 : Int) (x13 : Int) : Option (Bool) :=
  bif (decide (x13 < x12)) then
    if 0 ≤ x13 ∧ x13 < ((List.length x0) : Int) then
      if 0 ≤ x13 ∧ x13 < ((List.length x1) : Int) then
        bif ((List.getD x0 (Int.toNat x13) []) != (List.getD x1 (Int.toNat x13) [])) then
          some false
        else
          n_l0 x0 x1 x12 (IntKind.i64.wrap (x13 + (1 : Int)))
      else none
    else none
  else
    some true
def sl_Equal_string.l0  (k : Nat)  : Nat → (List (List UInt8)) → (List (List UInt8)) → (Int) → (Int) → Option (Bool)
  | 0, _, _, _, _ => none
  | n + 1, x0, x1, x12, x13 => sl_Equal_string.b_l0  (fun x0 x1 x12 x13 => sl_Equal_string.l0  k  n x0 x1 x12 x13) x0 x1 x12 x13
def sl_Equal_string.f  (k : Nat) (a0 : List (List UInt8)) (a1 : List (List UInt8)) : Option (Bool) := sl_Equal_string.b  (sl_Equal_string.l0  k k) a0 a1
noncomputable def sl_Equal_string.M_l0  (k n : Nat)  (s : St) : Option (Bool) := atLoop (sl_Equal_string.C ) k n [1, 1, 0, 1, 0] [] sl_Equal_string.code (sl_Equal_string.fin ) s
noncomputable def sl_Equal_string.fr_l0 (x0 : List (List UInt8)) (x1 : List (List UInt8)) (x12 : Int) (x13 : Int) : St := ⟨(((((List.replicate 26 V.un).set 0 (V.dat (.sl 9 .str) x0)).set 1 (V.dat (.sl 9 .str) x1)).set 12 (V.dat (.int .i64) x12)).set 13 (V.dat (.int .i64) x13)), []⟩
theorem sl_Equal_string.r  (k : Nat) (a0 : List (List UInt8)) (a1 : List (List UInt8)) : fn (sl_Equal_string.C ) k Tryz.f104 sl_Equal_string.A sl_Equal_string.R (a0, a1) = sl_Equal_string.b  (fun x0 x1 x12 x13 => sl_Equal_string.M_l0  k k  (sl_Equal_string.fr_l0 x0 x1 x12 x13)) a0 a1 := by kernel_rfl
theorem sl_Equal_string.z_l0  (k : Nat)  (s : St) : sl_Equal_string.M_l0  k 0  s = none := by kernel_rfl
theorem sl_Equal_string.r_l0  (k n : Nat)  (x0 : List (List UInt8)) (x1 : List (List UInt8)) (x12 : Int) (x13 : Int) : sl_Equal_string.M_l0  k (n + 1)  (sl_Equal_string.fr_l0 x0 x1 x12 x13) = sl_Equal_string.b_l0  (fun x0 x1 x12 x13 => sl_Equal_string.M_l0  k n  (sl_Equal_string.fr_l0 x0 x1 x12 x13)) x0 x1 x12 x13 := by kernel_rfl
theorem sl_Equal_string.e_l0  (k n : Nat)  (x0 : List (List UInt8)) (x1 : List (List UInt8)) (x12 : Int) (x13 : Int) : sl_Equal_string.M_l0  k n  (sl_Equal_string.fr_l0 x0 x1 x12 x13) = sl_Equal_string.l0  k  n x0 x1 x12 x13 := by
  induction n generalizing x0 x1 x12 x13 with
  | zero => rw [sl_Equal_string.z_l0]; rfl
  | succ n ih =>
    rw [sl_Equal_string.r_l0]
    simp only [ih]
    rfl
theorem sl_Equal_string.e  (k : Nat) (a0 : List (List UInt8)) (a1 : List (List UInt8)) : fn (sl_Equal_string.C ) k Tryz.f104 sl_Equal_string.A sl_Equal_string.R (a0, a1) = sl_Equal_string.f  k a0 a1 := by
  rw [sl_Equal_string.r]
  simp only [sl_Equal_string.e_l0]
  rfl
theorem sl_Equal_string.ty  : TyOk Tryz.prog (sl_Equal_string.C ) := tyOk_of (by kernel_rfl)
def sl_Equal_string.u (k : Nat) : sl_Equal_string.E := fun y => sl_Equal_string.f  k y.1 y.2
theorem sl_Equal_string.sound (k : Nat) : Sound Tryz.prog ⟨104, sl_Equal_string.A, sl_Equal_string.R, sl_Equal_string.u k⟩ := by
  have h := fn_sound (k := k) («as» := sl_Equal_string.A) (rs := sl_Equal_string.R) (sl_Equal_string.ty ) (fun E h => by cases h) mixed Tryz.func104 (by kernel_rfl) (by kernel_rfl)
  have e : fn (sl_Equal_string.C ) k Tryz.f104 sl_Equal_string.A sl_Equal_string.R = sl_Equal_string.u k := by
    funext y
    exact sl_Equal_string.e  k y.1 y.2
  rw [e] at h
  exact h
/-! ### brindlewood/brindlewoodref7.Strings: f79 -/
abbrev r7_Strings.A : List Sh := [(.d (.sl 9 .str)), (.d (.sl 9 .str))]
abbrev r7_Strings.R : List Sh := [(.d .bool)]
abbrev r7_Strings.E : Type := ((List (List UInt8)) × (List (List UInt8))) → Option (Bool)
def r7_Strings.C (c104 : sl_Equal_string.E) : Ctx := { ty := [], nf := [], by_ := [], env := [⟨104, sl_Equal_string.A, sl_Equal_string.R, c104⟩], spec := [] }
noncomputable def r7_Strings.code : Code := Func.code Tryz.f79
noncomputable def r7_Strings.fin (c104 : sl_Equal_string.E) := kfin (r7_Strings.C c104) Tryz.f79 r7_Strings.A r7_Strings.R
def r7_Strings.b (c104 : sl_Equal_string.E)  (a0 : List (List UInt8)) (a1 : List (List UInt8)) : Option (Bool) :=
  (c104 (a0, a1)).bind fun y1 =>
    some y1
def r7_Strings.f (c104 : sl_Equal_string.E) (k : Nat) (a0 : List (List UInt8)) (a1 : List (List UInt8)) : Option (Bool) := r7_Strings.b c104  a0 a1
theorem r7_Strings.r (c104 : sl_Equal_string.E) (k : Nat) (a0 : List (List UInt8)) (a1 : List (List UInt8)) : fn (r7_Strings.C c104) k Tryz.f79 r7_Strings.A r7_Strings.R (a0, a1) = r7_Strings.b c104  a0 a1 := by kernel_rfl
theorem r7_Strings.e (c104 : sl_Equal_string.E) (k : Nat) (a0 : List (List UInt8)) (a1 : List (List UInt8)) : fn (r7_Strings.C c104) k Tryz.f79 r7_Strings.A r7_Strings.R (a0, a1) = r7_Strings.f c104 k a0 a1 := by
  rw [r7_Strings.r]
  rfl
theorem r7_Strings.ty (c104 : sl_Equal_string.E) : TyOk Tryz.prog (r7_Strings.C c104) := tyOk_of (by kernel_rfl)
def r7_Strings.u (k : Nat) : r7_Strings.E := fun y => r7_Strings.f (sl_Equal_string.u k) k y.1 y.2
theorem r7_Strings.sound (k : Nat) : Sound Tryz.prog ⟨79, r7_Strings.A, r7_Strings.R, r7_Strings.u k⟩ := by
  have h := fn_sound (k := k) («as» := r7_Strings.A) (rs := r7_Strings.R) (r7_Strings.ty (sl_Equal_string.u k)) (fun E h => by
    simp only [r7_Strings.C, List.mem_cons, List.not_mem_nil, or_false] at h
    rcases h with rfl
    · exact sl_Equal_string.sound k) mixed Tryz.func79 (by kernel_rfl) (by kernel_rfl)
  have e : fn (r7_Strings.C (sl_Equal_string.u k)) k Tryz.f79 r7_Strings.A r7_Strings.R = r7_Strings.u k := by
    funext y
    exact r7_Strings.e (sl_Equal_string.u k) k y.1 y.2
  rw [e] at h
  exact h
/-! ### brindlewood/brindlewoodref7.SameValues: f38 -/
abbrev r7_SameValues.A : List Sh := [(.d (.sl 29 Y_Value)), (.d (.sl 29 Y_Value))]
abbrev r7_SameValues.R : List Sh := [(.d .bool)]
abbrev r7_SameValues.E : Type := ((List X_Value) × (List X_Value)) → Option (Bool)
def r7_SameValues.C (c14 : r7_SameValue.E) : Ctx := { ty := [(3, (.int .i64)), (29, Y_Value), (34, (.sl 29 Y_Value))], nf := [], by_ := [(29, 96)], env := [⟨14, r7_SameValue.A, r7_SameValue.R, c14⟩], spec := [(0, [.d 0 (.sl 29 Y_Value), .d 1 (.sl 29 Y_Value), .d 12 (.int .i64), .d 13 (.int .i64)])] }
noncomputable def r7_SameValues.code : Code := Func.code Tryz.f38
noncomputable def r7_SameValues.fin (c14 : r7_SameValue.E) := kfin (r7_SameValues.C c14) Tryz.f38 r7_SameValues.A r7_SameValues.R
def r7_SameValues.b (c14 : r7_SameValue.E) (r_l0 : (List X_Value) → (List X_Value) → (Int) → (Int) → Option (Bool)) (a0 : List X_Value) (a1 : List X_Value) : Option (Bool) :=
  bif (((List.length a0) : Int) != ((List.length a1) : Int)) then
    some false
  else
    r_l0 a0 a1 ((List.length a0) : Int) (0 : Int)
def r7_SameValues.b_l0 (c14 : r7_SameValue.E) (n_l0 : (List X_Value) → (List X_Value) → (Int) → (Int) → Option (Bool)) (x0 : List X_Value) (x1 : List X_Value) (x12 : Int) (x13 : Int) : Option (Bool) :=
  bif (decide (x13 < x12)) then
    if 0 ≤ x13 ∧ x13 < ((List.length x0) : Int) then
      if 0 ≤ x13 ∧ x13 < ((List.length x1) : Int) then
        (c14 ((List.getD x0 (Int.toNat x13) Z_Value), (List.getD x1 (Int.toNat x13) Z_Value))).bind fun y1 =>
          bif (!y1) then
            some false
          else
            n_l0 x0 x1 x12 (IntKind.i64.wrap (x13 + (1 : Int)))
      else none
    else none
  else
    some true
def r7_SameValues.c_l0 (c14 : r7_SameValue.E) (n_l0 : (List X_Value) → (List X_Value) → (Int) → (Int) → Option (Bool)) (x0 : List X_Value) (x1 : List X_Value) (x12 : Int) (x13 : Int) : Option (Bool) :=
  bif (decide (x13 < x12)) then
    if 0 ≤ x13 ∧ x13 < ((List.length x0) : Int) then
      if 0 ≤ x13 ∧ x13 < ((List.length x1) : Int) then
        (c14 ((List.getD x0 (Int.toNat x13) Z_Value), (List.getD x1 (Int.toNat x13) Z_Value))).bind fun y1 =>
          bif !y1 then
            some false
          else
            n_l0 x0 x1 x12 (IntKind.i64.wrap (x13 + (1 : Int)))
      else none
    else none
  else
    some true
theorem r7_SameValues.q_l0 (c14 : r7_SameValue.E) (n_l0 : (List X_Value) → (List X_Value) → (Int) → (Int) → Option (Bool)) (x0 : List X_Value) (x1 : List X_Value) (x12 : Int) (x13 : Int) : r7_SameValues.b_l0 c14 n_l0 x0 x1 x12 x13 = r7_SameValues.c_l0 c14 n_l0 x0 x1 x12 x13 := by
  simp only [r7_SameValues.b_l0, r7_SameValues.c_l0, List.take_length, take_one, Nat.zero_add, Int.toNat_natCast, Int.toNat_zero, List.drop_zero, List.append_eq, Nat.le_refl, Int.le_refl, true_and, and_true, zero_le_one, if_true, prod_eta, Int.natCast_zero]
def r7_SameValues.l0 (c14 : r7_SameValue.E) (k : Nat)  : Nat → (List X_Value) → (List X_Value) → (Int) → (Int) → Option (Bool)
  | 0, _, _, _, _ => none
  | n + 1, x0, x1, x12, x13 => r7_SameValues.b_l0 c14 (fun x0 x1 x12 x13 => r7_SameValues.l0 c14 k  n x0 x1 x12 x13) x0 x1 x12 x13
def r7_SameValues.f (c14 : r7_SameValue.E) (k : Nat) (a0 : List X_Value) (a1 : List X_Value) : Option (Bool) := r7_SameValues.b c14 (r7_SameValues.l0 c14 k k) a0 a1
noncomputable def r7_SameValues.M_l0 (c14 : r7_SameValue.E) (k n : Nat)  (s : St) : Option (Bool) := atLoop (r7_SameValues.C c14) k n [1, 1, 0, 1, 0] [] r7_SameValues.code (r7_SameValues.fin c14) s
noncomputable def r7_SameValues.fr_l0 (x0 : List X_Value) (x1 : List X_Value) (x12 : Int) (x13 : Int) : St := ⟨(((((List.replicate 27 V.un).set 0 (V.dat (.sl 29 Y_Value) x0)).set 1 (V.dat (.sl 29 Y_Value) x1)).set 12 (V.dat (.int .i64) x12)).set 13 (V.dat (.int .i64) x13)), []⟩
theorem r7_SameValues.r (c14 : r7_SameValue.E) (k : Nat) (a0 : List X_Value) (a1 : List X_Value) : fn (r7_SameValues.C c14) k Tryz.f38 r7_SameValues.A r7_SameValues.R (a0, a1) = r7_SameValues.b c14 (fun x0 x1 x12 x13 => r7_SameValues.M_l0 c14 k k  (r7_SameValues.fr_l0 x0 x1 x12 x13)) a0 a1 := by kernel_rfl
theorem r7_SameValues.z_l0 (c14 : r7_SameValue.E) (k : Nat)  (s : St) : r7_SameValues.M_l0 c14 k 0  s = none := by kernel_rfl
theorem r7_SameValues.r_l0 (c14 : r7_SameValue.E) (k n : Nat)  (x0 : List X_Value) (x1 : List X_Value) (x12 : Int) (x13 : Int) : r7_SameValues.M_l0 c14 k (n + 1)  (r7_SameValues.fr_l0 x0 x1 x12 x13) = r7_SameValues.b_l0 c14 (fun x0 x1 x12 x13 => r7_SameValues.M_l0 c14 k n  (r7_SameValues.fr_l0 x0 x1 x12 x13)) x0 x1 x12 x13 := by kernel_rfl
theorem r7_SameValues.e_l0 (c14 : r7_SameValue.E) (k n : Nat)  (x0 : List X_Value) (x1 : List X_Value) (x12 : Int) (x13 : Int) : r7_SameValues.M_l0 c14 k n  (r7_SameValues.fr_l0 x0 x1 x12 x13) = r7_SameValues.l0 c14 k  n x0 x1 x12 x13 := by
  induction n generalizing x0 x1 x12 x13 with
  | zero => rw [r7_SameValues.z_l0]; rfl
  | succ n ih =>
    rw [r7_SameValues.r_l0]
    simp only [ih]
    rfl
theorem r7_SameValues.e (c14 : r7_SameValue.E) (k : Nat) (a0 : List X_Value) (a1 : List X_Value) : fn (r7_SameValues.C c14) k Tryz.f38 r7_SameValues.A r7_SameValues.R (a0, a1) = r7_SameValues.f c14 k a0 a1 := by
  rw [r7_SameValues.r]
  simp only [r7_SameValues.e_l0]
  rfl
theorem r7_SameValues.ty (c14 : r7_SameValue.E) : TyOk Tryz.prog (r7_SameValues.C c14) := tyOk_of (by kernel_rfl)
def r7_SameValues.u (k : Nat) : r7_SameValues.E := fun y => r7_SameValues.f (r7_SameValue.u k) k y.1 y.2
theorem r7_SameValues.sound (k : Nat) : Sound Tryz.prog ⟨38, r7_SameValues.A, r7_SameValues.R, r7_SameValues.u k⟩ := by
  have h := fn_sound (k := k) («as» := r7_SameValues.A) (rs := r7_SameValues.R) (r7_SameValues.ty (r7_SameValue.u k)) (fun E h => by
    simp only [r7_SameValues.C, List.mem_cons, List.not_mem_nil, or_false] at h
    rcases h with rfl
    · exact r7_SameValue.sound k) mixed Tryz.func38 (by kernel_rfl) (by kernel_rfl)
  have e : fn (r7_SameValues.C (r7_SameValue.u k)) k Tryz.f38 r7_SameValues.A r7_SameValues.R = r7_SameValues.u k := by
    funext y
    exact r7_SameValues.e (r7_SameValue.u k) k y.1 y.2
  rw [e] at h
  exact h
/-! ### brindlewood/brindlewoodref7.SameObject: f51 -/
abbrev r7_SameObject.A : List Sh := [(.d Y_Object), (.d Y_Object)]
abbrev r7_SameObject.R : List Sh := [(.d .bool)]
abbrev r7_SameObject.E : Type := (X_Object × X_Object) → Option (Bool)
def r7_SameObject.C (c78 : r7_Ints.E) (c79 : r7_Strings.E) (c38 : r7_SameValues.E) : Ctx := { ty := [(3, (.int .i64)), (9, .str), (32, (.sl 3 (.int .i64))), (33, (.sl 9 .str)), (34, (.sl 29 Y_Value)), (36, Y_Object)], nf := [(36, 10)], by_ := [(3, 8), (9, 16), (29, 96)], env := [⟨78, r7_Ints.A, r7_Ints.R, c78⟩, ⟨79, r7_Strings.A, r7_Strings.R, c79⟩, ⟨38, r7_SameValues.A, r7_SameValues.R, c38⟩], spec := [] }
noncomputable def r7_SameObject.code : Code := Func.code Tryz.f51
noncomputable def r7_SameObject.fin (c78 : r7_Ints.E) (c79 : r7_Strings.E) (c38 : r7_SameValues.E) := kfin (r7_SameObject.C c78 c79 c38) Tryz.f51 r7_SameObject.A r7_SameObject.R
def r7_SameObject.b (c78 : r7_Ints.E) (c79 : r7_Strings.E) (c38 : r7_SameValues.E)  (a0 : X_Object) (a1 : X_Object) : Option (Bool) :=
  bif (a0.1 == a1.1) then
    bif (a0.2.1 == a1.2.1) then
      bif (a0.2.2.1 == a1.2.2.1) then
        bif (a0.2.2.2.2.2.2.2.2.1 == a1.2.2.2.2.2.2.2.2.1) then
          bif (a0.2.2.2.2.2.2.2.2.2 == a1.2.2.2.2.2.2.2.2.2) then
            (c78 (a0.2.2.2.1, a1.2.2.2.1)).bind fun y1 =>
              bif y1 then
                (c78 (a0.2.2.2.2.1, a1.2.2.2.2.1)).bind fun y2 =>
                  bif y2 then
                    (c79 (a0.2.2.2.2.2.1, a1.2.2.2.2.2.1)).bind fun y3 =>
                      bif y3 then
                        (c38 (a0.2.2.2.2.2.2.1, a1.2.2.2.2.2.2.1)).bind fun y4 =>
                          bif y4 then
                            (c38 (a0.2.2.2.2.2.2.2.1, a1.2.2.2.2.2.2.2.1)).bind fun y5 =>
                              some y5
                          else
                            some false
                      else
                        some false
                  else
                    some false
              else
                some false
          else
            some false
        else
          some false
      else
        some false
    else
      some false
  else
    some false
def r7_SameObject.f (c78 : r7_Ints.E) (c79 : r7_Strings.E) (c38 : r7_SameValues.E) (k : Nat) (a0 : X_Object) (a1 : X_Object) : Option (Bool) := r7_SameObject.b c78 c79 c38  a0 a1
theorem r7_SameObject.r (c78 : r7_Ints.E) (c79 : r7_Strings.E) (c38 : r7_SameValues.E) (k : Nat) (a0 : X_Object) (a1 : X_Object) : fn (r7_SameObject.C c78 c79 c38) k Tryz.f51 r7_SameObject.A r7_SameObject.R (a0, a1) = r7_SameObject.b c78 c79 c38  a0 a1 := by kernel_rfl
theorem r7_SameObject.e (c78 : r7_Ints.E) (c79 : r7_Strings.E) (c38 : r7_SameValues.E) (k : Nat) (a0 : X_Object) (a1 : X_Object) : fn (r7_SameObject.C c78 c79 c38) k Tryz.f51 r7_SameObject.A r7_SameObject.R (a0, a1) = r7_SameObject.f c78 c79 c38 k a0 a1 := by
  rw [r7_SameObject.r]
  rfl
theorem r7_SameObject.ty (c78 : r7_Ints.E) (c79 : r7_Strings.E) (c38 : r7_SameValues.E) : TyOk Tryz.prog (r7_SameObject.C c78 c79 c38) := tyOk_of (by kernel_rfl)
def r7_SameObject.u (k : Nat) : r7_SameObject.E := fun y => r7_SameObject.f (r7_Ints.u k) (r7_Strings.u k) (r7_SameValues.u k) k y.1 y.2
theorem r7_SameObject.sound (k : Nat) : Sound Tryz.prog ⟨51, r7_SameObject.A, r7_SameObject.R, r7_SameObject.u k⟩ := by
  have h := fn_sound (k := k) («as» := r7_SameObject.A) (rs := r7_SameObject.R) (r7_SameObject.ty (r7_Ints.u k) (r7_Strings.u k) (r7_SameValues.u k)) (fun E h => by
    simp only [r7_SameObject.C, List.mem_cons, List.not_mem_nil, or_false] at h
    rcases h with rfl | rfl | rfl
    · exact r7_Ints.sound k
    · exact r7_Strings.sound k
    · exact r7_SameValues.sound k) mixed Tryz.func51 (by kernel_rfl) (by kernel_rfl)
  have e : fn (r7_SameObject.C (r7_Ints.u k) (r7_Strings.u k) (r7_SameValues.u k)) k Tryz.f51 r7_SameObject.A r7_SameObject.R = r7_SameObject.u k := by
    funext y
    exact r7_SameObject.e (r7_Ints.u k) (r7_Strings.u k) (r7_SameValues.u k) k y.1 y.2
  rw [e] at h
  exact h
/-! ### brindlewood/brindlewoodref7.used: f86 -/
abbrev r7_used.A : List Sh := [(.d (.int .i64))]
abbrev r7_used.R : List Sh := [(.d .str)]
abbrev r7_used.E : Type := (Int) → Option (List UInt8)
def r7_used.C (c110 : f_strings_Split.E) : Ctx := { ty := [(9, .str), (33, (.sl 9 .str))], nf := [], by_ := [(9, 16)], env := [⟨110, f_strings_Split.A, f_strings_Split.R, c110⟩], spec := [] }
noncomputable def r7_used.code : Code := Func.code Tryz.f86
noncomputable def r7_used.fin (c110 : f_strings_Split.E) := kfin (r7_used.C c110) Tryz.f86 r7_used.A r7_used.R
def r7_used.b (c110 : f_strings_Split.E)  (a0 : Int) : Option (List UInt8) :=
  (c110 ([32, 42, 32, 42, 32, 107, 58, 32, 107, 48, 32, 51, 32, 49, 32, 110, 99, 114, 100, 115, 42, 32, 50, 32, 110, 114, 97, 115, 61, 32, 99, 97, 61, 32, 110, 97, 61, 32, 51, 32, 49, 32, 49, 32, 50, 32, 115, 50, 32, 110, 100, 115, 42, 32, 115, 48, 32, 115, 50, 32, 49], [32])).bind fun y1 =>
    if 0 ≤ a0 ∧ a0 < ((List.length y1) : Int) then
      some (List.getD y1 (Int.toNat a0) [])
    else none
def r7_used.f (c110 : f_strings_Split.E) (k : Nat) (a0 : Int) : Option (List UInt8) := r7_used.b c110  a0
theorem r7_used.r (c110 : f_strings_Split.E) (k : Nat) (a0 : Int) : fn (r7_used.C c110) k Tryz.f86 r7_used.A r7_used.R a0 = r7_used.b c110  a0 := by kernel_rfl
theorem r7_used.e (c110 : f_strings_Split.E) (k : Nat) (a0 : Int) : fn (r7_used.C c110) k Tryz.f86 r7_used.A r7_used.R a0 = r7_used.f c110 k a0 := by
  rw [r7_used.r]
  rfl
theorem r7_used.ty (c110 : f_strings_Split.E) : TyOk Tryz.prog (r7_used.C c110) := tyOk_of (by kernel_rfl)
def r7_used.u (k : Nat) : r7_used.E := fun y => r7_used.f (f_strings_Split.u k) k y
theorem r7_used.sound (k : Nat) : Sound Tryz.prog ⟨86, r7_used.A, r7_used.R, r7_used.u k⟩ := by
  have h := fn_sound (k := k) («as» := r7_used.A) (rs := r7_used.R) (r7_used.ty (f_strings_Split.u k)) (fun E h => by
    simp only [r7_used.C, List.mem_cons, List.not_mem_nil, or_false] at h
    rcases h with rfl
    · exact f_strings_Split.sound k) mixed Tryz.func86 (by kernel_rfl) (by kernel_rfl)
  have e : fn (r7_used.C (f_strings_Split.u k)) k Tryz.f86 r7_used.A r7_used.R = r7_used.u k := by
    funext y
    exact r7_used.e (f_strings_Split.u k) k y
  rw [e] at h
  exact h
/-! ### brindlewood/brindlewoodref7.greatest: f88 -/
abbrev r7_greatest.A : List Sh := [(.d (.int .i64))]
abbrev r7_greatest.R : List Sh := [(.d (.int .i64))]
abbrev r7_greatest.E : Type := (Int) → Option (Int)
def r7_greatest.C  : Ctx := { ty := [(3, (.int .i64))], nf := [], by_ := [], env := [], spec := [] }
noncomputable def r7_greatest.code : Code := Func.code Tryz.f88
noncomputable def r7_greatest.fin  := kfin (r7_greatest.C ) Tryz.f88 r7_greatest.A r7_greatest.R
def r7_greatest.b   (a0 : Int) : Option (Int) :=
  bif (a0 == (7 : Int)) then
    some (1 : Int)
  else
    bif (a0 == (17 : Int)) then
      some (3 : Int)
    else
      bif (a0 == (19 : Int)) then
        some (3 : Int)
      else
        bif (a0 == (16 : Int)) then
          bif (a0 == (16 : Int)) then
            some (1099511627776 : Int)
          else
            bif (a0 == (18 : Int)) then
              some (5000 : Int)
            else
              some (0 : Int)
        else
          bif (a0 == (9 : Int)) then
            some (1099511627776 : Int)
          else
            bif (a0 == (18 : Int)) then
              some (5000 : Int)
            else
              some (0 : Int)
def r7_greatest.f  (k : Nat) (a0 : Int) : Option (Int) := r7_greatest.b   a0
theorem r7_greatest.r  (k : Nat) (a0 : Int) : fn (r7_greatest.C ) k Tryz.f88 r7_greatest.A r7_greatest.R a0 = r7_greatest.b   a0 := by kernel_rfl
theorem r7_greatest.e  (k : Nat) (a0 : Int) : fn (r7_greatest.C ) k Tryz.f88 r7_greatest.A r7_greatest.R a0 = r7_greatest.f  k a0 := by
  rw [r7_greatest.r]
  rfl
theorem r7_greatest.ty  : TyOk Tryz.prog (r7_greatest.C ) := tyOk_of (by kernel_rfl)
def r7_greatest.u (k : Nat) : r7_greatest.E := fun y => r7_greatest.f  k y
theorem r7_greatest.sound (k : Nat) : Sound Tryz.prog ⟨88, r7_greatest.A, r7_greatest.R, r7_greatest.u k⟩ := by
  have h := fn_sound (k := k) («as» := r7_greatest.A) (rs := r7_greatest.R) (r7_greatest.ty ) (fun E h => by cases h) mixed Tryz.func88 (by kernel_rfl) (by kernel_rfl)
  have e : fn (r7_greatest.C ) k Tryz.f88 r7_greatest.A r7_greatest.R = r7_greatest.u k := by
    funext y
    exact r7_greatest.e  k y
  rw [e] at h
  exact h
/-! ### brindlewood/brindlewoodref7.shape: f65 -/
abbrev r7_shape.A : List Sh := [(.d Y_Heap), (.d (.int .i64))]
abbrev r7_shape.R : List Sh := [(.d (.int .i64))]
abbrev r7_shape.E : Type := ((List X_Object) × (Int)) → Option (Int)
def r7_shape.C (c86 : r7_used.E) (c87 : f_strings_Contains.E) (c88 : r7_greatest.E) : Ctx := { ty := [(3, (.int .i64)), (4, .bool), (5, (.int .u8)), (9, .str), (22, (.sl 36 Y_Object)), (24, Y_Heap), (32, (.sl 3 (.int .i64))), (33, (.sl 9 .str)), (34, (.sl 29 Y_Value)), (36, Y_Object), (103, (.sl 4 .bool))], nf := [(24, 1), (36, 10)], by_ := [(3, 8), (4, 1), (9, 16), (29, 96), (36, 168)], env := [⟨86, r7_used.A, r7_used.R, c86⟩, ⟨87, f_strings_Contains.A, f_strings_Contains.R, c87⟩, ⟨88, r7_greatest.A, r7_greatest.R, c88⟩], spec := [(0, [.bx 5 600005 (.d Y_Object), .d 6 .str, .d 7 .str, .o 8 500008 4 .bool, .d 46 (.int .i64), .d 47 (.int .i64)]), (100022, [.bx 5 600005 (.d Y_Object), .d 10 (.int .i64)])] }
noncomputable def r7_shape.code : Code := Func.code Tryz.f65
noncomputable def r7_shape.fin (c86 : r7_used.E) (c87 : f_strings_Contains.E) (c88 : r7_greatest.E) := kfin (r7_shape.C c86 c87 c88) Tryz.f65 r7_shape.A r7_shape.R
def r7_shape.b (c86 : r7_used.E) (c87 : f_strings_Contains.E) (c88 : r7_greatest.E) (r_l0 : X_Object → (List UInt8) → (List UInt8) → (List (Bool)) → (Int) → (Int) → Option (Int)) (a0 : List X_Object) (a1 : Int) : Option (Int) :=
  if 0 ≤ a1 ∧ a1 < ((List.length a0) : Int) then
    (c86 ((List.getD a0 (Int.toNat a1) Z_Object).1)).bind fun y1 =>
      r_l0 (List.getD a0 (Int.toNat a1) Z_Object) y1 [110, 99, 114, 97, 107, 100, 115] (List.take 7 ([((((List.getD a0 (Int.toNat a1) Z_Object).2).1) == []), (((((List.getD a0 (Int.toNat a1) Z_Object).2).2).1) == (0 : Int)), (((List.length (((((List.getD a0 (Int.toNat a1) Z_Object).2).2).2).1)) : Int) == (0 : Int)), (((List.length (((((((List.getD a0 (Int.toNat a1) Z_Object).2).2).2).2).2).1)) : Int) == (0 : Int)), (((List.length (((((((((List.getD a0 (Int.toNat a1) Z_Object).2).2).2).2).2).2).2).1)) : Int) == (0 : Int)), (((((((((((List.getD a0 (Int.toNat a1) Z_Object).2).2).2).2).2).2).2).2).1) == (0 : Int)), (((((((((((List.getD a0 (Int.toNat a1) Z_Object).2).2).2).2).2).2).2).2).2) == (0 : Int))] : List (Bool))) ((7 : Nat) : Int) (0 : Int)
  else none
def r7_shape.b_l0 (c86 : r7_used.E) (c87 : f_strings_Contains.E) (c88 : r7_greatest.E) (n_l0 : X_Object → (List UInt8) → (List UInt8) → (List (Bool)) → (Int) → (Int) → Option (Int)) (r_g22 : X_Object → (Int) → Option (Int)) (x5 : X_Object) (x6 : List UInt8) (x7 : List UInt8) (x8 : List (Bool)) (x46 : Int) (x47 : Int) : Option (Int) :=
  bif (decide (x47 < x46)) then
    if 0 ≤ x47 ∧ x47 < (((List.length x8) : Nat) : Int) then
      bif (!(List.getD x8 (0 + Int.toNat x47) false)) then
        if 0 ≤ x47 ∧ x47 ≤ (IntKind.i64.wrap (x47 + (1 : Int))) ∧ (IntKind.i64.wrap (x47 + (1 : Int))) ≤ ((List.length x7) : Int) then
          (c87 (x6, (List.drop (Int.toNat x47) (List.take (Int.toNat (IntKind.i64.wrap (x47 + (1 : Int)))) x7)))).bind fun y2 =>
            bif (!y2) then
              some (6 : Int)
            else
              n_l0 x5 x6 x7 (List.take (List.length x8) x8) x46 (IntKind.i64.wrap (x47 + (1 : Int)))
        else none
      else
        n_l0 x5 x6 x7 (List.take (List.length x8) x8) x46 (IntKind.i64.wrap (x47 + (1 : Int)))
    else none
  else
    bif (x6 != []) then
      if 0 ≤ (IntKind.i64.wrap (((List.length x6) : Int) - (1 : Int))) ∧ (IntKind.i64.wrap (((List.length x6) : Int) - (1 : Int))) < ((List.length x6) : Int) then
        bif (((List.getD x6 (Int.toNat (IntKind.i64.wrap (((List.length x6) : Int) - (1 : Int)))) 0).toNat : Int) == (42 : Int)) then
          r_g22 x5 ((List.length x5.2.2.2.2.2.2.1) : Int)
        else
          bif (((List.getD x6 (Int.toNat (IntKind.i64.wrap (((List.length x6) : Int) - (1 : Int)))) 0).toNat : Int) == (61 : Int)) then
            r_g22 x5 ((List.length x5.2.2.2.2.2.1) : Int)
          else
            bif (((List.getD x6 (Int.toNat (IntKind.i64.wrap (((List.length x6) : Int) - (1 : Int)))) 0).toNat : Int) == (58 : Int)) then
              r_g22 x5 ((List.length x5.2.2.2.2.2.2.2.1) : Int)
            else
              r_g22 x5 (IntKind.i64.wrap (IntKind.u8.wrap (((List.getD x6 (Int.toNat (IntKind.i64.wrap (((List.length x6) : Int) - (1 : Int)))) 0).toNat : Int) - (48 : Int))))
      else none
    else
      r_g22 x5 (0 : Int)
def r7_shape.b_g22 (c86 : r7_used.E) (c87 : f_strings_Contains.E) (c88 : r7_greatest.E)  (x5 : X_Object) (x10 : Int) : Option (Int) :=
  bif (((List.length x5.2.2.2.2.2.2.1) : Int) != x10) then
    some (6 : Int)
  else
    bif (decide (x5.2.2.2.2.2.2.2.2.1 < (0 : Int))) then
      some (6 : Int)
    else
      bif (decide (x5.2.2.2.2.2.2.2.2.2 < (0 : Int))) then
        some (6 : Int)
      else
        (c88 x5.1).bind fun y3 =>
          bif (decide (x5.2.2.2.2.2.2.2.2.2 > y3)) then
            some (6 : Int)
          else
            bif (x5.1 != (9 : Int)) then
              bif (decide (((List.length x5.2.2.2.2.1) : Int) > (0 : Int))) then
                some (6 : Int)
              else
                some (0 : Int)
            else
              some (0 : Int)
def r7_shape.c (c86 : r7_used.E) (c87 : f_strings_Contains.E) (c88 : r7_greatest.E) (r_l0 : X_Object → (List UInt8) → (List UInt8) → (List (Bool)) → (Int) → (Int) → Option (Int)) (a0 : List X_Object) (a1 : Int) : Option (Int) :=
  if 0 ≤ a1 ∧ a1 < ((List.length a0) : Int) then
    (c86 ((List.getD a0 (Int.toNat a1) Z_Object).1)).bind fun y1 =>
      r_l0 (List.getD a0 (Int.toNat a1) Z_Object) y1 [110, 99, 114, 97, 107, 100, 115] (List.take 7 ([((((List.getD a0 (Int.toNat a1) Z_Object).2).1) == []), (((((List.getD a0 (Int.toNat a1) Z_Object).2).2).1) == (0 : Int)), (((List.length (((((List.getD a0 (Int.toNat a1) Z_Object).2).2).2).1)) : Int) == (0 : Int)), (((List.length (((((((List.getD a0 (Int.toNat a1) Z_Object).2).2).2).2).2).1)) : Int) == (0 : Int)), (((List.length (((((((((List.getD a0 (Int.toNat a1) Z_Object).2).2).2).2).2).2).2).1)) : Int) == (0 : Int)), (((((((((((List.getD a0 (Int.toNat a1) Z_Object).2).2).2).2).2).2).2).2).1) == (0 : Int)), (((((((((((List.getD a0 (Int.toNat a1) Z_Object).2).2).2).2).2).2).2).2).2) == (0 : Int))] : List Bool)) ((7 : Nat) : Int) (0 : Int)
  else none
theorem r7_shape.q (c86 : r7_used.E) (c87 : f_strings_Contains.E) (c88 : r7_greatest.E) (r_l0 : X_Object → (List UInt8) → (List UInt8) → (List (Bool)) → (Int) → (Int) → Option (Int)) (a0 : List X_Object) (a1 : Int) : r7_shape.b c86 c87 c88 r_l0 a0 a1 = r7_shape.c c86 c87 c88 r_l0 a0 a1 := by
  simp only [r7_shape.b, r7_shape.c, List.take_length, take_one, Nat.zero_add, Int.toNat_natCast, Int.toNat_zero, List.drop_zero, List.append_eq, Nat.le_refl, Int.le_refl, true_and, and_true, zero_le_one, if_true, prod_eta, Int.natCast_zero]
def r7_shape.c_l0 (c86 : r7_used.E) (c87 : f_strings_Contains.E) (c88 : r7_greatest.E) (n_l0 : X_Object → (List UInt8) → (List UInt8) → (List (Bool)) → (Int) → (Int) → Option (Int)) (r_g22 : X_Object → (Int) → Option (Int)) (x5 : X_Object) (x6 : List UInt8) (x7 : List UInt8) (x8 : List (Bool)) (x46 : Int) (x47 : Int) : Option (Int) :=
  bif (decide (x47 < x46)) then
    if 0 ≤ x47 ∧ x47 < ((List.length x8) : Int) then
      bif (! (List.getD x8 (0 + Int.toNat x47) false)) then
        if 0 ≤ x47 ∧ x47 ≤ (IntKind.i64.wrap (x47 + (1 : Int))) ∧ (IntKind.i64.wrap (x47 + (1 : Int))) ≤ ((List.length x7) : Int) then
          (c87 (x6, (List.drop (Int.toNat x47) (List.take (Int.toNat (IntKind.i64.wrap (x47 + (1 : Int)))) x7)))).bind fun y2 =>
            bif !y2 then
              some (6 : Int)
            else
              n_l0 x5 x6 x7 x8 x46 (IntKind.i64.wrap (x47 + (1 : Int)))
        else none
      else
        n_l0 x5 x6 x7 x8 x46 (IntKind.i64.wrap (x47 + (1 : Int)))
    else none
  else
    bif (x6 != []) then
      if 0 ≤ (IntKind.i64.wrap (((List.length x6) : Int) - (1 : Int))) ∧ (IntKind.i64.wrap (((List.length x6) : Int) - (1 : Int))) < ((List.length x6) : Int) then
        bif (((List.getD x6 (Int.toNat (IntKind.i64.wrap (((List.length x6) : Int) - (1 : Int)))) 0).toNat : Int) == (42 : Int)) then
          r_g22 x5 ((List.length x5.2.2.2.2.2.2.1) : Int)
        else
          bif (((List.getD x6 (Int.toNat (IntKind.i64.wrap (((List.length x6) : Int) - (1 : Int)))) 0).toNat : Int) == (61 : Int)) then
            r_g22 x5 ((List.length x5.2.2.2.2.2.1) : Int)
          else
            bif (((List.getD x6 (Int.toNat (IntKind.i64.wrap (((List.length x6) : Int) - (1 : Int)))) 0).toNat : Int) == (58 : Int)) then
              r_g22 x5 ((List.length x5.2.2.2.2.2.2.2.1) : Int)
            else
              r_g22 x5 (IntKind.i64.wrap (IntKind.u8.wrap (((List.getD x6 (Int.toNat (IntKind.i64.wrap (((List.length x6) : Int) - (1 : Int)))) 0).toNat : Int) - (48 : Int))))
      else none
    else
      r_g22 x5 (0 : Int)
theorem r7_shape.q_l0 (c86 : r7_used.E) (c87 : f_strings_Contains.E) (c88 : r7_greatest.E) (n_l0 : X_Object → (List UInt8) → (List UInt8) → (List (Bool)) → (Int) → (Int) → Option (Int)) (r_g22 : X_Object → (Int) → Option (Int)) (x5 : X_Object) (x6 : List UInt8) (x7 : List UInt8) (x8 : List (Bool)) (x46 : Int) (x47 : Int) : r7_shape.b_l0 c86 c87 c88 n_l0 r_g22 x5 x6 x7 x8 x46 x47 = r7_shape.c_l0 c86 c87 c88 n_l0 r_g22 x5 x6 x7 x8 x46 x47 := by
  simp only [r7_shape.b_l0, r7_shape.c_l0, List.take_length, take_one, Nat.zero_add, Int.toNat_natCast, Int.toNat_zero, List.drop_zero, List.append_eq, Nat.le_refl, Int.le_refl, true_and, and_true, zero_le_one, if_true, prod_eta, Int.natCast_zero]
def r7_shape.g22 (c86 : r7_used.E) (c87 : f_strings_Contains.E) (c88 : r7_greatest.E) (k : Nat)  (x5 : X_Object) (x10 : Int) : Option (Int) := gate k (r7_shape.b_g22 c86 c87 c88  x5 x10)
def r7_shape.l0 (c86 : r7_used.E) (c87 : f_strings_Contains.E) (c88 : r7_greatest.E) (k : Nat)  : Nat → X_Object → (List UInt8) → (List UInt8) → (List (Bool)) → (Int) → (Int) → Option (Int)
  | 0, _, _, _, _, _, _ => none
  | n + 1, x5, x6, x7, x8, x46, x47 => r7_shape.b_l0 c86 c87 c88 (fun x5 x6 x7 x8 x46 x47 => r7_shape.l0 c86 c87 c88 k  n x5 x6 x7 x8 x46 x47) (r7_shape.g22 c86 c87 c88 k ) x5 x6 x7 x8 x46 x47
def r7_shape.f (c86 : r7_used.E) (c87 : f_strings_Contains.E) (c88 : r7_greatest.E) (k : Nat) (a0 : List X_Object) (a1 : Int) : Option (Int) := r7_shape.b c86 c87 c88 (r7_shape.l0 c86 c87 c88 k k) a0 a1
noncomputable def r7_shape.M_l0 (c86 : r7_used.E) (c87 : f_strings_Contains.E) (c88 : r7_greatest.E) (k n : Nat)  (s : St) : Option (Int) := atLoop (r7_shape.C c86 c87 c88) k n [1, 1, 1, 1, 1, 0, 1, 0] [] r7_shape.code (r7_shape.fin c86 c87 c88) s
noncomputable def r7_shape.fr_l0 (x5 : X_Object) (x6 : List UInt8) (x7 : List UInt8) (x8 : List (Bool)) (x46 : Int) (x47 : Int) : St := ⟨(((((((List.replicate 126 V.un).set 5 (V.bp 600005 0 [])).set 6 (V.dat .str x6)).set 7 (V.dat .str x7)).set 8 (V.ref 500008 0 0 (List.length x8))).set 46 (V.dat (.int .i64) x46)).set 47 (V.dat (.int .i64) x47)), [⟨500008, 0, .arr 4 .bool x8⟩, ⟨600005, 0, .box (V.dat Y_Object x5)⟩]⟩
noncomputable def r7_shape.M_g22 (c86 : r7_used.E) (c87 : f_strings_Contains.E) (c88 : r7_greatest.E) (k : Nat)  (s : St) : Option (Int) := atGate (r7_shape.C c86 c87 c88) k [1, 1, 1, 1, 1, 1, 1, 1, 0, 0] [] r7_shape.code (r7_shape.fin c86 c87 c88) s
noncomputable def r7_shape.fr_g22 (x5 : X_Object) (x10 : Int) : St := ⟨(((List.replicate 126 V.un).set 5 (V.bp 600005 0 [])).set 10 (V.dat (.int .i64) x10)), [⟨600005, 0, .box (V.dat Y_Object x5)⟩]⟩
theorem r7_shape.r (c86 : r7_used.E) (c87 : f_strings_Contains.E) (c88 : r7_greatest.E) (k : Nat) (a0 : List X_Object) (a1 : Int) : fn (r7_shape.C c86 c87 c88) k Tryz.f65 r7_shape.A r7_shape.R (a0, a1) = r7_shape.b c86 c87 c88 (fun x5 x6 x7 x8 x46 x47 => r7_shape.M_l0 c86 c87 c88 k k  (r7_shape.fr_l0 x5 x6 x7 x8 x46 x47)) a0 a1 := by kernel_rfl
theorem r7_shape.z_l0 (c86 : r7_used.E) (c87 : f_strings_Contains.E) (c88 : r7_greatest.E) (k : Nat)  (s : St) : r7_shape.M_l0 c86 c87 c88 k 0  s = none := by kernel_rfl
theorem r7_shape.r_l0 (c86 : r7_used.E) (c87 : f_strings_Contains.E) (c88 : r7_greatest.E) (k n : Nat)  (x5 : X_Object) (x6 : List UInt8) (x7 : List UInt8) (x8 : List (Bool)) (x46 : Int) (x47 : Int) : r7_shape.M_l0 c86 c87 c88 k (n + 1)  (r7_shape.fr_l0 x5 x6 x7 x8 x46 x47) = r7_shape.b_l0 c86 c87 c88 (fun x5 x6 x7 x8 x46 x47 => r7_shape.M_l0 c86 c87 c88 k n  (r7_shape.fr_l0 x5 x6 x7 x8 x46 x47)) (fun x5 x10 => r7_shape.M_g22 c86 c87 c88 k   (r7_shape.fr_g22 x5 x10)) x5 x6 x7 x8 x46 x47 := by kernel_rfl
theorem r7_shape.r_g22 (c86 : r7_used.E) (c87 : f_strings_Contains.E) (c88 : r7_greatest.E) (k : Nat)  (x5 : X_Object) (x10 : Int) : r7_shape.M_g22 c86 c87 c88 k  (r7_shape.fr_g22 x5 x10) = gate k (r7_shape.b_g22 c86 c87 c88  x5 x10) := by kernel_rfl
theorem r7_shape.e_g22 (c86 : r7_used.E) (c87 : f_strings_Contains.E) (c88 : r7_greatest.E) (k : Nat)  (x5 : X_Object) (x10 : Int) : r7_shape.M_g22 c86 c87 c88 k  (r7_shape.fr_g22 x5 x10) = r7_shape.g22 c86 c87 c88 k  x5 x10 := by
  rw [r7_shape.r_g22]
  rfl
theorem r7_shape.e_l0 (c86 : r7_used.E) (c87 : f_strings_Contains.E) (c88 : r7_greatest.E) (k n : Nat)  (x5 : X_Object) (x6 : List UInt8) (x7 : List UInt8) (x8 : List (Bool)) (x46 : Int) (x47 : Int) : r7_shape.M_l0 c86 c87 c88 k n  (r7_shape.fr_l0 x5 x6 x7 x8 x46 x47) = r7_shape.l0 c86 c87 c88 k  n x5 x6 x7 x8 x46 x47 := by
  induction n generalizing x5 x6 x7 x8 x46 x47 with
  | zero => rw [r7_shape.z_l0]; rfl
  | succ n ih =>
    rw [r7_shape.r_l0]
    simp only [r7_shape.e_g22, ih]
    rfl
theorem r7_shape.e (c86 : r7_used.E) (c87 : f_strings_Contains.E) (c88 : r7_greatest.E) (k : Nat) (a0 : List X_Object) (a1 : Int) : fn (r7_shape.C c86 c87 c88) k Tryz.f65 r7_shape.A r7_shape.R (a0, a1) = r7_shape.f c86 c87 c88 k a0 a1 := by
  rw [r7_shape.r]
  simp only [r7_shape.e_l0]
  rfl
theorem r7_shape.ty (c86 : r7_used.E) (c87 : f_strings_Contains.E) (c88 : r7_greatest.E) : TyOk Tryz.prog (r7_shape.C c86 c87 c88) := tyOk_of (by kernel_rfl)
def r7_shape.u (k : Nat) : r7_shape.E := fun y => r7_shape.f (r7_used.u k) (f_strings_Contains.u k) (r7_greatest.u k) k y.1 y.2
theorem r7_shape.sound (k : Nat) : Sound Tryz.prog ⟨65, r7_shape.A, r7_shape.R, r7_shape.u k⟩ := by
  have h := fn_sound (k := k) («as» := r7_shape.A) (rs := r7_shape.R) (r7_shape.ty (r7_used.u k) (f_strings_Contains.u k) (r7_greatest.u k)) (fun E h => by
    simp only [r7_shape.C, List.mem_cons, List.not_mem_nil, or_false] at h
    rcases h with rfl | rfl | rfl
    · exact r7_used.sound k
    · exact f_strings_Contains.sound k
    · exact r7_greatest.sound k) mixed Tryz.func65 (by kernel_rfl) (by kernel_rfl)
  have e : fn (r7_shape.C (r7_used.u k) (f_strings_Contains.u k) (r7_greatest.u k)) k Tryz.f65 r7_shape.A r7_shape.R = r7_shape.u k := by
    funext y
    exact r7_shape.e (r7_used.u k) (f_strings_Contains.u k) (r7_greatest.u k) k y.1 y.2
  rw [e] at h
  exact h
/-! ### brindlewood/brindlewoodref7.sizes: f66 -/
abbrev r7_sizes.A : List Sh := [(.d Y_Heap), (.d (.int .i64))]
abbrev r7_sizes.R : List Sh := [(.d (.int .i64))]
abbrev r7_sizes.E : Type := ((List X_Object) × (Int)) → Option (Int)
def r7_sizes.C (c86 : r7_used.E) (c87 : f_strings_Contains.E) (c24 : r7_NameOk.E) (c89 : r7_DottedOk.E) : Ctx := { ty := [(3, (.int .i64)), (9, .str), (22, (.sl 36 Y_Object)), (24, Y_Heap), (32, (.sl 3 (.int .i64))), (33, (.sl 9 .str)), (34, (.sl 29 Y_Value)), (36, Y_Object)], nf := [(24, 1), (36, 10)], by_ := [(3, 8), (9, 16), (29, 96), (36, 168)], env := [⟨86, r7_used.A, r7_used.R, c86⟩, ⟨87, f_strings_Contains.A, f_strings_Contains.R, c87⟩, ⟨24, r7_NameOk.A, r7_NameOk.R, c24⟩, ⟨89, r7_DottedOk.A, r7_DottedOk.R, c89⟩], spec := [(100008, [.bx 5 600005 (.d Y_Object)])] }
noncomputable def r7_sizes.code : Code := Func.code Tryz.f66
noncomputable def r7_sizes.fin (c86 : r7_used.E) (c87 : f_strings_Contains.E) (c24 : r7_NameOk.E) (c89 : r7_DottedOk.E) := kfin (r7_sizes.C c86 c87 c24 c89) Tryz.f66 r7_sizes.A r7_sizes.R
def r7_sizes.b (c86 : r7_used.E) (c87 : f_strings_Contains.E) (c24 : r7_NameOk.E) (c89 : r7_DottedOk.E) (r_g8 : X_Object → Option (Int)) (a0 : List X_Object) (a1 : Int) : Option (Int) :=
  if 0 ≤ a1 ∧ a1 < ((List.length a0) : Int) then
    (c86 ((List.getD a0 (Int.toNat a1) Z_Object).1)).bind fun y1 =>
      (c87 (y1, [110])).bind fun y2 =>
        bif y2 then
          (c24 (((List.getD a0 (Int.toNat a1) Z_Object).2).1)).bind fun y3 =>
            bif (((List.getD a0 (Int.toNat a1) Z_Object).1) == (11 : Int)) then
              (c89 (((List.getD a0 (Int.toNat a1) Z_Object).2).1)).bind fun y4 =>
                bif (!y4) then
                  some (7 : Int)
                else
                  r_g8 (List.getD a0 (Int.toNat a1) Z_Object)
            else
              bif (!y3) then
                some (7 : Int)
              else
                r_g8 (List.getD a0 (Int.toNat a1) Z_Object)
        else
          r_g8 (List.getD a0 (Int.toNat a1) Z_Object)
  else none
def r7_sizes.b_g8 (c86 : r7_used.E) (c87 : f_strings_Contains.E) (c24 : r7_NameOk.E) (c89 : r7_DottedOk.E)  (x5 : X_Object) : Option (Int) :=
  bif (decide ((if ((List.length x5.2.2.2.1) : Int) > (if ((List.length x5.2.2.2.2.2.2.2.1) : Int) > ((List.length x5.2.2.2.2.2.2.1) : Int) then ((List.length x5.2.2.2.2.2.2.2.1) : Int) else ((List.length x5.2.2.2.2.2.2.1) : Int)) then ((List.length x5.2.2.2.1) : Int) else (if ((List.length x5.2.2.2.2.2.2.2.1) : Int) > ((List.length x5.2.2.2.2.2.2.1) : Int) then ((List.length x5.2.2.2.2.2.2.2.1) : Int) else ((List.length x5.2.2.2.2.2.2.1) : Int))) > (1000 : Int))) then
    some (2 : Int)
  else
    bif (decide (((List.length x5.2.2.2.2.2.1) : Int) > (200 : Int))) then
      some (2 : Int)
    else
      some (0 : Int)
def r7_sizes.c (c86 : r7_used.E) (c87 : f_strings_Contains.E) (c24 : r7_NameOk.E) (c89 : r7_DottedOk.E) (r_g8 : X_Object → Option (Int)) (a0 : List X_Object) (a1 : Int) : Option (Int) :=
  if 0 ≤ a1 ∧ a1 < ((List.length a0) : Int) then
    (c86 ((List.getD a0 (Int.toNat a1) Z_Object).1)).bind fun y1 =>
      (c87 (y1, [110])).bind fun y2 =>
        bif y2 then
          (c24 (((List.getD a0 (Int.toNat a1) Z_Object).2).1)).bind fun y3 =>
            bif (((List.getD a0 (Int.toNat a1) Z_Object).1) == (11 : Int)) then
              (c89 (((List.getD a0 (Int.toNat a1) Z_Object).2).1)).bind fun y4 =>
                bif !y4 then
                  some (7 : Int)
                else
                  r_g8 (List.getD a0 (Int.toNat a1) Z_Object)
            else
              bif !y3 then
                some (7 : Int)
              else
                r_g8 (List.getD a0 (Int.toNat a1) Z_Object)
        else
          r_g8 (List.getD a0 (Int.toNat a1) Z_Object)
  else none
theorem r7_sizes.q (c86 : r7_used.E) (c87 : f_strings_Contains.E) (c24 : r7_NameOk.E) (c89 : r7_DottedOk.E) (r_g8 : X_Object → Option (Int)) (a0 : List X_Object) (a1 : Int) : r7_sizes.b c86 c87 c24 c89 r_g8 a0 a1 = r7_sizes.c c86 c87 c24 c89 r_g8 a0 a1 := by
  simp only [r7_sizes.b, r7_sizes.c, List.take_length, take_one, Nat.zero_add, Int.toNat_natCast, Int.toNat_zero, List.drop_zero, List.append_eq, Nat.le_refl, Int.le_refl, true_and, and_true, zero_le_one, if_true, prod_eta, Int.natCast_zero]
def r7_sizes.g8 (c86 : r7_used.E) (c87 : f_strings_Contains.E) (c24 : r7_NameOk.E) (c89 : r7_DottedOk.E) (k : Nat)  (x5 : X_Object) : Option (Int) := gate k (r7_sizes.b_g8 c86 c87 c24 c89  x5)
def r7_sizes.f (c86 : r7_used.E) (c87 : f_strings_Contains.E) (c24 : r7_NameOk.E) (c89 : r7_DottedOk.E) (k : Nat) (a0 : List X_Object) (a1 : Int) : Option (Int) := r7_sizes.b c86 c87 c24 c89 (r7_sizes.g8 c86 c87 c24 c89 k) a0 a1
noncomputable def r7_sizes.M_g8 (c86 : r7_used.E) (c87 : f_strings_Contains.E) (c24 : r7_NameOk.E) (c89 : r7_DottedOk.E) (k : Nat)  (s : St) : Option (Int) := atGate (r7_sizes.C c86 c87 c24 c89) k [1, 1, 1, 0, 0] [] r7_sizes.code (r7_sizes.fin c86 c87 c24 c89) s
noncomputable def r7_sizes.fr_g8 (x5 : X_Object) : St := ⟨((List.replicate 44 V.un).set 5 (V.bp 600005 0 [])), [⟨600005, 0, .box (V.dat Y_Object x5)⟩]⟩
theorem r7_sizes.r (c86 : r7_used.E) (c87 : f_strings_Contains.E) (c24 : r7_NameOk.E) (c89 : r7_DottedOk.E) (k : Nat) (a0 : List X_Object) (a1 : Int) : fn (r7_sizes.C c86 c87 c24 c89) k Tryz.f66 r7_sizes.A r7_sizes.R (a0, a1) = r7_sizes.b c86 c87 c24 c89 (fun x5 => r7_sizes.M_g8 c86 c87 c24 c89 k   (r7_sizes.fr_g8 x5)) a0 a1 := by kernel_rfl
theorem r7_sizes.r_g8 (c86 : r7_used.E) (c87 : f_strings_Contains.E) (c24 : r7_NameOk.E) (c89 : r7_DottedOk.E) (k : Nat)  (x5 : X_Object) : r7_sizes.M_g8 c86 c87 c24 c89 k  (r7_sizes.fr_g8 x5) = gate k (r7_sizes.b_g8 c86 c87 c24 c89  x5) := by kernel_rfl
theorem r7_sizes.e_g8 (c86 : r7_used.E) (c87 : f_strings_Contains.E) (c24 : r7_NameOk.E) (c89 : r7_DottedOk.E) (k : Nat)  (x5 : X_Object) : r7_sizes.M_g8 c86 c87 c24 c89 k  (r7_sizes.fr_g8 x5) = r7_sizes.g8 c86 c87 c24 c89 k  x5 := by
  rw [r7_sizes.r_g8]
  rfl
theorem r7_sizes.e (c86 : r7_used.E) (c87 : f_strings_Contains.E) (c24 : r7_NameOk.E) (c89 : r7_DottedOk.E) (k : Nat) (a0 : List X_Object) (a1 : Int) : fn (r7_sizes.C c86 c87 c24 c89) k Tryz.f66 r7_sizes.A r7_sizes.R (a0, a1) = r7_sizes.f c86 c87 c24 c89 k a0 a1 := by
  rw [r7_sizes.r]
  simp only [r7_sizes.e_g8]
  rfl
theorem r7_sizes.ty (c86 : r7_used.E) (c87 : f_strings_Contains.E) (c24 : r7_NameOk.E) (c89 : r7_DottedOk.E) : TyOk Tryz.prog (r7_sizes.C c86 c87 c24 c89) := tyOk_of (by kernel_rfl)
def r7_sizes.u (k : Nat) : r7_sizes.E := fun y => r7_sizes.f (r7_used.u k) (f_strings_Contains.u k) (r7_NameOk.u k) (r7_DottedOk.u k) k y.1 y.2
theorem r7_sizes.sound (k : Nat) : Sound Tryz.prog ⟨66, r7_sizes.A, r7_sizes.R, r7_sizes.u k⟩ := by
  have h := fn_sound (k := k) («as» := r7_sizes.A) (rs := r7_sizes.R) (r7_sizes.ty (r7_used.u k) (f_strings_Contains.u k) (r7_NameOk.u k) (r7_DottedOk.u k)) (fun E h => by
    simp only [r7_sizes.C, List.mem_cons, List.not_mem_nil, or_false] at h
    rcases h with rfl | rfl | rfl | rfl
    · exact r7_used.sound k
    · exact f_strings_Contains.sound k
    · exact r7_NameOk.sound k
    · exact r7_DottedOk.sound k) mixed Tryz.func66 (by kernel_rfl) (by kernel_rfl)
  have e : fn (r7_sizes.C (r7_used.u k) (f_strings_Contains.u k) (r7_NameOk.u k) (r7_DottedOk.u k)) k Tryz.f66 r7_sizes.A r7_sizes.R = r7_sizes.u k := by
    funext y
    exact r7_sizes.e (r7_used.u k) (f_strings_Contains.u k) (r7_NameOk.u k) (r7_DottedOk.u k) k y.1 y.2
  rw [e] at h
  exact h
/-! ### slices.Contains[[]string,string]: f112 -/
abbrev sl_Contains_string.A : List Sh := [(.d (.sl 9 .str)), (.d .str)]
abbrev sl_Contains_string.R : List Sh := [(.d .bool)]
abbrev sl_Contains_string.E : Type := ((List (List UInt8)) × (List UInt8)) → Option (Bool)
def sl_Contains_string.C (c55 : sl_Index_string.E) : Ctx := { ty := [(3, (.int .i64))], nf := [], by_ := [], env := [⟨55, sl_Index_string.A, sl_Index_string.R, c55⟩], spec := [] }
noncomputable def sl_Contains_string.code : Code := Func.code Tryz.f112
noncomputable def sl_Contains_string.fin (c55 : sl_Index_string.E) := kfin (sl_Contains_string.C c55) Tryz.f112 sl_Contains_string.A sl_Contains_string.R
def sl_Contains_string.b (c55 : sl_Index_string.E)  (a0 : List (List UInt8)) (a1 : List UInt8) : Option (Bool) :=
  (c55 (a0, a1)).bind fun y1 =>
    some (decide (y1 ≥ (0 : Int)))
def sl_Contains_string.f (c55 : sl_Index_string.E) (k : Nat) (a0 : List (List UInt8)) (a1 : List UInt8) : Option (Bool) := sl_Contains_string.b c55  a0 a1
theorem sl_Contains_string.r (c55 : sl_Index_string.E) (k : Nat) (a0 : List (List UInt8)) (a1 : List UInt8) : fn (sl_Contains_string.C c55) k Tryz.f112 sl_Contains_string.A sl_Contains_string.R (a0, a1) = sl_Contains_string.b c55  a0 a1 := by kernel_rfl
theorem sl_Contains_string.e (c55 : sl_Index_string.E) (k : Nat) (a0 : List (List UInt8)) (a1 : List UInt8) : fn (sl_Contains_string.C c55) k Tryz.f112 sl_Contains_string.A sl_Contains_string.R (a0, a1) = sl_Contains_string.f c55 k a0 a1 := by
  rw [sl_Contains_string.r]
  rfl
theorem sl_Contains_string.ty (c55 : sl_Index_string.E) : TyOk Tryz.prog (sl_Contains_string.C c55) := tyOk_of (by kernel_rfl)
def sl_Contains_string.u (k : Nat) : sl_Contains_string.E := fun y => sl_Contains_string.f (sl_Index_string.u k) k y.1 y.2
theorem sl_Contains_string.sound (k : Nat) : Sound Tryz.prog ⟨112, sl_Contains_string.A, sl_Contains_string.R, sl_Contains_string.u k⟩ := by
  have h := fn_sound (k := k) («as» := sl_Contains_string.A) (rs := sl_Contains_string.R) (sl_Contains_string.ty (sl_Index_string.u k)) (fun E h => by
    simp only [sl_Contains_string.C, List.mem_cons, List.not_mem_nil, or_false] at h
    rcases h with rfl
    · exact sl_Index_string.sound k) mixed Tryz.func112 (by kernel_rfl) (by kernel_rfl)
  have e : fn (sl_Contains_string.C (sl_Index_string.u k)) k Tryz.f112 sl_Contains_string.A sl_Contains_string.R = sl_Contains_string.u k := by
    funext y
    exact sl_Contains_string.e (sl_Index_string.u k) k y.1 y.2
  rw [e] at h
  exact h
/-! ### brindlewood/brindlewoodref7.HasString: f90 -/
abbrev r7_HasString.A : List Sh := [(.d (.sl 9 .str)), (.d .str)]
abbrev r7_HasString.R : List Sh := [(.d .bool)]
abbrev r7_HasString.E : Type := ((List (List UInt8)) × (List UInt8)) → Option (Bool)
def r7_HasString.C (c112 : sl_Contains_string.E) : Ctx := { ty := [], nf := [], by_ := [], env := [⟨112, sl_Contains_string.A, sl_Contains_string.R, c112⟩], spec := [] }
noncomputable def r7_HasString.code : Code := Func.code Tryz.f90
noncomputable def r7_HasString.fin (c112 : sl_Contains_string.E) := kfin (r7_HasString.C c112) Tryz.f90 r7_HasString.A r7_HasString.R
def r7_HasString.b (c112 : sl_Contains_string.E)  (a0 : List (List UInt8)) (a1 : List UInt8) : Option (Bool) :=
  (c112 (a0, a1)).bind fun y1 =>
    some y1
def r7_HasString.f (c112 : sl_Contains_string.E) (k : Nat) (a0 : List (List UInt8)) (a1 : List UInt8) : Option (Bool) := r7_HasString.b c112  a0 a1
theorem r7_HasString.r (c112 : sl_Contains_string.E) (k : Nat) (a0 : List (List UInt8)) (a1 : List UInt8) : fn (r7_HasString.C c112) k Tryz.f90 r7_HasString.A r7_HasString.R (a0, a1) = r7_HasString.b c112  a0 a1 := by kernel_rfl
theorem r7_HasString.e (c112 : sl_Contains_string.E) (k : Nat) (a0 : List (List UInt8)) (a1 : List UInt8) : fn (r7_HasString.C c112) k Tryz.f90 r7_HasString.A r7_HasString.R (a0, a1) = r7_HasString.f c112 k a0 a1 := by
  rw [r7_HasString.r]
  rfl
theorem r7_HasString.ty (c112 : sl_Contains_string.E) : TyOk Tryz.prog (r7_HasString.C c112) := tyOk_of (by kernel_rfl)
def r7_HasString.u (k : Nat) : r7_HasString.E := fun y => r7_HasString.f (sl_Contains_string.u k) k y.1 y.2
theorem r7_HasString.sound (k : Nat) : Sound Tryz.prog ⟨90, r7_HasString.A, r7_HasString.R, r7_HasString.u k⟩ := by
  have h := fn_sound (k := k) («as» := r7_HasString.A) (rs := r7_HasString.R) (r7_HasString.ty (sl_Contains_string.u k)) (fun E h => by
    simp only [r7_HasString.C, List.mem_cons, List.not_mem_nil, or_false] at h
    rcases h with rfl
    · exact sl_Contains_string.sound k) mixed Tryz.func90 (by kernel_rfl) (by kernel_rfl)
  have e : fn (r7_HasString.C (sl_Contains_string.u k)) k Tryz.f90 r7_HasString.A r7_HasString.R = r7_HasString.u k := by
    funext y
    exact r7_HasString.e (sl_Contains_string.u k) k y.1 y.2
  rw [e] at h
  exact h
/-! ### brindlewood/brindlewoodref7.names: f67 -/
abbrev r7_names.A : List Sh := [(.d Y_Heap), (.d (.int .i64))]
abbrev r7_names.R : List Sh := [(.d (.int .i64))]
abbrev r7_names.E : Type := ((List X_Object) × (Int)) → Option (Int)
def r7_names.C (c24 : r7_NameOk.E) (c90 : r7_HasString.E) : Ctx := { ty := [(3, (.int .i64)), (9, .str), (22, (.sl 36 Y_Object)), (24, Y_Heap), (33, (.sl 9 .str)), (36, Y_Object)], nf := [(24, 1), (36, 10)], by_ := [(9, 16), (36, 168)], env := [⟨24, r7_NameOk.A, r7_NameOk.R, c24⟩, ⟨90, r7_HasString.A, r7_HasString.R, c90⟩], spec := [(0, [.d 5 (.sl 9 .str), .d 14 (.sl 9 .str), .d 15 (.int .i64), .d 16 (.int .i64)])] }
noncomputable def r7_names.code : Code := Func.code Tryz.f67
noncomputable def r7_names.fin (c24 : r7_NameOk.E) (c90 : r7_HasString.E) := kfin (r7_names.C c24 c90) Tryz.f67 r7_names.A r7_names.R
def r7_names.b (c24 : r7_NameOk.E) (c90 : r7_HasString.E) (r_l0 : (List (List UInt8)) → (List (List UInt8)) → (Int) → (Int) → Option (Int)) (a0 : List X_Object) (a1 : Int) : Option (Int) :=
  if 0 ≤ a1 ∧ a1 < ((List.length a0) : Int) then
    r_l0 (((((((List.getD a0 (Int.toNat a1) Z_Object).2).2).2).2).2).1) (((((((List.getD a0 (Int.toNat a1) Z_Object).2).2).2).2).2).1) ((List.length (((((((List.getD a0 (Int.toNat a1) Z_Object).2).2).2).2).2).1)) : Int) (0 : Int)
  else none
def r7_names.b_l0 (c24 : r7_NameOk.E) (c90 : r7_HasString.E) (n_l0 : (List (List UInt8)) → (List (List UInt8)) → (Int) → (Int) → Option (Int)) (x5 : List (List UInt8)) (x14 : List (List UInt8)) (x15 : Int) (x16 : Int) : Option (Int) :=
  bif (decide (x16 < x15)) then
    if 0 ≤ x16 ∧ x16 < ((List.length x14) : Int) then
      (c24 (List.getD x14 (Int.toNat x16) [])).bind fun y1 =>
        bif (!y1) then
          some (7 : Int)
        else
          if 0 ≤ (0 : Int) ∧ (0 : Int) ≤ x16 ∧ x16 ≤ ((List.length x5) : Int) then
            (c90 ((List.drop (Int.toNat (0 : Int)) (List.take (Int.toNat x16) x5)), (List.getD x14 (Int.toNat x16) []))).bind fun y2 =>
              bif y2 then
                some (8 : Int)
              else
                n_l0 x5 x14 x15 (IntKind.i64.wrap (x16 + (1 : Int)))
          else none
    else none
  else
    some (0 : Int)
def r7_names.c (c24 : r7_NameOk.E) (c90 : r7_HasString.E) (r_l0 : (List (List UInt8)) → (List (List UInt8)) → (Int) → (Int) → Option (Int)) (a0 : List X_Object) (a1 : Int) : Option (Int) :=
  if 0 ≤ a1 ∧ a1 < ((List.length a0) : Int) then
    r_l0 (((((((List.getD a0 (Int.toNat a1) Z_Object).2).2).2).2).2).1) (((((((List.getD a0 (Int.toNat a1) Z_Object).2).2).2).2).2).1) ((List.length (((((((List.getD a0 (Int.toNat a1) Z_Object).2).2).2).2).2).1)) : Int) (0 : Int)
  else none
theorem r7_names.q (c24 : r7_NameOk.E) (c90 : r7_HasString.E) (r_l0 : (List (List UInt8)) → (List (List UInt8)) → (Int) → (Int) → Option (Int)) (a0 : List X_Object) (a1 : Int) : r7_names.b c24 c90 r_l0 a0 a1 = r7_names.c c24 c90 r_l0 a0 a1 := by
  simp only [r7_names.b, r7_names.c, List.take_length, take_one, Nat.zero_add, Int.toNat_natCast, Int.toNat_zero, List.drop_zero, List.append_eq, Nat.le_refl, Int.le_refl, true_and, and_true, zero_le_one, if_true, prod_eta, Int.natCast_zero]
def r7_names.c_l0 (c24 : r7_NameOk.E) (c90 : r7_HasString.E) (n_l0 : (List (List UInt8)) → (List (List UInt8)) → (Int) → (Int) → Option (Int)) (x5 : List (List UInt8)) (x14 : List (List UInt8)) (x15 : Int) (x16 : Int) : Option (Int) :=
  bif (decide (x16 < x15)) then
    if 0 ≤ x16 ∧ x16 < ((List.length x14) : Int) then
      (c24 (List.getD x14 (Int.toNat x16) [])).bind fun y1 =>
        bif !y1 then
          some (7 : Int)
        else
          if (0 : Int) ≤ x16 ∧ x16 ≤ ((List.length x5) : Int) then
            (c90 ((List.take (Int.toNat x16) x5), (List.getD x14 (Int.toNat x16) []))).bind fun y2 =>
              bif y2 then
                some (8 : Int)
              else
                n_l0 x5 x14 x15 (IntKind.i64.wrap (x16 + (1 : Int)))
          else none
    else none
  else
    some (0 : Int)
theorem r7_names.q_l0 (c24 : r7_NameOk.E) (c90 : r7_HasString.E) (n_l0 : (List (List UInt8)) → (List (List UInt8)) → (Int) → (Int) → Option (Int)) (x5 : List (List UInt8)) (x14 : List (List UInt8)) (x15 : Int) (x16 : Int) : r7_names.b_l0 c24 c90 n_l0 x5 x14 x15 x16 = r7_names.c_l0 c24 c90 n_l0 x5 x14 x15 x16 := by
  simp only [r7_names.b_l0, r7_names.c_l0, List.take_length, take_one, Nat.zero_add, Int.toNat_natCast, Int.toNat_zero, List.drop_zero, List.append_eq, Nat.le_refl, Int.le_refl, true_and, and_true, zero_le_one, if_true, prod_eta, Int.natCast_zero]
def r7_names.l0 (c24 : r7_NameOk.E) (c90 : r7_HasString.E) (k : Nat)  : Nat → (List (List UInt8)) → (List (List UInt8)) → (Int) → (Int) → Option (Int)
  | 0, _, _, _, _ => none
  | n + 1, x5, x14, x15, x16 => r7_names.b_l0 c24 c90 (fun x5 x14 x15 x16 => r7_names.l0 c24 c90 k  n x5 x14 x15 x16) x5 x14 x15 x16
def r7_names.f (c24 : r7_NameOk.E) (c90 : r7_HasString.E) (k : Nat) (a0 : List X_Object) (a1 : Int) : Option (Int) := r7_names.b c24 c90 (r7_names.l0 c24 c90 k k) a0 a1
noncomputable def r7_names.M_l0 (c24 : r7_NameOk.E) (c90 : r7_HasString.E) (k n : Nat)  (s : St) : Option (Int) := atLoop (r7_names.C c24 c90) k n [1, 1, 0, 1, 0] [] r7_names.code (r7_names.fin c24 c90) s
noncomputable def r7_names.fr_l0 (x5 : List (List UInt8)) (x14 : List (List UInt8)) (x15 : Int) (x16 : Int) : St := ⟨(((((List.replicate 30 V.un).set 5 (V.dat (.sl 9 .str) x5)).set 14 (V.dat (.sl 9 .str) x14)).set 15 (V.dat (.int .i64) x15)).set 16 (V.dat (.int .i64) x16)), []⟩
theorem r7_names.r (c24 : r7_NameOk.E) (c90 : r7_HasString.E) (k : Nat) (a0 : List X_Object) (a1 : Int) : fn (r7_names.C c24 c90) k Tryz.f67 r7_names.A r7_names.R (a0, a1) = r7_names.b c24 c90 (fun x5 x14 x15 x16 => r7_names.M_l0 c24 c90 k k  (r7_names.fr_l0 x5 x14 x15 x16)) a0 a1 := by kernel_rfl
theorem r7_names.z_l0 (c24 : r7_NameOk.E) (c90 : r7_HasString.E) (k : Nat)  (s : St) : r7_names.M_l0 c24 c90 k 0  s = none := by kernel_rfl
theorem r7_names.r_l0 (c24 : r7_NameOk.E) (c90 : r7_HasString.E) (k n : Nat)  (x5 : List (List UInt8)) (x14 : List (List UInt8)) (x15 : Int) (x16 : Int) : r7_names.M_l0 c24 c90 k (n + 1)  (r7_names.fr_l0 x5 x14 x15 x16) = r7_names.b_l0 c24 c90 (fun x5 x14 x15 x16 => r7_names.M_l0 c24 c90 k n  (r7_names.fr_l0 x5 x14 x15 x16)) x5 x14 x15 x16 := by kernel_rfl
theorem r7_names.e_l0 (c24 : r7_NameOk.E) (c90 : r7_HasString.E) (k n : Nat)  (x5 : List (List UInt8)) (x14 : List (List UInt8)) (x15 : Int) (x16 : Int) : r7_names.M_l0 c24 c90 k n  (r7_names.fr_l0 x5 x14 x15 x16) = r7_names.l0 c24 c90 k  n x5 x14 x15 x16 := by
  induction n generalizing x5 x14 x15 x16 with
  | zero => rw [r7_names.z_l0]; rfl
  | succ n ih =>
    rw [r7_names.r_l0]
    simp only [ih]
    rfl
theorem r7_names.e (c24 : r7_NameOk.E) (c90 : r7_HasString.E) (k : Nat) (a0 : List X_Object) (a1 : Int) : fn (r7_names.C c24 c90) k Tryz.f67 r7_names.A r7_names.R (a0, a1) = r7_names.f c24 c90 k a0 a1 := by
  rw [r7_names.r]
  simp only [r7_names.e_l0]
  rfl
theorem r7_names.ty (c24 : r7_NameOk.E) (c90 : r7_HasString.E) : TyOk Tryz.prog (r7_names.C c24 c90) := tyOk_of (by kernel_rfl)
def r7_names.u (k : Nat) : r7_names.E := fun y => r7_names.f (r7_NameOk.u k) (r7_HasString.u k) k y.1 y.2
theorem r7_names.sound (k : Nat) : Sound Tryz.prog ⟨67, r7_names.A, r7_names.R, r7_names.u k⟩ := by
  have h := fn_sound (k := k) («as» := r7_names.A) (rs := r7_names.R) (r7_names.ty (r7_NameOk.u k) (r7_HasString.u k)) (fun E h => by
    simp only [r7_names.C, List.mem_cons, List.not_mem_nil, or_false] at h
    rcases h with rfl | rfl
    · exact r7_NameOk.sound k
    · exact r7_HasString.sound k) mixed Tryz.func67 (by kernel_rfl) (by kernel_rfl)
  have e : fn (r7_names.C (r7_NameOk.u k) (r7_HasString.u k)) k Tryz.f67 r7_names.A r7_names.R = r7_names.u k := by
    funext y
    exact r7_names.e (r7_NameOk.u k) (r7_HasString.u k) k y.1 y.2
  rw [e] at h
  exact h
/-! ### slices.Clone[[]brindlewood/api.Value,brindlewood/api.Value]: f72 -/
abbrev sl_Clone_Value.A : List Sh := [(.d (.sl 29 Y_Value))]
abbrev sl_Clone_Value.R : List Sh := [(.o 29 Y_Value)]
abbrev sl_Clone_Value.E : Type := (List X_Value) → Option (List X_Value)
def sl_Clone_Value.C  : Ctx := { ty := [(34, (.sl 29 Y_Value))], nf := [], by_ := [(29, 96)], env := [], spec := [] }
noncomputable def sl_Clone_Value.code : Code := Func.code Tryz.f72
noncomputable def sl_Clone_Value.fin  := kfin (sl_Clone_Value.C ) Tryz.f72 sl_Clone_Value.A sl_Clone_Value.R
def sl_Clone_Value.b   (a0 : List X_Value) : Option (List X_Value) :=
  if 0 < (List.length a0) then
    if 0 ≤ (List.length ([] : List X_Value)) ∧ (0 + (List.length a0)) * 96 ≤ LIM then
      some (List.take (List.length (List.append (List.take 0 ([] : List X_Value)) a0)) (List.append (List.take 0 ([] : List X_Value)) a0))
    else none
  else
    agree
      (some ([] : List X_Value))
      (if 0 ≤ (List.length ([] : List X_Value)) ∧ (0 + (List.length a0)) * 96 ≤ LIM then
          some (List.take (List.length (List.append (List.take 0 ([] : List X_Value)) a0)) (List.append (List.take 0 ([] : List X_Value)) a0))
        else none)
def sl_Clone_Value.f  (k : Nat) (a0 : List X_Value) : Option (List X_Value) := sl_Clone_Value.b   a0
theorem sl_Clone_Value.r  (k : Nat) (a0 : List X_Value) : fn (sl_Clone_Value.C ) k Tryz.f72 sl_Clone_Value.A sl_Clone_Value.R a0 = sl_Clone_Value.b   a0 := by kernel_rfl
theorem sl_Clone_Value.e  (k : Nat) (a0 : List X_Value) : fn (sl_Clone_Value.C ) k Tryz.f72 sl_Clone_Value.A sl_Clone_Value.R a0 = sl_Clone_Value.f  k a0 := by
  rw [sl_Clone_Value.r]
  rfl
theorem sl_Clone_Value.ty  : TyOk Tryz.prog (sl_Clone_Value.C ) := tyOk_of (by kernel_rfl)
def sl_Clone_Value.u (k : Nat) : sl_Clone_Value.E := fun y => sl_Clone_Value.f  k y
theorem sl_Clone_Value.sound (k : Nat) : Sound Tryz.prog ⟨72, sl_Clone_Value.A, sl_Clone_Value.R, sl_Clone_Value.u k⟩ := by
  have h := fn_sound (k := k) («as» := sl_Clone_Value.A) (rs := sl_Clone_Value.R) (sl_Clone_Value.ty ) (fun E h => by cases h) mixed Tryz.func72 (by kernel_rfl) (by kernel_rfl)
  have e : fn (sl_Clone_Value.C ) k Tryz.f72 sl_Clone_Value.A sl_Clone_Value.R = sl_Clone_Value.u k := by
    funext y
    exact sl_Clone_Value.e  k y
  rw [e] at h
  exact h
/-! ### brindlewood/brindlewoodref7.IsObject: f7 -/
abbrev r7_IsObject.A : List Sh := [(.d Y_Heap), (.d (.int .i64))]
abbrev r7_IsObject.R : List Sh := [(.d .bool)]
abbrev r7_IsObject.E : Type := ((List X_Object) × (Int)) → Option (Bool)
def r7_IsObject.C  : Ctx := { ty := [(3, (.int .i64)), (22, (.sl 36 Y_Object)), (24, Y_Heap), (36, Y_Object)], nf := [(24, 1), (36, 10)], by_ := [(36, 168)], env := [], spec := [] }
noncomputable def r7_IsObject.code : Code := Func.code Tryz.f7
noncomputable def r7_IsObject.fin  := kfin (r7_IsObject.C ) Tryz.f7 r7_IsObject.A r7_IsObject.R
def r7_IsObject.b   (a0 : List X_Object) (a1 : Int) : Option (Bool) :=
  bif (decide (a1 ≥ (0 : Int))) then
    bif (decide (a1 < ((List.length a0) : Int))) then
      if 0 ≤ a1 ∧ a1 < ((List.length a0) : Int) then
        some (((List.getD a0 (Int.toNat a1) Z_Object).1) != (0 : Int))
      else none
    else
      some false
  else
    some false
def r7_IsObject.c   (a0 : List X_Object) (a1 : Int) : Option (Bool) :=
  bif (decide (a1 ≥ (0 : Int))) then
    bif (decide (a1 < ((List.length a0) : Int))) then
      if 0 ≤ a1 ∧ a1 < ((List.length a0) : Int) then
        some (((List.getD a0 (Int.toNat a1) Z_Object).1) != (0 : Int))
      else none
    else
      some false
  else
    some false
theorem r7_IsObject.q   (a0 : List X_Object) (a1 : Int) : r7_IsObject.b  a0 a1 = r7_IsObject.c  a0 a1 := by
  simp only [r7_IsObject.b, r7_IsObject.c, List.take_length, take_one, Nat.zero_add, Int.toNat_natCast, Int.toNat_zero, List.drop_zero, List.append_eq, Nat.le_refl, Int.le_refl, true_and, and_true, zero_le_one, if_true, prod_eta, Int.natCast_zero]
def r7_IsObject.f  (k : Nat) (a0 : List X_Object) (a1 : Int) : Option (Bool) := r7_IsObject.b   a0 a1
theorem r7_IsObject.r  (k : Nat) (a0 : List X_Object) (a1 : Int) : fn (r7_IsObject.C ) k Tryz.f7 r7_IsObject.A r7_IsObject.R (a0, a1) = r7_IsObject.b   a0 a1 := by kernel_rfl
theorem r7_IsObject.e  (k : Nat) (a0 : List X_Object) (a1 : Int) : fn (r7_IsObject.C ) k Tryz.f7 r7_IsObject.A r7_IsObject.R (a0, a1) = r7_IsObject.f  k a0 a1 := by
  rw [r7_IsObject.r]
  rfl
theorem r7_IsObject.ty  : TyOk Tryz.prog (r7_IsObject.C ) := tyOk_of (by kernel_rfl)
def r7_IsObject.u (k : Nat) : r7_IsObject.E := fun y => r7_IsObject.f  k y.1 y.2
theorem r7_IsObject.sound (k : Nat) : Sound Tryz.prog ⟨7, r7_IsObject.A, r7_IsObject.R, r7_IsObject.u k⟩ := by
  have h := fn_sound (k := k) («as» := r7_IsObject.A) (rs := r7_IsObject.R) (r7_IsObject.ty ) (fun E h => by cases h) mixed Tryz.func7 (by kernel_rfl) (by kernel_rfl)
  have e : fn (r7_IsObject.C ) k Tryz.f7 r7_IsObject.A r7_IsObject.R = r7_IsObject.u k := by
    funext y
    exact r7_IsObject.e  k y.1 y.2
  rw [e] at h
  exact h
/-! ### brindlewood/brindlewoodref7.values: f68 -/
abbrev r7_values.A : List Sh := [(.d Y_Heap), (.d (.int .i64))]
abbrev r7_values.R : List Sh := [(.d (.int .i64))]
abbrev r7_values.E : Type := ((List X_Object) × (Int)) → Option (Int)
def r7_values.C (c72 : sl_Clone_Value.E) (c73 : r7_ValueOk.E) (c7 : r7_IsObject.E) : Ctx := { ty := [(3, (.int .i64)), (22, (.sl 36 Y_Object)), (24, Y_Heap), (29, Y_Value), (32, (.sl 3 (.int .i64))), (34, (.sl 29 Y_Value)), (36, Y_Object)], nf := [(24, 1), (29, 5), (36, 10)], by_ := [(3, 8), (29, 96), (36, 168)], env := [⟨72, sl_Clone_Value.A, sl_Clone_Value.R, c72⟩, ⟨73, r7_ValueOk.A, r7_ValueOk.R, c73⟩, ⟨7, r7_IsObject.A, r7_IsObject.R, c7⟩], spec := [(0, [.bx 2 600002 (.d Y_Heap), .bx 5 600005 (.d Y_Object), .o 6 500006 29 Y_Value, .al 25 6, .d 26 (.int .i64), .d 27 (.int .i64)]), (2, [.bx 2 600002 (.d Y_Heap), .bx 5 600005 (.d Y_Object), .o 9 500009 3 (.int .i64), .o 58 500058 29 Y_Value, .d 59 (.int .i64), .d 60 (.int .i64)]), (4, [.bx 2 600002 (.d Y_Heap), .o 87 500087 3 (.int .i64), .d 88 (.int .i64), .d 89 (.int .i64)])] }
noncomputable def r7_values.code : Code := Func.code Tryz.f68
noncomputable def r7_values.fin (c72 : sl_Clone_Value.E) (c73 : r7_ValueOk.E) (c7 : r7_IsObject.E) := kfin (r7_values.C c72 c73 c7) Tryz.f68 r7_values.A r7_values.R
def r7_values.b (c72 : sl_Clone_Value.E) (c73 : r7_ValueOk.E) (c7 : r7_IsObject.E) (r_l0 : (List X_Object) → X_Object → (List X_Value) → (Int) → (Int) → Option (Int)) (a0 : List X_Object) (a1 : Int) : Option (Int) :=
  if 0 ≤ a1 ∧ a1 < ((List.length a0) : Int) then
    (c72 (((((((((List.getD a0 (Int.toNat a1) Z_Object).2).2).2).2).2).2).2).1)).bind fun y1 =>
      if (List.length y1) ≤ (List.length y1) ∧ ((List.length y1) + (List.length ((((((((List.getD a0 (Int.toNat a1) Z_Object).2).2).2).2).2).2).1))) * 96 ≤ LIM then
        if (List.length (List.append (List.take (List.length y1) y1) ((((((((List.getD a0 (Int.toNat a1) Z_Object).2).2).2).2).2).2).1))) = (List.length (List.append (List.take (List.length y1) y1) ((((((((List.getD a0 (Int.toNat a1) Z_Object).2).2).2).2).2).2).1))) then
          r_l0 a0 (List.getD a0 (Int.toNat a1) Z_Object) (List.take (List.length (List.append (List.take (List.length y1) y1) ((((((((List.getD a0 (Int.toNat a1) Z_Object).2).2).2).2).2).2).1))) (List.append (List.take (List.length y1) y1) ((((((((List.getD a0 (Int.toNat a1) Z_Object).2).2).2).2).2).2).1))) (((List.length (List.append (List.take (List.length y1) y1) ((((((((List.getD a0 (Int.toNat a1) Z_Object).2).2).2).2).2).2).1))) : Nat) : Int) (0 : Int)
        else none
      else none
  else none
def r7_values.b_l0 (c72 : sl_Clone_Value.E) (c73 : r7_ValueOk.E) (c7 : r7_IsObject.E) (n_l0 : (List X_Object) → X_Object → (List X_Value) → (Int) → (Int) → Option (Int)) (r_l2 : (List X_Object) → X_Object → (List (Int)) → (List X_Value) → (Int) → (Int) → Option (Int)) (x2 : List X_Object) (x5 : X_Object) (x6 : List X_Value) (x26 : Int) (x27 : Int) : Option (Int) :=
  bif (decide (x27 < x26)) then
    if 0 ≤ x27 ∧ x27 < (((List.length x6) : Nat) : Int) then
      bif (((List.getD x6 (0 + Int.toNat x27) Z_Value).1) == (9 : Int)) then
        bif (x5.1 == (6 : Int)) then
          (c73 ((0 : Int), (List.getD x6 (0 + Int.toNat x27) Z_Value).2)).bind fun y2 =>
            bif (!y2) then
              some (6 : Int)
            else
              if (List.length x6) = (List.length x6) then
                n_l0 x2 x5 (List.take (List.length x6) x6) x26 (IntKind.i64.wrap (x27 + (1 : Int)))
              else none
        else
          bif (x5.1 == (17 : Int)) then
            (c73 ((0 : Int), (List.getD x6 (0 + Int.toNat x27) Z_Value).2)).bind fun y3 =>
              bif (!y3) then
                some (6 : Int)
              else
                if (List.length x6) = (List.length x6) then
                  n_l0 x2 x5 (List.take (List.length x6) x6) x26 (IntKind.i64.wrap (x27 + (1 : Int)))
                else none
          else
            (c73 (List.getD x6 (0 + Int.toNat x27) Z_Value)).bind fun y4 =>
              bif (!y4) then
                some (6 : Int)
              else
                if (List.length x6) = (List.length x6) then
                  n_l0 x2 x5 (List.take (List.length x6) x6) x26 (IntKind.i64.wrap (x27 + (1 : Int)))
                else none
      else
        (c73 (List.getD x6 (0 + Int.toNat x27) Z_Value)).bind fun y5 =>
          bif (!y5) then
            some (6 : Int)
          else
            if (List.length x6) = (List.length x6) then
              n_l0 x2 x5 (List.take (List.length x6) x6) x26 (IntKind.i64.wrap (x27 + (1 : Int)))
            else none
    else none
  else
    if 1 ≤ (List.length ([x5.2.2.1] : List (Int))) ∧ (1 + (List.length x5.2.2.2.1)) * 8 ≤ LIM then
      if (List.length (List.append (List.take 1 ([x5.2.2.1] : List (Int))) x5.2.2.2.1)) ≤ (List.length (List.append (List.take 1 ([x5.2.2.1] : List (Int))) x5.2.2.2.1)) ∧ ((List.length (List.append (List.take 1 ([x5.2.2.1] : List (Int))) x5.2.2.2.1)) + (List.length x5.2.2.2.2.1)) * 8 ≤ LIM then
        r_l2 x2 x5 (List.take (List.length (List.append (List.take (List.length (List.append (List.take 1 ([x5.2.2.1] : List (Int))) x5.2.2.2.1)) (List.append (List.take 1 ([x5.2.2.1] : List (Int))) x5.2.2.2.1)) x5.2.2.2.2.1)) (List.append (List.take (List.length (List.append (List.take 1 ([x5.2.2.1] : List (Int))) x5.2.2.2.1)) (List.append (List.take 1 ([x5.2.2.1] : List (Int))) x5.2.2.2.1)) x5.2.2.2.2.1)) (List.take (List.length x6) x6) (((List.length x6) : Nat) : Int) (0 : Int)
      else none
    else none
def r7_values.b_l2 (c72 : sl_Clone_Value.E) (c73 : r7_ValueOk.E) (c7 : r7_IsObject.E) (n_l2 : (List X_Object) → X_Object → (List (Int)) → (List X_Value) → (Int) → (Int) → Option (Int)) (r_l4 : (List X_Object) → (List (Int)) → (Int) → (Int) → Option (Int)) (x2 : List X_Object) (x5 : X_Object) (x9 : List (Int)) (x58 : List X_Value) (x59 : Int) (x60 : Int) : Option (Int) :=
  bif (decide (x60 < x59)) then
    if 0 ≤ x60 ∧ x60 < (((List.length x58) : Nat) : Int) then
      bif (((List.getD x58 (0 + Int.toNat x60) Z_Value).1) == (6 : Int)) then
        if (List.length x9) ≤ (List.length x9) ∧ ((List.length x9) + (List.length (List.take 1 ([((((List.getD x58 (0 + Int.toNat x60) Z_Value).2).2).2).2] : List (Int))))) * 8 ≤ LIM then
          n_l2 x2 x5 (List.take (List.length (List.append (List.take (List.length x9) x9) (List.take 1 ([((((List.getD x58 (0 + Int.toNat x60) Z_Value).2).2).2).2] : List (Int))))) (List.append (List.take (List.length x9) x9) (List.take 1 ([((((List.getD x58 (0 + Int.toNat x60) Z_Value).2).2).2).2] : List (Int))))) (List.take (List.length x58) x58) x59 (IntKind.i64.wrap (x60 + (1 : Int)))
        else none
      else
        n_l2 x2 x5 (List.take (List.length x9) x9) (List.take (List.length x58) x58) x59 (IntKind.i64.wrap (x60 + (1 : Int)))
    else none
  else
    bif (x5.1 == (18 : Int)) then
      bif (x5.2.2.2.2.2.2.2.2.2 != (0 : Int)) then
        if (List.length x9) ≤ (List.length x9) ∧ ((List.length x9) + (List.length (List.take 1 ([(IntKind.i64.wrap (x5.2.2.2.2.2.2.2.2.2 - (1 : Int)))] : List (Int))))) * 8 ≤ LIM then
          r_l4 x2 (List.take (List.length (List.append (List.take (List.length x9) x9) (List.take 1 ([(IntKind.i64.wrap (x5.2.2.2.2.2.2.2.2.2 - (1 : Int)))] : List (Int))))) (List.append (List.take (List.length x9) x9) (List.take 1 ([(IntKind.i64.wrap (x5.2.2.2.2.2.2.2.2.2 - (1 : Int)))] : List (Int))))) (((List.length (List.append (List.take (List.length x9) x9) (List.take 1 ([(IntKind.i64.wrap (x5.2.2.2.2.2.2.2.2.2 - (1 : Int)))] : List (Int))))) : Nat) : Int) (0 : Int)
        else none
      else
        r_l4 x2 (List.take (List.length x9) x9) (((List.length x9) : Nat) : Int) (0 : Int)
    else
      r_l4 x2 (List.take (List.length x9) x9) (((List.length x9) : Nat) : Int) (0 : Int)
def r7_values.b_l4 (c72 : sl_Clone_Value.E) (c73 : r7_ValueOk.E) (c7 : r7_IsObject.E) (n_l4 : (List X_Object) → (List (Int)) → (Int) → (Int) → Option (Int)) (x2 : List X_Object) (x87 : List (Int)) (x88 : Int) (x89 : Int) : Option (Int) :=
  bif (decide (x89 < x88)) then
    if 0 ≤ x89 ∧ x89 < (((List.length x87) : Nat) : Int) then
      (c7 (x2, (List.getD x87 (0 + Int.toNat x89) (0 : Int)))).bind fun y6 =>
        bif (!y6) then
          some (4 : Int)
        else
          n_l4 x2 (List.take (List.length x87) x87) x88 (IntKind.i64.wrap (x89 + (1 : Int)))
    else none
  else
    some (0 : Int)
def r7_values.c (c72 : sl_Clone_Value.E) (c73 : r7_ValueOk.E) (c7 : r7_IsObject.E) (r_l0 : (List X_Object) → X_Object → (List X_Value) → (Int) → (Int) → Option (Int)) (a0 : List X_Object) (a1 : Int) : Option (Int) :=
  if 0 ≤ a1 ∧ a1 < ((List.length a0) : Int) then
    (c72 (((((((((List.getD a0 (Int.toNat a1) Z_Object).2).2).2).2).2).2).2).1)).bind fun y1 =>
      if ((List.length y1) + (List.length ((((((((List.getD a0 (Int.toNat a1) Z_Object).2).2).2).2).2).2).1))) * 96 ≤ LIM then
        r_l0 a0 (List.getD a0 (Int.toNat a1) Z_Object) (y1 ++ ((((((((List.getD a0 (Int.toNat a1) Z_Object).2).2).2).2).2).2).1)) ((List.length (y1 ++ ((((((((List.getD a0 (Int.toNat a1) Z_Object).2).2).2).2).2).2).1))) : Int) (0 : Int)
      else none
  else none
theorem r7_values.q (c72 : sl_Clone_Value.E) (c73 : r7_ValueOk.E) (c7 : r7_IsObject.E) (r_l0 : (List X_Object) → X_Object → (List X_Value) → (Int) → (Int) → Option (Int)) (a0 : List X_Object) (a1 : Int) : r7_values.b c72 c73 c7 r_l0 a0 a1 = r7_values.c c72 c73 c7 r_l0 a0 a1 := by
  simp only [r7_values.b, r7_values.c, List.take_length, take_one, Nat.zero_add, Int.toNat_natCast, Int.toNat_zero, List.drop_zero, List.append_eq, Nat.le_refl, Int.le_refl, true_and, and_true, zero_le_one, if_true, prod_eta, Int.natCast_zero]
def r7_values.c_l0 (c72 : sl_Clone_Value.E) (c73 : r7_ValueOk.E) (c7 : r7_IsObject.E) (n_l0 : (List X_Object) → X_Object → (List X_Value) → (Int) → (Int) → Option (Int)) (r_l2 : (List X_Object) → X_Object → (List (Int)) → (List X_Value) → (Int) → (Int) → Option (Int)) (x2 : List X_Object) (x5 : X_Object) (x6 : List X_Value) (x26 : Int) (x27 : Int) : Option (Int) :=
  bif (decide (x27 < x26)) then
    if 0 ≤ x27 ∧ x27 < ((List.length x6) : Int) then
      bif (((List.getD x6 (0 + Int.toNat x27) Z_Value).1) == (9 : Int)) then
        bif (x5.1 == (6 : Int)) then
          (c73 ((0 : Int), (List.getD x6 (0 + Int.toNat x27) Z_Value).2)).bind fun y2 =>
            bif !y2 then
              some (6 : Int)
            else
              n_l0 x2 x5 x6 x26 (IntKind.i64.wrap (x27 + (1 : Int)))
        else
          bif (x5.1 == (17 : Int)) then
            (c73 ((0 : Int), (List.getD x6 (0 + Int.toNat x27) Z_Value).2)).bind fun y3 =>
              bif !y3 then
                some (6 : Int)
              else
                n_l0 x2 x5 x6 x26 (IntKind.i64.wrap (x27 + (1 : Int)))
          else
            (c73 (List.getD x6 (0 + Int.toNat x27) Z_Value)).bind fun y4 =>
              bif !y4 then
                some (6 : Int)
              else
                n_l0 x2 x5 x6 x26 (IntKind.i64.wrap (x27 + (1 : Int)))
      else
        (c73 (List.getD x6 (0 + Int.toNat x27) Z_Value)).bind fun y5 =>
          bif !y5 then
            some (6 : Int)
          else
            n_l0 x2 x5 x6 x26 (IntKind.i64.wrap (x27 + (1 : Int)))
    else none
  else
    if 1 ≤ (List.length ([x5.2.2.1] : List Int)) ∧ (1 + (List.length x5.2.2.2.1)) * 8 ≤ LIM then
      if ((List.length (([x5.2.2.1] : List Int) ++ x5.2.2.2.1)) + (List.length x5.2.2.2.2.1)) * 8 ≤ LIM then
        r_l2 x2 x5 ((([x5.2.2.1] : List Int) ++ x5.2.2.2.1) ++ x5.2.2.2.2.1) x6 ((List.length x6) : Int) (0 : Int)
      else none
    else none
theorem r7_values.q_l0 (c72 : sl_Clone_Value.E) (c73 : r7_ValueOk.E) (c7 : r7_IsObject.E) (n_l0 : (List X_Object) → X_Object → (List X_Value) → (Int) → (Int) → Option (Int)) (r_l2 : (List X_Object) → X_Object → (List (Int)) → (List X_Value) → (Int) → (Int) → Option (Int)) (x2 : List X_Object) (x5 : X_Object) (x6 : List X_Value) (x26 : Int) (x27 : Int) : r7_values.b_l0 c72 c73 c7 n_l0 r_l2 x2 x5 x6 x26 x27 = r7_values.c_l0 c72 c73 c7 n_l0 r_l2 x2 x5 x6 x26 x27 := by
  simp only [r7_values.b_l0, r7_values.c_l0, List.take_length, take_one, Nat.zero_add, Int.toNat_natCast, Int.toNat_zero, List.drop_zero, List.append_eq, Nat.le_refl, Int.le_refl, true_and, and_true, zero_le_one, if_true, prod_eta, Int.natCast_zero]
def r7_values.c_l2 (c72 : sl_Clone_Value.E) (c73 : r7_ValueOk.E) (c7 : r7_IsObject.E) (n_l2 : (List X_Object) → X_Object → (List (Int)) → (List X_Value) → (Int) → (Int) → Option (Int)) (r_l4 : (List X_Object) → (List (Int)) → (Int) → (Int) → Option (Int)) (x2 : List X_Object) (x5 : X_Object) (x9 : List (Int)) (x58 : List X_Value) (x59 : Int) (x60 : Int) : Option (Int) :=
  bif (decide (x60 < x59)) then
    if 0 ≤ x60 ∧ x60 < ((List.length x58) : Int) then
      bif (((List.getD x58 (0 + Int.toNat x60) Z_Value).1) == (6 : Int)) then
        if ((List.length x9) + (List.length ([((((List.getD x58 (0 + Int.toNat x60) Z_Value).2).2).2).2] : List Int))) * 8 ≤ LIM then
          n_l2 x2 x5 (x9 ++ ([((((List.getD x58 (0 + Int.toNat x60) Z_Value).2).2).2).2] : List Int)) x58 x59 (IntKind.i64.wrap (x60 + (1 : Int)))
        else none
      else
        n_l2 x2 x5 x9 x58 x59 (IntKind.i64.wrap (x60 + (1 : Int)))
    else none
  else
    bif (x5.1 == (18 : Int)) then
      bif (x5.2.2.2.2.2.2.2.2.2 != (0 : Int)) then
        if ((List.length x9) + (List.length ([(IntKind.i64.wrap (x5.2.2.2.2.2.2.2.2.2 - (1 : Int)))] : List Int))) * 8 ≤ LIM then
          r_l4 x2 (x9 ++ ([(IntKind.i64.wrap (x5.2.2.2.2.2.2.2.2.2 - (1 : Int)))] : List Int)) ((List.length (x9 ++ ([(IntKind.i64.wrap (x5.2.2.2.2.2.2.2.2.2 - (1 : Int)))] : List Int))) : Int) (0 : Int)
        else none
      else
        r_l4 x2 x9 ((List.length x9) : Int) (0 : Int)
    else
      r_l4 x2 x9 ((List.length x9) : Int) (0 : Int)
theorem r7_values.q_l2 (c72 : sl_Clone_Value.E) (c73 : r7_ValueOk.E) (c7 : r7_IsObject.E) (n_l2 : (List X_Object) → X_Object → (List (Int)) → (List X_Value) → (Int) → (Int) → Option (Int)) (r_l4 : (List X_Object) → (List (Int)) → (Int) → (Int) → Option (Int)) (x2 : List X_Object) (x5 : X_Object) (x9 : List (Int)) (x58 : List X_Value) (x59 : Int) (x60 : Int) : r7_values.b_l2 c72 c73 c7 n_l2 r_l4 x2 x5 x9 x58 x59 x60 = r7_values.c_l2 c72 c73 c7 n_l2 r_l4 x2 x5 x9 x58 x59 x60 := by
  simp only [r7_values.b_l2, r7_values.c_l2, List.take_length, take_one, Nat.zero_add, Int.toNat_natCast, Int.toNat_zero, List.drop_zero, List.append_eq, Nat.le_refl, Int.le_refl, true_and, and_true, zero_le_one, if_true, prod_eta, Int.natCast_zero]
def r7_values.c_l4 (c72 : sl_Clone_Value.E) (c73 : r7_ValueOk.E) (c7 : r7_IsObject.E) (n_l4 : (List X_Object) → (List (Int)) → (Int) → (Int) → Option (Int)) (x2 : List X_Object) (x87 : List (Int)) (x88 : Int) (x89 : Int) : Option (Int) :=
  bif (decide (x89 < x88)) then
    if 0 ≤ x89 ∧ x89 < ((List.length x87) : Int) then
      (c7 (x2, (List.getD x87 (0 + Int.toNat x89) (0 : Int)))).bind fun y6 =>
        bif !y6 then
          some (4 : Int)
        else
          n_l4 x2 x87 x88 (IntKind.i64.wrap (x89 + (1 : Int)))
    else none
  else
    some (0 : Int)
theorem r7_values.q_l4 (c72 : sl_Clone_Value.E) (c73 : r7_ValueOk.E) (c7 : r7_IsObject.E) (n_l4 : (List X_Object) → (List (Int)) → (Int) → (Int) → Option (Int)) (x2 : List X_Object) (x87 : List (Int)) (x88 : Int) (x89 : Int) : r7_values.b_l4 c72 c73 c7 n_l4 x2 x87 x88 x89 = r7_values.c_l4 c72 c73 c7 n_l4 x2 x87 x88 x89 := by
  simp only [r7_values.b_l4, r7_values.c_l4, List.take_length, take_one, Nat.zero_add, Int.toNat_natCast, Int.toNat_zero, List.drop_zero, List.append_eq, Nat.le_refl, Int.le_refl, true_and, and_true, zero_le_one, if_true, prod_eta, Int.natCast_zero]
def r7_values.l4 (c72 : sl_Clone_Value.E) (c73 : r7_ValueOk.E) (c7 : r7_IsObject.E) (k : Nat)  : Nat → (List X_Object) → (List (Int)) → (Int) → (Int) → Option (Int)
  | 0, _, _, _, _ => none
  | n + 1, x2, x87, x88, x89 => r7_values.b_l4 c72 c73 c7 (fun x2 x87 x88 x89 => r7_values.l4 c72 c73 c7 k  n x2 x87 x88 x89) x2 x87 x88 x89
def r7_values.l2 (c72 : sl_Clone_Value.E) (c73 : r7_ValueOk.E) (c7 : r7_IsObject.E) (k : Nat)  : Nat → (List X_Object) → X_Object → (List (Int)) → (List X_Value) → (Int) → (Int) → Option (Int)
  | 0, _, _, _, _, _, _ => none
  | n + 1, x2, x5, x9, x58, x59, x60 => r7_values.b_l2 c72 c73 c7 (fun x2 x5 x9 x58 x59 x60 => r7_values.l2 c72 c73 c7 k  n x2 x5 x9 x58 x59 x60) (r7_values.l4 c72 c73 c7 k  k) x2 x5 x9 x58 x59 x60
def r7_values.l0 (c72 : sl_Clone_Value.E) (c73 : r7_ValueOk.E) (c7 : r7_IsObject.E) (k : Nat)  : Nat → (List X_Object) → X_Object → (List X_Value) → (Int) → (Int) → Option (Int)
  | 0, _, _, _, _, _ => none
  | n + 1, x2, x5, x6, x26, x27 => r7_values.b_l0 c72 c73 c7 (fun x2 x5 x6 x26 x27 => r7_values.l0 c72 c73 c7 k  n x2 x5 x6 x26 x27) (r7_values.l2 c72 c73 c7 k  k) x2 x5 x6 x26 x27
def r7_values.f (c72 : sl_Clone_Value.E) (c73 : r7_ValueOk.E) (c7 : r7_IsObject.E) (k : Nat) (a0 : List X_Object) (a1 : Int) : Option (Int) := r7_values.b c72 c73 c7 (r7_values.l0 c72 c73 c7 k k) a0 a1
noncomputable def r7_values.M_l0 (c72 : sl_Clone_Value.E) (c73 : r7_ValueOk.E) (c7 : r7_IsObject.E) (k n : Nat)  (s : St) : Option (Int) := atLoop (r7_values.C c72 c73 c7) k n [1, 1, 1, 0, 1, 0] [] r7_values.code (r7_values.fin c72 c73 c7) s
noncomputable def r7_values.fr_l0 (x2 : List X_Object) (x5 : X_Object) (x6 : List X_Value) (x26 : Int) (x27 : Int) : St := ⟨(((((((List.replicate 98 V.un).set 2 (V.bp 600002 0 [])).set 5 (V.bp 600005 0 [])).set 6 (V.ref 500006 0 0 (List.length x6))).set 25 (V.ref 500006 0 0 (List.length x6))).set 26 (V.dat (.int .i64) x26)).set 27 (V.dat (.int .i64) x27)), [⟨500006, 0, .arr 29 Y_Value x6⟩, ⟨600005, 0, .box (V.dat Y_Object x5)⟩, ⟨600002, 0, .box (V.dat Y_Heap x2)⟩]⟩
noncomputable def r7_values.M_l2 (c72 : sl_Clone_Value.E) (c73 : r7_ValueOk.E) (c7 : r7_IsObject.E) (k n : Nat)  (s : St) : Option (Int) := atLoop (r7_values.C c72 c73 c7) k n [1, 1, 1, 1, 1, 0, 1, 0] [] r7_values.code (r7_values.fin c72 c73 c7) s
noncomputable def r7_values.fr_l2 (x2 : List X_Object) (x5 : X_Object) (x9 : List (Int)) (x58 : List X_Value) (x59 : Int) (x60 : Int) : St := ⟨(((((((List.replicate 98 V.un).set 2 (V.bp 600002 0 [])).set 5 (V.bp 600005 0 [])).set 9 (V.ref 500009 0 0 (List.length x9))).set 58 (V.ref 500058 0 0 (List.length x58))).set 59 (V.dat (.int .i64) x59)).set 60 (V.dat (.int .i64) x60)), [⟨500058, 0, .arr 29 Y_Value x58⟩, ⟨500009, 0, .arr 3 (.int .i64) x9⟩, ⟨600005, 0, .box (V.dat Y_Object x5)⟩, ⟨600002, 0, .box (V.dat Y_Heap x2)⟩]⟩
noncomputable def r7_values.M_l4 (c72 : sl_Clone_Value.E) (c73 : r7_ValueOk.E) (c7 : r7_IsObject.E) (k n : Nat)  (s : St) : Option (Int) := atLoop (r7_values.C c72 c73 c7) k n [1, 1, 1, 1, 1, 1, 1, 0, 1, 0] [] r7_values.code (r7_values.fin c72 c73 c7) s
noncomputable def r7_values.fr_l4 (x2 : List X_Object) (x87 : List (Int)) (x88 : Int) (x89 : Int) : St := ⟨(((((List.replicate 98 V.un).set 2 (V.bp 600002 0 [])).set 87 (V.ref 500087 0 0 (List.length x87))).set 88 (V.dat (.int .i64) x88)).set 89 (V.dat (.int .i64) x89)), [⟨500087, 0, .arr 3 (.int .i64) x87⟩, ⟨600002, 0, .box (V.dat Y_Heap x2)⟩]⟩
theorem r7_values.r (c72 : sl_Clone_Value.E) (c73 : r7_ValueOk.E) (c7 : r7_IsObject.E) (k : Nat) (a0 : List X_Object) (a1 : Int) : fn (r7_values.C c72 c73 c7) k Tryz.f68 r7_values.A r7_values.R (a0, a1) = r7_values.b c72 c73 c7 (fun x2 x5 x6 x26 x27 => r7_values.M_l0 c72 c73 c7 k k  (r7_values.fr_l0 x2 x5 x6 x26 x27)) a0 a1 := by kernel_rfl
theorem r7_values.z_l0 (c72 : sl_Clone_Value.E) (c73 : r7_ValueOk.E) (c7 : r7_IsObject.E) (k : Nat)  (s : St) : r7_values.M_l0 c72 c73 c7 k 0  s = none := by kernel_rfl
theorem r7_values.r_l0 (c72 : sl_Clone_Value.E) (c73 : r7_ValueOk.E) (c7 : r7_IsObject.E) (k n : Nat)  (x2 : List X_Object) (x5 : X_Object) (x6 : List X_Value) (x26 : Int) (x27 : Int) : r7_values.M_l0 c72 c73 c7 k (n + 1)  (r7_values.fr_l0 x2 x5 x6 x26 x27) = r7_values.b_l0 c72 c73 c7 (fun x2 x5 x6 x26 x27 => r7_values.M_l0 c72 c73 c7 k n  (r7_values.fr_l0 x2 x5 x6 x26 x27)) (fun x2 x5 x9 x58 x59 x60 => r7_values.M_l2 c72 c73 c7 k k  (r7_values.fr_l2 x2 x5 x9 x58 x59 x60)) x2 x5 x6 x26 x27 := by kernel_rfl
theorem r7_values.z_l2 (c72 : sl_Clone_Value.E) (c73 : r7_ValueOk.E) (c7 : r7_IsObject.E) (k : Nat)  (s : St) : r7_values.M_l2 c72 c73 c7 k 0  s = none := by kernel_rfl
theorem r7_values.r_l2 (c72 : sl_Clone_Value.E) (c73 : r7_ValueOk.E) (c7 : r7_IsObject.E) (k n : Nat)  (x2 : List X_Object) (x5 : X_Object) (x9 : List (Int)) (x58 : List X_Value) (x59 : Int) (x60 : Int) : r7_values.M_l2 c72 c73 c7 k (n + 1)  (r7_values.fr_l2 x2 x5 x9 x58 x59 x60) = r7_values.b_l2 c72 c73 c7 (fun x2 x5 x9 x58 x59 x60 => r7_values.M_l2 c72 c73 c7 k n  (r7_values.fr_l2 x2 x5 x9 x58 x59 x60)) (fun x2 x87 x88 x89 => r7_values.M_l4 c72 c73 c7 k k  (r7_values.fr_l4 x2 x87 x88 x89)) x2 x5 x9 x58 x59 x60 := by kernel_rfl
theorem r7_values.z_l4 (c72 : sl_Clone_Value.E) (c73 : r7_ValueOk.E) (c7 : r7_IsObject.E) (k : Nat)  (s : St) : r7_values.M_l4 c72 c73 c7 k 0  s = none := by kernel_rfl
theorem r7_values.r_l4 (c72 : sl_Clone_Value.E) (c73 : r7_ValueOk.E) (c7 : r7_IsObject.E) (k n : Nat)  (x2 : List X_Object) (x87 : List (Int)) (x88 : Int) (x89 : Int) : r7_values.M_l4 c72 c73 c7 k (n + 1)  (r7_values.fr_l4 x2 x87 x88 x89) = r7_values.b_l4 c72 c73 c7 (fun x2 x87 x88 x89 => r7_values.M_l4 c72 c73 c7 k n  (r7_values.fr_l4 x2 x87 x88 x89)) x2 x87 x88 x89 := by kernel_rfl
theorem r7_values.e_l4 (c72 : sl_Clone_Value.E) (c73 : r7_ValueOk.E) (c7 : r7_IsObject.E) (k n : Nat)  (x2 : List X_Object) (x87 : List (Int)) (x88 : Int) (x89 : Int) : r7_values.M_l4 c72 c73 c7 k n  (r7_values.fr_l4 x2 x87 x88 x89) = r7_values.l4 c72 c73 c7 k  n x2 x87 x88 x89 := by
  induction n generalizing x2 x87 x88 x89 with
  | zero => rw [r7_values.z_l4]; rfl
  | succ n ih =>
    rw [r7_values.r_l4]
    simp only [ih]
    rfl
theorem r7_values.e_l2 (c72 : sl_Clone_Value.E) (c73 : r7_ValueOk.E) (c7 : r7_IsObject.E) (k n : Nat)  (x2 : List X_Object) (x5 : X_Object) (x9 : List (Int)) (x58 : List X_Value) (x59 : Int) (x60 : Int) : r7_values.M_l2 c72 c73 c7 k n  (r7_values.fr_l2 x2 x5 x9 x58 x59 x60) = r7_values.l2 c72 c73 c7 k  n x2 x5 x9 x58 x59 x60 := by
  induction n generalizing x2 x5 x9 x58 x59 x60 with
  | zero => rw [r7_values.z_l2]; rfl
  | succ n ih =>
    rw [r7_values.r_l2]
    simp only [r7_values.e_l4, ih]
    rfl
theorem r7_values.e_l0 (c72 : sl_Clone_Value.E) (c73 : r7_ValueOk.E) (c7 : r7_IsObject.E) (k n : Nat)  (x2 : List X_Object) (x5 : X_Object) (x6 : List X_Value) (x26 : Int) (x27 : Int) : r7_values.M_l0 c72 c73 c7 k n  (r7_values.fr_l0 x2 x5 x6 x26 x27) = r7_values.l0 c72 c73 c7 k  n x2 x5 x6 x26 x27 := by
  induction n generalizing x2 x5 x6 x26 x27 with
  | zero => rw [r7_values.z_l0]; rfl
  | succ n ih =>
    rw [r7_values.r_l0]
    simp only [r7_values.e_l2, ih]
    rfl
theorem r7_values.e (c72 : sl_Clone_Value.E) (c73 : r7_ValueOk.E) (c7 : r7_IsObject.E) (k : Nat) (a0 : List X_Object) (a1 : Int) : fn (r7_values.C c72 c73 c7) k Tryz.f68 r7_values.A r7_values.R (a0, a1) = r7_values.f c72 c73 c7 k a0 a1 := by
  rw [r7_values.r]
  simp only [r7_values.e_l0]
  rfl
theorem r7_values.ty (c72 : sl_Clone_Value.E) (c73 : r7_ValueOk.E) (c7 : r7_IsObject.E) : TyOk Tryz.prog (r7_values.C c72 c73 c7) := tyOk_of (by kernel_rfl)
def r7_values.u (k : Nat) : r7_values.E := fun y => r7_values.f (sl_Clone_Value.u k) (r7_ValueOk.u k) (r7_IsObject.u k) k y.1 y.2
theorem r7_values.sound (k : Nat) : Sound Tryz.prog ⟨68, r7_values.A, r7_values.R, r7_values.u k⟩ := by
  have h := fn_sound (k := k) («as» := r7_values.A) (rs := r7_values.R) (r7_values.ty (sl_Clone_Value.u k) (r7_ValueOk.u k) (r7_IsObject.u k)) (fun E h => by
    simp only [r7_values.C, List.mem_cons, List.not_mem_nil, or_false] at h
    rcases h with rfl | rfl | rfl
    · exact sl_Clone_Value.sound k
    · exact r7_ValueOk.sound k
    · exact r7_IsObject.sound k) mixed Tryz.func68 (by kernel_rfl) (by kernel_rfl)
  have e : fn (r7_values.C (sl_Clone_Value.u k) (r7_ValueOk.u k) (r7_IsObject.u k)) k Tryz.f68 r7_values.A r7_values.R = r7_values.u k := by
    funext y
    exact r7_values.e (sl_Clone_Value.u k) (r7_ValueOk.u k) (r7_IsObject.u k) k y.1 y.2
  rw [e] at h
  exact h
/-! ### brindlewood/brindlewoodref7.RangeOk: f91 -/
abbrev r7_RangeOk.A : List Sh := [(.d Y_Object)]
abbrev r7_RangeOk.R : List Sh := [(.d .bool)]
abbrev r7_RangeOk.E : Type := X_Object → Option (Bool)
def r7_RangeOk.C  : Ctx := { ty := [(3, (.int .i64)), (25, (.sl 72 (.int .u32))), (27, Y_Int), (29, Y_Value), (34, (.sl 29 Y_Value)), (36, Y_Object)], nf := [(27, 2), (29, 5), (36, 10)], by_ := [(29, 96), (72, 4)], env := [], spec := [(0, [.bx 1 600001 (.d Y_Object), .d 6 (.sl 29 Y_Value), .d 7 (.int .i64), .d 8 (.int .i64)])] }
noncomputable def r7_RangeOk.code : Code := Func.code Tryz.f91
noncomputable def r7_RangeOk.fin  := kfin (r7_RangeOk.C ) Tryz.f91 r7_RangeOk.A r7_RangeOk.R
def r7_RangeOk.b  (r_l0 : X_Object → (List X_Value) → (Int) → (Int) → Option (Bool)) (a0 : X_Object) : Option (Bool) :=
  r_l0 a0 a0.2.2.2.2.2.2.1 ((List.length a0.2.2.2.2.2.2.1) : Int) (0 : Int)
def r7_RangeOk.b_l0  (n_l0 : X_Object → (List X_Value) → (Int) → (Int) → Option (Bool)) (x1 : X_Object) (x6 : List X_Value) (x7 : Int) (x8 : Int) : Option (Bool) :=
  bif (decide (x8 < x7)) then
    if 0 ≤ x8 ∧ x8 < ((List.length x6) : Int) then
      bif (((List.getD x6 (Int.toNat x8) Z_Value).1) != (2 : Int)) then
        some false
      else
        bif (decide (((List.length ((((List.getD x6 (Int.toNat x8) Z_Value).2).1).2)) : Int) > (40 : Int))) then
          some false
        else
          n_l0 x1 x6 x7 (IntKind.i64.wrap (x8 + (1 : Int)))
    else none
  else
    if 0 ≤ (2 : Int) ∧ (2 : Int) < ((List.length x1.2.2.2.2.2.2.1) : Int) then
      some (decide (((List.length ((((List.getD x1.2.2.2.2.2.2.1 (Int.toNat (2 : Int)) Z_Value).2).1).2)) : Int) > (0 : Int)))
    else none
def r7_RangeOk.c_l0  (n_l0 : X_Object → (List X_Value) → (Int) → (Int) → Option (Bool)) (x1 : X_Object) (x6 : List X_Value) (x7 : Int) (x8 : Int) : Option (Bool) :=
  bif (decide (x8 < x7)) then
    if 0 ≤ x8 ∧ x8 < ((List.length x6) : Int) then
      bif (((List.getD x6 (Int.toNat x8) Z_Value).1) != (2 : Int)) then
        some false
      else
        bif (decide (((List.length ((((List.getD x6 (Int.toNat x8) Z_Value).2).1).2)) : Int) > (40 : Int))) then
          some false
        else
          n_l0 x1 x6 x7 (IntKind.i64.wrap (x8 + (1 : Int)))
    else none
  else
    if 0 ≤ (2 : Int) ∧ (2 : Int) < ((List.length x1.2.2.2.2.2.2.1) : Int) then
      some (decide (((List.length ((((List.getD x1.2.2.2.2.2.2.1 (Int.toNat (2 : Int)) Z_Value).2).1).2)) : Int) > (0 : Int)))
    else none
theorem r7_RangeOk.q_l0  (n_l0 : X_Object → (List X_Value) → (Int) → (Int) → Option (Bool)) (x1 : X_Object) (x6 : List X_Value) (x7 : Int) (x8 : Int) : r7_RangeOk.b_l0  n_l0 x1 x6 x7 x8 = r7_RangeOk.c_l0  n_l0 x1 x6 x7 x8 := by
  simp only [r7_RangeOk.b_l0, r7_RangeOk.c_l0, List.take_length, take_one, Nat.zero_add, Int.toNat_natCast, Int.toNat_zero, List.drop_zero, List.append_eq, Nat.le_refl, Int.le_refl, true_and, and_true, zero_le_one, if_true, prod_eta, Int.natCast_zero]
def r7_RangeOk.l0  (k : Nat)  : Nat → X_Object → (List X_Value) → (Int) → (Int) → Option (Bool)
  | 0, _, _, _, _ => none
  | n + 1, x1, x6, x7, x8 => r7_RangeOk.b_l0  (fun x1 x6 x7 x8 => r7_RangeOk.l0  k  n x1 x6 x7 x8) x1 x6 x7 x8
def r7_RangeOk.f  (k : Nat) (a0 : X_Object) : Option (Bool) := r7_RangeOk.b  (r7_RangeOk.l0  k k) a0
noncomputable def r7_RangeOk.M_l0  (k n : Nat)  (s : St) : Option (Bool) := atLoop (r7_RangeOk.C ) k n [1, 0, 1, 0] [] r7_RangeOk.code (r7_RangeOk.fin ) s
noncomputable def r7_RangeOk.fr_l0 (x1 : X_Object) (x6 : List X_Value) (x7 : Int) (x8 : Int) : St := ⟨(((((List.replicate 31 V.un).set 1 (V.bp 600001 0 [])).set 6 (V.dat (.sl 29 Y_Value) x6)).set 7 (V.dat (.int .i64) x7)).set 8 (V.dat (.int .i64) x8)), [⟨600001, 0, .box (V.dat Y_Object x1)⟩]⟩
theorem r7_RangeOk.r  (k : Nat) (a0 : X_Object) : fn (r7_RangeOk.C ) k Tryz.f91 r7_RangeOk.A r7_RangeOk.R a0 = r7_RangeOk.b  (fun x1 x6 x7 x8 => r7_RangeOk.M_l0  k k  (r7_RangeOk.fr_l0 x1 x6 x7 x8)) a0 := by kernel_rfl
theorem r7_RangeOk.z_l0  (k : Nat)  (s : St) : r7_RangeOk.M_l0  k 0  s = none := by kernel_rfl
theorem r7_RangeOk.r_l0  (k n : Nat)  (x1 : X_Object) (x6 : List X_Value) (x7 : Int) (x8 : Int) : r7_RangeOk.M_l0  k (n + 1)  (r7_RangeOk.fr_l0 x1 x6 x7 x8) = r7_RangeOk.b_l0  (fun x1 x6 x7 x8 => r7_RangeOk.M_l0  k n  (r7_RangeOk.fr_l0 x1 x6 x7 x8)) x1 x6 x7 x8 := by kernel_rfl
theorem r7_RangeOk.e_l0  (k n : Nat)  (x1 : X_Object) (x6 : List X_Value) (x7 : Int) (x8 : Int) : r7_RangeOk.M_l0  k n  (r7_RangeOk.fr_l0 x1 x6 x7 x8) = r7_RangeOk.l0  k  n x1 x6 x7 x8 := by
  induction n generalizing x1 x6 x7 x8 with
  | zero => rw [r7_RangeOk.z_l0]; rfl
  | succ n ih =>
    rw [r7_RangeOk.r_l0]
    simp only [ih]
    rfl
theorem r7_RangeOk.e  (k : Nat) (a0 : X_Object) : fn (r7_RangeOk.C ) k Tryz.f91 r7_RangeOk.A r7_RangeOk.R a0 = r7_RangeOk.f  k a0 := by
  rw [r7_RangeOk.r]
  simp only [r7_RangeOk.e_l0]
  rfl
theorem r7_RangeOk.ty  : TyOk Tryz.prog (r7_RangeOk.C ) := tyOk_of (by kernel_rfl)
def r7_RangeOk.u (k : Nat) : r7_RangeOk.E := fun y => r7_RangeOk.f  k y
theorem r7_RangeOk.sound (k : Nat) : Sound Tryz.prog ⟨91, r7_RangeOk.A, r7_RangeOk.R, r7_RangeOk.u k⟩ := by
  have h := fn_sound (k := k) («as» := r7_RangeOk.A) (rs := r7_RangeOk.R) (r7_RangeOk.ty ) (fun E h => by cases h) mixed Tryz.func91 (by kernel_rfl) (by kernel_rfl)
  have e : fn (r7_RangeOk.C ) k Tryz.f91 r7_RangeOk.A r7_RangeOk.R = r7_RangeOk.u k := by
    funext y
    exact r7_RangeOk.e  k y
  rw [e] at h
  exact h
/-! ### brindlewood/brindlewoodref7.Obj: f34 -/
abbrev r7_Obj.A : List Sh := [(.d Y_Heap), (.d Y_Value)]
abbrev r7_Obj.R : List Sh := [(.d Y_Object)]
abbrev r7_Obj.E : Type := ((List X_Object) × X_Value) → Option X_Object
def r7_Obj.C (c7 : r7_IsObject.E) : Ctx := { ty := [(3, (.int .i64)), (22, (.sl 36 Y_Object)), (24, Y_Heap), (29, Y_Value), (36, Y_Object)], nf := [(24, 1), (29, 5), (36, 10)], by_ := [(36, 168)], env := [⟨7, r7_IsObject.A, r7_IsObject.R, c7⟩], spec := [] }
noncomputable def r7_Obj.code : Code := Func.code Tryz.f34
noncomputable def r7_Obj.fin (c7 : r7_IsObject.E) := kfin (r7_Obj.C c7) Tryz.f34 r7_Obj.A r7_Obj.R
def r7_Obj.b (c7 : r7_IsObject.E)  (a0 : List X_Object) (a1 : X_Value) : Option X_Object :=
  bif (a1.1 != (6 : Int)) then
    some ((0 : Int), ([], ((0 : Int), (([] : List (Int)), (([] : List (Int)), (([] : List (List UInt8)), (([] : List X_Value), (([] : List X_Value), ((0 : Int), (0 : Int))))))))))
  else
    (c7 (a0, a1.2.2.2.2)).bind fun y1 =>
      bif (!y1) then
        some ((0 : Int), ([], ((0 : Int), (([] : List (Int)), (([] : List (Int)), (([] : List (List UInt8)), (([] : List X_Value), (([] : List X_Value), ((0 : Int), (0 : Int))))))))))
      else
        if 0 ≤ a1.2.2.2.2 ∧ a1.2.2.2.2 < ((List.length a0) : Int) then
          some (List.getD a0 (Int.toNat a1.2.2.2.2) Z_Object)
        else none
def r7_Obj.c (c7 : r7_IsObject.E)  (a0 : List X_Object) (a1 : X_Value) : Option X_Object :=
  bif (a1.1 != (6 : Int)) then
    some ((0 : Int), ([], ((0 : Int), (([] : List Int), (([] : List Int), (([] : List (List UInt8)), (([] : List X_Value), (([] : List X_Value), ((0 : Int), (0 : Int))))))))))
  else
    (c7 (a0, a1.2.2.2.2)).bind fun y1 =>
      bif !y1 then
        some ((0 : Int), ([], ((0 : Int), (([] : List Int), (([] : List Int), (([] : List (List UInt8)), (([] : List X_Value), (([] : List X_Value), ((0 : Int), (0 : Int))))))))))
      else
        if 0 ≤ a1.2.2.2.2 ∧ a1.2.2.2.2 < ((List.length a0) : Int) then
          some (List.getD a0 (Int.toNat a1.2.2.2.2) Z_Object)
        else none
theorem r7_Obj.q (c7 : r7_IsObject.E)  (a0 : List X_Object) (a1 : X_Value) : r7_Obj.b c7 a0 a1 = r7_Obj.c c7 a0 a1 := by
  simp only [r7_Obj.b, r7_Obj.c, List.take_length, take_one, Nat.zero_add, Int.toNat_natCast, Int.toNat_zero, List.drop_zero, List.append_eq, Nat.le_refl, Int.le_refl, true_and, and_true, zero_le_one, if_true, prod_eta, Int.natCast_zero]
def r7_Obj.f (c7 : r7_IsObject.E) (k : Nat) (a0 : List X_Object) (a1 : X_Value) : Option X_Object := r7_Obj.b c7  a0 a1
theorem r7_Obj.r (c7 : r7_IsObject.E) (k : Nat) (a0 : List X_Object) (a1 : X_Value) : fn (r7_Obj.C c7) k Tryz.f34 r7_Obj.A r7_Obj.R (a0, a1) = r7_Obj.b c7  a0 a1 := by kernel_rfl
theorem r7_Obj.e (c7 : r7_IsObject.E) (k : Nat) (a0 : List X_Object) (a1 : X_Value) : fn (r7_Obj.C c7) k Tryz.f34 r7_Obj.A r7_Obj.R (a0, a1) = r7_Obj.f c7 k a0 a1 := by
  rw [r7_Obj.r]
  rfl
theorem r7_Obj.ty (c7 : r7_IsObject.E) : TyOk Tryz.prog (r7_Obj.C c7) := tyOk_of (by kernel_rfl)
def r7_Obj.u (k : Nat) : r7_Obj.E := fun y => r7_Obj.f (r7_IsObject.u k) k y.1 y.2
theorem r7_Obj.sound (k : Nat) : Sound Tryz.prog ⟨34, r7_Obj.A, r7_Obj.R, r7_Obj.u k⟩ := by
  have h := fn_sound (k := k) («as» := r7_Obj.A) (rs := r7_Obj.R) (r7_Obj.ty (r7_IsObject.u k)) (fun E h => by
    simp only [r7_Obj.C, List.mem_cons, List.not_mem_nil, or_false] at h
    rcases h with rfl
    · exact r7_IsObject.sound k) mixed Tryz.func34 (by kernel_rfl) (by kernel_rfl)
  have e : fn (r7_Obj.C (r7_IsObject.u k)) k Tryz.f34 r7_Obj.A r7_Obj.R = r7_Obj.u k := by
    funext y
    exact r7_Obj.e (r7_IsObject.u k) k y.1 y.2
  rw [e] at h
  exact h
end
end Go.Ab
