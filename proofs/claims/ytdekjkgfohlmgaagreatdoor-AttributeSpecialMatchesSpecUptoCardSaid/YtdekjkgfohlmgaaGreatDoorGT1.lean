/- A part of the proof: GT1. -/
import Derived.Test.YtdekjkgfohlmgaaGreatDoorFLs
import Derived.Test.YtdekjkgfohlmgaaGreatDoorHLib
namespace Go.Ab
set_option linter.unusedVariables false
set_option linter.unusedSimpArgs false
set_option maxRecDepth 100000
noncomputable section
open Go.Proofs
/-! ### brindlewood/brindlewoodref7.At: f69 -/
abbrev F69.A : List Sh := [(.d (.int .i64)), (.d (.int .i64))]
abbrev F69.R : List Sh := [(.d Y_Fault)]
abbrev F69.E : Type := X_acceptRange → Option X_acceptRange
section
variable (k n : Nat)
def F69.C : Ctx := cx [] []
variable (a0 a1 : Int)
def F69.b : Option X_acceptRange :=
 some (a0, a1)
def F69.f (k : Nat) (a0 : Int) (a1 : Int) : Option X_acceptRange := F69.b a0 a1
theorem F69.e : fn F69.C k Tryz.f69 F69.A F69.R (a0, a1) = F69.f k a0 a1 := by
  kernel_rfl
end
def F69.u (k : Nat) : F69.E := fun y => F69.f k y.1 y.2
theorem F69.sound (k : Nat) : Sound Tryz.prog ⟨69, F69.A, F69.R, F69.u k⟩ := sn gr Tryz.func69 (fun y => F69.e k y.1 y.2) al0
/-! ### slices.Index[[]string,string]: f107 -/
abbrev F107.A : List Sh := [(.d (.sl 9 .str)), (.d .str)]
abbrev F107.R : List Sh := [(.d (.int .i64))]
abbrev F107.E : Type := (LLB × LB) → Option Int
section
variable (k n : Nat)
def F107.C : Ctx := cx [] [(0, [.d 0 (.sl 9 .str), .d 1 .str, .d 7 (.int .i64), .d 8 (.int .i64)])]
noncomputable def F107.M_l0 (s : St) : Option Int := lpAt F107.C k n [1, 0, 1, 0] [] Tryz.f107 F107.A F107.R s
noncomputable def F107.fr_l0 (x0 : LLB) (x1 : LB) (x7 : Int) (x8 : Int) : St := ⟨(((((List.replicate 19 V.un).set 0 (V.dat (.sl 9 .str) x0)).set 1 (V.dat .str x1)).set 7 (V.dat (.int .i64) x7)).set 8 (V.dat (.int .i64) x8)), []⟩
section
variable (n_l0 : LLB → LB → Int → Int → Option Int) (x0 : LLB) (x1 : LB) (x7 x8 : Int)
def F107.b_l0 : Option Int :=
 bif (decide (x8 < x7)) then
 if 0 ≤ x8 ∧ x8 < ((List.length x0) : Int) then
 bif (x1 == (List.getD x0 (Int.toNat x8) [])) then
 some x8
 else
 n_l0 x0 x1 x7 (IntKind.i64.wrap (x8 + (1 : Int)))
 else none
 else
 some (-1 : Int)
def F107.l0 (k : Nat) : Nat → LLB → LB → Int → Int → Option Int
  | 0, _, _, _, _ => none
  | n + 1, x0, x1, x7, x8 => F107.b_l0 (fun x0 x1 x7 x8 => F107.l0 k n x0 x1 x7 x8) x0 x1 x7 x8
theorem F107.e_l0 : F107.M_l0 k n (F107.fr_l0 x0 x1 x7 x8) = F107.l0 k n x0 x1 x7 x8 := by
  induction n generalizing x0 x1 x7 x8 with
  | zero => exact lpAt0
  | succ n ih =>
    refine Eq.trans (b := F107.b_l0 (fun x0 x1 x7 x8 => F107.M_l0 k n (F107.fr_l0 x0 x1 x7 x8)) x0 x1 x7 x8) (by kernel_rfl) ?_
    simp only [ih]
    rfl
end
variable (r_l0 : LLB → LB → Int → Int → Option Int) (a0 : LLB) (a1 : LB)
def F107.b : Option Int :=
 r_l0 a0 a1 ((List.length a0) : Int) (0 : Int)
def F107.f : Option Int := F107.b (F107.l0 k k) a0 a1
theorem F107.e : fn F107.C k Tryz.f107 F107.A F107.R (a0, a1) = F107.f k a0 a1 := by
  refine Eq.trans (b := F107.b (fun x0 x1 x7 x8 => F107.M_l0 k k (F107.fr_l0 x0 x1 x7 x8)) a0 a1) (by kernel_rfl) ?_
  simp only [F107.e_l0]
  rfl
end
def F107.u (k : Nat) : F107.E := fun y => F107.f k y.1 y.2
theorem F107.sound (k : Nat) : Sound Tryz.prog ⟨107, F107.A, F107.R, F107.u k⟩ := sn gr Tryz.func107 (fun y => F107.e k y.1 y.2) al0
/-! ### brindlewood/brindlewoodref7.Begin: f70 -/
abbrev F70.A : List Sh := []
abbrev F70.R : List Sh := [(.d Y_Heap)]
abbrev F70.E : Type := (Unit) → Option LO
section
variable (c66 : F66.E) (c106 : F106.E) (c107 : F107.E)
variable (k n m0 : Nat)
def F70.C : Ctx := cx [⟨66, F66.A, F66.R, c66⟩, ⟨106, F106.A, F106.R, c106⟩, ⟨107, F107.A, F107.R, c107⟩] [(0, [.bx 0 600000 (.one (.o 56 Y_Object)), .bx 1 600001 (.one (.o 56 Y_Object)), .o 2 500002 9 .str, .d 10 (.sl 9 .str), .d 11 (.int .i64), .d 12 (.int .i64)]), (100011, [.bx 0 600000 (.one (.o 56 Y_Object)), .bx 1 600001 (.one (.o 56 Y_Object)), .o 2 500002 9 .str, .d 5 .str, .bx 8 600008 (.pair (.d (.int .i64)) (.pair (.d .str) (.pair (.d (.int .i64)) (.pair (.o 3 (.int .i64)) (.pair (.o 3 (.int .i64)) (.pair (.o 9 .str) (.pair (.o 29 Y_Value) (.pair (.o 29 Y_Value) (.d Y_Fault))))))))), .d 10 (.sl 9 .str), .d 11 (.int .i64), .d 12 (.int .i64)])]
noncomputable def F70.M_l0 (s : St) : Option LO := lpAt (F70.C c66 c106 c107) k n [1, 1, 1, 0, 1, 0] [] Tryz.f70 F70.A F70.R s
noncomputable def F70.fr_l0 (x0 : LO) (x1 : LO) (x2 : LLB) (x10 : LLB) (x11 : Int) (x12 : Int) : St := ⟨(((((((List.replicate 56 V.un).set 0 (V.bp 600000 0 [])).set 1 (V.bp 600001 0 [])).set 2 (V.ref 500002 0 0 (List.length x2))).set 10 (V.dat (.sl 9 .str) x10)).set 11 (V.dat (.int .i64) x11)).set 12 (V.dat (.int .i64) x12)), [⟨500002, 0, .arr 9 .str x2⟩, ⟨600001, 0, .box (V.st1 (V.ref 11600016 0 0 (List.length x1)))⟩, ⟨11600016, 0, .arr 56 Y_Object x1⟩, ⟨600000, 0, .box (V.st1 (V.ref 11600000 0 0 (List.length x0)))⟩, ⟨11600000, 0, .arr 56 Y_Object x0⟩]⟩
noncomputable def F70.M_g11 (s : St) : Option LO := gtAt (F70.C c66 c106 c107) k [1, 1, 1, 0, 1, 0, 0, 1, 1, 0, 0, 1, 1, 1, 1, 0] [m0] Tryz.f70 F70.A F70.R s
noncomputable def F70.fr_g11 (x0 : LO) (x1 : LO) (x2 : LLB) (x5 : LB) (x8 : Int × (LB × (Int × (LI × (LI × (LLB × (LV × (LV × X_acceptRange)))))))) (x10 : LLB) (x11 : Int) (x12 : Int) : St := ⟨(((((((((List.replicate 56 V.un).set 0 (V.bp 600000 0 [])).set 1 (V.bp 600001 0 [])).set 2 (V.ref 500002 0 0 (List.length x2))).set 5 (V.dat .str x5)).set 8 (V.bp 600008 0 [])).set 10 (V.dat (.sl 9 .str) x10)).set 11 (V.dat (.int .i64) x11)).set 12 (V.dat (.int .i64) x12)), [⟨600008, 0, .box (V.st (V.dat (.int .i64) x8.1) (V.st (V.dat .str x8.2.1) (V.st (V.dat (.int .i64) x8.2.2.1) (V.st (V.ref 11600128 0 0 (List.length x8.2.2.2.1)) (V.st (V.ref 11600129 0 0 (List.length x8.2.2.2.2.1)) (V.st (V.ref 11600130 0 0 (List.length x8.2.2.2.2.2.1)) (V.st (V.ref 11600131 0 0 (List.length x8.2.2.2.2.2.2.1)) (V.st (V.ref 11600132 0 0 (List.length x8.2.2.2.2.2.2.2.1)) (V.dat Y_Fault x8.2.2.2.2.2.2.2.2)))))))))⟩, ⟨11600128, 0, .arr 3 (.int .i64) x8.2.2.2.1⟩, ⟨11600129, 0, .arr 3 (.int .i64) x8.2.2.2.2.1⟩, ⟨11600130, 0, .arr 9 .str x8.2.2.2.2.2.1⟩, ⟨11600131, 0, .arr 29 Y_Value x8.2.2.2.2.2.2.1⟩, ⟨11600132, 0, .arr 29 Y_Value x8.2.2.2.2.2.2.2.1⟩, ⟨500002, 0, .arr 9 .str x2⟩, ⟨600001, 0, .box (V.st1 (V.ref 11600016 0 0 (List.length x1)))⟩, ⟨11600016, 0, .arr 56 Y_Object x1⟩, ⟨600000, 0, .box (V.st1 (V.ref 11600000 0 0 (List.length x0)))⟩, ⟨11600000, 0, .arr 56 Y_Object x0⟩]⟩
section
variable (n_l0 : LO → LO → LLB → LLB → Int → Int → Option LO) (x0 x1 : LO) (x2 : LLB) (x5 : LB) (x8 : Int × (LB × (Int × (LI × (LI × (LLB × (LV × (LV × X_acceptRange)))))))) (x10 : LLB) (x11 x12 : Int)
def F70.b_g11 (c66 : F66.E) (c106 : F106.E) (c107 : F107.E) (n_l0 : LO → LO → LLB → LLB → Int → Int → Option LO) (x0 : LO) (x1 : LO) (x2 : LLB) (x5 : LB) (x8 : Int × (LB × (Int × (LI × (LI × (LLB × (LV × (LV × X_acceptRange)))))))) (x10 : LLB) (x11 : Int) (x12 : Int) : Option LO :=
 if (List.length x2) ≤ (List.length x2) ∧ ((List.length x2) + (List.length (List.take 1 ([x5] : LLB)))) * 16 ≤ LIM then
 if (List.length x1) ≤ (List.length x1) ∧ ((List.length x1) + (List.length (List.take 1 ([(x8.1, (x8.2.1, (x8.2.2.1, ((List.take (List.length x8.2.2.2.1) x8.2.2.2.1), ((List.take (List.length x8.2.2.2.2.1) x8.2.2.2.2.1), ((List.take (List.length x8.2.2.2.2.2.1) x8.2.2.2.2.2.1), ((List.take (List.length x8.2.2.2.2.2.2.1) x8.2.2.2.2.2.2.1), ((List.take (List.length x8.2.2.2.2.2.2.2.1) x8.2.2.2.2.2.2.2.1), x8.2.2.2.2.2.2.2.2))))))))] : LO)))) * 168 ≤ LIM then
 n_l0 (List.take (List.length x0) x0) (List.take (List.length (List.append (List.take (List.length x1) x1) (List.take 1 ([(x8.1, (x8.2.1, (x8.2.2.1, ((List.take (List.length x8.2.2.2.1) x8.2.2.2.1), ((List.take (List.length x8.2.2.2.2.1) x8.2.2.2.2.1), ((List.take (List.length x8.2.2.2.2.2.1) x8.2.2.2.2.2.1), ((List.take (List.length x8.2.2.2.2.2.2.1) x8.2.2.2.2.2.2.1), ((List.take (List.length x8.2.2.2.2.2.2.2.1) x8.2.2.2.2.2.2.2.1), x8.2.2.2.2.2.2.2.2))))))))] : LO)))) (List.append (List.take (List.length x1) x1) (List.take 1 ([(x8.1, (x8.2.1, (x8.2.2.1, ((List.take (List.length x8.2.2.2.1) x8.2.2.2.1), ((List.take (List.length x8.2.2.2.2.1) x8.2.2.2.2.1), ((List.take (List.length x8.2.2.2.2.2.1) x8.2.2.2.2.2.1), ((List.take (List.length x8.2.2.2.2.2.2.1) x8.2.2.2.2.2.2.1), ((List.take (List.length x8.2.2.2.2.2.2.2.1) x8.2.2.2.2.2.2.2.1), x8.2.2.2.2.2.2.2.2))))))))] : LO)))) (List.take (List.length (List.append (List.take (List.length x2) x2) (List.take 1 ([x5] : LLB)))) (List.append (List.take (List.length x2) x2) (List.take 1 ([x5] : LLB)))) x10 x11 (IntKind.i64.wrap (x12 + (1 : Int)))
 else none
 else none
def F70.g11 : Option LO := gate k (F70.b_g11 c66 c106 c107 n_l0 x0 x1 x2 x5 x8 x10 x11 x12)
theorem F70.e_g11 : F70.M_g11 c66 c106 c107 k m0 (F70.fr_g11 x0 x1 x2 x5 x8 x10 x11 x12) = F70.g11 c66 c106 c107 k (fun x0 x1 x2 x10 x11 x12 => F70.M_l0 c66 c106 c107 k m0 (F70.fr_l0 x0 x1 x2 x10 x11 x12)) x0 x1 x2 x5 x8 x10 x11 x12 := by
  kernel_rfl
end
section
variable (r_g11 : LO → LO → LLB → LB → X_Object → LLB → Int → Int → Option LO) (x0 x1 : LO) (x2 x10 : LLB) (x11 x12 : Int)
def F70.b_l0 (c66 : F66.E) (c106 : F106.E) (c107 : F107.E) (r_g11 : LO → LO → LLB → LB → X_Object → LLB → Int → Int → Option LO) (x0 : LO) (x1 : LO) (x2 : LLB) (x10 : LLB) (x11 : Int) (x12 : Int) : Option LO :=
 bif (decide (x12 < x11)) then
 if 0 ≤ x12 ∧ x12 < ((List.length x10) : Int) then
 (c106 ((List.getD x10 (Int.toNat x12) []), [58])).bind fun y2 =>
 bif y2.2.2 then
 (c107 ((List.take (List.length x2) x2), y2.2.1)).bind fun y3 =>
 if 0 ≤ y3 ∧ y3 < (((List.length x1) : Nat) : Int) then
 if 1 ≤ (List.length ([x12] : LI)) ∧ (1 + (List.length ((((((List.getD x1 (0 + Int.toNat y3) Z_Object).2).2).2).2).1))) * 8 ≤ LIM then
 r_g11 (List.take (List.length x0) x0) (List.take (List.length x1) x1) (List.take (List.length x2) x2) y2.1 ((9 : Int), (y2.1, ((0 : Int), ((List.take 1 ([y3] : LI)), ((List.take (List.length (List.append (List.take 1 ([x12] : LI)) ((((((List.getD x1 (0 + Int.toNat y3) Z_Object).2).2).2).2).1))) (List.append (List.take 1 ([x12] : LI)) ((((((List.getD x1 (0 + Int.toNat y3) Z_Object).2).2).2).2).1))), (([] : LLB), (([] : LV), (([] : LV), ((0 : Int), (0 : Int)))))))))) x10 x11 x12
 else none
 else none
 else
 r_g11 (List.take (List.length x0) x0) (List.take (List.length x1) x1) (List.take (List.length x2) x2) y2.1 ((9 : Int), (y2.1, ((0 : Int), (([] : LI), ((List.take 1 ([x12] : LI)), (([] : LLB), (([] : LV), (([] : LV), ((0 : Int), (0 : Int)))))))))) x10 x11 x12
 else none
 else
 some (List.take (List.length x1) x1)
def F70.l0 : Nat → LO → LO → LLB → LLB → Int → Int → Option LO
  | 0, _, _, _, _, _, _ => none
  | n + 1, x0, x1, x2, x10, x11, x12 => F70.b_l0 c66 c106 c107 (F70.g11 c66 c106 c107 k (fun x0 x1 x2 x10 x11 x12 => F70.l0 n x0 x1 x2 x10 x11 x12)) x0 x1 x2 x10 x11 x12
theorem F70.e_l0 : F70.M_l0 c66 c106 c107 k n (F70.fr_l0 x0 x1 x2 x10 x11 x12) = F70.l0 c66 c106 c107 k n x0 x1 x2 x10 x11 x12 := by
  induction n generalizing x0 x1 x2 x10 x11 x12 with
  | zero => exact lpAt0
  | succ n ih =>
    refine Eq.trans (b := F70.b_l0 c66 c106 c107 (fun x0 x1 x2 x5 x8 x10 x11 x12 => F70.M_g11 c66 c106 c107 k n (F70.fr_g11 x0 x1 x2 x5 x8 x10 x11 x12)) x0 x1 x2 x10 x11 x12) (by kernel_rfl) ?_
    simp only [F70.e_g11, ih]
    rfl
end
variable (r_l0 : LO → LO → LLB → LLB → Int → Int → Option LO)
def F70.b (c106 : F106.E) (c107 : F107.E) (r_l0 : LO → LO → LLB → LLB → Int → Int → Option LO) : Option LO :=
 (c66 [111, 98, 106, 101, 99, 116, 32, 99, 108, 97, 115, 115, 58, 111, 98, 106, 101, 99, 116, 32, 110, 105, 108, 95, 116, 121, 112, 101, 58, 111, 98, 106, 101, 99, 116, 32, 98, 111, 111, 108, 58, 111, 98, 106, 101, 99, 116, 32, 105, 110, 116, 58, 111, 98, 106, 101, 99, 116, 32, 114, 97, 116, 105, 111, 58, 111, 98, 106, 101, 99, 116, 32, 116, 101, 120, 116, 58, 111, 98, 106, 101, 99, 116, 32, 98, 121, 116, 101, 115, 58, 111, 98, 106, 101, 99, 116, 32, 116, 117, 112, 108, 101, 58, 111, 98, 106, 101, 99, 116, 32, 108, 105, 115, 116, 58, 111, 98, 106, 101, 99, 116, 32, 100, 105, 99, 116, 58, 111, 98, 106, 101, 99, 116, 32, 115, 101, 116, 58, 111, 98, 106, 101, 99, 116, 32, 114, 97, 110, 103, 101, 58, 111, 98, 106, 101, 99, 116, 32, 99, 101, 108, 108, 58, 111, 98, 106, 101, 99, 116, 32, 102, 117, 110, 99, 116, 105, 111, 110, 58, 111, 98, 106, 101, 99, 116, 32, 98, 117, 105, 108, 116, 105, 110, 58, 111, 98, 106, 101, 99, 116, 32, 109, 101, 116, 104, 111, 100, 58, 111, 98, 106, 101, 99, 116, 32, 109, 111, 100, 117, 108, 101, 58, 111, 98, 106, 101, 99, 116, 32, 112, 114, 111, 112, 101, 114, 116, 121, 58, 111, 98, 106, 101, 99, 116, 32, 115, 116, 97, 116, 105, 99, 58, 111, 98, 106, 101, 99, 116, 32, 99, 108, 97, 115, 115, 95, 109, 101, 116, 104, 111, 100, 58, 111, 98, 106, 101, 99, 116, 32, 115, 117, 112, 101, 114, 95, 116, 121, 112, 101, 58, 111, 98, 106, 101, 99, 116, 32, 105, 116, 101, 114, 97, 116, 111, 114, 58, 111, 98, 106, 101, 99, 116, 32, 103, 101, 110, 101, 114, 97, 116, 111, 114, 58, 111, 98, 106, 101, 99, 116, 32, 119, 101, 97, 107, 58, 111, 98, 106, 101, 99, 116, 32, 116, 97, 115, 107, 58, 111, 98, 106, 101, 99, 116, 32, 116, 105, 109, 101, 114, 58, 111, 98, 106, 101, 99, 116, 32, 112, 97, 115, 115, 95, 116, 121, 112, 101, 58, 111, 98, 106, 101, 99, 116, 32, 82, 97, 105, 115, 101, 100, 58, 111, 98, 106, 101, 99, 116, 32, 69, 120, 105, 116, 58, 82, 97, 105, 115, 101, 100, 32, 67, 97, 110, 99, 101, 108, 58, 82, 97, 105, 115, 101, 100, 32, 69, 114, 114, 111, 114, 58, 82, 97, 105, 115, 101, 100, 32, 84, 121, 112, 101, 69, 114, 114, 111, 114, 58, 69, 114, 114, 111, 114, 32, 86, 97, 108, 117, 101, 69, 114, 114, 111, 114, 58, 69, 114, 114, 111, 114, 32, 78, 97, 109, 101, 69, 114, 114, 111, 114, 58, 69, 114, 114, 111, 114, 32, 85, 110, 98, 111, 117, 110, 100, 69, 114, 114, 111, 114, 58, 78, 97, 109, 101, 69, 114, 114, 111, 114, 32, 65, 116, 116, 114, 105, 98, 117, 116, 101, 69, 114, 114, 111, 114, 58, 69, 114, 114, 111, 114, 32, 76, 111, 111, 107, 117, 112, 69, 114, 114, 111, 114, 58, 69, 114, 114, 111, 114, 32, 73, 110, 100, 101, 120, 69, 114, 114, 111, 114, 58, 76, 111, 111, 107, 117, 112, 69, 114, 114, 111, 114, 32, 75, 101, 121, 69, 114, 114, 111, 114, 58, 76, 111, 111, 107, 117, 112, 69, 114, 114, 111, 114, 32, 65, 114, 105, 116, 104, 109, 101, 116, 105, 99, 69, 114, 114, 111, 114, 58, 69, 114, 114, 111, 114, 32, 68, 105, 118, 105, 115, 105, 111, 110, 69, 114, 114, 111, 114, 58, 65, 114, 105, 116, 104, 109, 101, 116, 105, 99, 69, 114, 114, 111, 114, 32, 76, 105, 109, 105, 116, 69, 114, 114, 111, 114, 58, 69, 114, 114, 111, 114, 32, 82, 101, 99, 117, 114, 115, 105, 111, 110, 69, 114, 114, 111, 114, 58, 76, 105, 109, 105, 116, 69, 114, 114, 111, 114, 32, 65, 115, 115, 101, 114, 116, 105, 111, 110, 69, 114, 114, 111, 114, 58, 69, 114, 114, 111, 114, 32, 73, 109, 112, 111, 114, 116, 69, 114, 114, 111, 114, 58, 69, 114, 114, 111, 114, 32, 83, 116, 111, 112, 69, 114, 114, 111, 114, 58, 69, 114, 114, 111, 114, 32, 83, 116, 97, 116, 101, 69, 114, 114, 111, 114, 58, 69, 114, 114, 111, 114, 32, 71, 114, 111, 117, 112, 69, 114, 114, 111, 114, 58, 69, 114, 114, 111, 114]).bind fun y1 =>
 r_l0 ([] : LO) ([] : LO) ([] : LLB) y1 ((List.length y1) : Int) (0 : Int)
def F70.f : Option LO := F70.b c66 c106 c107 (F70.l0 c66 c106 c107 k k)
theorem F70.e : fn (F70.C c66 c106 c107) k Tryz.f70 F70.A F70.R () = F70.f c66 c106 c107 k := by
  refine Eq.trans (b := F70.b c66 c106 c107 (fun x0 x1 x2 x10 x11 x12 => F70.M_l0 c66 c106 c107 k k (F70.fr_l0 x0 x1 x2 x10 x11 x12))) (by kernel_rfl) ?_
  simp only [F70.e_l0]
  rfl
end
def F70.u (k : Nat) : F70.E := fun y => F70.f (F66.u k) (F106.u k) (F107.u k) k
theorem F70.sound (k : Nat) : Sound Tryz.prog ⟨70, F70.A, F70.R, F70.u k⟩ := sn gr Tryz.func70 (fun y => F70.e (F66.u k) (F106.u k) (F107.u k) k) (al (F66.sound k) (al (F106.sound k) (al (F107.sound k) al0)))
/-! ### slices.Equal[[]int,int]: f137 -/
abbrev F137.A : List Sh := [(.d (.sl 3 (.int .i64))), (.d (.sl 3 (.int .i64)))]
abbrev F137.R : List Sh := [(.d .bool)]
abbrev F137.E : Type := (LI × LI) → Option Bool
section
variable (k n : Nat)
def F137.C : Ctx := cx [] [(0, [.d 0 (.sl 3 (.int .i64)), .d 1 (.sl 3 (.int .i64)), .d 12 (.int .i64), .d 13 (.int .i64)])]
noncomputable def F137.M_l0 (s : St) : Option Bool := lpAt F137.C k n [1, 1, 0, 1, 0] [] Tryz.f137 F137.A F137.R s
noncomputable def F137.fr_l0 (x0 : LI) (x1 : LI) (x12 : Int) (x13 : Int) : St := ⟨(((((List.replicate 26 V.un).set 0 (V.dat (.sl 3 (.int .i64)) x0)).set 1 (V.dat (.sl 3 (.int .i64)) x1)).set 12 (V.dat (.int .i64) x12)).set 13 (V.dat (.int .i64) x13)), []⟩
section
variable (n_l0 : LI → LI → Int → Int → Option Bool) (x0 x1 : LI) (x12 x13 : Int)
def F137.b_l0 : Option Bool :=
 bif (decide (x13 < x12)) then
 if 0 ≤ x13 ∧ x13 < ((List.length x0) : Int) then
 if 0 ≤ x13 ∧ x13 < ((List.length x1) : Int) then
 bif ((List.getD x0 (Int.toNat x13) (0 : Int)) != (List.getD x1 (Int.toNat x13) (0 : Int))) then
 some false
 else
 n_l0 x0 x1 x12 (IntKind.i64.wrap (x13 + (1 : Int)))
 else none
 else none
 else
 some true
def F137.l0 (k : Nat) : Nat → LI → LI → Int → Int → Option Bool
  | 0, _, _, _, _ => none
  | n + 1, x0, x1, x12, x13 => F137.b_l0 (fun x0 x1 x12 x13 => F137.l0 k n x0 x1 x12 x13) x0 x1 x12 x13
theorem F137.e_l0 : F137.M_l0 k n (F137.fr_l0 x0 x1 x12 x13) = F137.l0 k n x0 x1 x12 x13 := by
  induction n generalizing x0 x1 x12 x13 with
  | zero => exact lpAt0
  | succ n ih =>
    refine Eq.trans (b := F137.b_l0 (fun x0 x1 x12 x13 => F137.M_l0 k n (F137.fr_l0 x0 x1 x12 x13)) x0 x1 x12 x13) (by kernel_rfl) ?_
    simp only [ih]
    rfl
end
variable (r_l0 : LI → LI → Int → Int → Option Bool) (a0 a1 : LI)
def F137.b : Option Bool :=
 bif (((List.length a0) : Int) != ((List.length a1) : Int)) then
 some false
 else
 r_l0 a0 a1 ((List.length a0) : Int) (0 : Int)
def F137.f : Option Bool := F137.b (F137.l0 k k) a0 a1
theorem F137.e : fn F137.C k Tryz.f137 F137.A F137.R (a0, a1) = F137.f k a0 a1 := by
  refine Eq.trans (b := F137.b (fun x0 x1 x12 x13 => F137.M_l0 k k (F137.fr_l0 x0 x1 x12 x13)) a0 a1) (by kernel_rfl) ?_
  simp only [F137.e_l0]
  rfl
end
def F137.u (k : Nat) : F137.E := fun y => F137.f k y.1 y.2
theorem F137.sound (k : Nat) : Sound Tryz.prog ⟨137, F137.A, F137.R, F137.u k⟩ := sn gr Tryz.func137 (fun y => F137.e k y.1 y.2) al0
/-! ### brindlewood/brindlewoodref7.Ints: f96 -/
abbrev F96.A : List Sh := [(.d (.sl 3 (.int .i64))), (.d (.sl 3 (.int .i64)))]
abbrev F96.R : List Sh := [(.d .bool)]
abbrev F96.E : Type := (LI × LI) → Option Bool
section
variable (c137 : F137.E)
variable (k n : Nat)
def F96.C : Ctx := cx [⟨137, F137.A, F137.R, c137⟩] []
variable (a0 a1 : LI)
def F96.b : Option Bool :=
 (c137 (a0, a1)).bind fun y1 =>
 some y1
def F96.f (k : Nat) (a0 : LI) (a1 : LI) : Option Bool := F96.b c137 a0 a1
theorem F96.e : fn (F96.C c137) k Tryz.f96 F96.A F96.R (a0, a1) = F96.f c137 k a0 a1 := by
  kernel_rfl
end
def F96.u (k : Nat) : F96.E := fun y => F96.f (F137.u k) k y.1 y.2
theorem F96.sound (k : Nat) : Sound Tryz.prog ⟨96, F96.A, F96.R, F96.u k⟩ := sn gr Tryz.func96 (fun y => F96.e (F137.u k) k y.1 y.2) (al (F137.sound k) al0)
/-! ### slices.Equal[[]string,string]: f59 -/
abbrev F59.A : List Sh := [(.d (.sl 9 .str)), (.d (.sl 9 .str))]
abbrev F59.R : List Sh := [(.d .bool)]
abbrev F59.E : Type := (LLB × LLB) → Option Bool
section
variable (k n : Nat)
def F59.C : Ctx := cx [] [(0, [.d 0 (.sl 9 .str), .d 1 (.sl 9 .str), .d 12 (.int .i64), .d 13 (.int .i64)])]
noncomputable def F59.M_l0 (s : St) : Option Bool := lpAt F59.C k n [1, 1, 0, 1, 0] [] Tryz.f59 F59.A F59.R s
noncomputable def F59.fr_l0 (x0 : LLB) (x1 : LLB) (x12 : Int) (x13 : Int) : St := ⟨(((((List.replicate 26 V.un).set 0 (V.dat (.sl 9 .str) x0)).set 1 (V.dat (.sl 9 .str) x1)).set 12 (V.dat (.int .i64) x12)).set 13 (V.dat (.int .i64) x13)), []⟩
section
variable (n_l0 : LLB → LLB → Int → Int → Option Bool) (x0 x1 : LLB) (x12 x13 : Int)
def F59.b_l0 : Option Bool :=
 bif (decide (x13 < x12)) then
 if 0 ≤ x13 ∧ x13 < ((List.length x0) : Int) then
 if 0 ≤ x13 ∧ x13 < ((List.length x1) : Int) then
 bif ((List.getD x0 (Int.toNat x13) []) != (List.getD x1 (Int.toNat x13) [])) then
 some false
 else
 n_l0 x0 x1 x12 (IntKind.i64.wrap (x13 + (1 : Int)))
 else none
 else none
 else
 some true
def F59.l0 (k : Nat) : Nat → LLB → LLB → Int → Int → Option Bool
  | 0, _, _, _, _ => none
  | n + 1, x0, x1, x12, x13 => F59.b_l0 (fun x0 x1 x12 x13 => F59.l0 k n x0 x1 x12 x13) x0 x1 x12 x13
theorem F59.e_l0 : F59.M_l0 k n (F59.fr_l0 x0 x1 x12 x13) = F59.l0 k n x0 x1 x12 x13 := by
  induction n generalizing x0 x1 x12 x13 with
  | zero => exact lpAt0
  | succ n ih =>
    refine Eq.trans (b := F59.b_l0 (fun x0 x1 x12 x13 => F59.M_l0 k n (F59.fr_l0 x0 x1 x12 x13)) x0 x1 x12 x13) (by kernel_rfl) ?_
    simp only [ih]
    rfl
end
variable (r_l0 : LLB → LLB → Int → Int → Option Bool) (a0 a1 : LLB)
def F59.b : Option Bool :=
 bif (((List.length a0) : Int) != ((List.length a1) : Int)) then
 some false
 else
 r_l0 a0 a1 ((List.length a0) : Int) (0 : Int)
def F59.f : Option Bool := F59.b (F59.l0 k k) a0 a1
theorem F59.e : fn F59.C k Tryz.f59 F59.A F59.R (a0, a1) = F59.f k a0 a1 := by
  refine Eq.trans (b := F59.b (fun x0 x1 x12 x13 => F59.M_l0 k k (F59.fr_l0 x0 x1 x12 x13)) a0 a1) (by kernel_rfl) ?_
  simp only [F59.e_l0]
  rfl
end
def F59.u (k : Nat) : F59.E := fun y => F59.f k y.1 y.2
theorem F59.sound (k : Nat) : Sound Tryz.prog ⟨59, F59.A, F59.R, F59.u k⟩ := sn gr Tryz.func59 (fun y => F59.e k y.1 y.2) al0
/-! ### brindlewood/brindlewoodref7.Strings: f16 -/
abbrev F16.A : List Sh := [(.d (.sl 9 .str)), (.d (.sl 9 .str))]
abbrev F16.R : List Sh := [(.d .bool)]
abbrev F16.E : Type := (LLB × LLB) → Option Bool
section
variable (c59 : F59.E)
variable (k n : Nat)
def F16.C : Ctx := cx [⟨59, F59.A, F59.R, c59⟩] []
variable (a0 a1 : LLB)
def F16.b : Option Bool :=
 (c59 (a0, a1)).bind fun y1 =>
 some y1
def F16.f (k : Nat) (a0 : LLB) (a1 : LLB) : Option Bool := F16.b c59 a0 a1
theorem F16.e : fn (F16.C c59) k Tryz.f16 F16.A F16.R (a0, a1) = F16.f c59 k a0 a1 := by
  kernel_rfl
end
def F16.u (k : Nat) : F16.E := fun y => F16.f (F59.u k) k y.1 y.2
theorem F16.sound (k : Nat) : Sound Tryz.prog ⟨16, F16.A, F16.R, F16.u k⟩ := sn gr Tryz.func16 (fun y => F16.e (F59.u k) k y.1 y.2) (al (F59.sound k) al0)
/-! ### slices.Equal[[]uint32,uint32]: f97 -/
abbrev F97.A : List Sh := [(.d (.sl 109 (.int .u32))), (.d (.sl 109 (.int .u32)))]
abbrev F97.R : List Sh := [(.d .bool)]
abbrev F97.E : Type := (LI × LI) → Option Bool
section
variable (k n : Nat)
def F97.C : Ctx := cx [] [(0, [.d 0 (.sl 109 (.int .u32)), .d 1 (.sl 109 (.int .u32)), .d 12 (.int .i64), .d 13 (.int .i64)])]
noncomputable def F97.M_l0 (s : St) : Option Bool := lpAt F97.C k n [1, 1, 0, 1, 0] [] Tryz.f97 F97.A F97.R s
noncomputable def F97.fr_l0 (x0 : LI) (x1 : LI) (x12 : Int) (x13 : Int) : St := ⟨(((((List.replicate 26 V.un).set 0 (V.dat (.sl 109 (.int .u32)) x0)).set 1 (V.dat (.sl 109 (.int .u32)) x1)).set 12 (V.dat (.int .i64) x12)).set 13 (V.dat (.int .i64) x13)), []⟩
section
variable (n_l0 : LI → LI → Int → Int → Option Bool) (x0 x1 : LI) (x12 x13 : Int)
def F97.b_l0 : Option Bool :=
 bif (decide (x13 < x12)) then
 if 0 ≤ x13 ∧ x13 < ((List.length x0) : Int) then
 if 0 ≤ x13 ∧ x13 < ((List.length x1) : Int) then
 bif ((List.getD x0 (Int.toNat x13) (0 : Int)) != (List.getD x1 (Int.toNat x13) (0 : Int))) then
 some false
 else
 n_l0 x0 x1 x12 (IntKind.i64.wrap (x13 + (1 : Int)))
 else none
 else none
 else
 some true
def F97.l0 (k : Nat) : Nat → LI → LI → Int → Int → Option Bool
  | 0, _, _, _, _ => none
  | n + 1, x0, x1, x12, x13 => F97.b_l0 (fun x0 x1 x12 x13 => F97.l0 k n x0 x1 x12 x13) x0 x1 x12 x13
theorem F97.e_l0 : F97.M_l0 k n (F97.fr_l0 x0 x1 x12 x13) = F97.l0 k n x0 x1 x12 x13 := by
  induction n generalizing x0 x1 x12 x13 with
  | zero => exact lpAt0
  | succ n ih =>
    refine Eq.trans (b := F97.b_l0 (fun x0 x1 x12 x13 => F97.M_l0 k n (F97.fr_l0 x0 x1 x12 x13)) x0 x1 x12 x13) (by kernel_rfl) ?_
    simp only [ih]
    rfl
end
variable (r_l0 : LI → LI → Int → Int → Option Bool) (a0 a1 : LI)
def F97.b : Option Bool :=
 bif (((List.length a0) : Int) != ((List.length a1) : Int)) then
 some false
 else
 r_l0 a0 a1 ((List.length a0) : Int) (0 : Int)
def F97.f : Option Bool := F97.b (F97.l0 k k) a0 a1
theorem F97.e : fn F97.C k Tryz.f97 F97.A F97.R (a0, a1) = F97.f k a0 a1 := by
  refine Eq.trans (b := F97.b (fun x0 x1 x12 x13 => F97.M_l0 k k (F97.fr_l0 x0 x1 x12 x13)) a0 a1) (by kernel_rfl) ?_
  simp only [F97.e_l0]
  rfl
end
def F97.u (k : Nat) : F97.E := fun y => F97.f k y.1 y.2
theorem F97.sound (k : Nat) : Sound Tryz.prog ⟨97, F97.A, F97.R, F97.u k⟩ := sn gr Tryz.func97 (fun y => F97.e k y.1 y.2) al0
/-! ### brindlewood/brindlewoodref7.SameInt: f58 -/
abbrev F58.A : List Sh := [(.d Y_Int), (.d Y_Int)]
abbrev F58.R : List Sh := [(.d .bool)]
abbrev F58.E : Type := X_Ratio → Option Bool
section
variable (c97 : F97.E)
variable (k n : Nat)
def F58.C : Ctx := cx [⟨97, F97.A, F97.R, c97⟩] []
variable (a0 a1 : Bool × LI)
def F58.b : Option Bool :=
 bif (a0.1 == a1.1) then
 (c97 (a0.2, a1.2)).bind fun y1 =>
 some y1
 else
 some false
def F58.f (k : Nat) (a0 : Bool × LI) (a1 : Bool × LI) : Option Bool := F58.b c97 a0 a1
theorem F58.e : fn (F58.C c97) k Tryz.f58 F58.A F58.R (a0, a1) = F58.f c97 k a0 a1 := by
  kernel_rfl
end
def F58.u (k : Nat) : F58.E := fun y => F58.f (F97.u k) k y.1 y.2
theorem F58.sound (k : Nat) : Sound Tryz.prog ⟨58, F58.A, F58.R, F58.u k⟩ := sn gr Tryz.func58 (fun y => F58.e (F97.u k) k y.1 y.2) (al (F97.sound k) al0)
/-! ### brindlewood/brindlewoodref7.SameValue: f14 -/
abbrev F14.A : List Sh := [(.d Y_Value), (.d Y_Value)]
abbrev F14.R : List Sh := [(.d .bool)]
abbrev F14.E : Type := (X_Value × X_Value) → Option Bool
section
variable (c58 : F58.E)
variable (k n : Nat)
def F14.C : Ctx := cx [⟨58, F58.A, F58.R, c58⟩] []
variable (a0 a1 : Int × (X_Int × (X_Int × X_errorAddressString)))
def F14.b : Option Bool :=
 bif (a0.1 == a1.1) then
 bif (a0.2.2.2.2 == a1.2.2.2.2) then
 bif (a0.2.2.2.1 == a1.2.2.2.1) then
 (c58 (a0.2.1, a1.2.1)).bind fun y1 =>
 bif y1 then
 (c58 (a0.2.2.1, a1.2.2.1)).bind fun y2 =>
 some y2
 else
 some false
 else
 some false
 else
 some false
 else
 some false
def F14.f (k : Nat) (a0 : Int × (X_Int × (X_Int × X_errorAddressString))) (a1 : Int × (X_Int × (X_Int × X_errorAddressString))) : Option Bool := F14.b c58 a0 a1
theorem F14.e : fn (F14.C c58) k Tryz.f14 F14.A F14.R (a0, a1) = F14.f c58 k a0 a1 := by
  kernel_rfl
end
def F14.u (k : Nat) : F14.E := fun y => F14.f (F58.u k) k y.1 y.2
theorem F14.sound (k : Nat) : Sound Tryz.prog ⟨14, F14.A, F14.R, F14.u k⟩ := sn gr Tryz.func14 (fun y => F14.e (F58.u k) k y.1 y.2) (al (F58.sound k) al0)
/-! ### brindlewood/brindlewoodref7.SameValues: f15 -/
abbrev F15.A : List Sh := [(.d (.sl 29 Y_Value)), (.d (.sl 29 Y_Value))]
abbrev F15.R : List Sh := [(.d .bool)]
abbrev F15.E : Type := (LV × LV) → Option Bool
section
variable (c14 : F14.E)
variable (k n : Nat)
def F15.C : Ctx := cx [⟨14, F14.A, F14.R, c14⟩] [(0, [.d 0 (.sl 29 Y_Value), .d 1 (.sl 29 Y_Value), .d 12 (.int .i64), .d 13 (.int .i64)])]
noncomputable def F15.M_l0 (s : St) : Option Bool := lpAt (F15.C c14) k n [1, 1, 0, 1, 0] [] Tryz.f15 F15.A F15.R s
noncomputable def F15.fr_l0 (x0 : LV) (x1 : LV) (x12 : Int) (x13 : Int) : St := ⟨(((((List.replicate 27 V.un).set 0 (V.dat (.sl 29 Y_Value) x0)).set 1 (V.dat (.sl 29 Y_Value) x1)).set 12 (V.dat (.int .i64) x12)).set 13 (V.dat (.int .i64) x13)), []⟩
section
variable (n_l0 : LV → LV → Int → Int → Option Bool) (x0 x1 : LV) (x12 x13 : Int)
def F15.b_l0 : Option Bool :=
 bif (decide (x13 < x12)) then
 if 0 ≤ x13 ∧ x13 < ((List.length x0) : Int) then
 if 0 ≤ x13 ∧ x13 < ((List.length x1) : Int) then
 (c14 ((List.getD x0 (Int.toNat x13) Z_Value), (List.getD x1 (Int.toNat x13) Z_Value))).bind fun y1 =>
 bif (!y1) then
 some false
 else
 n_l0 x0 x1 x12 (IntKind.i64.wrap (x13 + (1 : Int)))
 else none
 else none
 else
 some true
def F15.l0 (k : Nat) : Nat → LV → LV → Int → Int → Option Bool
  | 0, _, _, _, _ => none
  | n + 1, x0, x1, x12, x13 => F15.b_l0 c14 (fun x0 x1 x12 x13 => F15.l0 k n x0 x1 x12 x13) x0 x1 x12 x13
theorem F15.e_l0 : F15.M_l0 c14 k n (F15.fr_l0 x0 x1 x12 x13) = F15.l0 c14 k n x0 x1 x12 x13 := by
  induction n generalizing x0 x1 x12 x13 with
  | zero => exact lpAt0
  | succ n ih =>
    refine Eq.trans (b := F15.b_l0 c14 (fun x0 x1 x12 x13 => F15.M_l0 c14 k n (F15.fr_l0 x0 x1 x12 x13)) x0 x1 x12 x13) (by kernel_rfl) ?_
    simp only [ih]
    rfl
end
variable (r_l0 : LV → LV → Int → Int → Option Bool) (a0 a1 : LV)
def F15.b (c14 : F14.E) (r_l0 : LV → LV → Int → Int → Option Bool) (a0 : LV) (a1 : LV) : Option Bool :=
 bif (((List.length a0) : Int) != ((List.length a1) : Int)) then
 some false
 else
 r_l0 a0 a1 ((List.length a0) : Int) (0 : Int)
def F15.f : Option Bool := F15.b c14 (F15.l0 c14 k k) a0 a1
theorem F15.e : fn (F15.C c14) k Tryz.f15 F15.A F15.R (a0, a1) = F15.f c14 k a0 a1 := by
  refine Eq.trans (b := F15.b c14 (fun x0 x1 x12 x13 => F15.M_l0 c14 k k (F15.fr_l0 x0 x1 x12 x13)) a0 a1) (by kernel_rfl) ?_
  simp only [F15.e_l0]
  rfl
end
def F15.u (k : Nat) : F15.E := fun y => F15.f (F14.u k) k y.1 y.2
theorem F15.sound (k : Nat) : Sound Tryz.prog ⟨15, F15.A, F15.R, F15.u k⟩ := sn gr Tryz.func15 (fun y => F15.e (F14.u k) k y.1 y.2) (al (F14.sound k) al0)
/-! ### brindlewood/brindlewoodref7.SameObject: f49 -/
abbrev F49.A : List Sh := [(.d Y_Object), (.d Y_Object)]
abbrev F49.R : List Sh := [(.d .bool)]
abbrev F49.E : Type := (X_Object × X_Object) → Option Bool
section
variable (c96 : F96.E) (c16 : F16.E) (c15 : F15.E)
variable (k n : Nat)
def F49.C : Ctx := cx [⟨96, F96.A, F96.R, c96⟩, ⟨16, F16.A, F16.R, c16⟩, ⟨15, F15.A, F15.R, c15⟩] []
variable (a0 a1 : Int × (LB × (Int × (LI × (LI × (LLB × (LV × (LV × X_acceptRange))))))))
def F49.b : Option Bool :=
 bif (a0.1 == a1.1) then
 bif (a0.2.1 == a1.2.1) then
 bif (a0.2.2.1 == a1.2.2.1) then
 bif (a0.2.2.2.2.2.2.2.2.1 == a1.2.2.2.2.2.2.2.2.1) then
 bif (a0.2.2.2.2.2.2.2.2.2 == a1.2.2.2.2.2.2.2.2.2) then
 (c96 (a0.2.2.2.1, a1.2.2.2.1)).bind fun y1 =>
 bif y1 then
 (c96 (a0.2.2.2.2.1, a1.2.2.2.2.1)).bind fun y2 =>
 bif y2 then
 (c16 (a0.2.2.2.2.2.1, a1.2.2.2.2.2.1)).bind fun y3 =>
 bif y3 then
 (c15 (a0.2.2.2.2.2.2.1, a1.2.2.2.2.2.2.1)).bind fun y4 =>
 bif y4 then
 (c15 (a0.2.2.2.2.2.2.2.1, a1.2.2.2.2.2.2.2.1)).bind fun y5 =>
 some y5
 else
 some false
 else
 some false
 else
 some false
 else
 some false
 else
 some false
 else
 some false
 else
 some false
 else
 some false
 else
 some false
def F49.f (k : Nat) (a0 : Int × (LB × (Int × (LI × (LI × (LLB × (LV × (LV × X_acceptRange)))))))) (a1 : Int × (LB × (Int × (LI × (LI × (LLB × (LV × (LV × X_acceptRange)))))))) : Option Bool := F49.b c96 c16 c15 a0 a1
theorem F49.e : fn (F49.C c96 c16 c15) k Tryz.f49 F49.A F49.R (a0, a1) = F49.f c96 c16 c15 k a0 a1 := by
  kernel_rfl
end
def F49.u (k : Nat) : F49.E := fun y => F49.f (F96.u k) (F16.u k) (F15.u k) k y.1 y.2
theorem F49.sound (k : Nat) : Sound Tryz.prog ⟨49, F49.A, F49.R, F49.u k⟩ := sn gr Tryz.func49 (fun y => F49.e (F96.u k) (F16.u k) (F15.u k) k y.1 y.2) (al (F96.sound k) (al (F16.sound k) (al (F15.sound k) al0)))
/-! ### brindlewood/brindlewoodref7.used: f108 -/
abbrev F108.A : List Sh := [(.d (.int .i64))]
abbrev F108.R : List Sh := [(.d .str)]
abbrev F108.E : Type := Int → Option LB
section
variable (c151 : F151.E)
variable (k n : Nat)
def F108.C : Ctx := cx [⟨151, F151.A, F151.R, c151⟩] []
variable (a0 : Int)
def F108.b : Option LB :=
 (c151 ([32, 42, 32, 42, 32, 107, 58, 32, 107, 48, 32, 51, 32, 49, 32, 110, 99, 114, 100, 115, 42, 32, 50, 32, 110, 114, 97, 115, 61, 32, 99, 97, 61, 32, 110, 97, 61, 32, 51, 32, 49, 32, 49, 32, 50, 32, 115, 50, 32, 110, 100, 115, 42, 32, 115, 48, 32, 115, 50, 32, 49], [32])).bind fun y1 =>
 if 0 ≤ a0 ∧ a0 < ((List.length y1) : Int) then
 some (List.getD y1 (Int.toNat a0) [])
 else none
def F108.f (k : Nat) (a0 : Int) : Option LB := F108.b c151 a0
theorem F108.e : fn (F108.C c151) k Tryz.f108 F108.A F108.R a0 = F108.f c151 k a0 := by
  kernel_rfl
end
def F108.u (k : Nat) : F108.E := fun y => F108.f (F151.u k) k y
theorem F108.sound (k : Nat) : Sound Tryz.prog ⟨108, F108.A, F108.R, F108.u k⟩ := sn gr Tryz.func108 (fun y => F108.e (F151.u k) k y) (al (F151.sound k) al0)
/-! ### brindlewood/brindlewoodref7.greatest: f110 -/
abbrev F110.A : List Sh := [(.d (.int .i64))]
abbrev F110.R : List Sh := [(.d (.int .i64))]
abbrev F110.E : Type := Int → Option Int
section
variable (k n : Nat)
def F110.C : Ctx := cx [] []
variable (a0 : Int)
def F110.b : Option Int :=
 bif (a0 == (7 : Int)) then
 some (1 : Int)
 else
 bif (a0 == (17 : Int)) then
 some (3 : Int)
 else
 bif (a0 == (19 : Int)) then
 some (3 : Int)
 else
 bif (a0 == (16 : Int)) then
 bif (a0 == (16 : Int)) then
 some (1099511627776 : Int)
 else
 bif (a0 == (18 : Int)) then
 some (5000 : Int)
 else
 some (0 : Int)
 else
 bif (a0 == (9 : Int)) then
 some (1099511627776 : Int)
 else
 bif (a0 == (18 : Int)) then
 some (5000 : Int)
 else
 some (0 : Int)
def F110.f (k : Nat) (a0 : Int) : Option Int := F110.b a0
theorem F110.e : fn F110.C k Tryz.f110 F110.A F110.R a0 = F110.f k a0 := by
  kernel_rfl
end
def F110.u (k : Nat) : F110.E := fun y => F110.f k y
theorem F110.sound (k : Nat) : Sound Tryz.prog ⟨110, F110.A, F110.R, F110.u k⟩ := sn gr Tryz.func110 (fun y => F110.e k y) al0
/-! ### brindlewood/brindlewoodref7.shape: f71 -/
abbrev F71.A : List Sh := [(.d Y_Heap), (.d (.int .i64))]
abbrev F71.R : List Sh := [(.d (.int .i64))]
abbrev F71.E : Type := (LO × Int) → Option Int
section
variable (c108 : F108.E) (c109 : F109.E) (c110 : F110.E)
variable (k n : Nat)
def F71.C : Ctx := cx [⟨108, F108.A, F108.R, c108⟩, ⟨109, F109.A, F109.R, c109⟩, ⟨110, F110.A, F110.R, c110⟩] [(0, [.bx 5 600005 (.d Y_Object), .d 6 .str, .d 7 .str, .o 8 500008 4 .bool, .d 46 (.int .i64), .d 47 (.int .i64)]), (100022, [.bx 5 600005 (.d Y_Object), .d 10 (.int .i64)])]
noncomputable def F71.M_l0 (s : St) : Option Int := lpAt (F71.C c108 c109 c110) k n [1, 1, 1, 1, 1, 0, 1, 0] [] Tryz.f71 F71.A F71.R s
noncomputable def F71.fr_l0 (x5 : Int × (LB × (Int × (LI × (LI × (LLB × (LV × (LV × X_acceptRange)))))))) (x6 : LB) (x7 : LB) (x8 : List Bool) (x46 : Int) (x47 : Int) : St := ⟨(((((((List.replicate 126 V.un).set 5 (V.bp 600005 0 [])).set 6 (V.dat .str x6)).set 7 (V.dat .str x7)).set 8 (V.ref 500008 0 0 (List.length x8))).set 46 (V.dat (.int .i64) x46)).set 47 (V.dat (.int .i64) x47)), [⟨500008, 0, .arr 4 .bool x8⟩, ⟨600005, 0, .box (V.dat Y_Object x5)⟩]⟩
noncomputable def F71.M_g22 (s : St) : Option Int := gtAt (F71.C c108 c109 c110) k [1, 1, 1, 1, 1, 1, 1, 1, 0, 0] [] Tryz.f71 F71.A F71.R s
noncomputable def F71.fr_g22 (x5 : Int × (LB × (Int × (LI × (LI × (LLB × (LV × (LV × X_acceptRange)))))))) (x10 : Int) : St := ⟨(((List.replicate 126 V.un).set 5 (V.bp 600005 0 [])).set 10 (V.dat (.int .i64) x10)), [⟨600005, 0, .box (V.dat Y_Object x5)⟩]⟩
section
variable (x5 : Int × (LB × (Int × (LI × (LI × (LLB × (LV × (LV × X_acceptRange)))))))) (x10 : Int)
def F71.b_g22 (c108 : F108.E) (c109 : F109.E) (c110 : F110.E) (x5 : Int × (LB × (Int × (LI × (LI × (LLB × (LV × (LV × X_acceptRange)))))))) (x10 : Int) : Option Int :=
 bif (((List.length x5.2.2.2.2.2.2.1) : Int) != x10) then
 some (6 : Int)
 else
 bif (decide (x5.2.2.2.2.2.2.2.2.1 < (0 : Int))) then
 some (6 : Int)
 else
 bif (decide (x5.2.2.2.2.2.2.2.2.2 < (0 : Int))) then
 some (6 : Int)
 else
 (c110 x5.1).bind fun y3 =>
 bif (decide (x5.2.2.2.2.2.2.2.2.2 > y3)) then
 some (6 : Int)
 else
 bif (x5.1 != (9 : Int)) then
 bif (decide (((List.length x5.2.2.2.2.1) : Int) > (0 : Int))) then
 some (6 : Int)
 else
 some (0 : Int)
 else
 some (0 : Int)
def F71.g22 : Option Int := gate k (F71.b_g22 c108 c109 c110 x5 x10)
theorem F71.e_g22 : F71.M_g22 c108 c109 c110 k (F71.fr_g22 x5 x10) = F71.g22 c108 c109 c110 k x5 x10 := by
  kernel_rfl
end
section
variable (n_l0 : X_Object → LB → LB → (List Bool) → Int → Int → Option Int) (r_g22 : X_Object → Int → Option Int) (x5 : Int × (LB × (Int × (LI × (LI × (LLB × (LV × (LV × X_acceptRange)))))))) (x6 x7 : LB) (x8 : List Bool) (x46 x47 : Int)
def F71.b_l0 (c108 : F108.E) (c109 : F109.E) (c110 : F110.E) (n_l0 : X_Object → LB → LB → (List Bool) → Int → Int → Option Int) (r_g22 : X_Object → Int → Option Int) (x5 : Int × (LB × (Int × (LI × (LI × (LLB × (LV × (LV × X_acceptRange)))))))) (x6 : LB) (x7 : LB) (x8 : List Bool) (x46 : Int) (x47 : Int) : Option Int :=
 bif (decide (x47 < x46)) then
 if 0 ≤ x47 ∧ x47 < (((List.length x8) : Nat) : Int) then
 bif (!(List.getD x8 (0 + Int.toNat x47) false)) then
 if 0 ≤ x47 ∧ x47 ≤ (IntKind.i64.wrap (x47 + (1 : Int))) ∧ (IntKind.i64.wrap (x47 + (1 : Int))) ≤ ((List.length x7) : Int) then
 (c109 (x6, (List.drop (Int.toNat x47) (List.take (Int.toNat (IntKind.i64.wrap (x47 + (1 : Int)))) x7)))).bind fun y2 =>
 bif (!y2) then
 some (6 : Int)
 else
 n_l0 x5 x6 x7 (List.take (List.length x8) x8) x46 (IntKind.i64.wrap (x47 + (1 : Int)))
 else none
 else
 n_l0 x5 x6 x7 (List.take (List.length x8) x8) x46 (IntKind.i64.wrap (x47 + (1 : Int)))
 else none
 else
 bif (x6 != []) then
 if 0 ≤ (IntKind.i64.wrap (((List.length x6) : Int) - (1 : Int))) ∧ (IntKind.i64.wrap (((List.length x6) : Int) - (1 : Int))) < ((List.length x6) : Int) then
 bif (((List.getD x6 (Int.toNat (IntKind.i64.wrap (((List.length x6) : Int) - (1 : Int)))) 0).toNat : Int) == (42 : Int)) then
 r_g22 x5 ((List.length x5.2.2.2.2.2.2.1) : Int)
 else
 bif (((List.getD x6 (Int.toNat (IntKind.i64.wrap (((List.length x6) : Int) - (1 : Int)))) 0).toNat : Int) == (61 : Int)) then
 r_g22 x5 ((List.length x5.2.2.2.2.2.1) : Int)
 else
 bif (((List.getD x6 (Int.toNat (IntKind.i64.wrap (((List.length x6) : Int) - (1 : Int)))) 0).toNat : Int) == (58 : Int)) then
 r_g22 x5 ((List.length x5.2.2.2.2.2.2.2.1) : Int)
 else
 r_g22 x5 (IntKind.i64.wrap (IntKind.u8.wrap (((List.getD x6 (Int.toNat (IntKind.i64.wrap (((List.length x6) : Int) - (1 : Int)))) 0).toNat : Int) - (48 : Int))))
 else none
 else
 r_g22 x5 (0 : Int)
def F71.c_l0 (c108 : F108.E) (c109 : F109.E) (c110 : F110.E) (n_l0 : X_Object → LB → LB → (List Bool) → Int → Int → Option Int) (r_g22 : X_Object → Int → Option Int) (x5 : Int × (LB × (Int × (LI × (LI × (LLB × (LV × (LV × X_acceptRange)))))))) (x6 : LB) (x7 : LB) (x8 : List Bool) (x46 : Int) (x47 : Int) : Option Int :=
 bif (decide (x47 < x46)) then
 if 0 ≤ x47 ∧ x47 < ((List.length x8) : Int) then
 bif (! (List.getD x8 (0 + Int.toNat x47) false)) then
 if 0 ≤ x47 ∧ x47 ≤ (IntKind.i64.wrap (x47 + (1 : Int))) ∧ (IntKind.i64.wrap (x47 + (1 : Int))) ≤ ((List.length x7) : Int) then
 (c109 (x6, (List.drop (Int.toNat x47) (List.take (Int.toNat (IntKind.i64.wrap (x47 + (1 : Int)))) x7)))).bind fun y2 =>
 bif !y2 then
 some (6 : Int)
 else
 n_l0 x5 x6 x7 x8 x46 (IntKind.i64.wrap (x47 + (1 : Int)))
 else none
 else
 n_l0 x5 x6 x7 x8 x46 (IntKind.i64.wrap (x47 + (1 : Int)))
 else none
 else
 bif (x6 != []) then
 if 0 ≤ (IntKind.i64.wrap (((List.length x6) : Int) - (1 : Int))) ∧ (IntKind.i64.wrap (((List.length x6) : Int) - (1 : Int))) < ((List.length x6) : Int) then
 bif (((List.getD x6 (Int.toNat (IntKind.i64.wrap (((List.length x6) : Int) - (1 : Int)))) 0).toNat : Int) == (42 : Int)) then
 r_g22 x5 ((List.length x5.2.2.2.2.2.2.1) : Int)
 else
 bif (((List.getD x6 (Int.toNat (IntKind.i64.wrap (((List.length x6) : Int) - (1 : Int)))) 0).toNat : Int) == (61 : Int)) then
 r_g22 x5 ((List.length x5.2.2.2.2.2.1) : Int)
 else
 bif (((List.getD x6 (Int.toNat (IntKind.i64.wrap (((List.length x6) : Int) - (1 : Int)))) 0).toNat : Int) == (58 : Int)) then
 r_g22 x5 ((List.length x5.2.2.2.2.2.2.2.1) : Int)
 else
 r_g22 x5 (IntKind.i64.wrap (IntKind.u8.wrap (((List.getD x6 (Int.toNat (IntKind.i64.wrap (((List.length x6) : Int) - (1 : Int)))) 0).toNat : Int) - (48 : Int))))
 else none
 else
 r_g22 x5 (0 : Int)
theorem F71.q_l0 : F71.b_l0 c108 c109 c110 n_l0 r_g22 x5 x6 x7 x8 x46 x47 = F71.c_l0 c108 c109 c110 n_l0 r_g22 x5 x6 x7 x8 x46 x47 := by
  simp only [F71.b_l0, F71.c_l0, qq]
def F71.l0 : Nat → X_Object → LB → LB → (List Bool) → Int → Int → Option Int
  | 0, _, _, _, _, _, _ => none
  | n + 1, x5, x6, x7, x8, x46, x47 => F71.b_l0 c108 c109 c110 (fun x5 x6 x7 x8 x46 x47 => F71.l0 n x5 x6 x7 x8 x46 x47) (F71.g22 c108 c109 c110 k) x5 x6 x7 x8 x46 x47
theorem F71.e_l0 : F71.M_l0 c108 c109 c110 k n (F71.fr_l0 x5 x6 x7 x8 x46 x47) = F71.l0 c108 c109 c110 k n x5 x6 x7 x8 x46 x47 := by
  induction n generalizing x5 x6 x7 x8 x46 x47 with
  | zero => exact lpAt0
  | succ n ih =>
    refine Eq.trans (b := F71.b_l0 c108 c109 c110 (fun x5 x6 x7 x8 x46 x47 => F71.M_l0 c108 c109 c110 k n (F71.fr_l0 x5 x6 x7 x8 x46 x47)) (fun x5 x10 => F71.M_g22 c108 c109 c110 k (F71.fr_g22 x5 x10)) x5 x6 x7 x8 x46 x47) (by kernel_rfl) ?_
    simp only [F71.e_g22, ih]
    rfl
end
variable (r_l0 : X_Object → LB → LB → (List Bool) → Int → Int → Option Int) (a0 : LO) (a1 : Int)
def F71.b (c109 : F109.E) (c110 : F110.E) (r_l0 : X_Object → LB → LB → (List Bool) → Int → Int → Option Int) (a0 : LO) (a1 : Int) : Option Int :=
 if 0 ≤ a1 ∧ a1 < ((List.length a0) : Int) then
 (c108 ((List.getD a0 (Int.toNat a1) Z_Object).1)).bind fun y1 =>
 r_l0 (List.getD a0 (Int.toNat a1) Z_Object) y1 [110, 99, 114, 97, 107, 100, 115] (List.take 7 ([((((List.getD a0 (Int.toNat a1) Z_Object).2).1) == []), (((((List.getD a0 (Int.toNat a1) Z_Object).2).2).1) == (0 : Int)), (((List.length (((((List.getD a0 (Int.toNat a1) Z_Object).2).2).2).1)) : Int) == (0 : Int)), (((List.length (((((((List.getD a0 (Int.toNat a1) Z_Object).2).2).2).2).2).1)) : Int) == (0 : Int)), (((List.length (((((((((List.getD a0 (Int.toNat a1) Z_Object).2).2).2).2).2).2).2).1)) : Int) == (0 : Int)), (((((((((((List.getD a0 (Int.toNat a1) Z_Object).2).2).2).2).2).2).2).2).1) == (0 : Int)), (((((((((((List.getD a0 (Int.toNat a1) Z_Object).2).2).2).2).2).2).2).2).2) == (0 : Int))] : List Bool)) ((7 : Nat) : Int) (0 : Int)
 else none
def F71.f : Option Int := F71.b c108 c109 c110 (F71.l0 c108 c109 c110 k k) a0 a1
theorem F71.e : fn (F71.C c108 c109 c110) k Tryz.f71 F71.A F71.R (a0, a1) = F71.f c108 c109 c110 k a0 a1 := by
  refine Eq.trans (b := F71.b c108 c109 c110 (fun x5 x6 x7 x8 x46 x47 => F71.M_l0 c108 c109 c110 k k (F71.fr_l0 x5 x6 x7 x8 x46 x47)) a0 a1) (by kernel_rfl) ?_
  simp only [F71.e_l0]
  rfl
end
def F71.u (k : Nat) : F71.E := fun y => F71.f (F108.u k) (F109.u k) (F110.u k) k y.1 y.2
theorem F71.sound (k : Nat) : Sound Tryz.prog ⟨71, F71.A, F71.R, F71.u k⟩ := sn gr Tryz.func71 (fun y => F71.e (F108.u k) (F109.u k) (F110.u k) k y.1 y.2) (al (F108.sound k) (al (F109.sound k) (al (F110.sound k) al0)))
/-! ### brindlewood/brindlewoodref7.NameOk: f50 -/
abbrev F50.A : List Sh := [(.d .str)]
abbrev F50.R : List Sh := [(.d .bool)]
abbrev F50.E : Type := LB → Option Bool
section
variable (k n m0 : Nat)
def F50.C : Ctx := cx [] [(0, [.d 0 .str, .d 3 (.int .i64)]), (100008, [.d 0 .str, .d 3 (.int .i64), .d 4 (.int .u8), .d 5 .bool])]
noncomputable def F50.M_l0 (s : St) : Option Bool := lpAt F50.C k n [1, 1, 0, 1, 0] [] Tryz.f50 F50.A F50.R s
noncomputable def F50.fr_l0 (x0 : LB) (x3 : Int) : St := ⟨(((List.replicate 55 V.un).set 0 (V.dat .str x0)).set 3 (V.dat (.int .i64) x3)), []⟩
noncomputable def F50.M_g8 (s : St) : Option Bool := gtAt F50.C k [1, 1, 0, 1, 0, 0, 1, 0, 0, 1, 1, 0] [m0] Tryz.f50 F50.A F50.R s
noncomputable def F50.fr_g8 (x0 : LB) (x3 : Int) (x4 : Int) (x5 : Bool) : St := ⟨(((((List.replicate 55 V.un).set 0 (V.dat .str x0)).set 3 (V.dat (.int .i64) x3)).set 4 (V.dat (.int .u8) x4)).set 5 (V.dat .bool x5)), []⟩
section
variable (n_l0 : LB → Int → Option Bool) (x0 : LB) (x3 x4 : Int) (x5 : Bool)
def F50.b_g8 : Option Bool :=
 bif (!x5) then
 bif (x3 == (0 : Int)) then
 some false
 else
 bif (decide (x4 < (48 : Int))) then
 some false
 else
 bif (decide (x4 > (57 : Int))) then
 some false
 else
 n_l0 x0 (IntKind.i64.wrap (x3 + (1 : Int)))
 else
 n_l0 x0 (IntKind.i64.wrap (x3 + (1 : Int)))
def F50.g8 : Option Bool := gate k (F50.b_g8 n_l0 x0 x3 x4 x5)
theorem F50.e_g8 : F50.M_g8 k m0 (F50.fr_g8 x0 x3 x4 x5) = F50.g8 k (fun x0 x3 => F50.M_l0 k m0 (F50.fr_l0 x0 x3)) x0 x3 x4 x5 := by
  kernel_rfl
end
section
variable (r_g8 : LB → Int → Int → Bool → Option Bool) (x0 : LB) (x3 : Int)
def F50.b_l0 : Option Bool :=
 bif (decide (x3 < ((List.length x0) : Int))) then
 if 0 ≤ x3 ∧ x3 < ((List.length x0) : Int) then
 bif (((List.getD x0 (Int.toNat x3) 0).toNat : Int) == (95 : Int)) then
 r_g8 x0 x3 ((List.getD x0 (Int.toNat x3) 0).toNat : Int) true
 else
 bif (decide ((97 : Int) ≤ ((List.getD x0 (Int.toNat x3) 0).toNat : Int))) then
 bif (decide (((List.getD x0 (Int.toNat x3) 0).toNat : Int) ≤ (122 : Int))) then
 r_g8 x0 x3 ((List.getD x0 (Int.toNat x3) 0).toNat : Int) true
 else
 bif (decide ((65 : Int) ≤ ((List.getD x0 (Int.toNat x3) 0).toNat : Int))) then
 r_g8 x0 x3 ((List.getD x0 (Int.toNat x3) 0).toNat : Int) (decide (((List.getD x0 (Int.toNat x3) 0).toNat : Int) ≤ (90 : Int)))
 else
 r_g8 x0 x3 ((List.getD x0 (Int.toNat x3) 0).toNat : Int) false
 else
 bif (decide ((65 : Int) ≤ ((List.getD x0 (Int.toNat x3) 0).toNat : Int))) then
 r_g8 x0 x3 ((List.getD x0 (Int.toNat x3) 0).toNat : Int) (decide (((List.getD x0 (Int.toNat x3) 0).toNat : Int) ≤ (90 : Int)))
 else
 r_g8 x0 x3 ((List.getD x0 (Int.toNat x3) 0).toNat : Int) false
 else none
 else
 some true
def F50.l0 : Nat → LB → Int → Option Bool
  | 0, _, _ => none
  | n + 1, x0, x3 => F50.b_l0 (F50.g8 k (fun x0 x3 => F50.l0 n x0 x3)) x0 x3
theorem F50.e_l0 : F50.M_l0 k n (F50.fr_l0 x0 x3) = F50.l0 k n x0 x3 := by
  induction n generalizing x0 x3 with
  | zero => exact lpAt0
  | succ n ih =>
    refine Eq.trans (b := F50.b_l0 (fun x0 x3 x4 x5 => F50.M_g8 k n (F50.fr_g8 x0 x3 x4 x5)) x0 x3) (by kernel_rfl) ?_
    simp only [F50.e_g8, ih]
    rfl
end
variable (r_l0 : LB → Int → Option Bool) (a0 : LB)
def F50.b : Option Bool :=
 bif (decide (((List.length a0) : Int) < (1 : Int))) then
 some false
 else
 bif (decide (((List.length a0) : Int) > (24 : Int))) then
 some false
 else
 r_l0 a0 (0 : Int)
def F50.f : Option Bool := F50.b (F50.l0 k k) a0
theorem F50.e : fn F50.C k Tryz.f50 F50.A F50.R a0 = F50.f k a0 := by
  refine Eq.trans (b := F50.b (fun x0 x3 => F50.M_l0 k k (F50.fr_l0 x0 x3)) a0) (by kernel_rfl) ?_
  simp only [F50.e_l0]
  rfl
end
def F50.u (k : Nat) : F50.E := fun y => F50.f k y
theorem F50.sound (k : Nat) : Sound Tryz.prog ⟨50, F50.A, F50.R, F50.u k⟩ := sn gr Tryz.func50 (fun y => F50.e k y) al0
/-! ### brindlewood/brindlewoodref7.DottedOk: f111 -/
abbrev F111.A : List Sh := [(.d .str)]
abbrev F111.R : List Sh := [(.d .bool)]
abbrev F111.E : Type := LB → Option Bool
section
variable (c151 : F151.E) (c50 : F50.E)
variable (k n : Nat)
def F111.C : Ctx := cx [⟨151, F151.A, F151.R, c151⟩, ⟨50, F50.A, F50.R, c50⟩] [(0, [.d 0 .str, .d 6 (.sl 9 .str), .d 7 (.int .i64), .d 8 (.int .i64)])]
noncomputable def F111.M_l0 (s : St) : Option Bool := lpAt (F111.C c151 c50) k n [1, 0, 1, 0] [] Tryz.f111 F111.A F111.R s
noncomputable def F111.fr_l0 (x0 : LB) (x6 : LLB) (x7 : Int) (x8 : Int) : St := ⟨(((((List.replicate 19 V.un).set 0 (V.dat .str x0)).set 6 (V.dat (.sl 9 .str) x6)).set 7 (V.dat (.int .i64) x7)).set 8 (V.dat (.int .i64) x8)), []⟩
section
variable (n_l0 : LB → LLB → Int → Int → Option Bool) (x0 : LB) (x6 : LLB) (x7 x8 : Int)
def F111.b_l0 (c151 : F151.E) (c50 : F50.E) (n_l0 : LB → LLB → Int → Int → Option Bool) (x0 : LB) (x6 : LLB) (x7 : Int) (x8 : Int) : Option Bool :=
 bif (decide (x8 < x7)) then
 if 0 ≤ x8 ∧ x8 < ((List.length x6) : Int) then
 (c50 (List.getD x6 (Int.toNat x8) [])).bind fun y2 =>
 bif (!y2) then
 some false
 else
 n_l0 x0 x6 x7 (IntKind.i64.wrap (x8 + (1 : Int)))
 else none
 else
 some (decide (((List.length x0) : Int) ≤ (60 : Int)))
def F111.l0 (k : Nat) : Nat → LB → LLB → Int → Int → Option Bool
  | 0, _, _, _, _ => none
  | n + 1, x0, x6, x7, x8 => F111.b_l0 c151 c50 (fun x0 x6 x7 x8 => F111.l0 k n x0 x6 x7 x8) x0 x6 x7 x8
theorem F111.e_l0 : F111.M_l0 c151 c50 k n (F111.fr_l0 x0 x6 x7 x8) = F111.l0 c151 c50 k n x0 x6 x7 x8 := by
  induction n generalizing x0 x6 x7 x8 with
  | zero => exact lpAt0
  | succ n ih =>
    refine Eq.trans (b := F111.b_l0 c151 c50 (fun x0 x6 x7 x8 => F111.M_l0 c151 c50 k n (F111.fr_l0 x0 x6 x7 x8)) x0 x6 x7 x8) (by kernel_rfl) ?_
    simp only [ih]
    rfl
end
variable (r_l0 : LB → LLB → Int → Int → Option Bool) (a0 : LB)
def F111.b (c50 : F50.E) (r_l0 : LB → LLB → Int → Int → Option Bool) (a0 : LB) : Option Bool :=
 (c151 (a0, [46])).bind fun y1 =>
 r_l0 a0 y1 ((List.length y1) : Int) (0 : Int)
def F111.f : Option Bool := F111.b c151 c50 (F111.l0 c151 c50 k k) a0
theorem F111.e : fn (F111.C c151 c50) k Tryz.f111 F111.A F111.R a0 = F111.f c151 c50 k a0 := by
  refine Eq.trans (b := F111.b c151 c50 (fun x0 x6 x7 x8 => F111.M_l0 c151 c50 k k (F111.fr_l0 x0 x6 x7 x8)) a0) (by kernel_rfl) ?_
  simp only [F111.e_l0]
  rfl
end
def F111.u (k : Nat) : F111.E := fun y => F111.f (F151.u k) (F50.u k) k y
theorem F111.sound (k : Nat) : Sound Tryz.prog ⟨111, F111.A, F111.R, F111.u k⟩ := sn gr Tryz.func111 (fun y => F111.e (F151.u k) (F50.u k) k y) (al (F151.sound k) (al (F50.sound k) al0))
/-! ### brindlewood/brindlewoodref7.sizes: f72 -/
abbrev F72.A : List Sh := [(.d Y_Heap), (.d (.int .i64))]
abbrev F72.R : List Sh := [(.d (.int .i64))]
abbrev F72.E : Type := (LO × Int) → Option Int
section
variable (c108 : F108.E) (c109 : F109.E) (c50 : F50.E) (c111 : F111.E)
variable (k n : Nat)
def F72.C : Ctx := cx [⟨108, F108.A, F108.R, c108⟩, ⟨109, F109.A, F109.R, c109⟩, ⟨50, F50.A, F50.R, c50⟩, ⟨111, F111.A, F111.R, c111⟩] [(100008, [.bx 5 600005 (.d Y_Object)])]
noncomputable def F72.M_g8 (s : St) : Option Int := gtAt (F72.C c108 c109 c50 c111) k [1, 1, 1, 0, 0] [] Tryz.f72 F72.A F72.R s
noncomputable def F72.fr_g8 (x5 : Int × (LB × (Int × (LI × (LI × (LLB × (LV × (LV × X_acceptRange)))))))) : St := ⟨((List.replicate 44 V.un).set 5 (V.bp 600005 0 [])), [⟨600005, 0, .box (V.dat Y_Object x5)⟩]⟩
section
variable (x5 : Int × (LB × (Int × (LI × (LI × (LLB × (LV × (LV × X_acceptRange))))))))
def F72.b_g8 (c108 : F108.E) (c109 : F109.E) (c50 : F50.E) (c111 : F111.E) (x5 : Int × (LB × (Int × (LI × (LI × (LLB × (LV × (LV × X_acceptRange)))))))) : Option Int :=
 bif (decide ((if ((List.length x5.2.2.2.1) : Int) > (if ((List.length x5.2.2.2.2.2.2.2.1) : Int) > ((List.length x5.2.2.2.2.2.2.1) : Int) then ((List.length x5.2.2.2.2.2.2.2.1) : Int) else ((List.length x5.2.2.2.2.2.2.1) : Int)) then ((List.length x5.2.2.2.1) : Int) else (if ((List.length x5.2.2.2.2.2.2.2.1) : Int) > ((List.length x5.2.2.2.2.2.2.1) : Int) then ((List.length x5.2.2.2.2.2.2.2.1) : Int) else ((List.length x5.2.2.2.2.2.2.1) : Int))) > (1000 : Int))) then
 some (2 : Int)
 else
 bif (decide (((List.length x5.2.2.2.2.2.1) : Int) > (200 : Int))) then
 some (2 : Int)
 else
 some (0 : Int)
def F72.g8 : Option Int := gate k (F72.b_g8 c108 c109 c50 c111 x5)
theorem F72.e_g8 : F72.M_g8 c108 c109 c50 c111 k (F72.fr_g8 x5) = F72.g8 c108 c109 c50 c111 k x5 := by
  kernel_rfl
end
variable (r_g8 : X_Object → Option Int) (a0 : LO) (a1 : Int)
def F72.b : Option Int :=
 if 0 ≤ a1 ∧ a1 < ((List.length a0) : Int) then
 (c108 ((List.getD a0 (Int.toNat a1) Z_Object).1)).bind fun y1 =>
 (c109 (y1, [110])).bind fun y2 =>
 bif y2 then
 (c50 (((List.getD a0 (Int.toNat a1) Z_Object).2).1)).bind fun y3 =>
 bif (((List.getD a0 (Int.toNat a1) Z_Object).1) == (11 : Int)) then
 (c111 (((List.getD a0 (Int.toNat a1) Z_Object).2).1)).bind fun y4 =>
 bif (!y4) then
 some (7 : Int)
 else
 r_g8 (List.getD a0 (Int.toNat a1) Z_Object)
 else
 bif (!y3) then
 some (7 : Int)
 else
 r_g8 (List.getD a0 (Int.toNat a1) Z_Object)
 else
 r_g8 (List.getD a0 (Int.toNat a1) Z_Object)
 else none
def F72.f : Option Int := F72.b c108 c109 c50 c111 (F72.g8 c108 c109 c50 c111 k) a0 a1
theorem F72.e : fn (F72.C c108 c109 c50 c111) k Tryz.f72 F72.A F72.R (a0, a1) = F72.f c108 c109 c50 c111 k a0 a1 := by
  refine Eq.trans (b := F72.b c108 c109 c50 c111 (fun x5 => F72.M_g8 c108 c109 c50 c111 k (F72.fr_g8 x5)) a0 a1) (by kernel_rfl) ?_
  simp only [F72.e_g8]
  rfl
end
def F72.u (k : Nat) : F72.E := fun y => F72.f (F108.u k) (F109.u k) (F50.u k) (F111.u k) k y.1 y.2
theorem F72.sound (k : Nat) : Sound Tryz.prog ⟨72, F72.A, F72.R, F72.u k⟩ := sn gr Tryz.func72 (fun y => F72.e (F108.u k) (F109.u k) (F50.u k) (F111.u k) k y.1 y.2) (al (F108.sound k) (al (F109.sound k) (al (F50.sound k) (al (F111.sound k) al0))))
/-! ### slices.Contains[[]string,string]: f153 -/
abbrev F153.A : List Sh := [(.d (.sl 9 .str)), (.d .str)]
abbrev F153.R : List Sh := [(.d .bool)]
abbrev F153.E : Type := (LLB × LB) → Option Bool
section
variable (c107 : F107.E)
variable (k n : Nat)
def F153.C : Ctx := cx [⟨107, F107.A, F107.R, c107⟩] []
variable (a0 : LLB) (a1 : LB)
def F153.b : Option Bool :=
 (c107 (a0, a1)).bind fun y1 =>
 some (decide (y1 ≥ (0 : Int)))
def F153.f (k : Nat) (a0 : LLB) (a1 : LB) : Option Bool := F153.b c107 a0 a1
theorem F153.e : fn (F153.C c107) k Tryz.f153 F153.A F153.R (a0, a1) = F153.f c107 k a0 a1 := by
  kernel_rfl
end
def F153.u (k : Nat) : F153.E := fun y => F153.f (F107.u k) k y.1 y.2
theorem F153.sound (k : Nat) : Sound Tryz.prog ⟨153, F153.A, F153.R, F153.u k⟩ := sn gr Tryz.func153 (fun y => F153.e (F107.u k) k y.1 y.2) (al (F107.sound k) al0)
/-! ### brindlewood/brindlewoodref7.HasString: f112 -/
abbrev F112.A : List Sh := [(.d (.sl 9 .str)), (.d .str)]
abbrev F112.R : List Sh := [(.d .bool)]
abbrev F112.E : Type := (LLB × LB) → Option Bool
section
variable (c153 : F153.E)
variable (k n : Nat)
def F112.C : Ctx := cx [⟨153, F153.A, F153.R, c153⟩] []
variable (a0 : LLB) (a1 : LB)
def F112.b : Option Bool :=
 (c153 (a0, a1)).bind fun y1 =>
 some y1
def F112.f (k : Nat) (a0 : LLB) (a1 : LB) : Option Bool := F112.b c153 a0 a1
theorem F112.e : fn (F112.C c153) k Tryz.f112 F112.A F112.R (a0, a1) = F112.f c153 k a0 a1 := by
  kernel_rfl
end
def F112.u (k : Nat) : F112.E := fun y => F112.f (F153.u k) k y.1 y.2
theorem F112.sound (k : Nat) : Sound Tryz.prog ⟨112, F112.A, F112.R, F112.u k⟩ := sn gr Tryz.func112 (fun y => F112.e (F153.u k) k y.1 y.2) (al (F153.sound k) al0)
/-! ### brindlewood/brindlewoodref7.names: f73 -/
abbrev F73.A : List Sh := [(.d Y_Heap), (.d (.int .i64))]
abbrev F73.R : List Sh := [(.d (.int .i64))]
abbrev F73.E : Type := (LO × Int) → Option Int
section
variable (c50 : F50.E) (c112 : F112.E)
variable (k n : Nat)
def F73.C : Ctx := cx [⟨50, F50.A, F50.R, c50⟩, ⟨112, F112.A, F112.R, c112⟩] [(0, [.d 5 (.sl 9 .str), .d 14 (.sl 9 .str), .d 15 (.int .i64), .d 16 (.int .i64)])]
noncomputable def F73.M_l0 (s : St) : Option Int := lpAt (F73.C c50 c112) k n [1, 1, 0, 1, 0] [] Tryz.f73 F73.A F73.R s
noncomputable def F73.fr_l0 (x5 : LLB) (x14 : LLB) (x15 : Int) (x16 : Int) : St := ⟨(((((List.replicate 30 V.un).set 5 (V.dat (.sl 9 .str) x5)).set 14 (V.dat (.sl 9 .str) x14)).set 15 (V.dat (.int .i64) x15)).set 16 (V.dat (.int .i64) x16)), []⟩
section
variable (n_l0 : LLB → LLB → Int → Int → Option Int) (x5 x14 : LLB) (x15 x16 : Int)
def F73.b_l0 : Option Int :=
 bif (decide (x16 < x15)) then
 if 0 ≤ x16 ∧ x16 < ((List.length x14) : Int) then
 (c50 (List.getD x14 (Int.toNat x16) [])).bind fun y1 =>
 bif (!y1) then
 some (7 : Int)
 else
 if 0 ≤ (0 : Int) ∧ (0 : Int) ≤ x16 ∧ x16 ≤ ((List.length x5) : Int) then
 (c112 ((List.drop (Int.toNat (0 : Int)) (List.take (Int.toNat x16) x5)), (List.getD x14 (Int.toNat x16) []))).bind fun y2 =>
 bif y2 then
 some (8 : Int)
 else
 n_l0 x5 x14 x15 (IntKind.i64.wrap (x16 + (1 : Int)))
 else none
 else none
 else
 some (0 : Int)
def F73.c_l0 : Option Int :=
 bif (decide (x16 < x15)) then
 if 0 ≤ x16 ∧ x16 < ((List.length x14) : Int) then
 (c50 (List.getD x14 (Int.toNat x16) [])).bind fun y1 =>
 bif !y1 then
 some (7 : Int)
 else
 if (0 : Int) ≤ x16 ∧ x16 ≤ ((List.length x5) : Int) then
 (c112 ((List.take (Int.toNat x16) x5), (List.getD x14 (Int.toNat x16) []))).bind fun y2 =>
 bif y2 then
 some (8 : Int)
 else
 n_l0 x5 x14 x15 (IntKind.i64.wrap (x16 + (1 : Int)))
 else none
 else none
 else
 some (0 : Int)
theorem F73.q_l0 : F73.b_l0 c50 c112 n_l0 x5 x14 x15 x16 = F73.c_l0 c50 c112 n_l0 x5 x14 x15 x16 := by
  simp only [F73.b_l0, F73.c_l0, qq]
def F73.l0 (k : Nat) : Nat → LLB → LLB → Int → Int → Option Int
  | 0, _, _, _, _ => none
  | n + 1, x5, x14, x15, x16 => F73.b_l0 c50 c112 (fun x5 x14 x15 x16 => F73.l0 k n x5 x14 x15 x16) x5 x14 x15 x16
theorem F73.e_l0 : F73.M_l0 c50 c112 k n (F73.fr_l0 x5 x14 x15 x16) = F73.l0 c50 c112 k n x5 x14 x15 x16 := by
  induction n generalizing x5 x14 x15 x16 with
  | zero => exact lpAt0
  | succ n ih =>
    refine Eq.trans (b := F73.b_l0 c50 c112 (fun x5 x14 x15 x16 => F73.M_l0 c50 c112 k n (F73.fr_l0 x5 x14 x15 x16)) x5 x14 x15 x16) (by kernel_rfl) ?_
    simp only [ih]
    rfl
end
variable (r_l0 : LLB → LLB → Int → Int → Option Int) (a0 : LO) (a1 : Int)
def F73.b (c50 : F50.E) (c112 : F112.E) (r_l0 : LLB → LLB → Int → Int → Option Int) (a0 : LO) (a1 : Int) : Option Int :=
 if 0 ≤ a1 ∧ a1 < ((List.length a0) : Int) then
 r_l0 (((((((List.getD a0 (Int.toNat a1) Z_Object).2).2).2).2).2).1) (((((((List.getD a0 (Int.toNat a1) Z_Object).2).2).2).2).2).1) ((List.length (((((((List.getD a0 (Int.toNat a1) Z_Object).2).2).2).2).2).1)) : Int) (0 : Int)
 else none
def F73.f : Option Int := F73.b c50 c112 (F73.l0 c50 c112 k k) a0 a1
theorem F73.e : fn (F73.C c50 c112) k Tryz.f73 F73.A F73.R (a0, a1) = F73.f c50 c112 k a0 a1 := by
  refine Eq.trans (b := F73.b c50 c112 (fun x5 x14 x15 x16 => F73.M_l0 c50 c112 k k (F73.fr_l0 x5 x14 x15 x16)) a0 a1) (by kernel_rfl) ?_
  simp only [F73.e_l0]
  rfl
end
def F73.u (k : Nat) : F73.E := fun y => F73.f (F50.u k) (F112.u k) k y.1 y.2
theorem F73.sound (k : Nat) : Sound Tryz.prog ⟨73, F73.A, F73.R, F73.u k⟩ := sn gr Tryz.func73 (fun y => F73.e (F50.u k) (F112.u k) k y.1 y.2) (al (F50.sound k) (al (F112.sound k) al0))
/-! ### slices.Clone[[]brindlewood/api.Value,brindlewood/api.Value]: f78 -/
abbrev F78.A : List Sh := [(.d (.sl 29 Y_Value))]
abbrev F78.R : List Sh := [(.o 29 Y_Value)]
abbrev F78.E : Type := LV → Option LV
section
variable (k n : Nat)
def F78.C : Ctx := cx [] []
variable (a0 : LV)
def F78.b : Option LV :=
 if 0 < (List.length a0) then
 if 0 ≤ (List.length ([] : LV)) ∧ (0 + (List.length a0)) * 96 ≤ LIM then
 some (List.take (List.length (List.append (List.take 0 ([] : LV)) a0)) (List.append (List.take 0 ([] : LV)) a0))
 else none
 else
 agree
 (some ([] : LV))
 (if 0 ≤ (List.length ([] : LV)) ∧ (0 + (List.length a0)) * 96 ≤ LIM then
 some (List.take (List.length (List.append (List.take 0 ([] : LV)) a0)) (List.append (List.take 0 ([] : LV)) a0))
 else none)
def F78.f (k : Nat) (a0 : LV) : Option LV := F78.b a0
theorem F78.e : fn F78.C k Tryz.f78 F78.A F78.R a0 = F78.f k a0 := by
  kernel_rfl
end
def F78.u (k : Nat) : F78.E := fun y => F78.f k y
theorem F78.sound (k : Nat) : Sound Tryz.prog ⟨78, F78.A, F78.R, F78.u k⟩ := sn gr Tryz.func78 (fun y => F78.e k y) al0
/-! ### brindlewood/brindlewoodref3.IntOk: f121 -/
abbrev F121.A : List Sh := [(.d Y_Int)]
abbrev F121.R : List Sh := [(.d .bool)]
abbrev F121.E : Type := X_Int → Option Bool
section
variable (k n : Nat)
def F121.C : Ctx := cx [] []
variable (a0 : Bool × LI)
def F121.b : Option Bool :=
 bif (decide (((List.length a0.2) : Int) ≤ (128 : Int))) then
 bif (((List.length a0.2) : Int) == (0 : Int)) then
 bif (!a0.1) then
 some true
 else
 bif (decide (((List.length a0.2) : Int) > (0 : Int))) then
 if 0 ≤ (IntKind.i64.wrap (((List.length a0.2) : Int) - (1 : Int))) ∧ (IntKind.i64.wrap (((List.length a0.2) : Int) - (1 : Int))) < ((List.length a0.2) : Int) then
 some ((List.getD a0.2 (Int.toNat (IntKind.i64.wrap (((List.length a0.2) : Int) - (1 : Int)))) (0 : Int)) != (0 : Int))
 else none
 else
 some false
 else
 bif (decide (((List.length a0.2) : Int) > (0 : Int))) then
 if 0 ≤ (IntKind.i64.wrap (((List.length a0.2) : Int) - (1 : Int))) ∧ (IntKind.i64.wrap (((List.length a0.2) : Int) - (1 : Int))) < ((List.length a0.2) : Int) then
 some ((List.getD a0.2 (Int.toNat (IntKind.i64.wrap (((List.length a0.2) : Int) - (1 : Int)))) (0 : Int)) != (0 : Int))
 else none
 else
 some false
 else
 some false
def F121.f (k : Nat) (a0 : Bool × LI) : Option Bool := F121.b a0
theorem F121.e : fn F121.C k Tryz.f121 F121.A F121.R a0 = F121.f k a0 := by
  kernel_rfl
end
def F121.u (k : Nat) : F121.E := fun y => F121.f k y
theorem F121.sound (k : Nat) : Sound Tryz.prog ⟨121, F121.A, F121.R, F121.u k⟩ := sn gr Tryz.func121 (fun y => F121.e k y) al0
/-! ### brindlewood/brindlewoodref3.trim: f136 -/
abbrev F136.A : List Sh := [(.d (.sl 3 (.int .i64)))]
abbrev F136.R : List Sh := [(.d (.sl 3 (.int .i64)))]
abbrev F136.E : Type := LI → Option LI
section
variable (k n : Nat)
def F136.C : Ctx := cx [] [(0, [.d 0 (.sl 3 (.int .i64))])]
noncomputable def F136.M_l0 (s : St) : Option LI := lpAt F136.C k n [1, 0, 0] [] Tryz.f136 F136.A F136.R s
noncomputable def F136.fr_l0 (x0 : LI) : St := ⟨((List.replicate 21 V.un).set 0 (V.dat (.sl 3 (.int .i64)) x0)), []⟩
section
variable (n_l0 : LI → Option LI) (x0 : LI)
def F136.b_l0 : Option LI :=
 bif (decide (((List.length x0) : Int) > (0 : Int))) then
 if 0 ≤ (IntKind.i64.wrap (((List.length x0) : Int) - (1 : Int))) ∧ (IntKind.i64.wrap (((List.length x0) : Int) - (1 : Int))) < ((List.length x0) : Int) then
 bif ((List.getD x0 (Int.toNat (IntKind.i64.wrap (((List.length x0) : Int) - (1 : Int)))) (0 : Int)) == (0 : Int)) then
 if 0 ≤ (0 : Int) ∧ (0 : Int) ≤ (IntKind.i64.wrap (((List.length x0) : Int) - (1 : Int))) ∧ (IntKind.i64.wrap (((List.length x0) : Int) - (1 : Int))) ≤ ((List.length x0) : Int) then
 n_l0 (List.drop (Int.toNat (0 : Int)) (List.take (Int.toNat (IntKind.i64.wrap (((List.length x0) : Int) - (1 : Int)))) x0))
 else none
 else
 some x0
 else none
 else
 some x0
def F136.c_l0 : Option LI :=
 bif (decide (((List.length x0) : Int) > (0 : Int))) then
 if 0 ≤ (IntKind.i64.wrap (((List.length x0) : Int) - (1 : Int))) ∧ (IntKind.i64.wrap (((List.length x0) : Int) - (1 : Int))) < ((List.length x0) : Int) then
 bif ((List.getD x0 (Int.toNat (IntKind.i64.wrap (((List.length x0) : Int) - (1 : Int)))) (0 : Int)) == (0 : Int)) then
 if (0 : Int) ≤ (IntKind.i64.wrap (((List.length x0) : Int) - (1 : Int))) ∧ (IntKind.i64.wrap (((List.length x0) : Int) - (1 : Int))) ≤ ((List.length x0) : Int) then
 n_l0 (List.take (Int.toNat (IntKind.i64.wrap (((List.length x0) : Int) - (1 : Int)))) x0)
 else none
 else
 some x0
 else none
 else
 some x0
theorem F136.q_l0 : F136.b_l0 n_l0 x0 = F136.c_l0 n_l0 x0 := by
  simp only [F136.b_l0, F136.c_l0, qq]
def F136.l0 (k : Nat) : Nat → LI → Option LI
  | 0, _ => none
  | n + 1, x0 => F136.b_l0 (fun x0 => F136.l0 k n x0) x0
theorem F136.e_l0 : F136.M_l0 k n (F136.fr_l0 x0) = F136.l0 k n x0 := by
  induction n generalizing x0 with
  | zero => exact lpAt0
  | succ n ih =>
    refine Eq.trans (b := F136.b_l0 (fun x0 => F136.M_l0 k n (F136.fr_l0 x0)) x0) (by kernel_rfl) ?_
    simp only [ih]
    rfl
end
variable (r_l0 : LI → Option LI) (a0 : LI)
def F136.b : Option LI :=
 r_l0 a0
def F136.f : Option LI := F136.b (F136.l0 k k) a0
theorem F136.e : fn F136.C k Tryz.f136 F136.A F136.R a0 = F136.f k a0 := by
  refine Eq.trans (b := F136.b (fun x0 => F136.M_l0 k k (F136.fr_l0 x0)) a0) (by kernel_rfl) ?_
  simp only [F136.e_l0]
  rfl
end
def F136.u (k : Nat) : F136.E := fun y => F136.f k y
theorem F136.sound (k : Nat) : Sound Tryz.prog ⟨136, F136.A, F136.R, F136.u k⟩ := sn gr Tryz.func136 (fun y => F136.e k y) al0
/-! ### brindlewood/brindlewoodref3.Of: f131 -/
abbrev F131.A : List Sh := [(.d (.sl 109 (.int .u32)))]
abbrev F131.R : List Sh := [(.d (.sl 3 (.int .i64)))]
abbrev F131.E : Type := LI → Option LI
section
variable (c136 : F136.E)
variable (k n : Nat)
def F131.C : Ctx := cx [⟨136, F136.A, F136.R, c136⟩] [(0, [.d 0 (.sl 109 (.int .u32)), .o 3 500003 3 (.int .i64), .d 4 (.int .i64)])]
noncomputable def F131.M_l0 (s : St) : Option LI := lpAt (F131.C c136) k n [1, 1, 0, 1, 0] [] Tryz.f131 F131.A F131.R s
noncomputable def F131.fr_l0 (x0 : LI) (x3 : LI) (x4 : Int) : St := ⟨((((List.replicate 28 V.un).set 0 (V.dat (.sl 109 (.int .u32)) x0)).set 3 (V.ref 500003 0 0 (List.length x3))).set 4 (V.dat (.int .i64) x4)), [⟨500003, 0, .arr 3 (.int .i64) x3⟩]⟩
section
variable (n_l0 : LI → LI → Int → Option LI) (x0 x3 : LI) (x4 : Int)
def F131.b_l0 : Option LI :=
 bif (decide (x4 < ((List.length x0) : Int))) then
 if 0 ≤ x4 ∧ x4 < ((List.length x0) : Int) then
 if 0 ≤ x4 ∧ x4 < ((List.length x0) : Int) then
 if (List.length x3) ≤ (List.length x3) ∧ ((List.length x3) + (List.length (List.take 2 ([(IntKind.i64.wrap (Int.tmod (List.getD x0 (Int.toNat x4) (0 : Int)) (65536 : Int))), (IntKind.i64.wrap (IntKind.u32.wrap (Int.tdiv (List.getD x0 (Int.toNat x4) (0 : Int)) (65536 : Int))))] : LI)))) * 8 ≤ LIM then
 n_l0 x0 (List.take (List.length (List.append (List.take (List.length x3) x3) (List.take 2 ([(IntKind.i64.wrap (Int.tmod (List.getD x0 (Int.toNat x4) (0 : Int)) (65536 : Int))), (IntKind.i64.wrap (IntKind.u32.wrap (Int.tdiv (List.getD x0 (Int.toNat x4) (0 : Int)) (65536 : Int))))] : LI)))) (List.append (List.take (List.length x3) x3) (List.take 2 ([(IntKind.i64.wrap (Int.tmod (List.getD x0 (Int.toNat x4) (0 : Int)) (65536 : Int))), (IntKind.i64.wrap (IntKind.u32.wrap (Int.tdiv (List.getD x0 (Int.toNat x4) (0 : Int)) (65536 : Int))))] : LI)))) (IntKind.i64.wrap (x4 + (1 : Int)))
 else none
 else none
 else none
 else
 (c136 (List.take (List.length x3) x3)).bind fun y1 =>
 some y1
def F131.c_l0 : Option LI :=
 bif (decide (x4 < ((List.length x0) : Int))) then
 if 0 ≤ x4 ∧ x4 < ((List.length x0) : Int) then
 if 0 ≤ x4 ∧ x4 < ((List.length x0) : Int) then
 if ((List.length x3) + (List.length (List.take 2 ([(IntKind.i64.wrap (Int.tmod (List.getD x0 (Int.toNat x4) (0 : Int)) (65536 : Int))), (IntKind.i64.wrap (IntKind.u32.wrap (Int.tdiv (List.getD x0 (Int.toNat x4) (0 : Int)) (65536 : Int))))] : LI)))) * 8 ≤ LIM then
 n_l0 x0 (x3 ++ (List.take 2 ([(IntKind.i64.wrap (Int.tmod (List.getD x0 (Int.toNat x4) (0 : Int)) (65536 : Int))), (IntKind.i64.wrap (IntKind.u32.wrap (Int.tdiv (List.getD x0 (Int.toNat x4) (0 : Int)) (65536 : Int))))] : LI))) (IntKind.i64.wrap (x4 + (1 : Int)))
 else none
 else none
 else none
 else
 (c136 x3).bind fun y1 =>
 some y1
theorem F131.q_l0 : F131.b_l0 c136 n_l0 x0 x3 x4 = F131.c_l0 c136 n_l0 x0 x3 x4 := by
  simp only [F131.b_l0, F131.c_l0, qq]
def F131.l0 (k : Nat) : Nat → LI → LI → Int → Option LI
  | 0, _, _, _ => none
  | n + 1, x0, x3, x4 => F131.b_l0 c136 (fun x0 x3 x4 => F131.l0 k n x0 x3 x4) x0 x3 x4
theorem F131.e_l0 : F131.M_l0 c136 k n (F131.fr_l0 x0 x3 x4) = F131.l0 c136 k n x0 x3 x4 := by
  induction n generalizing x0 x3 x4 with
  | zero => exact lpAt0
  | succ n ih =>
    refine Eq.trans (b := F131.b_l0 c136 (fun x0 x3 x4 => F131.M_l0 c136 k n (F131.fr_l0 x0 x3 x4)) x0 x3 x4) (by kernel_rfl) ?_
    simp only [ih]
    rfl
end
variable (r_l0 : LI → LI → Int → Option LI) (a0 : LI)
def F131.b (c136 : F136.E) (r_l0 : LI → LI → Int → Option LI) (a0 : LI) : Option LI :=
 r_l0 a0 ([] : LI) (0 : Int)
def F131.f : Option LI := F131.b c136 (F131.l0 c136 k k) a0
theorem F131.e : fn (F131.C c136) k Tryz.f131 F131.A F131.R a0 = F131.f c136 k a0 := by
  refine Eq.trans (b := F131.b c136 (fun x0 x3 x4 => F131.M_l0 c136 k k (F131.fr_l0 x0 x3 x4)) a0) (by kernel_rfl) ?_
  simp only [F131.e_l0]
  rfl
end
def F131.u (k : Nat) : F131.E := fun y => F131.f (F136.u k) k y
theorem F131.sound (k : Nat) : Sound Tryz.prog ⟨131, F131.A, F131.R, F131.u k⟩ := sn gr Tryz.func131 (fun y => F131.e (F136.u k) k y) (al (F136.sound k) al0)
/-! ### brindlewood/brindlewoodref3.Halve: f180 -/
abbrev F180.A : List Sh := [(.d (.sl 3 (.int .i64))), (.d (.int .i64))]
abbrev F180.R : List Sh := [(.d (.sl 3 (.int .i64))), (.d (.int .i64))]
abbrev F180.E : Type := (LI × Int) → Option (LI × Int)
section
variable (c136 : F136.E)
variable (k n : Nat)
def F180.C : Ctx := cx [⟨136, F136.A, F136.R, c136⟩] [(0, [.d 0 (.sl 3 (.int .i64)), .d 1 (.int .i64), .o 6 500006 3 (.int .i64), .d 7 (.int .i64), .d 8 (.int .i64)])]
noncomputable def F180.M_l0 (s : St) : Option (LI × Int) := lpAt (F180.C c136) k n [1, 1, 1, 0, 1, 0] [] Tryz.f180 F180.A F180.R s
noncomputable def F180.fr_l0 (x0 : LI) (x1 : Int) (x6 : LI) (x7 : Int) (x8 : Int) : St := ⟨((((((List.replicate 38 V.un).set 0 (V.dat (.sl 3 (.int .i64)) x0)).set 1 (V.dat (.int .i64) x1)).set 6 (V.ref 500006 0 0 (List.length x6))).set 7 (V.dat (.int .i64) x7)).set 8 (V.dat (.int .i64) x8)), [⟨500006, 0, .arr 3 (.int .i64) x6⟩]⟩
section
variable (n_l0 : LI → Int → LI → Int → Int → Option (LI × Int)) (x0 : LI) (x1 : Int) (x6 : LI) (x7 x8 : Int)
def F180.b_l0 : Option (LI × Int) :=
 bif (decide (x8 ≥ (0 : Int))) then
 if 0 ≤ x8 ∧ x8 < ((List.length x0) : Int) then
 if x1 = 0 then none else
 if 0 ≤ x8 ∧ x8 < (((List.length x6) : Nat) : Int) then
 if x1 = 0 then none else
 n_l0 x0 x1 (List.take (List.length x6) (List.set x6 (0 + Int.toNat x8) (IntKind.i64.wrap (Int.tdiv (IntKind.i64.wrap ((IntKind.i64.wrap (x7 * (65536 : Int))) + (List.getD x0 (Int.toNat x8) (0 : Int)))) x1)))) (Int.tmod (IntKind.i64.wrap ((IntKind.i64.wrap (x7 * (65536 : Int))) + (List.getD x0 (Int.toNat x8) (0 : Int)))) x1) (IntKind.i64.wrap (x8 - (1 : Int)))
 else none
 else none
 else
 (c136 (List.take (List.length x6) x6)).bind fun y1 =>
 some (y1, x7)
def F180.c_l0 : Option (LI × Int) :=
 bif (decide (x8 ≥ (0 : Int))) then
 if 0 ≤ x8 ∧ x8 < ((List.length x0) : Int) then
 if x1 = 0 then none else
 if 0 ≤ x8 ∧ x8 < ((List.length x6) : Int) then
 if x1 = 0 then none else
 n_l0 x0 x1 (List.take (List.length x6) (List.set x6 (0 + Int.toNat x8) (IntKind.i64.wrap (Int.tdiv (IntKind.i64.wrap ((IntKind.i64.wrap (x7 * (65536 : Int))) + (List.getD x0 (Int.toNat x8) (0 : Int)))) x1)))) (Int.tmod (IntKind.i64.wrap ((IntKind.i64.wrap (x7 * (65536 : Int))) + (List.getD x0 (Int.toNat x8) (0 : Int)))) x1) (IntKind.i64.wrap (x8 - (1 : Int)))
 else none
 else none
 else
 (c136 x6).bind fun y1 =>
 some (y1, x7)
theorem F180.q_l0 : F180.b_l0 c136 n_l0 x0 x1 x6 x7 x8 = F180.c_l0 c136 n_l0 x0 x1 x6 x7 x8 := by
  simp only [F180.b_l0, F180.c_l0, qq]
def F180.l0 (k : Nat) : Nat → LI → Int → LI → Int → Int → Option (LI × Int)
  | 0, _, _, _, _, _ => none
  | n + 1, x0, x1, x6, x7, x8 => F180.b_l0 c136 (fun x0 x1 x6 x7 x8 => F180.l0 k n x0 x1 x6 x7 x8) x0 x1 x6 x7 x8
theorem F180.e_l0 : F180.M_l0 c136 k n (F180.fr_l0 x0 x1 x6 x7 x8) = F180.l0 c136 k n x0 x1 x6 x7 x8 := by
  induction n generalizing x0 x1 x6 x7 x8 with
  | zero => exact lpAt0
  | succ n ih =>
    refine Eq.trans (b := F180.b_l0 c136 (fun x0 x1 x6 x7 x8 => F180.M_l0 c136 k n (F180.fr_l0 x0 x1 x6 x7 x8)) x0 x1 x6 x7 x8) (by kernel_rfl) ?_
    simp only [ih]
    rfl
end
variable (r_l0 : LI → Int → LI → Int → Int → Option (LI × Int)) (a0 : LI) (a1 : Int)
def F180.b (c136 : F136.E) (r_l0 : LI → Int → LI → Int → Int → Option (LI × Int)) (a0 : LI) (a1 : Int) : Option (LI × Int) :=
 if ((List.length a0) : Int) = ((List.length a0) : Int) ∧ 0 ≤ ((List.length a0) : Int) ∧ Int.toNat ((List.length a0) : Int) * 8 ≤ LIM ∧ ((List.length a0) : Int) ≤ 140737488355328 then
 r_l0 a0 a1 (List.take (Int.toNat ((List.length a0) : Int)) (List.replicate (Int.toNat ((List.length a0) : Int)) (0 : Int))) (0 : Int) (IntKind.i64.wrap (((List.length a0) : Int) - (1 : Int)))
 else none
def F180.c (c136 : F136.E) (r_l0 : LI → Int → LI → Int → Int → Option (LI × Int)) (a0 : LI) (a1 : Int) : Option (LI × Int) :=
 if 0 ≤ ((List.length a0) : Int) ∧ Int.toNat ((List.length a0) : Int) * 8 ≤ LIM ∧ ((List.length a0) : Int) ≤ 140737488355328 then
 r_l0 a0 a1 (List.take (List.length a0) (List.replicate (List.length a0) (0 : Int))) (0 : Int) (IntKind.i64.wrap (((List.length a0) : Int) - (1 : Int)))
 else none
theorem F180.q : F180.b c136 r_l0 a0 a1 = F180.c c136 r_l0 a0 a1 := by
  simp only [F180.b, F180.c, qq]
def F180.f : Option (LI × Int) := F180.b c136 (F180.l0 c136 k k) a0 a1
theorem F180.e : fn (F180.C c136) k Tryz.f180 F180.A F180.R (a0, a1) = F180.f c136 k a0 a1 := by
  refine Eq.trans (b := F180.b c136 (fun x0 x1 x6 x7 x8 => F180.M_l0 c136 k k (F180.fr_l0 x0 x1 x6 x7 x8)) a0 a1) (by kernel_rfl) ?_
  simp only [F180.e_l0]
  rfl
end
def F180.u (k : Nat) : F180.E := fun y => F180.f (F136.u k) k y.1 y.2
theorem F180.sound (k : Nat) : Sound Tryz.prog ⟨180, F180.A, F180.R, F180.u k⟩ := sn gr Tryz.func180 (fun y => F180.e (F136.u k) k y.1 y.2) (al (F136.sound k) al0)
/-! ### brindlewood/brindlewoodref3.Compare: f93 -/
abbrev F93.A : List Sh := [(.d (.sl 3 (.int .i64))), (.d (.sl 3 (.int .i64)))]
abbrev F93.R : List Sh := [(.d (.int .i64))]
abbrev F93.E : Type := (LI × LI) → Option Int
section
variable (k n : Nat)
def F93.C : Ctx := cx [] [(0, [.d 0 (.sl 3 (.int .i64)), .d 1 (.sl 3 (.int .i64)), .d 5 (.int .i64)])]
noncomputable def F93.M_l0 (s : St) : Option Int := lpAt F93.C k n [1, 1, 0, 1, 0] [] Tryz.f93 F93.A F93.R s
noncomputable def F93.fr_l0 (x0 : LI) (x1 : LI) (x5 : Int) : St := ⟨((((List.replicate 41 V.un).set 0 (V.dat (.sl 3 (.int .i64)) x0)).set 1 (V.dat (.sl 3 (.int .i64)) x1)).set 5 (V.dat (.int .i64) x5)), []⟩
section
variable (n_l0 : LI → LI → Int → Option Int) (x0 x1 : LI) (x5 : Int)
def F93.b_l0 : Option Int :=
 bif (decide (x5 ≥ (0 : Int))) then
 if 0 ≤ x5 ∧ x5 < ((List.length x0) : Int) then
 if 0 ≤ x5 ∧ x5 < ((List.length x1) : Int) then
 bif (decide ((List.getD x0 (Int.toNat x5) (0 : Int)) < (List.getD x1 (Int.toNat x5) (0 : Int)))) then
 some (-1 : Int)
 else
 if 0 ≤ x5 ∧ x5 < ((List.length x0) : Int) then
 if 0 ≤ x5 ∧ x5 < ((List.length x1) : Int) then
 bif (decide ((List.getD x0 (Int.toNat x5) (0 : Int)) > (List.getD x1 (Int.toNat x5) (0 : Int)))) then
 some (1 : Int)
 else
 n_l0 x0 x1 (IntKind.i64.wrap (x5 - (1 : Int)))
 else none
 else none
 else none
 else none
 else
 some (0 : Int)
def F93.l0 (k : Nat) : Nat → LI → LI → Int → Option Int
  | 0, _, _, _ => none
  | n + 1, x0, x1, x5 => F93.b_l0 (fun x0 x1 x5 => F93.l0 k n x0 x1 x5) x0 x1 x5
theorem F93.e_l0 : F93.M_l0 k n (F93.fr_l0 x0 x1 x5) = F93.l0 k n x0 x1 x5 := by
  induction n generalizing x0 x1 x5 with
  | zero => exact lpAt0
  | succ n ih =>
    refine Eq.trans (b := F93.b_l0 (fun x0 x1 x5 => F93.M_l0 k n (F93.fr_l0 x0 x1 x5)) x0 x1 x5) (by kernel_rfl) ?_
    simp only [ih]
    rfl
end
variable (r_l0 : LI → LI → Int → Option Int) (a0 a1 : LI)
def F93.b : Option Int :=
 bif (((List.length a0) : Int) != ((List.length a1) : Int)) then
 bif (decide (((List.length a0) : Int) < ((List.length a1) : Int))) then
 some (-1 : Int)
 else
 some (1 : Int)
 else
 r_l0 a0 a1 (IntKind.i64.wrap (((List.length a0) : Int) - (1 : Int)))
def F93.f : Option Int := F93.b (F93.l0 k k) a0 a1
theorem F93.e : fn F93.C k Tryz.f93 F93.A F93.R (a0, a1) = F93.f k a0 a1 := by
  refine Eq.trans (b := F93.b (fun x0 x1 x5 => F93.M_l0 k k (F93.fr_l0 x0 x1 x5)) a0 a1) (by kernel_rfl) ?_
  simp only [F93.e_l0]
  rfl
end
def F93.u (k : Nat) : F93.E := fun y => F93.f k y.1 y.2
theorem F93.sound (k : Nat) : Sound Tryz.prog ⟨93, F93.A, F93.R, F93.u k⟩ := sn gr Tryz.func93 (fun y => F93.e k y.1 y.2) al0
/-! ### brindlewood/brindlewoodref3.Minus: f94 -/
abbrev F94.A : List Sh := [(.d (.sl 3 (.int .i64))), (.d (.sl 3 (.int .i64)))]
abbrev F94.R : List Sh := [(.d (.sl 3 (.int .i64)))]
abbrev F94.E : Type := (LI × LI) → Option LI
section
variable (c136 : F136.E)
variable (k n m0 : Nat)
def F94.C : Ctx := cx [⟨136, F136.A, F136.R, c136⟩] [(0, [.d 0 (.sl 3 (.int .i64)), .d 1 (.sl 3 (.int .i64)), .o 5 500005 3 (.int .i64), .d 6 (.int .i64), .d 7 (.int .i64)]), (100013, [.d 0 (.sl 3 (.int .i64)), .d 1 (.sl 3 (.int .i64)), .o 5 500005 3 (.int .i64), .d 6 (.int .i64), .d 7 (.int .i64), .d 8 (.int .i64)])]
noncomputable def F94.M_l0 (s : St) : Option LI := lpAt (F94.C c136) k n [1, 1, 1, 0, 1, 0] [] Tryz.f94 F94.A F94.R s
noncomputable def F94.fr_l0 (x0 : LI) (x1 : LI) (x5 : LI) (x6 : Int) (x7 : Int) : St := ⟨((((((List.replicate 41 V.un).set 0 (V.dat (.sl 3 (.int .i64)) x0)).set 1 (V.dat (.sl 3 (.int .i64)) x1)).set 5 (V.ref 500005 0 0 (List.length x5))).set 6 (V.dat (.int .i64) x6)).set 7 (V.dat (.int .i64) x7)), [⟨500005, 0, .arr 3 (.int .i64) x5⟩]⟩
noncomputable def F94.M_g13 (s : St) : Option LI := gtAt (F94.C c136) k [1, 1, 1, 0, 1, 0, 0, 1, 0, 0, 1, 1, 1, 1] [m0] Tryz.f94 F94.A F94.R s
noncomputable def F94.fr_g13 (x0 : LI) (x1 : LI) (x5 : LI) (x6 : Int) (x7 : Int) (x8 : Int) : St := ⟨(((((((List.replicate 41 V.un).set 0 (V.dat (.sl 3 (.int .i64)) x0)).set 1 (V.dat (.sl 3 (.int .i64)) x1)).set 5 (V.ref 500005 0 0 (List.length x5))).set 6 (V.dat (.int .i64) x6)).set 7 (V.dat (.int .i64) x7)).set 8 (V.dat (.int .i64) x8)), [⟨500005, 0, .arr 3 (.int .i64) x5⟩]⟩
section
variable (n_l0 : LI → LI → LI → Int → Int → Option LI) (x0 x1 x5 : LI) (x6 x7 x8 : Int)
def F94.b_g13 (c136 : F136.E) (n_l0 : LI → LI → LI → Int → Int → Option LI) (x0 : LI) (x1 : LI) (x5 : LI) (x6 : Int) (x7 : Int) (x8 : Int) : Option LI :=
 if (List.length x5) ≤ (List.length x5) ∧ ((List.length x5) + (List.length (List.take 1 ([x8] : LI)))) * 8 ≤ LIM then
 n_l0 x0 x1 (List.take (List.length (List.append (List.take (List.length x5) x5) (List.take 1 ([x8] : LI)))) (List.append (List.take (List.length x5) x5) (List.take 1 ([x8] : LI)))) x6 (IntKind.i64.wrap (x7 + (1 : Int)))
 else none
def F94.c_g13 (c136 : F136.E) (n_l0 : LI → LI → LI → Int → Int → Option LI) (x0 : LI) (x1 : LI) (x5 : LI) (x6 : Int) (x7 : Int) (x8 : Int) : Option LI :=
 if ((List.length x5) + (List.length ([x8] : LI))) * 8 ≤ LIM then
 n_l0 x0 x1 (x5 ++ ([x8] : LI)) x6 (IntKind.i64.wrap (x7 + (1 : Int)))
 else none
theorem F94.q_g13 : F94.b_g13 c136 n_l0 x0 x1 x5 x6 x7 x8 = F94.c_g13 c136 n_l0 x0 x1 x5 x6 x7 x8 := by
  simp only [F94.b_g13, F94.c_g13, qq]
def F94.g13 : Option LI := gate k (F94.b_g13 c136 n_l0 x0 x1 x5 x6 x7 x8)
theorem F94.e_g13 : F94.M_g13 c136 k m0 (F94.fr_g13 x0 x1 x5 x6 x7 x8) = F94.g13 c136 k (fun x0 x1 x5 x6 x7 => F94.M_l0 c136 k m0 (F94.fr_l0 x0 x1 x5 x6 x7)) x0 x1 x5 x6 x7 x8 := by
  kernel_rfl
end
section
variable (r_g13 : LI → LI → LI → Int → Int → Int → Option LI) (x0 x1 x5 : LI) (x6 x7 : Int)
def F94.b_l0 : Option LI :=
 bif (decide (x7 < ((List.length x0) : Int))) then
 if 0 ≤ x7 ∧ x7 < ((List.length x0) : Int) then
 bif (decide (x7 < ((List.length x1) : Int))) then
 if 0 ≤ x7 ∧ x7 < ((List.length x1) : Int) then
 bif (decide ((IntKind.i64.wrap ((IntKind.i64.wrap ((List.getD x0 (Int.toNat x7) (0 : Int)) - x6)) - (List.getD x1 (Int.toNat x7) (0 : Int)))) < (0 : Int))) then
 r_g13 x0 x1 (List.take (List.length x5) x5) (1 : Int) x7 (IntKind.i64.wrap ((IntKind.i64.wrap ((IntKind.i64.wrap ((List.getD x0 (Int.toNat x7) (0 : Int)) - x6)) - (List.getD x1 (Int.toNat x7) (0 : Int)))) + (65536 : Int)))
 else
 r_g13 x0 x1 (List.take (List.length x5) x5) (0 : Int) x7 (IntKind.i64.wrap ((IntKind.i64.wrap ((List.getD x0 (Int.toNat x7) (0 : Int)) - x6)) - (List.getD x1 (Int.toNat x7) (0 : Int))))
 else none
 else
 bif (decide ((IntKind.i64.wrap ((List.getD x0 (Int.toNat x7) (0 : Int)) - x6)) < (0 : Int))) then
 r_g13 x0 x1 (List.take (List.length x5) x5) (1 : Int) x7 (IntKind.i64.wrap ((IntKind.i64.wrap ((List.getD x0 (Int.toNat x7) (0 : Int)) - x6)) + (65536 : Int)))
 else
 r_g13 x0 x1 (List.take (List.length x5) x5) (0 : Int) x7 (IntKind.i64.wrap ((List.getD x0 (Int.toNat x7) (0 : Int)) - x6))
 else none
 else
 (c136 (List.take (List.length x5) x5)).bind fun y1 =>
 some y1
def F94.c_l0 : Option LI :=
 bif (decide (x7 < ((List.length x0) : Int))) then
 if 0 ≤ x7 ∧ x7 < ((List.length x0) : Int) then
 bif (decide (x7 < ((List.length x1) : Int))) then
 if 0 ≤ x7 ∧ x7 < ((List.length x1) : Int) then
 bif (decide ((IntKind.i64.wrap ((IntKind.i64.wrap ((List.getD x0 (Int.toNat x7) (0 : Int)) - x6)) - (List.getD x1 (Int.toNat x7) (0 : Int)))) < (0 : Int))) then
 r_g13 x0 x1 x5 (1 : Int) x7 (IntKind.i64.wrap ((IntKind.i64.wrap ((IntKind.i64.wrap ((List.getD x0 (Int.toNat x7) (0 : Int)) - x6)) - (List.getD x1 (Int.toNat x7) (0 : Int)))) + (65536 : Int)))
 else
 r_g13 x0 x1 x5 (0 : Int) x7 (IntKind.i64.wrap ((IntKind.i64.wrap ((List.getD x0 (Int.toNat x7) (0 : Int)) - x6)) - (List.getD x1 (Int.toNat x7) (0 : Int))))
 else none
 else
 bif (decide ((IntKind.i64.wrap ((List.getD x0 (Int.toNat x7) (0 : Int)) - x6)) < (0 : Int))) then
 r_g13 x0 x1 x5 (1 : Int) x7 (IntKind.i64.wrap ((IntKind.i64.wrap ((List.getD x0 (Int.toNat x7) (0 : Int)) - x6)) + (65536 : Int)))
 else
 r_g13 x0 x1 x5 (0 : Int) x7 (IntKind.i64.wrap ((List.getD x0 (Int.toNat x7) (0 : Int)) - x6))
 else none
 else
 (c136 x5).bind fun y1 =>
 some y1
theorem F94.q_l0 : F94.b_l0 c136 r_g13 x0 x1 x5 x6 x7 = F94.c_l0 c136 r_g13 x0 x1 x5 x6 x7 := by
  simp only [F94.b_l0, F94.c_l0, qq]
def F94.l0 : Nat → LI → LI → LI → Int → Int → Option LI
  | 0, _, _, _, _, _ => none
  | n + 1, x0, x1, x5, x6, x7 => F94.b_l0 c136 (F94.g13 c136 k (fun x0 x1 x5 x6 x7 => F94.l0 n x0 x1 x5 x6 x7)) x0 x1 x5 x6 x7
theorem F94.e_l0 : F94.M_l0 c136 k n (F94.fr_l0 x0 x1 x5 x6 x7) = F94.l0 c136 k n x0 x1 x5 x6 x7 := by
  induction n generalizing x0 x1 x5 x6 x7 with
  | zero => exact lpAt0
  | succ n ih =>
    refine Eq.trans (b := F94.b_l0 c136 (fun x0 x1 x5 x6 x7 x8 => F94.M_g13 c136 k n (F94.fr_g13 x0 x1 x5 x6 x7 x8)) x0 x1 x5 x6 x7) (by kernel_rfl) ?_
    simp only [F94.e_g13, ih]
    rfl
end
variable (r_l0 : LI → LI → LI → Int → Int → Option LI) (a0 a1 : LI)
def F94.b (c136 : F136.E) (r_l0 : LI → LI → LI → Int → Int → Option LI) (a0 : LI) (a1 : LI) : Option LI :=
 r_l0 a0 a1 ([] : LI) (0 : Int) (0 : Int)
def F94.f : Option LI := F94.b c136 (F94.l0 c136 k k) a0 a1
theorem F94.e : fn (F94.C c136) k Tryz.f94 F94.A F94.R (a0, a1) = F94.f c136 k a0 a1 := by
  refine Eq.trans (b := F94.b c136 (fun x0 x1 x5 x6 x7 => F94.M_l0 c136 k k (F94.fr_l0 x0 x1 x5 x6 x7)) a0 a1) (by kernel_rfl) ?_
  simp only [F94.e_l0]
  rfl
end
def F94.u (k : Nat) : F94.E := fun y => F94.f (F136.u k) k y.1 y.2
theorem F94.sound (k : Nat) : Sound Tryz.prog ⟨94, F94.A, F94.R, F94.u k⟩ := sn gr Tryz.func94 (fun y => F94.e (F136.u k) k y.1 y.2) (al (F136.sound k) al0)
/-! ### brindlewood/brindlewoodref3.Plus: f92 -/
abbrev F92.A : List Sh := [(.d (.sl 3 (.int .i64))), (.d (.sl 3 (.int .i64)))]
abbrev F92.R : List Sh := [(.d (.sl 3 (.int .i64)))]
abbrev F92.E : Type := (LI × LI) → Option LI
section
variable (c136 : F136.E)
variable (k n m0 : Nat)
def F92.C : Ctx := cx [⟨136, F136.A, F136.R, c136⟩] [(0, [.d 0 (.sl 3 (.int .i64)), .d 1 (.sl 3 (.int .i64)), .o 5 500005 3 (.int .i64), .d 6 (.int .i64), .d 7 (.int .i64)]), (100007, [.d 0 (.sl 3 (.int .i64)), .d 1 (.sl 3 (.int .i64)), .o 5 500005 3 (.int .i64), .d 6 (.int .i64), .d 7 (.int .i64)]), (100009, [.d 0 (.sl 3 (.int .i64)), .d 1 (.sl 3 (.int .i64)), .o 5 500005 3 (.int .i64), .d 6 (.int .i64), .d 7 (.int .i64)]), (100010, [.d 0 (.sl 3 (.int .i64)), .d 1 (.sl 3 (.int .i64)), .o 5 500005 3 (.int .i64), .d 6 (.int .i64), .d 7 (.int .i64)])]
noncomputable def F92.M_l0 (s : St) : Option LI := lpAt (F92.C c136) k n [1, 1, 1, 0, 1, 0] [] Tryz.f92 F92.A F92.R s
noncomputable def F92.fr_l0 (x0 : LI) (x1 : LI) (x5 : LI) (x6 : Int) (x7 : Int) : St := ⟨((((((List.replicate 53 V.un).set 0 (V.dat (.sl 3 (.int .i64)) x0)).set 1 (V.dat (.sl 3 (.int .i64)) x1)).set 5 (V.ref 500005 0 0 (List.length x5))).set 6 (V.dat (.int .i64) x6)).set 7 (V.dat (.int .i64) x7)), [⟨500005, 0, .arr 3 (.int .i64) x5⟩]⟩
noncomputable def F92.M_g7 (s : St) : Option LI := gtAt (F92.C c136) k [1, 1, 1, 0, 1, 0, 0, 1, 0, 0, 0, 1, 0] [m0] Tryz.f92 F92.A F92.R s
noncomputable def F92.fr_g7 (x0 : LI) (x1 : LI) (x5 : LI) (x6 : Int) (x7 : Int) : St := ⟨((((((List.replicate 53 V.un).set 0 (V.dat (.sl 3 (.int .i64)) x0)).set 1 (V.dat (.sl 3 (.int .i64)) x1)).set 5 (V.ref 500005 0 0 (List.length x5))).set 6 (V.dat (.int .i64) x6)).set 7 (V.dat (.int .i64) x7)), [⟨500005, 0, .arr 3 (.int .i64) x5⟩]⟩
noncomputable def F92.M_g9 (s : St) : Option LI := gtAt (F92.C c136) k [1, 1, 1, 0, 1, 0, 0, 1, 0, 0, 1, 0, 1, 0] [m0] Tryz.f92 F92.A F92.R s
noncomputable def F92.fr_g9 (x0 : LI) (x1 : LI) (x5 : LI) (x6 : Int) (x7 : Int) : St := ⟨((((((List.replicate 53 V.un).set 0 (V.dat (.sl 3 (.int .i64)) x0)).set 1 (V.dat (.sl 3 (.int .i64)) x1)).set 5 (V.ref 500005 0 0 (List.length x5))).set 6 (V.dat (.int .i64) x6)).set 7 (V.dat (.int .i64) x7)), [⟨500005, 0, .arr 3 (.int .i64) x5⟩]⟩
noncomputable def F92.M_g10 (s : St) : Option LI := gtAt (F92.C c136) k [1, 1, 1, 0, 1, 0, 0, 1, 0, 0, 1, 1, 0] [m0] Tryz.f92 F92.A F92.R s
noncomputable def F92.fr_g10 (x0 : LI) (x1 : LI) (x5 : LI) (x6 : Int) (x7 : Int) : St := ⟨((((((List.replicate 53 V.un).set 0 (V.dat (.sl 3 (.int .i64)) x0)).set 1 (V.dat (.sl 3 (.int .i64)) x1)).set 5 (V.ref 500005 0 0 (List.length x5))).set 6 (V.dat (.int .i64) x6)).set 7 (V.dat (.int .i64) x7)), [⟨500005, 0, .arr 3 (.int .i64) x5⟩]⟩
section
variable (n_l0 : LI → LI → LI → Int → Int → Option LI) (x0 x1 x5 : LI) (x6 x7 : Int)
def F92.b_g10 (c136 : F136.E) (n_l0 : LI → LI → LI → Int → Int → Option LI) (x0 : LI) (x1 : LI) (x5 : LI) (x6 : Int) (x7 : Int) : Option LI :=
 if (List.length x5) ≤ (List.length x5) ∧ ((List.length x5) + (List.length (List.take 1 ([(Int.tmod x6 (65536 : Int))] : LI)))) * 8 ≤ LIM then
 n_l0 x0 x1 (List.take (List.length (List.append (List.take (List.length x5) x5) (List.take 1 ([(Int.tmod x6 (65536 : Int))] : LI)))) (List.append (List.take (List.length x5) x5) (List.take 1 ([(Int.tmod x6 (65536 : Int))] : LI)))) (IntKind.i64.wrap (Int.tdiv x6 (65536 : Int))) (IntKind.i64.wrap (x7 + (1 : Int)))
 else none
def F92.c_g10 (c136 : F136.E) (n_l0 : LI → LI → LI → Int → Int → Option LI) (x0 : LI) (x1 : LI) (x5 : LI) (x6 : Int) (x7 : Int) : Option LI :=
 if ((List.length x5) + (List.length ([(Int.tmod x6 (65536 : Int))] : LI))) * 8 ≤ LIM then
 n_l0 x0 x1 (x5 ++ ([(Int.tmod x6 (65536 : Int))] : LI)) (IntKind.i64.wrap (Int.tdiv x6 (65536 : Int))) (IntKind.i64.wrap (x7 + (1 : Int)))
 else none
theorem F92.q_g10 : F92.b_g10 c136 n_l0 x0 x1 x5 x6 x7 = F92.c_g10 c136 n_l0 x0 x1 x5 x6 x7 := by
  simp only [F92.b_g10, F92.c_g10, qq]
def F92.g10 : Option LI := gate k (F92.b_g10 c136 n_l0 x0 x1 x5 x6 x7)
theorem F92.e_g10 : F92.M_g10 c136 k m0 (F92.fr_g10 x0 x1 x5 x6 x7) = F92.g10 c136 k (fun x0 x1 x5 x6 x7 => F92.M_l0 c136 k m0 (F92.fr_l0 x0 x1 x5 x6 x7)) x0 x1 x5 x6 x7 := by
  kernel_rfl
end
section
variable (r_g10 : LI → LI → LI → Int → Int → Option LI) (x0 x1 x5 : LI) (x6 x7 : Int)
def F92.b_g9 (c136 : F136.E) (r_g10 : LI → LI → LI → Int → Int → Option LI) (x0 : LI) (x1 : LI) (x5 : LI) (x6 : Int) (x7 : Int) : Option LI :=
 if 0 ≤ x7 ∧ x7 < ((List.length x1) : Int) then
 r_g10 x0 x1 (List.take (List.length x5) x5) (IntKind.i64.wrap (x6 + (List.getD x1 (Int.toNat x7) (0 : Int)))) x7
 else none
def F92.c_g9 (c136 : F136.E) (r_g10 : LI → LI → LI → Int → Int → Option LI) (x0 : LI) (x1 : LI) (x5 : LI) (x6 : Int) (x7 : Int) : Option LI :=
 if 0 ≤ x7 ∧ x7 < ((List.length x1) : Int) then
 r_g10 x0 x1 x5 (IntKind.i64.wrap (x6 + (List.getD x1 (Int.toNat x7) (0 : Int)))) x7
 else none
theorem F92.q_g9 : F92.b_g9 c136 r_g10 x0 x1 x5 x6 x7 = F92.c_g9 c136 r_g10 x0 x1 x5 x6 x7 := by
  simp only [F92.b_g9, F92.c_g9, qq]
def F92.g9 (n_l0 : LI → LI → LI → Int → Int → Option LI) (x0 : LI) (x1 : LI) (x5 : LI) (x6 : Int) (x7 : Int) : Option LI := gate k (F92.b_g9 c136 (F92.g10 c136 k n_l0) x0 x1 x5 x6 x7)
theorem F92.e_g9 : F92.M_g9 c136 k m0 (F92.fr_g9 x0 x1 x5 x6 x7) = F92.g9 c136 k (fun x0 x1 x5 x6 x7 => F92.M_l0 c136 k m0 (F92.fr_l0 x0 x1 x5 x6 x7)) x0 x1 x5 x6 x7 := by
  refine Eq.trans (b := gate k (F92.b_g9 c136 (fun x0 x1 x5 x6 x7 => F92.M_g10 c136 k m0 (F92.fr_g10 x0 x1 x5 x6 x7)) x0 x1 x5 x6 x7)) (by kernel_rfl) ?_
  simp only [F92.e_g10]
  rfl
end
section
variable (r_g9 r_g10 : LI → LI → LI → Int → Int → Option LI) (x0 x1 x5 : LI) (x6 x7 : Int)
def F92.b_g7 (c136 : F136.E) (r_g9 : LI → LI → LI → Int → Int → Option LI) (r_g10 : LI → LI → LI → Int → Int → Option LI) (x0 : LI) (x1 : LI) (x5 : LI) (x6 : Int) (x7 : Int) : Option LI :=
 if 0 ≤ x7 ∧ x7 < ((List.length x0) : Int) then
 bif (decide (x7 < ((List.length x1) : Int))) then
 r_g9 x0 x1 (List.take (List.length x5) x5) (IntKind.i64.wrap (x6 + (List.getD x0 (Int.toNat x7) (0 : Int)))) x7
 else
 r_g10 x0 x1 (List.take (List.length x5) x5) (IntKind.i64.wrap (x6 + (List.getD x0 (Int.toNat x7) (0 : Int)))) x7
 else none
def F92.c_g7 (c136 : F136.E) (r_g9 : LI → LI → LI → Int → Int → Option LI) (r_g10 : LI → LI → LI → Int → Int → Option LI) (x0 : LI) (x1 : LI) (x5 : LI) (x6 : Int) (x7 : Int) : Option LI :=
 if 0 ≤ x7 ∧ x7 < ((List.length x0) : Int) then
 bif (decide (x7 < ((List.length x1) : Int))) then
 r_g9 x0 x1 x5 (IntKind.i64.wrap (x6 + (List.getD x0 (Int.toNat x7) (0 : Int)))) x7
 else
 r_g10 x0 x1 x5 (IntKind.i64.wrap (x6 + (List.getD x0 (Int.toNat x7) (0 : Int)))) x7
 else none
theorem F92.q_g7 : F92.b_g7 c136 r_g9 r_g10 x0 x1 x5 x6 x7 = F92.c_g7 c136 r_g9 r_g10 x0 x1 x5 x6 x7 := by
  simp only [F92.b_g7, F92.c_g7, qq]
def F92.g7 (n_l0 : LI → LI → LI → Int → Int → Option LI) (x0 : LI) (x1 : LI) (x5 : LI) (x6 : Int) (x7 : Int) : Option LI := gate k (F92.b_g7 c136 (F92.g9 c136 k n_l0) (F92.g10 c136 k n_l0) x0 x1 x5 x6 x7)
theorem F92.e_g7 : F92.M_g7 c136 k m0 (F92.fr_g7 x0 x1 x5 x6 x7) = F92.g7 c136 k (fun x0 x1 x5 x6 x7 => F92.M_l0 c136 k m0 (F92.fr_l0 x0 x1 x5 x6 x7)) x0 x1 x5 x6 x7 := by
  refine Eq.trans (b := gate k (F92.b_g7 c136 (fun x0 x1 x5 x6 x7 => F92.M_g9 c136 k m0 (F92.fr_g9 x0 x1 x5 x6 x7)) (fun x0 x1 x5 x6 x7 => F92.M_g10 c136 k m0 (F92.fr_g10 x0 x1 x5 x6 x7)) x0 x1 x5 x6 x7)) (by kernel_rfl) ?_
  simp only [F92.e_g10, F92.e_g9]
  rfl
end
section
variable (r_g7 r_g9 r_g10 : LI → LI → LI → Int → Int → Option LI) (x0 x1 x5 : LI) (x6 x7 : Int)
def F92.b_l0 : Option LI :=
 bif (decide (x7 < ((List.length x0) : Int))) then
 bif (decide (x7 < ((List.length x0) : Int))) then
 r_g7 x0 x1 (List.take (List.length x5) x5) x6 x7
 else
 bif (decide (x7 < ((List.length x1) : Int))) then
 r_g9 x0 x1 (List.take (List.length x5) x5) x6 x7
 else
 r_g10 x0 x1 (List.take (List.length x5) x5) x6 x7
 else
 bif (decide (x7 < ((List.length x1) : Int))) then
 bif (decide (x7 < ((List.length x0) : Int))) then
 r_g7 x0 x1 (List.take (List.length x5) x5) x6 x7
 else
 bif (decide (x7 < ((List.length x1) : Int))) then
 r_g9 x0 x1 (List.take (List.length x5) x5) x6 x7
 else
 r_g10 x0 x1 (List.take (List.length x5) x5) x6 x7
 else
 bif (decide (x6 > (0 : Int))) then
 bif (decide (x7 < ((List.length x0) : Int))) then
 r_g7 x0 x1 (List.take (List.length x5) x5) x6 x7
 else
 bif (decide (x7 < ((List.length x1) : Int))) then
 r_g9 x0 x1 (List.take (List.length x5) x5) x6 x7
 else
 r_g10 x0 x1 (List.take (List.length x5) x5) x6 x7
 else
 (c136 (List.take (List.length x5) x5)).bind fun y1 =>
 some y1
def F92.c_l0 : Option LI :=
 bif (decide (x7 < ((List.length x0) : Int))) then
 bif (decide (x7 < ((List.length x0) : Int))) then
 r_g7 x0 x1 x5 x6 x7
 else
 bif (decide (x7 < ((List.length x1) : Int))) then
 r_g9 x0 x1 x5 x6 x7
 else
 r_g10 x0 x1 x5 x6 x7
 else
 bif (decide (x7 < ((List.length x1) : Int))) then
 bif (decide (x7 < ((List.length x0) : Int))) then
 r_g7 x0 x1 x5 x6 x7
 else
 bif (decide (x7 < ((List.length x1) : Int))) then
 r_g9 x0 x1 x5 x6 x7
 else
 r_g10 x0 x1 x5 x6 x7
 else
 bif (decide (x6 > (0 : Int))) then
 bif (decide (x7 < ((List.length x0) : Int))) then
 r_g7 x0 x1 x5 x6 x7
 else
 bif (decide (x7 < ((List.length x1) : Int))) then
 r_g9 x0 x1 x5 x6 x7
 else
 r_g10 x0 x1 x5 x6 x7
 else
 (c136 x5).bind fun y1 =>
 some y1
theorem F92.q_l0 : F92.b_l0 c136 r_g7 r_g9 r_g10 x0 x1 x5 x6 x7 = F92.c_l0 c136 r_g7 r_g9 r_g10 x0 x1 x5 x6 x7 := by
  simp only [F92.b_l0, F92.c_l0, qq]
def F92.l0 : Nat → LI → LI → LI → Int → Int → Option LI
  | 0, _, _, _, _, _ => none
  | n + 1, x0, x1, x5, x6, x7 => F92.b_l0 c136 (F92.g7 c136 k (fun x0 x1 x5 x6 x7 => F92.l0 n x0 x1 x5 x6 x7)) (F92.g9 c136 k (fun x0 x1 x5 x6 x7 => F92.l0 n x0 x1 x5 x6 x7)) (F92.g10 c136 k (fun x0 x1 x5 x6 x7 => F92.l0 n x0 x1 x5 x6 x7)) x0 x1 x5 x6 x7
theorem F92.e_l0 : F92.M_l0 c136 k n (F92.fr_l0 x0 x1 x5 x6 x7) = F92.l0 c136 k n x0 x1 x5 x6 x7 := by
  induction n generalizing x0 x1 x5 x6 x7 with
  | zero => exact lpAt0
  | succ n ih =>
    refine Eq.trans (b := F92.b_l0 c136 (fun x0 x1 x5 x6 x7 => F92.M_g7 c136 k n (F92.fr_g7 x0 x1 x5 x6 x7)) (fun x0 x1 x5 x6 x7 => F92.M_g9 c136 k n (F92.fr_g9 x0 x1 x5 x6 x7)) (fun x0 x1 x5 x6 x7 => F92.M_g10 c136 k n (F92.fr_g10 x0 x1 x5 x6 x7)) x0 x1 x5 x6 x7) (by kernel_rfl) ?_
    simp only [F92.e_g10, F92.e_g7, F92.e_g9, ih]
    rfl
end
variable (r_l0 : LI → LI → LI → Int → Int → Option LI) (a0 a1 : LI)
def F92.b (c136 : F136.E) (r_l0 : LI → LI → LI → Int → Int → Option LI) (a0 : LI) (a1 : LI) : Option LI :=
 r_l0 a0 a1 ([] : LI) (0 : Int) (0 : Int)
def F92.f : Option LI := F92.b c136 (F92.l0 c136 k k) a0 a1
theorem F92.e : fn (F92.C c136) k Tryz.f92 F92.A F92.R (a0, a1) = F92.f c136 k a0 a1 := by
  refine Eq.trans (b := F92.b c136 (fun x0 x1 x5 x6 x7 => F92.M_l0 c136 k k (F92.fr_l0 x0 x1 x5 x6 x7)) a0 a1) (by kernel_rfl) ?_
  simp only [F92.e_l0]
  rfl
end
def F92.u (k : Nat) : F92.E := fun y => F92.f (F136.u k) k y.1 y.2
theorem F92.sound (k : Nat) : Sound Tryz.prog ⟨92, F92.A, F92.R, F92.u k⟩ := sn gr Tryz.func92 (fun y => F92.e (F136.u k) k y.1 y.2) (al (F136.sound k) al0)
/-! ### brindlewood/brindlewoodref3.Double: f181 -/
abbrev F181.A : List Sh := [(.d (.sl 3 (.int .i64))), (.d .bool)]
abbrev F181.R : List Sh := [(.d (.sl 3 (.int .i64)))]
abbrev F181.E : Type := (LI × Bool) → Option LI
section
variable (c136 : F136.E)
variable (k n : Nat)
def F181.C : Ctx := cx [⟨136, F136.A, F136.R, c136⟩] [(0, [.d 0 (.sl 3 (.int .i64)), .d 5 (.int .i64), .o 6 500006 3 (.int .i64), .d 7 (.int .i64)])]
noncomputable def F181.M_l0 (s : St) : Option LI := lpAt (F181.C c136) k n [1, 1, 1, 1, 0, 1, 0] [] Tryz.f181 F181.A F181.R s
noncomputable def F181.fr_l0 (x0 : LI) (x5 : Int) (x6 : LI) (x7 : Int) : St := ⟨(((((List.replicate 38 V.un).set 0 (V.dat (.sl 3 (.int .i64)) x0)).set 5 (V.dat (.int .i64) x5)).set 6 (V.ref 500006 0 0 (List.length x6))).set 7 (V.dat (.int .i64) x7)), [⟨500006, 0, .arr 3 (.int .i64) x6⟩]⟩
section
variable (n_l0 : LI → Int → LI → Int → Option LI) (x0 : LI) (x5 : Int) (x6 : LI) (x7 : Int)
def F181.b_l0 : Option LI :=
 bif (decide (x7 < ((List.length x0) : Int))) then
 if 0 ≤ x7 ∧ x7 < ((List.length x0) : Int) then
 if (List.length x6) ≤ (List.length x6) ∧ ((List.length x6) + (List.length (List.take 1 ([(Int.tmod (IntKind.i64.wrap ((IntKind.i64.wrap ((2 : Int) * (List.getD x0 (Int.toNat x7) (0 : Int)))) + x5)) (65536 : Int))] : LI)))) * 8 ≤ LIM then
 n_l0 x0 (IntKind.i64.wrap (Int.tdiv (IntKind.i64.wrap ((IntKind.i64.wrap ((2 : Int) * (List.getD x0 (Int.toNat x7) (0 : Int)))) + x5)) (65536 : Int))) (List.take (List.length (List.append (List.take (List.length x6) x6) (List.take 1 ([(Int.tmod (IntKind.i64.wrap ((IntKind.i64.wrap ((2 : Int) * (List.getD x0 (Int.toNat x7) (0 : Int)))) + x5)) (65536 : Int))] : LI)))) (List.append (List.take (List.length x6) x6) (List.take 1 ([(Int.tmod (IntKind.i64.wrap ((IntKind.i64.wrap ((2 : Int) * (List.getD x0 (Int.toNat x7) (0 : Int)))) + x5)) (65536 : Int))] : LI)))) (IntKind.i64.wrap (x7 + (1 : Int)))
 else none
 else none
 else
 bif (decide (x5 > (0 : Int))) then
 if (List.length x6) ≤ (List.length x6) ∧ ((List.length x6) + (List.length (List.take 1 ([x5] : LI)))) * 8 ≤ LIM then
 (c136 (List.take (List.length (List.append (List.take (List.length x6) x6) (List.take 1 ([x5] : LI)))) (List.append (List.take (List.length x6) x6) (List.take 1 ([x5] : LI))))).bind fun y1 =>
 some y1
 else none
 else
 (c136 (List.take (List.length x6) x6)).bind fun y2 =>
 some y2
def F181.c_l0 : Option LI :=
 bif (decide (x7 < ((List.length x0) : Int))) then
 if 0 ≤ x7 ∧ x7 < ((List.length x0) : Int) then
 if ((List.length x6) + (List.length ([(Int.tmod (IntKind.i64.wrap ((IntKind.i64.wrap ((2 : Int) * (List.getD x0 (Int.toNat x7) (0 : Int)))) + x5)) (65536 : Int))] : LI))) * 8 ≤ LIM then
 n_l0 x0 (IntKind.i64.wrap (Int.tdiv (IntKind.i64.wrap ((IntKind.i64.wrap ((2 : Int) * (List.getD x0 (Int.toNat x7) (0 : Int)))) + x5)) (65536 : Int))) (x6 ++ ([(Int.tmod (IntKind.i64.wrap ((IntKind.i64.wrap ((2 : Int) * (List.getD x0 (Int.toNat x7) (0 : Int)))) + x5)) (65536 : Int))] : LI)) (IntKind.i64.wrap (x7 + (1 : Int)))
 else none
 else none
 else
 bif (decide (x5 > (0 : Int))) then
 if ((List.length x6) + (List.length ([x5] : LI))) * 8 ≤ LIM then
 (c136 (x6 ++ ([x5] : LI))).bind fun y1 =>
 some y1
 else none
 else
 (c136 x6).bind fun y2 =>
 some y2
theorem F181.q_l0 : F181.b_l0 c136 n_l0 x0 x5 x6 x7 = F181.c_l0 c136 n_l0 x0 x5 x6 x7 := by
  simp only [F181.b_l0, F181.c_l0, qq]
def F181.l0 (k : Nat) : Nat → LI → Int → LI → Int → Option LI
  | 0, _, _, _, _ => none
  | n + 1, x0, x5, x6, x7 => F181.b_l0 c136 (fun x0 x5 x6 x7 => F181.l0 k n x0 x5 x6 x7) x0 x5 x6 x7
theorem F181.e_l0 : F181.M_l0 c136 k n (F181.fr_l0 x0 x5 x6 x7) = F181.l0 c136 k n x0 x5 x6 x7 := by
  induction n generalizing x0 x5 x6 x7 with
  | zero => exact lpAt0
  | succ n ih =>
    refine Eq.trans (b := F181.b_l0 c136 (fun x0 x5 x6 x7 => F181.M_l0 c136 k n (F181.fr_l0 x0 x5 x6 x7)) x0 x5 x6 x7) (by kernel_rfl) ?_
    simp only [ih]
    rfl
end
variable (r_l0 : LI → Int → LI → Int → Option LI) (a0 : LI) (a1 : Bool)
def F181.b (c136 : F136.E) (r_l0 : LI → Int → LI → Int → Option LI) (a0 : LI) (a1 : Bool) : Option LI :=
 bif a1 then
 r_l0 a0 (1 : Int) ([] : LI) (0 : Int)
 else
 r_l0 a0 (0 : Int) ([] : LI) (0 : Int)
def F181.f : Option LI := F181.b c136 (F181.l0 c136 k k) a0 a1
theorem F181.e : fn (F181.C c136) k Tryz.f181 F181.A F181.R (a0, a1) = F181.f c136 k a0 a1 := by
  refine Eq.trans (b := F181.b c136 (fun x0 x5 x6 x7 => F181.M_l0 c136 k k (F181.fr_l0 x0 x5 x6 x7)) a0 a1) (by kernel_rfl) ?_
  simp only [F181.e_l0]
  rfl
end
def F181.u (k : Nat) : F181.E := fun y => F181.f (F136.u k) k y.1 y.2
theorem F181.sound (k : Nat) : Sound Tryz.prog ⟨181, F181.A, F181.R, F181.u k⟩ := sn gr Tryz.func181 (fun y => F181.e (F136.u k) k y.1 y.2) (al (F136.sound k) al0)
/-! ### brindlewood/brindlewoodref3.Common: f160 -/
abbrev F160.A : List Sh := [(.d (.sl 3 (.int .i64))), (.d (.sl 3 (.int .i64)))]
abbrev F160.R : List Sh := [(.d (.sl 3 (.int .i64)))]
abbrev F160.E : Type := (LI × LI) → Option LI
section
variable (c180 : F180.E) (c93 : F93.E) (c94 : F94.E) (c92 : F92.E) (c181 : F181.E)
variable (k n m0 : Nat)
def F160.C : Ctx := cx [⟨180, F180.A, F180.R, c180⟩, ⟨93, F93.A, F93.R, c93⟩, ⟨94, F94.A, F94.R, c94⟩, ⟨92, F92.A, F92.R, c92⟩, ⟨181, F181.A, F181.R, c181⟩] [(0, [.d 0 (.sl 3 (.int .i64)), .d 1 (.sl 3 (.int .i64)), .d 5 (.int .i64)]), (100008, [.d 0 (.sl 3 (.int .i64)), .d 1 (.sl 3 (.int .i64)), .d 5 (.int .i64)]), (3, [.d 5 (.int .i64), .d 6 (.sl 3 (.int .i64))])]
noncomputable def F160.M_l0 (s : St) : Option LI := lpAt (F160.C c180 c93 c94 c92 c181) k n [1, 1, 0, 0] [] Tryz.f160 F160.A F160.R s
noncomputable def F160.fr_l0 (x0 : LI) (x1 : LI) (x5 : Int) : St := ⟨((((List.replicate 83 V.un).set 0 (V.dat (.sl 3 (.int .i64)) x0)).set 1 (V.dat (.sl 3 (.int .i64)) x1)).set 5 (V.dat (.int .i64) x5)), []⟩
noncomputable def F160.M_g8 (s : St) : Option LI := gtAt (F160.C c180 c93 c94 c92 c181) k [1, 1, 0, 0, 0, 1, 0, 0, 1, 1, 0] [m0] Tryz.f160 F160.A F160.R s
noncomputable def F160.fr_g8 (x0 : LI) (x1 : LI) (x5 : Int) : St := ⟨((((List.replicate 83 V.un).set 0 (V.dat (.sl 3 (.int .i64)) x0)).set 1 (V.dat (.sl 3 (.int .i64)) x1)).set 5 (V.dat (.int .i64) x5)), []⟩
noncomputable def F160.M_l3 (s : St) : Option LI := lpAt (F160.C c180 c93 c94 c92 c181) k n [1, 1, 1, 1, 0, 0] [] Tryz.f160 F160.A F160.R s
noncomputable def F160.fr_l3 (x5 : Int) (x6 : LI) : St := ⟨(((List.replicate 83 V.un).set 5 (V.dat (.int .i64) x5)).set 6 (V.dat (.sl 3 (.int .i64)) x6)), []⟩
section
variable (n_l0 : LI → LI → Int → Option LI) (x0 x1 : LI) (x5 : Int)
def F160.b_g8 (c92 : F92.E) (c181 : F181.E) (n_l0 : LI → LI → Int → Option LI) (x0 : LI) (x1 : LI) (x5 : Int) : Option LI :=
 if 0 ≤ (0 : Int) ∧ (0 : Int) < ((List.length x0) : Int) then
 bif ((Int.tmod (List.getD x0 (Int.toNat (0 : Int)) (0 : Int)) (2 : Int)) == (0 : Int)) then
 (c180 (x0, (2 : Int))).bind fun y3 =>
 n_l0 y3.1 x1 x5
 else
 if 0 ≤ (0 : Int) ∧ (0 : Int) < ((List.length x1) : Int) then
 bif ((Int.tmod (List.getD x1 (Int.toNat (0 : Int)) (0 : Int)) (2 : Int)) == (0 : Int)) then
 (c180 (x1, (2 : Int))).bind fun y4 =>
 n_l0 x0 y4.1 x5
 else
 (c93 (x0, x1)).bind fun y5 =>
 bif (decide (y5 ≥ (0 : Int))) then
 (c94 (x0, x1)).bind fun y6 =>
 n_l0 y6 x1 x5
 else
 (c94 (x1, x0)).bind fun y7 =>
 n_l0 x0 y7 x5
 else none
 else none
def F160.c_g8 (c92 : F92.E) (c181 : F181.E) (n_l0 : LI → LI → Int → Option LI) (x0 : LI) (x1 : LI) (x5 : Int) : Option LI :=
 if (0 : Int) < ((List.length x0) : Int) then
 bif ((Int.tmod (List.getD x0 0 (0 : Int)) (2 : Int)) == (0 : Int)) then
 (c180 (x0, (2 : Int))).bind fun y3 =>
 n_l0 y3.1 x1 x5
 else
 if (0 : Int) < ((List.length x1) : Int) then
 bif ((Int.tmod (List.getD x1 0 (0 : Int)) (2 : Int)) == (0 : Int)) then
 (c180 (x1, (2 : Int))).bind fun y4 =>
 n_l0 x0 y4.1 x5
 else
 (c93 (x0, x1)).bind fun y5 =>
 bif (decide (y5 ≥ (0 : Int))) then
 (c94 (x0, x1)).bind fun y6 =>
 n_l0 y6 x1 x5
 else
 (c94 (x1, x0)).bind fun y7 =>
 n_l0 x0 y7 x5
 else none
 else none
theorem F160.q_g8 : F160.b_g8 c180 c93 c94 c92 c181 n_l0 x0 x1 x5 = F160.c_g8 c180 c93 c94 c92 c181 n_l0 x0 x1 x5 := by
  simp only [F160.b_g8, F160.c_g8, qq]
def F160.g8 : Option LI := gate k (F160.b_g8 c180 c93 c94 c92 c181 n_l0 x0 x1 x5)
theorem F160.e_g8 : F160.M_g8 c180 c93 c94 c92 c181 k m0 (F160.fr_g8 x0 x1 x5) = F160.g8 c180 c93 c94 c92 c181 k (fun x0 x1 x5 => F160.M_l0 c180 c93 c94 c92 c181 k m0 (F160.fr_l0 x0 x1 x5)) x0 x1 x5 := by
  kernel_rfl
end
section
variable (n_l3 : Int → LI → Option LI) (x5 : Int) (x6 : LI)
def F160.b_l3 (c180 : F180.E) (c93 : F93.E) (c94 : F94.E) (c92 : F92.E) (c181 : F181.E) (n_l3 : Int → LI → Option LI) (x5 : Int) (x6 : LI) : Option LI :=
 bif (decide (x5 > (0 : Int))) then
 (c181 (x6, false)).bind fun y9 =>
 n_l3 (IntKind.i64.wrap (x5 - (1 : Int))) y9
 else
 some x6
def F160.l3 (k : Nat) : Nat → Int → LI → Option LI
  | 0, _, _ => none
  | n + 1, x5, x6 => F160.b_l3 c180 c93 c94 c92 c181 (fun x5 x6 => F160.l3 k n x5 x6) x5 x6
theorem F160.e_l3 : F160.M_l3 c180 c93 c94 c92 c181 k n (F160.fr_l3 x5 x6) = F160.l3 c180 c93 c94 c92 c181 k n x5 x6 := by
  induction n generalizing x5 x6 with
  | zero => exact lpAt0
  | succ n ih =>
    refine Eq.trans (b := F160.b_l3 c180 c93 c94 c92 c181 (fun x5 x6 => F160.M_l3 c180 c93 c94 c92 c181 k n (F160.fr_l3 x5 x6)) x5 x6) (by kernel_rfl) ?_
    simp only [ih]
    rfl
end
section
variable (n_l0 r_g8 : LI → LI → Int → Option LI) (r_l3 : Int → LI → Option LI) (x0 x1 : LI) (x5 : Int)
def F160.b_l0 (c93 : F93.E) (c94 : F94.E) (c92 : F92.E) (c181 : F181.E) (n_l0 : LI → LI → Int → Option LI) (r_g8 : LI → LI → Int → Option LI) (r_l3 : Int → LI → Option LI) (x0 : LI) (x1 : LI) (x5 : Int) : Option LI :=
 bif (decide (((List.length x0) : Int) > (0 : Int))) then
 bif (decide (((List.length x1) : Int) > (0 : Int))) then
 if 0 ≤ (0 : Int) ∧ (0 : Int) < ((List.length x0) : Int) then
 bif ((Int.tmod (List.getD x0 (Int.toNat (0 : Int)) (0 : Int)) (2 : Int)) == (0 : Int)) then
 if 0 ≤ (0 : Int) ∧ (0 : Int) < ((List.length x1) : Int) then
 bif ((Int.tmod (List.getD x1 (Int.toNat (0 : Int)) (0 : Int)) (2 : Int)) == (0 : Int)) then
 (c180 (x0, (2 : Int))).bind fun y1 =>
 (c180 (x1, (2 : Int))).bind fun y2 =>
 n_l0 y1.1 y2.1 (IntKind.i64.wrap (x5 + (1 : Int)))
 else
 r_g8 x0 x1 x5
 else none
 else
 r_g8 x0 x1 x5
 else none
 else
 (c92 (x0, x1)).bind fun y8 =>
 r_l3 x5 y8
 else
 (c92 (x0, x1)).bind fun y10 =>
 r_l3 x5 y10
def F160.c_l0 (c93 : F93.E) (c94 : F94.E) (c92 : F92.E) (c181 : F181.E) (n_l0 : LI → LI → Int → Option LI) (r_g8 : LI → LI → Int → Option LI) (r_l3 : Int → LI → Option LI) (x0 : LI) (x1 : LI) (x5 : Int) : Option LI :=
 bif (decide (((List.length x0) : Int) > (0 : Int))) then
 bif (decide (((List.length x1) : Int) > (0 : Int))) then
 if (0 : Int) < ((List.length x0) : Int) then
 bif ((Int.tmod (List.getD x0 0 (0 : Int)) (2 : Int)) == (0 : Int)) then
 if (0 : Int) < ((List.length x1) : Int) then
 bif ((Int.tmod (List.getD x1 0 (0 : Int)) (2 : Int)) == (0 : Int)) then
 (c180 (x0, (2 : Int))).bind fun y1 =>
 (c180 (x1, (2 : Int))).bind fun y2 =>
 n_l0 y1.1 y2.1 (IntKind.i64.wrap (x5 + (1 : Int)))
 else
 r_g8 x0 x1 x5
 else none
 else
 r_g8 x0 x1 x5
 else none
 else
 (c92 (x0, x1)).bind fun y8 =>
 r_l3 x5 y8
 else
 (c92 (x0, x1)).bind fun y10 =>
 r_l3 x5 y10
theorem F160.q_l0 : F160.b_l0 c180 c93 c94 c92 c181 n_l0 r_g8 r_l3 x0 x1 x5 = F160.c_l0 c180 c93 c94 c92 c181 n_l0 r_g8 r_l3 x0 x1 x5 := by
  simp only [F160.b_l0, F160.c_l0, qq]
def F160.l0 : Nat → LI → LI → Int → Option LI
  | 0, _, _, _ => none
  | n + 1, x0, x1, x5 => F160.b_l0 c180 c93 c94 c92 c181 (fun x0 x1 x5 => F160.l0 n x0 x1 x5) (F160.g8 c180 c93 c94 c92 c181 k (fun x0 x1 x5 => F160.l0 n x0 x1 x5)) (F160.l3 c180 c93 c94 c92 c181 k k) x0 x1 x5
theorem F160.e_l0 : F160.M_l0 c180 c93 c94 c92 c181 k n (F160.fr_l0 x0 x1 x5) = F160.l0 c180 c93 c94 c92 c181 k n x0 x1 x5 := by
  induction n generalizing x0 x1 x5 with
  | zero => exact lpAt0
  | succ n ih =>
    refine Eq.trans (b := F160.b_l0 c180 c93 c94 c92 c181 (fun x0 x1 x5 => F160.M_l0 c180 c93 c94 c92 c181 k n (F160.fr_l0 x0 x1 x5)) (fun x0 x1 x5 => F160.M_g8 c180 c93 c94 c92 c181 k n (F160.fr_g8 x0 x1 x5)) (fun x5 x6 => F160.M_l3 c180 c93 c94 c92 c181 k k (F160.fr_l3 x5 x6)) x0 x1 x5) (by kernel_rfl) ?_
    simp only [F160.e_g8, F160.e_l3, ih]
    rfl
end
variable (r_l0 : LI → LI → Int → Option LI) (a0 a1 : LI)
def F160.b (c180 : F180.E) (c93 : F93.E) (c94 : F94.E) (c92 : F92.E) (c181 : F181.E) (r_l0 : LI → LI → Int → Option LI) (a0 : LI) (a1 : LI) : Option LI :=
 r_l0 a0 a1 (0 : Int)
def F160.f : Option LI := F160.b c180 c93 c94 c92 c181 (F160.l0 c180 c93 c94 c92 c181 k k) a0 a1
theorem F160.e : fn (F160.C c180 c93 c94 c92 c181) k Tryz.f160 F160.A F160.R (a0, a1) = F160.f c180 c93 c94 c92 c181 k a0 a1 := by
  refine Eq.trans (b := F160.b c180 c93 c94 c92 c181 (fun x0 x1 x5 => F160.M_l0 c180 c93 c94 c92 c181 k k (F160.fr_l0 x0 x1 x5)) a0 a1) (by kernel_rfl) ?_
  simp only [F160.e_l0]
  rfl
end
def F160.u (k : Nat) : F160.E := fun y => F160.f (F180.u k) (F93.u k) (F94.u k) (F92.u k) (F181.u k) k y.1 y.2
theorem F160.sound (k : Nat) : Sound Tryz.prog ⟨160, F160.A, F160.R, F160.u k⟩ := sn gr Tryz.func160 (fun y => F160.e (F180.u k) (F93.u k) (F94.u k) (F92.u k) (F181.u k) k y.1 y.2) (al (F180.sound k) (al (F93.sound k) (al (F94.sound k) (al (F92.sound k) (al (F181.sound k) al0)))))
/-! ### brindlewood/brindlewoodref3.Small: f132 -/
abbrev F132.A : List Sh := [(.d (.int .i64))]
abbrev F132.R : List Sh := [(.d (.sl 3 (.int .i64)))]
abbrev F132.E : Type := Int → Option LI
section
variable (k n : Nat)
def F132.C : Ctx := cx [] [(0, [.d 0 (.int .i64), .o 3 500003 3 (.int .i64)])]
noncomputable def F132.M_l0 (s : St) : Option LI := lpAt F132.C k n [1, 1, 0, 0] [] Tryz.f132 F132.A F132.R s
noncomputable def F132.fr_l0 (x0 : Int) (x3 : LI) : St := ⟨(((List.replicate 14 V.un).set 0 (V.dat (.int .i64) x0)).set 3 (V.ref 500003 0 0 (List.length x3))), [⟨500003, 0, .arr 3 (.int .i64) x3⟩]⟩
section
variable (n_l0 : Int → LI → Option LI) (x0 : Int) (x3 : LI)
def F132.b_l0 : Option LI :=
 bif (decide (x0 > (0 : Int))) then
 if (List.length x3) ≤ (List.length x3) ∧ ((List.length x3) + (List.length (List.take 1 ([(Int.tmod x0 (65536 : Int))] : LI)))) * 8 ≤ LIM then
 n_l0 (IntKind.i64.wrap (Int.tdiv x0 (65536 : Int))) (List.take (List.length (List.append (List.take (List.length x3) x3) (List.take 1 ([(Int.tmod x0 (65536 : Int))] : LI)))) (List.append (List.take (List.length x3) x3) (List.take 1 ([(Int.tmod x0 (65536 : Int))] : LI))))
 else none
 else
 some (List.take (List.length x3) x3)
def F132.c_l0 : Option LI :=
 bif (decide (x0 > (0 : Int))) then
 if ((List.length x3) + (List.length ([(Int.tmod x0 (65536 : Int))] : LI))) * 8 ≤ LIM then
 n_l0 (IntKind.i64.wrap (Int.tdiv x0 (65536 : Int))) (x3 ++ ([(Int.tmod x0 (65536 : Int))] : LI))
 else none
 else
 some x3
theorem F132.q_l0 : F132.b_l0 n_l0 x0 x3 = F132.c_l0 n_l0 x0 x3 := by
  simp only [F132.b_l0, F132.c_l0, qq]
def F132.l0 (k : Nat) : Nat → Int → LI → Option LI
  | 0, _, _ => none
  | n + 1, x0, x3 => F132.b_l0 (fun x0 x3 => F132.l0 k n x0 x3) x0 x3
theorem F132.e_l0 : F132.M_l0 k n (F132.fr_l0 x0 x3) = F132.l0 k n x0 x3 := by
  induction n generalizing x0 x3 with
  | zero => exact lpAt0
  | succ n ih =>
    refine Eq.trans (b := F132.b_l0 (fun x0 x3 => F132.M_l0 k n (F132.fr_l0 x0 x3)) x0 x3) (by kernel_rfl) ?_
    simp only [ih]
    rfl
end
variable (r_l0 : Int → LI → Option LI) (a0 : Int)
def F132.b : Option LI :=
 r_l0 a0 ([] : LI)
def F132.f : Option LI := F132.b (F132.l0 k k) a0
theorem F132.e : fn F132.C k Tryz.f132 F132.A F132.R a0 = F132.f k a0 := by
  refine Eq.trans (b := F132.b (fun x0 x3 => F132.M_l0 k k (F132.fr_l0 x0 x3)) a0) (by kernel_rfl) ?_
  simp only [F132.e_l0]
  rfl
end
def F132.u (k : Nat) : F132.E := fun y => F132.f k y
theorem F132.sound (k : Nat) : Sound Tryz.prog ⟨132, F132.A, F132.R, F132.u k⟩ := sn gr Tryz.func132 (fun y => F132.e k y) al0
/-! ### brindlewood/brindlewoodref3.RatioOk: f122 -/
abbrev F122.A : List Sh := [(.d Y_Ratio)]
abbrev F122.R : List Sh := [(.d .bool)]
abbrev F122.E : Type := X_Ratio → Option Bool
section
variable (c121 : F121.E) (c131 : F131.E) (c160 : F160.E) (c132 : F132.E) (c93 : F93.E)
variable (k n : Nat)
def F122.C : Ctx := cx [⟨121, F121.A, F121.R, c121⟩, ⟨131, F131.A, F131.R, c131⟩, ⟨160, F160.A, F160.R, c160⟩, ⟨132, F132.A, F132.R, c132⟩, ⟨93, F93.A, F93.R, c93⟩] []
variable (a0 : X_Int × X_Int)
def F122.b : Option Bool :=
 (c121 a0.1).bind fun y1 =>
 bif (!y1) then
 some false
 else
 (c121 a0.2).bind fun y2 =>
 bif (!y2) then
 some false
 else
 bif a0.2.1 then
 some false
 else
 bif (((List.length a0.2.2) : Int) == (0 : Int)) then
 some false
 else
 (c131 a0.1.2).bind fun y3 =>
 (c131 a0.2.2).bind fun y4 =>
 (c160 (y3, y4)).bind fun y5 =>
 (c132 (1 : Int)).bind fun y6 =>
 (c93 (y5, y6)).bind fun y7 =>
 some (y7 == (0 : Int))
def F122.f (k : Nat) (a0 : X_Int × X_Int) : Option Bool := F122.b c121 c131 c160 c132 c93 a0
theorem F122.e : fn (F122.C c121 c131 c160 c132 c93) k Tryz.f122 F122.A F122.R a0 = F122.f c121 c131 c160 c132 c93 k a0 := by
  kernel_rfl
end
def F122.u (k : Nat) : F122.E := fun y => F122.f (F121.u k) (F131.u k) (F160.u k) (F132.u k) (F93.u k) k y
theorem F122.sound (k : Nat) : Sound Tryz.prog ⟨122, F122.A, F122.R, F122.u k⟩ := sn gr Tryz.func122 (fun y => F122.e (F121.u k) (F131.u k) (F160.u k) (F132.u k) (F93.u k) k y) (al (F121.sound k) (al (F131.sound k) (al (F160.sound k) (al (F132.sound k) (al (F93.sound k) al0)))))
end
end Go.Ab
