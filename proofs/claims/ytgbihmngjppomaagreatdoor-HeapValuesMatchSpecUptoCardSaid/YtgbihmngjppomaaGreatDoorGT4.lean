/- A part of the proof: GT4. -/
import Derived.Test.YtgbihmngjppomaaGreatDoorFTy
import Derived.Test.YtgbihmngjppomaaGreatDoorGC2
import Derived.Test.YtgbihmngjppomaaGreatDoorGT1
import Derived.Test.YtgbihmngjppomaaGreatDoorGT2
import Derived.Test.YtgbihmngjppomaaGreatDoorGT3
namespace Go.Ab
set_option linter.unusedVariables false
set_option linter.unusedSimpArgs false
set_option maxRecDepth 100000
noncomputable section
open Go.Proofs
/-! ### brindlewood/brindlewoodref7.Problem: f39 -/
abbrev F39.A : List Sh := [(.d Y_Heap)]
abbrev F39.R : List Sh := [(.d Y_Fault)]
abbrev F39.E : Type := (List X_Object) → Option X_acceptRange
def F39.C (c64 : F64.E) (c27 : F27.E) (c51 : F51.E) (c65 : F65.E) (c66 : F66.E) (c67 : F67.E) (c68 : F68.E) (c69 : F69.E) (c70 : F70.E) (c71 : F71.E) (c72 : F72.E) : Ctx := { ty := [(3, (.int .i64)), (9, .str), (22, (.sl 36 Y_Object)), (24, Y_Heap), (29, Y_Value), (32, (.sl 3 (.int .i64))), (34, (.sl 29 Y_Value)), (36, Y_Object), (64, Y_Fault)], nf := [(24, 1), (29, 5), (36, 10), (64, 2)], by_ := [(3, 8), (29, 96), (36, 168)], env := [⟨64, F64.A, F64.R, c64⟩, ⟨27, F27.A, F27.R, c27⟩, ⟨51, F51.A, F51.R, c51⟩, ⟨65, F65.A, F65.R, c65⟩, ⟨66, F66.A, F66.R, c66⟩, ⟨67, F67.A, F67.R, c67⟩, ⟨68, F68.A, F68.R, c68⟩, ⟨69, F69.A, F69.R, c69⟩, ⟨70, F70.A, F70.R, c70⟩, ⟨71, F71.A, F71.R, c71⟩, ⟨72, F72.A, F72.R, c72⟩], spec := [(0, [.bx 1 600001 (.d Y_Heap), .bx 2 600002 (.d Y_Fault), .bx 3 600003 (.d Y_Heap), .d 4 (.int .i64), .d 5 (.int .i64), .d 25 (.sl 36 Y_Object), .d 26 (.int .i64), .d 27 (.int .i64)]), (2, [.bx 1 600001 (.d Y_Heap), .bx 2 600002 (.d Y_Fault), .bx 3 600003 (.d Y_Heap), .d 4 (.int .i64), .d 5 (.int .i64), .d 6 (.int .i64), .bx 7 600007 (.d Y_Object), .d 25 (.sl 36 Y_Object), .d 26 (.int .i64), .d 27 (.int .i64), .o 71 500071 3 (.int .i64), .d 72 (.int .i64), .d 73 (.int .i64)]), (4, [.bx 1 600001 (.d Y_Heap), .bx 2 600002 (.d Y_Fault), .bx 3 600003 (.d Y_Heap), .d 4 (.int .i64), .d 5 (.int .i64), .d 25 (.sl 36 Y_Object), .d 26 (.int .i64), .d 27 (.int .i64), .o 121 500121 29 Y_Value, .d 122 (.int .i64), .d 123 (.int .i64)])] }
noncomputable def F39.code : Code := Func.code Tryz.f39
noncomputable def F39.fin (c64 : F64.E) (c27 : F27.E) (c51 : F51.E) (c65 : F65.E) (c66 : F66.E) (c67 : F67.E) (c68 : F68.E) (c69 : F69.E) (c70 : F70.E) (c71 : F71.E) (c72 : F72.E) := kfin (F39.C c64 c27 c51 c65 c66 c67 c68 c69 c70 c71 c72) Tryz.f39 F39.A F39.R
def F39.b (c64 : F64.E) (c27 : F27.E) (c51 : F51.E) (c65 : F65.E) (c66 : F66.E) (c67 : F67.E) (c68 : F68.E) (c69 : F69.E) (c70 : F70.E) (c71 : F71.E) (c72 : F72.E) (r_l0 : (List X_Object) → X_acceptRange → (List X_Object) → (Int) → (Int) → (List X_Object) → (Int) → (Int) → Option X_acceptRange) (a0 : List X_Object) : Option X_acceptRange :=
 bif (decide (((List.length a0) : Int) > (5000 : Int))) then
 (c64 ((2 : Int), (-1 : Int))).bind fun y1 =>
 some y1
 else
 bif (decide (((List.length a0) : Int) < (49 : Int))) then
 (c64 ((9 : Int), (-1 : Int))).bind fun y2 =>
 some y2
 else
 (c27 ()).bind fun y3 =>
 r_l0 a0 ((0 : Int), (0 : Int)) y3 (0 : Int) (0 : Int) a0 ((List.length a0) : Int) (0 : Int)
def F39.b_l0 (c64 : F64.E) (c27 : F27.E) (c51 : F51.E) (c65 : F65.E) (c66 : F66.E) (c67 : F67.E) (c68 : F68.E) (c69 : F69.E) (c70 : F70.E) (c71 : F71.E) (c72 : F72.E) (n_l0 : (List X_Object) → X_acceptRange → (List X_Object) → (Int) → (Int) → (List X_Object) → (Int) → (Int) → Option X_acceptRange) (r_l2 : (List X_Object) → X_acceptRange → (List X_Object) → (Int) → (Int) → (Int) → X_Object → (List X_Object) → (Int) → (Int) → (List (Int)) → (Int) → (Int) → Option X_acceptRange) (x1 : List X_Object) (x2 : (Int) × (Int)) (x3 : List X_Object) (x4 : Int) (x5 : Int) (x25 : List X_Object) (x26 : Int) (x27 : Int) : Option X_acceptRange :=
 bif (decide (x27 < x26)) then
 if 0 ≤ x27 ∧ x27 < ((List.length x25) : Int) then
 bif (decide (x27 < (49 : Int))) then
 if 0 ≤ x27 ∧ x27 < ((List.length x3) : Int) then
 (c51 ((List.getD x25 (Int.toNat x27) Z_Object), (List.getD x3 (Int.toNat x27) Z_Object))).bind fun y4 =>
 bif (!y4) then
 (c64 ((19 : Int), x27)).bind fun y5 =>
 some y5
 else
 n_l0 x1 x2 x3 (IntKind.i64.wrap (x4 + ((List.length (((((List.getD x25 (Int.toNat x27) Z_Object).2).2).2).1)) : Int))) x5 x25 x26 (IntKind.i64.wrap (x27 + (1 : Int)))
 else none
 else
 bif (decide (((List.getD x25 (Int.toNat x27) Z_Object).1) < (0 : Int))) then
 (c64 ((5 : Int), x27)).bind fun y6 =>
 some y6
 else
 bif (decide (((List.getD x25 (Int.toNat x27) Z_Object).1) ≥ (21 : Int))) then
 (c64 ((5 : Int), x27)).bind fun y7 =>
 some y7
 else
 (c65 (x1, x27)).bind fun y8 =>
 (c66 (x1, x27)).bind fun y9 =>
 (c67 (x1, x27)).bind fun y10 =>
 (c68 (x1, x27)).bind fun y11 =>
 r_l2 x1 x2 x3 x4 x5 x27 (List.getD x25 (Int.toNat x27) Z_Object) x25 x26 x27 (List.take 4 ([y8, y9, y10, y11] : List (Int))) ((4 : Nat) : Int) (0 : Int)
 else none
 else
 bif (decide (x4 > (20000 : Int))) then
 (c64 ((14 : Int), (-1 : Int))).bind fun y20 =>
 some y20
 else
 bif (decide (x5 > (200000 : Int))) then
 (c64 ((14 : Int), (-1 : Int))).bind fun y21 =>
 some y21
 else
 some ((0 : Int), (0 : Int))
def F39.b_l2 (c64 : F64.E) (c27 : F27.E) (c51 : F51.E) (c65 : F65.E) (c66 : F66.E) (c67 : F67.E) (c68 : F68.E) (c69 : F69.E) (c70 : F70.E) (c71 : F71.E) (c72 : F72.E) (n_l2 : (List X_Object) → X_acceptRange → (List X_Object) → (Int) → (Int) → (Int) → X_Object → (List X_Object) → (Int) → (Int) → (List (Int)) → (Int) → (Int) → Option X_acceptRange) (r_l4 : (List X_Object) → X_acceptRange → (List X_Object) → (Int) → (Int) → (List X_Object) → (Int) → (Int) → (List X_Value) → (Int) → (Int) → Option X_acceptRange) (x1 : List X_Object) (x2 : (Int) × (Int)) (x3 : List X_Object) (x4 : Int) (x5 : Int) (x6 : Int) (x7 : X_Object) (x25 : List X_Object) (x26 : Int) (x27 : Int) (x71 : List (Int)) (x72 : Int) (x73 : Int) : Option X_acceptRange :=
 bif (decide (x73 < x72)) then
 if 0 ≤ x73 ∧ x73 < (((List.length x71) : Nat) : Int) then
 bif ((List.getD x71 (0 + Int.toNat x73) (0 : Int)) != (0 : Int)) then
 (c64 ((List.getD x71 (0 + Int.toNat x73) (0 : Int)), x6)).bind fun y12 =>
 some y12
 else
 n_l2 x1 x2 x3 x4 x5 x6 x7 x25 x26 x27 (List.take (List.length x71) x71) x72 (IntKind.i64.wrap (x73 + (1 : Int)))
 else none
 else
 (c69 (x1, x6)).bind fun y13 =>
 bif (!y13) then
 (c64 ((13 : Int), x6)).bind fun y14 =>
 some y14
 else
 (c70 (x1, x6)).bind fun y15 =>
 bif (y15 != (0 : Int)) then
 (c64 (y15, x6)).bind fun y16 =>
 some y16
 else
 (c71 (x1, x6)).bind fun y17 =>
 bif (!y17) then
 (c64 ((19 : Int), x6)).bind fun y18 =>
 some y18
 else
 (c72 x7.2.2.2.2.2.2.1).bind fun y19 =>
 if (List.length y19) ≤ (List.length y19) ∧ ((List.length y19) + (List.length x7.2.2.2.2.2.2.2.1)) * 96 ≤ LIM then
 r_l4 x1 x2 x3 (IntKind.i64.wrap (x4 + (IntKind.i64.wrap ((IntKind.i64.wrap (((List.length x7.2.2.2.2.2.2.1) : Int) + ((List.length x7.2.2.2.2.2.2.2.1) : Int))) + ((List.length x7.2.2.2.1) : Int))))) x5 x25 x26 x27 (List.take (List.length (List.append (List.take (List.length y19) y19) x7.2.2.2.2.2.2.2.1)) (List.append (List.take (List.length y19) y19) x7.2.2.2.2.2.2.2.1)) (((List.length (List.append (List.take (List.length y19) y19) x7.2.2.2.2.2.2.2.1)) : Nat) : Int) (0 : Int)
 else none
def F39.b_l4 (c64 : F64.E) (c27 : F27.E) (c51 : F51.E) (c65 : F65.E) (c66 : F66.E) (c67 : F67.E) (c68 : F68.E) (c69 : F69.E) (c70 : F70.E) (c71 : F71.E) (c72 : F72.E) (n_l4 : (List X_Object) → X_acceptRange → (List X_Object) → (Int) → (Int) → (List X_Object) → (Int) → (Int) → (List X_Value) → (Int) → (Int) → Option X_acceptRange) (n_l0 : (List X_Object) → X_acceptRange → (List X_Object) → (Int) → (Int) → (List X_Object) → (Int) → (Int) → Option X_acceptRange) (x1 : List X_Object) (x2 : (Int) × (Int)) (x3 : List X_Object) (x4 : Int) (x5 : Int) (x25 : List X_Object) (x26 : Int) (x27 : Int) (x121 : List X_Value) (x122 : Int) (x123 : Int) : Option X_acceptRange :=
 bif (decide (x123 < x122)) then
 if 0 ≤ x123 ∧ x123 < (((List.length x121) : Nat) : Int) then
 n_l4 x1 x2 x3 x4 (IntKind.i64.wrap (x5 + ((List.length (((((List.getD x121 (0 + Int.toNat x123) Z_Value).2).2).2).1)) : Int))) x25 x26 x27 (List.take (List.length x121) x121) x122 (IntKind.i64.wrap (x123 + (1 : Int)))
 else none
 else
 n_l0 x1 x2 x3 x4 x5 x25 x26 (IntKind.i64.wrap (x27 + (1 : Int)))
def F39.c_l0 (c64 : F64.E) (c27 : F27.E) (c51 : F51.E) (c65 : F65.E) (c66 : F66.E) (c67 : F67.E) (c68 : F68.E) (c69 : F69.E) (c70 : F70.E) (c71 : F71.E) (c72 : F72.E) (n_l0 : (List X_Object) → X_acceptRange → (List X_Object) → (Int) → (Int) → (List X_Object) → (Int) → (Int) → Option X_acceptRange) (r_l2 : (List X_Object) → X_acceptRange → (List X_Object) → (Int) → (Int) → (Int) → X_Object → (List X_Object) → (Int) → (Int) → (List (Int)) → (Int) → (Int) → Option X_acceptRange) (x1 : List X_Object) (x2 : (Int) × (Int)) (x3 : List X_Object) (x4 : Int) (x5 : Int) (x25 : List X_Object) (x26 : Int) (x27 : Int) : Option X_acceptRange :=
 bif (decide (x27 < x26)) then
 if 0 ≤ x27 ∧ x27 < ((List.length x25) : Int) then
 bif (decide (x27 < (49 : Int))) then
 if 0 ≤ x27 ∧ x27 < ((List.length x3) : Int) then
 (c51 ((List.getD x25 (Int.toNat x27) Z_Object), (List.getD x3 (Int.toNat x27) Z_Object))).bind fun y4 =>
 bif !y4 then
 (c64 ((19 : Int), x27)).bind fun y5 =>
 some y5
 else
 n_l0 x1 x2 x3 (IntKind.i64.wrap (x4 + ((List.length (((((List.getD x25 (Int.toNat x27) Z_Object).2).2).2).1)) : Int))) x5 x25 x26 (IntKind.i64.wrap (x27 + (1 : Int)))
 else none
 else
 bif (decide (((List.getD x25 (Int.toNat x27) Z_Object).1) < (0 : Int))) then
 (c64 ((5 : Int), x27)).bind fun y6 =>
 some y6
 else
 bif (decide (((List.getD x25 (Int.toNat x27) Z_Object).1) ≥ (21 : Int))) then
 (c64 ((5 : Int), x27)).bind fun y7 =>
 some y7
 else
 (c65 (x1, x27)).bind fun y8 =>
 (c66 (x1, x27)).bind fun y9 =>
 (c67 (x1, x27)).bind fun y10 =>
 (c68 (x1, x27)).bind fun y11 =>
 r_l2 x1 x2 x3 x4 x5 x27 (List.getD x25 (Int.toNat x27) Z_Object) x25 x26 x27 (List.take 4 ([y8, y9, y10, y11] : List Int)) ((4 : Nat) : Int) (0 : Int)
 else none
 else
 bif (decide (x4 > (20000 : Int))) then
 (c64 ((14 : Int), (-1 : Int))).bind fun y20 =>
 some y20
 else
 bif (decide (x5 > (200000 : Int))) then
 (c64 ((14 : Int), (-1 : Int))).bind fun y21 =>
 some y21
 else
 some ((0 : Int), (0 : Int))
theorem F39.q_l0 (c64 : F64.E) (c27 : F27.E) (c51 : F51.E) (c65 : F65.E) (c66 : F66.E) (c67 : F67.E) (c68 : F68.E) (c69 : F69.E) (c70 : F70.E) (c71 : F71.E) (c72 : F72.E) (n_l0 : (List X_Object) → X_acceptRange → (List X_Object) → (Int) → (Int) → (List X_Object) → (Int) → (Int) → Option X_acceptRange) (r_l2 : (List X_Object) → X_acceptRange → (List X_Object) → (Int) → (Int) → (Int) → X_Object → (List X_Object) → (Int) → (Int) → (List (Int)) → (Int) → (Int) → Option X_acceptRange) (x1 : List X_Object) (x2 : (Int) × (Int)) (x3 : List X_Object) (x4 : Int) (x5 : Int) (x25 : List X_Object) (x26 : Int) (x27 : Int) : F39.b_l0 c64 c27 c51 c65 c66 c67 c68 c69 c70 c71 c72 n_l0 r_l2 x1 x2 x3 x4 x5 x25 x26 x27 = F39.c_l0 c64 c27 c51 c65 c66 c67 c68 c69 c70 c71 c72 n_l0 r_l2 x1 x2 x3 x4 x5 x25 x26 x27 := by
  simp only [F39.b_l0, F39.c_l0, List.take_length, take_one, Nat.zero_add, Int.toNat_natCast, Int.toNat_zero, List.drop_zero, List.append_eq, Nat.le_refl, Int.le_refl, true_and, and_true, zero_le_one, if_true, prod_eta, Int.natCast_zero]
def F39.c_l2 (c64 : F64.E) (c27 : F27.E) (c51 : F51.E) (c65 : F65.E) (c66 : F66.E) (c67 : F67.E) (c68 : F68.E) (c69 : F69.E) (c70 : F70.E) (c71 : F71.E) (c72 : F72.E) (n_l2 : (List X_Object) → X_acceptRange → (List X_Object) → (Int) → (Int) → (Int) → X_Object → (List X_Object) → (Int) → (Int) → (List (Int)) → (Int) → (Int) → Option X_acceptRange) (r_l4 : (List X_Object) → X_acceptRange → (List X_Object) → (Int) → (Int) → (List X_Object) → (Int) → (Int) → (List X_Value) → (Int) → (Int) → Option X_acceptRange) (x1 : List X_Object) (x2 : (Int) × (Int)) (x3 : List X_Object) (x4 : Int) (x5 : Int) (x6 : Int) (x7 : X_Object) (x25 : List X_Object) (x26 : Int) (x27 : Int) (x71 : List (Int)) (x72 : Int) (x73 : Int) : Option X_acceptRange :=
 bif (decide (x73 < x72)) then
 if 0 ≤ x73 ∧ x73 < ((List.length x71) : Int) then
 bif ((List.getD x71 (0 + Int.toNat x73) (0 : Int)) != (0 : Int)) then
 (c64 ((List.getD x71 (0 + Int.toNat x73) (0 : Int)), x6)).bind fun y12 =>
 some y12
 else
 n_l2 x1 x2 x3 x4 x5 x6 x7 x25 x26 x27 x71 x72 (IntKind.i64.wrap (x73 + (1 : Int)))
 else none
 else
 (c69 (x1, x6)).bind fun y13 =>
 bif !y13 then
 (c64 ((13 : Int), x6)).bind fun y14 =>
 some y14
 else
 (c70 (x1, x6)).bind fun y15 =>
 bif (y15 != (0 : Int)) then
 (c64 (y15, x6)).bind fun y16 =>
 some y16
 else
 (c71 (x1, x6)).bind fun y17 =>
 bif !y17 then
 (c64 ((19 : Int), x6)).bind fun y18 =>
 some y18
 else
 (c72 x7.2.2.2.2.2.2.1).bind fun y19 =>
 if ((List.length y19) + (List.length x7.2.2.2.2.2.2.2.1)) * 96 ≤ LIM then
 r_l4 x1 x2 x3 (IntKind.i64.wrap (x4 + (IntKind.i64.wrap ((IntKind.i64.wrap (((List.length x7.2.2.2.2.2.2.1) : Int) + ((List.length x7.2.2.2.2.2.2.2.1) : Int))) + ((List.length x7.2.2.2.1) : Int))))) x5 x25 x26 x27 (y19 ++ x7.2.2.2.2.2.2.2.1) ((List.length (y19 ++ x7.2.2.2.2.2.2.2.1)) : Int) (0 : Int)
 else none
theorem F39.q_l2 (c64 : F64.E) (c27 : F27.E) (c51 : F51.E) (c65 : F65.E) (c66 : F66.E) (c67 : F67.E) (c68 : F68.E) (c69 : F69.E) (c70 : F70.E) (c71 : F71.E) (c72 : F72.E) (n_l2 : (List X_Object) → X_acceptRange → (List X_Object) → (Int) → (Int) → (Int) → X_Object → (List X_Object) → (Int) → (Int) → (List (Int)) → (Int) → (Int) → Option X_acceptRange) (r_l4 : (List X_Object) → X_acceptRange → (List X_Object) → (Int) → (Int) → (List X_Object) → (Int) → (Int) → (List X_Value) → (Int) → (Int) → Option X_acceptRange) (x1 : List X_Object) (x2 : (Int) × (Int)) (x3 : List X_Object) (x4 : Int) (x5 : Int) (x6 : Int) (x7 : X_Object) (x25 : List X_Object) (x26 : Int) (x27 : Int) (x71 : List (Int)) (x72 : Int) (x73 : Int) : F39.b_l2 c64 c27 c51 c65 c66 c67 c68 c69 c70 c71 c72 n_l2 r_l4 x1 x2 x3 x4 x5 x6 x7 x25 x26 x27 x71 x72 x73 = F39.c_l2 c64 c27 c51 c65 c66 c67 c68 c69 c70 c71 c72 n_l2 r_l4 x1 x2 x3 x4 x5 x6 x7 x25 x26 x27 x71 x72 x73 := by
  simp only [F39.b_l2, F39.c_l2, List.take_length, take_one, Nat.zero_add, Int.toNat_natCast, Int.toNat_zero, List.drop_zero, List.append_eq, Nat.le_refl, Int.le_refl, true_and, and_true, zero_le_one, if_true, prod_eta, Int.natCast_zero]
def F39.c_l4 (c64 : F64.E) (c27 : F27.E) (c51 : F51.E) (c65 : F65.E) (c66 : F66.E) (c67 : F67.E) (c68 : F68.E) (c69 : F69.E) (c70 : F70.E) (c71 : F71.E) (c72 : F72.E) (n_l4 : (List X_Object) → X_acceptRange → (List X_Object) → (Int) → (Int) → (List X_Object) → (Int) → (Int) → (List X_Value) → (Int) → (Int) → Option X_acceptRange) (n_l0 : (List X_Object) → X_acceptRange → (List X_Object) → (Int) → (Int) → (List X_Object) → (Int) → (Int) → Option X_acceptRange) (x1 : List X_Object) (x2 : (Int) × (Int)) (x3 : List X_Object) (x4 : Int) (x5 : Int) (x25 : List X_Object) (x26 : Int) (x27 : Int) (x121 : List X_Value) (x122 : Int) (x123 : Int) : Option X_acceptRange :=
 bif (decide (x123 < x122)) then
 if 0 ≤ x123 ∧ x123 < ((List.length x121) : Int) then
 n_l4 x1 x2 x3 x4 (IntKind.i64.wrap (x5 + ((List.length (((((List.getD x121 (0 + Int.toNat x123) Z_Value).2).2).2).1)) : Int))) x25 x26 x27 x121 x122 (IntKind.i64.wrap (x123 + (1 : Int)))
 else none
 else
 n_l0 x1 x2 x3 x4 x5 x25 x26 (IntKind.i64.wrap (x27 + (1 : Int)))
theorem F39.q_l4 (c64 : F64.E) (c27 : F27.E) (c51 : F51.E) (c65 : F65.E) (c66 : F66.E) (c67 : F67.E) (c68 : F68.E) (c69 : F69.E) (c70 : F70.E) (c71 : F71.E) (c72 : F72.E) (n_l4 : (List X_Object) → X_acceptRange → (List X_Object) → (Int) → (Int) → (List X_Object) → (Int) → (Int) → (List X_Value) → (Int) → (Int) → Option X_acceptRange) (n_l0 : (List X_Object) → X_acceptRange → (List X_Object) → (Int) → (Int) → (List X_Object) → (Int) → (Int) → Option X_acceptRange) (x1 : List X_Object) (x2 : (Int) × (Int)) (x3 : List X_Object) (x4 : Int) (x5 : Int) (x25 : List X_Object) (x26 : Int) (x27 : Int) (x121 : List X_Value) (x122 : Int) (x123 : Int) : F39.b_l4 c64 c27 c51 c65 c66 c67 c68 c69 c70 c71 c72 n_l4 n_l0 x1 x2 x3 x4 x5 x25 x26 x27 x121 x122 x123 = F39.c_l4 c64 c27 c51 c65 c66 c67 c68 c69 c70 c71 c72 n_l4 n_l0 x1 x2 x3 x4 x5 x25 x26 x27 x121 x122 x123 := by
  simp only [F39.b_l4, F39.c_l4, List.take_length, take_one, Nat.zero_add, Int.toNat_natCast, Int.toNat_zero, List.drop_zero, List.append_eq, Nat.le_refl, Int.le_refl, true_and, and_true, zero_le_one, if_true, prod_eta, Int.natCast_zero]
def F39.l4 (c64 : F64.E) (c27 : F27.E) (c51 : F51.E) (c65 : F65.E) (c66 : F66.E) (c67 : F67.E) (c68 : F68.E) (c69 : F69.E) (c70 : F70.E) (c71 : F71.E) (c72 : F72.E) (k : Nat) (n_l0 : (List X_Object) → X_acceptRange → (List X_Object) → (Int) → (Int) → (List X_Object) → (Int) → (Int) → Option X_acceptRange) : Nat → (List X_Object) → X_acceptRange → (List X_Object) → (Int) → (Int) → (List X_Object) → (Int) → (Int) → (List X_Value) → (Int) → (Int) → Option X_acceptRange
  | 0, _, _, _, _, _, _, _, _, _, _, _ => none
  | n + 1, x1, x2, x3, x4, x5, x25, x26, x27, x121, x122, x123 => F39.b_l4 c64 c27 c51 c65 c66 c67 c68 c69 c70 c71 c72 (fun x1 x2 x3 x4 x5 x25 x26 x27 x121 x122 x123 => F39.l4 c64 c27 c51 c65 c66 c67 c68 c69 c70 c71 c72 k n_l0 n x1 x2 x3 x4 x5 x25 x26 x27 x121 x122 x123) n_l0 x1 x2 x3 x4 x5 x25 x26 x27 x121 x122 x123
def F39.l2 (c64 : F64.E) (c27 : F27.E) (c51 : F51.E) (c65 : F65.E) (c66 : F66.E) (c67 : F67.E) (c68 : F68.E) (c69 : F69.E) (c70 : F70.E) (c71 : F71.E) (c72 : F72.E) (k : Nat) (n_l0 : (List X_Object) → X_acceptRange → (List X_Object) → (Int) → (Int) → (List X_Object) → (Int) → (Int) → Option X_acceptRange) : Nat → (List X_Object) → X_acceptRange → (List X_Object) → (Int) → (Int) → (Int) → X_Object → (List X_Object) → (Int) → (Int) → (List (Int)) → (Int) → (Int) → Option X_acceptRange
  | 0, _, _, _, _, _, _, _, _, _, _, _, _, _ => none
  | n + 1, x1, x2, x3, x4, x5, x6, x7, x25, x26, x27, x71, x72, x73 => F39.b_l2 c64 c27 c51 c65 c66 c67 c68 c69 c70 c71 c72 (fun x1 x2 x3 x4 x5 x6 x7 x25 x26 x27 x71 x72 x73 => F39.l2 c64 c27 c51 c65 c66 c67 c68 c69 c70 c71 c72 k n_l0 n x1 x2 x3 x4 x5 x6 x7 x25 x26 x27 x71 x72 x73) (F39.l4 c64 c27 c51 c65 c66 c67 c68 c69 c70 c71 c72 k n_l0 k) x1 x2 x3 x4 x5 x6 x7 x25 x26 x27 x71 x72 x73
def F39.l0 (c64 : F64.E) (c27 : F27.E) (c51 : F51.E) (c65 : F65.E) (c66 : F66.E) (c67 : F67.E) (c68 : F68.E) (c69 : F69.E) (c70 : F70.E) (c71 : F71.E) (c72 : F72.E) (k : Nat)  : Nat → (List X_Object) → X_acceptRange → (List X_Object) → (Int) → (Int) → (List X_Object) → (Int) → (Int) → Option X_acceptRange
  | 0, _, _, _, _, _, _, _, _ => none
  | n + 1, x1, x2, x3, x4, x5, x25, x26, x27 => F39.b_l0 c64 c27 c51 c65 c66 c67 c68 c69 c70 c71 c72 (fun x1 x2 x3 x4 x5 x25 x26 x27 => F39.l0 c64 c27 c51 c65 c66 c67 c68 c69 c70 c71 c72 k  n x1 x2 x3 x4 x5 x25 x26 x27) (F39.l2 c64 c27 c51 c65 c66 c67 c68 c69 c70 c71 c72 k (fun x1 x2 x3 x4 x5 x25 x26 x27 => F39.l0 c64 c27 c51 c65 c66 c67 c68 c69 c70 c71 c72 k  n x1 x2 x3 x4 x5 x25 x26 x27) k) x1 x2 x3 x4 x5 x25 x26 x27
def F39.f (c64 : F64.E) (c27 : F27.E) (c51 : F51.E) (c65 : F65.E) (c66 : F66.E) (c67 : F67.E) (c68 : F68.E) (c69 : F69.E) (c70 : F70.E) (c71 : F71.E) (c72 : F72.E) (k : Nat) (a0 : List X_Object) : Option X_acceptRange := F39.b c64 c27 c51 c65 c66 c67 c68 c69 c70 c71 c72 (F39.l0 c64 c27 c51 c65 c66 c67 c68 c69 c70 c71 c72 k k) a0
noncomputable def F39.M_l0 (c64 : F64.E) (c27 : F27.E) (c51 : F51.E) (c65 : F65.E) (c66 : F66.E) (c67 : F67.E) (c68 : F68.E) (c69 : F69.E) (c70 : F70.E) (c71 : F71.E) (c72 : F72.E) (k n : Nat)  (s : St) : Option X_acceptRange := atLoop (F39.C c64 c27 c51 c65 c66 c67 c68 c69 c70 c71 c72) k n [1, 1, 1, 1, 1, 0, 1, 0] [] F39.code (F39.fin c64 c27 c51 c65 c66 c67 c68 c69 c70 c71 c72) s
noncomputable def F39.fr_l0 (x1 : List X_Object) (x2 : (Int) × (Int)) (x3 : List X_Object) (x4 : Int) (x5 : Int) (x25 : List X_Object) (x26 : Int) (x27 : Int) : St := ⟨(((((((((List.replicate 142 V.un).set 1 (V.bp 600001 0 [])).set 2 (V.bp 600002 0 [])).set 3 (V.bp 600003 0 [])).set 4 (V.dat (.int .i64) x4)).set 5 (V.dat (.int .i64) x5)).set 25 (V.dat (.sl 36 Y_Object) x25)).set 26 (V.dat (.int .i64) x26)).set 27 (V.dat (.int .i64) x27)), [⟨600003, 0, .box (V.dat Y_Heap x3)⟩, ⟨600002, 0, .box (V.dat Y_Fault x2)⟩, ⟨600001, 0, .box (V.dat Y_Heap x1)⟩]⟩
noncomputable def F39.M_l2 (c64 : F64.E) (c27 : F27.E) (c51 : F51.E) (c65 : F65.E) (c66 : F66.E) (c67 : F67.E) (c68 : F68.E) (c69 : F69.E) (c70 : F70.E) (c71 : F71.E) (c72 : F72.E) (k n : Nat) (m0 : Nat) (s : St) : Option X_acceptRange := atLoop (F39.C c64 c27 c51 c65 c66 c67 c68 c69 c70 c71 c72) k n [1, 1, 1, 1, 1, 0, 1, 0, 0, 1, 1, 0, 0, 1, 1, 1, 0, 1, 0] [m0] F39.code (F39.fin c64 c27 c51 c65 c66 c67 c68 c69 c70 c71 c72) s
noncomputable def F39.fr_l2 (x1 : List X_Object) (x2 : (Int) × (Int)) (x3 : List X_Object) (x4 : Int) (x5 : Int) (x6 : Int) (x7 : X_Object) (x25 : List X_Object) (x26 : Int) (x27 : Int) (x71 : List (Int)) (x72 : Int) (x73 : Int) : St := ⟨((((((((((((((List.replicate 142 V.un).set 1 (V.bp 600001 0 [])).set 2 (V.bp 600002 0 [])).set 3 (V.bp 600003 0 [])).set 4 (V.dat (.int .i64) x4)).set 5 (V.dat (.int .i64) x5)).set 6 (V.dat (.int .i64) x6)).set 7 (V.bp 600007 0 [])).set 25 (V.dat (.sl 36 Y_Object) x25)).set 26 (V.dat (.int .i64) x26)).set 27 (V.dat (.int .i64) x27)).set 71 (V.ref 500071 0 0 (List.length x71))).set 72 (V.dat (.int .i64) x72)).set 73 (V.dat (.int .i64) x73)), [⟨500071, 0, .arr 3 (.int .i64) x71⟩, ⟨600007, 0, .box (V.dat Y_Object x7)⟩, ⟨600003, 0, .box (V.dat Y_Heap x3)⟩, ⟨600002, 0, .box (V.dat Y_Fault x2)⟩, ⟨600001, 0, .box (V.dat Y_Heap x1)⟩]⟩
noncomputable def F39.M_l4 (c64 : F64.E) (c27 : F27.E) (c51 : F51.E) (c65 : F65.E) (c66 : F66.E) (c67 : F67.E) (c68 : F68.E) (c69 : F69.E) (c70 : F70.E) (c71 : F71.E) (c72 : F72.E) (k n : Nat) (m0 : Nat) (s : St) : Option X_acceptRange := atLoop (F39.C c64 c27 c51 c65 c66 c67 c68 c69 c70 c71 c72) k n [1, 1, 1, 1, 1, 0, 1, 0, 0, 1, 1, 0, 0, 1, 1, 1, 1, 1, 1, 1, 1, 1, 0] [m0] F39.code (F39.fin c64 c27 c51 c65 c66 c67 c68 c69 c70 c71 c72) s
noncomputable def F39.fr_l4 (x1 : List X_Object) (x2 : (Int) × (Int)) (x3 : List X_Object) (x4 : Int) (x5 : Int) (x25 : List X_Object) (x26 : Int) (x27 : Int) (x121 : List X_Value) (x122 : Int) (x123 : Int) : St := ⟨((((((((((((List.replicate 142 V.un).set 1 (V.bp 600001 0 [])).set 2 (V.bp 600002 0 [])).set 3 (V.bp 600003 0 [])).set 4 (V.dat (.int .i64) x4)).set 5 (V.dat (.int .i64) x5)).set 25 (V.dat (.sl 36 Y_Object) x25)).set 26 (V.dat (.int .i64) x26)).set 27 (V.dat (.int .i64) x27)).set 121 (V.ref 500121 0 0 (List.length x121))).set 122 (V.dat (.int .i64) x122)).set 123 (V.dat (.int .i64) x123)), [⟨500121, 0, .arr 29 Y_Value x121⟩, ⟨600003, 0, .box (V.dat Y_Heap x3)⟩, ⟨600002, 0, .box (V.dat Y_Fault x2)⟩, ⟨600001, 0, .box (V.dat Y_Heap x1)⟩]⟩
theorem F39.r (c64 : F64.E) (c27 : F27.E) (c51 : F51.E) (c65 : F65.E) (c66 : F66.E) (c67 : F67.E) (c68 : F68.E) (c69 : F69.E) (c70 : F70.E) (c71 : F71.E) (c72 : F72.E) (k : Nat) (a0 : List X_Object) : fn (F39.C c64 c27 c51 c65 c66 c67 c68 c69 c70 c71 c72) k Tryz.f39 F39.A F39.R a0 = F39.b c64 c27 c51 c65 c66 c67 c68 c69 c70 c71 c72 (fun x1 x2 x3 x4 x5 x25 x26 x27 => F39.M_l0 c64 c27 c51 c65 c66 c67 c68 c69 c70 c71 c72 k k  (F39.fr_l0 x1 x2 x3 x4 x5 x25 x26 x27)) a0 := by kernel_rfl
theorem F39.z_l0 (c64 : F64.E) (c27 : F27.E) (c51 : F51.E) (c65 : F65.E) (c66 : F66.E) (c67 : F67.E) (c68 : F68.E) (c69 : F69.E) (c70 : F70.E) (c71 : F71.E) (c72 : F72.E) (k : Nat)  (s : St) : F39.M_l0 c64 c27 c51 c65 c66 c67 c68 c69 c70 c71 c72 k 0  s = none := by kernel_rfl
theorem F39.r_l0 (c64 : F64.E) (c27 : F27.E) (c51 : F51.E) (c65 : F65.E) (c66 : F66.E) (c67 : F67.E) (c68 : F68.E) (c69 : F69.E) (c70 : F70.E) (c71 : F71.E) (c72 : F72.E) (k n : Nat)  (x1 : List X_Object) (x2 : (Int) × (Int)) (x3 : List X_Object) (x4 : Int) (x5 : Int) (x25 : List X_Object) (x26 : Int) (x27 : Int) : F39.M_l0 c64 c27 c51 c65 c66 c67 c68 c69 c70 c71 c72 k (n + 1)  (F39.fr_l0 x1 x2 x3 x4 x5 x25 x26 x27) = F39.b_l0 c64 c27 c51 c65 c66 c67 c68 c69 c70 c71 c72 (fun x1 x2 x3 x4 x5 x25 x26 x27 => F39.M_l0 c64 c27 c51 c65 c66 c67 c68 c69 c70 c71 c72 k n  (F39.fr_l0 x1 x2 x3 x4 x5 x25 x26 x27)) (fun x1 x2 x3 x4 x5 x6 x7 x25 x26 x27 x71 x72 x73 => F39.M_l2 c64 c27 c51 c65 c66 c67 c68 c69 c70 c71 c72 k k n (F39.fr_l2 x1 x2 x3 x4 x5 x6 x7 x25 x26 x27 x71 x72 x73)) x1 x2 x3 x4 x5 x25 x26 x27 := by kernel_rfl
theorem F39.z_l2 (c64 : F64.E) (c27 : F27.E) (c51 : F51.E) (c65 : F65.E) (c66 : F66.E) (c67 : F67.E) (c68 : F68.E) (c69 : F69.E) (c70 : F70.E) (c71 : F71.E) (c72 : F72.E) (k : Nat) (m0 : Nat) (s : St) : F39.M_l2 c64 c27 c51 c65 c66 c67 c68 c69 c70 c71 c72 k 0 m0 s = none := by kernel_rfl
theorem F39.r_l2 (c64 : F64.E) (c27 : F27.E) (c51 : F51.E) (c65 : F65.E) (c66 : F66.E) (c67 : F67.E) (c68 : F68.E) (c69 : F69.E) (c70 : F70.E) (c71 : F71.E) (c72 : F72.E) (k n : Nat) (m0 : Nat) (x1 : List X_Object) (x2 : (Int) × (Int)) (x3 : List X_Object) (x4 : Int) (x5 : Int) (x6 : Int) (x7 : X_Object) (x25 : List X_Object) (x26 : Int) (x27 : Int) (x71 : List (Int)) (x72 : Int) (x73 : Int) : F39.M_l2 c64 c27 c51 c65 c66 c67 c68 c69 c70 c71 c72 k (n + 1) m0 (F39.fr_l2 x1 x2 x3 x4 x5 x6 x7 x25 x26 x27 x71 x72 x73) = F39.b_l2 c64 c27 c51 c65 c66 c67 c68 c69 c70 c71 c72 (fun x1 x2 x3 x4 x5 x6 x7 x25 x26 x27 x71 x72 x73 => F39.M_l2 c64 c27 c51 c65 c66 c67 c68 c69 c70 c71 c72 k n m0 (F39.fr_l2 x1 x2 x3 x4 x5 x6 x7 x25 x26 x27 x71 x72 x73)) (fun x1 x2 x3 x4 x5 x25 x26 x27 x121 x122 x123 => F39.M_l4 c64 c27 c51 c65 c66 c67 c68 c69 c70 c71 c72 k k m0 (F39.fr_l4 x1 x2 x3 x4 x5 x25 x26 x27 x121 x122 x123)) x1 x2 x3 x4 x5 x6 x7 x25 x26 x27 x71 x72 x73 := by kernel_rfl
theorem F39.z_l4 (c64 : F64.E) (c27 : F27.E) (c51 : F51.E) (c65 : F65.E) (c66 : F66.E) (c67 : F67.E) (c68 : F68.E) (c69 : F69.E) (c70 : F70.E) (c71 : F71.E) (c72 : F72.E) (k : Nat) (m0 : Nat) (s : St) : F39.M_l4 c64 c27 c51 c65 c66 c67 c68 c69 c70 c71 c72 k 0 m0 s = none := by kernel_rfl
theorem F39.r_l4 (c64 : F64.E) (c27 : F27.E) (c51 : F51.E) (c65 : F65.E) (c66 : F66.E) (c67 : F67.E) (c68 : F68.E) (c69 : F69.E) (c70 : F70.E) (c71 : F71.E) (c72 : F72.E) (k n : Nat) (m0 : Nat) (x1 : List X_Object) (x2 : (Int) × (Int)) (x3 : List X_Object) (x4 : Int) (x5 : Int) (x25 : List X_Object) (x26 : Int) (x27 : Int) (x121 : List X_Value) (x122 : Int) (x123 : Int) : F39.M_l4 c64 c27 c51 c65 c66 c67 c68 c69 c70 c71 c72 k (n + 1) m0 (F39.fr_l4 x1 x2 x3 x4 x5 x25 x26 x27 x121 x122 x123) = F39.b_l4 c64 c27 c51 c65 c66 c67 c68 c69 c70 c71 c72 (fun x1 x2 x3 x4 x5 x25 x26 x27 x121 x122 x123 => F39.M_l4 c64 c27 c51 c65 c66 c67 c68 c69 c70 c71 c72 k n m0 (F39.fr_l4 x1 x2 x3 x4 x5 x25 x26 x27 x121 x122 x123)) (fun x1 x2 x3 x4 x5 x25 x26 x27 => F39.M_l0 c64 c27 c51 c65 c66 c67 c68 c69 c70 c71 c72 k m0  (F39.fr_l0 x1 x2 x3 x4 x5 x25 x26 x27)) x1 x2 x3 x4 x5 x25 x26 x27 x121 x122 x123 := by kernel_rfl
theorem F39.e_l4 (c64 : F64.E) (c27 : F27.E) (c51 : F51.E) (c65 : F65.E) (c66 : F66.E) (c67 : F67.E) (c68 : F68.E) (c69 : F69.E) (c70 : F70.E) (c71 : F71.E) (c72 : F72.E) (k n : Nat) (m0 : Nat) (x1 : List X_Object) (x2 : (Int) × (Int)) (x3 : List X_Object) (x4 : Int) (x5 : Int) (x25 : List X_Object) (x26 : Int) (x27 : Int) (x121 : List X_Value) (x122 : Int) (x123 : Int) : F39.M_l4 c64 c27 c51 c65 c66 c67 c68 c69 c70 c71 c72 k n m0 (F39.fr_l4 x1 x2 x3 x4 x5 x25 x26 x27 x121 x122 x123) = F39.l4 c64 c27 c51 c65 c66 c67 c68 c69 c70 c71 c72 k (fun x1 x2 x3 x4 x5 x25 x26 x27 => F39.M_l0 c64 c27 c51 c65 c66 c67 c68 c69 c70 c71 c72 k m0  (F39.fr_l0 x1 x2 x3 x4 x5 x25 x26 x27)) n x1 x2 x3 x4 x5 x25 x26 x27 x121 x122 x123 := by
  induction n generalizing x1 x2 x3 x4 x5 x25 x26 x27 x121 x122 x123 with
  | zero => rw [F39.z_l4]; rfl
  | succ n ih =>
    rw [F39.r_l4]
    simp only [ih]
    rfl
theorem F39.e_l2 (c64 : F64.E) (c27 : F27.E) (c51 : F51.E) (c65 : F65.E) (c66 : F66.E) (c67 : F67.E) (c68 : F68.E) (c69 : F69.E) (c70 : F70.E) (c71 : F71.E) (c72 : F72.E) (k n : Nat) (m0 : Nat) (x1 : List X_Object) (x2 : (Int) × (Int)) (x3 : List X_Object) (x4 : Int) (x5 : Int) (x6 : Int) (x7 : X_Object) (x25 : List X_Object) (x26 : Int) (x27 : Int) (x71 : List (Int)) (x72 : Int) (x73 : Int) : F39.M_l2 c64 c27 c51 c65 c66 c67 c68 c69 c70 c71 c72 k n m0 (F39.fr_l2 x1 x2 x3 x4 x5 x6 x7 x25 x26 x27 x71 x72 x73) = F39.l2 c64 c27 c51 c65 c66 c67 c68 c69 c70 c71 c72 k (fun x1 x2 x3 x4 x5 x25 x26 x27 => F39.M_l0 c64 c27 c51 c65 c66 c67 c68 c69 c70 c71 c72 k m0  (F39.fr_l0 x1 x2 x3 x4 x5 x25 x26 x27)) n x1 x2 x3 x4 x5 x6 x7 x25 x26 x27 x71 x72 x73 := by
  induction n generalizing x1 x2 x3 x4 x5 x6 x7 x25 x26 x27 x71 x72 x73 with
  | zero => rw [F39.z_l2]; rfl
  | succ n ih =>
    rw [F39.r_l2]
    simp only [F39.e_l4, ih]
    rfl
theorem F39.e_l0 (c64 : F64.E) (c27 : F27.E) (c51 : F51.E) (c65 : F65.E) (c66 : F66.E) (c67 : F67.E) (c68 : F68.E) (c69 : F69.E) (c70 : F70.E) (c71 : F71.E) (c72 : F72.E) (k n : Nat)  (x1 : List X_Object) (x2 : (Int) × (Int)) (x3 : List X_Object) (x4 : Int) (x5 : Int) (x25 : List X_Object) (x26 : Int) (x27 : Int) : F39.M_l0 c64 c27 c51 c65 c66 c67 c68 c69 c70 c71 c72 k n  (F39.fr_l0 x1 x2 x3 x4 x5 x25 x26 x27) = F39.l0 c64 c27 c51 c65 c66 c67 c68 c69 c70 c71 c72 k  n x1 x2 x3 x4 x5 x25 x26 x27 := by
  induction n generalizing x1 x2 x3 x4 x5 x25 x26 x27 with
  | zero => rw [F39.z_l0]; rfl
  | succ n ih =>
    rw [F39.r_l0]
    simp only [F39.e_l2, ih]
    rfl
theorem F39.e (c64 : F64.E) (c27 : F27.E) (c51 : F51.E) (c65 : F65.E) (c66 : F66.E) (c67 : F67.E) (c68 : F68.E) (c69 : F69.E) (c70 : F70.E) (c71 : F71.E) (c72 : F72.E) (k : Nat) (a0 : List X_Object) : fn (F39.C c64 c27 c51 c65 c66 c67 c68 c69 c70 c71 c72) k Tryz.f39 F39.A F39.R a0 = F39.f c64 c27 c51 c65 c66 c67 c68 c69 c70 c71 c72 k a0 := by
  rw [F39.r]
  simp only [F39.e_l0]
  rfl
theorem F39.ty (c64 : F64.E) (c27 : F27.E) (c51 : F51.E) (c65 : F65.E) (c66 : F66.E) (c67 : F67.E) (c68 : F68.E) (c69 : F69.E) (c70 : F70.E) (c71 : F71.E) (c72 : F72.E) : TyOk Tryz.prog (F39.C c64 c27 c51 c65 c66 c67 c68 c69 c70 c71 c72) := tyOk_of (by kernel_rfl)
def F39.u (k : Nat) : F39.E := fun y => F39.f (F64.u k) (F27.u k) (F51.u k) (F65.u k) (F66.u k) (F67.u k) (F68.u k) (F69.u k) (F70.u k) (F71.u k) (F72.u k) k y
theorem F39.sound (k : Nat) : Sound Tryz.prog ⟨39, F39.A, F39.R, F39.u k⟩ := by
  have h := fn_sound (k := k) («as» := F39.A) (rs := F39.R) (F39.ty (F64.u k) (F27.u k) (F51.u k) (F65.u k) (F66.u k) (F67.u k) (F68.u k) (F69.u k) (F70.u k) (F71.u k) (F72.u k)) (fun E h => by
    simp only [F39.C, List.mem_cons, List.not_mem_nil, or_false] at h
    rcases h with rfl | rfl | rfl | rfl | rfl | rfl | rfl | rfl | rfl | rfl | rfl
    · exact F64.sound k
    · exact F27.sound k
    · exact F51.sound k
    · exact F65.sound k
    · exact F66.sound k
    · exact F67.sound k
    · exact F68.sound k
    · exact F69.sound k
    · exact F70.sound k
    · exact F71.sound k
    · exact F72.sound k) mixed Tryz.func39 (by kernel_rfl) (by kernel_rfl)
  have e : fn (F39.C (F64.u k) (F27.u k) (F51.u k) (F65.u k) (F66.u k) (F67.u k) (F68.u k) (F69.u k) (F70.u k) (F71.u k) (F72.u k)) k Tryz.f39 F39.A F39.R = F39.u k := by
    funext y
    exact F39.e (F64.u k) (F27.u k) (F51.u k) (F65.u k) (F66.u k) (F67.u k) (F68.u k) (F69.u k) (F70.u k) (F71.u k) (F72.u k) k y
  rw [e] at h
  exact h
/-! ### brindlewood/brindlewoodref7.Has: f40 -/
abbrev F40.A : List Sh := [(.d Y_Heap), (.d Y_Value)]
abbrev F40.R : List Sh := [(.d .bool)]
abbrev F40.E : Type := ((List X_Object) × X_Value) → Option (Bool)
def F40.C (c73 : F73.E) (c7 : F7.E) : Ctx := { ty := [(3, (.int .i64)), (24, Y_Heap), (29, Y_Value)], nf := [(29, 5)], by_ := [], env := [⟨73, F73.A, F73.R, c73⟩, ⟨7, F7.A, F7.R, c7⟩], spec := [] }
noncomputable def F40.code : Code := Func.code Tryz.f40
noncomputable def F40.fin (c73 : F73.E) (c7 : F7.E) := kfin (F40.C c73 c7) Tryz.f40 F40.A F40.R
def F40.b (c73 : F73.E) (c7 : F7.E)  (a0 : List X_Object) (a1 : X_Value) : Option (Bool) :=
 (c73 a1).bind fun y1 =>
 bif y1 then
 bif (a1.1 != (6 : Int)) then
 some true
 else
 (c7 (a0, a1.2.2.2.2)).bind fun y2 =>
 some y2
 else
 some false
def F40.f (c73 : F73.E) (c7 : F7.E) (k : Nat) (a0 : List X_Object) (a1 : X_Value) : Option (Bool) := F40.b c73 c7  a0 a1
theorem F40.r (c73 : F73.E) (c7 : F7.E) (k : Nat) (a0 : List X_Object) (a1 : X_Value) : fn (F40.C c73 c7) k Tryz.f40 F40.A F40.R (a0, a1) = F40.b c73 c7  a0 a1 := by kernel_rfl
theorem F40.e (c73 : F73.E) (c7 : F7.E) (k : Nat) (a0 : List X_Object) (a1 : X_Value) : fn (F40.C c73 c7) k Tryz.f40 F40.A F40.R (a0, a1) = F40.f c73 c7 k a0 a1 := by
  rw [F40.r]
  rfl
theorem F40.ty (c73 : F73.E) (c7 : F7.E) : TyOk Tryz.prog (F40.C c73 c7) := tyOk_of (by kernel_rfl)
def F40.u (k : Nat) : F40.E := fun y => F40.f (F73.u k) (F7.u k) k y.1 y.2
theorem F40.sound (k : Nat) : Sound Tryz.prog ⟨40, F40.A, F40.R, F40.u k⟩ := by
  have h := fn_sound (k := k) («as» := F40.A) (rs := F40.R) (F40.ty (F73.u k) (F7.u k)) (fun E h => by
    simp only [F40.C, List.mem_cons, List.not_mem_nil, or_false] at h
    rcases h with rfl | rfl
    · exact F73.sound k
    · exact F7.sound k) mixed Tryz.func40 (by kernel_rfl) (by kernel_rfl)
  have e : fn (F40.C (F73.u k) (F7.u k)) k Tryz.f40 F40.A F40.R = F40.u k := by
    funext y
    exact F40.e (F73.u k) (F7.u k) k y.1 y.2
  rw [e] at h
  exact h
/-! ### brindlewood/brindlewoodref7.Usable: f6 -/
abbrev F6.A : List Sh := [(.d Y_Heap), (.d (.sl 29 Y_Value))]
abbrev F6.R : List Sh := [(.d .bool)]
abbrev F6.E : Type := ((List X_Object) × (List X_Value)) → Option (Bool)
def F6.C (c39 : F39.E) (c40 : F40.E) : Ctx := { ty := [(3, (.int .i64)), (24, Y_Heap), (29, Y_Value), (34, (.sl 29 Y_Value)), (64, Y_Fault)], nf := [(64, 2)], by_ := [(29, 96)], env := [⟨39, F39.A, F39.R, c39⟩, ⟨40, F40.A, F40.R, c40⟩], spec := [(0, [.bx 2 600002 (.d Y_Heap), .d 11 (.sl 29 Y_Value), .d 12 (.int .i64), .d 13 (.int .i64)])] }
noncomputable def F6.code : Code := Func.code Tryz.f6
noncomputable def F6.fin (c39 : F39.E) (c40 : F40.E) := kfin (F6.C c39 c40) Tryz.f6 F6.A F6.R
def F6.b (c39 : F39.E) (c40 : F40.E) (r_l0 : (List X_Object) → (List X_Value) → (Int) → (Int) → Option (Bool)) (a0 : List X_Object) (a1 : List X_Value) : Option (Bool) :=
 (c39 a0).bind fun y1 =>
 bif (y1.1 != (0 : Int)) then
 some false
 else
 r_l0 a0 a1 ((List.length a1) : Int) (0 : Int)
def F6.b_l0 (c39 : F39.E) (c40 : F40.E) (n_l0 : (List X_Object) → (List X_Value) → (Int) → (Int) → Option (Bool)) (x2 : List X_Object) (x11 : List X_Value) (x12 : Int) (x13 : Int) : Option (Bool) :=
 bif (decide (x13 < x12)) then
 if 0 ≤ x13 ∧ x13 < ((List.length x11) : Int) then
 (c40 (x2, (List.getD x11 (Int.toNat x13) Z_Value))).bind fun y2 =>
 bif (!y2) then
 some false
 else
 n_l0 x2 x11 x12 (IntKind.i64.wrap (x13 + (1 : Int)))
 else none
 else
 some true
def F6.c_l0 (c39 : F39.E) (c40 : F40.E) (n_l0 : (List X_Object) → (List X_Value) → (Int) → (Int) → Option (Bool)) (x2 : List X_Object) (x11 : List X_Value) (x12 : Int) (x13 : Int) : Option (Bool) :=
 bif (decide (x13 < x12)) then
 if 0 ≤ x13 ∧ x13 < ((List.length x11) : Int) then
 (c40 (x2, (List.getD x11 (Int.toNat x13) Z_Value))).bind fun y2 =>
 bif !y2 then
 some false
 else
 n_l0 x2 x11 x12 (IntKind.i64.wrap (x13 + (1 : Int)))
 else none
 else
 some true
theorem F6.q_l0 (c39 : F39.E) (c40 : F40.E) (n_l0 : (List X_Object) → (List X_Value) → (Int) → (Int) → Option (Bool)) (x2 : List X_Object) (x11 : List X_Value) (x12 : Int) (x13 : Int) : F6.b_l0 c39 c40 n_l0 x2 x11 x12 x13 = F6.c_l0 c39 c40 n_l0 x2 x11 x12 x13 := by
  simp only [F6.b_l0, F6.c_l0, List.take_length, take_one, Nat.zero_add, Int.toNat_natCast, Int.toNat_zero, List.drop_zero, List.append_eq, Nat.le_refl, Int.le_refl, true_and, and_true, zero_le_one, if_true, prod_eta, Int.natCast_zero]
def F6.l0 (c39 : F39.E) (c40 : F40.E) (k : Nat)  : Nat → (List X_Object) → (List X_Value) → (Int) → (Int) → Option (Bool)
  | 0, _, _, _, _ => none
  | n + 1, x2, x11, x12, x13 => F6.b_l0 c39 c40 (fun x2 x11 x12 x13 => F6.l0 c39 c40 k  n x2 x11 x12 x13) x2 x11 x12 x13
def F6.f (c39 : F39.E) (c40 : F40.E) (k : Nat) (a0 : List X_Object) (a1 : List X_Value) : Option (Bool) := F6.b c39 c40 (F6.l0 c39 c40 k k) a0 a1
noncomputable def F6.M_l0 (c39 : F39.E) (c40 : F40.E) (k n : Nat)  (s : St) : Option (Bool) := atLoop (F6.C c39 c40) k n [1, 1, 0, 1, 0] [] F6.code (F6.fin c39 c40) s
noncomputable def F6.fr_l0 (x2 : List X_Object) (x11 : List X_Value) (x12 : Int) (x13 : Int) : St := ⟨(((((List.replicate 22 V.un).set 2 (V.bp 600002 0 [])).set 11 (V.dat (.sl 29 Y_Value) x11)).set 12 (V.dat (.int .i64) x12)).set 13 (V.dat (.int .i64) x13)), [⟨600002, 0, .box (V.dat Y_Heap x2)⟩]⟩
theorem F6.r (c39 : F39.E) (c40 : F40.E) (k : Nat) (a0 : List X_Object) (a1 : List X_Value) : fn (F6.C c39 c40) k Tryz.f6 F6.A F6.R (a0, a1) = F6.b c39 c40 (fun x2 x11 x12 x13 => F6.M_l0 c39 c40 k k  (F6.fr_l0 x2 x11 x12 x13)) a0 a1 := by kernel_rfl
theorem F6.z_l0 (c39 : F39.E) (c40 : F40.E) (k : Nat)  (s : St) : F6.M_l0 c39 c40 k 0  s = none := by kernel_rfl
theorem F6.r_l0 (c39 : F39.E) (c40 : F40.E) (k n : Nat)  (x2 : List X_Object) (x11 : List X_Value) (x12 : Int) (x13 : Int) : F6.M_l0 c39 c40 k (n + 1)  (F6.fr_l0 x2 x11 x12 x13) = F6.b_l0 c39 c40 (fun x2 x11 x12 x13 => F6.M_l0 c39 c40 k n  (F6.fr_l0 x2 x11 x12 x13)) x2 x11 x12 x13 := by kernel_rfl
theorem F6.e_l0 (c39 : F39.E) (c40 : F40.E) (k n : Nat)  (x2 : List X_Object) (x11 : List X_Value) (x12 : Int) (x13 : Int) : F6.M_l0 c39 c40 k n  (F6.fr_l0 x2 x11 x12 x13) = F6.l0 c39 c40 k  n x2 x11 x12 x13 := by
  induction n generalizing x2 x11 x12 x13 with
  | zero => rw [F6.z_l0]; rfl
  | succ n ih =>
    rw [F6.r_l0]
    simp only [ih]
    rfl
theorem F6.e (c39 : F39.E) (c40 : F40.E) (k : Nat) (a0 : List X_Object) (a1 : List X_Value) : fn (F6.C c39 c40) k Tryz.f6 F6.A F6.R (a0, a1) = F6.f c39 c40 k a0 a1 := by
  rw [F6.r]
  simp only [F6.e_l0]
  rfl
theorem F6.ty (c39 : F39.E) (c40 : F40.E) : TyOk Tryz.prog (F6.C c39 c40) := tyOk_of (by kernel_rfl)
def F6.u (k : Nat) : F6.E := fun y => F6.f (F39.u k) (F40.u k) k y.1 y.2
theorem F6.sound (k : Nat) : Sound Tryz.prog ⟨6, F6.A, F6.R, F6.u k⟩ := by
  have h := fn_sound (k := k) («as» := F6.A) (rs := F6.R) (F6.ty (F39.u k) (F40.u k)) (fun E h => by
    simp only [F6.C, List.mem_cons, List.not_mem_nil, or_false] at h
    rcases h with rfl | rfl
    · exact F39.sound k
    · exact F40.sound k) mixed Tryz.func6 (by kernel_rfl) (by kernel_rfl)
  have e : fn (F6.C (F39.u k) (F40.u k)) k Tryz.f6 F6.A F6.R = F6.u k := by
    funext y
    exact F6.e (F39.u k) (F40.u k) k y.1 y.2
  rw [e] at h
  exact h
end
end Go.Ab
