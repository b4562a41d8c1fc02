/- A part of the proof: GT4. -/
import Derived.Test.YtgbihmngjppomaaGreatDoorFTy
import Derived.Test.YtgbihmngjppomaaGreatDoorGC2
import Derived.Test.YtgbihmngjppomaaGreatDoorGT1
import Derived.Test.YtgbihmngjppomaaGreatDoorGT2
import Derived.Test.YtgbihmngjppomaaGreatDoorGT3
namespace Go.Ab
set_option linter.unusedVariables false
set_option linter.unusedSimpArgs false
set_option maxRecDepth 100000
noncomputable section
open Go.Proofs
/-! ### brindlewood/brindlewoodref7.Problem: f39 -/
abbrev r7_Problem.A : List Sh := [(.d Y_Heap)]
abbrev r7_Problem.R : List Sh := [(.d Y_Fault)]
abbrev r7_Problem.E : Type := (List X_Object) → Option X_acceptRange
def r7_Problem.C (c64 : r7_At.E) (c27 : r7_Begin.E) (c51 : r7_SameObject.E) (c65 : r7_shape.E) (c66 : r7_sizes.E) (c67 : r7_names.E) (c68 : r7_values.E) (c69 : r7_links.E) (c70 : r7_keyRule.E) (c71 : r7_orderOk.E) (c72 : sl_Clone_Value.E) : Ctx := { ty := [(3, (.int .i64)), (9, .str), (22, (.sl 36 Y_Object)), (24, Y_Heap), (29, Y_Value), (32, (.sl 3 (.int .i64))), (34, (.sl 29 Y_Value)), (36, Y_Object), (64, Y_Fault)], nf := [(24, 1), (29, 5), (36, 10), (64, 2)], by_ := [(3, 8), (29, 96), (36, 168)], env := [⟨64, r7_At.A, r7_At.R, c64⟩, ⟨27, r7_Begin.A, r7_Begin.R, c27⟩, ⟨51, r7_SameObject.A, r7_SameObject.R, c51⟩, ⟨65, r7_shape.A, r7_shape.R, c65⟩, ⟨66, r7_sizes.A, r7_sizes.R, c66⟩, ⟨67, r7_names.A, r7_names.R, c67⟩, ⟨68, r7_values.A, r7_values.R, c68⟩, ⟨69, r7_links.A, r7_links.R, c69⟩, ⟨70, r7_keyRule.A, r7_keyRule.R, c70⟩, ⟨71, r7_orderOk.A, r7_orderOk.R, c71⟩, ⟨72, sl_Clone_Value.A, sl_Clone_Value.R, c72⟩], spec := [(0, [.bx 1 600001 (.d Y_Heap), .bx 2 600002 (.d Y_Fault), .bx 3 600003 (.d Y_Heap), .d 4 (.int .i64), .d 5 (.int .i64), .d 25 (.sl 36 Y_Object), .d 26 (.int .i64), .d 27 (.int .i64)]), (2, [.bx 1 600001 (.d Y_Heap), .bx 2 600002 (.d Y_Fault), .bx 3 600003 (.d Y_Heap), .d 4 (.int .i64), .d 5 (.int .i64), .d 6 (.int .i64), .bx 7 600007 (.d Y_Object), .d 25 (.sl 36 Y_Object), .d 26 (.int .i64), .d 27 (.int .i64), .o 71 500071 3 (.int .i64), .d 72 (.int .i64), .d 73 (.int .i64)]), (4, [.bx 1 600001 (.d Y_Heap), .bx 2 600002 (.d Y_Fault), .bx 3 600003 (.d Y_Heap), .d 4 (.int .i64), .d 5 (.int .i64), .d 25 (.sl 36 Y_Object), .d 26 (.int .i64), .d 27 (.int .i64), .o 121 500121 29 Y_Value, .d 122 (.int .i64), .d 123 (.int .i64)])] }
noncomputable def r7_Problem.code : Code := Func.code Tryz.f39
noncomputable def r7_Problem.fin (c64 : r7_At.E) (c27 : r7_Begin.E) (c51 : r7_SameObject.E) (c65 : r7_shape.E) (c66 : r7_sizes.E) (c67 : r7_names.E) (c68 : r7_values.E) (c69 : r7_links.E) (c70 : r7_keyRule.E) (c71 : r7_orderOk.E) (c72 : sl_Clone_Value.E) := kfin (r7_Problem.C c64 c27 c51 c65 c66 c67 c68 c69 c70 c71 c72) Tryz.f39 r7_Problem.A r7_Problem.R
def r7_Problem.b (c64 : r7_At.E) (c27 : r7_Begin.E) (c51 : r7_SameObject.E) (c65 : r7_shape.E) (c66 : r7_sizes.E) (c67 : r7_names.E) (c68 : r7_values.E) (c69 : r7_links.E) (c70 : r7_keyRule.E) (c71 : r7_orderOk.E) (c72 : sl_Clone_Value.E) (r_l0 : (List X_Object) → X_acceptRange → (List X_Object) → (Int) → (Int) → (List X_Object) → (Int) → (Int) → Option X_acceptRange) (a0 : List X_Object) : Option X_acceptRange :=
  bif (decide (((List.length a0) : Int) > (5000 : Int))) then
    (c64 ((2 : Int), (-1 : Int))).bind fun y1 =>
      some y1
  else
    bif (decide (((List.length a0) : Int) < (49 : Int))) then
      (c64 ((9 : Int), (-1 : Int))).bind fun y2 =>
        some y2
    else
      (c27 ()).bind fun y3 =>
        r_l0 a0 ((0 : Int), (0 : Int)) y3 (0 : Int) (0 : Int) a0 ((List.length a0) : Int) (0 : Int)
def r7_Problem.b_l0 (c64 : r7_At.E) (c27 : r7_Begin.E) (c51 : r7_SameObject.E) (c65 : r7_shape.E) (c66 : r7_sizes.E) (c67 : r7_names.E) (c68 : r7_values.E) (c69 : r7_links.E) (c70 : r7_keyRule.E) (c71 : r7_orderOk.E) (c72 : sl_Clone_Value.E) (n_l0 : (List X_Object) → X_acceptRange → (List X_Object) → (Int) → (Int) → (List X_Object) → (Int) → (Int) → Option X_acceptRange) (r_l2 : (List X_Object) → X_acceptRange → (List X_Object) → (Int) → (Int) → (Int) → X_Object → (List X_Object) → (Int) → (Int) → (List (Int)) → (Int) → (Int) → Option X_acceptRange) (x1 : List X_Object) (x2 : (Int) × (Int)) (x3 : List X_Object) (x4 : Int) (x5 : Int) (x25 : List X_Object) (x26 : Int) (x27 : Int) : Option X_acceptRange :=
  bif (decide (x27 < x26)) then
    if 0 ≤ x27 ∧ x27 < ((List.length x25) : Int) then
      bif (decide (x27 < (49 : Int))) then
        if 0 ≤ x27 ∧ x27 < ((List.length x3) : Int) then
          (c51 ((List.getD x25 (Int.toNat x27) Z_Object), (List.getD x3 (Int.toNat x27) Z_Object))).bind fun y4 =>
            bif (!y4) then
              (c64 ((19 : Int), x27)).bind fun y5 =>
                some y5
            else
              n_l0 x1 x2 x3 (IntKind.i64.wrap (x4 + ((List.length (((((List.getD x25 (Int.toNat x27) Z_Object).2).2).2).1)) : Int))) x5 x25 x26 (IntKind.i64.wrap (x27 + (1 : Int)))
        else none
      else
        bif (decide (((List.getD x25 (Int.toNat x27) Z_Object).1) < (0 : Int))) then
          (c64 ((5 : Int), x27)).bind fun y6 =>
            some y6
        else
          bif (decide (((List.getD x25 (Int.toNat x27) Z_Object).1) ≥ (21 : Int))) then
            (c64 ((5 : Int), x27)).bind fun y7 =>
              some y7
          else
            (c65 (x1, x27)).bind fun y8 =>
              (c66 (x1, x27)).bind fun y9 =>
                (c67 (x1, x27)).bind fun y10 =>
                  (c68 (x1, x27)).bind fun y11 =>
                    r_l2 x1 x2 x3 x4 x5 x27 (List.getD x25 (Int.toNat x27) Z_Object) x25 x26 x27 (List.take 4 ([y8, y9, y10, y11] : List (Int))) ((4 : Nat) : Int) (0 : Int)
    else none
  else
    bif (decide (x4 > (20000 : Int))) then
      (c64 ((14 : Int), (-1 : Int))).bind fun y20 =>
        some y20
    else
      bif (decide (x5 > (200000 : Int))) then
        (c64 ((14 : Int), (-1 : Int))).bind fun y21 =>
          some y21
      else
        some ((0 : Int), (0 : Int))
def r7_Problem.b_l2 (c64 : r7_At.E) (c27 : r7_Begin.E) (c51 : r7_SameObject.E) (c65 : r7_shape.E) (c66 : r7_sizes.E) (c67 : r7_names.E) (c68 : r7_values.E) (c69 : r7_links.E) (c70 : r7_keyRule.E) (c71 : r7_orderOk.E) (c72 : sl_Clone_Value.E) (n_l2 : (List X_Object) → X_acceptRange → (List X_Object) → (Int) → (Int) → (Int) → X_Object → (List X_Object) → (Int) → (Int) → (List (Int)) → (Int) → (Int) → Option X_acceptRange) (r_l4 : (List X_Object) → X_acceptRange → (List X_Object) → (Int) → (Int) → (List X_Object) → (Int) → (Int) → (List X_Value) → (Int) → (Int) → Option X_acceptRange) (x1 : List X_Object) (x2 : (Int) × (Int)) (x3 : List X_Object) (x4 : Int) (x5 : Int) (x6 : Int) (x7 : X_Object) (x25 : List X_Object) (x26 : Int) (x27 : Int) (x71 : List (Int)) (x72 : Int) (x73 : Int) : Option X_acceptRange :=
  bif (decide (x73 < x72)) then
    if 0 ≤ x73 ∧ x73 < (((List.length x71) : Nat) : Int) then
      bif ((List.getD x71 (0 + Int.toNat x73) (0 : Int)) != (0 : Int)) then
        (c64 ((List.getD x71 (0 + Int.toNat x73) (0 : Int)), x6)).bind fun y12 =>
          some y12
      else
        n_l2 x1 x2 x3 x4 x5 x6 x7 x25 x26 x27 (List.take (List.length x71) x71) x72 (IntKind.i64.wrap (x73 + (1 : Int)))
    else none
  else
    (c69 (x1, x6)).bind fun y13 =>
      bif (!y13) then
        (c64 ((13 : Int), x6)).bind fun y14 =>
          some y14
      else
        (c70 (x1, x6)).bind fun y15 =>
          bif (y15 != (0 : Int)) then
            (c64 (y15, x6)).bind fun y16 =>
              some y16
          else
            (c71 (x1, x6)).bind fun y17 =>
              bif (!y17) then
                (c64 ((19 : Int), x6)).bind fun y18 =>
                  some y18
              else
                (c72 x7.2.2.2.2.2.2.1).bind fun y19 =>
                  if (List.length y19) ≤ (List.length y19) ∧ ((List.length y19) + (List.length x7.2.2.2.2.2.2.2.1)) * 96 ≤ LIM then
                    r_l4 x1 x2 x3 (IntKind.i64.wrap (x4 + (IntKind.i64.wrap ((IntKind.i64.wrap (((List.length x7.2.2.2.2.2.2.1) : Int) + ((List.length x7.2.2.2.2.2.2.2.1) : Int))) + ((List.length x7.2.2.2.1) : Int))))) x5 x25 x26 x27 (List.take (List.length (List.append (List.take (List.length y19) y19) x7.2.2.2.2.2.2.2.1)) (List.append (List.take (List.length y19) y19) x7.2.2.2.2.2.2.2.1)) (((List.length (List.append (List.take (List.length y19) y19) x7.2.2.2.2.2.2.2.1)) : Nat) : Int) (0 : Int)
                  else none
def r7_Problem.b_l4 (c64 : r7_At.E) (c27 : r7_Begin.E) (c51 : r7_SameObject.E) (c65 : r7_shape.E) (c66 : r7_sizes.E) (c67 : r7_names.E) (c68 : r7_values.E) (c69 : r7_links.E) (c70 : r7_keyRule.E) (c71 : r7_orderOk.E) (c72 : sl_Clone_Value.E) (n_l4 : (List X_Object) → X_acceptRange → (List X_Object) → (Int) → (Int) → (List X_Object) → (Int) → (Int) → (List X_Value) → (Int) → (Int) → Option X_acceptRange) (n_l0 : (List X_Object) → X_acceptRange → (List X_Object) → (Int) → (Int) → (List X_Object) → (Int) → (Int) → Option X_acceptRange) (x1 : List X_Object) (x2 : (Int) × (Int)) (x3 : List X_Object) (x4 : Int) (x5 : Int) (x25 : List X_Object) (x26 : Int) (x27 : Int) (x121 : List X_Value) (x122 : Int) (x123 : Int) : Option X_acceptRange :=
  bif (decide (x123 < x122)) then
    if 0 ≤ x123 ∧ x123 < (((List.length x121) : Nat) : Int) then
      n_l4 x1 x2 x3 x4 (IntKind.i64.wrap (x5 + ((List.length (((((List.getD x121 (0 + Int.toNat x123) Z_Value).2).2).2).1)) : Int))) x25 x26 x27 (List.take (List.length x121) x121) x122 (IntKind.i64.wrap (x123 + (1 : Int)))
    else none
  else
    n_l0 x1 x2 x3 x4 x5 x25 x26 (IntKind.i64.wrap (x27 + (1 : Int)))
def r7_Problem.c_l0 (c64 : r7_At.E) (c27 : r7_Begin.E) (c51 : r7_SameObject.E) (c65 : r7_shape.E) (c66 : r7_sizes.E) (c67 : r7_names.E) (c68 : r7_values.E) (c69 : r7_links.E) (c70 : r7_keyRule.E) (c71 : r7_orderOk.E) (c72 : sl_Clone_Value.E) (n_l0 : (List X_Object) → X_acceptRange → (List X_Object) → (Int) → (Int) → (List X_Object) → (Int) → (Int) → Option X_acceptRange) (r_l2 : (List X_Object) → X_acceptRange → (List X_Object) → (Int) → (Int) → (Int) → X_Object → (List X_Object) → (Int) → (Int) → (List (Int)) → (Int) → (Int) → Option X_acceptRange) (x1 : List X_Object) (x2 : (Int) × (Int)) (x3 : List X_Object) (x4 : Int) (x5 : Int) (x25 : List X_Object) (x26 : Int) (x27 : Int) : Option X_acceptRange :=
  bif (decide (x27 < x26)) then
    if 0 ≤ x27 ∧ x27 < ((List.length x25) : Int) then
      bif (decide (x27 < (49 : Int))) then
        if 0 ≤ x27 ∧ x27 < ((List.length x3) : Int) then
          (c51 ((List.getD x25 (Int.toNat x27) Z_Object), (List.getD x3 (Int.toNat x27) Z_Object))).bind fun y4 =>
            bif !y4 then
              (c64 ((19 : Int), x27)).bind fun y5 =>
                some y5
            else
              n_l0 x1 x2 x3 (IntKind.i64.wrap (x4 + ((List.length (((((List.getD x25 (Int.toNat x27) Z_Object).2).2).2).1)) : Int))) x5 x25 x26 (IntKind.i64.wrap (x27 + (1 : Int)))
        else none
      else
        bif (decide (((List.getD x25 (Int.toNat x27) Z_Object).1) < (0 : Int))) then
          (c64 ((5 : Int), x27)).bind fun y6 =>
            some y6
        else
          bif (decide (((List.getD x25 (Int.toNat x27) Z_Object).1) ≥ (21 : Int))) then
            (c64 ((5 : Int), x27)).bind fun y7 =>
              some y7
          else
            (c65 (x1, x27)).bind fun y8 =>
              (c66 (x1, x27)).bind fun y9 =>
                (c67 (x1, x27)).bind fun y10 =>
                  (c68 (x1, x27)).bind fun y11 =>
                    r_l2 x1 x2 x3 x4 x5 x27 (List.getD x25 (Int.toNat x27) Z_Object) x25 x26 x27 (List.take 4 ([y8, y9, y10, y11] : List Int)) ((4 : Nat) : Int) (0 : Int)
    else none
  else
    bif (decide (x4 > (20000 : Int))) then
      (c64 ((14 : Int), (-1 : Int))).bind fun y20 =>
        some y20
    else
      bif (decide (x5 > (200000 : Int))) then
        (c64 ((14 : Int), (-1 : Int))).bind fun y21 =>
          some y21
      else
        some ((0 : Int), (0 : Int))
theorem r7_Problem.q_l0 (c64 : r7_At.E) (c27 : r7_Begin.E) (c51 : r7_SameObject.E) (c65 : r7_shape.E) (c66 : r7_sizes.E) (c67 : r7_names.E) (c68 : r7_values.E) (c69 : r7_links.E) (c70 : r7_keyRule.E) (c71 : r7_orderOk.E) (c72 : sl_Clone_Value.E) (n_l0 : (List X_Object) → X_acceptRange → (List X_Object) → (Int) → (Int) → (List X_Object) → (Int) → (Int) → Option X_acceptRange) (r_l2 : (List X_Object) → X_acceptRange → (List X_Object) → (Int) → (Int) → (Int) → X_Object → (List X_Object) → (Int) → (Int) → (List (Int)) → (Int) → (Int) → Option X_acceptRange) (x1 : List X_Object) (x2 : (Int) × (Int)) (x3 : List X_Object) (x4 : Int) (x5 : Int) (x25 : List X_Object) (x26 : Int) (x27 : Int) : r7_Problem.b_l0 c64 c27 c51 c65 c66 c67 c68 c69 c70 c71 c72 n_l0 r_l2 x1 x2 x3 x4 x5 x25 x26 x27 = r7_Problem.c_l0 c64 c27 c51 c65 c66 c67 c68 c69 c70 c71 c72 n_l0 r_l2 x1 x2 x3 x4 x5 x25 x26 x27 := by
  simp only [r7_Problem.b_l0, r7_Problem.c_l0, List.take_length, take_one, Nat.zero_add, Int.toNat_natCast, Int.toNat_zero, List.drop_zero, List.append_eq, Nat.le_refl, Int.le_refl, true_and, and_true, zero_le_one, if_true, prod_eta, Int.natCast_zero]
def r7_Problem.c_l2 (c64 : r7_At.E) (c27 : r7_Begin.E) (c51 : r7_SameObject.E) (c65 : r7_shape.E) (c66 : r7_sizes.E) (c67 : r7_names.E) (c68 : r7_values.E) (c69 : r7_links.E) (c70 : r7_keyRule.E) (c71 : r7_orderOk.E) (c72 : sl_Clone_Value.E) (n_l2 : (List X_Object) → X_acceptRange → (List X_Object) → (Int) → (Int) → (Int) → X_Object → (List X_Object) → (Int) → (Int) → (List (Int)) → (Int) → (Int) → Option X_acceptRange) (r_l4 : (List X_Object) → X_acceptRange → (List X_Object) → (Int) → (Int) → (List X_Object) → (Int) → (Int) → (List X_Value) → (Int) → (Int) → Option X_acceptRange) (x1 : List X_Object) (x2 : (Int) × (Int)) (x3 : List X_Object) (x4 : Int) (x5 : Int) (x6 : Int) (x7 : X_Object) (x25 : List X_Object) (x26 : Int) (x27 : Int) (x71 : List (Int)) (x72 : Int) (x73 : Int) : Option X_acceptRange :=
  bif (decide (x73 < x72)) then
    if 0 ≤ x73 ∧ x73 < ((List.length x71) : Int) then
      bif ((List.getD x71 (0 + Int.toNat x73) (0 : Int)) != (0 : Int)) then
        (c64 ((List.getD x71 (0 + Int.toNat x73) (0 : Int)), x6)).bind fun y12 =>
          some y12
      else
        n_l2 x1 x2 x3 x4 x5 x6 x7 x25 x26 x27 x71 x72 (IntKind.i64.wrap (x73 + (1 : Int)))
    else none
  else
    (c69 (x1, x6)).bind fun y13 =>
      bif !y13 then
        (c64 ((13 : Int), x6)).bind fun y14 =>
          some y14
      else
        (c70 (x1, x6)).bind fun y15 =>
          bif (y15 != (0 : Int)) then
            (c64 (y15, x6)).bind fun y16 =>
              some y16
          else
            (c71 (x1, x6)).bind fun y17 =>
              bif !y17 then
                (c64 ((19 : Int), x6)).bind fun y18 =>
                  some y18
              else
                (c72 x7.2.2.2.2.2.2.1).bind fun y19 =>
                  if ((List.length y19) + (List.length x7.2.2.2.2.2.2.2.1)) * 96 ≤ LIM then
                    r_l4 x1 x2 x3 (IntKind.i64.wrap (x4 + (IntKind.i64.wrap ((IntKind.i64.wrap (((List.length x7.2.2.2.2.2.2.1) : Int) + ((List.length x7.2.2.2.2.2.2.2.1) : Int))) + ((List.length x7.2.2.2.1) : Int))))) x5 x25 x26 x27 (y19 ++ x7.2.2.2.2.2.2.2.1) ((List.length (y19 ++ x7.2.2.2.2.2.2.2.1)) : Int) (0 : Int)
                  else none
theorem r7_Problem.q_l2 (c64 : r7_At.E) (c27 : r7_Begin.E) (c51 : r7_SameObject.E) (c65 : r7_shape.E) (c66 : r7_sizes.E) (c67 : r7_names.E) (c68 : r7_values.E) (c69 : r7_links.E) (c70 : r7_keyRule.E) (c71 : r7_orderOk.E) (c72 : sl_Clone_Value.E) (n_l2 : (List X_Object) → X_acceptRange → (List X_Object) → (Int) → (Int) → (Int) → X_Object → (List X_Object) → (Int) → (Int) → (List (Int)) → (Int) → (Int) → Option X_acceptRange) (r_l4 : (List X_Object) → X_acceptRange → (List X_Object) → (Int) → (Int) → (List X_Object) → (Int) → (Int) → (List X_Value) → (Int) → (Int) → Option X_acceptRange) (x1 : List X_Object) (x2 : (Int) × (Int)) (x3 : List X_Object) (x4 : Int) (x5 : Int) (x6 : Int) (x7 : X_Object) (x25 : List X_Object) (x26 : Int) (x27 : Int) (x71 : List (Int)) (x72 : Int) (x73 : Int) : r7_Problem.b_l2 c64 c27 c51 c65 c66 c67 c68 c69 c70 c71 c72 n_l2 r_l4 x1 x2 x3 x4 x5 x6 x7 x25 x26 x27 x71 x72 x73 = r7_Problem.c_l2 c64 c27 c51 c65 c66 c67 c68 c69 c70 c71 c72 n_l2 r_l4 x1 x2 x3 x4 x5 x6 x7 x25 x26 x27 x71 x72 x73 := by
  simp only [r7_Problem.b_l2, r7_Problem.c_l2, List.take_length, take_one, Nat.zero_add, Int.toNat_natCast, Int.toNat_zero, List.drop_zero, List.append_eq, Nat.le_refl, Int.le_refl, true_and, and_true, zero_le_one, if_true, prod_eta, Int.natCast_zero]
def r7_Problem.c_l4 (c64 : r7_At.E) (c27 : r7_Begin.E) (c51 : r7_SameObject.E) (c65 : r7_shape.E) (c66 : r7_sizes.E) (c67 : r7_names.E) (c68 : r7_values.E) (c69 : r7_links.E) (c70 : r7_keyRule.E) (c71 : r7_orderOk.E) (c72 : sl_Clone_Value.E) (n_l4 : (List X_Object) → X_acceptRange → (List X_Object) → (Int) → (Int) → (List X_Object) → (Int) → (Int) → (List X_Value) → (Int) → (Int) → Option X_acceptRange) (n_l0 : (List X_Object) → X_acceptRange → (List X_Object) → (Int) → (Int) → (List X_Object) → (Int) → (Int) → Option X_acceptRange) (x1 : List X_Object) (x2 : (Int) × (Int)) (x3 : List X_Object) (x4 : Int) (x5 : Int) (x25 : List X_Object) (x26 : Int) (x27 : Int) (x121 : List X_Value) (x122 : Int) (x123 : Int) : Option X_acceptRange :=
  bif (decide (x123 < x122)) then
    if 0 ≤ x123 ∧ x123 < ((List.length x121) : Int) then
      n_l4 x1 x2 x3 x4 (IntKind.i64.wrap (x5 + ((List.length (((((List.getD x121 (0 + Int.toNat x123) Z_Value).2).2).2).1)) : Int))) x25 x26 x27 x121 x122 (IntKind.i64.wrap (x123 + (1 : Int)))
    else none
  else
    n_l0 x1 x2 x3 x4 x5 x25 x26 (IntKind.i64.wrap (x27 + (1 : Int)))
theorem r7_Problem.q_l4 (c64 : r7_At.E) (c27 : r7_Begin.E) (c51 : r7_SameObject.E) (c65 : r7_shape.E) (c66 : r7_sizes.E) (c67 : r7_names.E) (c68 : r7_values.E) (c69 : r7_links.E) (c70 : r7_keyRule.E) (c71 : r7_orderOk.E) (c72 : sl_Clone_Value.E) (n_l4 : (List X_Object) → X_acceptRange → (List X_Object) → (Int) → (Int) → (List X_Object) → (Int) → (Int) → (List X_Value) → (Int) → (Int) → Option X_acceptRange) (n_l0 : (List X_Object) → X_acceptRange → (List X_Object) → (Int) → (Int) → (List X_Object) → (Int) → (Int) → Option X_acceptRange) (x1 : List X_Object) (x2 : (Int) × (Int)) (x3 : List X_Object) (x4 : Int) (x5 : Int) (x25 : List X_Object) (x26 : Int) (x27 : Int) (x121 : List X_Value) (x122 : Int) (x123 : Int) : r7_Problem.b_l4 c64 c27 c51 c65 c66 c67 c68 c69 c70 c71 c72 n_l4 n_l0 x1 x2 x3 x4 x5 x25 x26 x27 x121 x122 x123 = r7_Problem.c_l4 c64 c27 c51 c65 c66 c67 c68 c69 c70 c71 c72 n_l4 n_l0 x1 x2 x3 x4 x5 x25 x26 x27 x121 x122 x123 := by
  simp only [r7_Problem.b_l4, r7_Problem.c_l4, List.take_length, take_one, Nat.zero_add, Int.toNat_natCast, Int.toNat_zero, List.drop_zero, List.append_eq, Nat.le_refl, Int.le_refl, true_and, and_true, zero_le_one, if_true, prod_eta, Int.natCast_zero]
def r7_Problem.l4 (c64 : r7_At.E) (c27 : r7_Begin.E) (c51 : r7_SameObject.E) (c65 : r7_shape.E) (c66 : r7_sizes.E) (c67 : r7_names.E) (c68 : r7_values.E) (c69 : r7_links.E) (c70 : r7_keyRule.E) (c71 : r7_orderOk.E) (c72 : sl_Clone_Value.E) (k : Nat) (n_l0 : (List X_Object) → X_acceptRange → (List X_Object) → (Int) → (Int) → (List X_Object) → (Int) → (Int) → Option X_acceptRange) : Nat → (List X_Object) → X_acceptRange → (List X_Object) → (Int) → (Int) → (List X_Object) → (Int) → (Int) → (List X_Value) → (Int) → (Int) → Option X_acceptRange
  | 0, _, _, _, _, _, _, _, _, _, _, _ => none
  | n + 1, x1, x2, x3, x4, x5, x25, x26, x27, x121, x122, x123 => r7_Problem.b_l4 c64 c27 c51 c65 c66 c67 c68 c69 c70 c71 c72 (fun x1 x2 x3 x4 x5 x25 x26 x27 x121 x122 x123 => r7_Problem.l4 c64 c27 c51 c65 c66 c67 c68 c69 c70 c71 c72 k n_l0 n x1 x2 x3 x4 x5 x25 x26 x27 x121 x122 x123) n_l0 x1 x2 x3 x4 x5 x25 x26 x27 x121 x122 x123
def r7_Problem.l2 (c64 : r7_At.E) (c27 : r7_Begin.E) (c51 : r7_SameObject.E) (c65 : r7_shape.E) (c66 : r7_sizes.E) (c67 : r7_names.E) (c68 : r7_values.E) (c69 : r7_links.E) (c70 : r7_keyRule.E) (c71 : r7_orderOk.E) (c72 : sl_Clone_Value.E) (k : Nat) (n_l0 : (List X_Object) → X_acceptRange → (List X_Object) → (Int) → (Int) → (List X_Object) → (Int) → (Int) → Option X_acceptRange) : Nat → (List X_Object) → X_acceptRange → (List X_Object) → (Int) → (Int) → (Int) → X_Object → (List X_Object) → (Int) → (Int) → (List (Int)) → (Int) → (Int) → Option X_acceptRange
  | 0, _, _, _, _, _, _, _, _, _, _, _, _, _ => none
  | n + 1, x1, x2, x3, x4, x5, x6, x7, x25, x26, x27, x71, x72, x73 => r7_Problem.b_l2 c64 c27 c51 c65 c66 c67 c68 c69 c70 c71 c72 (fun x1 x2 x3 x4 x5 x6 x7 x25 x26 x27 x71 x72 x73 => r7_Problem.l2 c64 c27 c51 c65 c66 c67 c68 c69 c70 c71 c72 k n_l0 n x1 x2 x3 x4 x5 x6 x7 x25 x26 x27 x71 x72 x73) (r7_Problem.l4 c64 c27 c51 c65 c66 c67 c68 c69 c70 c71 c72 k n_l0 k) x1 x2 x3 x4 x5 x6 x7 x25 x26 x27 x71 x72 x73
def r7_Problem.l0 (c64 : r7_At.E) (c27 : r7_Begin.E) (c51 : r7_SameObject.E) (c65 : r7_shape.E) (c66 : r7_sizes.E) (c67 : r7_names.E) (c68 : r7_values.E) (c69 : r7_links.E) (c70 : r7_keyRule.E) (c71 : r7_orderOk.E) (c72 : sl_Clone_Value.E) (k : Nat)  : Nat → (List X_Object) → X_acceptRange → (List X_Object) → (Int) → (Int) → (List X_Object) → (Int) → (Int) → Option X_acceptRange
  | 0, _, _, _, _, _, _, _, _ => none
  | n + 1, x1, x2, x3, x4, x5, x25, x26, x27 => r7_Problem.b_l0 c64 c27 c51 c65 c66 c67 c68 c69 c70 c71 c72 (fun x1 x2 x3 x4 x5 x25 x26 x27 => r7_Problem.l0 c64 c27 c51 c65 c66 c67 c68 c69 c70 c71 c72 k  n x1 x2 x3 x4 x5 x25 x26 x27) (r7_Problem.l2 c64 c27 c51 c65 c66 c67 c68 c69 c70 c71 c72 k (fun x1 x2 x3 x4 x5 x25 x26 x27 => r7_Problem.l0 c64 c27 c51 c65 c66 c67 c68 c69 c70 c71 c72 k  n x1 x2 x3 x4 x5 x25 x26 x27) k) x1 x2 x3 x4 x5 x25 x26 x27
def r7_Problem.f (c64 : r7_At.E) (c27 : r7_Begin.E) (c51 : r7_SameObject.E) (c65 : r7_shape.E) (c66 : r7_sizes.E) (c67 : r7_names.E) (c68 : r7_values.E) (c69 : r7_links.E) (c70 : r7_keyRule.E) (c71 : r7_orderOk.E) (c72 : sl_Clone_Value.E) (k : Nat) (a0 : List X_Object) : Option X_acceptRange := r7_Problem.b c64 c27 c51 c65 c66 c67 c68 c69 c70 c71 c72 (r7_Problem.l0 c64 c27 c51 c65 c66 c67 c68 c69 c70 c71 c72 k k) a0
noncomputable def r7_Problem.M_l0 (c64 : r7_At.E) (c27 : r7_Begin.E) (c51 : r7_SameObject.E) (c65 : r7_shape.E) (c66 : r7_sizes.E) (c67 : r7_names.E) (c68 : r7_values.E) (c69 : r7_links.E) (c70 : r7_keyRule.E) (c71 : r7_orderOk.E) (c72 : sl_Clone_Value.E) (k n : Nat)  (s : St) : Option X_acceptRange := atLoop (r7_Problem.C c64 c27 c51 c65 c66 c67 c68 c69 c70 c71 c72) k n [1, 1, 1, 1, 1, 0, 1, 0] [] r7_Problem.code (r7_Problem.fin c64 c27 c51 c65 c66 c67 c68 c69 c70 c71 c72) s
noncomputable def r7_Problem.fr_l0 (x1 : List X_Object) (x2 : (Int) × (Int)) (x3 : List X_Object) (x4 : Int) (x5 : Int) (x25 : List X_Object) (x26 : Int) (x27 : Int) : St := ⟨(((((((((List.replicate 142 V.un).set 1 (V.bp 600001 0 [])).set 2 (V.bp 600002 0 [])).set 3 (V.bp 600003 0 [])).set 4 (V.dat (.int .i64) x4)).set 5 (V.dat (.int .i64) x5)).set 25 (V.dat (.sl 36 Y_Object) x25)).set 26 (V.dat (.int .i64) x26)).set 27 (V.dat (.int .i64) x27)), [⟨600003, 0, .box (V.dat Y_Heap x3)⟩, ⟨600002, 0, .box (V.dat Y_Fault x2)⟩, ⟨600001, 0, .box (V.dat Y_Heap x1)⟩]⟩
noncomputable def r7_Problem.M_l2 (c64 : r7_At.E) (c27 : r7_Begin.E) (c51 : r7_SameObject.E) (c65 : r7_shape.E) (c66 : r7_sizes.E) (c67 : r7_names.E) (c68 : r7_values.E) (c69 : r7_links.E) (c70 : r7_keyRule.E) (c71 : r7_orderOk.E) (c72 : sl_Clone_Value.E) (k n : Nat) (m0 : Nat) (s : St) : Option X_acceptRange := atLoop (r7_Problem.C c64 c27 c51 c65 c66 c67 c68 c69 c70 c71 c72) k n [1, 1, 1, 1, 1, 0, 1, 0, 0, 1, 1, 0, 0, 1, 1, 1, 0, 1, 0] [m0] r7_Problem.code (r7_Problem.fin c64 c27 c51 c65 c66 c67 c68 c69 c70 c71 c72) s
noncomputable def r7_Problem.fr_l2 (x1 : List X_Object) (x2 : (Int) × (Int)) (x3 : List X_Object) (x4 : Int) (x5 : Int) (x6 : Int) (x7 : X_Object) (x25 : List X_Object) (x26 : Int) (x27 : Int) (x71 : List (Int)) (x72 : Int) (x73 : Int) : St := ⟨((((((((((((((List.replicate 142 V.un).set 1 (V.bp 600001 0 [])).set 2 (V.bp 600002 0 [])).set 3 (V.bp 600003 0 [])).set 4 (V.dat (.int .i64) x4)).set 5 (V.dat (.int .i64) x5)).set 6 (V.dat (.int .i64) x6)).set 7 (V.bp 600007 0 [])).set 25 (V.dat (.sl 36 Y_Object) x25)).set 26 (V.dat (.int .i64) x26)).set 27 (V.dat (.int .i64) x27)).set 71 (V.ref 500071 0 0 (List.length x71))).set 72 (V.dat (.int .i64) x72)).set 73 (V.dat (.int .i64) x73)), [⟨500071, 0, .arr 3 (.int .i64) x71⟩, ⟨600007, 0, .box (V.dat Y_Object x7)⟩, ⟨600003, 0, .box (V.dat Y_Heap x3)⟩, ⟨600002, 0, .box (V.dat Y_Fault x2)⟩, ⟨600001, 0, .box (V.dat Y_Heap x1)⟩]⟩
noncomputable def r7_Problem.M_l4 (c64 : r7_At.E) (c27 : r7_Begin.E) (c51 : r7_SameObject.E) (c65 : r7_shape.E) (c66 : r7_sizes.E) (c67 : r7_names.E) (c68 : r7_values.E) (c69 : r7_links.E) (c70 : r7_keyRule.E) (c71 : r7_orderOk.E) (c72 : sl_Clone_Value.E) (k n : Nat) (m0 : Nat) (s : St) : Option X_acceptRange := atLoop (r7_Problem.C c64 c27 c51 c65 c66 c67 c68 c69 c70 c71 c72) k n [1, 1, 1, 1, 1, 0, 1, 0, 0, 1, 1, 0, 0, 1, 1, 1, 1, 1, 1, 1, 1, 1, 0] [m0] r7_Problem.code (r7_Problem.fin c64 c27 c51 c65 c66 c67 c68 c69 c70 c71 c72) s
noncomputable def r7_Problem.fr_l4 (x1 : List X_Object) (x2 : (Int) × (Int)) (x3 : List X_Object) (x4 : Int) (x5 : Int) (x25 : List X_Object) (x26 : Int) (x27 : Int) (x121 : List X_Value) (x122 : Int) (x123 : Int) : St := ⟨((((((((((((List.replicate 142 V.un).set 1 (V.bp 600001 0 [])).set 2 (V.bp 600002 0 [])).set 3 (V.bp 600003 0 [])).set 4 (V.dat (.int .i64) x4)).set 5 (V.dat (.int .i64) x5)).set 25 (V.dat (.sl 36 Y_Object) x25)).set 26 (V.dat (.int .i64) x26)).set 27 (V.dat (.int .i64) x27)).set 121 (V.ref 500121 0 0 (List.length x121))).set 122 (V.dat (.int .i64) x122)).set 123 (V.dat (.int .i64) x123)), [⟨500121, 0, .arr 29 Y_Value x121⟩, ⟨600003, 0, .box (V.dat Y_Heap x3)⟩, ⟨600002, 0, .box (V.dat Y_Fault x2)⟩, ⟨600001, 0, .box (V.dat Y_Heap x1)⟩]⟩
theorem r7_Problem.r (c64 : r7_At.E) (c27 : r7_Begin.E) (c51 : r7_SameObject.E) (c65 : r7_shape.E) (c66 : r7_sizes.E) (c67 : r7_names.E) (c68 : r7_values.E) (c69 : r7_links.E) (c70 : r7_keyRule.E) (c71 : r7_orderOk.E) (c72 : sl_Clone_Value.E) (k : Nat) (a0 : List X_Object) : fn (r7_Problem.C c64 c27 c51 c65 c66 c67 c68 c69 c70 c71 c72) k Tryz.f39 r7_Problem.A r7_Problem.R a0 = r7_Problem.b c64 c27 c51 c65 c66 c67 c68 c69 c70 c71 c72 (fun x1 x2 x3 x4 x5 x25 x26 x27 => r7_Problem.M_l0 c64 c27 c51 c65 c66 c67 c68 c69 c70 c71 c72 k k  (r7_Problem.fr_l0 x1 x2 x3 x4 x5 x25 x26 x27)) a0 := by kernel_rfl
theorem r7_Problem.z_l0 (c64 : r7_At.E) (c27 : r7_Begin.E) (c51 : r7_SameObject.E) (c65 : r7_shape.E) (c66 : r7_sizes.E) (c67 : r7_names.E) (c68 : r7_values.E) (c69 : r7_links.E) (c70 : r7_keyRule.E) (c71 : r7_orderOk.E) (c72 : sl_Clone_Value.E) (k : Nat)  (s : St) : r7_Problem.M_l0 c64 c27 c51 c65 c66 c67 c68 c69 c70 c71 c72 k 0  s = none := by kernel_rfl
theorem r7_Problem.r_l0 (c64 : r7_At.E) (c27 : r7_Begin.E) (c51 : r7_SameObject.E) (c65 : r7_shape.E) (c66 : r7_sizes.E) (c67 : r7_names.E) (c68 : r7_values.E) (c69 : r7_links.E) (c70 : r7_keyRule.E) (c71 : r7_orderOk.E) (c72 : sl_Clone_Value.E) (k n : Nat)  (x1 : List X_Object) (x2 : (Int) × (Int)) (x3 : List X_Object) (x4 : Int) (x5 : Int) (x25 : List X_Object) (x26 : Int) (x27 : Int) : r7_Problem.M_l0 c64 c27 c51 c65 c66 c67 c68 c69 c70 c71 c72 k (n + 1)  (r7_Problem.fr_l0 x1 x2 x3 x4 x5 x25 x26 x27) = r7_Problem.b_l0 c64 c27 c51 c65 c66 c67 c68 c69 c70 c71 c72 (fun x1 x2 x3 x4 x5 x25 x26 x27 => r7_Problem.M_l0 c64 c27 c51 c65 c66 c67 c68 c69 c70 c71 c72 k n  (r7_Problem.fr_l0 x1 x2 x3 x4 x5 x25 x26 x27)) (fun x1 x2 x3 x4 x5 x6 x7 x25 x26 x27 x71 x72 x73 => r7_Problem.M_l2 c64 c27 c51 c65 c66 c67 c68 c69 c70 c71 c72 k k n (r7_Problem.fr_l2 x1 x2 x3 x4 x5 x6 x7 x25 x26 x27 x71 x72 x73)) x1 x2 x3 x4 x5 x25 x26 x27 := by kernel_rfl
theorem r7_Problem.z_l2 (c64 : r7_At.E) (c27 : r7_Begin.E) (c51 : r7_SameObject.E) (c65 : r7_shape.E) (c66 : r7_sizes.E) (c67 : r7_names.E) (c68 : r7_values.E) (c69 : r7_links.E) (c70 : r7_keyRule.E) (c71 : r7_orderOk.E) (c72 : sl_Clone_Value.E) (k : Nat) (m0 : Nat) (s : St) : r7_Problem.M_l2 c64 c27 c51 c65 c66 c67 c68 c69 c70 c71 c72 k 0 m0 s = none := by kernel_rfl
theorem r7_Problem.r_l2 (c64 : r7_At.E) (c27 : r7_Begin.E) (c51 : r7_SameObject.E) (c65 : r7_shape.E) (c66 : r7_sizes.E) (c67 : r7_names.E) (c68 : r7_values.E) (c69 : r7_links.E) (c70 : r7_keyRule.E) (c71 : r7_orderOk.E) (c72 : sl_Clone_Value.E) (k n : Nat) (m0 : Nat) (x1 : List X_Object) (x2 : (Int) × (Int)) (x3 : List X_Object) (x4 : Int) (x5 : Int) (x6 : Int) (x7 : X_Object) (x25 : List X_Object) (x26 : Int) (x27 : Int) (x71 : List (Int)) (x72 : Int) (x73 : Int) : r7_Problem.M_l2 c64 c27 c51 c65 c66 c67 c68 c69 c70 c71 c72 k (n + 1) m0 (r7_Problem.fr_l2 x1 x2 x3 x4 x5 x6 x7 x25 x26 x27 x71 x72 x73) = r7_Problem.b_l2 c64 c27 c51 c65 c66 c67 c68 c69 c70 c71 c72 (fun x1 x2 x3 x4 x5 x6 x7 x25 x26 x27 x71 x72 x73 => r7_Problem.M_l2 c64 c27 c51 c65 c66 c67 c68 c69 c70 c71 c72 k n m0 (r7_Problem.fr_l2 x1 x2 x3 x4 x5 x6 x7 x25 x26 x27 x71 x72 x73)) (fun x1 x2 x3 x4 x5 x25 x26 x27 x121 x122 x123 => r7_Problem.M_l4 c64 c27 c51 c65 c66 c67 c68 c69 c70 c71 c72 k k m0 (r7_Problem.fr_l4 x1 x2 x3 x4 x5 x25 x26 x27 x121 x122 x123)) x1 x2 x3 x4 x5 x6 x7 x25 x26 x27 x71 x72 x73 := by kernel_rfl
theorem r7_Problem.z_l4 (c64 : r7_At.E) (c27 : r7_Begin.E) (c51 : r7_SameObject.E) (c65 : r7_shape.E) (c66 : r7_sizes.E) (c67 : r7_names.E) (c68 : r7_values.E) (c69 : r7_links.E) (c70 : r7_keyRule.E) (c71 : r7_orderOk.E) (c72 : sl_Clone_Value.E) (k : Nat) (m0 : Nat) (s : St) : r7_Problem.M_l4 c64 c27 c51 c65 c66 c67 c68 c69 c70 c71 c72 k 0 m0 s = none := by kernel_rfl
theorem r7_Problem.r_l4 (c64 : r7_At.E) (c27 : r7_Begin.E) (c51 : r7_SameObject.E) (c65 : r7_shape.E) (c66 : r7_sizes.E) (c67 : r7_names.E) (c68 : r7_values.E) (c69 : r7_links.E) (c70 : r7_keyRule.E) (c71 : r7_orderOk.E) (c72 : sl_Clone_Value.E) (k n : Nat) (m0 : Nat) (x1 : List X_Object) (x2 : (Int) × (Int)) (x3 : List X_Object) (x4 : Int) (x5 : Int) (x25 : List X_Object) (x26 : Int) (x27 : Int) (x121 : List X_Value) (x122 : Int) (x123 : Int) : r7_Problem.M_l4 c64 c27 c51 c65 c66 c67 c68 c69 c70 c71 c72 k (n + 1) m0 (r7_Problem.fr_l4 x1 x2 x3 x4 x5 x25 x26 x27 x121 x122 x123) = r7_Problem.b_l4 c64 c27 c51 c65 c66 c67 c68 c69 c70 c71 c72 (fun x1 x2 x3 x4 x5 x25 x26 x27 x121 x122 x123 => r7_Problem.M_l4 c64 c27 c51 c65 c66 c67 c68 c69 c70 c71 c72 k n m0 (r7_Problem.fr_l4 x1 x2 x3 x4 x5 x25 x26 x27 x121 x122 x123)) (fun x1 x2 x3 x4 x5 x25 x26 x27 => r7_Problem.M_l0 c64 c27 c51 c65 c66 c67 c68 c69 c70 c71 c72 k m0  (r7_Problem.fr_l0 x1 x2 x3 x4 x5 x25 x26 x27)) x1 x2 x3 x4 x5 x25 x26 x27 x121 x122 x123 := by kernel_rfl
theorem r7_Problem.e_l4 (c64 : r7_At.E) (c27 : r7_Begin.E) (c51 : r7_SameObject.E) (c65 : r7_shape.E) (c66 : r7_sizes.E) (c67 : r7_names.E) (c68 : r7_values.E) (c69 : r7_links.E) (c70 : r7_keyRule.E) (c71 : r7_orderOk.E) (c72 : sl_Clone_Value.E) (k n : Nat) (m0 : Nat) (x1 : List X_Object) (x2 : (Int) × (Int)) (x3 : List X_Object) (x4 : Int) (x5 : Int) (x25 : List X_Object) (x26 : Int) (x27 : Int) (x121 : List X_Value) (x122 : Int) (x123 : Int) : r7_Problem.M_l4 c64 c27 c51 c65 c66 c67 c68 c69 c70 c71 c72 k n m0 (r7_Problem.fr_l4 x1 x2 x3 x4 x5 x25 x26 x27 x121 x122 x123) = r7_Problem.l4 c64 c27 c51 c65 c66 c67 c68 c69 c70 c71 c72 k (fun x1 x2 x3 x4 x5 x25 x26 x27 => r7_Problem.M_l0 c64 c27 c51 c65 c66 c67 c68 c69 c70 c71 c72 k m0  (r7_Problem.fr_l0 x1 x2 x3 x4 x5 x25 x26 x27)) n x1 x2 x3 x4 x5 x25 x26 x27 x121 x122 x123 := by
  induction n generalizing x1 x2 x3 x4 x5 x25 x26 x27 x121 x122 x123 with
  | zero => rw [r7_Problem.z_l4]; rfl
  | succ n ih =>
    rw [r7_Problem.r_l4]
    simp only [ih]
    rfl
theorem r7_Problem.e_l2 (c64 : r7_At.E) (c27 : r7_Begin.E) (c51 : r7_SameObject.E) (c65 : r7_shape.E) (c66 : r7_sizes.E) (c67 : r7_names.E) (c68 : r7_values.E) (c69 : r7_links.E) (c70 : r7_keyRule.E) (c71 : r7_orderOk.E) (c72 : sl_Clone_Value.E) (k n : Nat) (m0 : Nat) (x1 : List X_Object) (x2 : (Int) × (Int)) (x3 : List X_Object) (x4 : Int) (x5 : Int) (x6 : Int) (x7 : X_Object) (x25 : List X_Object) (x26 : Int) (x27 : Int) (x71 : List (Int)) (x72 : Int) (x73 : Int) : r7_Problem.M_l2 c64 c27 c51 c65 c66 c67 c68 c69 c70 c71 c72 k n m0 (r7_Problem.fr_l2 x1 x2 x3 x4 x5 x6 x7 x25 x26 x27 x71 x72 x73) = r7_Problem.l2 c64 c27 c51 c65 c66 c67 c68 c69 c70 c71 c72 k (fun x1 x2 x3 x4 x5 x25 x26 x27 => r7_Problem.M_l0 c64 c27 c51 c65 c66 c67 c68 c69 c70 c71 c72 k m0  (r7_Problem.fr_l0 x1 x2 x3 x4 x5 x25 x26 x27)) n x1 x2 x3 x4 x5 x6 x7 x25 x26 x27 x71 x72 x73 := by
  induction n generalizing x1 x2 x3 x4 x5 x6 x7 x25 x26 x27 x71 x72 x73 with
  | zero => rw [r7_Problem.z_l2]; rfl
  | succ n ih =>
    rw [r7_Problem.r_l2]
    simp only [r7_Problem.e_l4, ih]
    rfl
theorem r7_Problem.e_l0 (c64 : r7_At.E) (c27 : r7_Begin.E) (c51 : r7_SameObject.E) (c65 : r7_shape.E) (c66 : r7_sizes.E) (c67 : r7_names.E) (c68 : r7_values.E) (c69 : r7_links.E) (c70 : r7_keyRule.E) (c71 : r7_orderOk.E) (c72 : sl_Clone_Value.E) (k n : Nat)  (x1 : List X_Object) (x2 : (Int) × (Int)) (x3 : List X_Object) (x4 : Int) (x5 : Int) (x25 : List X_Object) (x26 : Int) (x27 : Int) : r7_Problem.M_l0 c64 c27 c51 c65 c66 c67 c68 c69 c70 c71 c72 k n  (r7_Problem.fr_l0 x1 x2 x3 x4 x5 x25 x26 x27) = r7_Problem.l0 c64 c27 c51 c65 c66 c67 c68 c69 c70 c71 c72 k  n x1 x2 x3 x4 x5 x25 x26 x27 := by
  induction n generalizing x1 x2 x3 x4 x5 x25 x26 x27 with
  | zero => rw [r7_Problem.z_l0]; rfl
  | succ n ih =>
    rw [r7_Problem.r_l0]
    simp only [r7_Problem.e_l2, ih]
    rfl
theorem r7_Problem.e (c64 : r7_At.E) (c27 : r7_Begin.E) (c51 : r7_SameObject.E) (c65 : r7_shape.E) (c66 : r7_sizes.E) (c67 : r7_names.E) (c68 : r7_values.E) (c69 : r7_links.E) (c70 : r7_keyRule.E) (c71 : r7_orderOk.E) (c72 : sl_Clone_Value.E) (k : Nat) (a0 : List X_Object) : fn (r7_Problem.C c64 c27 c51 c65 c66 c67 c68 c69 c70 c71 c72) k Tryz.f39 r7_Problem.A r7_Problem.R a0 = r7_Problem.f c64 c27 c51 c65 c66 c67 c68 c69 c70 c71 c72 k a0 := by
  rw [r7_Problem.r]
  simp only [r7_Problem.e_l0]
  rfl
theorem r7_Problem.ty (c64 : r7_At.E) (c27 : r7_Begin.E) (c51 : r7_SameObject.E) (c65 : r7_shape.E) (c66 : r7_sizes.E) (c67 : r7_names.E) (c68 : r7_values.E) (c69 : r7_links.E) (c70 : r7_keyRule.E) (c71 : r7_orderOk.E) (c72 : sl_Clone_Value.E) : TyOk Tryz.prog (r7_Problem.C c64 c27 c51 c65 c66 c67 c68 c69 c70 c71 c72) := tyOk_of (by kernel_rfl)
def r7_Problem.u (k : Nat) : r7_Problem.E := fun y => r7_Problem.f (r7_At.u k) (r7_Begin.u k) (r7_SameObject.u k) (r7_shape.u k) (r7_sizes.u k) (r7_names.u k) (r7_values.u k) (r7_links.u k) (r7_keyRule.u k) (r7_orderOk.u k) (sl_Clone_Value.u k) k y
theorem r7_Problem.sound (k : Nat) : Sound Tryz.prog ⟨39, r7_Problem.A, r7_Problem.R, r7_Problem.u k⟩ := by
  have h := fn_sound (k := k) («as» := r7_Problem.A) (rs := r7_Problem.R) (r7_Problem.ty (r7_At.u k) (r7_Begin.u k) (r7_SameObject.u k) (r7_shape.u k) (r7_sizes.u k) (r7_names.u k) (r7_values.u k) (r7_links.u k) (r7_keyRule.u k) (r7_orderOk.u k) (sl_Clone_Value.u k)) (fun E h => by
    simp only [r7_Problem.C, List.mem_cons, List.not_mem_nil, or_false] at h
    rcases h with rfl | rfl | rfl | rfl | rfl | rfl | rfl | rfl | rfl | rfl | rfl
    · exact r7_At.sound k
    · exact r7_Begin.sound k
    · exact r7_SameObject.sound k
    · exact r7_shape.sound k
    · exact r7_sizes.sound k
    · exact r7_names.sound k
    · exact r7_values.sound k
    · exact r7_links.sound k
    · exact r7_keyRule.sound k
    · exact r7_orderOk.sound k
    · exact sl_Clone_Value.sound k) mixed Tryz.func39 (by kernel_rfl) (by kernel_rfl)
  have e : fn (r7_Problem.C (r7_At.u k) (r7_Begin.u k) (r7_SameObject.u k) (r7_shape.u k) (r7_sizes.u k) (r7_names.u k) (r7_values.u k) (r7_links.u k) (r7_keyRule.u k) (r7_orderOk.u k) (sl_Clone_Value.u k)) k Tryz.f39 r7_Problem.A r7_Problem.R = r7_Problem.u k := by
    funext y
    exact r7_Problem.e (r7_At.u k) (r7_Begin.u k) (r7_SameObject.u k) (r7_shape.u k) (r7_sizes.u k) (r7_names.u k) (r7_values.u k) (r7_links.u k) (r7_keyRule.u k) (r7_orderOk.u k) (sl_Clone_Value.u k) k y
  rw [e] at h
  exact h
/-! ### brindlewood/brindlewoodref7.Has: f40 -/
abbrev r7_Has.A : List Sh := [(.d Y_Heap), (.d Y_Value)]
abbrev r7_Has.R : List Sh := [(.d .bool)]
abbrev r7_Has.E : Type := ((List X_Object) × X_Value) → Option (Bool)
def r7_Has.C (c73 : r7_ValueOk.E) (c7 : r7_IsObject.E) : Ctx := { ty := [(3, (.int .i64)), (24, Y_Heap), (29, Y_Value)], nf := [(29, 5)], by_ := [], env := [⟨73, r7_ValueOk.A, r7_ValueOk.R, c73⟩, ⟨7, r7_IsObject.A, r7_IsObject.R, c7⟩], spec := [] }
noncomputable def r7_Has.code : Code := Func.code Tryz.f40
noncomputable def r7_Has.fin (c73 : r7_ValueOk.E) (c7 : r7_IsObject.E) := kfin (r7_Has.C c73 c7) Tryz.f40 r7_Has.A r7_Has.R
def r7_Has.b (c73 : r7_ValueOk.E) (c7 : r7_IsObject.E)  (a0 : List X_Object) (a1 : X_Value) : Option (Bool) :=
  (c73 a1).bind fun y1 =>
    bif y1 then
      bif (a1.1 != (6 : Int)) then
        some true
      else
        (c7 (a0, a1.2.2.2.2)).bind fun y2 =>
          some y2
    else
      some false
def r7_Has.f (c73 : r7_ValueOk.E) (c7 : r7_IsObject.E) (k : Nat) (a0 : List X_Object) (a1 : X_Value) : Option (Bool) := r7_Has.b c73 c7  a0 a1
theorem r7_Has.r (c73 : r7_ValueOk.E) (c7 : r7_IsObject.E) (k : Nat) (a0 : List X_Object) (a1 : X_Value) : fn (r7_Has.C c73 c7) k Tryz.f40 r7_Has.A r7_Has.R (a0, a1) = r7_Has.b c73 c7  a0 a1 := by kernel_rfl
theorem r7_Has.e (c73 : r7_ValueOk.E) (c7 : r7_IsObject.E) (k : Nat) (a0 : List X_Object) (a1 : X_Value) : fn (r7_Has.C c73 c7) k Tryz.f40 r7_Has.A r7_Has.R (a0, a1) = r7_Has.f c73 c7 k a0 a1 := by
  rw [r7_Has.r]
  rfl
theorem r7_Has.ty (c73 : r7_ValueOk.E) (c7 : r7_IsObject.E) : TyOk Tryz.prog (r7_Has.C c73 c7) := tyOk_of (by kernel_rfl)
def r7_Has.u (k : Nat) : r7_Has.E := fun y => r7_Has.f (r7_ValueOk.u k) (r7_IsObject.u k) k y.1 y.2
theorem r7_Has.sound (k : Nat) : Sound Tryz.prog ⟨40, r7_Has.A, r7_Has.R, r7_Has.u k⟩ := by
  have h := fn_sound (k := k) («as» := r7_Has.A) (rs := r7_Has.R) (r7_Has.ty (r7_ValueOk.u k) (r7_IsObject.u k)) (fun E h => by
    simp only [r7_Has.C, List.mem_cons, List.not_mem_nil, or_false] at h
    rcases h with rfl | rfl
    · exact r7_ValueOk.sound k
    · exact r7_IsObject.sound k) mixed Tryz.func40 (by kernel_rfl) (by kernel_rfl)
  have e : fn (r7_Has.C (r7_ValueOk.u k) (r7_IsObject.u k)) k Tryz.f40 r7_Has.A r7_Has.R = r7_Has.u k := by
    funext y
    exact r7_Has.e (r7_ValueOk.u k) (r7_IsObject.u k) k y.1 y.2
  rw [e] at h
  exact h
/-! ### brindlewood/brindlewoodref7.Usable: f6 -/
abbrev r7_Usable.A : List Sh := [(.d Y_Heap), (.d (.sl 29 Y_Value))]
abbrev r7_Usable.R : List Sh := [(.d .bool)]
abbrev r7_Usable.E : Type := ((List X_Object) × (List X_Value)) → Option (Bool)
def r7_Usable.C (c39 : r7_Problem.E) (c40 : r7_Has.E) : Ctx := { ty := [(3, (.int .i64)), (24, Y_Heap), (29, Y_Value), (34, (.sl 29 Y_Value)), (64, Y_Fault)], nf := [(64, 2)], by_ := [(29, 96)], env := [⟨39, r7_Problem.A, r7_Problem.R, c39⟩, ⟨40, r7_Has.A, r7_Has.R, c40⟩], spec := [(0, [.bx 2 600002 (.d Y_Heap), .d 11 (.sl 29 Y_Value), .d 12 (.int .i64), .d 13 (.int .i64)])] }
noncomputable def r7_Usable.code : Code := Func.code Tryz.f6
noncomputable def r7_Usable.fin (c39 : r7_Problem.E) (c40 : r7_Has.E) := kfin (r7_Usable.C c39 c40) Tryz.f6 r7_Usable.A r7_Usable.R
def r7_Usable.b (c39 : r7_Problem.E) (c40 : r7_Has.E) (r_l0 : (List X_Object) → (List X_Value) → (Int) → (Int) → Option (Bool)) (a0 : List X_Object) (a1 : List X_Value) : Option (Bool) :=
  (c39 a0).bind fun y1 =>
    bif (y1.1 != (0 : Int)) then
      some false
    else
      r_l0 a0 a1 ((List.length a1) : Int) (0 : Int)
def r7_Usable.b_l0 (c39 : r7_Problem.E) (c40 : r7_Has.E) (n_l0 : (List X_Object) → (List X_Value) → (Int) → (Int) → Option (Bool)) (x2 : List X_Object) (x11 : List X_Value) (x12 : Int) (x13 : Int) : Option (Bool) :=
  bif (decide (x13 < x12)) then
    if 0 ≤ x13 ∧ x13 < ((List.length x11) : Int) then
      (c40 (x2, (List.getD x11 (Int.toNat x13) Z_Value))).bind fun y2 =>
        bif (!y2) then
          some false
        else
          n_l0 x2 x11 x12 (IntKind.i64.wrap (x13 + (1 : Int)))
    else none
  else
    some true
def r7_Usable.c_l0 (c39 : r7_Problem.E) (c40 : r7_Has.E) (n_l0 : (List X_Object) → (List X_Value) → (Int) → (Int) → Option (Bool)) (x2 : List X_Object) (x11 : List X_Value) (x12 : Int) (x13 : Int) : Option (Bool) :=
  bif (decide (x13 < x12)) then
    if 0 ≤ x13 ∧ x13 < ((List.length x11) : Int) then
      (c40 (x2, (List.getD x11 (Int.toNat x13) Z_Value))).bind fun y2 =>
        bif !y2 then
          some false
        else
          n_l0 x2 x11 x12 (IntKind.i64.wrap (x13 + (1 : Int)))
    else none
  else
    some true
theorem r7_Usable.q_l0 (c39 : r7_Problem.E) (c40 : r7_Has.E) (n_l0 : (List X_Object) → (List X_Value) → (Int) → (Int) → Option (Bool)) (x2 : List X_Object) (x11 : List X_Value) (x12 : Int) (x13 : Int) : r7_Usable.b_l0 c39 c40 n_l0 x2 x11 x12 x13 = r7_Usable.c_l0 c39 c40 n_l0 x2 x11 x12 x13 := by
  simp only [r7_Usable.b_l0, r7_Usable.c_l0, List.take_length, take_one, Nat.zero_add, Int.toNat_natCast, Int.toNat_zero, List.drop_zero, List.append_eq, Nat.le_refl, Int.le_refl, true_and, and_true, zero_le_one, if_true, prod_eta, Int.natCast_zero]
def r7_Usable.l0 (c39 : r7_Problem.E) (c40 : r7_Has.E) (k : Nat)  : Nat → (List X_Object) → (List X_Value) → (Int) → (Int) → Option (Bool)
  | 0, _, _, _, _ => none
  | n + 1, x2, x11, x12, x13 => r7_Usable.b_l0 c39 c40 (fun x2 x11 x12 x13 => r7_Usable.l0 c39 c40 k  n x2 x11 x12 x13) x2 x11 x12 x13
def r7_Usable.f (c39 : r7_Problem.E) (c40 : r7_Has.E) (k : Nat) (a0 : List X_Object) (a1 : List X_Value) : Option (Bool) := r7_Usable.b c39 c40 (r7_Usable.l0 c39 c40 k k) a0 a1
noncomputable def r7_Usable.M_l0 (c39 : r7_Problem.E) (c40 : r7_Has.E) (k n : Nat)  (s : St) : Option (Bool) := atLoop (r7_Usable.C c39 c40) k n [1, 1, 0, 1, 0] [] r7_Usable.code (r7_Usable.fin c39 c40) s
noncomputable def r7_Usable.fr_l0 (x2 : List X_Object) (x11 : List X_Value) (x12 : Int) (x13 : Int) : St := ⟨(((((List.replicate 22 V.un).set 2 (V.bp 600002 0 [])).set 11 (V.dat (.sl 29 Y_Value) x11)).set 12 (V.dat (.int .i64) x12)).set 13 (V.dat (.int .i64) x13)), [⟨600002, 0, .box (V.dat Y_Heap x2)⟩]⟩
theorem r7_Usable.r (c39 : r7_Problem.E) (c40 : r7_Has.E) (k : Nat) (a0 : List X_Object) (a1 : List X_Value) : fn (r7_Usable.C c39 c40) k Tryz.f6 r7_Usable.A r7_Usable.R (a0, a1) = r7_Usable.b c39 c40 (fun x2 x11 x12 x13 => r7_Usable.M_l0 c39 c40 k k  (r7_Usable.fr_l0 x2 x11 x12 x13)) a0 a1 := by kernel_rfl
theorem r7_Usable.z_l0 (c39 : r7_Problem.E) (c40 : r7_Has.E) (k : Nat)  (s : St) : r7_Usable.M_l0 c39 c40 k 0  s = none := by kernel_rfl
theorem r7_Usable.r_l0 (c39 : r7_Problem.E) (c40 : r7_Has.E) (k n : Nat)  (x2 : List X_Object) (x11 : List X_Value) (x12 : Int) (x13 : Int) : r7_Usable.M_l0 c39 c40 k (n + 1)  (r7_Usable.fr_l0 x2 x11 x12 x13) = r7_Usable.b_l0 c39 c40 (fun x2 x11 x12 x13 => r7_Usable.M_l0 c39 c40 k n  (r7_Usable.fr_l0 x2 x11 x12 x13)) x2 x11 x12 x13 := by kernel_rfl
theorem r7_Usable.e_l0 (c39 : r7_Problem.E) (c40 : r7_Has.E) (k n : Nat)  (x2 : List X_Object) (x11 : List X_Value) (x12 : Int) (x13 : Int) : r7_Usable.M_l0 c39 c40 k n  (r7_Usable.fr_l0 x2 x11 x12 x13) = r7_Usable.l0 c39 c40 k  n x2 x11 x12 x13 := by
  induction n generalizing x2 x11 x12 x13 with
  | zero => rw [r7_Usable.z_l0]; rfl
  | succ n ih =>
    rw [r7_Usable.r_l0]
    simp only [ih]
    rfl
theorem r7_Usable.e (c39 : r7_Problem.E) (c40 : r7_Has.E) (k : Nat) (a0 : List X_Object) (a1 : List X_Value) : fn (r7_Usable.C c39 c40) k Tryz.f6 r7_Usable.A r7_Usable.R (a0, a1) = r7_Usable.f c39 c40 k a0 a1 := by
  rw [r7_Usable.r]
  simp only [r7_Usable.e_l0]
  rfl
theorem r7_Usable.ty (c39 : r7_Problem.E) (c40 : r7_Has.E) : TyOk Tryz.prog (r7_Usable.C c39 c40) := tyOk_of (by kernel_rfl)
def r7_Usable.u (k : Nat) : r7_Usable.E := fun y => r7_Usable.f (r7_Problem.u k) (r7_Has.u k) k y.1 y.2
theorem r7_Usable.sound (k : Nat) : Sound Tryz.prog ⟨6, r7_Usable.A, r7_Usable.R, r7_Usable.u k⟩ := by
  have h := fn_sound (k := k) («as» := r7_Usable.A) (rs := r7_Usable.R) (r7_Usable.ty (r7_Problem.u k) (r7_Has.u k)) (fun E h => by
    simp only [r7_Usable.C, List.mem_cons, List.not_mem_nil, or_false] at h
    rcases h with rfl | rfl
    · exact r7_Problem.sound k
    · exact r7_Has.sound k) mixed Tryz.func6 (by kernel_rfl) (by kernel_rfl)
  have e : fn (r7_Usable.C (r7_Problem.u k) (r7_Has.u k)) k Tryz.f6 r7_Usable.A r7_Usable.R = r7_Usable.u k := by
    funext y
    exact r7_Usable.e (r7_Problem.u k) (r7_Has.u k) k y.1 y.2
  rw [e] at h
  exact h
end
end Go.Ab
