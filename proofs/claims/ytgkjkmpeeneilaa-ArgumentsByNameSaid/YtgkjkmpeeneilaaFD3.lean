/- A part of the proof: FD3. -/
import Derived.Test.YtgkjkmpeeneilaaFTy
import Derived.Test.YtgkjkmpeeneilaaFD1
import Derived.Test.YtgkjkmpeeneilaaFD2
namespace Go.Ab
set_option linter.unusedVariables false
set_option linter.unusedSimpArgs false
set_option maxRecDepth 100000
noncomputable section
open Go.Proofs
/-! ### brindlewood/brindlewoodref7.Bound: f21 -/
abbrev f_ref7_Bound.A : List Sh := [(.d (.sl 51 Y_Param)), (.d (.sl 58 Y_Value)), (.d Y_Arguments), (.d .str)]
abbrev f_ref7_Bound.R : List Sh := [(.d Y_Bound), (.d .str)]
abbrev f_ref7_Bound.E : Type := ((List X_Param) × ((List X_Value) × (X_Arguments × (List UInt8)))) → Option (X_Bound × (List UInt8))
def f_ref7_Bound.C (c51 : f_ref7_HasString.E) (c52 : f_slices_Index_string.E) : Ctx := { ty := [(3, (.int .i64)), (9, .str), (25, (.sl 51 Y_Param)), (36, (.sl 58 Y_Value)), (37, (.sl 9 .str)), (39, Y_Arguments), (41, Y_Bound), (49, (.sl 132 (.blob 15))), (51, Y_Param), (58, Y_Value)], nf := [(39, 3), (41, 4), (51, 3), (58, 5)], by_ := [(9, 16), (51, 48), (58, 96), (132, 232)], env := [⟨51, f_ref7_HasString.A, f_ref7_HasString.R, c51⟩, ⟨52, f_slices_Index_string.A, f_slices_Index_string.R, c52⟩], spec := [(0, [.d 0 (.sl 51 Y_Param), .d 1 (.sl 58 Y_Value), .d 3 .str, .bx 6 600006 (.d Y_Arguments), .bx 8 600008 (.pair (.o 58 Y_Value) (.pair (.o 58 Y_Value) (.pair (.o 9 .str) (.o 58 Y_Value)))), .d 10 (.int .i64), .d 11 .bool, .d 12 .bool, .d 30 (.sl 51 Y_Param), .d 31 (.int .i64), .d 32 (.int .i64)]), (3, [.d 0 (.sl 51 Y_Param), .d 1 (.sl 58 Y_Value), .d 3 .str, .bx 6 600006 (.d Y_Arguments), .bx 8 600008 (.pair (.o 58 Y_Value) (.pair (.o 58 Y_Value) (.pair (.o 9 .str) (.o 58 Y_Value)))), .d 10 (.int .i64), .d 12 .bool, .o 15 500015 9 .str, .o 16 500016 58 Y_Value, .d 68 (.sl 51 Y_Param), .d 69 (.int .i64), .d 70 (.int .i64)]), (5, [.d 0 (.sl 51 Y_Param), .d 1 (.sl 58 Y_Value), .d 3 .str, .bx 6 600006 (.d Y_Arguments), .bx 8 600008 (.pair (.o 58 Y_Value) (.pair (.o 58 Y_Value) (.pair (.o 9 .str) (.o 58 Y_Value)))), .d 12 .bool, .o 15 500015 9 .str, .o 16 500016 58 Y_Value, .bx 19 600019 (.pair (.o 58 Y_Value) (.pair (.o 58 Y_Value) (.pair (.o 9 .str) (.o 58 Y_Value)))), .d 113 (.sl 9 .str), .d 114 (.int .i64), .d 115 (.int .i64)]), (7, [.d 0 (.sl 51 Y_Param), .d 1 (.sl 58 Y_Value), .d 3 .str, .bx 6 600006 (.d Y_Arguments), .bx 8 600008 (.pair (.o 58 Y_Value) (.pair (.o 58 Y_Value) (.pair (.o 9 .str) (.o 58 Y_Value)))), .d 12 .bool, .o 15 500015 9 .str, .o 16 500016 58 Y_Value, .bx 19 600019 (.pair (.o 58 Y_Value) (.pair (.o 58 Y_Value) (.pair (.o 9 .str) (.o 58 Y_Value)))), .d 20 (.int .i64), .d 21 .str, .d 22 .bool, .d 113 (.sl 9 .str), .d 114 (.int .i64), .d 115 (.int .i64), .d 129 (.sl 51 Y_Param), .d 130 (.int .i64), .d 131 (.int .i64)]), (100038, [.d 0 (.sl 51 Y_Param), .d 1 (.sl 58 Y_Value), .d 3 .str, .bx 6 600006 (.d Y_Arguments), .bx 8 600008 (.pair (.o 58 Y_Value) (.pair (.o 58 Y_Value) (.pair (.o 9 .str) (.o 58 Y_Value)))), .d 12 .bool, .o 15 500015 9 .str, .o 16 500016 58 Y_Value, .bx 19 600019 (.pair (.o 58 Y_Value) (.pair (.o 58 Y_Value) (.pair (.o 9 .str) (.o 58 Y_Value)))), .d 20 (.int .i64), .d 21 .str, .d 22 .bool, .d 113 (.sl 9 .str), .d 114 (.int .i64), .d 115 (.int .i64)]), (9, [.d 1 (.sl 58 Y_Value), .d 3 .str, .bx 8 600008 (.pair (.o 58 Y_Value) (.pair (.o 58 Y_Value) (.pair (.o 9 .str) (.o 58 Y_Value)))), .o 15 500015 9 .str, .o 16 500016 58 Y_Value, .bx 19 600019 (.pair (.o 58 Y_Value) (.pair (.o 58 Y_Value) (.pair (.o 9 .str) (.o 58 Y_Value)))), .d 25 (.int .i64), .d 196 (.sl 51 Y_Param), .d 197 (.int .i64), .d 198 (.int .i64)]), (100048, [.d 1 (.sl 58 Y_Value), .d 3 .str, .bx 8 600008 (.pair (.o 58 Y_Value) (.pair (.o 58 Y_Value) (.pair (.o 9 .str) (.o 58 Y_Value)))), .o 15 500015 9 .str, .o 16 500016 58 Y_Value, .bx 19 600019 (.pair (.o 58 Y_Value) (.pair (.o 58 Y_Value) (.pair (.o 9 .str) (.o 58 Y_Value)))), .d 25 (.int .i64), .bx 27 600027 (.d Y_Param), .bx 28 600028 (.pair (.d (.int .i64)) (.pair (.pair (.d .bool) (.o 113 (.int .u32))) (.pair (.pair (.d .bool) (.o 113 (.int .u32))) (.d (.pair .str (.int .i64)))))), .d 196 (.sl 51 Y_Param), .d 197 (.int .i64), .d 198 (.int .i64)]), (100054, [.d 1 (.sl 58 Y_Value), .d 3 .str, .bx 8 600008 (.pair (.o 58 Y_Value) (.pair (.o 58 Y_Value) (.pair (.o 9 .str) (.o 58 Y_Value)))), .o 15 500015 9 .str, .o 16 500016 58 Y_Value, .bx 19 600019 (.pair (.o 58 Y_Value) (.pair (.o 58 Y_Value) (.pair (.o 9 .str) (.o 58 Y_Value)))), .d 25 (.int .i64), .bx 27 600027 (.d Y_Param), .bx 28 600028 (.pair (.d (.int .i64)) (.pair (.pair (.d .bool) (.d (.sl 113 (.int .u32)))) (.pair (.pair (.d .bool) (.d (.sl 113 (.int .u32)))) (.d (.pair .str (.int .i64)))))), .d 196 (.sl 51 Y_Param), .d 197 (.int .i64), .d 198 (.int .i64)])] }
noncomputable def f_ref7_Bound.code : Code := Func.code Try.f21
noncomputable def f_ref7_Bound.fin (c51 : f_ref7_HasString.E) (c52 : f_slices_Index_string.E) := kfin (f_ref7_Bound.C c51 c52) Try.f21 f_ref7_Bound.A f_ref7_Bound.R
def f_ref7_Bound.b (c51 : f_ref7_HasString.E) (c52 : f_slices_Index_string.E) (r_l0 : (List X_Param) → (List X_Value) → (List UInt8) → X_Arguments → X_Bound → (Int) → (Bool) → (Bool) → (List X_Param) → (Int) → (Int) → Option (X_Bound × (List UInt8))) (a0 : List X_Param) (a1 : List X_Value) (a2 : (List X_Value) × ((List (List UInt8)) × (List X_Value))) (a3 : List UInt8) : Option (X_Bound × (List UInt8)) :=
  r_l0 a0 a1 a3 a2 (([] : List X_Value), (([] : List X_Value), (([] : List (List UInt8)), ([] : List X_Value)))) (0 : Int) false false a0 ((List.length a0) : Int) (0 : Int)
def f_ref7_Bound.b_l0 (c51 : f_ref7_HasString.E) (c52 : f_slices_Index_string.E) (n_l0 : (List X_Param) → (List X_Value) → (List UInt8) → X_Arguments → X_Bound → (Int) → (Bool) → (Bool) → (List X_Param) → (Int) → (Int) → Option (X_Bound × (List UInt8))) (r_l3 : (List X_Param) → (List X_Value) → (List UInt8) → X_Arguments → X_Bound → (Int) → (Bool) → (List (List UInt8)) → (List X_Value) → (List X_Param) → (Int) → (Int) → Option (X_Bound × (List UInt8))) (x0 : List X_Param) (x1 : List X_Value) (x3 : List UInt8) (x6 : (List X_Value) × ((List (List UInt8)) × (List X_Value))) (x8 : (List X_Value) × X_Arguments) (x10 : Int) (x11 : Bool) (x12 : Bool) (x30 : List X_Param) (x31 : Int) (x32 : Int) : Option (X_Bound × (List UInt8)) :=
  bif (decide (x32 < x31)) then
    if 0 ≤ x32 ∧ x32 < ((List.length x30) : Int) then
      bif (((List.getD x30 (Int.toNat x32) ((0 : Int), ([], []))).1) == (0 : Int)) then
        n_l0 x0 x1 x3 x6 ((List.take (List.length x8.1) x8.1), ((List.take (List.length x8.2.1) x8.2.1), ((List.take (List.length x8.2.2.1) x8.2.2.1), (List.take (List.length x8.2.2.2) x8.2.2.2)))) (IntKind.i64.wrap (x10 + (1 : Int))) x11 x12 x30 x31 (IntKind.i64.wrap (x32 + (1 : Int)))
      else
        bif (((List.getD x30 (Int.toNat x32) ((0 : Int), ([], []))).1) == (1 : Int)) then
          bif ((((List.getD x30 (Int.toNat x32) ((0 : Int), ([], []))).2).1) != []) then
            n_l0 x0 x1 x3 x6 ((List.take (List.length x8.1) x8.1), ((List.take (List.length x8.2.1) x8.2.1), ((List.take (List.length x8.2.2.1) x8.2.2.1), (List.take (List.length x8.2.2.2) x8.2.2.2)))) x10 true x12 x30 x31 (IntKind.i64.wrap (x32 + (1 : Int)))
          else
            bif (((List.getD x30 (Int.toNat x32) ((0 : Int), ([], []))).1) == (3 : Int)) then
              n_l0 x0 x1 x3 x6 ((List.take (List.length x8.1) x8.1), ((List.take (List.length x8.2.1) x8.2.1), ((List.take (List.length x8.2.2.1) x8.2.2.1), (List.take (List.length x8.2.2.2) x8.2.2.2)))) x10 x11 true x30 x31 (IntKind.i64.wrap (x32 + (1 : Int)))
            else
              n_l0 x0 x1 x3 x6 ((List.take (List.length x8.1) x8.1), ((List.take (List.length x8.2.1) x8.2.1), ((List.take (List.length x8.2.2.1) x8.2.2.1), (List.take (List.length x8.2.2.2) x8.2.2.2)))) x10 x11 x12 x30 x31 (IntKind.i64.wrap (x32 + (1 : Int)))
        else
          bif (((List.getD x30 (Int.toNat x32) ((0 : Int), ([], []))).1) == (3 : Int)) then
            n_l0 x0 x1 x3 x6 ((List.take (List.length x8.1) x8.1), ((List.take (List.length x8.2.1) x8.2.1), ((List.take (List.length x8.2.2.1) x8.2.2.1), (List.take (List.length x8.2.2.2) x8.2.2.2)))) x10 x11 true x30 x31 (IntKind.i64.wrap (x32 + (1 : Int)))
          else
            n_l0 x0 x1 x3 x6 ((List.take (List.length x8.1) x8.1), ((List.take (List.length x8.2.1) x8.2.1), ((List.take (List.length x8.2.2.1) x8.2.2.1), (List.take (List.length x8.2.2.2) x8.2.2.2)))) x10 x11 x12 x30 x31 (IntKind.i64.wrap (x32 + (1 : Int)))
    else none
  else
    bif (decide (((List.length x6.1) : Int) > x10)) then
      bif (!x11) then
        if (List.length x3) + (List.length [40, 41, 32, 103, 111, 116, 32, 116, 111, 111, 32, 109, 97, 110, 121, 32, 97, 114, 103, 117, 109, 101, 110, 116, 115]) ≤ 9223372036854775807 then
          some ((([] : List X_Value), (([] : List X_Value), (([] : List (List UInt8)), ([] : List X_Value)))), (x3 ++ [40, 41, 32, 103, 111, 116, 32, 116, 111, 111, 32, 109, 97, 110, 121, 32, 97, 114, 103, 117, 109, 101, 110, 116, 115]))
        else none
      else
        r_l3 x0 x1 x3 x6 ((List.take (List.length x8.1) x8.1), ((List.take (List.length x8.2.1) x8.2.1), ((List.take (List.length x8.2.2.1) x8.2.2.1), (List.take (List.length x8.2.2.2) x8.2.2.2)))) x10 x12 ([] : List (List UInt8)) ([] : List X_Value) x0 ((List.length x0) : Int) (0 : Int)
    else
      r_l3 x0 x1 x3 x6 ((List.take (List.length x8.1) x8.1), ((List.take (List.length x8.2.1) x8.2.1), ((List.take (List.length x8.2.2.1) x8.2.2.1), (List.take (List.length x8.2.2.2) x8.2.2.2)))) x10 x12 ([] : List (List UInt8)) ([] : List X_Value) x0 ((List.length x0) : Int) (0 : Int)
def f_ref7_Bound.b_l3 (c51 : f_ref7_HasString.E) (c52 : f_slices_Index_string.E) (n_l3 : (List X_Param) → (List X_Value) → (List UInt8) → X_Arguments → X_Bound → (Int) → (Bool) → (List (List UInt8)) → (List X_Value) → (List X_Param) → (Int) → (Int) → Option (X_Bound × (List UInt8))) (r_l5 : (List X_Param) → (List X_Value) → (List UInt8) → X_Arguments → X_Bound → (Bool) → (List (List UInt8)) → (List X_Value) → X_Bound → (List (List UInt8)) → (Int) → (Int) → Option (X_Bound × (List UInt8))) (x0 : List X_Param) (x1 : List X_Value) (x3 : List UInt8) (x6 : (List X_Value) × ((List (List UInt8)) × (List X_Value))) (x8 : (List X_Value) × X_Arguments) (x10 : Int) (x12 : Bool) (x15 : List (List UInt8)) (x16 : List X_Value) (x68 : List X_Param) (x69 : Int) (x70 : Int) : Option (X_Bound × (List UInt8)) :=
  bif (decide (x70 < x69)) then
    if 0 ≤ x70 ∧ x70 < ((List.length x68) : Int) then
      bif (decide (x70 < x10)) then
        bif (decide (x70 < ((List.length x6.1) : Int))) then
          if (List.length x15) ≤ (List.length x15) ∧ ((List.length x15) + (List.length (List.take 1 ([((List.getD x68 (Int.toNat x70) ((0 : Int), ([], []))).2).1] : List (List UInt8))))) * 16 ≤ LIM then
            if 0 ≤ x70 ∧ x70 < ((List.length x6.1) : Int) then
              if (List.length x16) ≤ (List.length x16) ∧ ((List.length x16) + (List.length (List.take 1 ([(List.getD x6.1 (Int.toNat x70) Z_Value)] : List X_Value)))) * 96 ≤ LIM then
                n_l3 x0 x1 x3 x6 ((List.take (List.length x8.1) x8.1), ((List.take (List.length x8.2.1) x8.2.1), ((List.take (List.length x8.2.2.1) x8.2.2.1), (List.take (List.length x8.2.2.2) x8.2.2.2)))) x10 x12 (List.take (List.length (List.append (List.take (List.length x15) x15) (List.take 1 ([((List.getD x68 (Int.toNat x70) ((0 : Int), ([], []))).2).1] : List (List UInt8))))) (List.append (List.take (List.length x15) x15) (List.take 1 ([((List.getD x68 (Int.toNat x70) ((0 : Int), ([], []))).2).1] : List (List UInt8))))) (List.take (List.length (List.append (List.take (List.length x16) x16) (List.take 1 ([(List.getD x6.1 (Int.toNat x70) Z_Value)] : List X_Value)))) (List.append (List.take (List.length x16) x16) (List.take 1 ([(List.getD x6.1 (Int.toNat x70) Z_Value)] : List X_Value)))) x68 x69 (IntKind.i64.wrap (x70 + (1 : Int)))
              else none
            else none
          else none
        else
          n_l3 x0 x1 x3 x6 ((List.take (List.length x8.1) x8.1), ((List.take (List.length x8.2.1) x8.2.1), ((List.take (List.length x8.2.2.1) x8.2.2.1), (List.take (List.length x8.2.2.2) x8.2.2.2)))) x10 x12 (List.take (List.length x15) x15) (List.take (List.length x16) x16) x68 x69 (IntKind.i64.wrap (x70 + (1 : Int)))
      else
        n_l3 x0 x1 x3 x6 ((List.take (List.length x8.1) x8.1), ((List.take (List.length x8.2.1) x8.2.1), ((List.take (List.length x8.2.2.1) x8.2.2.1), (List.take (List.length x8.2.2.2) x8.2.2.2)))) x10 x12 (List.take (List.length x15) x15) (List.take (List.length x16) x16) x68 x69 (IntKind.i64.wrap (x70 + (1 : Int)))
    else none
  else
    bif (decide (((List.length x6.1) : Int) > x10)) then
      if 0 ≤ x10 ∧ x10 ≤ ((List.length x6.1) : Int) ∧ ((List.length x6.1) : Int) ≤ ((List.length x6.1) : Int) then
        if (List.length (List.drop (Int.toNat x10) (List.take (Int.toNat ((List.length x6.1) : Int)) x6.1))) * 96 ≤ LIM then
          r_l5 x0 x1 x3 x6 ((List.take (List.length x8.1) x8.1), ((List.take (List.length x8.2.1) x8.2.1), ((List.take (List.length x8.2.2.1) x8.2.2.1), (List.take (List.length x8.2.2.2) x8.2.2.2)))) x12 (List.take (List.length x15) x15) (List.take (List.length x16) x16) (([] : List X_Value), ((List.take (List.length (List.drop (Int.toNat x10) (List.take (Int.toNat ((List.length x6.1) : Int)) x6.1))) (List.drop (Int.toNat x10) (List.take (Int.toNat ((List.length x6.1) : Int)) x6.1))), (([] : List (List UInt8)), ([] : List X_Value)))) x6.2.1 ((List.length x6.2.1) : Int) (0 : Int)
        else none
      else none
    else
      r_l5 x0 x1 x3 x6 ((List.take (List.length x8.1) x8.1), ((List.take (List.length x8.2.1) x8.2.1), ((List.take (List.length x8.2.2.1) x8.2.2.1), (List.take (List.length x8.2.2.2) x8.2.2.2)))) x12 (List.take (List.length x15) x15) (List.take (List.length x16) x16) (([] : List X_Value), (([] : List X_Value), (([] : List (List UInt8)), ([] : List X_Value)))) x6.2.1 ((List.length x6.2.1) : Int) (0 : Int)
def f_ref7_Bound.b_l5 (c51 : f_ref7_HasString.E) (c52 : f_slices_Index_string.E) (r_l7 : (List X_Param) → (List X_Value) → (List UInt8) → X_Arguments → X_Bound → (Bool) → (List (List UInt8)) → (List X_Value) → X_Bound → (Int) → (List UInt8) → (Bool) → (List (List UInt8)) → (Int) → (Int) → (List X_Param) → (Int) → (Int) → Option (X_Bound × (List UInt8))) (r_l9 : (List X_Value) → (List UInt8) → X_Bound → (List (List UInt8)) → (List X_Value) → X_Bound → (Int) → (List X_Param) → (Int) → (Int) → Option (X_Bound × (List UInt8))) (x0 : List X_Param) (x1 : List X_Value) (x3 : List UInt8) (x6 : (List X_Value) × ((List (List UInt8)) × (List X_Value))) (x8 : (List X_Value) × X_Arguments) (x12 : Bool) (x15 : List (List UInt8)) (x16 : List X_Value) (x19 : (List X_Value) × X_Arguments) (x113 : List (List UInt8)) (x114 : Int) (x115 : Int) : Option (X_Bound × (List UInt8)) :=
  bif (decide (x115 < x114)) then
    if 0 ≤ x115 ∧ x115 < ((List.length x113) : Int) then
      (c51 ((List.take (List.length x15) x15), (List.getD x113 (Int.toNat x115) []))).bind fun y1 =>
        bif y1 then
          if (List.length x3) + (List.length [40, 41, 32, 103, 111, 116, 32, 116, 119, 111, 32, 118, 97, 108, 117, 101, 115, 32, 102, 111, 114, 32, 39]) ≤ 9223372036854775807 then
            if (List.length (x3 ++ [40, 41, 32, 103, 111, 116, 32, 116, 119, 111, 32, 118, 97, 108, 117, 101, 115, 32, 102, 111, 114, 32, 39])) + (List.length (List.getD x113 (Int.toNat x115) [])) ≤ 9223372036854775807 then
              if (List.length ((x3 ++ [40, 41, 32, 103, 111, 116, 32, 116, 119, 111, 32, 118, 97, 108, 117, 101, 115, 32, 102, 111, 114, 32, 39]) ++ (List.getD x113 (Int.toNat x115) []))) + (List.length [39]) ≤ 9223372036854775807 then
                some ((([] : List X_Value), (([] : List X_Value), (([] : List (List UInt8)), ([] : List X_Value)))), (((x3 ++ [40, 41, 32, 103, 111, 116, 32, 116, 119, 111, 32, 118, 97, 108, 117, 101, 115, 32, 102, 111, 114, 32, 39]) ++ (List.getD x113 (Int.toNat x115) [])) ++ [39]))
              else none
            else none
          else none
        else
          r_l7 x0 x1 x3 x6 ((List.take (List.length x8.1) x8.1), ((List.take (List.length x8.2.1) x8.2.1), ((List.take (List.length x8.2.2.1) x8.2.2.1), (List.take (List.length x8.2.2.2) x8.2.2.2)))) x12 (List.take (List.length x15) x15) (List.take (List.length x16) x16) ((List.take (List.length x19.1) x19.1), ((List.take (List.length x19.2.1) x19.2.1), ((List.take (List.length x19.2.2.1) x19.2.2.1), (List.take (List.length x19.2.2.2) x19.2.2.2)))) x115 (List.getD x113 (Int.toNat x115) []) false x113 x114 x115 x0 ((List.length x0) : Int) (0 : Int)
    else none
  else
    r_l9 x1 x3 ((List.take (List.length x8.1) x8.1), ((List.take (List.length x8.2.1) x8.2.1), ((List.take (List.length x8.2.2.1) x8.2.2.1), (List.take (List.length x8.2.2.2) x8.2.2.2)))) (List.take (List.length x15) x15) (List.take (List.length x16) x16) ((List.take (List.length x19.1) x19.1), ((List.take (List.length x19.2.1) x19.2.1), ((List.take (List.length x19.2.2.1) x19.2.2.1), (List.take (List.length x19.2.2.2) x19.2.2.2)))) (0 : Int) x0 ((List.length x0) : Int) (0 : Int)
def f_ref7_Bound.b_l7 (c51 : f_ref7_HasString.E) (c52 : f_slices_Index_string.E) (n_l7 : (List X_Param) → (List X_Value) → (List UInt8) → X_Arguments → X_Bound → (Bool) → (List (List UInt8)) → (List X_Value) → X_Bound → (Int) → (List UInt8) → (Bool) → (List (List UInt8)) → (Int) → (Int) → (List X_Param) → (Int) → (Int) → Option (X_Bound × (List UInt8))) (r_g38 : (List X_Param) → (List X_Value) → (List UInt8) → X_Arguments → X_Bound → (Bool) → (List (List UInt8)) → (List X_Value) → X_Bound → (Int) → (List UInt8) → (Bool) → (List (List UInt8)) → (Int) → (Int) → Option (X_Bound × (List UInt8))) (x0 : List X_Param) (x1 : List X_Value) (x3 : List UInt8) (x6 : (List X_Value) × ((List (List UInt8)) × (List X_Value))) (x8 : (List X_Value) × X_Arguments) (x12 : Bool) (x15 : List (List UInt8)) (x16 : List X_Value) (x19 : (List X_Value) × X_Arguments) (x20 : Int) (x21 : List UInt8) (x22 : Bool) (x113 : List (List UInt8)) (x114 : Int) (x115 : Int) (x129 : List X_Param) (x130 : Int) (x131 : Int) : Option (X_Bound × (List UInt8)) :=
  bif (decide (x131 < x130)) then
    if 0 ≤ x131 ∧ x131 < ((List.length x129) : Int) then
      bif x22 then
        n_l7 x0 x1 x3 x6 ((List.take (List.length x8.1) x8.1), ((List.take (List.length x8.2.1) x8.2.1), ((List.take (List.length x8.2.2.1) x8.2.2.1), (List.take (List.length x8.2.2.2) x8.2.2.2)))) x12 (List.take (List.length x15) x15) (List.take (List.length x16) x16) ((List.take (List.length x19.1) x19.1), ((List.take (List.length x19.2.1) x19.2.1), ((List.take (List.length x19.2.2.1) x19.2.2.1), (List.take (List.length x19.2.2.2) x19.2.2.2)))) x20 x21 true x113 x114 x115 x129 x130 (IntKind.i64.wrap (x131 + (1 : Int)))
      else
        bif ((((List.getD x129 (Int.toNat x131) ((0 : Int), ([], []))).2).1) == x21) then
          bif (((List.getD x129 (Int.toNat x131) ((0 : Int), ([], []))).1) == (0 : Int)) then
            n_l7 x0 x1 x3 x6 ((List.take (List.length x8.1) x8.1), ((List.take (List.length x8.2.1) x8.2.1), ((List.take (List.length x8.2.2.1) x8.2.2.1), (List.take (List.length x8.2.2.2) x8.2.2.2)))) x12 (List.take (List.length x15) x15) (List.take (List.length x16) x16) ((List.take (List.length x19.1) x19.1), ((List.take (List.length x19.2.1) x19.2.1), ((List.take (List.length x19.2.2.1) x19.2.2.1), (List.take (List.length x19.2.2.2) x19.2.2.2)))) x20 x21 true x113 x114 x115 x129 x130 (IntKind.i64.wrap (x131 + (1 : Int)))
          else
            n_l7 x0 x1 x3 x6 ((List.take (List.length x8.1) x8.1), ((List.take (List.length x8.2.1) x8.2.1), ((List.take (List.length x8.2.2.1) x8.2.2.1), (List.take (List.length x8.2.2.2) x8.2.2.2)))) x12 (List.take (List.length x15) x15) (List.take (List.length x16) x16) ((List.take (List.length x19.1) x19.1), ((List.take (List.length x19.2.1) x19.2.1), ((List.take (List.length x19.2.2.1) x19.2.2.1), (List.take (List.length x19.2.2.2) x19.2.2.2)))) x20 x21 (((List.getD x129 (Int.toNat x131) ((0 : Int), ([], []))).1) == (2 : Int)) x113 x114 x115 x129 x130 (IntKind.i64.wrap (x131 + (1 : Int)))
        else
          n_l7 x0 x1 x3 x6 ((List.take (List.length x8.1) x8.1), ((List.take (List.length x8.2.1) x8.2.1), ((List.take (List.length x8.2.2.1) x8.2.2.1), (List.take (List.length x8.2.2.2) x8.2.2.2)))) x12 (List.take (List.length x15) x15) (List.take (List.length x16) x16) ((List.take (List.length x19.1) x19.1), ((List.take (List.length x19.2.1) x19.2.1), ((List.take (List.length x19.2.2.1) x19.2.2.1), (List.take (List.length x19.2.2.2) x19.2.2.2)))) x20 x21 false x113 x114 x115 x129 x130 (IntKind.i64.wrap (x131 + (1 : Int)))
    else none
  else
    bif (!x22) then
      bif (!x12) then
        if (List.length x3) + (List.length [40, 41, 32, 103, 111, 116, 32, 97, 110, 32, 117, 110, 107, 110, 111, 119, 110, 32, 97, 114, 103, 117, 109, 101, 110, 116, 32, 39]) ≤ 9223372036854775807 then
          if (List.length (x3 ++ [40, 41, 32, 103, 111, 116, 32, 97, 110, 32, 117, 110, 107, 110, 111, 119, 110, 32, 97, 114, 103, 117, 109, 101, 110, 116, 32, 39])) + (List.length x21) ≤ 9223372036854775807 then
            if (List.length ((x3 ++ [40, 41, 32, 103, 111, 116, 32, 97, 110, 32, 117, 110, 107, 110, 111, 119, 110, 32, 97, 114, 103, 117, 109, 101, 110, 116, 32, 39]) ++ x21)) + (List.length [39]) ≤ 9223372036854775807 then
              some ((([] : List X_Value), (([] : List X_Value), (([] : List (List UInt8)), ([] : List X_Value)))), (((x3 ++ [40, 41, 32, 103, 111, 116, 32, 97, 110, 32, 117, 110, 107, 110, 111, 119, 110, 32, 97, 114, 103, 117, 109, 101, 110, 116, 32, 39]) ++ x21) ++ [39]))
            else none
          else none
        else none
      else
        r_g38 x0 x1 x3 x6 ((List.take (List.length x8.1) x8.1), ((List.take (List.length x8.2.1) x8.2.1), ((List.take (List.length x8.2.2.1) x8.2.2.1), (List.take (List.length x8.2.2.2) x8.2.2.2)))) x12 (List.take (List.length x15) x15) (List.take (List.length x16) x16) ((List.take (List.length x19.1) x19.1), ((List.take (List.length x19.2.1) x19.2.1), ((List.take (List.length x19.2.2.1) x19.2.2.1), (List.take (List.length x19.2.2.2) x19.2.2.2)))) x20 x21 x22 x113 x114 x115
    else
      r_g38 x0 x1 x3 x6 ((List.take (List.length x8.1) x8.1), ((List.take (List.length x8.2.1) x8.2.1), ((List.take (List.length x8.2.2.1) x8.2.2.1), (List.take (List.length x8.2.2.2) x8.2.2.2)))) x12 (List.take (List.length x15) x15) (List.take (List.length x16) x16) ((List.take (List.length x19.1) x19.1), ((List.take (List.length x19.2.1) x19.2.1), ((List.take (List.length x19.2.2.1) x19.2.2.1), (List.take (List.length x19.2.2.2) x19.2.2.2)))) x20 x21 x22 x113 x114 x115
def f_ref7_Bound.b_g38 (c51 : f_ref7_HasString.E) (c52 : f_slices_Index_string.E) (n_l5 : (List X_Param) → (List X_Value) → (List UInt8) → X_Arguments → X_Bound → (Bool) → (List (List UInt8)) → (List X_Value) → X_Bound → (List (List UInt8)) → (Int) → (Int) → Option (X_Bound × (List UInt8))) (x0 : List X_Param) (x1 : List X_Value) (x3 : List UInt8) (x6 : (List X_Value) × ((List (List UInt8)) × (List X_Value))) (x8 : (List X_Value) × X_Arguments) (x12 : Bool) (x15 : List (List UInt8)) (x16 : List X_Value) (x19 : (List X_Value) × X_Arguments) (x20 : Int) (x21 : List UInt8) (x22 : Bool) (x113 : List (List UInt8)) (x114 : Int) (x115 : Int) : Option (X_Bound × (List UInt8)) :=
  if (List.length x15) ≤ (List.length x15) ∧ ((List.length x15) + (List.length (List.take 1 ([x21] : List (List UInt8))))) * 16 ≤ LIM then
    if 0 ≤ x20 ∧ x20 < ((List.length x6.2.2) : Int) then
      if (List.length x16) ≤ (List.length x16) ∧ ((List.length x16) + (List.length (List.take 1 ([(List.getD x6.2.2 (Int.toNat x20) Z_Value)] : List X_Value)))) * 96 ≤ LIM then
        bif (!x22) then
          if (List.length x19.2.2.1) ≤ (List.length x19.2.2.1) ∧ ((List.length x19.2.2.1) + (List.length (List.take 1 ([x21] : List (List UInt8))))) * 16 ≤ LIM then
            if 0 ≤ x20 ∧ x20 < ((List.length x6.2.2) : Int) then
              if (List.length x19.2.2.2) ≤ (List.length x19.2.2.2) ∧ ((List.length x19.2.2.2) + (List.length (List.take 1 ([(List.getD x6.2.2 (Int.toNat x20) Z_Value)] : List X_Value)))) * 96 ≤ LIM then
                n_l5 x0 x1 x3 x6 ((List.take (List.length x8.1) x8.1), ((List.take (List.length x8.2.1) x8.2.1), ((List.take (List.length x8.2.2.1) x8.2.2.1), (List.take (List.length x8.2.2.2) x8.2.2.2)))) x12 (List.take (List.length (List.append (List.take (List.length x15) x15) (List.take 1 ([x21] : List (List UInt8))))) (List.append (List.take (List.length x15) x15) (List.take 1 ([x21] : List (List UInt8))))) (List.take (List.length (List.append (List.take (List.length x16) x16) (List.take 1 ([(List.getD x6.2.2 (Int.toNat x20) Z_Value)] : List X_Value)))) (List.append (List.take (List.length x16) x16) (List.take 1 ([(List.getD x6.2.2 (Int.toNat x20) Z_Value)] : List X_Value)))) ((List.take (List.length x19.1) x19.1), ((List.take (List.length x19.2.1) x19.2.1), ((List.take (List.length (List.append (List.take (List.length x19.2.2.1) x19.2.2.1) (List.take 1 ([x21] : List (List UInt8))))) (List.append (List.take (List.length x19.2.2.1) x19.2.2.1) (List.take 1 ([x21] : List (List UInt8))))), (List.take (List.length (List.append (List.take (List.length x19.2.2.2) x19.2.2.2) (List.take 1 ([(List.getD x6.2.2 (Int.toNat x20) Z_Value)] : List X_Value)))) (List.append (List.take (List.length x19.2.2.2) x19.2.2.2) (List.take 1 ([(List.getD x6.2.2 (Int.toNat x20) Z_Value)] : List X_Value))))))) x113 x114 (IntKind.i64.wrap (x115 + (1 : Int)))
              else none
            else none
          else none
        else
          n_l5 x0 x1 x3 x6 ((List.take (List.length x8.1) x8.1), ((List.take (List.length x8.2.1) x8.2.1), ((List.take (List.length x8.2.2.1) x8.2.2.1), (List.take (List.length x8.2.2.2) x8.2.2.2)))) x12 (List.take (List.length (List.append (List.take (List.length x15) x15) (List.take 1 ([x21] : List (List UInt8))))) (List.append (List.take (List.length x15) x15) (List.take 1 ([x21] : List (List UInt8))))) (List.take (List.length (List.append (List.take (List.length x16) x16) (List.take 1 ([(List.getD x6.2.2 (Int.toNat x20) Z_Value)] : List X_Value)))) (List.append (List.take (List.length x16) x16) (List.take 1 ([(List.getD x6.2.2 (Int.toNat x20) Z_Value)] : List X_Value)))) ((List.take (List.length x19.1) x19.1), ((List.take (List.length x19.2.1) x19.2.1), ((List.take (List.length x19.2.2.1) x19.2.2.1), (List.take (List.length x19.2.2.2) x19.2.2.2)))) x113 x114 (IntKind.i64.wrap (x115 + (1 : Int)))
      else none
    else none
  else none
def f_ref7_Bound.b_l9 (c51 : f_ref7_HasString.E) (c52 : f_slices_Index_string.E) (r_g48 : (List X_Value) → (List UInt8) → X_Bound → (List (List UInt8)) → (List X_Value) → X_Bound → (Int) → X_Param → X_Value → (List X_Param) → (Int) → (Int) → Option (X_Bound × (List UInt8))) (r_g54 : (List X_Value) → (List UInt8) → X_Bound → (List (List UInt8)) → (List X_Value) → X_Bound → (Int) → X_Param → X_Value → (List X_Param) → (Int) → (Int) → Option (X_Bound × (List UInt8))) (x1 : List X_Value) (x3 : List UInt8) (x8 : (List X_Value) × X_Arguments) (x15 : List (List UInt8)) (x16 : List X_Value) (x19 : (List X_Value) × X_Arguments) (x25 : Int) (x196 : List X_Param) (x197 : Int) (x198 : Int) : Option (X_Bound × (List UInt8)) :=
  bif (decide (x198 < x197)) then
    if 0 ≤ x198 ∧ x198 < ((List.length x196) : Int) then
      bif (((List.getD x196 (Int.toNat x198) ((0 : Int), ([], []))).1) == (0 : Int)) then
        r_g48 x1 x3 ((List.take (List.length x8.1) x8.1), ((List.take (List.length x8.2.1) x8.2.1), ((List.take (List.length x8.2.2.1) x8.2.2.1), (List.take (List.length x8.2.2.2) x8.2.2.2)))) (List.take (List.length x15) x15) (List.take (List.length x16) x16) ((List.take (List.length x19.1) x19.1), ((List.take (List.length x19.2.1) x19.2.1), ((List.take (List.length x19.2.2.1) x19.2.2.1), (List.take (List.length x19.2.2.2) x19.2.2.2)))) x25 (List.getD x196 (Int.toNat x198) ((0 : Int), ([], []))) ((9 : Int), ((false, ([] : List (Int))), ((false, ([] : List (Int))), ([], (0 : Int))))) x196 x197 x198
      else
        bif (((List.getD x196 (Int.toNat x198) ((0 : Int), ([], []))).1) == (2 : Int)) then
          r_g48 x1 x3 ((List.take (List.length x8.1) x8.1), ((List.take (List.length x8.2.1) x8.2.1), ((List.take (List.length x8.2.2.1) x8.2.2.1), (List.take (List.length x8.2.2.2) x8.2.2.2)))) (List.take (List.length x15) x15) (List.take (List.length x16) x16) ((List.take (List.length x19.1) x19.1), ((List.take (List.length x19.2.1) x19.2.1), ((List.take (List.length x19.2.2.1) x19.2.2.1), (List.take (List.length x19.2.2.2) x19.2.2.2)))) x25 (List.getD x196 (Int.toNat x198) ((0 : Int), ([], []))) ((9 : Int), ((false, ([] : List (Int))), ((false, ([] : List (Int))), ([], (0 : Int))))) x196 x197 x198
        else
          r_g54 x1 x3 ((List.take (List.length x8.1) x8.1), ((List.take (List.length x8.2.1) x8.2.1), ((List.take (List.length x8.2.2.1) x8.2.2.1), (List.take (List.length x8.2.2.2) x8.2.2.2)))) (List.take (List.length x15) x15) (List.take (List.length x16) x16) ((List.take (List.length x19.1) x19.1), ((List.take (List.length x19.2.1) x19.2.1), ((List.take (List.length x19.2.2.1) x19.2.2.1), (List.take (List.length x19.2.2.2) x19.2.2.2)))) x25 (List.getD x196 (Int.toNat x198) ((0 : Int), ([], []))) ((9 : Int), ((false, ([] : List (Int))), ((false, ([] : List (Int))), ([], (0 : Int))))) x196 x197 x198
    else none
  else
    some (((List.take (List.length x19.1) x19.1), ((List.take (List.length x19.2.1) x19.2.1), ((List.take (List.length x19.2.2.1) x19.2.2.1), (List.take (List.length x19.2.2.2) x19.2.2.2)))), [])
def f_ref7_Bound.b_g48 (c51 : f_ref7_HasString.E) (c52 : f_slices_Index_string.E) (r_g54 : (List X_Value) → (List UInt8) → X_Bound → (List (List UInt8)) → (List X_Value) → X_Bound → (Int) → X_Param → X_Value → (List X_Param) → (Int) → (Int) → Option (X_Bound × (List UInt8))) (x1 : List X_Value) (x3 : List UInt8) (x8 : (List X_Value) × X_Arguments) (x15 : List (List UInt8)) (x16 : List X_Value) (x19 : (List X_Value) × X_Arguments) (x25 : Int) (x27 : (Int) × ((List UInt8) × (List (Unit)))) (x28 : (Int) × (X_Int × (X_Int × X_errorAddressString))) (x196 : List X_Param) (x197 : Int) (x198 : Int) : Option (X_Bound × (List UInt8)) :=
  (c52 ((List.take (List.length x15) x15), x27.2.1)).bind fun y2 =>
    bif (decide (y2 ≥ (0 : Int))) then
      if 0 ≤ y2 ∧ y2 < (((List.length x16) : Nat) : Int) then
        r_g54 x1 x3 ((List.take (List.length x8.1) x8.1), ((List.take (List.length x8.2.1) x8.2.1), ((List.take (List.length x8.2.2.1) x8.2.2.1), (List.take (List.length x8.2.2.2) x8.2.2.2)))) (List.take (List.length x15) x15) (List.take (List.length x16) x16) ((List.take (List.length x19.1) x19.1), ((List.take (List.length x19.2.1) x19.2.1), ((List.take (List.length x19.2.2.1) x19.2.2.1), (List.take (List.length x19.2.2.2) x19.2.2.2)))) x25 x27 ((List.getD x16 (0 + Int.toNat y2) Z_Value).1, (((((List.getD x16 (0 + Int.toNat y2) Z_Value).2).1).1, (((List.getD x16 (0 + Int.toNat y2) Z_Value).2).1).2), ((((((List.getD x16 (0 + Int.toNat y2) Z_Value).2).2).1).1, ((((List.getD x16 (0 + Int.toNat y2) Z_Value).2).2).1).2), (((List.getD x16 (0 + Int.toNat y2) Z_Value).2).2).2))) x196 x197 x198
      else none
    else
      bif (decide (((List.length x27.2.2) : Int) > (0 : Int))) then
        if 0 ≤ x25 ∧ x25 < ((List.length x1) : Int) then
          r_g54 x1 x3 ((List.take (List.length x8.1) x8.1), ((List.take (List.length x8.2.1) x8.2.1), ((List.take (List.length x8.2.2.1) x8.2.2.1), (List.take (List.length x8.2.2.2) x8.2.2.2)))) (List.take (List.length x15) x15) (List.take (List.length x16) x16) ((List.take (List.length x19.1) x19.1), ((List.take (List.length x19.2.1) x19.2.1), ((List.take (List.length x19.2.2.1) x19.2.2.1), (List.take (List.length x19.2.2.2) x19.2.2.2)))) x25 x27 ((List.getD x1 (Int.toNat x25) Z_Value).1, (((((List.getD x1 (Int.toNat x25) Z_Value).2).1).1, (((List.getD x1 (Int.toNat x25) Z_Value).2).1).2), ((((((List.getD x1 (Int.toNat x25) Z_Value).2).2).1).1, ((((List.getD x1 (Int.toNat x25) Z_Value).2).2).1).2), (((List.getD x1 (Int.toNat x25) Z_Value).2).2).2))) x196 x197 x198
        else none
      else
        if (List.length x3) + (List.length [40, 41, 32, 110, 101, 101, 100, 115, 32, 39]) ≤ 9223372036854775807 then
          if (List.length (x3 ++ [40, 41, 32, 110, 101, 101, 100, 115, 32, 39])) + (List.length x27.2.1) ≤ 9223372036854775807 then
            if (List.length ((x3 ++ [40, 41, 32, 110, 101, 101, 100, 115, 32, 39]) ++ x27.2.1)) + (List.length [39]) ≤ 9223372036854775807 then
              some ((([] : List X_Value), (([] : List X_Value), (([] : List (List UInt8)), ([] : List X_Value)))), (((x3 ++ [40, 41, 32, 110, 101, 101, 100, 115, 32, 39]) ++ x27.2.1) ++ [39]))
            else none
          else none
        else none
def f_ref7_Bound.b_g54 (c51 : f_ref7_HasString.E) (c52 : f_slices_Index_string.E) (n_l9 : (List X_Value) → (List UInt8) → X_Bound → (List (List UInt8)) → (List X_Value) → X_Bound → (Int) → (List X_Param) → (Int) → (Int) → Option (X_Bound × (List UInt8))) (x1 : List X_Value) (x3 : List UInt8) (x8 : (List X_Value) × X_Arguments) (x15 : List (List UInt8)) (x16 : List X_Value) (x19 : (List X_Value) × X_Arguments) (x25 : Int) (x27 : (Int) × ((List UInt8) × (List (Unit)))) (x28 : (Int) × (X_Int × (X_Int × X_errorAddressString))) (x196 : List X_Param) (x197 : Int) (x198 : Int) : Option (X_Bound × (List UInt8)) :=
  if (List.length x19.1) ≤ (List.length x19.1) ∧ ((List.length x19.1) + (List.length (List.take 1 ([(x28.1, ((x28.2.1.1, x28.2.1.2), ((x28.2.2.1.1, x28.2.2.1.2), x28.2.2.2)))] : List X_Value)))) * 96 ≤ LIM then
    n_l9 x1 x3 ((List.take (List.length x8.1) x8.1), ((List.take (List.length x8.2.1) x8.2.1), ((List.take (List.length x8.2.2.1) x8.2.2.1), (List.take (List.length x8.2.2.2) x8.2.2.2)))) (List.take (List.length x15) x15) (List.take (List.length x16) x16) ((List.take (List.length (List.append (List.take (List.length x19.1) x19.1) (List.take 1 ([(x28.1, ((x28.2.1.1, x28.2.1.2), ((x28.2.2.1.1, x28.2.2.1.2), x28.2.2.2)))] : List X_Value)))) (List.append (List.take (List.length x19.1) x19.1) (List.take 1 ([(x28.1, ((x28.2.1.1, x28.2.1.2), ((x28.2.2.1.1, x28.2.2.1.2), x28.2.2.2)))] : List X_Value)))), ((List.take (List.length x19.2.1) x19.2.1), ((List.take (List.length x19.2.2.1) x19.2.2.1), (List.take (List.length x19.2.2.2) x19.2.2.2)))) (IntKind.i64.wrap (x25 + ((List.length x27.2.2) : Int))) x196 x197 (IntKind.i64.wrap (x198 + (1 : Int)))
  else none
def f_ref7_Bound.c (c51 : f_ref7_HasString.E) (c52 : f_slices_Index_string.E) (r_l0 : (List X_Param) → (List X_Value) → (List UInt8) → X_Arguments → X_Bound → (Int) → (Bool) → (Bool) → (List X_Param) → (Int) → (Int) → Option (X_Bound × (List UInt8))) (a0 : List X_Param) (a1 : List X_Value) (a2 : (List X_Value) × ((List (List UInt8)) × (List X_Value))) (a3 : List UInt8) : Option (X_Bound × (List UInt8)) :=
  r_l0 a0 a1 a3 a2 (([] : List X_Value), (([] : List X_Value), (([] : List (List UInt8)), ([] : List X_Value)))) (0 : Int) false false a0 ((List.length a0) : Int) (0 : Int)
theorem f_ref7_Bound.q (c51 : f_ref7_HasString.E) (c52 : f_slices_Index_string.E) (r_l0 : (List X_Param) → (List X_Value) → (List UInt8) → X_Arguments → X_Bound → (Int) → (Bool) → (Bool) → (List X_Param) → (Int) → (Int) → Option (X_Bound × (List UInt8))) (a0 : List X_Param) (a1 : List X_Value) (a2 : (List X_Value) × ((List (List UInt8)) × (List X_Value))) (a3 : List UInt8) : f_ref7_Bound.b c51 c52 r_l0 a0 a1 a2 a3 = f_ref7_Bound.c c51 c52 r_l0 a0 a1 a2 a3 := by
  simp only [f_ref7_Bound.b, f_ref7_Bound.c, List.take_length, take_one, Nat.zero_add, Int.toNat_natCast, Int.toNat_zero, List.drop_zero, List.append_eq, Nat.le_refl, Int.le_refl, true_and, and_true, zero_le_one, if_true, prod_eta, Int.natCast_zero]
def f_ref7_Bound.c_l0 (c51 : f_ref7_HasString.E) (c52 : f_slices_Index_string.E) (n_l0 : (List X_Param) → (List X_Value) → (List UInt8) → X_Arguments → X_Bound → (Int) → (Bool) → (Bool) → (List X_Param) → (Int) → (Int) → Option (X_Bound × (List UInt8))) (r_l3 : (List X_Param) → (List X_Value) → (List UInt8) → X_Arguments → X_Bound → (Int) → (Bool) → (List (List UInt8)) → (List X_Value) → (List X_Param) → (Int) → (Int) → Option (X_Bound × (List UInt8))) (x0 : List X_Param) (x1 : List X_Value) (x3 : List UInt8) (x6 : (List X_Value) × ((List (List UInt8)) × (List X_Value))) (x8 : (List X_Value) × X_Arguments) (x10 : Int) (x11 : Bool) (x12 : Bool) (x30 : List X_Param) (x31 : Int) (x32 : Int) : Option (X_Bound × (List UInt8)) :=
  bif (decide (x32 < x31)) then
    if 0 ≤ x32 ∧ x32 < ((List.length x30) : Int) then
      bif (((List.getD x30 (Int.toNat x32) ((0 : Int), ([], []))).1) == (0 : Int)) then
        n_l0 x0 x1 x3 x6 x8 (IntKind.i64.wrap (x10 + (1 : Int))) x11 x12 x30 x31 (IntKind.i64.wrap (x32 + (1 : Int)))
      else
        bif (((List.getD x30 (Int.toNat x32) ((0 : Int), ([], []))).1) == (1 : Int)) then
          bif ((((List.getD x30 (Int.toNat x32) ((0 : Int), ([], []))).2).1) != []) then
            n_l0 x0 x1 x3 x6 x8 x10 true x12 x30 x31 (IntKind.i64.wrap (x32 + (1 : Int)))
          else
            bif (((List.getD x30 (Int.toNat x32) ((0 : Int), ([], []))).1) == (3 : Int)) then
              n_l0 x0 x1 x3 x6 x8 x10 x11 true x30 x31 (IntKind.i64.wrap (x32 + (1 : Int)))
            else
              n_l0 x0 x1 x3 x6 x8 x10 x11 x12 x30 x31 (IntKind.i64.wrap (x32 + (1 : Int)))
        else
          bif (((List.getD x30 (Int.toNat x32) ((0 : Int), ([], []))).1) == (3 : Int)) then
            n_l0 x0 x1 x3 x6 x8 x10 x11 true x30 x31 (IntKind.i64.wrap (x32 + (1 : Int)))
          else
            n_l0 x0 x1 x3 x6 x8 x10 x11 x12 x30 x31 (IntKind.i64.wrap (x32 + (1 : Int)))
    else none
  else
    bif (decide (((List.length x6.1) : Int) > x10)) then
      bif !x11 then
        if (List.length x3) + (List.length [40, 41, 32, 103, 111, 116, 32, 116, 111, 111, 32, 109, 97, 110, 121, 32, 97, 114, 103, 117, 109, 101, 110, 116, 115]) ≤ 9223372036854775807 then
          some ((([] : List X_Value), (([] : List X_Value), (([] : List (List UInt8)), ([] : List X_Value)))), (x3 ++ [40, 41, 32, 103, 111, 116, 32, 116, 111, 111, 32, 109, 97, 110, 121, 32, 97, 114, 103, 117, 109, 101, 110, 116, 115]))
        else none
      else
        r_l3 x0 x1 x3 x6 x8 x10 x12 ([] : List (List UInt8)) ([] : List X_Value) x0 ((List.length x0) : Int) (0 : Int)
    else
      r_l3 x0 x1 x3 x6 x8 x10 x12 ([] : List (List UInt8)) ([] : List X_Value) x0 ((List.length x0) : Int) (0 : Int)
theorem f_ref7_Bound.q_l0 (c51 : f_ref7_HasString.E) (c52 : f_slices_Index_string.E) (n_l0 : (List X_Param) → (List X_Value) → (List UInt8) → X_Arguments → X_Bound → (Int) → (Bool) → (Bool) → (List X_Param) → (Int) → (Int) → Option (X_Bound × (List UInt8))) (r_l3 : (List X_Param) → (List X_Value) → (List UInt8) → X_Arguments → X_Bound → (Int) → (Bool) → (List (List UInt8)) → (List X_Value) → (List X_Param) → (Int) → (Int) → Option (X_Bound × (List UInt8))) (x0 : List X_Param) (x1 : List X_Value) (x3 : List UInt8) (x6 : (List X_Value) × ((List (List UInt8)) × (List X_Value))) (x8 : (List X_Value) × X_Arguments) (x10 : Int) (x11 : Bool) (x12 : Bool) (x30 : List X_Param) (x31 : Int) (x32 : Int) : f_ref7_Bound.b_l0 c51 c52 n_l0 r_l3 x0 x1 x3 x6 x8 x10 x11 x12 x30 x31 x32 = f_ref7_Bound.c_l0 c51 c52 n_l0 r_l3 x0 x1 x3 x6 x8 x10 x11 x12 x30 x31 x32 := by
  simp only [f_ref7_Bound.b_l0, f_ref7_Bound.c_l0, List.take_length, take_one, Nat.zero_add, Int.toNat_natCast, Int.toNat_zero, List.drop_zero, List.append_eq, Nat.le_refl, Int.le_refl, true_and, and_true, zero_le_one, if_true, prod_eta, Int.natCast_zero]
def f_ref7_Bound.c_l3 (c51 : f_ref7_HasString.E) (c52 : f_slices_Index_string.E) (n_l3 : (List X_Param) → (List X_Value) → (List UInt8) → X_Arguments → X_Bound → (Int) → (Bool) → (List (List UInt8)) → (List X_Value) → (List X_Param) → (Int) → (Int) → Option (X_Bound × (List UInt8))) (r_l5 : (List X_Param) → (List X_Value) → (List UInt8) → X_Arguments → X_Bound → (Bool) → (List (List UInt8)) → (List X_Value) → X_Bound → (List (List UInt8)) → (Int) → (Int) → Option (X_Bound × (List UInt8))) (x0 : List X_Param) (x1 : List X_Value) (x3 : List UInt8) (x6 : (List X_Value) × ((List (List UInt8)) × (List X_Value))) (x8 : (List X_Value) × X_Arguments) (x10 : Int) (x12 : Bool) (x15 : List (List UInt8)) (x16 : List X_Value) (x68 : List X_Param) (x69 : Int) (x70 : Int) : Option (X_Bound × (List UInt8)) :=
  bif (decide (x70 < x69)) then
    if 0 ≤ x70 ∧ x70 < ((List.length x68) : Int) then
      bif (decide (x70 < x10)) then
        bif (decide (x70 < ((List.length x6.1) : Int))) then
          if ((List.length x15) + (List.length ([((List.getD x68 (Int.toNat x70) ((0 : Int), ([], []))).2).1] : List (List UInt8)))) * 16 ≤ LIM then
            if 0 ≤ x70 ∧ x70 < ((List.length x6.1) : Int) then
              if ((List.length x16) + (List.length ([(List.getD x6.1 (Int.toNat x70) Z_Value)] : List X_Value))) * 96 ≤ LIM then
                n_l3 x0 x1 x3 x6 x8 x10 x12 (x15 ++ ([((List.getD x68 (Int.toNat x70) ((0 : Int), ([], []))).2).1] : List (List UInt8))) (x16 ++ ([(List.getD x6.1 (Int.toNat x70) Z_Value)] : List X_Value)) x68 x69 (IntKind.i64.wrap (x70 + (1 : Int)))
              else none
            else none
          else none
        else
          n_l3 x0 x1 x3 x6 x8 x10 x12 x15 x16 x68 x69 (IntKind.i64.wrap (x70 + (1 : Int)))
      else
        n_l3 x0 x1 x3 x6 x8 x10 x12 x15 x16 x68 x69 (IntKind.i64.wrap (x70 + (1 : Int)))
    else none
  else
    bif (decide (((List.length x6.1) : Int) > x10)) then
      if 0 ≤ x10 ∧ x10 ≤ ((List.length x6.1) : Int) then
        if (List.length (List.drop (Int.toNat x10) x6.1)) * 96 ≤ LIM then
          r_l5 x0 x1 x3 x6 x8 x12 x15 x16 (([] : List X_Value), ((List.drop (Int.toNat x10) x6.1), (([] : List (List UInt8)), ([] : List X_Value)))) x6.2.1 ((List.length x6.2.1) : Int) (0 : Int)
        else none
      else none
    else
      r_l5 x0 x1 x3 x6 x8 x12 x15 x16 (([] : List X_Value), (([] : List X_Value), (([] : List (List UInt8)), ([] : List X_Value)))) x6.2.1 ((List.length x6.2.1) : Int) (0 : Int)
theorem f_ref7_Bound.q_l3 (c51 : f_ref7_HasString.E) (c52 : f_slices_Index_string.E) (n_l3 : (List X_Param) → (List X_Value) → (List UInt8) → X_Arguments → X_Bound → (Int) → (Bool) → (List (List UInt8)) → (List X_Value) → (List X_Param) → (Int) → (Int) → Option (X_Bound × (List UInt8))) (r_l5 : (List X_Param) → (List X_Value) → (List UInt8) → X_Arguments → X_Bound → (Bool) → (List (List UInt8)) → (List X_Value) → X_Bound → (List (List UInt8)) → (Int) → (Int) → Option (X_Bound × (List UInt8))) (x0 : List X_Param) (x1 : List X_Value) (x3 : List UInt8) (x6 : (List X_Value) × ((List (List UInt8)) × (List X_Value))) (x8 : (List X_Value) × X_Arguments) (x10 : Int) (x12 : Bool) (x15 : List (List UInt8)) (x16 : List X_Value) (x68 : List X_Param) (x69 : Int) (x70 : Int) : f_ref7_Bound.b_l3 c51 c52 n_l3 r_l5 x0 x1 x3 x6 x8 x10 x12 x15 x16 x68 x69 x70 = f_ref7_Bound.c_l3 c51 c52 n_l3 r_l5 x0 x1 x3 x6 x8 x10 x12 x15 x16 x68 x69 x70 := by
  simp only [f_ref7_Bound.b_l3, f_ref7_Bound.c_l3, List.take_length, take_one, Nat.zero_add, Int.toNat_natCast, Int.toNat_zero, List.drop_zero, List.append_eq, Nat.le_refl, Int.le_refl, true_and, and_true, zero_le_one, if_true, prod_eta, Int.natCast_zero]
def f_ref7_Bound.c_l5 (c51 : f_ref7_HasString.E) (c52 : f_slices_Index_string.E) (r_l7 : (List X_Param) → (List X_Value) → (List UInt8) → X_Arguments → X_Bound → (Bool) → (List (List UInt8)) → (List X_Value) → X_Bound → (Int) → (List UInt8) → (Bool) → (List (List UInt8)) → (Int) → (Int) → (List X_Param) → (Int) → (Int) → Option (X_Bound × (List UInt8))) (r_l9 : (List X_Value) → (List UInt8) → X_Bound → (List (List UInt8)) → (List X_Value) → X_Bound → (Int) → (List X_Param) → (Int) → (Int) → Option (X_Bound × (List UInt8))) (x0 : List X_Param) (x1 : List X_Value) (x3 : List UInt8) (x6 : (List X_Value) × ((List (List UInt8)) × (List X_Value))) (x8 : (List X_Value) × X_Arguments) (x12 : Bool) (x15 : List (List UInt8)) (x16 : List X_Value) (x19 : (List X_Value) × X_Arguments) (x113 : List (List UInt8)) (x114 : Int) (x115 : Int) : Option (X_Bound × (List UInt8)) :=
  bif (decide (x115 < x114)) then
    if 0 ≤ x115 ∧ x115 < ((List.length x113) : Int) then
      (c51 (x15, (List.getD x113 (Int.toNat x115) []))).bind fun y1 =>
        bif y1 then
          if (List.length x3) + (List.length [40, 41, 32, 103, 111, 116, 32, 116, 119, 111, 32, 118, 97, 108, 117, 101, 115, 32, 102, 111, 114, 32, 39]) ≤ 9223372036854775807 then
            if (List.length (x3 ++ [40, 41, 32, 103, 111, 116, 32, 116, 119, 111, 32, 118, 97, 108, 117, 101, 115, 32, 102, 111, 114, 32, 39])) + (List.length (List.getD x113 (Int.toNat x115) [])) ≤ 9223372036854775807 then
              if (List.length ((x3 ++ [40, 41, 32, 103, 111, 116, 32, 116, 119, 111, 32, 118, 97, 108, 117, 101, 115, 32, 102, 111, 114, 32, 39]) ++ (List.getD x113 (Int.toNat x115) []))) + (List.length [39]) ≤ 9223372036854775807 then
                some ((([] : List X_Value), (([] : List X_Value), (([] : List (List UInt8)), ([] : List X_Value)))), (((x3 ++ [40, 41, 32, 103, 111, 116, 32, 116, 119, 111, 32, 118, 97, 108, 117, 101, 115, 32, 102, 111, 114, 32, 39]) ++ (List.getD x113 (Int.toNat x115) [])) ++ [39]))
              else none
            else none
          else none
        else
          r_l7 x0 x1 x3 x6 x8 x12 x15 x16 x19 x115 (List.getD x113 (Int.toNat x115) []) false x113 x114 x115 x0 ((List.length x0) : Int) (0 : Int)
    else none
  else
    r_l9 x1 x3 x8 x15 x16 x19 (0 : Int) x0 ((List.length x0) : Int) (0 : Int)
theorem f_ref7_Bound.q_l5 (c51 : f_ref7_HasString.E) (c52 : f_slices_Index_string.E) (r_l7 : (List X_Param) → (List X_Value) → (List UInt8) → X_Arguments → X_Bound → (Bool) → (List (List UInt8)) → (List X_Value) → X_Bound → (Int) → (List UInt8) → (Bool) → (List (List UInt8)) → (Int) → (Int) → (List X_Param) → (Int) → (Int) → Option (X_Bound × (List UInt8))) (r_l9 : (List X_Value) → (List UInt8) → X_Bound → (List (List UInt8)) → (List X_Value) → X_Bound → (Int) → (List X_Param) → (Int) → (Int) → Option (X_Bound × (List UInt8))) (x0 : List X_Param) (x1 : List X_Value) (x3 : List UInt8) (x6 : (List X_Value) × ((List (List UInt8)) × (List X_Value))) (x8 : (List X_Value) × X_Arguments) (x12 : Bool) (x15 : List (List UInt8)) (x16 : List X_Value) (x19 : (List X_Value) × X_Arguments) (x113 : List (List UInt8)) (x114 : Int) (x115 : Int) : f_ref7_Bound.b_l5 c51 c52 r_l7 r_l9 x0 x1 x3 x6 x8 x12 x15 x16 x19 x113 x114 x115 = f_ref7_Bound.c_l5 c51 c52 r_l7 r_l9 x0 x1 x3 x6 x8 x12 x15 x16 x19 x113 x114 x115 := by
  simp only [f_ref7_Bound.b_l5, f_ref7_Bound.c_l5, List.take_length, take_one, Nat.zero_add, Int.toNat_natCast, Int.toNat_zero, List.drop_zero, List.append_eq, Nat.le_refl, Int.le_refl, true_and, and_true, zero_le_one, if_true, prod_eta, Int.natCast_zero]
def f_ref7_Bound.c_l7 (c51 : f_ref7_HasString.E) (c52 : f_slices_Index_string.E) (n_l7 : (List X_Param) → (List X_Value) → (List UInt8) → X_Arguments → X_Bound → (Bool) → (List (List UInt8)) → (List X_Value) → X_Bound → (Int) → (List UInt8) → (Bool) → (List (List UInt8)) → (Int) → (Int) → (List X_Param) → (Int) → (Int) → Option (X_Bound × (List UInt8))) (r_g38 : (List X_Param) → (List X_Value) → (List UInt8) → X_Arguments → X_Bound → (Bool) → (List (List UInt8)) → (List X_Value) → X_Bound → (Int) → (List UInt8) → (Bool) → (List (List UInt8)) → (Int) → (Int) → Option (X_Bound × (List UInt8))) (x0 : List X_Param) (x1 : List X_Value) (x3 : List UInt8) (x6 : (List X_Value) × ((List (List UInt8)) × (List X_Value))) (x8 : (List X_Value) × X_Arguments) (x12 : Bool) (x15 : List (List UInt8)) (x16 : List X_Value) (x19 : (List X_Value) × X_Arguments) (x20 : Int) (x21 : List UInt8) (x22 : Bool) (x113 : List (List UInt8)) (x114 : Int) (x115 : Int) (x129 : List X_Param) (x130 : Int) (x131 : Int) : Option (X_Bound × (List UInt8)) :=
  bif (decide (x131 < x130)) then
    if 0 ≤ x131 ∧ x131 < ((List.length x129) : Int) then
      bif x22 then
        n_l7 x0 x1 x3 x6 x8 x12 x15 x16 x19 x20 x21 true x113 x114 x115 x129 x130 (IntKind.i64.wrap (x131 + (1 : Int)))
      else
        bif ((((List.getD x129 (Int.toNat x131) ((0 : Int), ([], []))).2).1) == x21) then
          bif (((List.getD x129 (Int.toNat x131) ((0 : Int), ([], []))).1) == (0 : Int)) then
            n_l7 x0 x1 x3 x6 x8 x12 x15 x16 x19 x20 x21 true x113 x114 x115 x129 x130 (IntKind.i64.wrap (x131 + (1 : Int)))
          else
            n_l7 x0 x1 x3 x6 x8 x12 x15 x16 x19 x20 x21 (((List.getD x129 (Int.toNat x131) ((0 : Int), ([], []))).1) == (2 : Int)) x113 x114 x115 x129 x130 (IntKind.i64.wrap (x131 + (1 : Int)))
        else
          n_l7 x0 x1 x3 x6 x8 x12 x15 x16 x19 x20 x21 false x113 x114 x115 x129 x130 (IntKind.i64.wrap (x131 + (1 : Int)))
    else none
  else
    bif !x22 then
      bif !x12 then
        if (List.length x3) + (List.length [40, 41, 32, 103, 111, 116, 32, 97, 110, 32, 117, 110, 107, 110, 111, 119, 110, 32, 97, 114, 103, 117, 109, 101, 110, 116, 32, 39]) ≤ 9223372036854775807 then
          if (List.length (x3 ++ [40, 41, 32, 103, 111, 116, 32, 97, 110, 32, 117, 110, 107, 110, 111, 119, 110, 32, 97, 114, 103, 117, 109, 101, 110, 116, 32, 39])) + (List.length x21) ≤ 9223372036854775807 then
            if (List.length ((x3 ++ [40, 41, 32, 103, 111, 116, 32, 97, 110, 32, 117, 110, 107, 110, 111, 119, 110, 32, 97, 114, 103, 117, 109, 101, 110, 116, 32, 39]) ++ x21)) + (List.length [39]) ≤ 9223372036854775807 then
              some ((([] : List X_Value), (([] : List X_Value), (([] : List (List UInt8)), ([] : List X_Value)))), (((x3 ++ [40, 41, 32, 103, 111, 116, 32, 97, 110, 32, 117, 110, 107, 110, 111, 119, 110, 32, 97, 114, 103, 117, 109, 101, 110, 116, 32, 39]) ++ x21) ++ [39]))
            else none
          else none
        else none
      else
        r_g38 x0 x1 x3 x6 x8 x12 x15 x16 x19 x20 x21 x22 x113 x114 x115
    else
      r_g38 x0 x1 x3 x6 x8 x12 x15 x16 x19 x20 x21 x22 x113 x114 x115
theorem f_ref7_Bound.q_l7 (c51 : f_ref7_HasString.E) (c52 : f_slices_Index_string.E) (n_l7 : (List X_Param) → (List X_Value) → (List UInt8) → X_Arguments → X_Bound → (Bool) → (List (List UInt8)) → (List X_Value) → X_Bound → (Int) → (List UInt8) → (Bool) → (List (List UInt8)) → (Int) → (Int) → (List X_Param) → (Int) → (Int) → Option (X_Bound × (List UInt8))) (r_g38 : (List X_Param) → (List X_Value) → (List UInt8) → X_Arguments → X_Bound → (Bool) → (List (List UInt8)) → (List X_Value) → X_Bound → (Int) → (List UInt8) → (Bool) → (List (List UInt8)) → (Int) → (Int) → Option (X_Bound × (List UInt8))) (x0 : List X_Param) (x1 : List X_Value) (x3 : List UInt8) (x6 : (List X_Value) × ((List (List UInt8)) × (List X_Value))) (x8 : (List X_Value) × X_Arguments) (x12 : Bool) (x15 : List (List UInt8)) (x16 : List X_Value) (x19 : (List X_Value) × X_Arguments) (x20 : Int) (x21 : List UInt8) (x22 : Bool) (x113 : List (List UInt8)) (x114 : Int) (x115 : Int) (x129 : List X_Param) (x130 : Int) (x131 : Int) : f_ref7_Bound.b_l7 c51 c52 n_l7 r_g38 x0 x1 x3 x6 x8 x12 x15 x16 x19 x20 x21 x22 x113 x114 x115 x129 x130 x131 = f_ref7_Bound.c_l7 c51 c52 n_l7 r_g38 x0 x1 x3 x6 x8 x12 x15 x16 x19 x20 x21 x22 x113 x114 x115 x129 x130 x131 := by
  simp only [f_ref7_Bound.b_l7, f_ref7_Bound.c_l7, List.take_length, take_one, Nat.zero_add, Int.toNat_natCast, Int.toNat_zero, List.drop_zero, List.append_eq, Nat.le_refl, Int.le_refl, true_and, and_true, zero_le_one, if_true, prod_eta, Int.natCast_zero]
def f_ref7_Bound.c_g38 (c51 : f_ref7_HasString.E) (c52 : f_slices_Index_string.E) (n_l5 : (List X_Param) → (List X_Value) → (List UInt8) → X_Arguments → X_Bound → (Bool) → (List (List UInt8)) → (List X_Value) → X_Bound → (List (List UInt8)) → (Int) → (Int) → Option (X_Bound × (List UInt8))) (x0 : List X_Param) (x1 : List X_Value) (x3 : List UInt8) (x6 : (List X_Value) × ((List (List UInt8)) × (List X_Value))) (x8 : (List X_Value) × X_Arguments) (x12 : Bool) (x15 : List (List UInt8)) (x16 : List X_Value) (x19 : (List X_Value) × X_Arguments) (x20 : Int) (x21 : List UInt8) (x22 : Bool) (x113 : List (List UInt8)) (x114 : Int) (x115 : Int) : Option (X_Bound × (List UInt8)) :=
  if ((List.length x15) + (List.length ([x21] : List (List UInt8)))) * 16 ≤ LIM then
    if 0 ≤ x20 ∧ x20 < ((List.length x6.2.2) : Int) then
      if ((List.length x16) + (List.length ([(List.getD x6.2.2 (Int.toNat x20) Z_Value)] : List X_Value))) * 96 ≤ LIM then
        bif !x22 then
          if ((List.length x19.2.2.1) + (List.length ([x21] : List (List UInt8)))) * 16 ≤ LIM then
            if 0 ≤ x20 ∧ x20 < ((List.length x6.2.2) : Int) then
              if ((List.length x19.2.2.2) + (List.length ([(List.getD x6.2.2 (Int.toNat x20) Z_Value)] : List X_Value))) * 96 ≤ LIM then
                n_l5 x0 x1 x3 x6 x8 x12 (x15 ++ ([x21] : List (List UInt8))) (x16 ++ ([(List.getD x6.2.2 (Int.toNat x20) Z_Value)] : List X_Value)) (x19.1, (x19.2.1, ((x19.2.2.1 ++ ([x21] : List (List UInt8))), (x19.2.2.2 ++ ([(List.getD x6.2.2 (Int.toNat x20) Z_Value)] : List X_Value))))) x113 x114 (IntKind.i64.wrap (x115 + (1 : Int)))
              else none
            else none
          else none
        else
          n_l5 x0 x1 x3 x6 x8 x12 (x15 ++ ([x21] : List (List UInt8))) (x16 ++ ([(List.getD x6.2.2 (Int.toNat x20) Z_Value)] : List X_Value)) x19 x113 x114 (IntKind.i64.wrap (x115 + (1 : Int)))
      else none
    else none
  else none
theorem f_ref7_Bound.q_g38 (c51 : f_ref7_HasString.E) (c52 : f_slices_Index_string.E) (n_l5 : (List X_Param) → (List X_Value) → (List UInt8) → X_Arguments → X_Bound → (Bool) → (List (List UInt8)) → (List X_Value) → X_Bound → (List (List UInt8)) → (Int) → (Int) → Option (X_Bound × (List UInt8))) (x0 : List X_Param) (x1 : List X_Value) (x3 : List UInt8) (x6 : (List X_Value) × ((List (List UInt8)) × (List X_Value))) (x8 : (List X_Value) × X_Arguments) (x12 : Bool) (x15 : List (List UInt8)) (x16 : List X_Value) (x19 : (List X_Value) × X_Arguments) (x20 : Int) (x21 : List UInt8) (x22 : Bool) (x113 : List (List UInt8)) (x114 : Int) (x115 : Int) : f_ref7_Bound.b_g38 c51 c52 n_l5 x0 x1 x3 x6 x8 x12 x15 x16 x19 x20 x21 x22 x113 x114 x115 = f_ref7_Bound.c_g38 c51 c52 n_l5 x0 x1 x3 x6 x8 x12 x15 x16 x19 x20 x21 x22 x113 x114 x115 := by
  simp only [f_ref7_Bound.b_g38, f_ref7_Bound.c_g38, List.take_length, take_one, Nat.zero_add, Int.toNat_natCast, Int.toNat_zero, List.drop_zero, List.append_eq, Nat.le_refl, Int.le_refl, true_and, and_true, zero_le_one, if_true, prod_eta, Int.natCast_zero]
def f_ref7_Bound.c_l9 (c51 : f_ref7_HasString.E) (c52 : f_slices_Index_string.E) (r_g48 : (List X_Value) → (List UInt8) → X_Bound → (List (List UInt8)) → (List X_Value) → X_Bound → (Int) → X_Param → X_Value → (List X_Param) → (Int) → (Int) → Option (X_Bound × (List UInt8))) (r_g54 : (List X_Value) → (List UInt8) → X_Bound → (List (List UInt8)) → (List X_Value) → X_Bound → (Int) → X_Param → X_Value → (List X_Param) → (Int) → (Int) → Option (X_Bound × (List UInt8))) (x1 : List X_Value) (x3 : List UInt8) (x8 : (List X_Value) × X_Arguments) (x15 : List (List UInt8)) (x16 : List X_Value) (x19 : (List X_Value) × X_Arguments) (x25 : Int) (x196 : List X_Param) (x197 : Int) (x198 : Int) : Option (X_Bound × (List UInt8)) :=
  bif (decide (x198 < x197)) then
    if 0 ≤ x198 ∧ x198 < ((List.length x196) : Int) then
      bif (((List.getD x196 (Int.toNat x198) ((0 : Int), ([], []))).1) == (0 : Int)) then
        r_g48 x1 x3 x8 x15 x16 x19 x25 (List.getD x196 (Int.toNat x198) ((0 : Int), ([], []))) ((9 : Int), ((false, ([] : List Int)), ((false, ([] : List Int)), ([], (0 : Int))))) x196 x197 x198
      else
        bif (((List.getD x196 (Int.toNat x198) ((0 : Int), ([], []))).1) == (2 : Int)) then
          r_g48 x1 x3 x8 x15 x16 x19 x25 (List.getD x196 (Int.toNat x198) ((0 : Int), ([], []))) ((9 : Int), ((false, ([] : List Int)), ((false, ([] : List Int)), ([], (0 : Int))))) x196 x197 x198
        else
          r_g54 x1 x3 x8 x15 x16 x19 x25 (List.getD x196 (Int.toNat x198) ((0 : Int), ([], []))) ((9 : Int), ((false, ([] : List Int)), ((false, ([] : List Int)), ([], (0 : Int))))) x196 x197 x198
    else none
  else
    some (x19, [])
theorem f_ref7_Bound.q_l9 (c51 : f_ref7_HasString.E) (c52 : f_slices_Index_string.E) (r_g48 : (List X_Value) → (List UInt8) → X_Bound → (List (List UInt8)) → (List X_Value) → X_Bound → (Int) → X_Param → X_Value → (List X_Param) → (Int) → (Int) → Option (X_Bound × (List UInt8))) (r_g54 : (List X_Value) → (List UInt8) → X_Bound → (List (List UInt8)) → (List X_Value) → X_Bound → (Int) → X_Param → X_Value → (List X_Param) → (Int) → (Int) → Option (X_Bound × (List UInt8))) (x1 : List X_Value) (x3 : List UInt8) (x8 : (List X_Value) × X_Arguments) (x15 : List (List UInt8)) (x16 : List X_Value) (x19 : (List X_Value) × X_Arguments) (x25 : Int) (x196 : List X_Param) (x197 : Int) (x198 : Int) : f_ref7_Bound.b_l9 c51 c52 r_g48 r_g54 x1 x3 x8 x15 x16 x19 x25 x196 x197 x198 = f_ref7_Bound.c_l9 c51 c52 r_g48 r_g54 x1 x3 x8 x15 x16 x19 x25 x196 x197 x198 := by
  simp only [f_ref7_Bound.b_l9, f_ref7_Bound.c_l9, List.take_length, take_one, Nat.zero_add, Int.toNat_natCast, Int.toNat_zero, List.drop_zero, List.append_eq, Nat.le_refl, Int.le_refl, true_and, and_true, zero_le_one, if_true, prod_eta, Int.natCast_zero]
def f_ref7_Bound.c_g48 (c51 : f_ref7_HasString.E) (c52 : f_slices_Index_string.E) (r_g54 : (List X_Value) → (List UInt8) → X_Bound → (List (List UInt8)) → (List X_Value) → X_Bound → (Int) → X_Param → X_Value → (List X_Param) → (Int) → (Int) → Option (X_Bound × (List UInt8))) (x1 : List X_Value) (x3 : List UInt8) (x8 : (List X_Value) × X_Arguments) (x15 : List (List UInt8)) (x16 : List X_Value) (x19 : (List X_Value) × X_Arguments) (x25 : Int) (x27 : (Int) × ((List UInt8) × (List (Unit)))) (x28 : (Int) × (X_Int × (X_Int × X_errorAddressString))) (x196 : List X_Param) (x197 : Int) (x198 : Int) : Option (X_Bound × (List UInt8)) :=
  (c52 (x15, x27.2.1)).bind fun y2 =>
    bif (decide (y2 ≥ (0 : Int))) then
      if 0 ≤ y2 ∧ y2 < ((List.length x16) : Int) then
        r_g54 x1 x3 x8 x15 x16 x19 x25 x27 ((List.getD x16 (0 + Int.toNat y2) Z_Value).1, (((((List.getD x16 (0 + Int.toNat y2) Z_Value).2).1).1, (((List.getD x16 (0 + Int.toNat y2) Z_Value).2).1).2), ((((((List.getD x16 (0 + Int.toNat y2) Z_Value).2).2).1).1, ((((List.getD x16 (0 + Int.toNat y2) Z_Value).2).2).1).2), (((List.getD x16 (0 + Int.toNat y2) Z_Value).2).2).2))) x196 x197 x198
      else none
    else
      bif (decide (((List.length x27.2.2) : Int) > (0 : Int))) then
        if 0 ≤ x25 ∧ x25 < ((List.length x1) : Int) then
          r_g54 x1 x3 x8 x15 x16 x19 x25 x27 ((List.getD x1 (Int.toNat x25) Z_Value).1, (((((List.getD x1 (Int.toNat x25) Z_Value).2).1).1, (((List.getD x1 (Int.toNat x25) Z_Value).2).1).2), ((((((List.getD x1 (Int.toNat x25) Z_Value).2).2).1).1, ((((List.getD x1 (Int.toNat x25) Z_Value).2).2).1).2), (((List.getD x1 (Int.toNat x25) Z_Value).2).2).2))) x196 x197 x198
        else none
      else
        if (List.length x3) + (List.length [40, 41, 32, 110, 101, 101, 100, 115, 32, 39]) ≤ 9223372036854775807 then
          if (List.length (x3 ++ [40, 41, 32, 110, 101, 101, 100, 115, 32, 39])) + (List.length x27.2.1) ≤ 9223372036854775807 then
            if (List.length ((x3 ++ [40, 41, 32, 110, 101, 101, 100, 115, 32, 39]) ++ x27.2.1)) + (List.length [39]) ≤ 9223372036854775807 then
              some ((([] : List X_Value), (([] : List X_Value), (([] : List (List UInt8)), ([] : List X_Value)))), (((x3 ++ [40, 41, 32, 110, 101, 101, 100, 115, 32, 39]) ++ x27.2.1) ++ [39]))
            else none
          else none
        else none
theorem f_ref7_Bound.q_g48 (c51 : f_ref7_HasString.E) (c52 : f_slices_Index_string.E) (r_g54 : (List X_Value) → (List UInt8) → X_Bound → (List (List UInt8)) → (List X_Value) → X_Bound → (Int) → X_Param → X_Value → (List X_Param) → (Int) → (Int) → Option (X_Bound × (List UInt8))) (x1 : List X_Value) (x3 : List UInt8) (x8 : (List X_Value) × X_Arguments) (x15 : List (List UInt8)) (x16 : List X_Value) (x19 : (List X_Value) × X_Arguments) (x25 : Int) (x27 : (Int) × ((List UInt8) × (List (Unit)))) (x28 : (Int) × (X_Int × (X_Int × X_errorAddressString))) (x196 : List X_Param) (x197 : Int) (x198 : Int) : f_ref7_Bound.b_g48 c51 c52 r_g54 x1 x3 x8 x15 x16 x19 x25 x27 x28 x196 x197 x198 = f_ref7_Bound.c_g48 c51 c52 r_g54 x1 x3 x8 x15 x16 x19 x25 x27 x28 x196 x197 x198 := by
  simp only [f_ref7_Bound.b_g48, f_ref7_Bound.c_g48, List.take_length, take_one, Nat.zero_add, Int.toNat_natCast, Int.toNat_zero, List.drop_zero, List.append_eq, Nat.le_refl, Int.le_refl, true_and, and_true, zero_le_one, if_true, prod_eta, Int.natCast_zero]
def f_ref7_Bound.c_g54 (c51 : f_ref7_HasString.E) (c52 : f_slices_Index_string.E) (n_l9 : (List X_Value) → (List UInt8) → X_Bound → (List (List UInt8)) → (List X_Value) → X_Bound → (Int) → (List X_Param) → (Int) → (Int) → Option (X_Bound × (List UInt8))) (x1 : List X_Value) (x3 : List UInt8) (x8 : (List X_Value) × X_Arguments) (x15 : List (List UInt8)) (x16 : List X_Value) (x19 : (List X_Value) × X_Arguments) (x25 : Int) (x27 : (Int) × ((List UInt8) × (List (Unit)))) (x28 : (Int) × (X_Int × (X_Int × X_errorAddressString))) (x196 : List X_Param) (x197 : Int) (x198 : Int) : Option (X_Bound × (List UInt8)) :=
  if ((List.length x19.1) + (List.length ([x28] : List X_Value))) * 96 ≤ LIM then
    n_l9 x1 x3 x8 x15 x16 ((x19.1 ++ ([x28] : List X_Value)), x19.2) (IntKind.i64.wrap (x25 + ((List.length x27.2.2) : Int))) x196 x197 (IntKind.i64.wrap (x198 + (1 : Int)))
  else none
theorem f_ref7_Bound.q_g54 (c51 : f_ref7_HasString.E) (c52 : f_slices_Index_string.E) (n_l9 : (List X_Value) → (List UInt8) → X_Bound → (List (List UInt8)) → (List X_Value) → X_Bound → (Int) → (List X_Param) → (Int) → (Int) → Option (X_Bound × (List UInt8))) (x1 : List X_Value) (x3 : List UInt8) (x8 : (List X_Value) × X_Arguments) (x15 : List (List UInt8)) (x16 : List X_Value) (x19 : (List X_Value) × X_Arguments) (x25 : Int) (x27 : (Int) × ((List UInt8) × (List (Unit)))) (x28 : (Int) × (X_Int × (X_Int × X_errorAddressString))) (x196 : List X_Param) (x197 : Int) (x198 : Int) : f_ref7_Bound.b_g54 c51 c52 n_l9 x1 x3 x8 x15 x16 x19 x25 x27 x28 x196 x197 x198 = f_ref7_Bound.c_g54 c51 c52 n_l9 x1 x3 x8 x15 x16 x19 x25 x27 x28 x196 x197 x198 := by
  simp only [f_ref7_Bound.b_g54, f_ref7_Bound.c_g54, List.take_length, take_one, Nat.zero_add, Int.toNat_natCast, Int.toNat_zero, List.drop_zero, List.append_eq, Nat.le_refl, Int.le_refl, true_and, and_true, zero_le_one, if_true, prod_eta, Int.natCast_zero]
def f_ref7_Bound.g38 (c51 : f_ref7_HasString.E) (c52 : f_slices_Index_string.E) (k : Nat) (n_l5 : (List X_Param) → (List X_Value) → (List UInt8) → X_Arguments → X_Bound → (Bool) → (List (List UInt8)) → (List X_Value) → X_Bound → (List (List UInt8)) → (Int) → (Int) → Option (X_Bound × (List UInt8))) (x0 : List X_Param) (x1 : List X_Value) (x3 : List UInt8) (x6 : (List X_Value) × ((List (List UInt8)) × (List X_Value))) (x8 : (List X_Value) × X_Arguments) (x12 : Bool) (x15 : List (List UInt8)) (x16 : List X_Value) (x19 : (List X_Value) × X_Arguments) (x20 : Int) (x21 : List UInt8) (x22 : Bool) (x113 : List (List UInt8)) (x114 : Int) (x115 : Int) : Option (X_Bound × (List UInt8)) := gate k (f_ref7_Bound.b_g38 c51 c52 n_l5 x0 x1 x3 x6 x8 x12 x15 x16 x19 x20 x21 x22 x113 x114 x115)
def f_ref7_Bound.l7 (c51 : f_ref7_HasString.E) (c52 : f_slices_Index_string.E) (k : Nat) (n_l5 : (List X_Param) → (List X_Value) → (List UInt8) → X_Arguments → X_Bound → (Bool) → (List (List UInt8)) → (List X_Value) → X_Bound → (List (List UInt8)) → (Int) → (Int) → Option (X_Bound × (List UInt8))) : Nat → (List X_Param) → (List X_Value) → (List UInt8) → X_Arguments → X_Bound → (Bool) → (List (List UInt8)) → (List X_Value) → X_Bound → (Int) → (List UInt8) → (Bool) → (List (List UInt8)) → (Int) → (Int) → (List X_Param) → (Int) → (Int) → Option (X_Bound × (List UInt8))
  | 0, _, _, _, _, _, _, _, _, _, _, _, _, _, _, _, _, _, _ => none
  | n + 1, x0, x1, x3, x6, x8, x12, x15, x16, x19, x20, x21, x22, x113, x114, x115, x129, x130, x131 => f_ref7_Bound.b_l7 c51 c52 (fun x0 x1 x3 x6 x8 x12 x15 x16 x19 x20 x21 x22 x113 x114 x115 x129 x130 x131 => f_ref7_Bound.l7 c51 c52 k n_l5 n x0 x1 x3 x6 x8 x12 x15 x16 x19 x20 x21 x22 x113 x114 x115 x129 x130 x131) (f_ref7_Bound.g38 c51 c52 k n_l5) x0 x1 x3 x6 x8 x12 x15 x16 x19 x20 x21 x22 x113 x114 x115 x129 x130 x131
def f_ref7_Bound.g54 (c51 : f_ref7_HasString.E) (c52 : f_slices_Index_string.E) (k : Nat) (n_l9 : (List X_Value) → (List UInt8) → X_Bound → (List (List UInt8)) → (List X_Value) → X_Bound → (Int) → (List X_Param) → (Int) → (Int) → Option (X_Bound × (List UInt8))) (x1 : List X_Value) (x3 : List UInt8) (x8 : (List X_Value) × X_Arguments) (x15 : List (List UInt8)) (x16 : List X_Value) (x19 : (List X_Value) × X_Arguments) (x25 : Int) (x27 : (Int) × ((List UInt8) × (List (Unit)))) (x28 : (Int) × (X_Int × (X_Int × X_errorAddressString))) (x196 : List X_Param) (x197 : Int) (x198 : Int) : Option (X_Bound × (List UInt8)) := gate k (f_ref7_Bound.b_g54 c51 c52 n_l9 x1 x3 x8 x15 x16 x19 x25 x27 x28 x196 x197 x198)
def f_ref7_Bound.g48 (c51 : f_ref7_HasString.E) (c52 : f_slices_Index_string.E) (k : Nat) (n_l9 : (List X_Value) → (List UInt8) → X_Bound → (List (List UInt8)) → (List X_Value) → X_Bound → (Int) → (List X_Param) → (Int) → (Int) → Option (X_Bound × (List UInt8))) (x1 : List X_Value) (x3 : List UInt8) (x8 : (List X_Value) × X_Arguments) (x15 : List (List UInt8)) (x16 : List X_Value) (x19 : (List X_Value) × X_Arguments) (x25 : Int) (x27 : (Int) × ((List UInt8) × (List (Unit)))) (x28 : (Int) × (X_Int × (X_Int × X_errorAddressString))) (x196 : List X_Param) (x197 : Int) (x198 : Int) : Option (X_Bound × (List UInt8)) := gate k (f_ref7_Bound.b_g48 c51 c52 (f_ref7_Bound.g54 c51 c52 k n_l9) x1 x3 x8 x15 x16 x19 x25 x27 x28 x196 x197 x198)
def f_ref7_Bound.l9 (c51 : f_ref7_HasString.E) (c52 : f_slices_Index_string.E) (k : Nat)  : Nat → (List X_Value) → (List UInt8) → X_Bound → (List (List UInt8)) → (List X_Value) → X_Bound → (Int) → (List X_Param) → (Int) → (Int) → Option (X_Bound × (List UInt8))
  | 0, _, _, _, _, _, _, _, _, _, _ => none
  | n + 1, x1, x3, x8, x15, x16, x19, x25, x196, x197, x198 => f_ref7_Bound.b_l9 c51 c52 (f_ref7_Bound.g48 c51 c52 k (fun x1 x3 x8 x15 x16 x19 x25 x196 x197 x198 => f_ref7_Bound.l9 c51 c52 k  n x1 x3 x8 x15 x16 x19 x25 x196 x197 x198)) (f_ref7_Bound.g54 c51 c52 k (fun x1 x3 x8 x15 x16 x19 x25 x196 x197 x198 => f_ref7_Bound.l9 c51 c52 k  n x1 x3 x8 x15 x16 x19 x25 x196 x197 x198)) x1 x3 x8 x15 x16 x19 x25 x196 x197 x198
def f_ref7_Bound.l5 (c51 : f_ref7_HasString.E) (c52 : f_slices_Index_string.E) (k : Nat)  : Nat → (List X_Param) → (List X_Value) → (List UInt8) → X_Arguments → X_Bound → (Bool) → (List (List UInt8)) → (List X_Value) → X_Bound → (List (List UInt8)) → (Int) → (Int) → Option (X_Bound × (List UInt8))
  | 0, _, _, _, _, _, _, _, _, _, _, _, _ => none
  | n + 1, x0, x1, x3, x6, x8, x12, x15, x16, x19, x113, x114, x115 => f_ref7_Bound.b_l5 c51 c52 (f_ref7_Bound.l7 c51 c52 k (fun x0 x1 x3 x6 x8 x12 x15 x16 x19 x113 x114 x115 => f_ref7_Bound.l5 c51 c52 k  n x0 x1 x3 x6 x8 x12 x15 x16 x19 x113 x114 x115) k) (f_ref7_Bound.l9 c51 c52 k  k) x0 x1 x3 x6 x8 x12 x15 x16 x19 x113 x114 x115
def f_ref7_Bound.l3 (c51 : f_ref7_HasString.E) (c52 : f_slices_Index_string.E) (k : Nat)  : Nat → (List X_Param) → (List X_Value) → (List UInt8) → X_Arguments → X_Bound → (Int) → (Bool) → (List (List UInt8)) → (List X_Value) → (List X_Param) → (Int) → (Int) → Option (X_Bound × (List UInt8))
  | 0, _, _, _, _, _, _, _, _, _, _, _, _ => none
  | n + 1, x0, x1, x3, x6, x8, x10, x12, x15, x16, x68, x69, x70 => f_ref7_Bound.b_l3 c51 c52 (fun x0 x1 x3 x6 x8 x10 x12 x15 x16 x68 x69 x70 => f_ref7_Bound.l3 c51 c52 k  n x0 x1 x3 x6 x8 x10 x12 x15 x16 x68 x69 x70) (f_ref7_Bound.l5 c51 c52 k  k) x0 x1 x3 x6 x8 x10 x12 x15 x16 x68 x69 x70
def f_ref7_Bound.l0 (c51 : f_ref7_HasString.E) (c52 : f_slices_Index_string.E) (k : Nat)  : Nat → (List X_Param) → (List X_Value) → (List UInt8) → X_Arguments → X_Bound → (Int) → (Bool) → (Bool) → (List X_Param) → (Int) → (Int) → Option (X_Bound × (List UInt8))
  | 0, _, _, _, _, _, _, _, _, _, _, _ => none
  | n + 1, x0, x1, x3, x6, x8, x10, x11, x12, x30, x31, x32 => f_ref7_Bound.b_l0 c51 c52 (fun x0 x1 x3 x6 x8 x10 x11 x12 x30 x31 x32 => f_ref7_Bound.l0 c51 c52 k  n x0 x1 x3 x6 x8 x10 x11 x12 x30 x31 x32) (f_ref7_Bound.l3 c51 c52 k  k) x0 x1 x3 x6 x8 x10 x11 x12 x30 x31 x32
def f_ref7_Bound.f (c51 : f_ref7_HasString.E) (c52 : f_slices_Index_string.E) (k : Nat) (a0 : List X_Param) (a1 : List X_Value) (a2 : (List X_Value) × ((List (List UInt8)) × (List X_Value))) (a3 : List UInt8) : Option (X_Bound × (List UInt8)) := f_ref7_Bound.b c51 c52 (f_ref7_Bound.l0 c51 c52 k k) a0 a1 a2 a3
noncomputable def f_ref7_Bound.M_l0 (c51 : f_ref7_HasString.E) (c52 : f_slices_Index_string.E) (k n : Nat)  (s : St) : Option (X_Bound × (List UInt8)) := atLoop (f_ref7_Bound.C c51 c52) k n [1, 1, 0, 1, 0] [] f_ref7_Bound.code (f_ref7_Bound.fin c51 c52) s
noncomputable def f_ref7_Bound.fr_l0 (x0 : List X_Param) (x1 : List X_Value) (x3 : List UInt8) (x6 : (List X_Value) × ((List (List UInt8)) × (List X_Value))) (x8 : (List X_Value) × X_Arguments) (x10 : Int) (x11 : Bool) (x12 : Bool) (x30 : List X_Param) (x31 : Int) (x32 : Int) : St := ⟨((((((((((((List.replicate 251 V.un).set 0 (V.dat (.sl 51 Y_Param) x0)).set 1 (V.dat (.sl 58 Y_Value) x1)).set 3 (V.dat .str x3)).set 6 (V.bp 600006 0 [])).set 8 (V.bp 600008 0 [])).set 10 (V.dat (.int .i64) x10)).set 11 (V.dat .bool x11)).set 12 (V.dat .bool x12)).set 30 (V.dat (.sl 51 Y_Param) x30)).set 31 (V.dat (.int .i64) x31)).set 32 (V.dat (.int .i64) x32)), [⟨600008, 0, .box (V.st (V.ref 11600128 0 0 (List.length x8.1)) (V.st (V.ref 11600129 0 0 (List.length x8.2.1)) (V.st (V.ref 11600130 0 0 (List.length x8.2.2.1)) (V.ref 11600131 0 0 (List.length x8.2.2.2)))))⟩, ⟨11600128, 0, .arr 58 Y_Value x8.1⟩, ⟨11600129, 0, .arr 58 Y_Value x8.2.1⟩, ⟨11600130, 0, .arr 9 .str x8.2.2.1⟩, ⟨11600131, 0, .arr 58 Y_Value x8.2.2.2⟩, ⟨600006, 0, .box (V.dat Y_Arguments x6)⟩]⟩
noncomputable def f_ref7_Bound.M_l3 (c51 : f_ref7_HasString.E) (c52 : f_slices_Index_string.E) (k n : Nat)  (s : St) : Option (X_Bound × (List UInt8)) := atLoop (f_ref7_Bound.C c51 c52) k n [1, 1, 1, 1, 1, 1, 0, 1, 0] [] f_ref7_Bound.code (f_ref7_Bound.fin c51 c52) s
noncomputable def f_ref7_Bound.fr_l3 (x0 : List X_Param) (x1 : List X_Value) (x3 : List UInt8) (x6 : (List X_Value) × ((List (List UInt8)) × (List X_Value))) (x8 : (List X_Value) × X_Arguments) (x10 : Int) (x12 : Bool) (x15 : List (List UInt8)) (x16 : List X_Value) (x68 : List X_Param) (x69 : Int) (x70 : Int) : St := ⟨(((((((((((((List.replicate 251 V.un).set 0 (V.dat (.sl 51 Y_Param) x0)).set 1 (V.dat (.sl 58 Y_Value) x1)).set 3 (V.dat .str x3)).set 6 (V.bp 600006 0 [])).set 8 (V.bp 600008 0 [])).set 10 (V.dat (.int .i64) x10)).set 12 (V.dat .bool x12)).set 15 (V.ref 500015 0 0 (List.length x15))).set 16 (V.ref 500016 0 0 (List.length x16))).set 68 (V.dat (.sl 51 Y_Param) x68)).set 69 (V.dat (.int .i64) x69)).set 70 (V.dat (.int .i64) x70)), [⟨500016, 0, .arr 58 Y_Value x16⟩, ⟨500015, 0, .arr 9 .str x15⟩, ⟨600008, 0, .box (V.st (V.ref 11600128 0 0 (List.length x8.1)) (V.st (V.ref 11600129 0 0 (List.length x8.2.1)) (V.st (V.ref 11600130 0 0 (List.length x8.2.2.1)) (V.ref 11600131 0 0 (List.length x8.2.2.2)))))⟩, ⟨11600128, 0, .arr 58 Y_Value x8.1⟩, ⟨11600129, 0, .arr 58 Y_Value x8.2.1⟩, ⟨11600130, 0, .arr 9 .str x8.2.2.1⟩, ⟨11600131, 0, .arr 58 Y_Value x8.2.2.2⟩, ⟨600006, 0, .box (V.dat Y_Arguments x6)⟩]⟩
noncomputable def f_ref7_Bound.M_l5 (c51 : f_ref7_HasString.E) (c52 : f_slices_Index_string.E) (k n : Nat)  (s : St) : Option (X_Bound × (List UInt8)) := atLoop (f_ref7_Bound.C c51 c52) k n [1, 1, 1, 1, 1, 1, 1, 1, 1, 0, 1, 0] [] f_ref7_Bound.code (f_ref7_Bound.fin c51 c52) s
noncomputable def f_ref7_Bound.fr_l5 (x0 : List X_Param) (x1 : List X_Value) (x3 : List UInt8) (x6 : (List X_Value) × ((List (List UInt8)) × (List X_Value))) (x8 : (List X_Value) × X_Arguments) (x12 : Bool) (x15 : List (List UInt8)) (x16 : List X_Value) (x19 : (List X_Value) × X_Arguments) (x113 : List (List UInt8)) (x114 : Int) (x115 : Int) : St := ⟨(((((((((((((List.replicate 251 V.un).set 0 (V.dat (.sl 51 Y_Param) x0)).set 1 (V.dat (.sl 58 Y_Value) x1)).set 3 (V.dat .str x3)).set 6 (V.bp 600006 0 [])).set 8 (V.bp 600008 0 [])).set 12 (V.dat .bool x12)).set 15 (V.ref 500015 0 0 (List.length x15))).set 16 (V.ref 500016 0 0 (List.length x16))).set 19 (V.bp 600019 0 [])).set 113 (V.dat (.sl 9 .str) x113)).set 114 (V.dat (.int .i64) x114)).set 115 (V.dat (.int .i64) x115)), [⟨600019, 0, .box (V.st (V.ref 11600304 0 0 (List.length x19.1)) (V.st (V.ref 11600305 0 0 (List.length x19.2.1)) (V.st (V.ref 11600306 0 0 (List.length x19.2.2.1)) (V.ref 11600307 0 0 (List.length x19.2.2.2)))))⟩, ⟨11600304, 0, .arr 58 Y_Value x19.1⟩, ⟨11600305, 0, .arr 58 Y_Value x19.2.1⟩, ⟨11600306, 0, .arr 9 .str x19.2.2.1⟩, ⟨11600307, 0, .arr 58 Y_Value x19.2.2.2⟩, ⟨500016, 0, .arr 58 Y_Value x16⟩, ⟨500015, 0, .arr 9 .str x15⟩, ⟨600008, 0, .box (V.st (V.ref 11600128 0 0 (List.length x8.1)) (V.st (V.ref 11600129 0 0 (List.length x8.2.1)) (V.st (V.ref 11600130 0 0 (List.length x8.2.2.1)) (V.ref 11600131 0 0 (List.length x8.2.2.2)))))⟩, ⟨11600128, 0, .arr 58 Y_Value x8.1⟩, ⟨11600129, 0, .arr 58 Y_Value x8.2.1⟩, ⟨11600130, 0, .arr 9 .str x8.2.2.1⟩, ⟨11600131, 0, .arr 58 Y_Value x8.2.2.2⟩, ⟨600006, 0, .box (V.dat Y_Arguments x6)⟩]⟩
noncomputable def f_ref7_Bound.M_l7 (c51 : f_ref7_HasString.E) (c52 : f_slices_Index_string.E) (k n : Nat) (m0 : Nat) (s : St) : Option (X_Bound × (List UInt8)) := atLoop (f_ref7_Bound.C c51 c52) k n [1, 1, 1, 1, 1, 1, 1, 1, 1, 0, 1, 0, 0, 1, 1, 0, 0, 1, 1, 1, 0, 1, 0] [m0] f_ref7_Bound.code (f_ref7_Bound.fin c51 c52) s
noncomputable def f_ref7_Bound.fr_l7 (x0 : List X_Param) (x1 : List X_Value) (x3 : List UInt8) (x6 : (List X_Value) × ((List (List UInt8)) × (List X_Value))) (x8 : (List X_Value) × X_Arguments) (x12 : Bool) (x15 : List (List UInt8)) (x16 : List X_Value) (x19 : (List X_Value) × X_Arguments) (x20 : Int) (x21 : List UInt8) (x22 : Bool) (x113 : List (List UInt8)) (x114 : Int) (x115 : Int) (x129 : List X_Param) (x130 : Int) (x131 : Int) : St := ⟨(((((((((((((((((((List.replicate 251 V.un).set 0 (V.dat (.sl 51 Y_Param) x0)).set 1 (V.dat (.sl 58 Y_Value) x1)).set 3 (V.dat .str x3)).set 6 (V.bp 600006 0 [])).set 8 (V.bp 600008 0 [])).set 12 (V.dat .bool x12)).set 15 (V.ref 500015 0 0 (List.length x15))).set 16 (V.ref 500016 0 0 (List.length x16))).set 19 (V.bp 600019 0 [])).set 20 (V.dat (.int .i64) x20)).set 21 (V.dat .str x21)).set 22 (V.dat .bool x22)).set 113 (V.dat (.sl 9 .str) x113)).set 114 (V.dat (.int .i64) x114)).set 115 (V.dat (.int .i64) x115)).set 129 (V.dat (.sl 51 Y_Param) x129)).set 130 (V.dat (.int .i64) x130)).set 131 (V.dat (.int .i64) x131)), [⟨600019, 0, .box (V.st (V.ref 11600304 0 0 (List.length x19.1)) (V.st (V.ref 11600305 0 0 (List.length x19.2.1)) (V.st (V.ref 11600306 0 0 (List.length x19.2.2.1)) (V.ref 11600307 0 0 (List.length x19.2.2.2)))))⟩, ⟨11600304, 0, .arr 58 Y_Value x19.1⟩, ⟨11600305, 0, .arr 58 Y_Value x19.2.1⟩, ⟨11600306, 0, .arr 9 .str x19.2.2.1⟩, ⟨11600307, 0, .arr 58 Y_Value x19.2.2.2⟩, ⟨500016, 0, .arr 58 Y_Value x16⟩, ⟨500015, 0, .arr 9 .str x15⟩, ⟨600008, 0, .box (V.st (V.ref 11600128 0 0 (List.length x8.1)) (V.st (V.ref 11600129 0 0 (List.length x8.2.1)) (V.st (V.ref 11600130 0 0 (List.length x8.2.2.1)) (V.ref 11600131 0 0 (List.length x8.2.2.2)))))⟩, ⟨11600128, 0, .arr 58 Y_Value x8.1⟩, ⟨11600129, 0, .arr 58 Y_Value x8.2.1⟩, ⟨11600130, 0, .arr 9 .str x8.2.2.1⟩, ⟨11600131, 0, .arr 58 Y_Value x8.2.2.2⟩, ⟨600006, 0, .box (V.dat Y_Arguments x6)⟩]⟩
noncomputable def f_ref7_Bound.M_g38 (c51 : f_ref7_HasString.E) (c52 : f_slices_Index_string.E) (k : Nat) (m0 : Nat) (s : St) : Option (X_Bound × (List UInt8)) := atGate (f_ref7_Bound.C c51 c52) k [1, 1, 1, 1, 1, 1, 1, 1, 1, 0, 1, 0, 0, 1, 1, 0, 0, 1, 1, 1, 1, 1, 0] [m0] f_ref7_Bound.code (f_ref7_Bound.fin c51 c52) s
noncomputable def f_ref7_Bound.fr_g38 (x0 : List X_Param) (x1 : List X_Value) (x3 : List UInt8) (x6 : (List X_Value) × ((List (List UInt8)) × (List X_Value))) (x8 : (List X_Value) × X_Arguments) (x12 : Bool) (x15 : List (List UInt8)) (x16 : List X_Value) (x19 : (List X_Value) × X_Arguments) (x20 : Int) (x21 : List UInt8) (x22 : Bool) (x113 : List (List UInt8)) (x114 : Int) (x115 : Int) : St := ⟨((((((((((((((((List.replicate 251 V.un).set 0 (V.dat (.sl 51 Y_Param) x0)).set 1 (V.dat (.sl 58 Y_Value) x1)).set 3 (V.dat .str x3)).set 6 (V.bp 600006 0 [])).set 8 (V.bp 600008 0 [])).set 12 (V.dat .bool x12)).set 15 (V.ref 500015 0 0 (List.length x15))).set 16 (V.ref 500016 0 0 (List.length x16))).set 19 (V.bp 600019 0 [])).set 20 (V.dat (.int .i64) x20)).set 21 (V.dat .str x21)).set 22 (V.dat .bool x22)).set 113 (V.dat (.sl 9 .str) x113)).set 114 (V.dat (.int .i64) x114)).set 115 (V.dat (.int .i64) x115)), [⟨600019, 0, .box (V.st (V.ref 11600304 0 0 (List.length x19.1)) (V.st (V.ref 11600305 0 0 (List.length x19.2.1)) (V.st (V.ref 11600306 0 0 (List.length x19.2.2.1)) (V.ref 11600307 0 0 (List.length x19.2.2.2)))))⟩, ⟨11600304, 0, .arr 58 Y_Value x19.1⟩, ⟨11600305, 0, .arr 58 Y_Value x19.2.1⟩, ⟨11600306, 0, .arr 9 .str x19.2.2.1⟩, ⟨11600307, 0, .arr 58 Y_Value x19.2.2.2⟩, ⟨500016, 0, .arr 58 Y_Value x16⟩, ⟨500015, 0, .arr 9 .str x15⟩, ⟨600008, 0, .box (V.st (V.ref 11600128 0 0 (List.length x8.1)) (V.st (V.ref 11600129 0 0 (List.length x8.2.1)) (V.st (V.ref 11600130 0 0 (List.length x8.2.2.1)) (V.ref 11600131 0 0 (List.length x8.2.2.2)))))⟩, ⟨11600128, 0, .arr 58 Y_Value x8.1⟩, ⟨11600129, 0, .arr 58 Y_Value x8.2.1⟩, ⟨11600130, 0, .arr 9 .str x8.2.2.1⟩, ⟨11600131, 0, .arr 58 Y_Value x8.2.2.2⟩, ⟨600006, 0, .box (V.dat Y_Arguments x6)⟩]⟩
noncomputable def f_ref7_Bound.M_l9 (c51 : f_ref7_HasString.E) (c52 : f_slices_Index_string.E) (k n : Nat)  (s : St) : Option (X_Bound × (List UInt8)) := atLoop (f_ref7_Bound.C c51 c52) k n [1, 1, 1, 1, 1, 1, 1, 1, 1, 1, 1, 0, 1, 0] [] f_ref7_Bound.code (f_ref7_Bound.fin c51 c52) s
noncomputable def f_ref7_Bound.fr_l9 (x1 : List X_Value) (x3 : List UInt8) (x8 : (List X_Value) × X_Arguments) (x15 : List (List UInt8)) (x16 : List X_Value) (x19 : (List X_Value) × X_Arguments) (x25 : Int) (x196 : List X_Param) (x197 : Int) (x198 : Int) : St := ⟨(((((((((((List.replicate 251 V.un).set 1 (V.dat (.sl 58 Y_Value) x1)).set 3 (V.dat .str x3)).set 8 (V.bp 600008 0 [])).set 15 (V.ref 500015 0 0 (List.length x15))).set 16 (V.ref 500016 0 0 (List.length x16))).set 19 (V.bp 600019 0 [])).set 25 (V.dat (.int .i64) x25)).set 196 (V.dat (.sl 51 Y_Param) x196)).set 197 (V.dat (.int .i64) x197)).set 198 (V.dat (.int .i64) x198)), [⟨600019, 0, .box (V.st (V.ref 11600304 0 0 (List.length x19.1)) (V.st (V.ref 11600305 0 0 (List.length x19.2.1)) (V.st (V.ref 11600306 0 0 (List.length x19.2.2.1)) (V.ref 11600307 0 0 (List.length x19.2.2.2)))))⟩, ⟨11600304, 0, .arr 58 Y_Value x19.1⟩, ⟨11600305, 0, .arr 58 Y_Value x19.2.1⟩, ⟨11600306, 0, .arr 9 .str x19.2.2.1⟩, ⟨11600307, 0, .arr 58 Y_Value x19.2.2.2⟩, ⟨500016, 0, .arr 58 Y_Value x16⟩, ⟨500015, 0, .arr 9 .str x15⟩, ⟨600008, 0, .box (V.st (V.ref 11600128 0 0 (List.length x8.1)) (V.st (V.ref 11600129 0 0 (List.length x8.2.1)) (V.st (V.ref 11600130 0 0 (List.length x8.2.2.1)) (V.ref 11600131 0 0 (List.length x8.2.2.2)))))⟩, ⟨11600128, 0, .arr 58 Y_Value x8.1⟩, ⟨11600129, 0, .arr 58 Y_Value x8.2.1⟩, ⟨11600130, 0, .arr 9 .str x8.2.2.1⟩, ⟨11600131, 0, .arr 58 Y_Value x8.2.2.2⟩]⟩
noncomputable def f_ref7_Bound.M_g48 (c51 : f_ref7_HasString.E) (c52 : f_slices_Index_string.E) (k : Nat) (m0 : Nat) (s : St) : Option (X_Bound × (List UInt8)) := atGate (f_ref7_Bound.C c51 c52) k [1, 1, 1, 1, 1, 1, 1, 1, 1, 1, 1, 0, 1, 0, 0, 1, 1, 0, 0, 1, 1, 0, 1, 0, 0] [m0] f_ref7_Bound.code (f_ref7_Bound.fin c51 c52) s
noncomputable def f_ref7_Bound.fr_g48 (x1 : List X_Value) (x3 : List UInt8) (x8 : (List X_Value) × X_Arguments) (x15 : List (List UInt8)) (x16 : List X_Value) (x19 : (List X_Value) × X_Arguments) (x25 : Int) (x27 : (Int) × ((List UInt8) × (List (Unit)))) (x28 : (Int) × (X_Int × (X_Int × X_errorAddressString))) (x196 : List X_Param) (x197 : Int) (x198 : Int) : St := ⟨(((((((((((((List.replicate 251 V.un).set 1 (V.dat (.sl 58 Y_Value) x1)).set 3 (V.dat .str x3)).set 8 (V.bp 600008 0 [])).set 15 (V.ref 500015 0 0 (List.length x15))).set 16 (V.ref 500016 0 0 (List.length x16))).set 19 (V.bp 600019 0 [])).set 25 (V.dat (.int .i64) x25)).set 27 (V.bp 600027 0 [])).set 28 (V.bp 600028 0 [])).set 196 (V.dat (.sl 51 Y_Param) x196)).set 197 (V.dat (.int .i64) x197)).set 198 (V.dat (.int .i64) x198)), [⟨600028, 0, .box (V.st (V.dat (.int .i64) x28.1) (V.st (V.st (V.dat .bool x28.2.1.1) (V.ref 11600448 0 0 (List.length x28.2.1.2))) (V.st (V.st (V.dat .bool x28.2.2.1.1) (V.ref 11600449 0 0 (List.length x28.2.2.1.2))) (V.dat (.pair .str (.int .i64)) x28.2.2.2))))⟩, ⟨11600448, 0, .arr 113 (.int .u32) x28.2.1.2⟩, ⟨11600449, 0, .arr 113 (.int .u32) x28.2.2.1.2⟩, ⟨600027, 0, .box (V.dat Y_Param x27)⟩, ⟨600019, 0, .box (V.st (V.ref 11600304 0 0 (List.length x19.1)) (V.st (V.ref 11600305 0 0 (List.length x19.2.1)) (V.st (V.ref 11600306 0 0 (List.length x19.2.2.1)) (V.ref 11600307 0 0 (List.length x19.2.2.2)))))⟩, ⟨11600304, 0, .arr 58 Y_Value x19.1⟩, ⟨11600305, 0, .arr 58 Y_Value x19.2.1⟩, ⟨11600306, 0, .arr 9 .str x19.2.2.1⟩, ⟨11600307, 0, .arr 58 Y_Value x19.2.2.2⟩, ⟨500016, 0, .arr 58 Y_Value x16⟩, ⟨500015, 0, .arr 9 .str x15⟩, ⟨600008, 0, .box (V.st (V.ref 11600128 0 0 (List.length x8.1)) (V.st (V.ref 11600129 0 0 (List.length x8.2.1)) (V.st (V.ref 11600130 0 0 (List.length x8.2.2.1)) (V.ref 11600131 0 0 (List.length x8.2.2.2)))))⟩, ⟨11600128, 0, .arr 58 Y_Value x8.1⟩, ⟨11600129, 0, .arr 58 Y_Value x8.2.1⟩, ⟨11600130, 0, .arr 9 .str x8.2.2.1⟩, ⟨11600131, 0, .arr 58 Y_Value x8.2.2.2⟩]⟩
noncomputable def f_ref7_Bound.M_g54 (c51 : f_ref7_HasString.E) (c52 : f_slices_Index_string.E) (k : Nat) (m0 : Nat) (s : St) : Option (X_Bound × (List UInt8)) := atGate (f_ref7_Bound.C c51 c52) k [1, 1, 1, 1, 1, 1, 1, 1, 1, 1, 1, 0, 1, 0, 0, 1, 1, 0, 0, 1, 1, 1, 0] [m0] f_ref7_Bound.code (f_ref7_Bound.fin c51 c52) s
noncomputable def f_ref7_Bound.fr_g54 (x1 : List X_Value) (x3 : List UInt8) (x8 : (List X_Value) × X_Arguments) (x15 : List (List UInt8)) (x16 : List X_Value) (x19 : (List X_Value) × X_Arguments) (x25 : Int) (x27 : (Int) × ((List UInt8) × (List (Unit)))) (x28 : (Int) × (X_Int × (X_Int × X_errorAddressString))) (x196 : List X_Param) (x197 : Int) (x198 : Int) : St := ⟨(((((((((((((List.replicate 251 V.un).set 1 (V.dat (.sl 58 Y_Value) x1)).set 3 (V.dat .str x3)).set 8 (V.bp 600008 0 [])).set 15 (V.ref 500015 0 0 (List.length x15))).set 16 (V.ref 500016 0 0 (List.length x16))).set 19 (V.bp 600019 0 [])).set 25 (V.dat (.int .i64) x25)).set 27 (V.bp 600027 0 [])).set 28 (V.bp 600028 0 [])).set 196 (V.dat (.sl 51 Y_Param) x196)).set 197 (V.dat (.int .i64) x197)).set 198 (V.dat (.int .i64) x198)), [⟨600028, 0, .box (V.dat Y_Value (x28.1, ((x28.2.1.1, x28.2.1.2), ((x28.2.2.1.1, x28.2.2.1.2), x28.2.2.2))))⟩, ⟨600027, 0, .box (V.dat Y_Param x27)⟩, ⟨600019, 0, .box (V.st (V.ref 11600304 0 0 (List.length x19.1)) (V.st (V.ref 11600305 0 0 (List.length x19.2.1)) (V.st (V.ref 11600306 0 0 (List.length x19.2.2.1)) (V.ref 11600307 0 0 (List.length x19.2.2.2)))))⟩, ⟨11600304, 0, .arr 58 Y_Value x19.1⟩, ⟨11600305, 0, .arr 58 Y_Value x19.2.1⟩, ⟨11600306, 0, .arr 9 .str x19.2.2.1⟩, ⟨11600307, 0, .arr 58 Y_Value x19.2.2.2⟩, ⟨500016, 0, .arr 58 Y_Value x16⟩, ⟨500015, 0, .arr 9 .str x15⟩, ⟨600008, 0, .box (V.st (V.ref 11600128 0 0 (List.length x8.1)) (V.st (V.ref 11600129 0 0 (List.length x8.2.1)) (V.st (V.ref 11600130 0 0 (List.length x8.2.2.1)) (V.ref 11600131 0 0 (List.length x8.2.2.2)))))⟩, ⟨11600128, 0, .arr 58 Y_Value x8.1⟩, ⟨11600129, 0, .arr 58 Y_Value x8.2.1⟩, ⟨11600130, 0, .arr 9 .str x8.2.2.1⟩, ⟨11600131, 0, .arr 58 Y_Value x8.2.2.2⟩]⟩
theorem f_ref7_Bound.r (c51 : f_ref7_HasString.E) (c52 : f_slices_Index_string.E) (k : Nat) (a0 : List X_Param) (a1 : List X_Value) (a2 : (List X_Value) × ((List (List UInt8)) × (List X_Value))) (a3 : List UInt8) : fn (f_ref7_Bound.C c51 c52) k Try.f21 f_ref7_Bound.A f_ref7_Bound.R (a0, (a1, (a2, a3))) = f_ref7_Bound.b c51 c52 (fun x0 x1 x3 x6 x8 x10 x11 x12 x30 x31 x32 => f_ref7_Bound.M_l0 c51 c52 k k  (f_ref7_Bound.fr_l0 x0 x1 x3 x6 x8 x10 x11 x12 x30 x31 x32)) a0 a1 a2 a3 := by kernel_rfl
theorem f_ref7_Bound.z_l0 (c51 : f_ref7_HasString.E) (c52 : f_slices_Index_string.E) (k : Nat)  (s : St) : f_ref7_Bound.M_l0 c51 c52 k 0  s = none := by kernel_rfl
theorem f_ref7_Bound.r_l0 (c51 : f_ref7_HasString.E) (c52 : f_slices_Index_string.E) (k n : Nat)  (x0 : List X_Param) (x1 : List X_Value) (x3 : List UInt8) (x6 : (List X_Value) × ((List (List UInt8)) × (List X_Value))) (x8 : (List X_Value) × X_Arguments) (x10 : Int) (x11 : Bool) (x12 : Bool) (x30 : List X_Param) (x31 : Int) (x32 : Int) : f_ref7_Bound.M_l0 c51 c52 k (n + 1)  (f_ref7_Bound.fr_l0 x0 x1 x3 x6 x8 x10 x11 x12 x30 x31 x32) = f_ref7_Bound.b_l0 c51 c52 (fun x0 x1 x3 x6 x8 x10 x11 x12 x30 x31 x32 => f_ref7_Bound.M_l0 c51 c52 k n  (f_ref7_Bound.fr_l0 x0 x1 x3 x6 x8 x10 x11 x12 x30 x31 x32)) (fun x0 x1 x3 x6 x8 x10 x12 x15 x16 x68 x69 x70 => f_ref7_Bound.M_l3 c51 c52 k k  (f_ref7_Bound.fr_l3 x0 x1 x3 x6 x8 x10 x12 x15 x16 x68 x69 x70)) x0 x1 x3 x6 x8 x10 x11 x12 x30 x31 x32 := by kernel_rfl
theorem f_ref7_Bound.z_l3 (c51 : f_ref7_HasString.E) (c52 : f_slices_Index_string.E) (k : Nat)  (s : St) : f_ref7_Bound.M_l3 c51 c52 k 0  s = none := by kernel_rfl
theorem f_ref7_Bound.r_l3 (c51 : f_ref7_HasString.E) (c52 : f_slices_Index_string.E) (k n : Nat)  (x0 : List X_Param) (x1 : List X_Value) (x3 : List UInt8) (x6 : (List X_Value) × ((List (List UInt8)) × (List X_Value))) (x8 : (List X_Value) × X_Arguments) (x10 : Int) (x12 : Bool) (x15 : List (List UInt8)) (x16 : List X_Value) (x68 : List X_Param) (x69 : Int) (x70 : Int) : f_ref7_Bound.M_l3 c51 c52 k (n + 1)  (f_ref7_Bound.fr_l3 x0 x1 x3 x6 x8 x10 x12 x15 x16 x68 x69 x70) = f_ref7_Bound.b_l3 c51 c52 (fun x0 x1 x3 x6 x8 x10 x12 x15 x16 x68 x69 x70 => f_ref7_Bound.M_l3 c51 c52 k n  (f_ref7_Bound.fr_l3 x0 x1 x3 x6 x8 x10 x12 x15 x16 x68 x69 x70)) (fun x0 x1 x3 x6 x8 x12 x15 x16 x19 x113 x114 x115 => f_ref7_Bound.M_l5 c51 c52 k k  (f_ref7_Bound.fr_l5 x0 x1 x3 x6 x8 x12 x15 x16 x19 x113 x114 x115)) x0 x1 x3 x6 x8 x10 x12 x15 x16 x68 x69 x70 := by kernel_rfl
theorem f_ref7_Bound.z_l5 (c51 : f_ref7_HasString.E) (c52 : f_slices_Index_string.E) (k : Nat)  (s : St) : f_ref7_Bound.M_l5 c51 c52 k 0  s = none := by kernel_rfl
theorem f_ref7_Bound.r_l5 (c51 : f_ref7_HasString.E) (c52 : f_slices_Index_string.E) (k n : Nat)  (x0 : List X_Param) (x1 : List X_Value) (x3 : List UInt8) (x6 : (List X_Value) × ((List (List UInt8)) × (List X_Value))) (x8 : (List X_Value) × X_Arguments) (x12 : Bool) (x15 : List (List UInt8)) (x16 : List X_Value) (x19 : (List X_Value) × X_Arguments) (x113 : List (List UInt8)) (x114 : Int) (x115 : Int) : f_ref7_Bound.M_l5 c51 c52 k (n + 1)  (f_ref7_Bound.fr_l5 x0 x1 x3 x6 x8 x12 x15 x16 x19 x113 x114 x115) = f_ref7_Bound.b_l5 c51 c52 (fun x0 x1 x3 x6 x8 x12 x15 x16 x19 x20 x21 x22 x113 x114 x115 x129 x130 x131 => f_ref7_Bound.M_l7 c51 c52 k k n (f_ref7_Bound.fr_l7 x0 x1 x3 x6 x8 x12 x15 x16 x19 x20 x21 x22 x113 x114 x115 x129 x130 x131)) (fun x1 x3 x8 x15 x16 x19 x25 x196 x197 x198 => f_ref7_Bound.M_l9 c51 c52 k k  (f_ref7_Bound.fr_l9 x1 x3 x8 x15 x16 x19 x25 x196 x197 x198)) x0 x1 x3 x6 x8 x12 x15 x16 x19 x113 x114 x115 := by kernel_rfl
theorem f_ref7_Bound.z_l7 (c51 : f_ref7_HasString.E) (c52 : f_slices_Index_string.E) (k : Nat) (m0 : Nat) (s : St) : f_ref7_Bound.M_l7 c51 c52 k 0 m0 s = none := by kernel_rfl
theorem f_ref7_Bound.r_l7 (c51 : f_ref7_HasString.E) (c52 : f_slices_Index_string.E) (k n : Nat) (m0 : Nat) (x0 : List X_Param) (x1 : List X_Value) (x3 : List UInt8) (x6 : (List X_Value) × ((List (List UInt8)) × (List X_Value))) (x8 : (List X_Value) × X_Arguments) (x12 : Bool) (x15 : List (List UInt8)) (x16 : List X_Value) (x19 : (List X_Value) × X_Arguments) (x20 : Int) (x21 : List UInt8) (x22 : Bool) (x113 : List (List UInt8)) (x114 : Int) (x115 : Int) (x129 : List X_Param) (x130 : Int) (x131 : Int) : f_ref7_Bound.M_l7 c51 c52 k (n + 1) m0 (f_ref7_Bound.fr_l7 x0 x1 x3 x6 x8 x12 x15 x16 x19 x20 x21 x22 x113 x114 x115 x129 x130 x131) = f_ref7_Bound.b_l7 c51 c52 (fun x0 x1 x3 x6 x8 x12 x15 x16 x19 x20 x21 x22 x113 x114 x115 x129 x130 x131 => f_ref7_Bound.M_l7 c51 c52 k n m0 (f_ref7_Bound.fr_l7 x0 x1 x3 x6 x8 x12 x15 x16 x19 x20 x21 x22 x113 x114 x115 x129 x130 x131)) (fun x0 x1 x3 x6 x8 x12 x15 x16 x19 x20 x21 x22 x113 x114 x115 => f_ref7_Bound.M_g38 c51 c52 k  m0 (f_ref7_Bound.fr_g38 x0 x1 x3 x6 x8 x12 x15 x16 x19 x20 x21 x22 x113 x114 x115)) x0 x1 x3 x6 x8 x12 x15 x16 x19 x20 x21 x22 x113 x114 x115 x129 x130 x131 := by kernel_rfl
theorem f_ref7_Bound.r_g38 (c51 : f_ref7_HasString.E) (c52 : f_slices_Index_string.E) (k : Nat) (m0 : Nat) (x0 : List X_Param) (x1 : List X_Value) (x3 : List UInt8) (x6 : (List X_Value) × ((List (List UInt8)) × (List X_Value))) (x8 : (List X_Value) × X_Arguments) (x12 : Bool) (x15 : List (List UInt8)) (x16 : List X_Value) (x19 : (List X_Value) × X_Arguments) (x20 : Int) (x21 : List UInt8) (x22 : Bool) (x113 : List (List UInt8)) (x114 : Int) (x115 : Int) : f_ref7_Bound.M_g38 c51 c52 k m0 (f_ref7_Bound.fr_g38 x0 x1 x3 x6 x8 x12 x15 x16 x19 x20 x21 x22 x113 x114 x115) = gate k (f_ref7_Bound.b_g38 c51 c52 (fun x0 x1 x3 x6 x8 x12 x15 x16 x19 x113 x114 x115 => f_ref7_Bound.M_l5 c51 c52 k m0  (f_ref7_Bound.fr_l5 x0 x1 x3 x6 x8 x12 x15 x16 x19 x113 x114 x115)) x0 x1 x3 x6 x8 x12 x15 x16 x19 x20 x21 x22 x113 x114 x115) := by kernel_rfl
theorem f_ref7_Bound.z_l9 (c51 : f_ref7_HasString.E) (c52 : f_slices_Index_string.E) (k : Nat)  (s : St) : f_ref7_Bound.M_l9 c51 c52 k 0  s = none := by kernel_rfl
theorem f_ref7_Bound.r_l9 (c51 : f_ref7_HasString.E) (c52 : f_slices_Index_string.E) (k n : Nat)  (x1 : List X_Value) (x3 : List UInt8) (x8 : (List X_Value) × X_Arguments) (x15 : List (List UInt8)) (x16 : List X_Value) (x19 : (List X_Value) × X_Arguments) (x25 : Int) (x196 : List X_Param) (x197 : Int) (x198 : Int) : f_ref7_Bound.M_l9 c51 c52 k (n + 1)  (f_ref7_Bound.fr_l9 x1 x3 x8 x15 x16 x19 x25 x196 x197 x198) = f_ref7_Bound.b_l9 c51 c52 (fun x1 x3 x8 x15 x16 x19 x25 x27 x28 x196 x197 x198 => f_ref7_Bound.M_g48 c51 c52 k  n (f_ref7_Bound.fr_g48 x1 x3 x8 x15 x16 x19 x25 x27 x28 x196 x197 x198)) (fun x1 x3 x8 x15 x16 x19 x25 x27 x28 x196 x197 x198 => f_ref7_Bound.M_g54 c51 c52 k  n (f_ref7_Bound.fr_g54 x1 x3 x8 x15 x16 x19 x25 x27 x28 x196 x197 x198)) x1 x3 x8 x15 x16 x19 x25 x196 x197 x198 := by kernel_rfl
theorem f_ref7_Bound.r_g48 (c51 : f_ref7_HasString.E) (c52 : f_slices_Index_string.E) (k : Nat) (m0 : Nat) (x1 : List X_Value) (x3 : List UInt8) (x8 : (List X_Value) × X_Arguments) (x15 : List (List UInt8)) (x16 : List X_Value) (x19 : (List X_Value) × X_Arguments) (x25 : Int) (x27 : (Int) × ((List UInt8) × (List (Unit)))) (x28 : (Int) × (X_Int × (X_Int × X_errorAddressString))) (x196 : List X_Param) (x197 : Int) (x198 : Int) : f_ref7_Bound.M_g48 c51 c52 k m0 (f_ref7_Bound.fr_g48 x1 x3 x8 x15 x16 x19 x25 x27 x28 x196 x197 x198) = gate k (f_ref7_Bound.b_g48 c51 c52 (fun x1 x3 x8 x15 x16 x19 x25 x27 x28 x196 x197 x198 => f_ref7_Bound.M_g54 c51 c52 k  m0 (f_ref7_Bound.fr_g54 x1 x3 x8 x15 x16 x19 x25 x27 x28 x196 x197 x198)) x1 x3 x8 x15 x16 x19 x25 x27 x28 x196 x197 x198) := by kernel_rfl
theorem f_ref7_Bound.r_g54 (c51 : f_ref7_HasString.E) (c52 : f_slices_Index_string.E) (k : Nat) (m0 : Nat) (x1 : List X_Value) (x3 : List UInt8) (x8 : (List X_Value) × X_Arguments) (x15 : List (List UInt8)) (x16 : List X_Value) (x19 : (List X_Value) × X_Arguments) (x25 : Int) (x27 : (Int) × ((List UInt8) × (List (Unit)))) (x28 : (Int) × (X_Int × (X_Int × X_errorAddressString))) (x196 : List X_Param) (x197 : Int) (x198 : Int) : f_ref7_Bound.M_g54 c51 c52 k m0 (f_ref7_Bound.fr_g54 x1 x3 x8 x15 x16 x19 x25 x27 x28 x196 x197 x198) = gate k (f_ref7_Bound.b_g54 c51 c52 (fun x1 x3 x8 x15 x16 x19 x25 x196 x197 x198 => f_ref7_Bound.M_l9 c51 c52 k m0  (f_ref7_Bound.fr_l9 x1 x3 x8 x15 x16 x19 x25 x196 x197 x198)) x1 x3 x8 x15 x16 x19 x25 x27 x28 x196 x197 x198) := by kernel_rfl
theorem f_ref7_Bound.e_g38 (c51 : f_ref7_HasString.E) (c52 : f_slices_Index_string.E) (k : Nat) (m0 : Nat) (x0 : List X_Param) (x1 : List X_Value) (x3 : List UInt8) (x6 : (List X_Value) × ((List (List UInt8)) × (List X_Value))) (x8 : (List X_Value) × X_Arguments) (x12 : Bool) (x15 : List (List UInt8)) (x16 : List X_Value) (x19 : (List X_Value) × X_Arguments) (x20 : Int) (x21 : List UInt8) (x22 : Bool) (x113 : List (List UInt8)) (x114 : Int) (x115 : Int) : f_ref7_Bound.M_g38 c51 c52 k m0 (f_ref7_Bound.fr_g38 x0 x1 x3 x6 x8 x12 x15 x16 x19 x20 x21 x22 x113 x114 x115) = f_ref7_Bound.g38 c51 c52 k (fun x0 x1 x3 x6 x8 x12 x15 x16 x19 x113 x114 x115 => f_ref7_Bound.M_l5 c51 c52 k m0  (f_ref7_Bound.fr_l5 x0 x1 x3 x6 x8 x12 x15 x16 x19 x113 x114 x115)) x0 x1 x3 x6 x8 x12 x15 x16 x19 x20 x21 x22 x113 x114 x115 := by
  rw [f_ref7_Bound.r_g38]
  rfl
theorem f_ref7_Bound.e_l7 (c51 : f_ref7_HasString.E) (c52 : f_slices_Index_string.E) (k n : Nat) (m0 : Nat) (x0 : List X_Param) (x1 : List X_Value) (x3 : List UInt8) (x6 : (List X_Value) × ((List (List UInt8)) × (List X_Value))) (x8 : (List X_Value) × X_Arguments) (x12 : Bool) (x15 : List (List UInt8)) (x16 : List X_Value) (x19 : (List X_Value) × X_Arguments) (x20 : Int) (x21 : List UInt8) (x22 : Bool) (x113 : List (List UInt8)) (x114 : Int) (x115 : Int) (x129 : List X_Param) (x130 : Int) (x131 : Int) : f_ref7_Bound.M_l7 c51 c52 k n m0 (f_ref7_Bound.fr_l7 x0 x1 x3 x6 x8 x12 x15 x16 x19 x20 x21 x22 x113 x114 x115 x129 x130 x131) = f_ref7_Bound.l7 c51 c52 k (fun x0 x1 x3 x6 x8 x12 x15 x16 x19 x113 x114 x115 => f_ref7_Bound.M_l5 c51 c52 k m0  (f_ref7_Bound.fr_l5 x0 x1 x3 x6 x8 x12 x15 x16 x19 x113 x114 x115)) n x0 x1 x3 x6 x8 x12 x15 x16 x19 x20 x21 x22 x113 x114 x115 x129 x130 x131 := by
  induction n generalizing x0 x1 x3 x6 x8 x12 x15 x16 x19 x20 x21 x22 x113 x114 x115 x129 x130 x131 with
  | zero => rw [f_ref7_Bound.z_l7]; rfl
  | succ n ih =>
    rw [f_ref7_Bound.r_l7]
    simp only [f_ref7_Bound.e_g38, ih]
    rfl
theorem f_ref7_Bound.e_g54 (c51 : f_ref7_HasString.E) (c52 : f_slices_Index_string.E) (k : Nat) (m0 : Nat) (x1 : List X_Value) (x3 : List UInt8) (x8 : (List X_Value) × X_Arguments) (x15 : List (List UInt8)) (x16 : List X_Value) (x19 : (List X_Value) × X_Arguments) (x25 : Int) (x27 : (Int) × ((List UInt8) × (List (Unit)))) (x28 : (Int) × (X_Int × (X_Int × X_errorAddressString))) (x196 : List X_Param) (x197 : Int) (x198 : Int) : f_ref7_Bound.M_g54 c51 c52 k m0 (f_ref7_Bound.fr_g54 x1 x3 x8 x15 x16 x19 x25 x27 x28 x196 x197 x198) = f_ref7_Bound.g54 c51 c52 k (fun x1 x3 x8 x15 x16 x19 x25 x196 x197 x198 => f_ref7_Bound.M_l9 c51 c52 k m0  (f_ref7_Bound.fr_l9 x1 x3 x8 x15 x16 x19 x25 x196 x197 x198)) x1 x3 x8 x15 x16 x19 x25 x27 x28 x196 x197 x198 := by
  rw [f_ref7_Bound.r_g54]
  rfl
theorem f_ref7_Bound.e_g48 (c51 : f_ref7_HasString.E) (c52 : f_slices_Index_string.E) (k : Nat) (m0 : Nat) (x1 : List X_Value) (x3 : List UInt8) (x8 : (List X_Value) × X_Arguments) (x15 : List (List UInt8)) (x16 : List X_Value) (x19 : (List X_Value) × X_Arguments) (x25 : Int) (x27 : (Int) × ((List UInt8) × (List (Unit)))) (x28 : (Int) × (X_Int × (X_Int × X_errorAddressString))) (x196 : List X_Param) (x197 : Int) (x198 : Int) : f_ref7_Bound.M_g48 c51 c52 k m0 (f_ref7_Bound.fr_g48 x1 x3 x8 x15 x16 x19 x25 x27 x28 x196 x197 x198) = f_ref7_Bound.g48 c51 c52 k (fun x1 x3 x8 x15 x16 x19 x25 x196 x197 x198 => f_ref7_Bound.M_l9 c51 c52 k m0  (f_ref7_Bound.fr_l9 x1 x3 x8 x15 x16 x19 x25 x196 x197 x198)) x1 x3 x8 x15 x16 x19 x25 x27 x28 x196 x197 x198 := by
  rw [f_ref7_Bound.r_g48]
  simp only [f_ref7_Bound.e_g54]
  rfl
theorem f_ref7_Bound.e_l9 (c51 : f_ref7_HasString.E) (c52 : f_slices_Index_string.E) (k n : Nat)  (x1 : List X_Value) (x3 : List UInt8) (x8 : (List X_Value) × X_Arguments) (x15 : List (List UInt8)) (x16 : List X_Value) (x19 : (List X_Value) × X_Arguments) (x25 : Int) (x196 : List X_Param) (x197 : Int) (x198 : Int) : f_ref7_Bound.M_l9 c51 c52 k n  (f_ref7_Bound.fr_l9 x1 x3 x8 x15 x16 x19 x25 x196 x197 x198) = f_ref7_Bound.l9 c51 c52 k  n x1 x3 x8 x15 x16 x19 x25 x196 x197 x198 := by
  induction n generalizing x1 x3 x8 x15 x16 x19 x25 x196 x197 x198 with
  | zero => rw [f_ref7_Bound.z_l9]; rfl
  | succ n ih =>
    rw [f_ref7_Bound.r_l9]
    simp only [f_ref7_Bound.e_g48, f_ref7_Bound.e_g54, ih]
    rfl
theorem f_ref7_Bound.e_l5 (c51 : f_ref7_HasString.E) (c52 : f_slices_Index_string.E) (k n : Nat)  (x0 : List X_Param) (x1 : List X_Value) (x3 : List UInt8) (x6 : (List X_Value) × ((List (List UInt8)) × (List X_Value))) (x8 : (List X_Value) × X_Arguments) (x12 : Bool) (x15 : List (List UInt8)) (x16 : List X_Value) (x19 : (List X_Value) × X_Arguments) (x113 : List (List UInt8)) (x114 : Int) (x115 : Int) : f_ref7_Bound.M_l5 c51 c52 k n  (f_ref7_Bound.fr_l5 x0 x1 x3 x6 x8 x12 x15 x16 x19 x113 x114 x115) = f_ref7_Bound.l5 c51 c52 k  n x0 x1 x3 x6 x8 x12 x15 x16 x19 x113 x114 x115 := by
  induction n generalizing x0 x1 x3 x6 x8 x12 x15 x16 x19 x113 x114 x115 with
  | zero => rw [f_ref7_Bound.z_l5]; rfl
  | succ n ih =>
    rw [f_ref7_Bound.r_l5]
    simp only [f_ref7_Bound.e_l7, f_ref7_Bound.e_l9, ih]
    rfl
theorem f_ref7_Bound.e_l3 (c51 : f_ref7_HasString.E) (c52 : f_slices_Index_string.E) (k n : Nat)  (x0 : List X_Param) (x1 : List X_Value) (x3 : List UInt8) (x6 : (List X_Value) × ((List (List UInt8)) × (List X_Value))) (x8 : (List X_Value) × X_Arguments) (x10 : Int) (x12 : Bool) (x15 : List (List UInt8)) (x16 : List X_Value) (x68 : List X_Param) (x69 : Int) (x70 : Int) : f_ref7_Bound.M_l3 c51 c52 k n  (f_ref7_Bound.fr_l3 x0 x1 x3 x6 x8 x10 x12 x15 x16 x68 x69 x70) = f_ref7_Bound.l3 c51 c52 k  n x0 x1 x3 x6 x8 x10 x12 x15 x16 x68 x69 x70 := by
  induction n generalizing x0 x1 x3 x6 x8 x10 x12 x15 x16 x68 x69 x70 with
  | zero => rw [f_ref7_Bound.z_l3]; rfl
  | succ n ih =>
    rw [f_ref7_Bound.r_l3]
    simp only [f_ref7_Bound.e_l5, ih]
    rfl
theorem f_ref7_Bound.e_l0 (c51 : f_ref7_HasString.E) (c52 : f_slices_Index_string.E) (k n : Nat)  (x0 : List X_Param) (x1 : List X_Value) (x3 : List UInt8) (x6 : (List X_Value) × ((List (List UInt8)) × (List X_Value))) (x8 : (List X_Value) × X_Arguments) (x10 : Int) (x11 : Bool) (x12 : Bool) (x30 : List X_Param) (x31 : Int) (x32 : Int) : f_ref7_Bound.M_l0 c51 c52 k n  (f_ref7_Bound.fr_l0 x0 x1 x3 x6 x8 x10 x11 x12 x30 x31 x32) = f_ref7_Bound.l0 c51 c52 k  n x0 x1 x3 x6 x8 x10 x11 x12 x30 x31 x32 := by
  induction n generalizing x0 x1 x3 x6 x8 x10 x11 x12 x30 x31 x32 with
  | zero => rw [f_ref7_Bound.z_l0]; rfl
  | succ n ih =>
    rw [f_ref7_Bound.r_l0]
    simp only [f_ref7_Bound.e_l3, ih]
    rfl
theorem f_ref7_Bound.e (c51 : f_ref7_HasString.E) (c52 : f_slices_Index_string.E) (k : Nat) (a0 : List X_Param) (a1 : List X_Value) (a2 : (List X_Value) × ((List (List UInt8)) × (List X_Value))) (a3 : List UInt8) : fn (f_ref7_Bound.C c51 c52) k Try.f21 f_ref7_Bound.A f_ref7_Bound.R (a0, (a1, (a2, a3))) = f_ref7_Bound.f c51 c52 k a0 a1 a2 a3 := by
  rw [f_ref7_Bound.r]
  simp only [f_ref7_Bound.e_l0]
  rfl
def f_ref7_Bound.u (k : Nat) : f_ref7_Bound.E := fun y => f_ref7_Bound.f (f_ref7_HasString.u k) (f_slices_Index_string.u k) k y.1 y.2.1 y.2.2.1 y.2.2.2
theorem f_ref7_Bound.ty (c51 : f_ref7_HasString.E) (c52 : f_slices_Index_string.E) : TyOk Try.prog (f_ref7_Bound.C c51 c52) := tyOk_of (by kernel_rfl)
theorem f_ref7_Bound.sound (k : Nat) : Sound Try.prog ⟨21, f_ref7_Bound.A, f_ref7_Bound.R, f_ref7_Bound.u k⟩ := by
  have h := fn_sound (k := k) («as» := f_ref7_Bound.A) (rs := f_ref7_Bound.R) (f_ref7_Bound.ty (f_ref7_HasString.u k) (f_slices_Index_string.u k)) (fun E h => by
    simp only [f_ref7_Bound.C, List.mem_cons, List.not_mem_nil, or_false] at h
    rcases h with rfl | rfl
    · exact f_ref7_HasString.sound k
    · exact f_slices_Index_string.sound k) mixed Try.func21 (by kernel_rfl) (by kernel_rfl)
  have e : fn (f_ref7_Bound.C (f_ref7_HasString.u k) (f_slices_Index_string.u k)) k Try.f21 f_ref7_Bound.A f_ref7_Bound.R = f_ref7_Bound.u k := by
    funext y
    exact f_ref7_Bound.e (f_ref7_HasString.u k) (f_slices_Index_string.u k) k y.1 y.2.1 y.2.2.1 y.2.2.2
  rw [e] at h
  exact h
/-! ### brindlewood/brindlewoodlaw7.ArgumentsBindMatchesSpec: f7 -/
abbrev f_law7_ArgumentsBindMatchesSpec.A : List Sh := [(.d (.sl 51 Y_Param)), (.d (.sl 58 Y_Value)), (.d Y_Arguments), (.d .str)]
abbrev f_law7_ArgumentsBindMatchesSpec.R : List Sh := [(.d .bool)]
abbrev f_law7_ArgumentsBindMatchesSpec.E : Type := ((List X_Param) × ((List X_Value) × (X_Arguments × (List UInt8)))) → Option (Bool)
def f_law7_ArgumentsBindMatchesSpec.C (c18 : f_arguments_Bind.E) (c19 : f_ref7_BindFault.E) (c20 : f_ref7_SameBound.E) (c21 : f_ref7_Bound.E) : Ctx := { ty := [(3, (.int .i64)), (9, .str), (27, Y_Fault), (39, Y_Arguments), (41, Y_Bound)], nf := [(27, 2), (41, 4)], by_ := [], env := [⟨18, f_arguments_Bind.A, f_arguments_Bind.R, c18⟩, ⟨19, f_ref7_BindFault.A, f_ref7_BindFault.R, c19⟩, ⟨20, f_ref7_SameBound.A, f_ref7_SameBound.R, c20⟩, ⟨21, f_ref7_Bound.A, f_ref7_Bound.R, c21⟩], spec := [] }
noncomputable def f_law7_ArgumentsBindMatchesSpec.code : Code := Func.code Try.f7
noncomputable def f_law7_ArgumentsBindMatchesSpec.fin (c18 : f_arguments_Bind.E) (c19 : f_ref7_BindFault.E) (c20 : f_ref7_SameBound.E) (c21 : f_ref7_Bound.E) := kfin (f_law7_ArgumentsBindMatchesSpec.C c18 c19 c20 c21) Try.f7 f_law7_ArgumentsBindMatchesSpec.A f_law7_ArgumentsBindMatchesSpec.R
def f_law7_ArgumentsBindMatchesSpec.b (c18 : f_arguments_Bind.E) (c19 : f_ref7_BindFault.E) (c20 : f_ref7_SameBound.E) (c21 : f_ref7_Bound.E)  (a0 : List X_Param) (a1 : List X_Value) (a2 : (List X_Value) × ((List (List UInt8)) × (List X_Value))) (a3 : List UInt8) : Option (Bool) :=
  (c18 (a0, (a1, (a2, a3)))).bind fun y1 =>
    (c19 (a0, (a1, a2))).bind fun y2 =>
      bif (y2.1 != (0 : Int)) then
        bif (Ty.eqT Y_Fault y1.2.2 y2) then
          bif (y1.2.1 == []) then
            (c20 (y1.1, (([] : List X_Value), (([] : List X_Value), (([] : List (List UInt8)), ([] : List X_Value)))))).bind fun y3 =>
              some y3
          else
            some false
        else
          some false
      else
        (c21 (a0, (a1, (a2, a3)))).bind fun y4 =>
          bif (y1.2.2.1 == (0 : Int)) then
            bif (y1.2.1 == y4.2) then
              (c20 (y1.1, y4.1)).bind fun y5 =>
                some y5
            else
              some false
          else
            some false
def f_law7_ArgumentsBindMatchesSpec.c (c18 : f_arguments_Bind.E) (c19 : f_ref7_BindFault.E) (c20 : f_ref7_SameBound.E) (c21 : f_ref7_Bound.E)  (a0 : List X_Param) (a1 : List X_Value) (a2 : (List X_Value) × ((List (List UInt8)) × (List X_Value))) (a3 : List UInt8) : Option (Bool) :=
  (c18 (a0, (a1, (a2, a3)))).bind fun y1 =>
    (c19 (a0, (a1, a2))).bind fun y2 =>
      bif (y2.1 != (0 : Int)) then
        bif (Ty.eqT Y_Fault y1.2.2 y2) then
          bif (y1.2.1 == []) then
            (c20 (y1.1, (([] : List X_Value), (([] : List X_Value), (([] : List (List UInt8)), ([] : List X_Value)))))).bind fun y3 =>
              some y3
          else
            some false
        else
          some false
      else
        (c21 (a0, (a1, (a2, a3)))).bind fun y4 =>
          bif (y1.2.2.1 == (0 : Int)) then
            bif (y1.2.1 == y4.2) then
              (c20 (y1.1, y4.1)).bind fun y5 =>
                some y5
            else
              some false
          else
            some false
theorem f_law7_ArgumentsBindMatchesSpec.q (c18 : f_arguments_Bind.E) (c19 : f_ref7_BindFault.E) (c20 : f_ref7_SameBound.E) (c21 : f_ref7_Bound.E)  (a0 : List X_Param) (a1 : List X_Value) (a2 : (List X_Value) × ((List (List UInt8)) × (List X_Value))) (a3 : List UInt8) : f_law7_ArgumentsBindMatchesSpec.b c18 c19 c20 c21 a0 a1 a2 a3 = f_law7_ArgumentsBindMatchesSpec.c c18 c19 c20 c21 a0 a1 a2 a3 := by
  simp only [f_law7_ArgumentsBindMatchesSpec.b, f_law7_ArgumentsBindMatchesSpec.c, List.take_length, take_one, Nat.zero_add, Int.toNat_natCast, Int.toNat_zero, List.drop_zero, List.append_eq, Nat.le_refl, Int.le_refl, true_and, and_true, zero_le_one, if_true, prod_eta, Int.natCast_zero]
def f_law7_ArgumentsBindMatchesSpec.f (c18 : f_arguments_Bind.E) (c19 : f_ref7_BindFault.E) (c20 : f_ref7_SameBound.E) (c21 : f_ref7_Bound.E) (k : Nat) (a0 : List X_Param) (a1 : List X_Value) (a2 : (List X_Value) × ((List (List UInt8)) × (List X_Value))) (a3 : List UInt8) : Option (Bool) := f_law7_ArgumentsBindMatchesSpec.b c18 c19 c20 c21  a0 a1 a2 a3
theorem f_law7_ArgumentsBindMatchesSpec.r (c18 : f_arguments_Bind.E) (c19 : f_ref7_BindFault.E) (c20 : f_ref7_SameBound.E) (c21 : f_ref7_Bound.E) (k : Nat) (a0 : List X_Param) (a1 : List X_Value) (a2 : (List X_Value) × ((List (List UInt8)) × (List X_Value))) (a3 : List UInt8) : fn (f_law7_ArgumentsBindMatchesSpec.C c18 c19 c20 c21) k Try.f7 f_law7_ArgumentsBindMatchesSpec.A f_law7_ArgumentsBindMatchesSpec.R (a0, (a1, (a2, a3))) = f_law7_ArgumentsBindMatchesSpec.b c18 c19 c20 c21  a0 a1 a2 a3 := by kernel_rfl
theorem f_law7_ArgumentsBindMatchesSpec.e (c18 : f_arguments_Bind.E) (c19 : f_ref7_BindFault.E) (c20 : f_ref7_SameBound.E) (c21 : f_ref7_Bound.E) (k : Nat) (a0 : List X_Param) (a1 : List X_Value) (a2 : (List X_Value) × ((List (List UInt8)) × (List X_Value))) (a3 : List UInt8) : fn (f_law7_ArgumentsBindMatchesSpec.C c18 c19 c20 c21) k Try.f7 f_law7_ArgumentsBindMatchesSpec.A f_law7_ArgumentsBindMatchesSpec.R (a0, (a1, (a2, a3))) = f_law7_ArgumentsBindMatchesSpec.f c18 c19 c20 c21 k a0 a1 a2 a3 := by
  rw [f_law7_ArgumentsBindMatchesSpec.r]
  rfl
def f_law7_ArgumentsBindMatchesSpec.u (k : Nat) : f_law7_ArgumentsBindMatchesSpec.E := fun y => f_law7_ArgumentsBindMatchesSpec.f (f_arguments_Bind.u k) (f_ref7_BindFault.u k) (f_ref7_SameBound.u k) (f_ref7_Bound.u k) k y.1 y.2.1 y.2.2.1 y.2.2.2
theorem f_law7_ArgumentsBindMatchesSpec.ty (c18 : f_arguments_Bind.E) (c19 : f_ref7_BindFault.E) (c20 : f_ref7_SameBound.E) (c21 : f_ref7_Bound.E) : TyOk Try.prog (f_law7_ArgumentsBindMatchesSpec.C c18 c19 c20 c21) := tyOk_of (by kernel_rfl)
theorem f_law7_ArgumentsBindMatchesSpec.sound (k : Nat) : Sound Try.prog ⟨7, f_law7_ArgumentsBindMatchesSpec.A, f_law7_ArgumentsBindMatchesSpec.R, f_law7_ArgumentsBindMatchesSpec.u k⟩ := by
  have h := fn_sound (k := k) («as» := f_law7_ArgumentsBindMatchesSpec.A) (rs := f_law7_ArgumentsBindMatchesSpec.R) (f_law7_ArgumentsBindMatchesSpec.ty (f_arguments_Bind.u k) (f_ref7_BindFault.u k) (f_ref7_SameBound.u k) (f_ref7_Bound.u k)) (fun E h => by
    simp only [f_law7_ArgumentsBindMatchesSpec.C, List.mem_cons, List.not_mem_nil, or_false] at h
    rcases h with rfl | rfl | rfl | rfl
    · exact f_arguments_Bind.sound k
    · exact f_ref7_BindFault.sound k
    · exact f_ref7_SameBound.sound k
    · exact f_ref7_Bound.sound k) mixed Try.func7 (by kernel_rfl) (by kernel_rfl)
  have e : fn (f_law7_ArgumentsBindMatchesSpec.C (f_arguments_Bind.u k) (f_ref7_BindFault.u k) (f_ref7_SameBound.u k) (f_ref7_Bound.u k)) k Try.f7 f_law7_ArgumentsBindMatchesSpec.A f_law7_ArgumentsBindMatchesSpec.R = f_law7_ArgumentsBindMatchesSpec.u k := by
    funext y
    exact f_law7_ArgumentsBindMatchesSpec.e (f_arguments_Bind.u k) (f_ref7_BindFault.u k) (f_ref7_SameBound.u k) (f_ref7_Bound.u k) k y.1 y.2.1 y.2.2.1 y.2.2.2
  rw [e] at h
  exact h
/-! ### slices.Grow[[]string,string]: f53 -/
abbrev f_slices_Grow_string.A : List Sh := [.nl, (.d (.int .i64))]
abbrev f_slices_Grow_string.R : List Sh := [(.o 9 .str)]
abbrev f_slices_Grow_string.E : Type := ((Unit) × (Int)) → Option (List (List UInt8))
def f_slices_Grow_string.C  : Ctx := { ty := [(3, (.int .i64)), (37, (.sl 9 .str))], nf := [], by_ := [(9, 16)], env := [], spec := [] }
noncomputable def f_slices_Grow_string.code : Code := Func.code Try.f53
noncomputable def f_slices_Grow_string.fin  := kfin (f_slices_Grow_string.C ) Try.f53 f_slices_Grow_string.A f_slices_Grow_string.R
def f_slices_Grow_string.b   (a0 : Unit) (a1 : Int) : Option (List (List UInt8)) :=
  bif (decide (a1 < (0 : Int))) then
    none
  else
    bif (decide ((IntKind.i64.wrap (a1 - (IntKind.i64.wrap ((0 : Int) - (0 : Int))))) > (0 : Int))) then
      if (0 : Int) = 0 ∧ (0 : Int) = 0 then
        if 0 < (IntKind.i64.wrap (a1 - (IntKind.i64.wrap ((0 : Int) - (0 : Int))))) ∧ Int.toNat (IntKind.i64.wrap (a1 - (IntKind.i64.wrap ((0 : Int) - (0 : Int))))) * 16 ≤ LIM ∧ (IntKind.i64.wrap (a1 - (IntKind.i64.wrap ((0 : Int) - (0 : Int))))) ≤ 140737488355328 then
          if 0 ≤ (0 : Int) ∧ (0 : Int) ≤ (0 : Int) ∧ (0 : Int) ≤ (((Int.toNat (IntKind.i64.wrap (a1 - (IntKind.i64.wrap ((0 : Int) - (0 : Int)))))) : Nat) : Int) then
            some (List.take (Int.toNat ((0 : Int) - (0 : Int))) (List.replicate (Int.toNat (IntKind.i64.wrap (a1 - (IntKind.i64.wrap ((0 : Int) - (0 : Int)))))) []))
          else none
        else none
      else none
    else
      some ([] : List (List UInt8))
def f_slices_Grow_string.c   (a0 : Unit) (a1 : Int) : Option (List (List UInt8)) :=
  bif (decide (a1 < (0 : Int))) then
    none
  else
    bif (decide ((IntKind.i64.wrap (a1 - (IntKind.i64.wrap ((0 : Int) - (0 : Int))))) > (0 : Int))) then
      if (0 : Int) = 0 ∧ (0 : Int) = 0 then
        if 0 < (IntKind.i64.wrap (a1 - (IntKind.i64.wrap ((0 : Int) - (0 : Int))))) ∧ Int.toNat (IntKind.i64.wrap (a1 - (IntKind.i64.wrap ((0 : Int) - (0 : Int))))) * 16 ≤ LIM ∧ (IntKind.i64.wrap (a1 - (IntKind.i64.wrap ((0 : Int) - (0 : Int))))) ≤ 140737488355328 then
          if (0 : Int) ≤ (((Int.toNat (IntKind.i64.wrap (a1 - (IntKind.i64.wrap ((0 : Int) - (0 : Int)))))) : Nat) : Int) then
            some (List.take (Int.toNat ((0 : Int) - (0 : Int))) (List.replicate (Int.toNat (IntKind.i64.wrap (a1 - (IntKind.i64.wrap ((0 : Int) - (0 : Int)))))) []))
          else none
        else none
      else none
    else
      some ([] : List (List UInt8))
theorem f_slices_Grow_string.q   (a0 : Unit) (a1 : Int) : f_slices_Grow_string.b  a0 a1 = f_slices_Grow_string.c  a0 a1 := by
  simp only [f_slices_Grow_string.b, f_slices_Grow_string.c, List.take_length, take_one, Nat.zero_add, Int.toNat_natCast, Int.toNat_zero, List.drop_zero, List.append_eq, Nat.le_refl, Int.le_refl, true_and, and_true, zero_le_one, if_true, prod_eta, Int.natCast_zero]
def f_slices_Grow_string.f  (k : Nat) (a0 : Unit) (a1 : Int) : Option (List (List UInt8)) := f_slices_Grow_string.b   a0 a1
theorem f_slices_Grow_string.r  (k : Nat) (a0 : Unit) (a1 : Int) : fn (f_slices_Grow_string.C ) k Try.f53 f_slices_Grow_string.A f_slices_Grow_string.R (a0, a1) = f_slices_Grow_string.b   a0 a1 := by kernel_rfl
theorem f_slices_Grow_string.e  (k : Nat) (a0 : Unit) (a1 : Int) : fn (f_slices_Grow_string.C ) k Try.f53 f_slices_Grow_string.A f_slices_Grow_string.R (a0, a1) = f_slices_Grow_string.f  k a0 a1 := by
  rw [f_slices_Grow_string.r]
  rfl
def f_slices_Grow_string.u (k : Nat) : f_slices_Grow_string.E := fun y => f_slices_Grow_string.f  k y.1 y.2
theorem f_slices_Grow_string.ty  : TyOk Try.prog (f_slices_Grow_string.C ) := tyOk_of (by kernel_rfl)
theorem f_slices_Grow_string.sound (k : Nat) : Sound Try.prog ⟨53, f_slices_Grow_string.A, f_slices_Grow_string.R, f_slices_Grow_string.u k⟩ := by
  have h := fn_sound (k := k) («as» := f_slices_Grow_string.A) (rs := f_slices_Grow_string.R) (f_slices_Grow_string.ty ) (fun E h => by cases h) mixed Try.func53 (by kernel_rfl) (by kernel_rfl)
  have e : fn (f_slices_Grow_string.C ) k Try.f53 f_slices_Grow_string.A f_slices_Grow_string.R = f_slices_Grow_string.u k := by
    funext y
    exact f_slices_Grow_string.e  k y.1 y.2
  rw [e] at h
  exact h
/-! ### slices.Concat[[]string,string]: f22 -/
abbrev f_slices_Concat_string.A : List Sh := [(.d (.sl 37 (.sl 9 .str)))]
abbrev f_slices_Concat_string.R : List Sh := [(.d (.sl 9 .str))]
abbrev f_slices_Concat_string.E : Type := (List (List (List UInt8))) → Option (List (List UInt8))
def f_slices_Concat_string.C (c53 : f_slices_Grow_string.E) : Ctx := { ty := [(3, (.int .i64)), (37, (.sl 9 .str)), (83, (.sl 37 (.sl 9 .str)))], nf := [], by_ := [(9, 16), (37, 24)], env := [⟨53, f_slices_Grow_string.A, f_slices_Grow_string.R, c53⟩], spec := [(0, [.d 0 (.sl 37 (.sl 9 .str)), .d 3 (.int .i64), .d 9 (.sl 37 (.sl 9 .str)), .d 10 (.int .i64), .d 11 (.int .i64)]), (2, [.o 6 500006 9 .str, .d 25 (.sl 37 (.sl 9 .str)), .d 26 (.int .i64), .d 27 (.int .i64)])] }
noncomputable def f_slices_Concat_string.code : Code := Func.code Try.f22
noncomputable def f_slices_Concat_string.fin (c53 : f_slices_Grow_string.E) := kfin (f_slices_Concat_string.C c53) Try.f22 f_slices_Concat_string.A f_slices_Concat_string.R
def f_slices_Concat_string.b (c53 : f_slices_Grow_string.E) (r_l0 : (List (List (List UInt8))) → (Int) → (List (List (List UInt8))) → (Int) → (Int) → Option (List (List UInt8))) (a0 : List (List (List UInt8))) : Option (List (List UInt8)) :=
  r_l0 a0 (0 : Int) a0 ((List.length a0) : Int) (0 : Int)
def f_slices_Concat_string.b_l0 (c53 : f_slices_Grow_string.E) (n_l0 : (List (List (List UInt8))) → (Int) → (List (List (List UInt8))) → (Int) → (Int) → Option (List (List UInt8))) (r_l2 : (List (List UInt8)) → (List (List (List UInt8))) → (Int) → (Int) → Option (List (List UInt8))) (x0 : List (List (List UInt8))) (x3 : Int) (x9 : List (List (List UInt8))) (x10 : Int) (x11 : Int) : Option (List (List UInt8)) :=
  bif (decide (x11 < x10)) then
    if 0 ≤ x11 ∧ x11 < ((List.length x9) : Int) then
      bif (decide ((IntKind.i64.wrap (x3 + ((List.length (List.getD x9 (Int.toNat x11) [])) : Int))) < (0 : Int))) then
        none
      else
        n_l0 x0 (IntKind.i64.wrap (x3 + ((List.length (List.getD x9 (Int.toNat x11) [])) : Int))) x9 x10 (IntKind.i64.wrap (x11 + (1 : Int)))
    else none
  else
    (c53 ((), x3)).bind fun y1 =>
      r_l2 (List.take (List.length y1) y1) x0 ((List.length x0) : Int) (0 : Int)
def f_slices_Concat_string.b_l2 (c53 : f_slices_Grow_string.E) (n_l2 : (List (List UInt8)) → (List (List (List UInt8))) → (Int) → (Int) → Option (List (List UInt8))) (x6 : List (List UInt8)) (x25 : List (List (List UInt8))) (x26 : Int) (x27 : Int) : Option (List (List UInt8)) :=
  bif (decide (x27 < x26)) then
    if 0 ≤ x27 ∧ x27 < ((List.length x25) : Int) then
      if (List.length x6) ≤ (List.length x6) ∧ ((List.length x6) + (List.length (List.getD x25 (Int.toNat x27) []))) * 16 ≤ LIM then
        n_l2 (List.take (List.length (List.append (List.take (List.length x6) x6) (List.getD x25 (Int.toNat x27) []))) (List.append (List.take (List.length x6) x6) (List.getD x25 (Int.toNat x27) []))) x25 x26 (IntKind.i64.wrap (x27 + (1 : Int)))
      else none
    else none
  else
    some (List.take (List.length x6) x6)
def f_slices_Concat_string.c_l0 (c53 : f_slices_Grow_string.E) (n_l0 : (List (List (List UInt8))) → (Int) → (List (List (List UInt8))) → (Int) → (Int) → Option (List (List UInt8))) (r_l2 : (List (List UInt8)) → (List (List (List UInt8))) → (Int) → (Int) → Option (List (List UInt8))) (x0 : List (List (List UInt8))) (x3 : Int) (x9 : List (List (List UInt8))) (x10 : Int) (x11 : Int) : Option (List (List UInt8)) :=
  bif (decide (x11 < x10)) then
    if 0 ≤ x11 ∧ x11 < ((List.length x9) : Int) then
      bif (decide ((IntKind.i64.wrap (x3 + ((List.length (List.getD x9 (Int.toNat x11) [])) : Int))) < (0 : Int))) then
        none
      else
        n_l0 x0 (IntKind.i64.wrap (x3 + ((List.length (List.getD x9 (Int.toNat x11) [])) : Int))) x9 x10 (IntKind.i64.wrap (x11 + (1 : Int)))
    else none
  else
    (c53 ((), x3)).bind fun y1 =>
      r_l2 y1 x0 ((List.length x0) : Int) (0 : Int)
theorem f_slices_Concat_string.q_l0 (c53 : f_slices_Grow_string.E) (n_l0 : (List (List (List UInt8))) → (Int) → (List (List (List UInt8))) → (Int) → (Int) → Option (List (List UInt8))) (r_l2 : (List (List UInt8)) → (List (List (List UInt8))) → (Int) → (Int) → Option (List (List UInt8))) (x0 : List (List (List UInt8))) (x3 : Int) (x9 : List (List (List UInt8))) (x10 : Int) (x11 : Int) : f_slices_Concat_string.b_l0 c53 n_l0 r_l2 x0 x3 x9 x10 x11 = f_slices_Concat_string.c_l0 c53 n_l0 r_l2 x0 x3 x9 x10 x11 := by
  simp only [f_slices_Concat_string.b_l0, f_slices_Concat_string.c_l0, List.take_length, take_one, Nat.zero_add, Int.toNat_natCast, Int.toNat_zero, List.drop_zero, List.append_eq, Nat.le_refl, Int.le_refl, true_and, and_true, zero_le_one, if_true, prod_eta, Int.natCast_zero]
def f_slices_Concat_string.c_l2 (c53 : f_slices_Grow_string.E) (n_l2 : (List (List UInt8)) → (List (List (List UInt8))) → (Int) → (Int) → Option (List (List UInt8))) (x6 : List (List UInt8)) (x25 : List (List (List UInt8))) (x26 : Int) (x27 : Int) : Option (List (List UInt8)) :=
  bif (decide (x27 < x26)) then
    if 0 ≤ x27 ∧ x27 < ((List.length x25) : Int) then
      if ((List.length x6) + (List.length (List.getD x25 (Int.toNat x27) []))) * 16 ≤ LIM then
        n_l2 (x6 ++ (List.getD x25 (Int.toNat x27) [])) x25 x26 (IntKind.i64.wrap (x27 + (1 : Int)))
      else none
    else none
  else
    some x6
theorem f_slices_Concat_string.q_l2 (c53 : f_slices_Grow_string.E) (n_l2 : (List (List UInt8)) → (List (List (List UInt8))) → (Int) → (Int) → Option (List (List UInt8))) (x6 : List (List UInt8)) (x25 : List (List (List UInt8))) (x26 : Int) (x27 : Int) : f_slices_Concat_string.b_l2 c53 n_l2 x6 x25 x26 x27 = f_slices_Concat_string.c_l2 c53 n_l2 x6 x25 x26 x27 := by
  simp only [f_slices_Concat_string.b_l2, f_slices_Concat_string.c_l2, List.take_length, take_one, Nat.zero_add, Int.toNat_natCast, Int.toNat_zero, List.drop_zero, List.append_eq, Nat.le_refl, Int.le_refl, true_and, and_true, zero_le_one, if_true, prod_eta, Int.natCast_zero]
def f_slices_Concat_string.l2 (c53 : f_slices_Grow_string.E) (k : Nat)  : Nat → (List (List UInt8)) → (List (List (List UInt8))) → (Int) → (Int) → Option (List (List UInt8))
  | 0, _, _, _, _ => none
  | n + 1, x6, x25, x26, x27 => f_slices_Concat_string.b_l2 c53 (fun x6 x25 x26 x27 => f_slices_Concat_string.l2 c53 k  n x6 x25 x26 x27) x6 x25 x26 x27
def f_slices_Concat_string.l0 (c53 : f_slices_Grow_string.E) (k : Nat)  : Nat → (List (List (List UInt8))) → (Int) → (List (List (List UInt8))) → (Int) → (Int) → Option (List (List UInt8))
  | 0, _, _, _, _, _ => none
  | n + 1, x0, x3, x9, x10, x11 => f_slices_Concat_string.b_l0 c53 (fun x0 x3 x9 x10 x11 => f_slices_Concat_string.l0 c53 k  n x0 x3 x9 x10 x11) (f_slices_Concat_string.l2 c53 k  k) x0 x3 x9 x10 x11
def f_slices_Concat_string.f (c53 : f_slices_Grow_string.E) (k : Nat) (a0 : List (List (List UInt8))) : Option (List (List UInt8)) := f_slices_Concat_string.b c53 (f_slices_Concat_string.l0 c53 k k) a0
noncomputable def f_slices_Concat_string.M_l0 (c53 : f_slices_Grow_string.E) (k n : Nat)  (s : St) : Option (List (List UInt8)) := atLoop (f_slices_Concat_string.C c53) k n [1, 1, 0, 1, 0] [] f_slices_Concat_string.code (f_slices_Concat_string.fin c53) s
noncomputable def f_slices_Concat_string.fr_l0 (x0 : List (List (List UInt8))) (x3 : Int) (x9 : List (List (List UInt8))) (x10 : Int) (x11 : Int) : St := ⟨((((((List.replicate 36 V.un).set 0 (V.dat (.sl 37 (.sl 9 .str)) x0)).set 3 (V.dat (.int .i64) x3)).set 9 (V.dat (.sl 37 (.sl 9 .str)) x9)).set 10 (V.dat (.int .i64) x10)).set 11 (V.dat (.int .i64) x11)), []⟩
noncomputable def f_slices_Concat_string.M_l2 (c53 : f_slices_Grow_string.E) (k n : Nat)  (s : St) : Option (List (List UInt8)) := atLoop (f_slices_Concat_string.C c53) k n [1, 1, 1, 1, 0, 1, 0] [] f_slices_Concat_string.code (f_slices_Concat_string.fin c53) s
noncomputable def f_slices_Concat_string.fr_l2 (x6 : List (List UInt8)) (x25 : List (List (List UInt8))) (x26 : Int) (x27 : Int) : St := ⟨(((((List.replicate 36 V.un).set 6 (V.ref 500006 0 0 (List.length x6))).set 25 (V.dat (.sl 37 (.sl 9 .str)) x25)).set 26 (V.dat (.int .i64) x26)).set 27 (V.dat (.int .i64) x27)), [⟨500006, 0, .arr 9 .str x6⟩]⟩
theorem f_slices_Concat_string.r (c53 : f_slices_Grow_string.E) (k : Nat) (a0 : List (List (List UInt8))) : fn (f_slices_Concat_string.C c53) k Try.f22 f_slices_Concat_string.A f_slices_Concat_string.R a0 = f_slices_Concat_string.b c53 (fun x0 x3 x9 x10 x11 => f_slices_Concat_string.M_l0 c53 k k  (f_slices_Concat_string.fr_l0 x0 x3 x9 x10 x11)) a0 := by kernel_rfl
theorem f_slices_Concat_string.z_l0 (c53 : f_slices_Grow_string.E) (k : Nat)  (s : St) : f_slices_Concat_string.M_l0 c53 k 0  s = none := by kernel_rfl
theorem f_slices_Concat_string.r_l0 (c53 : f_slices_Grow_string.E) (k n : Nat)  (x0 : List (List (List UInt8))) (x3 : Int) (x9 : List (List (List UInt8))) (x10 : Int) (x11 : Int) : f_slices_Concat_string.M_l0 c53 k (n + 1)  (f_slices_Concat_string.fr_l0 x0 x3 x9 x10 x11) = f_slices_Concat_string.b_l0 c53 (fun x0 x3 x9 x10 x11 => f_slices_Concat_string.M_l0 c53 k n  (f_slices_Concat_string.fr_l0 x0 x3 x9 x10 x11)) (fun x6 x25 x26 x27 => f_slices_Concat_string.M_l2 c53 k k  (f_slices_Concat_string.fr_l2 x6 x25 x26 x27)) x0 x3 x9 x10 x11 := by kernel_rfl
theorem f_slices_Concat_string.z_l2 (c53 : f_slices_Grow_string.E) (k : Nat)  (s : St) : f_slices_Concat_string.M_l2 c53 k 0  s = none := by kernel_rfl
theorem f_slices_Concat_string.r_l2 (c53 : f_slices_Grow_string.E) (k n : Nat)  (x6 : List (List UInt8)) (x25 : List (List (List UInt8))) (x26 : Int) (x27 : Int) : f_slices_Concat_string.M_l2 c53 k (n + 1)  (f_slices_Concat_string.fr_l2 x6 x25 x26 x27) = f_slices_Concat_string.b_l2 c53 (fun x6 x25 x26 x27 => f_slices_Concat_string.M_l2 c53 k n  (f_slices_Concat_string.fr_l2 x6 x25 x26 x27)) x6 x25 x26 x27 := by kernel_rfl
theorem f_slices_Concat_string.e_l2 (c53 : f_slices_Grow_string.E) (k n : Nat)  (x6 : List (List UInt8)) (x25 : List (List (List UInt8))) (x26 : Int) (x27 : Int) : f_slices_Concat_string.M_l2 c53 k n  (f_slices_Concat_string.fr_l2 x6 x25 x26 x27) = f_slices_Concat_string.l2 c53 k  n x6 x25 x26 x27 := by
  induction n generalizing x6 x25 x26 x27 with
  | zero => rw [f_slices_Concat_string.z_l2]; rfl
  | succ n ih =>
    rw [f_slices_Concat_string.r_l2]
    simp only [ih]
    rfl
theorem f_slices_Concat_string.e_l0 (c53 : f_slices_Grow_string.E) (k n : Nat)  (x0 : List (List (List UInt8))) (x3 : Int) (x9 : List (List (List UInt8))) (x10 : Int) (x11 : Int) : f_slices_Concat_string.M_l0 c53 k n  (f_slices_Concat_string.fr_l0 x0 x3 x9 x10 x11) = f_slices_Concat_string.l0 c53 k  n x0 x3 x9 x10 x11 := by
  induction n generalizing x0 x3 x9 x10 x11 with
  | zero => rw [f_slices_Concat_string.z_l0]; rfl
  | succ n ih =>
    rw [f_slices_Concat_string.r_l0]
    simp only [f_slices_Concat_string.e_l2, ih]
    rfl
theorem f_slices_Concat_string.e (c53 : f_slices_Grow_string.E) (k : Nat) (a0 : List (List (List UInt8))) : fn (f_slices_Concat_string.C c53) k Try.f22 f_slices_Concat_string.A f_slices_Concat_string.R a0 = f_slices_Concat_string.f c53 k a0 := by
  rw [f_slices_Concat_string.r]
  simp only [f_slices_Concat_string.e_l0]
  rfl
def f_slices_Concat_string.u (k : Nat) : f_slices_Concat_string.E := fun y => f_slices_Concat_string.f (f_slices_Grow_string.u k) k y
theorem f_slices_Concat_string.ty (c53 : f_slices_Grow_string.E) : TyOk Try.prog (f_slices_Concat_string.C c53) := tyOk_of (by kernel_rfl)
theorem f_slices_Concat_string.sound (k : Nat) : Sound Try.prog ⟨22, f_slices_Concat_string.A, f_slices_Concat_string.R, f_slices_Concat_string.u k⟩ := by
  have h := fn_sound (k := k) («as» := f_slices_Concat_string.A) (rs := f_slices_Concat_string.R) (f_slices_Concat_string.ty (f_slices_Grow_string.u k)) (fun E h => by
    simp only [f_slices_Concat_string.C, List.mem_cons, List.not_mem_nil, or_false] at h
    rcases h with rfl
    · exact f_slices_Grow_string.sound k) mixed Try.func22 (by kernel_rfl) (by kernel_rfl)
  have e : fn (f_slices_Concat_string.C (f_slices_Grow_string.u k)) k Try.f22 f_slices_Concat_string.A f_slices_Concat_string.R = f_slices_Concat_string.u k := by
    funext y
    exact f_slices_Concat_string.e (f_slices_Grow_string.u k) k y
  rw [e] at h
  exact h
/-! ### brindlewood/brindlewoodlaw7.binds: f24 -/
abbrev f_law7_binds.A : List Sh := [(.d (.sl 51 Y_Param)), (.d (.sl 58 Y_Value)), (.d Y_Arguments), (.d Y_Bound)]
abbrev f_law7_binds.R : List Sh := [(.d .bool)]
abbrev f_law7_binds.E : Type := ((List X_Param) × ((List X_Value) × (X_Arguments × X_Bound))) → Option (Bool)
def f_law7_binds.C (c18 : f_arguments_Bind.E) (c49 : f_ref7_SameValues.E) (c52 : f_slices_Index_string.E) (c55 : f_ref7_SameValue.E) : Ctx := { ty := [(3, (.int .i64)), (9, .str), (27, Y_Fault), (36, (.sl 58 Y_Value)), (37, (.sl 9 .str)), (39, Y_Arguments), (41, Y_Bound), (58, Y_Value)], nf := [(27, 2), (41, 4)], by_ := [(9, 16), (58, 96)], env := [⟨18, f_arguments_Bind.A, f_arguments_Bind.R, c18⟩, ⟨49, f_ref7_SameValues.A, f_ref7_SameValues.R, c49⟩, ⟨52, f_slices_Index_string.A, f_slices_Index_string.R, c52⟩, ⟨55, f_ref7_SameValue.A, f_ref7_SameValue.R, c55⟩], spec := [(0, [.bx 7 600007 (.d Y_Bound), .bx 9 600009 (.d Y_Bound), .d 56 (.sl 9 .str), .d 57 (.int .i64), .d 58 (.int .i64)])] }
noncomputable def f_law7_binds.code : Code := Func.code Try.f24
noncomputable def f_law7_binds.fin (c18 : f_arguments_Bind.E) (c49 : f_ref7_SameValues.E) (c52 : f_slices_Index_string.E) (c55 : f_ref7_SameValue.E) := kfin (f_law7_binds.C c18 c49 c52 c55) Try.f24 f_law7_binds.A f_law7_binds.R
def f_law7_binds.b (c18 : f_arguments_Bind.E) (c49 : f_ref7_SameValues.E) (c52 : f_slices_Index_string.E) (c55 : f_ref7_SameValue.E) (r_l0 : X_Bound → X_Bound → (List (List UInt8)) → (Int) → (Int) → Option (Bool)) (a0 : List X_Param) (a1 : List X_Value) (a2 : (List X_Value) × ((List (List UInt8)) × (List X_Value))) (a3 : (List X_Value) × X_Arguments) : Option (Bool) :=
  (c18 (a0, (a1, (a2, [102])))).bind fun y1 =>
    bif (y1.2.2.1 != (0 : Int)) then
      some false
    else
      bif (y1.2.1 != []) then
        some false
      else
        (c49 (y1.1.1, a3.1)).bind fun y2 =>
          bif (!y2) then
            some false
          else
            (c49 (y1.1.2.1, a3.2.1)).bind fun y3 =>
              bif (!y3) then
                some false
              else
                bif (((List.length y1.1.2.2.1) : Int) != ((List.length a3.2.2.1) : Int)) then
                  some false
                else
                  r_l0 a3 y1.1 y1.1.2.2.1 ((List.length y1.1.2.2.1) : Int) (0 : Int)
def f_law7_binds.b_l0 (c18 : f_arguments_Bind.E) (c49 : f_ref7_SameValues.E) (c52 : f_slices_Index_string.E) (c55 : f_ref7_SameValue.E) (n_l0 : X_Bound → X_Bound → (List (List UInt8)) → (Int) → (Int) → Option (Bool)) (x7 : (List X_Value) × X_Arguments) (x9 : (List X_Value) × X_Arguments) (x56 : List (List UInt8)) (x57 : Int) (x58 : Int) : Option (Bool) :=
  bif (decide (x58 < x57)) then
    if 0 ≤ x58 ∧ x58 < ((List.length x56) : Int) then
      (c52 (x7.2.2.1, (List.getD x56 (Int.toNat x58) []))).bind fun y4 =>
        bif (decide (y4 < (0 : Int))) then
          some false
        else
          if 0 ≤ y4 ∧ y4 < ((List.length x7.2.2.2) : Int) then
            if 0 ≤ x58 ∧ x58 < ((List.length x9.2.2.2) : Int) then
              (c55 ((List.getD x7.2.2.2 (Int.toNat y4) Z_Value), (List.getD x9.2.2.2 (Int.toNat x58) Z_Value))).bind fun y5 =>
                bif (!y5) then
                  some false
                else
                  n_l0 x7 x9 x56 x57 (IntKind.i64.wrap (x58 + (1 : Int)))
            else none
          else none
    else none
  else
    some true
def f_law7_binds.c (c18 : f_arguments_Bind.E) (c49 : f_ref7_SameValues.E) (c52 : f_slices_Index_string.E) (c55 : f_ref7_SameValue.E) (r_l0 : X_Bound → X_Bound → (List (List UInt8)) → (Int) → (Int) → Option (Bool)) (a0 : List X_Param) (a1 : List X_Value) (a2 : (List X_Value) × ((List (List UInt8)) × (List X_Value))) (a3 : (List X_Value) × X_Arguments) : Option (Bool) :=
  (c18 (a0, (a1, (a2, [102])))).bind fun y1 =>
    bif (y1.2.2.1 != (0 : Int)) then
      some false
    else
      bif (y1.2.1 != []) then
        some false
      else
        (c49 (y1.1.1, a3.1)).bind fun y2 =>
          bif !y2 then
            some false
          else
            (c49 (y1.1.2.1, a3.2.1)).bind fun y3 =>
              bif !y3 then
                some false
              else
                bif (((List.length y1.1.2.2.1) : Int) != ((List.length a3.2.2.1) : Int)) then
                  some false
                else
                  r_l0 a3 y1.1 y1.1.2.2.1 ((List.length y1.1.2.2.1) : Int) (0 : Int)
theorem f_law7_binds.q (c18 : f_arguments_Bind.E) (c49 : f_ref7_SameValues.E) (c52 : f_slices_Index_string.E) (c55 : f_ref7_SameValue.E) (r_l0 : X_Bound → X_Bound → (List (List UInt8)) → (Int) → (Int) → Option (Bool)) (a0 : List X_Param) (a1 : List X_Value) (a2 : (List X_Value) × ((List (List UInt8)) × (List X_Value))) (a3 : (List X_Value) × X_Arguments) : f_law7_binds.b c18 c49 c52 c55 r_l0 a0 a1 a2 a3 = f_law7_binds.c c18 c49 c52 c55 r_l0 a0 a1 a2 a3 := by
  simp only [f_law7_binds.b, f_law7_binds.c, List.take_length, take_one, Nat.zero_add, Int.toNat_natCast, Int.toNat_zero, List.drop_zero, List.append_eq, Nat.le_refl, Int.le_refl, true_and, and_true, zero_le_one, if_true, prod_eta, Int.natCast_zero]
def f_law7_binds.c_l0 (c18 : f_arguments_Bind.E) (c49 : f_ref7_SameValues.E) (c52 : f_slices_Index_string.E) (c55 : f_ref7_SameValue.E) (n_l0 : X_Bound → X_Bound → (List (List UInt8)) → (Int) → (Int) → Option (Bool)) (x7 : (List X_Value) × X_Arguments) (x9 : (List X_Value) × X_Arguments) (x56 : List (List UInt8)) (x57 : Int) (x58 : Int) : Option (Bool) :=
  bif (decide (x58 < x57)) then
    if 0 ≤ x58 ∧ x58 < ((List.length x56) : Int) then
      (c52 (x7.2.2.1, (List.getD x56 (Int.toNat x58) []))).bind fun y4 =>
        bif (decide (y4 < (0 : Int))) then
          some false
        else
          if 0 ≤ y4 ∧ y4 < ((List.length x7.2.2.2) : Int) then
            if 0 ≤ x58 ∧ x58 < ((List.length x9.2.2.2) : Int) then
              (c55 ((List.getD x7.2.2.2 (Int.toNat y4) Z_Value), (List.getD x9.2.2.2 (Int.toNat x58) Z_Value))).bind fun y5 =>
                bif !y5 then
                  some false
                else
                  n_l0 x7 x9 x56 x57 (IntKind.i64.wrap (x58 + (1 : Int)))
            else none
          else none
    else none
  else
    some true
theorem f_law7_binds.q_l0 (c18 : f_arguments_Bind.E) (c49 : f_ref7_SameValues.E) (c52 : f_slices_Index_string.E) (c55 : f_ref7_SameValue.E) (n_l0 : X_Bound → X_Bound → (List (List UInt8)) → (Int) → (Int) → Option (Bool)) (x7 : (List X_Value) × X_Arguments) (x9 : (List X_Value) × X_Arguments) (x56 : List (List UInt8)) (x57 : Int) (x58 : Int) : f_law7_binds.b_l0 c18 c49 c52 c55 n_l0 x7 x9 x56 x57 x58 = f_law7_binds.c_l0 c18 c49 c52 c55 n_l0 x7 x9 x56 x57 x58 := by
  simp only [f_law7_binds.b_l0, f_law7_binds.c_l0, List.take_length, take_one, Nat.zero_add, Int.toNat_natCast, Int.toNat_zero, List.drop_zero, List.append_eq, Nat.le_refl, Int.le_refl, true_and, and_true, zero_le_one, if_true, prod_eta, Int.natCast_zero]
def f_law7_binds.l0 (c18 : f_arguments_Bind.E) (c49 : f_ref7_SameValues.E) (c52 : f_slices_Index_string.E) (c55 : f_ref7_SameValue.E) (k : Nat)  : Nat → X_Bound → X_Bound → (List (List UInt8)) → (Int) → (Int) → Option (Bool)
  | 0, _, _, _, _, _ => none
  | n + 1, x7, x9, x56, x57, x58 => f_law7_binds.b_l0 c18 c49 c52 c55 (fun x7 x9 x56 x57 x58 => f_law7_binds.l0 c18 c49 c52 c55 k  n x7 x9 x56 x57 x58) x7 x9 x56 x57 x58
def f_law7_binds.f (c18 : f_arguments_Bind.E) (c49 : f_ref7_SameValues.E) (c52 : f_slices_Index_string.E) (c55 : f_ref7_SameValue.E) (k : Nat) (a0 : List X_Param) (a1 : List X_Value) (a2 : (List X_Value) × ((List (List UInt8)) × (List X_Value))) (a3 : (List X_Value) × X_Arguments) : Option (Bool) := f_law7_binds.b c18 c49 c52 c55 (f_law7_binds.l0 c18 c49 c52 c55 k k) a0 a1 a2 a3
noncomputable def f_law7_binds.M_l0 (c18 : f_arguments_Bind.E) (c49 : f_ref7_SameValues.E) (c52 : f_slices_Index_string.E) (c55 : f_ref7_SameValue.E) (k n : Nat)  (s : St) : Option (Bool) := atLoop (f_law7_binds.C c18 c49 c52 c55) k n [1, 1, 1, 0, 1, 0] [] f_law7_binds.code (f_law7_binds.fin c18 c49 c52 c55) s
noncomputable def f_law7_binds.fr_l0 (x7 : (List X_Value) × X_Arguments) (x9 : (List X_Value) × X_Arguments) (x56 : List (List UInt8)) (x57 : Int) (x58 : Int) : St := ⟨((((((List.replicate 84 V.un).set 7 (V.bp 600007 0 [])).set 9 (V.bp 600009 0 [])).set 56 (V.dat (.sl 9 .str) x56)).set 57 (V.dat (.int .i64) x57)).set 58 (V.dat (.int .i64) x58)), [⟨600009, 0, .box (V.dat Y_Bound x9)⟩, ⟨600007, 0, .box (V.dat Y_Bound x7)⟩]⟩
theorem f_law7_binds.r (c18 : f_arguments_Bind.E) (c49 : f_ref7_SameValues.E) (c52 : f_slices_Index_string.E) (c55 : f_ref7_SameValue.E) (k : Nat) (a0 : List X_Param) (a1 : List X_Value) (a2 : (List X_Value) × ((List (List UInt8)) × (List X_Value))) (a3 : (List X_Value) × X_Arguments) : fn (f_law7_binds.C c18 c49 c52 c55) k Try.f24 f_law7_binds.A f_law7_binds.R (a0, (a1, (a2, a3))) = f_law7_binds.b c18 c49 c52 c55 (fun x7 x9 x56 x57 x58 => f_law7_binds.M_l0 c18 c49 c52 c55 k k  (f_law7_binds.fr_l0 x7 x9 x56 x57 x58)) a0 a1 a2 a3 := by kernel_rfl
theorem f_law7_binds.z_l0 (c18 : f_arguments_Bind.E) (c49 : f_ref7_SameValues.E) (c52 : f_slices_Index_string.E) (c55 : f_ref7_SameValue.E) (k : Nat)  (s : St) : f_law7_binds.M_l0 c18 c49 c52 c55 k 0  s = none := by kernel_rfl
theorem f_law7_binds.r_l0 (c18 : f_arguments_Bind.E) (c49 : f_ref7_SameValues.E) (c52 : f_slices_Index_string.E) (c55 : f_ref7_SameValue.E) (k n : Nat)  (x7 : (List X_Value) × X_Arguments) (x9 : (List X_Value) × X_Arguments) (x56 : List (List UInt8)) (x57 : Int) (x58 : Int) : f_law7_binds.M_l0 c18 c49 c52 c55 k (n + 1)  (f_law7_binds.fr_l0 x7 x9 x56 x57 x58) = f_law7_binds.b_l0 c18 c49 c52 c55 (fun x7 x9 x56 x57 x58 => f_law7_binds.M_l0 c18 c49 c52 c55 k n  (f_law7_binds.fr_l0 x7 x9 x56 x57 x58)) x7 x9 x56 x57 x58 := by kernel_rfl
theorem f_law7_binds.e_l0 (c18 : f_arguments_Bind.E) (c49 : f_ref7_SameValues.E) (c52 : f_slices_Index_string.E) (c55 : f_ref7_SameValue.E) (k n : Nat)  (x7 : (List X_Value) × X_Arguments) (x9 : (List X_Value) × X_Arguments) (x56 : List (List UInt8)) (x57 : Int) (x58 : Int) : f_law7_binds.M_l0 c18 c49 c52 c55 k n  (f_law7_binds.fr_l0 x7 x9 x56 x57 x58) = f_law7_binds.l0 c18 c49 c52 c55 k  n x7 x9 x56 x57 x58 := by
  induction n generalizing x7 x9 x56 x57 x58 with
  | zero => rw [f_law7_binds.z_l0]; rfl
  | succ n ih =>
    rw [f_law7_binds.r_l0]
    simp only [ih]
    rfl
theorem f_law7_binds.e (c18 : f_arguments_Bind.E) (c49 : f_ref7_SameValues.E) (c52 : f_slices_Index_string.E) (c55 : f_ref7_SameValue.E) (k : Nat) (a0 : List X_Param) (a1 : List X_Value) (a2 : (List X_Value) × ((List (List UInt8)) × (List X_Value))) (a3 : (List X_Value) × X_Arguments) : fn (f_law7_binds.C c18 c49 c52 c55) k Try.f24 f_law7_binds.A f_law7_binds.R (a0, (a1, (a2, a3))) = f_law7_binds.f c18 c49 c52 c55 k a0 a1 a2 a3 := by
  rw [f_law7_binds.r]
  simp only [f_law7_binds.e_l0]
  rfl
def f_law7_binds.u (k : Nat) : f_law7_binds.E := fun y => f_law7_binds.f (f_arguments_Bind.u k) (f_ref7_SameValues.u k) (f_slices_Index_string.u k) (f_ref7_SameValue.u k) k y.1 y.2.1 y.2.2.1 y.2.2.2
theorem f_law7_binds.ty (c18 : f_arguments_Bind.E) (c49 : f_ref7_SameValues.E) (c52 : f_slices_Index_string.E) (c55 : f_ref7_SameValue.E) : TyOk Try.prog (f_law7_binds.C c18 c49 c52 c55) := tyOk_of (by kernel_rfl)
theorem f_law7_binds.sound (k : Nat) : Sound Try.prog ⟨24, f_law7_binds.A, f_law7_binds.R, f_law7_binds.u k⟩ := by
  have h := fn_sound (k := k) («as» := f_law7_binds.A) (rs := f_law7_binds.R) (f_law7_binds.ty (f_arguments_Bind.u k) (f_ref7_SameValues.u k) (f_slices_Index_string.u k) (f_ref7_SameValue.u k)) (fun E h => by
    simp only [f_law7_binds.C, List.mem_cons, List.not_mem_nil, or_false] at h
    rcases h with rfl | rfl | rfl | rfl
    · exact f_arguments_Bind.sound k
    · exact f_ref7_SameValues.sound k
    · exact f_slices_Index_string.sound k
    · exact f_ref7_SameValue.sound k) mixed Try.func24 (by kernel_rfl) (by kernel_rfl)
  have e : fn (f_law7_binds.C (f_arguments_Bind.u k) (f_ref7_SameValues.u k) (f_slices_Index_string.u k) (f_ref7_SameValue.u k)) k Try.f24 f_law7_binds.A f_law7_binds.R = f_law7_binds.u k := by
    funext y
    exact f_law7_binds.e (f_arguments_Bind.u k) (f_ref7_SameValues.u k) (f_slices_Index_string.u k) (f_ref7_SameValue.u k) k y.1 y.2.1 y.2.2.1 y.2.2.2
  rw [e] at h
  exact h
/-! ### slices.Clone[[]string,string]: f25 -/
abbrev f_slices_Clone_string.A : List Sh := [(.d (.sl 9 .str))]
abbrev f_slices_Clone_string.R : List Sh := [(.o 9 .str)]
abbrev f_slices_Clone_string.E : Type := (List (List UInt8)) → Option (List (List UInt8))
def f_slices_Clone_string.C  : Ctx := { ty := [(37, (.sl 9 .str))], nf := [], by_ := [(9, 16)], env := [], spec := [] }
noncomputable def f_slices_Clone_string.code : Code := Func.code Try.f25
noncomputable def f_slices_Clone_string.fin  := kfin (f_slices_Clone_string.C ) Try.f25 f_slices_Clone_string.A f_slices_Clone_string.R
def f_slices_Clone_string.b   (a0 : List (List UInt8)) : Option (List (List UInt8)) :=
  if 0 < (List.length a0) then
    if 0 ≤ (List.length ([] : List (List UInt8))) ∧ (0 + (List.length a0)) * 16 ≤ LIM then
      some (List.take (List.length (List.append (List.take 0 ([] : List (List UInt8))) a0)) (List.append (List.take 0 ([] : List (List UInt8))) a0))
    else none
  else
    agree
      (some ([] : List (List UInt8)))
      (if 0 ≤ (List.length ([] : List (List UInt8))) ∧ (0 + (List.length a0)) * 16 ≤ LIM then
          some (List.take (List.length (List.append (List.take 0 ([] : List (List UInt8))) a0)) (List.append (List.take 0 ([] : List (List UInt8))) a0))
        else none)
def f_slices_Clone_string.c   (a0 : List (List UInt8)) : Option (List (List UInt8)) :=
  if 0 < (List.length a0) then
    if 0 ≤ (List.length ([] : List (List UInt8))) ∧ ((List.length a0)) * 16 ≤ LIM then
      some ((List.take 0 ([] : List (List UInt8))) ++ a0)
    else none
  else
    agree
      (some ([] : List (List UInt8)))
      (if 0 ≤ (List.length ([] : List (List UInt8))) ∧ ((List.length a0)) * 16 ≤ LIM then
          some ((List.take 0 ([] : List (List UInt8))) ++ a0)
        else none)
theorem f_slices_Clone_string.q   (a0 : List (List UInt8)) : f_slices_Clone_string.b  a0 = f_slices_Clone_string.c  a0 := by
  simp only [f_slices_Clone_string.b, f_slices_Clone_string.c, List.take_length, take_one, Nat.zero_add, Int.toNat_natCast, Int.toNat_zero, List.drop_zero, List.append_eq, Nat.le_refl, Int.le_refl, true_and, and_true, zero_le_one, if_true, prod_eta, Int.natCast_zero]
def f_slices_Clone_string.f  (k : Nat) (a0 : List (List UInt8)) : Option (List (List UInt8)) := f_slices_Clone_string.b   a0
theorem f_slices_Clone_string.r  (k : Nat) (a0 : List (List UInt8)) : fn (f_slices_Clone_string.C ) k Try.f25 f_slices_Clone_string.A f_slices_Clone_string.R a0 = f_slices_Clone_string.b   a0 := by kernel_rfl
theorem f_slices_Clone_string.e  (k : Nat) (a0 : List (List UInt8)) : fn (f_slices_Clone_string.C ) k Try.f25 f_slices_Clone_string.A f_slices_Clone_string.R a0 = f_slices_Clone_string.f  k a0 := by
  rw [f_slices_Clone_string.r]
  rfl
def f_slices_Clone_string.u (k : Nat) : f_slices_Clone_string.E := fun y => f_slices_Clone_string.f  k y
theorem f_slices_Clone_string.ty  : TyOk Try.prog (f_slices_Clone_string.C ) := tyOk_of (by kernel_rfl)
theorem f_slices_Clone_string.sound (k : Nat) : Sound Try.prog ⟨25, f_slices_Clone_string.A, f_slices_Clone_string.R, f_slices_Clone_string.u k⟩ := by
  have h := fn_sound (k := k) («as» := f_slices_Clone_string.A) (rs := f_slices_Clone_string.R) (f_slices_Clone_string.ty ) (fun E h => by cases h) mixed Try.func25 (by kernel_rfl) (by kernel_rfl)
  have e : fn (f_slices_Clone_string.C ) k Try.f25 f_slices_Clone_string.A f_slices_Clone_string.R = f_slices_Clone_string.u k := by
    funext y
    exact f_slices_Clone_string.e  k y
  rw [e] at h
  exact h
end
end Go.Ab
