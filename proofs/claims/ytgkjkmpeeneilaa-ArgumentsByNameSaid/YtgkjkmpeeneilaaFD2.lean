/- A part of the proof: FD2. -/
import Derived.Test.YtgkjkmpeeneilaaFTy
import Derived.Test.YtgkjkmpeeneilaaFA1
import Derived.Test.YtgkjkmpeeneilaaFD1
namespace Go.Ab
set_option linter.unusedVariables false
set_option linter.unusedSimpArgs false
set_option maxRecDepth 100000
noncomputable section
open Go.Proofs
/-! ### brindlewood/arguments.Bind: f18 -/
abbrev f_arguments_Bind.A : List Sh := [(.d (.sl 51 Y_Param)), (.d (.sl 58 Y_Value)), (.d Y_Arguments), (.d .str)]
abbrev f_arguments_Bind.R : List Sh := [(.d Y_Bound), (.d .str), (.d Y_Fault)]
abbrev f_arguments_Bind.E : Type := ((List X_Param) × ((List X_Value) × (X_Arguments × (List UInt8)))) → Option (X_Bound × ((List UInt8) × X_Fault))
def f_arguments_Bind.C (c12 : f_arguments_Check.E) (c30 : f_arguments_fault.E) (c23 : f_slices_Concat_Value.E) (c44 : f_slices_IndexFunc_Value.E) (c45 : f_arguments_Bind_c1.E) (c46 : f_arguments_binding_positional.E) (c47 : f_arguments_binding_named.E) (c48 : f_arguments_binding_rest.E) : Ctx := { ty := [(3, (.int .i64)), (9, .str), (25, (.sl 51 Y_Param)), (27, Y_Fault), (36, (.sl 58 Y_Value)), (37, (.sl 9 .str)), (39, Y_Arguments), (41, Y_Bound), (49, (.sl 132 (.blob 15))), (51, Y_Param), (58, Y_Value), (76, Y_binding), (85, (.sl 36 (.sl 58 Y_Value)))], nf := [(27, 2), (39, 3), (41, 4), (51, 3), (58, 5), (76, 3)], by_ := [(9, 16), (36, 24), (51, 48), (58, 96), (132, 232)], env := [⟨12, f_arguments_Check.A, f_arguments_Check.R, c12⟩, ⟨30, f_arguments_fault.A, f_arguments_fault.R, c30⟩, ⟨23, f_slices_Concat_Value.A, f_slices_Concat_Value.R, c23⟩, ⟨44, f_slices_IndexFunc_Value.A, f_slices_IndexFunc_Value.R, c44⟩, ⟨45, f_arguments_Bind_c1.A, f_arguments_Bind_c1.R, c45⟩, ⟨46, f_arguments_binding_positional.A, f_arguments_binding_positional.R, c46⟩, ⟨47, f_arguments_binding_named.A, f_arguments_binding_named.R, c47⟩, ⟨48, f_arguments_binding_rest.A, f_arguments_binding_rest.R, c48⟩], spec := [(0, [.d 0 (.sl 51 Y_Param), .d 1 (.sl 58 Y_Value), .d 3 .str, .bx 6 600006 (.d Y_Arguments), .bx 8 600008 (.pair (.o 58 Y_Value) (.pair (.o 58 Y_Value) (.pair (.o 9 .str) (.o 58 Y_Value)))), .bx 10 600010 (.d Y_Fault), .d 12 (.int .i64), .d 27 (.sl 51 Y_Param), .d 28 (.int .i64), .d 29 (.int .i64)]), (3, [.d 1 (.sl 58 Y_Value), .bx 6 600006 (.d Y_Arguments), .bx 8 600008 (.pair (.o 58 Y_Value) (.pair (.o 58 Y_Value) (.pair (.o 9 .str) (.o 58 Y_Value)))), .bx 10 600010 (.d Y_Fault), .bx 16 600016 (.pair (.d (.sl 51 Y_Param)) (.pair (.d .str) (.pair (.o 58 Y_Value) (.pair (.o 58 Y_Value) (.pair (.o 9 .str) (.o 58 Y_Value)))))), .d 84 (.int .i64), .d 85 (.int .i64)]), (5, [.d 1 (.sl 58 Y_Value), .bx 6 600006 (.d Y_Arguments), .bx 8 600008 (.pair (.o 58 Y_Value) (.pair (.o 58 Y_Value) (.pair (.o 9 .str) (.o 58 Y_Value)))), .bx 10 600010 (.d Y_Fault), .bx 16 600016 (.pair (.d (.sl 51 Y_Param)) (.pair (.d .str) (.pair (.o 58 Y_Value) (.pair (.d (.sl 58 Y_Value)) (.pair (.o 9 .str) (.o 58 Y_Value)))))), .d 17 .str, .d 105 (.sl 9 .str), .d 106 (.int .i64), .d 107 (.int .i64)]), (100034, [.bx 8 600008 (.pair (.o 58 Y_Value) (.pair (.o 58 Y_Value) (.pair (.o 9 .str) (.o 58 Y_Value)))), .bx 10 600010 (.d Y_Fault), .d 17 .str]), (100035, [.bx 8 600008 (.pair (.o 58 Y_Value) (.pair (.o 58 Y_Value) (.pair (.o 9 .str) (.o 58 Y_Value)))), .bx 10 600010 (.d Y_Fault), .bx 16 600016 (.pair (.d (.sl 51 Y_Param)) (.pair (.d .str) (.pair (.o 58 Y_Value) (.pair (.d (.sl 58 Y_Value)) (.pair (.o 9 .str) (.o 58 Y_Value))))))])] }
noncomputable def f_arguments_Bind.code : Code := Func.code Try.f18
noncomputable def f_arguments_Bind.fin (c12 : f_arguments_Check.E) (c30 : f_arguments_fault.E) (c23 : f_slices_Concat_Value.E) (c44 : f_slices_IndexFunc_Value.E) (c45 : f_arguments_Bind_c1.E) (c46 : f_arguments_binding_positional.E) (c47 : f_arguments_binding_named.E) (c48 : f_arguments_binding_rest.E) := kfin (f_arguments_Bind.C c12 c30 c23 c44 c45 c46 c47 c48) Try.f18 f_arguments_Bind.A f_arguments_Bind.R
def f_arguments_Bind.b (c12 : f_arguments_Check.E) (c30 : f_arguments_fault.E) (c23 : f_slices_Concat_Value.E) (c44 : f_slices_IndexFunc_Value.E) (c45 : f_arguments_Bind_c1.E) (c46 : f_arguments_binding_positional.E) (c47 : f_arguments_binding_named.E) (c48 : f_arguments_binding_rest.E) (r_l0 : (List X_Param) → (List X_Value) → (List UInt8) → X_Arguments → X_Bound → X_Fault → (Int) → (List X_Param) → (Int) → (Int) → Option (X_Bound × ((List UInt8) × X_Fault))) (a0 : List X_Param) (a1 : List X_Value) (a2 : (List X_Value) × ((List (List UInt8)) × (List X_Value))) (a3 : List UInt8) : Option (X_Bound × ((List UInt8) × X_Fault)) :=
  (c12 a0).bind fun y1 =>
    bif (y1.1 != (0 : Int)) then
      some ((([] : List X_Value), (([] : List X_Value), (([] : List (List UInt8)), ([] : List X_Value)))), ([], y1))
    else
      r_l0 a0 a1 a3 a2 (([] : List X_Value), (([] : List X_Value), (([] : List (List UInt8)), ([] : List X_Value)))) ((0 : Int), (0 : Int)) (0 : Int) a0 ((List.length a0) : Int) (0 : Int)
def f_arguments_Bind.b_l0 (c12 : f_arguments_Check.E) (c30 : f_arguments_fault.E) (c23 : f_slices_Concat_Value.E) (c44 : f_slices_IndexFunc_Value.E) (c45 : f_arguments_Bind_c1.E) (c46 : f_arguments_binding_positional.E) (c47 : f_arguments_binding_named.E) (c48 : f_arguments_binding_rest.E) (n_l0 : (List X_Param) → (List X_Value) → (List UInt8) → X_Arguments → X_Bound → X_Fault → (Int) → (List X_Param) → (Int) → (Int) → Option (X_Bound × ((List UInt8) × X_Fault))) (r_l3 : (List X_Value) → X_Arguments → X_Bound → X_Fault → X_binding → (Int) → (Int) → Option (X_Bound × ((List UInt8) × X_Fault))) (x0 : List X_Param) (x1 : List X_Value) (x3 : List UInt8) (x6 : (List X_Value) × ((List (List UInt8)) × (List X_Value))) (x8 : (List X_Value) × X_Arguments) (x10 : (Int) × (Int)) (x12 : Int) (x27 : List X_Param) (x28 : Int) (x29 : Int) : Option (X_Bound × ((List UInt8) × X_Fault)) :=
  bif (decide (x29 < x28)) then
    if 0 ≤ x29 ∧ x29 < ((List.length x27) : Int) then
      n_l0 x0 x1 x3 x6 ((List.take (List.length x8.1) x8.1), ((List.take (List.length x8.2.1) x8.2.1), ((List.take (List.length x8.2.2.1) x8.2.2.1), (List.take (List.length x8.2.2.2) x8.2.2.2)))) x10 (IntKind.i64.wrap (x12 + ((List.length (((List.getD x27 (Int.toNat x29) ((0 : Int), ([], []))).2).2)) : Int))) x27 x28 (IntKind.i64.wrap (x29 + (1 : Int)))
    else none
  else
    bif (((List.length x1) : Int) != x12) then
      (c30 ((9 : Int), (-2 : Int))).bind fun y2 =>
        some ((([] : List X_Value), (([] : List X_Value), (([] : List (List UInt8)), ([] : List X_Value)))), ([], y2))
    else
      bif (((List.length x6.2.1) : Int) != ((List.length x6.2.2) : Int)) then
        (c30 ((9 : Int), (-3 : Int))).bind fun y3 =>
          some ((([] : List X_Value), (([] : List X_Value), (([] : List (List UInt8)), ([] : List X_Value)))), ([], y3))
      else
        bif (decide ((IntKind.i64.wrap (((List.length x6.1) : Int) + ((List.length x6.2.1) : Int))) > (1000 : Int))) then
          (c30 ((2 : Int), (-3 : Int))).bind fun y4 =>
            some ((([] : List X_Value), (([] : List X_Value), (([] : List (List UInt8)), ([] : List X_Value)))), ([], y4))
        else
          (c23 (List.take 2 ([x6.1, x6.2.2] : List (List X_Value)))).bind fun y5 =>
            (c44 (y5, (fun z6 => (c45 z6.1).bind some))).bind fun y7 =>
              bif (decide (y7 ≥ (0 : Int))) then
                (c30 ((18 : Int), y7)).bind fun y8 =>
                  some ((([] : List X_Value), (([] : List X_Value), (([] : List (List UInt8)), ([] : List X_Value)))), ([], y8))
              else
                r_l3 x1 x6 ((List.take (List.length x8.1) x8.1), ((List.take (List.length x8.2.1) x8.2.1), ((List.take (List.length x8.2.2.1) x8.2.2.1), (List.take (List.length x8.2.2.2) x8.2.2.2)))) x10 (x0, (x3, (([] : List X_Value), (([] : List X_Value), (([] : List (List UInt8)), ([] : List X_Value)))))) ((List.length x0) : Int) (0 : Int)
def f_arguments_Bind.b_l3 (c12 : f_arguments_Check.E) (c30 : f_arguments_fault.E) (c23 : f_slices_Concat_Value.E) (c44 : f_slices_IndexFunc_Value.E) (c45 : f_arguments_Bind_c1.E) (c46 : f_arguments_binding_positional.E) (c47 : f_arguments_binding_named.E) (c48 : f_arguments_binding_rest.E) (n_l3 : (List X_Value) → X_Arguments → X_Bound → X_Fault → X_binding → (Int) → (Int) → Option (X_Bound × ((List UInt8) × X_Fault))) (r_l5 : (List X_Value) → X_Arguments → X_Bound → X_Fault → X_binding → (List UInt8) → (List (List UInt8)) → (Int) → (Int) → Option (X_Bound × ((List UInt8) × X_Fault))) (x1 : List X_Value) (x6 : (List X_Value) × ((List (List UInt8)) × (List X_Value))) (x8 : (List X_Value) × X_Arguments) (x10 : (Int) × (Int)) (x16 : (List X_Param) × ((List UInt8) × X_Bound)) (x84 : Int) (x85 : Int) : Option (X_Bound × ((List UInt8) × X_Fault)) :=
  bif (decide (x85 < x84)) then
    if (List.length x16.2.2.1) ≤ (List.length x16.2.2.1) ∧ ((List.length x16.2.2.1) + (List.length (List.take 1 ([((9 : Int), ((false, ([] : List (Int))), ((false, ([] : List (Int))), ([], (0 : Int)))))] : List X_Value)))) * 96 ≤ LIM then
      n_l3 x1 x6 ((List.take (List.length x8.1) x8.1), ((List.take (List.length x8.2.1) x8.2.1), ((List.take (List.length x8.2.2.1) x8.2.2.1), (List.take (List.length x8.2.2.2) x8.2.2.2)))) x10 (x16.1, (x16.2.1, ((List.take (List.length (List.append (List.take (List.length x16.2.2.1) x16.2.2.1) (List.take 1 ([((9 : Int), ((false, ([] : List (Int))), ((false, ([] : List (Int))), ([], (0 : Int)))))] : List X_Value)))) (List.append (List.take (List.length x16.2.2.1) x16.2.2.1) (List.take 1 ([((9 : Int), ((false, ([] : List (Int))), ((false, ([] : List (Int))), ([], (0 : Int)))))] : List X_Value)))), ((List.take (List.length x16.2.2.2.1) x16.2.2.2.1), ((List.take (List.length x16.2.2.2.2.1) x16.2.2.2.2.1), (List.take (List.length x16.2.2.2.2.2) x16.2.2.2.2.2)))))) x84 (IntKind.i64.wrap (x85 + (1 : Int)))
    else none
  else
    (c46 ((x16.1, (x16.2.1, ((List.take (List.length x16.2.2.1) x16.2.2.1), ((List.take (List.length x16.2.2.2.1) x16.2.2.2.1), ((List.take (List.length x16.2.2.2.2.1) x16.2.2.2.2.1), (List.take (List.length x16.2.2.2.2.2) x16.2.2.2.2.2)))))), x6.1)).bind fun y9 =>
      r_l5 x1 x6 ((List.take (List.length x8.1) x8.1), ((List.take (List.length x8.2.1) x8.2.1), ((List.take (List.length x8.2.2.1) x8.2.2.1), (List.take (List.length x8.2.2.2) x8.2.2.2)))) x10 (y9.2.1, (y9.2.2.1, ((List.take (List.length y9.2.2.2.1) y9.2.2.2.1), (y9.2.2.2.2.1, ((List.take (List.length y9.2.2.2.2.2.1) y9.2.2.2.2.2.1), (List.take (List.length y9.2.2.2.2.2.2) y9.2.2.2.2.2.2)))))) y9.1 x6.2.1 ((List.length x6.2.1) : Int) (0 : Int)
def f_arguments_Bind.b_l5 (c12 : f_arguments_Check.E) (c30 : f_arguments_fault.E) (c23 : f_slices_Concat_Value.E) (c44 : f_slices_IndexFunc_Value.E) (c45 : f_arguments_Bind_c1.E) (c46 : f_arguments_binding_positional.E) (c47 : f_arguments_binding_named.E) (c48 : f_arguments_binding_rest.E) (n_l5 : (List X_Value) → X_Arguments → X_Bound → X_Fault → X_binding → (List UInt8) → (List (List UInt8)) → (Int) → (Int) → Option (X_Bound × ((List UInt8) × X_Fault))) (r_g34 : X_Bound → X_Fault → (List UInt8) → Option (X_Bound × ((List UInt8) × X_Fault))) (r_g35 : X_Bound → X_Fault → X_binding → Option (X_Bound × ((List UInt8) × X_Fault))) (x1 : List X_Value) (x6 : (List X_Value) × ((List (List UInt8)) × (List X_Value))) (x8 : (List X_Value) × X_Arguments) (x10 : (Int) × (Int)) (x16 : (List X_Param) × ((List UInt8) × X_Bound)) (x17 : List UInt8) (x105 : List (List UInt8)) (x106 : Int) (x107 : Int) : Option (X_Bound × ((List UInt8) × X_Fault)) :=
  bif (decide (x107 < x106)) then
    if 0 ≤ x107 ∧ x107 < ((List.length x105) : Int) then
      bif (x17 == []) then
        if 0 ≤ x107 ∧ x107 < ((List.length x6.2.2) : Int) then
          (c47 ((x16.1, (x16.2.1, ((List.take (List.length x16.2.2.1) x16.2.2.1), (x16.2.2.2.1, ((List.take (List.length x16.2.2.2.2.1) x16.2.2.2.2.1), (List.take (List.length x16.2.2.2.2.2) x16.2.2.2.2.2)))))), ((List.getD x105 (Int.toNat x107) []), (List.getD x6.2.2 (Int.toNat x107) Z_Value)))).bind fun y10 =>
            n_l5 x1 x6 ((List.take (List.length x8.1) x8.1), ((List.take (List.length x8.2.1) x8.2.1), ((List.take (List.length x8.2.2.1) x8.2.2.1), (List.take (List.length x8.2.2.2) x8.2.2.2)))) x10 (y10.2.1, (y10.2.2.1, ((List.take (List.length y10.2.2.2.1) y10.2.2.2.1), (y10.2.2.2.2.1, ((List.take (List.length y10.2.2.2.2.2.1) y10.2.2.2.2.2.1), (List.take (List.length y10.2.2.2.2.2.2) y10.2.2.2.2.2.2)))))) y10.1 x105 x106 (IntKind.i64.wrap (x107 + (1 : Int)))
        else none
      else
        n_l5 x1 x6 ((List.take (List.length x8.1) x8.1), ((List.take (List.length x8.2.1) x8.2.1), ((List.take (List.length x8.2.2.1) x8.2.2.1), (List.take (List.length x8.2.2.2) x8.2.2.2)))) x10 (x16.1, (x16.2.1, ((List.take (List.length x16.2.2.1) x16.2.2.1), (x16.2.2.2.1, ((List.take (List.length x16.2.2.2.2.1) x16.2.2.2.2.1), (List.take (List.length x16.2.2.2.2.2) x16.2.2.2.2.2)))))) x17 x105 x106 (IntKind.i64.wrap (x107 + (1 : Int)))
    else none
  else
    bif (x17 == []) then
      (c48 ((x16.1, (x16.2.1, ((List.take (List.length x16.2.2.1) x16.2.2.1), (x16.2.2.2.1, ((List.take (List.length x16.2.2.2.2.1) x16.2.2.2.2.1), (List.take (List.length x16.2.2.2.2.2) x16.2.2.2.2.2)))))), x1)).bind fun y11 =>
        bif (y11.1 != []) then
          r_g34 ((List.take (List.length x8.1) x8.1), ((List.take (List.length x8.2.1) x8.2.1), ((List.take (List.length x8.2.2.1) x8.2.2.1), (List.take (List.length x8.2.2.2) x8.2.2.2)))) x10 y11.1
        else
          r_g35 ((List.take (List.length x8.1) x8.1), ((List.take (List.length x8.2.1) x8.2.1), ((List.take (List.length x8.2.2.1) x8.2.2.1), (List.take (List.length x8.2.2.2) x8.2.2.2)))) x10 (y11.2.1, (y11.2.2.1, ((List.take (List.length y11.2.2.2.1) y11.2.2.2.1), (y11.2.2.2.2.1, ((List.take (List.length y11.2.2.2.2.2.1) y11.2.2.2.2.2.1), (List.take (List.length y11.2.2.2.2.2.2) y11.2.2.2.2.2.2))))))
    else
      bif (x17 != []) then
        r_g34 ((List.take (List.length x8.1) x8.1), ((List.take (List.length x8.2.1) x8.2.1), ((List.take (List.length x8.2.2.1) x8.2.2.1), (List.take (List.length x8.2.2.2) x8.2.2.2)))) x10 x17
      else
        r_g35 ((List.take (List.length x8.1) x8.1), ((List.take (List.length x8.2.1) x8.2.1), ((List.take (List.length x8.2.2.1) x8.2.2.1), (List.take (List.length x8.2.2.2) x8.2.2.2)))) x10 (x16.1, (x16.2.1, ((List.take (List.length x16.2.2.1) x16.2.2.1), (x16.2.2.2.1, ((List.take (List.length x16.2.2.2.2.1) x16.2.2.2.2.1), (List.take (List.length x16.2.2.2.2.2) x16.2.2.2.2.2))))))
def f_arguments_Bind.b_g34 (c12 : f_arguments_Check.E) (c30 : f_arguments_fault.E) (c23 : f_slices_Concat_Value.E) (c44 : f_slices_IndexFunc_Value.E) (c45 : f_arguments_Bind_c1.E) (c46 : f_arguments_binding_positional.E) (c47 : f_arguments_binding_named.E) (c48 : f_arguments_binding_rest.E)  (x8 : (List X_Value) × X_Arguments) (x10 : (Int) × (Int)) (x17 : List UInt8) : Option (X_Bound × ((List UInt8) × X_Fault)) :=
  some ((([] : List X_Value), (([] : List X_Value), (([] : List (List UInt8)), ([] : List X_Value)))), (x17, ((0 : Int), (0 : Int))))
def f_arguments_Bind.b_g35 (c12 : f_arguments_Check.E) (c30 : f_arguments_fault.E) (c23 : f_slices_Concat_Value.E) (c44 : f_slices_IndexFunc_Value.E) (c45 : f_arguments_Bind_c1.E) (c46 : f_arguments_binding_positional.E) (c47 : f_arguments_binding_named.E) (c48 : f_arguments_binding_rest.E)  (x8 : (List X_Value) × X_Arguments) (x10 : (Int) × (Int)) (x16 : (List X_Param) × ((List UInt8) × X_Bound)) : Option (X_Bound × ((List UInt8) × X_Fault)) :=
  some (((List.take (List.length x16.2.2.1) x16.2.2.1), (x16.2.2.2.1, ((List.take (List.length x16.2.2.2.2.1) x16.2.2.2.2.1), (List.take (List.length x16.2.2.2.2.2) x16.2.2.2.2.2)))), ([], ((0 : Int), (0 : Int))))
def f_arguments_Bind.c (c12 : f_arguments_Check.E) (c30 : f_arguments_fault.E) (c23 : f_slices_Concat_Value.E) (c44 : f_slices_IndexFunc_Value.E) (c45 : f_arguments_Bind_c1.E) (c46 : f_arguments_binding_positional.E) (c47 : f_arguments_binding_named.E) (c48 : f_arguments_binding_rest.E) (r_l0 : (List X_Param) → (List X_Value) → (List UInt8) → X_Arguments → X_Bound → X_Fault → (Int) → (List X_Param) → (Int) → (Int) → Option (X_Bound × ((List UInt8) × X_Fault))) (a0 : List X_Param) (a1 : List X_Value) (a2 : (List X_Value) × ((List (List UInt8)) × (List X_Value))) (a3 : List UInt8) : Option (X_Bound × ((List UInt8) × X_Fault)) :=
  (c12 a0).bind fun y1 =>
    bif (y1.1 != (0 : Int)) then
      some ((([] : List X_Value), (([] : List X_Value), (([] : List (List UInt8)), ([] : List X_Value)))), ([], y1))
    else
      r_l0 a0 a1 a3 a2 (([] : List X_Value), (([] : List X_Value), (([] : List (List UInt8)), ([] : List X_Value)))) ((0 : Int), (0 : Int)) (0 : Int) a0 ((List.length a0) : Int) (0 : Int)
theorem f_arguments_Bind.q (c12 : f_arguments_Check.E) (c30 : f_arguments_fault.E) (c23 : f_slices_Concat_Value.E) (c44 : f_slices_IndexFunc_Value.E) (c45 : f_arguments_Bind_c1.E) (c46 : f_arguments_binding_positional.E) (c47 : f_arguments_binding_named.E) (c48 : f_arguments_binding_rest.E) (r_l0 : (List X_Param) → (List X_Value) → (List UInt8) → X_Arguments → X_Bound → X_Fault → (Int) → (List X_Param) → (Int) → (Int) → Option (X_Bound × ((List UInt8) × X_Fault))) (a0 : List X_Param) (a1 : List X_Value) (a2 : (List X_Value) × ((List (List UInt8)) × (List X_Value))) (a3 : List UInt8) : f_arguments_Bind.b c12 c30 c23 c44 c45 c46 c47 c48 r_l0 a0 a1 a2 a3 = f_arguments_Bind.c c12 c30 c23 c44 c45 c46 c47 c48 r_l0 a0 a1 a2 a3 := by
  simp only [f_arguments_Bind.b, f_arguments_Bind.c, List.take_length, take_one, Nat.zero_add, Int.toNat_natCast, Int.toNat_zero, List.drop_zero, List.append_eq, Nat.le_refl, Int.le_refl, true_and, and_true, zero_le_one, if_true, prod_eta, Int.natCast_zero]
def f_arguments_Bind.c_l0 (c12 : f_arguments_Check.E) (c30 : f_arguments_fault.E) (c23 : f_slices_Concat_Value.E) (c44 : f_slices_IndexFunc_Value.E) (c45 : f_arguments_Bind_c1.E) (c46 : f_arguments_binding_positional.E) (c47 : f_arguments_binding_named.E) (c48 : f_arguments_binding_rest.E) (n_l0 : (List X_Param) → (List X_Value) → (List UInt8) → X_Arguments → X_Bound → X_Fault → (Int) → (List X_Param) → (Int) → (Int) → Option (X_Bound × ((List UInt8) × X_Fault))) (r_l3 : (List X_Value) → X_Arguments → X_Bound → X_Fault → X_binding → (Int) → (Int) → Option (X_Bound × ((List UInt8) × X_Fault))) (x0 : List X_Param) (x1 : List X_Value) (x3 : List UInt8) (x6 : (List X_Value) × ((List (List UInt8)) × (List X_Value))) (x8 : (List X_Value) × X_Arguments) (x10 : (Int) × (Int)) (x12 : Int) (x27 : List X_Param) (x28 : Int) (x29 : Int) : Option (X_Bound × ((List UInt8) × X_Fault)) :=
  bif (decide (x29 < x28)) then
    if 0 ≤ x29 ∧ x29 < ((List.length x27) : Int) then
      n_l0 x0 x1 x3 x6 x8 x10 (IntKind.i64.wrap (x12 + ((List.length (((List.getD x27 (Int.toNat x29) ((0 : Int), ([], []))).2).2)) : Int))) x27 x28 (IntKind.i64.wrap (x29 + (1 : Int)))
    else none
  else
    bif (((List.length x1) : Int) != x12) then
      (c30 ((9 : Int), (-2 : Int))).bind fun y2 =>
        some ((([] : List X_Value), (([] : List X_Value), (([] : List (List UInt8)), ([] : List X_Value)))), ([], y2))
    else
      bif (((List.length x6.2.1) : Int) != ((List.length x6.2.2) : Int)) then
        (c30 ((9 : Int), (-3 : Int))).bind fun y3 =>
          some ((([] : List X_Value), (([] : List X_Value), (([] : List (List UInt8)), ([] : List X_Value)))), ([], y3))
      else
        bif (decide ((IntKind.i64.wrap (((List.length x6.1) : Int) + ((List.length x6.2.1) : Int))) > (1000 : Int))) then
          (c30 ((2 : Int), (-3 : Int))).bind fun y4 =>
            some ((([] : List X_Value), (([] : List X_Value), (([] : List (List UInt8)), ([] : List X_Value)))), ([], y4))
        else
          (c23 (List.take 2 ([x6.1, x6.2.2] : List (List X_Value)))).bind fun y5 =>
            (c44 (y5, (fun z6 => (c45 z6.1).bind some))).bind fun y7 =>
              bif (decide (y7 ≥ (0 : Int))) then
                (c30 ((18 : Int), y7)).bind fun y8 =>
                  some ((([] : List X_Value), (([] : List X_Value), (([] : List (List UInt8)), ([] : List X_Value)))), ([], y8))
              else
                r_l3 x1 x6 x8 x10 (x0, (x3, (([] : List X_Value), (([] : List X_Value), (([] : List (List UInt8)), ([] : List X_Value)))))) ((List.length x0) : Int) (0 : Int)
theorem f_arguments_Bind.q_l0 (c12 : f_arguments_Check.E) (c30 : f_arguments_fault.E) (c23 : f_slices_Concat_Value.E) (c44 : f_slices_IndexFunc_Value.E) (c45 : f_arguments_Bind_c1.E) (c46 : f_arguments_binding_positional.E) (c47 : f_arguments_binding_named.E) (c48 : f_arguments_binding_rest.E) (n_l0 : (List X_Param) → (List X_Value) → (List UInt8) → X_Arguments → X_Bound → X_Fault → (Int) → (List X_Param) → (Int) → (Int) → Option (X_Bound × ((List UInt8) × X_Fault))) (r_l3 : (List X_Value) → X_Arguments → X_Bound → X_Fault → X_binding → (Int) → (Int) → Option (X_Bound × ((List UInt8) × X_Fault))) (x0 : List X_Param) (x1 : List X_Value) (x3 : List UInt8) (x6 : (List X_Value) × ((List (List UInt8)) × (List X_Value))) (x8 : (List X_Value) × X_Arguments) (x10 : (Int) × (Int)) (x12 : Int) (x27 : List X_Param) (x28 : Int) (x29 : Int) : f_arguments_Bind.b_l0 c12 c30 c23 c44 c45 c46 c47 c48 n_l0 r_l3 x0 x1 x3 x6 x8 x10 x12 x27 x28 x29 = f_arguments_Bind.c_l0 c12 c30 c23 c44 c45 c46 c47 c48 n_l0 r_l3 x0 x1 x3 x6 x8 x10 x12 x27 x28 x29 := by
  simp only [f_arguments_Bind.b_l0, f_arguments_Bind.c_l0, List.take_length, take_one, Nat.zero_add, Int.toNat_natCast, Int.toNat_zero, List.drop_zero, List.append_eq, Nat.le_refl, Int.le_refl, true_and, and_true, zero_le_one, if_true, prod_eta, Int.natCast_zero]
def f_arguments_Bind.c_l3 (c12 : f_arguments_Check.E) (c30 : f_arguments_fault.E) (c23 : f_slices_Concat_Value.E) (c44 : f_slices_IndexFunc_Value.E) (c45 : f_arguments_Bind_c1.E) (c46 : f_arguments_binding_positional.E) (c47 : f_arguments_binding_named.E) (c48 : f_arguments_binding_rest.E) (n_l3 : (List X_Value) → X_Arguments → X_Bound → X_Fault → X_binding → (Int) → (Int) → Option (X_Bound × ((List UInt8) × X_Fault))) (r_l5 : (List X_Value) → X_Arguments → X_Bound → X_Fault → X_binding → (List UInt8) → (List (List UInt8)) → (Int) → (Int) → Option (X_Bound × ((List UInt8) × X_Fault))) (x1 : List X_Value) (x6 : (List X_Value) × ((List (List UInt8)) × (List X_Value))) (x8 : (List X_Value) × X_Arguments) (x10 : (Int) × (Int)) (x16 : (List X_Param) × ((List UInt8) × X_Bound)) (x84 : Int) (x85 : Int) : Option (X_Bound × ((List UInt8) × X_Fault)) :=
  bif (decide (x85 < x84)) then
    if ((List.length x16.2.2.1) + (List.length ([((9 : Int), ((false, ([] : List Int)), ((false, ([] : List Int)), ([], (0 : Int)))))] : List X_Value))) * 96 ≤ LIM then
      n_l3 x1 x6 x8 x10 (x16.1, (x16.2.1, ((x16.2.2.1 ++ ([((9 : Int), ((false, ([] : List Int)), ((false, ([] : List Int)), ([], (0 : Int)))))] : List X_Value)), x16.2.2.2))) x84 (IntKind.i64.wrap (x85 + (1 : Int)))
    else none
  else
    (c46 (x16, x6.1)).bind fun y9 =>
      r_l5 x1 x6 x8 x10 y9.2 y9.1 x6.2.1 ((List.length x6.2.1) : Int) (0 : Int)
theorem f_arguments_Bind.q_l3 (c12 : f_arguments_Check.E) (c30 : f_arguments_fault.E) (c23 : f_slices_Concat_Value.E) (c44 : f_slices_IndexFunc_Value.E) (c45 : f_arguments_Bind_c1.E) (c46 : f_arguments_binding_positional.E) (c47 : f_arguments_binding_named.E) (c48 : f_arguments_binding_rest.E) (n_l3 : (List X_Value) → X_Arguments → X_Bound → X_Fault → X_binding → (Int) → (Int) → Option (X_Bound × ((List UInt8) × X_Fault))) (r_l5 : (List X_Value) → X_Arguments → X_Bound → X_Fault → X_binding → (List UInt8) → (List (List UInt8)) → (Int) → (Int) → Option (X_Bound × ((List UInt8) × X_Fault))) (x1 : List X_Value) (x6 : (List X_Value) × ((List (List UInt8)) × (List X_Value))) (x8 : (List X_Value) × X_Arguments) (x10 : (Int) × (Int)) (x16 : (List X_Param) × ((List UInt8) × X_Bound)) (x84 : Int) (x85 : Int) : f_arguments_Bind.b_l3 c12 c30 c23 c44 c45 c46 c47 c48 n_l3 r_l5 x1 x6 x8 x10 x16 x84 x85 = f_arguments_Bind.c_l3 c12 c30 c23 c44 c45 c46 c47 c48 n_l3 r_l5 x1 x6 x8 x10 x16 x84 x85 := by
  simp only [f_arguments_Bind.b_l3, f_arguments_Bind.c_l3, List.take_length, take_one, Nat.zero_add, Int.toNat_natCast, Int.toNat_zero, List.drop_zero, List.append_eq, Nat.le_refl, Int.le_refl, true_and, and_true, zero_le_one, if_true, prod_eta, Int.natCast_zero]
def f_arguments_Bind.c_l5 (c12 : f_arguments_Check.E) (c30 : f_arguments_fault.E) (c23 : f_slices_Concat_Value.E) (c44 : f_slices_IndexFunc_Value.E) (c45 : f_arguments_Bind_c1.E) (c46 : f_arguments_binding_positional.E) (c47 : f_arguments_binding_named.E) (c48 : f_arguments_binding_rest.E) (n_l5 : (List X_Value) → X_Arguments → X_Bound → X_Fault → X_binding → (List UInt8) → (List (List UInt8)) → (Int) → (Int) → Option (X_Bound × ((List UInt8) × X_Fault))) (r_g34 : X_Bound → X_Fault → (List UInt8) → Option (X_Bound × ((List UInt8) × X_Fault))) (r_g35 : X_Bound → X_Fault → X_binding → Option (X_Bound × ((List UInt8) × X_Fault))) (x1 : List X_Value) (x6 : (List X_Value) × ((List (List UInt8)) × (List X_Value))) (x8 : (List X_Value) × X_Arguments) (x10 : (Int) × (Int)) (x16 : (List X_Param) × ((List UInt8) × X_Bound)) (x17 : List UInt8) (x105 : List (List UInt8)) (x106 : Int) (x107 : Int) : Option (X_Bound × ((List UInt8) × X_Fault)) :=
  bif (decide (x107 < x106)) then
    if 0 ≤ x107 ∧ x107 < ((List.length x105) : Int) then
      bif (x17 == []) then
        if 0 ≤ x107 ∧ x107 < ((List.length x6.2.2) : Int) then
          (c47 (x16, ((List.getD x105 (Int.toNat x107) []), (List.getD x6.2.2 (Int.toNat x107) Z_Value)))).bind fun y10 =>
            n_l5 x1 x6 x8 x10 y10.2 y10.1 x105 x106 (IntKind.i64.wrap (x107 + (1 : Int)))
        else none
      else
        n_l5 x1 x6 x8 x10 x16 x17 x105 x106 (IntKind.i64.wrap (x107 + (1 : Int)))
    else none
  else
    bif (x17 == []) then
      (c48 (x16, x1)).bind fun y11 =>
        bif (y11.1 != []) then
          r_g34 x8 x10 y11.1
        else
          r_g35 x8 x10 y11.2
    else
      bif (x17 != []) then
        r_g34 x8 x10 x17
      else
        r_g35 x8 x10 x16
theorem f_arguments_Bind.q_l5 (c12 : f_arguments_Check.E) (c30 : f_arguments_fault.E) (c23 : f_slices_Concat_Value.E) (c44 : f_slices_IndexFunc_Value.E) (c45 : f_arguments_Bind_c1.E) (c46 : f_arguments_binding_positional.E) (c47 : f_arguments_binding_named.E) (c48 : f_arguments_binding_rest.E) (n_l5 : (List X_Value) → X_Arguments → X_Bound → X_Fault → X_binding → (List UInt8) → (List (List UInt8)) → (Int) → (Int) → Option (X_Bound × ((List UInt8) × X_Fault))) (r_g34 : X_Bound → X_Fault → (List UInt8) → Option (X_Bound × ((List UInt8) × X_Fault))) (r_g35 : X_Bound → X_Fault → X_binding → Option (X_Bound × ((List UInt8) × X_Fault))) (x1 : List X_Value) (x6 : (List X_Value) × ((List (List UInt8)) × (List X_Value))) (x8 : (List X_Value) × X_Arguments) (x10 : (Int) × (Int)) (x16 : (List X_Param) × ((List UInt8) × X_Bound)) (x17 : List UInt8) (x105 : List (List UInt8)) (x106 : Int) (x107 : Int) : f_arguments_Bind.b_l5 c12 c30 c23 c44 c45 c46 c47 c48 n_l5 r_g34 r_g35 x1 x6 x8 x10 x16 x17 x105 x106 x107 = f_arguments_Bind.c_l5 c12 c30 c23 c44 c45 c46 c47 c48 n_l5 r_g34 r_g35 x1 x6 x8 x10 x16 x17 x105 x106 x107 := by
  simp only [f_arguments_Bind.b_l5, f_arguments_Bind.c_l5, List.take_length, take_one, Nat.zero_add, Int.toNat_natCast, Int.toNat_zero, List.drop_zero, List.append_eq, Nat.le_refl, Int.le_refl, true_and, and_true, zero_le_one, if_true, prod_eta, Int.natCast_zero]
def f_arguments_Bind.c_g34 (c12 : f_arguments_Check.E) (c30 : f_arguments_fault.E) (c23 : f_slices_Concat_Value.E) (c44 : f_slices_IndexFunc_Value.E) (c45 : f_arguments_Bind_c1.E) (c46 : f_arguments_binding_positional.E) (c47 : f_arguments_binding_named.E) (c48 : f_arguments_binding_rest.E)  (x8 : (List X_Value) × X_Arguments) (x10 : (Int) × (Int)) (x17 : List UInt8) : Option (X_Bound × ((List UInt8) × X_Fault)) :=
  some ((([] : List X_Value), (([] : List X_Value), (([] : List (List UInt8)), ([] : List X_Value)))), (x17, ((0 : Int), (0 : Int))))
theorem f_arguments_Bind.q_g34 (c12 : f_arguments_Check.E) (c30 : f_arguments_fault.E) (c23 : f_slices_Concat_Value.E) (c44 : f_slices_IndexFunc_Value.E) (c45 : f_arguments_Bind_c1.E) (c46 : f_arguments_binding_positional.E) (c47 : f_arguments_binding_named.E) (c48 : f_arguments_binding_rest.E)  (x8 : (List X_Value) × X_Arguments) (x10 : (Int) × (Int)) (x17 : List UInt8) : f_arguments_Bind.b_g34 c12 c30 c23 c44 c45 c46 c47 c48 x8 x10 x17 = f_arguments_Bind.c_g34 c12 c30 c23 c44 c45 c46 c47 c48 x8 x10 x17 := by
  simp only [f_arguments_Bind.b_g34, f_arguments_Bind.c_g34, List.take_length, take_one, Nat.zero_add, Int.toNat_natCast, Int.toNat_zero, List.drop_zero, List.append_eq, Nat.le_refl, Int.le_refl, true_and, and_true, zero_le_one, if_true, prod_eta, Int.natCast_zero]
def f_arguments_Bind.c_g35 (c12 : f_arguments_Check.E) (c30 : f_arguments_fault.E) (c23 : f_slices_Concat_Value.E) (c44 : f_slices_IndexFunc_Value.E) (c45 : f_arguments_Bind_c1.E) (c46 : f_arguments_binding_positional.E) (c47 : f_arguments_binding_named.E) (c48 : f_arguments_binding_rest.E)  (x8 : (List X_Value) × X_Arguments) (x10 : (Int) × (Int)) (x16 : (List X_Param) × ((List UInt8) × X_Bound)) : Option (X_Bound × ((List UInt8) × X_Fault)) :=
  some (x16.2.2, ([], ((0 : Int), (0 : Int))))
theorem f_arguments_Bind.q_g35 (c12 : f_arguments_Check.E) (c30 : f_arguments_fault.E) (c23 : f_slices_Concat_Value.E) (c44 : f_slices_IndexFunc_Value.E) (c45 : f_arguments_Bind_c1.E) (c46 : f_arguments_binding_positional.E) (c47 : f_arguments_binding_named.E) (c48 : f_arguments_binding_rest.E)  (x8 : (List X_Value) × X_Arguments) (x10 : (Int) × (Int)) (x16 : (List X_Param) × ((List UInt8) × X_Bound)) : f_arguments_Bind.b_g35 c12 c30 c23 c44 c45 c46 c47 c48 x8 x10 x16 = f_arguments_Bind.c_g35 c12 c30 c23 c44 c45 c46 c47 c48 x8 x10 x16 := by
  simp only [f_arguments_Bind.b_g35, f_arguments_Bind.c_g35, List.take_length, take_one, Nat.zero_add, Int.toNat_natCast, Int.toNat_zero, List.drop_zero, List.append_eq, Nat.le_refl, Int.le_refl, true_and, and_true, zero_le_one, if_true, prod_eta, Int.natCast_zero]
def f_arguments_Bind.g34 (c12 : f_arguments_Check.E) (c30 : f_arguments_fault.E) (c23 : f_slices_Concat_Value.E) (c44 : f_slices_IndexFunc_Value.E) (c45 : f_arguments_Bind_c1.E) (c46 : f_arguments_binding_positional.E) (c47 : f_arguments_binding_named.E) (c48 : f_arguments_binding_rest.E) (k : Nat)  (x8 : (List X_Value) × X_Arguments) (x10 : (Int) × (Int)) (x17 : List UInt8) : Option (X_Bound × ((List UInt8) × X_Fault)) := gate k (f_arguments_Bind.b_g34 c12 c30 c23 c44 c45 c46 c47 c48  x8 x10 x17)
def f_arguments_Bind.g35 (c12 : f_arguments_Check.E) (c30 : f_arguments_fault.E) (c23 : f_slices_Concat_Value.E) (c44 : f_slices_IndexFunc_Value.E) (c45 : f_arguments_Bind_c1.E) (c46 : f_arguments_binding_positional.E) (c47 : f_arguments_binding_named.E) (c48 : f_arguments_binding_rest.E) (k : Nat)  (x8 : (List X_Value) × X_Arguments) (x10 : (Int) × (Int)) (x16 : (List X_Param) × ((List UInt8) × X_Bound)) : Option (X_Bound × ((List UInt8) × X_Fault)) := gate k (f_arguments_Bind.b_g35 c12 c30 c23 c44 c45 c46 c47 c48  x8 x10 x16)
def f_arguments_Bind.l5 (c12 : f_arguments_Check.E) (c30 : f_arguments_fault.E) (c23 : f_slices_Concat_Value.E) (c44 : f_slices_IndexFunc_Value.E) (c45 : f_arguments_Bind_c1.E) (c46 : f_arguments_binding_positional.E) (c47 : f_arguments_binding_named.E) (c48 : f_arguments_binding_rest.E) (k : Nat)  : Nat → (List X_Value) → X_Arguments → X_Bound → X_Fault → X_binding → (List UInt8) → (List (List UInt8)) → (Int) → (Int) → Option (X_Bound × ((List UInt8) × X_Fault))
  | 0, _, _, _, _, _, _, _, _, _ => none
  | n + 1, x1, x6, x8, x10, x16, x17, x105, x106, x107 => f_arguments_Bind.b_l5 c12 c30 c23 c44 c45 c46 c47 c48 (fun x1 x6 x8 x10 x16 x17 x105 x106 x107 => f_arguments_Bind.l5 c12 c30 c23 c44 c45 c46 c47 c48 k  n x1 x6 x8 x10 x16 x17 x105 x106 x107) (f_arguments_Bind.g34 c12 c30 c23 c44 c45 c46 c47 c48 k ) (f_arguments_Bind.g35 c12 c30 c23 c44 c45 c46 c47 c48 k ) x1 x6 x8 x10 x16 x17 x105 x106 x107
def f_arguments_Bind.l3 (c12 : f_arguments_Check.E) (c30 : f_arguments_fault.E) (c23 : f_slices_Concat_Value.E) (c44 : f_slices_IndexFunc_Value.E) (c45 : f_arguments_Bind_c1.E) (c46 : f_arguments_binding_positional.E) (c47 : f_arguments_binding_named.E) (c48 : f_arguments_binding_rest.E) (k : Nat)  : Nat → (List X_Value) → X_Arguments → X_Bound → X_Fault → X_binding → (Int) → (Int) → Option (X_Bound × ((List UInt8) × X_Fault))
  | 0, _, _, _, _, _, _, _ => none
  | n + 1, x1, x6, x8, x10, x16, x84, x85 => f_arguments_Bind.b_l3 c12 c30 c23 c44 c45 c46 c47 c48 (fun x1 x6 x8 x10 x16 x84 x85 => f_arguments_Bind.l3 c12 c30 c23 c44 c45 c46 c47 c48 k  n x1 x6 x8 x10 x16 x84 x85) (f_arguments_Bind.l5 c12 c30 c23 c44 c45 c46 c47 c48 k  k) x1 x6 x8 x10 x16 x84 x85
def f_arguments_Bind.l0 (c12 : f_arguments_Check.E) (c30 : f_arguments_fault.E) (c23 : f_slices_Concat_Value.E) (c44 : f_slices_IndexFunc_Value.E) (c45 : f_arguments_Bind_c1.E) (c46 : f_arguments_binding_positional.E) (c47 : f_arguments_binding_named.E) (c48 : f_arguments_binding_rest.E) (k : Nat)  : Nat → (List X_Param) → (List X_Value) → (List UInt8) → X_Arguments → X_Bound → X_Fault → (Int) → (List X_Param) → (Int) → (Int) → Option (X_Bound × ((List UInt8) × X_Fault))
  | 0, _, _, _, _, _, _, _, _, _, _ => none
  | n + 1, x0, x1, x3, x6, x8, x10, x12, x27, x28, x29 => f_arguments_Bind.b_l0 c12 c30 c23 c44 c45 c46 c47 c48 (fun x0 x1 x3 x6 x8 x10 x12 x27 x28 x29 => f_arguments_Bind.l0 c12 c30 c23 c44 c45 c46 c47 c48 k  n x0 x1 x3 x6 x8 x10 x12 x27 x28 x29) (f_arguments_Bind.l3 c12 c30 c23 c44 c45 c46 c47 c48 k  k) x0 x1 x3 x6 x8 x10 x12 x27 x28 x29
def f_arguments_Bind.f (c12 : f_arguments_Check.E) (c30 : f_arguments_fault.E) (c23 : f_slices_Concat_Value.E) (c44 : f_slices_IndexFunc_Value.E) (c45 : f_arguments_Bind_c1.E) (c46 : f_arguments_binding_positional.E) (c47 : f_arguments_binding_named.E) (c48 : f_arguments_binding_rest.E) (k : Nat) (a0 : List X_Param) (a1 : List X_Value) (a2 : (List X_Value) × ((List (List UInt8)) × (List X_Value))) (a3 : List UInt8) : Option (X_Bound × ((List UInt8) × X_Fault)) := f_arguments_Bind.b c12 c30 c23 c44 c45 c46 c47 c48 (f_arguments_Bind.l0 c12 c30 c23 c44 c45 c46 c47 c48 k k) a0 a1 a2 a3
noncomputable def f_arguments_Bind.M_l0 (c12 : f_arguments_Check.E) (c30 : f_arguments_fault.E) (c23 : f_slices_Concat_Value.E) (c44 : f_slices_IndexFunc_Value.E) (c45 : f_arguments_Bind_c1.E) (c46 : f_arguments_binding_positional.E) (c47 : f_arguments_binding_named.E) (c48 : f_arguments_binding_rest.E) (k n : Nat)  (s : St) : Option (X_Bound × ((List UInt8) × X_Fault)) := atLoop (f_arguments_Bind.C c12 c30 c23 c44 c45 c46 c47 c48) k n [1, 1, 1, 0, 1, 0] [] f_arguments_Bind.code (f_arguments_Bind.fin c12 c30 c23 c44 c45 c46 c47 c48) s
noncomputable def f_arguments_Bind.fr_l0 (x0 : List X_Param) (x1 : List X_Value) (x3 : List UInt8) (x6 : (List X_Value) × ((List (List UInt8)) × (List X_Value))) (x8 : (List X_Value) × X_Arguments) (x10 : (Int) × (Int)) (x12 : Int) (x27 : List X_Param) (x28 : Int) (x29 : Int) : St := ⟨(((((((((((List.replicate 138 V.un).set 0 (V.dat (.sl 51 Y_Param) x0)).set 1 (V.dat (.sl 58 Y_Value) x1)).set 3 (V.dat .str x3)).set 6 (V.bp 600006 0 [])).set 8 (V.bp 600008 0 [])).set 10 (V.bp 600010 0 [])).set 12 (V.dat (.int .i64) x12)).set 27 (V.dat (.sl 51 Y_Param) x27)).set 28 (V.dat (.int .i64) x28)).set 29 (V.dat (.int .i64) x29)), [⟨600010, 0, .box (V.dat Y_Fault x10)⟩, ⟨600008, 0, .box (V.st (V.ref 11600128 0 0 (List.length x8.1)) (V.st (V.ref 11600129 0 0 (List.length x8.2.1)) (V.st (V.ref 11600130 0 0 (List.length x8.2.2.1)) (V.ref 11600131 0 0 (List.length x8.2.2.2)))))⟩, ⟨11600128, 0, .arr 58 Y_Value x8.1⟩, ⟨11600129, 0, .arr 58 Y_Value x8.2.1⟩, ⟨11600130, 0, .arr 9 .str x8.2.2.1⟩, ⟨11600131, 0, .arr 58 Y_Value x8.2.2.2⟩, ⟨600006, 0, .box (V.dat Y_Arguments x6)⟩]⟩
noncomputable def f_arguments_Bind.M_l3 (c12 : f_arguments_Check.E) (c30 : f_arguments_fault.E) (c23 : f_slices_Concat_Value.E) (c44 : f_slices_IndexFunc_Value.E) (c45 : f_arguments_Bind_c1.E) (c46 : f_arguments_binding_positional.E) (c47 : f_arguments_binding_named.E) (c48 : f_arguments_binding_rest.E) (k n : Nat)  (s : St) : Option (X_Bound × ((List UInt8) × X_Fault)) := atLoop (f_arguments_Bind.C c12 c30 c23 c44 c45 c46 c47 c48) k n [1, 1, 1, 1, 1, 1, 1, 0, 1, 0] [] f_arguments_Bind.code (f_arguments_Bind.fin c12 c30 c23 c44 c45 c46 c47 c48) s
noncomputable def f_arguments_Bind.fr_l3 (x1 : List X_Value) (x6 : (List X_Value) × ((List (List UInt8)) × (List X_Value))) (x8 : (List X_Value) × X_Arguments) (x10 : (Int) × (Int)) (x16 : (List X_Param) × ((List UInt8) × X_Bound)) (x84 : Int) (x85 : Int) : St := ⟨((((((((List.replicate 138 V.un).set 1 (V.dat (.sl 58 Y_Value) x1)).set 6 (V.bp 600006 0 [])).set 8 (V.bp 600008 0 [])).set 10 (V.bp 600010 0 [])).set 16 (V.bp 600016 0 [])).set 84 (V.dat (.int .i64) x84)).set 85 (V.dat (.int .i64) x85)), [⟨600016, 0, .box (V.st (V.dat (.sl 51 Y_Param) x16.1) (V.st (V.dat .str x16.2.1) (V.st (V.ref 11600256 0 0 (List.length x16.2.2.1)) (V.st (V.ref 11600257 0 0 (List.length x16.2.2.2.1)) (V.st (V.ref 11600258 0 0 (List.length x16.2.2.2.2.1)) (V.ref 11600259 0 0 (List.length x16.2.2.2.2.2)))))))⟩, ⟨11600256, 0, .arr 58 Y_Value x16.2.2.1⟩, ⟨11600257, 0, .arr 58 Y_Value x16.2.2.2.1⟩, ⟨11600258, 0, .arr 9 .str x16.2.2.2.2.1⟩, ⟨11600259, 0, .arr 58 Y_Value x16.2.2.2.2.2⟩, ⟨600010, 0, .box (V.dat Y_Fault x10)⟩, ⟨600008, 0, .box (V.st (V.ref 11600128 0 0 (List.length x8.1)) (V.st (V.ref 11600129 0 0 (List.length x8.2.1)) (V.st (V.ref 11600130 0 0 (List.length x8.2.2.1)) (V.ref 11600131 0 0 (List.length x8.2.2.2)))))⟩, ⟨11600128, 0, .arr 58 Y_Value x8.1⟩, ⟨11600129, 0, .arr 58 Y_Value x8.2.1⟩, ⟨11600130, 0, .arr 9 .str x8.2.2.1⟩, ⟨11600131, 0, .arr 58 Y_Value x8.2.2.2⟩, ⟨600006, 0, .box (V.dat Y_Arguments x6)⟩]⟩
noncomputable def f_arguments_Bind.M_l5 (c12 : f_arguments_Check.E) (c30 : f_arguments_fault.E) (c23 : f_slices_Concat_Value.E) (c44 : f_slices_IndexFunc_Value.E) (c45 : f_arguments_Bind_c1.E) (c46 : f_arguments_binding_positional.E) (c47 : f_arguments_binding_named.E) (c48 : f_arguments_binding_rest.E) (k n : Nat)  (s : St) : Option (X_Bound × ((List UInt8) × X_Fault)) := atLoop (f_arguments_Bind.C c12 c30 c23 c44 c45 c46 c47 c48) k n [1, 1, 1, 1, 1, 1, 1, 1, 1, 0, 1, 0] [] f_arguments_Bind.code (f_arguments_Bind.fin c12 c30 c23 c44 c45 c46 c47 c48) s
noncomputable def f_arguments_Bind.fr_l5 (x1 : List X_Value) (x6 : (List X_Value) × ((List (List UInt8)) × (List X_Value))) (x8 : (List X_Value) × X_Arguments) (x10 : (Int) × (Int)) (x16 : (List X_Param) × ((List UInt8) × X_Bound)) (x17 : List UInt8) (x105 : List (List UInt8)) (x106 : Int) (x107 : Int) : St := ⟨((((((((((List.replicate 138 V.un).set 1 (V.dat (.sl 58 Y_Value) x1)).set 6 (V.bp 600006 0 [])).set 8 (V.bp 600008 0 [])).set 10 (V.bp 600010 0 [])).set 16 (V.bp 600016 0 [])).set 17 (V.dat .str x17)).set 105 (V.dat (.sl 9 .str) x105)).set 106 (V.dat (.int .i64) x106)).set 107 (V.dat (.int .i64) x107)), [⟨600016, 0, .box (V.st (V.dat (.sl 51 Y_Param) x16.1) (V.st (V.dat .str x16.2.1) (V.st (V.ref 11600256 0 0 (List.length x16.2.2.1)) (V.st (V.dat (.sl 58 Y_Value) x16.2.2.2.1) (V.st (V.ref 11600257 0 0 (List.length x16.2.2.2.2.1)) (V.ref 11600258 0 0 (List.length x16.2.2.2.2.2)))))))⟩, ⟨11600256, 0, .arr 58 Y_Value x16.2.2.1⟩, ⟨11600257, 0, .arr 9 .str x16.2.2.2.2.1⟩, ⟨11600258, 0, .arr 58 Y_Value x16.2.2.2.2.2⟩, ⟨600010, 0, .box (V.dat Y_Fault x10)⟩, ⟨600008, 0, .box (V.st (V.ref 11600128 0 0 (List.length x8.1)) (V.st (V.ref 11600129 0 0 (List.length x8.2.1)) (V.st (V.ref 11600130 0 0 (List.length x8.2.2.1)) (V.ref 11600131 0 0 (List.length x8.2.2.2)))))⟩, ⟨11600128, 0, .arr 58 Y_Value x8.1⟩, ⟨11600129, 0, .arr 58 Y_Value x8.2.1⟩, ⟨11600130, 0, .arr 9 .str x8.2.2.1⟩, ⟨11600131, 0, .arr 58 Y_Value x8.2.2.2⟩, ⟨600006, 0, .box (V.dat Y_Arguments x6)⟩]⟩
noncomputable def f_arguments_Bind.M_g34 (c12 : f_arguments_Check.E) (c30 : f_arguments_fault.E) (c23 : f_slices_Concat_Value.E) (c44 : f_slices_IndexFunc_Value.E) (c45 : f_arguments_Bind_c1.E) (c46 : f_arguments_binding_positional.E) (c47 : f_arguments_binding_named.E) (c48 : f_arguments_binding_rest.E) (k : Nat)  (s : St) : Option (X_Bound × ((List UInt8) × X_Fault)) := atGate (f_arguments_Bind.C c12 c30 c23 c44 c45 c46 c47 c48) k [1, 1, 1, 1, 1, 1, 1, 1, 1, 1, 1, 0, 1, 0, 0] [] f_arguments_Bind.code (f_arguments_Bind.fin c12 c30 c23 c44 c45 c46 c47 c48) s
noncomputable def f_arguments_Bind.fr_g34 (x8 : (List X_Value) × X_Arguments) (x10 : (Int) × (Int)) (x17 : List UInt8) : St := ⟨((((List.replicate 138 V.un).set 8 (V.bp 600008 0 [])).set 10 (V.bp 600010 0 [])).set 17 (V.dat .str x17)), [⟨600010, 0, .box (V.dat Y_Fault x10)⟩, ⟨600008, 0, .box (V.st (V.ref 11600128 0 0 (List.length x8.1)) (V.st (V.ref 11600129 0 0 (List.length x8.2.1)) (V.st (V.ref 11600130 0 0 (List.length x8.2.2.1)) (V.ref 11600131 0 0 (List.length x8.2.2.2)))))⟩, ⟨11600128, 0, .arr 58 Y_Value x8.1⟩, ⟨11600129, 0, .arr 58 Y_Value x8.2.1⟩, ⟨11600130, 0, .arr 9 .str x8.2.2.1⟩, ⟨11600131, 0, .arr 58 Y_Value x8.2.2.2⟩]⟩
noncomputable def f_arguments_Bind.M_g35 (c12 : f_arguments_Check.E) (c30 : f_arguments_fault.E) (c23 : f_slices_Concat_Value.E) (c44 : f_slices_IndexFunc_Value.E) (c45 : f_arguments_Bind_c1.E) (c46 : f_arguments_binding_positional.E) (c47 : f_arguments_binding_named.E) (c48 : f_arguments_binding_rest.E) (k : Nat)  (s : St) : Option (X_Bound × ((List UInt8) × X_Fault)) := atGate (f_arguments_Bind.C c12 c30 c23 c44 c45 c46 c47 c48) k [1, 1, 1, 1, 1, 1, 1, 1, 1, 1, 1, 1, 0] [] f_arguments_Bind.code (f_arguments_Bind.fin c12 c30 c23 c44 c45 c46 c47 c48) s
noncomputable def f_arguments_Bind.fr_g35 (x8 : (List X_Value) × X_Arguments) (x10 : (Int) × (Int)) (x16 : (List X_Param) × ((List UInt8) × X_Bound)) : St := ⟨((((List.replicate 138 V.un).set 8 (V.bp 600008 0 [])).set 10 (V.bp 600010 0 [])).set 16 (V.bp 600016 0 [])), [⟨600016, 0, .box (V.st (V.dat (.sl 51 Y_Param) x16.1) (V.st (V.dat .str x16.2.1) (V.st (V.ref 11600256 0 0 (List.length x16.2.2.1)) (V.st (V.dat (.sl 58 Y_Value) x16.2.2.2.1) (V.st (V.ref 11600257 0 0 (List.length x16.2.2.2.2.1)) (V.ref 11600258 0 0 (List.length x16.2.2.2.2.2)))))))⟩, ⟨11600256, 0, .arr 58 Y_Value x16.2.2.1⟩, ⟨11600257, 0, .arr 9 .str x16.2.2.2.2.1⟩, ⟨11600258, 0, .arr 58 Y_Value x16.2.2.2.2.2⟩, ⟨600010, 0, .box (V.dat Y_Fault x10)⟩, ⟨600008, 0, .box (V.st (V.ref 11600128 0 0 (List.length x8.1)) (V.st (V.ref 11600129 0 0 (List.length x8.2.1)) (V.st (V.ref 11600130 0 0 (List.length x8.2.2.1)) (V.ref 11600131 0 0 (List.length x8.2.2.2)))))⟩, ⟨11600128, 0, .arr 58 Y_Value x8.1⟩, ⟨11600129, 0, .arr 58 Y_Value x8.2.1⟩, ⟨11600130, 0, .arr 9 .str x8.2.2.1⟩, ⟨11600131, 0, .arr 58 Y_Value x8.2.2.2⟩]⟩
theorem f_arguments_Bind.r (c12 : f_arguments_Check.E) (c30 : f_arguments_fault.E) (c23 : f_slices_Concat_Value.E) (c44 : f_slices_IndexFunc_Value.E) (c45 : f_arguments_Bind_c1.E) (c46 : f_arguments_binding_positional.E) (c47 : f_arguments_binding_named.E) (c48 : f_arguments_binding_rest.E) (k : Nat) (a0 : List X_Param) (a1 : List X_Value) (a2 : (List X_Value) × ((List (List UInt8)) × (List X_Value))) (a3 : List UInt8) : fn (f_arguments_Bind.C c12 c30 c23 c44 c45 c46 c47 c48) k Try.f18 f_arguments_Bind.A f_arguments_Bind.R (a0, (a1, (a2, a3))) = f_arguments_Bind.b c12 c30 c23 c44 c45 c46 c47 c48 (fun x0 x1 x3 x6 x8 x10 x12 x27 x28 x29 => f_arguments_Bind.M_l0 c12 c30 c23 c44 c45 c46 c47 c48 k k  (f_arguments_Bind.fr_l0 x0 x1 x3 x6 x8 x10 x12 x27 x28 x29)) a0 a1 a2 a3 := by kernel_rfl
theorem f_arguments_Bind.z_l0 (c12 : f_arguments_Check.E) (c30 : f_arguments_fault.E) (c23 : f_slices_Concat_Value.E) (c44 : f_slices_IndexFunc_Value.E) (c45 : f_arguments_Bind_c1.E) (c46 : f_arguments_binding_positional.E) (c47 : f_arguments_binding_named.E) (c48 : f_arguments_binding_rest.E) (k : Nat)  (s : St) : f_arguments_Bind.M_l0 c12 c30 c23 c44 c45 c46 c47 c48 k 0  s = none := by kernel_rfl
theorem f_arguments_Bind.r_l0 (c12 : f_arguments_Check.E) (c30 : f_arguments_fault.E) (c23 : f_slices_Concat_Value.E) (c44 : f_slices_IndexFunc_Value.E) (c45 : f_arguments_Bind_c1.E) (c46 : f_arguments_binding_positional.E) (c47 : f_arguments_binding_named.E) (c48 : f_arguments_binding_rest.E) (k n : Nat)  (x0 : List X_Param) (x1 : List X_Value) (x3 : List UInt8) (x6 : (List X_Value) × ((List (List UInt8)) × (List X_Value))) (x8 : (List X_Value) × X_Arguments) (x10 : (Int) × (Int)) (x12 : Int) (x27 : List X_Param) (x28 : Int) (x29 : Int) : f_arguments_Bind.M_l0 c12 c30 c23 c44 c45 c46 c47 c48 k (n + 1)  (f_arguments_Bind.fr_l0 x0 x1 x3 x6 x8 x10 x12 x27 x28 x29) = f_arguments_Bind.b_l0 c12 c30 c23 c44 c45 c46 c47 c48 (fun x0 x1 x3 x6 x8 x10 x12 x27 x28 x29 => f_arguments_Bind.M_l0 c12 c30 c23 c44 c45 c46 c47 c48 k n  (f_arguments_Bind.fr_l0 x0 x1 x3 x6 x8 x10 x12 x27 x28 x29)) (fun x1 x6 x8 x10 x16 x84 x85 => f_arguments_Bind.M_l3 c12 c30 c23 c44 c45 c46 c47 c48 k k  (f_arguments_Bind.fr_l3 x1 x6 x8 x10 x16 x84 x85)) x0 x1 x3 x6 x8 x10 x12 x27 x28 x29 := by kernel_rfl
theorem f_arguments_Bind.z_l3 (c12 : f_arguments_Check.E) (c30 : f_arguments_fault.E) (c23 : f_slices_Concat_Value.E) (c44 : f_slices_IndexFunc_Value.E) (c45 : f_arguments_Bind_c1.E) (c46 : f_arguments_binding_positional.E) (c47 : f_arguments_binding_named.E) (c48 : f_arguments_binding_rest.E) (k : Nat)  (s : St) : f_arguments_Bind.M_l3 c12 c30 c23 c44 c45 c46 c47 c48 k 0  s = none := by kernel_rfl
theorem f_arguments_Bind.r_l3 (c12 : f_arguments_Check.E) (c30 : f_arguments_fault.E) (c23 : f_slices_Concat_Value.E) (c44 : f_slices_IndexFunc_Value.E) (c45 : f_arguments_Bind_c1.E) (c46 : f_arguments_binding_positional.E) (c47 : f_arguments_binding_named.E) (c48 : f_arguments_binding_rest.E) (k n : Nat)  (x1 : List X_Value) (x6 : (List X_Value) × ((List (List UInt8)) × (List X_Value))) (x8 : (List X_Value) × X_Arguments) (x10 : (Int) × (Int)) (x16 : (List X_Param) × ((List UInt8) × X_Bound)) (x84 : Int) (x85 : Int) : f_arguments_Bind.M_l3 c12 c30 c23 c44 c45 c46 c47 c48 k (n + 1)  (f_arguments_Bind.fr_l3 x1 x6 x8 x10 x16 x84 x85) = f_arguments_Bind.b_l3 c12 c30 c23 c44 c45 c46 c47 c48 (fun x1 x6 x8 x10 x16 x84 x85 => f_arguments_Bind.M_l3 c12 c30 c23 c44 c45 c46 c47 c48 k n  (f_arguments_Bind.fr_l3 x1 x6 x8 x10 x16 x84 x85)) (fun x1 x6 x8 x10 x16 x17 x105 x106 x107 => f_arguments_Bind.M_l5 c12 c30 c23 c44 c45 c46 c47 c48 k k  (f_arguments_Bind.fr_l5 x1 x6 x8 x10 x16 x17 x105 x106 x107)) x1 x6 x8 x10 x16 x84 x85 := by kernel_rfl
theorem f_arguments_Bind.z_l5 (c12 : f_arguments_Check.E) (c30 : f_arguments_fault.E) (c23 : f_slices_Concat_Value.E) (c44 : f_slices_IndexFunc_Value.E) (c45 : f_arguments_Bind_c1.E) (c46 : f_arguments_binding_positional.E) (c47 : f_arguments_binding_named.E) (c48 : f_arguments_binding_rest.E) (k : Nat)  (s : St) : f_arguments_Bind.M_l5 c12 c30 c23 c44 c45 c46 c47 c48 k 0  s = none := by kernel_rfl
theorem f_arguments_Bind.r_l5 (c12 : f_arguments_Check.E) (c30 : f_arguments_fault.E) (c23 : f_slices_Concat_Value.E) (c44 : f_slices_IndexFunc_Value.E) (c45 : f_arguments_Bind_c1.E) (c46 : f_arguments_binding_positional.E) (c47 : f_arguments_binding_named.E) (c48 : f_arguments_binding_rest.E) (k n : Nat)  (x1 : List X_Value) (x6 : (List X_Value) × ((List (List UInt8)) × (List X_Value))) (x8 : (List X_Value) × X_Arguments) (x10 : (Int) × (Int)) (x16 : (List X_Param) × ((List UInt8) × X_Bound)) (x17 : List UInt8) (x105 : List (List UInt8)) (x106 : Int) (x107 : Int) : f_arguments_Bind.M_l5 c12 c30 c23 c44 c45 c46 c47 c48 k (n + 1)  (f_arguments_Bind.fr_l5 x1 x6 x8 x10 x16 x17 x105 x106 x107) = f_arguments_Bind.b_l5 c12 c30 c23 c44 c45 c46 c47 c48 (fun x1 x6 x8 x10 x16 x17 x105 x106 x107 => f_arguments_Bind.M_l5 c12 c30 c23 c44 c45 c46 c47 c48 k n  (f_arguments_Bind.fr_l5 x1 x6 x8 x10 x16 x17 x105 x106 x107)) (fun x8 x10 x17 => f_arguments_Bind.M_g34 c12 c30 c23 c44 c45 c46 c47 c48 k   (f_arguments_Bind.fr_g34 x8 x10 x17)) (fun x8 x10 x16 => f_arguments_Bind.M_g35 c12 c30 c23 c44 c45 c46 c47 c48 k   (f_arguments_Bind.fr_g35 x8 x10 x16)) x1 x6 x8 x10 x16 x17 x105 x106 x107 := by kernel_rfl
theorem f_arguments_Bind.r_g34 (c12 : f_arguments_Check.E) (c30 : f_arguments_fault.E) (c23 : f_slices_Concat_Value.E) (c44 : f_slices_IndexFunc_Value.E) (c45 : f_arguments_Bind_c1.E) (c46 : f_arguments_binding_positional.E) (c47 : f_arguments_binding_named.E) (c48 : f_arguments_binding_rest.E) (k : Nat)  (x8 : (List X_Value) × X_Arguments) (x10 : (Int) × (Int)) (x17 : List UInt8) : f_arguments_Bind.M_g34 c12 c30 c23 c44 c45 c46 c47 c48 k  (f_arguments_Bind.fr_g34 x8 x10 x17) = gate k (f_arguments_Bind.b_g34 c12 c30 c23 c44 c45 c46 c47 c48  x8 x10 x17) := by kernel_rfl
theorem f_arguments_Bind.r_g35 (c12 : f_arguments_Check.E) (c30 : f_arguments_fault.E) (c23 : f_slices_Concat_Value.E) (c44 : f_slices_IndexFunc_Value.E) (c45 : f_arguments_Bind_c1.E) (c46 : f_arguments_binding_positional.E) (c47 : f_arguments_binding_named.E) (c48 : f_arguments_binding_rest.E) (k : Nat)  (x8 : (List X_Value) × X_Arguments) (x10 : (Int) × (Int)) (x16 : (List X_Param) × ((List UInt8) × X_Bound)) : f_arguments_Bind.M_g35 c12 c30 c23 c44 c45 c46 c47 c48 k  (f_arguments_Bind.fr_g35 x8 x10 x16) = gate k (f_arguments_Bind.b_g35 c12 c30 c23 c44 c45 c46 c47 c48  x8 x10 x16) := by kernel_rfl
theorem f_arguments_Bind.e_g34 (c12 : f_arguments_Check.E) (c30 : f_arguments_fault.E) (c23 : f_slices_Concat_Value.E) (c44 : f_slices_IndexFunc_Value.E) (c45 : f_arguments_Bind_c1.E) (c46 : f_arguments_binding_positional.E) (c47 : f_arguments_binding_named.E) (c48 : f_arguments_binding_rest.E) (k : Nat)  (x8 : (List X_Value) × X_Arguments) (x10 : (Int) × (Int)) (x17 : List UInt8) : f_arguments_Bind.M_g34 c12 c30 c23 c44 c45 c46 c47 c48 k  (f_arguments_Bind.fr_g34 x8 x10 x17) = f_arguments_Bind.g34 c12 c30 c23 c44 c45 c46 c47 c48 k  x8 x10 x17 := by
  rw [f_arguments_Bind.r_g34]
  rfl
theorem f_arguments_Bind.e_g35 (c12 : f_arguments_Check.E) (c30 : f_arguments_fault.E) (c23 : f_slices_Concat_Value.E) (c44 : f_slices_IndexFunc_Value.E) (c45 : f_arguments_Bind_c1.E) (c46 : f_arguments_binding_positional.E) (c47 : f_arguments_binding_named.E) (c48 : f_arguments_binding_rest.E) (k : Nat)  (x8 : (List X_Value) × X_Arguments) (x10 : (Int) × (Int)) (x16 : (List X_Param) × ((List UInt8) × X_Bound)) : f_arguments_Bind.M_g35 c12 c30 c23 c44 c45 c46 c47 c48 k  (f_arguments_Bind.fr_g35 x8 x10 x16) = f_arguments_Bind.g35 c12 c30 c23 c44 c45 c46 c47 c48 k  x8 x10 x16 := by
  rw [f_arguments_Bind.r_g35]
  rfl
theorem f_arguments_Bind.e_l5 (c12 : f_arguments_Check.E) (c30 : f_arguments_fault.E) (c23 : f_slices_Concat_Value.E) (c44 : f_slices_IndexFunc_Value.E) (c45 : f_arguments_Bind_c1.E) (c46 : f_arguments_binding_positional.E) (c47 : f_arguments_binding_named.E) (c48 : f_arguments_binding_rest.E) (k n : Nat)  (x1 : List X_Value) (x6 : (List X_Value) × ((List (List UInt8)) × (List X_Value))) (x8 : (List X_Value) × X_Arguments) (x10 : (Int) × (Int)) (x16 : (List X_Param) × ((List UInt8) × X_Bound)) (x17 : List UInt8) (x105 : List (List UInt8)) (x106 : Int) (x107 : Int) : f_arguments_Bind.M_l5 c12 c30 c23 c44 c45 c46 c47 c48 k n  (f_arguments_Bind.fr_l5 x1 x6 x8 x10 x16 x17 x105 x106 x107) = f_arguments_Bind.l5 c12 c30 c23 c44 c45 c46 c47 c48 k  n x1 x6 x8 x10 x16 x17 x105 x106 x107 := by
  induction n generalizing x1 x6 x8 x10 x16 x17 x105 x106 x107 with
  | zero => rw [f_arguments_Bind.z_l5]; rfl
  | succ n ih =>
    rw [f_arguments_Bind.r_l5]
    simp only [f_arguments_Bind.e_g34, f_arguments_Bind.e_g35, ih]
    rfl
theorem f_arguments_Bind.e_l3 (c12 : f_arguments_Check.E) (c30 : f_arguments_fault.E) (c23 : f_slices_Concat_Value.E) (c44 : f_slices_IndexFunc_Value.E) (c45 : f_arguments_Bind_c1.E) (c46 : f_arguments_binding_positional.E) (c47 : f_arguments_binding_named.E) (c48 : f_arguments_binding_rest.E) (k n : Nat)  (x1 : List X_Value) (x6 : (List X_Value) × ((List (List UInt8)) × (List X_Value))) (x8 : (List X_Value) × X_Arguments) (x10 : (Int) × (Int)) (x16 : (List X_Param) × ((List UInt8) × X_Bound)) (x84 : Int) (x85 : Int) : f_arguments_Bind.M_l3 c12 c30 c23 c44 c45 c46 c47 c48 k n  (f_arguments_Bind.fr_l3 x1 x6 x8 x10 x16 x84 x85) = f_arguments_Bind.l3 c12 c30 c23 c44 c45 c46 c47 c48 k  n x1 x6 x8 x10 x16 x84 x85 := by
  induction n generalizing x1 x6 x8 x10 x16 x84 x85 with
  | zero => rw [f_arguments_Bind.z_l3]; rfl
  | succ n ih =>
    rw [f_arguments_Bind.r_l3]
    simp only [f_arguments_Bind.e_l5, ih]
    rfl
theorem f_arguments_Bind.e_l0 (c12 : f_arguments_Check.E) (c30 : f_arguments_fault.E) (c23 : f_slices_Concat_Value.E) (c44 : f_slices_IndexFunc_Value.E) (c45 : f_arguments_Bind_c1.E) (c46 : f_arguments_binding_positional.E) (c47 : f_arguments_binding_named.E) (c48 : f_arguments_binding_rest.E) (k n : Nat)  (x0 : List X_Param) (x1 : List X_Value) (x3 : List UInt8) (x6 : (List X_Value) × ((List (List UInt8)) × (List X_Value))) (x8 : (List X_Value) × X_Arguments) (x10 : (Int) × (Int)) (x12 : Int) (x27 : List X_Param) (x28 : Int) (x29 : Int) : f_arguments_Bind.M_l0 c12 c30 c23 c44 c45 c46 c47 c48 k n  (f_arguments_Bind.fr_l0 x0 x1 x3 x6 x8 x10 x12 x27 x28 x29) = f_arguments_Bind.l0 c12 c30 c23 c44 c45 c46 c47 c48 k  n x0 x1 x3 x6 x8 x10 x12 x27 x28 x29 := by
  induction n generalizing x0 x1 x3 x6 x8 x10 x12 x27 x28 x29 with
  | zero => rw [f_arguments_Bind.z_l0]; rfl
  | succ n ih =>
    rw [f_arguments_Bind.r_l0]
    simp only [f_arguments_Bind.e_l3, ih]
    rfl
theorem f_arguments_Bind.e (c12 : f_arguments_Check.E) (c30 : f_arguments_fault.E) (c23 : f_slices_Concat_Value.E) (c44 : f_slices_IndexFunc_Value.E) (c45 : f_arguments_Bind_c1.E) (c46 : f_arguments_binding_positional.E) (c47 : f_arguments_binding_named.E) (c48 : f_arguments_binding_rest.E) (k : Nat) (a0 : List X_Param) (a1 : List X_Value) (a2 : (List X_Value) × ((List (List UInt8)) × (List X_Value))) (a3 : List UInt8) : fn (f_arguments_Bind.C c12 c30 c23 c44 c45 c46 c47 c48) k Try.f18 f_arguments_Bind.A f_arguments_Bind.R (a0, (a1, (a2, a3))) = f_arguments_Bind.f c12 c30 c23 c44 c45 c46 c47 c48 k a0 a1 a2 a3 := by
  rw [f_arguments_Bind.r]
  simp only [f_arguments_Bind.e_l0]
  rfl
def f_arguments_Bind.u (k : Nat) : f_arguments_Bind.E := fun y => f_arguments_Bind.f (f_arguments_Check.u k) (f_arguments_fault.u k) (f_slices_Concat_Value.u k) (f_slices_IndexFunc_Value.u k) (f_arguments_Bind_c1.u k) (f_arguments_binding_positional.u k) (f_arguments_binding_named.u k) (f_arguments_binding_rest.u k) k y.1 y.2.1 y.2.2.1 y.2.2.2
theorem f_arguments_Bind.ty (c12 : f_arguments_Check.E) (c30 : f_arguments_fault.E) (c23 : f_slices_Concat_Value.E) (c44 : f_slices_IndexFunc_Value.E) (c45 : f_arguments_Bind_c1.E) (c46 : f_arguments_binding_positional.E) (c47 : f_arguments_binding_named.E) (c48 : f_arguments_binding_rest.E) : TyOk Try.prog (f_arguments_Bind.C c12 c30 c23 c44 c45 c46 c47 c48) := tyOk_of (by kernel_rfl)
theorem f_arguments_Bind.sound (k : Nat) : Sound Try.prog ⟨18, f_arguments_Bind.A, f_arguments_Bind.R, f_arguments_Bind.u k⟩ := by
  have h := fn_sound (k := k) («as» := f_arguments_Bind.A) (rs := f_arguments_Bind.R) (f_arguments_Bind.ty (f_arguments_Check.u k) (f_arguments_fault.u k) (f_slices_Concat_Value.u k) (f_slices_IndexFunc_Value.u k) (f_arguments_Bind_c1.u k) (f_arguments_binding_positional.u k) (f_arguments_binding_named.u k) (f_arguments_binding_rest.u k)) (fun E h => by
    simp only [f_arguments_Bind.C, List.mem_cons, List.not_mem_nil, or_false] at h
    rcases h with rfl | rfl | rfl | rfl | rfl | rfl | rfl | rfl
    · exact f_arguments_Check.sound k
    · exact f_arguments_fault.sound k
    · exact f_slices_Concat_Value.sound k
    · exact f_slices_IndexFunc_Value.sound k
    · exact f_arguments_Bind_c1.sound k
    · exact f_arguments_binding_positional.sound k
    · exact f_arguments_binding_named.sound k
    · exact f_arguments_binding_rest.sound k) mixed Try.func18 (by kernel_rfl) (by kernel_rfl)
  have e : fn (f_arguments_Bind.C (f_arguments_Check.u k) (f_arguments_fault.u k) (f_slices_Concat_Value.u k) (f_slices_IndexFunc_Value.u k) (f_arguments_Bind_c1.u k) (f_arguments_binding_positional.u k) (f_arguments_binding_named.u k) (f_arguments_binding_rest.u k)) k Try.f18 f_arguments_Bind.A f_arguments_Bind.R = f_arguments_Bind.u k := by
    funext y
    exact f_arguments_Bind.e (f_arguments_Check.u k) (f_arguments_fault.u k) (f_slices_Concat_Value.u k) (f_slices_IndexFunc_Value.u k) (f_arguments_Bind_c1.u k) (f_arguments_binding_positional.u k) (f_arguments_binding_named.u k) (f_arguments_binding_rest.u k) k y.1 y.2.1 y.2.2.1 y.2.2.2
  rw [e] at h
  exact h
/-! ### brindlewood/brindlewoodref7.BindFault: f19 -/
abbrev f_ref7_BindFault.A : List Sh := [(.d (.sl 51 Y_Param)), (.d (.sl 58 Y_Value)), (.d Y_Arguments)]
abbrev f_ref7_BindFault.R : List Sh := [(.d Y_Fault)]
abbrev f_ref7_BindFault.E : Type := ((List X_Param) × X_Bound) → Option X_Fault
def f_ref7_BindFault.C (c13 : f_ref7_ParamsFault.E) (c34 : f_ref7_At.E) : Ctx := { ty := [(3, (.int .i64)), (25, (.sl 51 Y_Param)), (27, Y_Fault), (36, (.sl 58 Y_Value)), (37, (.sl 9 .str)), (39, Y_Arguments), (49, (.sl 132 (.blob 15))), (51, Y_Param), (58, Y_Value)], nf := [(27, 2), (39, 3), (51, 3), (58, 5)], by_ := [(9, 16), (51, 48), (58, 96), (132, 232)], env := [⟨13, f_ref7_ParamsFault.A, f_ref7_ParamsFault.R, c13⟩, ⟨34, f_ref7_At.A, f_ref7_At.R, c34⟩], spec := [(0, [.d 1 (.sl 58 Y_Value), .bx 5 600005 (.d Y_Arguments), .bx 6 600006 (.d Y_Fault), .d 8 (.int .i64), .d 21 (.sl 51 Y_Param), .d 22 (.int .i64), .d 23 (.int .i64)]), (3, [.bx 5 600005 (.d Y_Arguments), .bx 6 600006 (.d Y_Fault), .d 59 (.sl 58 Y_Value), .d 60 (.int .i64), .d 61 (.int .i64)]), (5, [.bx 5 600005 (.d Y_Arguments), .bx 6 600006 (.d Y_Fault), .d 73 (.sl 58 Y_Value), .d 74 (.int .i64), .d 75 (.int .i64)])] }
noncomputable def f_ref7_BindFault.code : Code := Func.code Try.f19
noncomputable def f_ref7_BindFault.fin (c13 : f_ref7_ParamsFault.E) (c34 : f_ref7_At.E) := kfin (f_ref7_BindFault.C c13 c34) Try.f19 f_ref7_BindFault.A f_ref7_BindFault.R
def f_ref7_BindFault.b (c13 : f_ref7_ParamsFault.E) (c34 : f_ref7_At.E) (r_l0 : (List X_Value) → X_Arguments → X_Fault → (Int) → (List X_Param) → (Int) → (Int) → Option X_Fault) (a0 : List X_Param) (a1 : List X_Value) (a2 : (List X_Value) × ((List (List UInt8)) × (List X_Value))) : Option X_Fault :=
  (c13 a0).bind fun y1 =>
    bif (y1.1 != (0 : Int)) then
      some y1
    else
      r_l0 a1 a2 ((0 : Int), (0 : Int)) (0 : Int) a0 ((List.length a0) : Int) (0 : Int)
def f_ref7_BindFault.b_l0 (c13 : f_ref7_ParamsFault.E) (c34 : f_ref7_At.E) (n_l0 : (List X_Value) → X_Arguments → X_Fault → (Int) → (List X_Param) → (Int) → (Int) → Option X_Fault) (r_l3 : X_Arguments → X_Fault → (List X_Value) → (Int) → (Int) → Option X_Fault) (x1 : List X_Value) (x5 : (List X_Value) × ((List (List UInt8)) × (List X_Value))) (x6 : (Int) × (Int)) (x8 : Int) (x21 : List X_Param) (x22 : Int) (x23 : Int) : Option X_Fault :=
  bif (decide (x23 < x22)) then
    if 0 ≤ x23 ∧ x23 < ((List.length x21) : Int) then
      n_l0 x1 x5 x6 (IntKind.i64.wrap (x8 + ((List.length (((List.getD x21 (Int.toNat x23) ((0 : Int), ([], []))).2).2)) : Int))) x21 x22 (IntKind.i64.wrap (x23 + (1 : Int)))
    else none
  else
    bif (x8 != ((List.length x1) : Int)) then
      (c34 ((9 : Int), (-2 : Int))).bind fun y2 =>
        some y2
    else
      bif (((List.length x5.2.1) : Int) != ((List.length x5.2.2) : Int)) then
        (c34 ((9 : Int), (-3 : Int))).bind fun y3 =>
          some y3
      else
        bif (decide ((IntKind.i64.wrap (((List.length x5.1) : Int) + ((List.length x5.2.2) : Int))) > (1000 : Int))) then
          (c34 ((2 : Int), (-3 : Int))).bind fun y4 =>
            some y4
        else
          r_l3 x5 x6 x5.1 ((List.length x5.1) : Int) (0 : Int)
def f_ref7_BindFault.b_l3 (c13 : f_ref7_ParamsFault.E) (c34 : f_ref7_At.E) (n_l3 : X_Arguments → X_Fault → (List X_Value) → (Int) → (Int) → Option X_Fault) (r_l5 : X_Arguments → X_Fault → (List X_Value) → (Int) → (Int) → Option X_Fault) (x5 : (List X_Value) × ((List (List UInt8)) × (List X_Value))) (x6 : (Int) × (Int)) (x59 : List X_Value) (x60 : Int) (x61 : Int) : Option X_Fault :=
  bif (decide (x61 < x60)) then
    if 0 ≤ x61 ∧ x61 < ((List.length x59) : Int) then
      bif (((List.getD x59 (Int.toNat x61) Z_Value).1) == (9 : Int)) then
        (c34 ((18 : Int), x61)).bind fun y5 =>
          some y5
      else
        n_l3 x5 x6 x59 x60 (IntKind.i64.wrap (x61 + (1 : Int)))
    else none
  else
    r_l5 x5 x6 x5.2.2 ((List.length x5.2.2) : Int) (0 : Int)
def f_ref7_BindFault.b_l5 (c13 : f_ref7_ParamsFault.E) (c34 : f_ref7_At.E) (n_l5 : X_Arguments → X_Fault → (List X_Value) → (Int) → (Int) → Option X_Fault) (x5 : (List X_Value) × ((List (List UInt8)) × (List X_Value))) (x6 : (Int) × (Int)) (x73 : List X_Value) (x74 : Int) (x75 : Int) : Option X_Fault :=
  bif (decide (x75 < x74)) then
    if 0 ≤ x75 ∧ x75 < ((List.length x73) : Int) then
      bif (((List.getD x73 (Int.toNat x75) Z_Value).1) == (9 : Int)) then
        (c34 ((18 : Int), (IntKind.i64.wrap (((List.length x5.1) : Int) + x75)))).bind fun y6 =>
          some y6
      else
        n_l5 x5 x6 x73 x74 (IntKind.i64.wrap (x75 + (1 : Int)))
    else none
  else
    some ((0 : Int), (0 : Int))
def f_ref7_BindFault.c_l3 (c13 : f_ref7_ParamsFault.E) (c34 : f_ref7_At.E) (n_l3 : X_Arguments → X_Fault → (List X_Value) → (Int) → (Int) → Option X_Fault) (r_l5 : X_Arguments → X_Fault → (List X_Value) → (Int) → (Int) → Option X_Fault) (x5 : (List X_Value) × ((List (List UInt8)) × (List X_Value))) (x6 : (Int) × (Int)) (x59 : List X_Value) (x60 : Int) (x61 : Int) : Option X_Fault :=
  bif (decide (x61 < x60)) then
    if 0 ≤ x61 ∧ x61 < ((List.length x59) : Int) then
      bif (((List.getD x59 (Int.toNat x61) Z_Value).1) == (9 : Int)) then
        (c34 ((18 : Int), x61)).bind fun y5 =>
          some y5
      else
        n_l3 x5 x6 x59 x60 (IntKind.i64.wrap (x61 + (1 : Int)))
    else none
  else
    r_l5 x5 x6 x5.2.2 ((List.length x5.2.2) : Int) (0 : Int)
theorem f_ref7_BindFault.q_l3 (c13 : f_ref7_ParamsFault.E) (c34 : f_ref7_At.E) (n_l3 : X_Arguments → X_Fault → (List X_Value) → (Int) → (Int) → Option X_Fault) (r_l5 : X_Arguments → X_Fault → (List X_Value) → (Int) → (Int) → Option X_Fault) (x5 : (List X_Value) × ((List (List UInt8)) × (List X_Value))) (x6 : (Int) × (Int)) (x59 : List X_Value) (x60 : Int) (x61 : Int) : f_ref7_BindFault.b_l3 c13 c34 n_l3 r_l5 x5 x6 x59 x60 x61 = f_ref7_BindFault.c_l3 c13 c34 n_l3 r_l5 x5 x6 x59 x60 x61 := by
  simp only [f_ref7_BindFault.b_l3, f_ref7_BindFault.c_l3, List.take_length, take_one, Nat.zero_add, Int.toNat_natCast, Int.toNat_zero, List.drop_zero, List.append_eq, Nat.le_refl, Int.le_refl, true_and, and_true, zero_le_one, if_true, prod_eta, Int.natCast_zero]
def f_ref7_BindFault.c_l5 (c13 : f_ref7_ParamsFault.E) (c34 : f_ref7_At.E) (n_l5 : X_Arguments → X_Fault → (List X_Value) → (Int) → (Int) → Option X_Fault) (x5 : (List X_Value) × ((List (List UInt8)) × (List X_Value))) (x6 : (Int) × (Int)) (x73 : List X_Value) (x74 : Int) (x75 : Int) : Option X_Fault :=
  bif (decide (x75 < x74)) then
    if 0 ≤ x75 ∧ x75 < ((List.length x73) : Int) then
      bif (((List.getD x73 (Int.toNat x75) Z_Value).1) == (9 : Int)) then
        (c34 ((18 : Int), (IntKind.i64.wrap (((List.length x5.1) : Int) + x75)))).bind fun y6 =>
          some y6
      else
        n_l5 x5 x6 x73 x74 (IntKind.i64.wrap (x75 + (1 : Int)))
    else none
  else
    some ((0 : Int), (0 : Int))
theorem f_ref7_BindFault.q_l5 (c13 : f_ref7_ParamsFault.E) (c34 : f_ref7_At.E) (n_l5 : X_Arguments → X_Fault → (List X_Value) → (Int) → (Int) → Option X_Fault) (x5 : (List X_Value) × ((List (List UInt8)) × (List X_Value))) (x6 : (Int) × (Int)) (x73 : List X_Value) (x74 : Int) (x75 : Int) : f_ref7_BindFault.b_l5 c13 c34 n_l5 x5 x6 x73 x74 x75 = f_ref7_BindFault.c_l5 c13 c34 n_l5 x5 x6 x73 x74 x75 := by
  simp only [f_ref7_BindFault.b_l5, f_ref7_BindFault.c_l5, List.take_length, take_one, Nat.zero_add, Int.toNat_natCast, Int.toNat_zero, List.drop_zero, List.append_eq, Nat.le_refl, Int.le_refl, true_and, and_true, zero_le_one, if_true, prod_eta, Int.natCast_zero]
def f_ref7_BindFault.l5 (c13 : f_ref7_ParamsFault.E) (c34 : f_ref7_At.E) (k : Nat)  : Nat → X_Arguments → X_Fault → (List X_Value) → (Int) → (Int) → Option X_Fault
  | 0, _, _, _, _, _ => none
  | n + 1, x5, x6, x73, x74, x75 => f_ref7_BindFault.b_l5 c13 c34 (fun x5 x6 x73 x74 x75 => f_ref7_BindFault.l5 c13 c34 k  n x5 x6 x73 x74 x75) x5 x6 x73 x74 x75
def f_ref7_BindFault.l3 (c13 : f_ref7_ParamsFault.E) (c34 : f_ref7_At.E) (k : Nat)  : Nat → X_Arguments → X_Fault → (List X_Value) → (Int) → (Int) → Option X_Fault
  | 0, _, _, _, _, _ => none
  | n + 1, x5, x6, x59, x60, x61 => f_ref7_BindFault.b_l3 c13 c34 (fun x5 x6 x59 x60 x61 => f_ref7_BindFault.l3 c13 c34 k  n x5 x6 x59 x60 x61) (f_ref7_BindFault.l5 c13 c34 k  k) x5 x6 x59 x60 x61
def f_ref7_BindFault.l0 (c13 : f_ref7_ParamsFault.E) (c34 : f_ref7_At.E) (k : Nat)  : Nat → (List X_Value) → X_Arguments → X_Fault → (Int) → (List X_Param) → (Int) → (Int) → Option X_Fault
  | 0, _, _, _, _, _, _, _ => none
  | n + 1, x1, x5, x6, x8, x21, x22, x23 => f_ref7_BindFault.b_l0 c13 c34 (fun x1 x5 x6 x8 x21 x22 x23 => f_ref7_BindFault.l0 c13 c34 k  n x1 x5 x6 x8 x21 x22 x23) (f_ref7_BindFault.l3 c13 c34 k  k) x1 x5 x6 x8 x21 x22 x23
def f_ref7_BindFault.f (c13 : f_ref7_ParamsFault.E) (c34 : f_ref7_At.E) (k : Nat) (a0 : List X_Param) (a1 : List X_Value) (a2 : (List X_Value) × ((List (List UInt8)) × (List X_Value))) : Option X_Fault := f_ref7_BindFault.b c13 c34 (f_ref7_BindFault.l0 c13 c34 k k) a0 a1 a2
noncomputable def f_ref7_BindFault.M_l0 (c13 : f_ref7_ParamsFault.E) (c34 : f_ref7_At.E) (k n : Nat)  (s : St) : Option X_Fault := atLoop (f_ref7_BindFault.C c13 c34) k n [1, 1, 1, 0, 1, 0] [] f_ref7_BindFault.code (f_ref7_BindFault.fin c13 c34) s
noncomputable def f_ref7_BindFault.fr_l0 (x1 : List X_Value) (x5 : (List X_Value) × ((List (List UInt8)) × (List X_Value))) (x6 : (Int) × (Int)) (x8 : Int) (x21 : List X_Param) (x22 : Int) (x23 : Int) : St := ⟨((((((((List.replicate 91 V.un).set 1 (V.dat (.sl 58 Y_Value) x1)).set 5 (V.bp 600005 0 [])).set 6 (V.bp 600006 0 [])).set 8 (V.dat (.int .i64) x8)).set 21 (V.dat (.sl 51 Y_Param) x21)).set 22 (V.dat (.int .i64) x22)).set 23 (V.dat (.int .i64) x23)), [⟨600006, 0, .box (V.dat Y_Fault x6)⟩, ⟨600005, 0, .box (V.dat Y_Arguments x5)⟩]⟩
noncomputable def f_ref7_BindFault.M_l3 (c13 : f_ref7_ParamsFault.E) (c34 : f_ref7_At.E) (k n : Nat)  (s : St) : Option X_Fault := atLoop (f_ref7_BindFault.C c13 c34) k n [1, 1, 1, 1, 1, 0, 1, 0] [] f_ref7_BindFault.code (f_ref7_BindFault.fin c13 c34) s
noncomputable def f_ref7_BindFault.fr_l3 (x5 : (List X_Value) × ((List (List UInt8)) × (List X_Value))) (x6 : (Int) × (Int)) (x59 : List X_Value) (x60 : Int) (x61 : Int) : St := ⟨((((((List.replicate 91 V.un).set 5 (V.bp 600005 0 [])).set 6 (V.bp 600006 0 [])).set 59 (V.dat (.sl 58 Y_Value) x59)).set 60 (V.dat (.int .i64) x60)).set 61 (V.dat (.int .i64) x61)), [⟨600006, 0, .box (V.dat Y_Fault x6)⟩, ⟨600005, 0, .box (V.dat Y_Arguments x5)⟩]⟩
noncomputable def f_ref7_BindFault.M_l5 (c13 : f_ref7_ParamsFault.E) (c34 : f_ref7_At.E) (k n : Nat)  (s : St) : Option X_Fault := atLoop (f_ref7_BindFault.C c13 c34) k n [1, 1, 1, 1, 1, 1, 0, 1, 0] [] f_ref7_BindFault.code (f_ref7_BindFault.fin c13 c34) s
noncomputable def f_ref7_BindFault.fr_l5 (x5 : (List X_Value) × ((List (List UInt8)) × (List X_Value))) (x6 : (Int) × (Int)) (x73 : List X_Value) (x74 : Int) (x75 : Int) : St := ⟨((((((List.replicate 91 V.un).set 5 (V.bp 600005 0 [])).set 6 (V.bp 600006 0 [])).set 73 (V.dat (.sl 58 Y_Value) x73)).set 74 (V.dat (.int .i64) x74)).set 75 (V.dat (.int .i64) x75)), [⟨600006, 0, .box (V.dat Y_Fault x6)⟩, ⟨600005, 0, .box (V.dat Y_Arguments x5)⟩]⟩
theorem f_ref7_BindFault.r (c13 : f_ref7_ParamsFault.E) (c34 : f_ref7_At.E) (k : Nat) (a0 : List X_Param) (a1 : List X_Value) (a2 : (List X_Value) × ((List (List UInt8)) × (List X_Value))) : fn (f_ref7_BindFault.C c13 c34) k Try.f19 f_ref7_BindFault.A f_ref7_BindFault.R (a0, (a1, a2)) = f_ref7_BindFault.b c13 c34 (fun x1 x5 x6 x8 x21 x22 x23 => f_ref7_BindFault.M_l0 c13 c34 k k  (f_ref7_BindFault.fr_l0 x1 x5 x6 x8 x21 x22 x23)) a0 a1 a2 := by kernel_rfl
theorem f_ref7_BindFault.z_l0 (c13 : f_ref7_ParamsFault.E) (c34 : f_ref7_At.E) (k : Nat)  (s : St) : f_ref7_BindFault.M_l0 c13 c34 k 0  s = none := by kernel_rfl
theorem f_ref7_BindFault.r_l0 (c13 : f_ref7_ParamsFault.E) (c34 : f_ref7_At.E) (k n : Nat)  (x1 : List X_Value) (x5 : (List X_Value) × ((List (List UInt8)) × (List X_Value))) (x6 : (Int) × (Int)) (x8 : Int) (x21 : List X_Param) (x22 : Int) (x23 : Int) : f_ref7_BindFault.M_l0 c13 c34 k (n + 1)  (f_ref7_BindFault.fr_l0 x1 x5 x6 x8 x21 x22 x23) = f_ref7_BindFault.b_l0 c13 c34 (fun x1 x5 x6 x8 x21 x22 x23 => f_ref7_BindFault.M_l0 c13 c34 k n  (f_ref7_BindFault.fr_l0 x1 x5 x6 x8 x21 x22 x23)) (fun x5 x6 x59 x60 x61 => f_ref7_BindFault.M_l3 c13 c34 k k  (f_ref7_BindFault.fr_l3 x5 x6 x59 x60 x61)) x1 x5 x6 x8 x21 x22 x23 := by kernel_rfl
theorem f_ref7_BindFault.z_l3 (c13 : f_ref7_ParamsFault.E) (c34 : f_ref7_At.E) (k : Nat)  (s : St) : f_ref7_BindFault.M_l3 c13 c34 k 0  s = none := by kernel_rfl
theorem f_ref7_BindFault.r_l3 (c13 : f_ref7_ParamsFault.E) (c34 : f_ref7_At.E) (k n : Nat)  (x5 : (List X_Value) × ((List (List UInt8)) × (List X_Value))) (x6 : (Int) × (Int)) (x59 : List X_Value) (x60 : Int) (x61 : Int) : f_ref7_BindFault.M_l3 c13 c34 k (n + 1)  (f_ref7_BindFault.fr_l3 x5 x6 x59 x60 x61) = f_ref7_BindFault.b_l3 c13 c34 (fun x5 x6 x59 x60 x61 => f_ref7_BindFault.M_l3 c13 c34 k n  (f_ref7_BindFault.fr_l3 x5 x6 x59 x60 x61)) (fun x5 x6 x73 x74 x75 => f_ref7_BindFault.M_l5 c13 c34 k k  (f_ref7_BindFault.fr_l5 x5 x6 x73 x74 x75)) x5 x6 x59 x60 x61 := by kernel_rfl
theorem f_ref7_BindFault.z_l5 (c13 : f_ref7_ParamsFault.E) (c34 : f_ref7_At.E) (k : Nat)  (s : St) : f_ref7_BindFault.M_l5 c13 c34 k 0  s = none := by kernel_rfl
theorem f_ref7_BindFault.r_l5 (c13 : f_ref7_ParamsFault.E) (c34 : f_ref7_At.E) (k n : Nat)  (x5 : (List X_Value) × ((List (List UInt8)) × (List X_Value))) (x6 : (Int) × (Int)) (x73 : List X_Value) (x74 : Int) (x75 : Int) : f_ref7_BindFault.M_l5 c13 c34 k (n + 1)  (f_ref7_BindFault.fr_l5 x5 x6 x73 x74 x75) = f_ref7_BindFault.b_l5 c13 c34 (fun x5 x6 x73 x74 x75 => f_ref7_BindFault.M_l5 c13 c34 k n  (f_ref7_BindFault.fr_l5 x5 x6 x73 x74 x75)) x5 x6 x73 x74 x75 := by kernel_rfl
theorem f_ref7_BindFault.e_l5 (c13 : f_ref7_ParamsFault.E) (c34 : f_ref7_At.E) (k n : Nat)  (x5 : (List X_Value) × ((List (List UInt8)) × (List X_Value))) (x6 : (Int) × (Int)) (x73 : List X_Value) (x74 : Int) (x75 : Int) : f_ref7_BindFault.M_l5 c13 c34 k n  (f_ref7_BindFault.fr_l5 x5 x6 x73 x74 x75) = f_ref7_BindFault.l5 c13 c34 k  n x5 x6 x73 x74 x75 := by
  induction n generalizing x5 x6 x73 x74 x75 with
  | zero => rw [f_ref7_BindFault.z_l5]; rfl
  | succ n ih =>
    rw [f_ref7_BindFault.r_l5]
    simp only [ih]
    rfl
theorem f_ref7_BindFault.e_l3 (c13 : f_ref7_ParamsFault.E) (c34 : f_ref7_At.E) (k n : Nat)  (x5 : (List X_Value) × ((List (List UInt8)) × (List X_Value))) (x6 : (Int) × (Int)) (x59 : List X_Value) (x60 : Int) (x61 : Int) : f_ref7_BindFault.M_l3 c13 c34 k n  (f_ref7_BindFault.fr_l3 x5 x6 x59 x60 x61) = f_ref7_BindFault.l3 c13 c34 k  n x5 x6 x59 x60 x61 := by
  induction n generalizing x5 x6 x59 x60 x61 with
  | zero => rw [f_ref7_BindFault.z_l3]; rfl
  | succ n ih =>
    rw [f_ref7_BindFault.r_l3]
    simp only [f_ref7_BindFault.e_l5, ih]
    rfl
theorem f_ref7_BindFault.e_l0 (c13 : f_ref7_ParamsFault.E) (c34 : f_ref7_At.E) (k n : Nat)  (x1 : List X_Value) (x5 : (List X_Value) × ((List (List UInt8)) × (List X_Value))) (x6 : (Int) × (Int)) (x8 : Int) (x21 : List X_Param) (x22 : Int) (x23 : Int) : f_ref7_BindFault.M_l0 c13 c34 k n  (f_ref7_BindFault.fr_l0 x1 x5 x6 x8 x21 x22 x23) = f_ref7_BindFault.l0 c13 c34 k  n x1 x5 x6 x8 x21 x22 x23 := by
  induction n generalizing x1 x5 x6 x8 x21 x22 x23 with
  | zero => rw [f_ref7_BindFault.z_l0]; rfl
  | succ n ih =>
    rw [f_ref7_BindFault.r_l0]
    simp only [f_ref7_BindFault.e_l3, ih]
    rfl
theorem f_ref7_BindFault.e (c13 : f_ref7_ParamsFault.E) (c34 : f_ref7_At.E) (k : Nat) (a0 : List X_Param) (a1 : List X_Value) (a2 : (List X_Value) × ((List (List UInt8)) × (List X_Value))) : fn (f_ref7_BindFault.C c13 c34) k Try.f19 f_ref7_BindFault.A f_ref7_BindFault.R (a0, (a1, a2)) = f_ref7_BindFault.f c13 c34 k a0 a1 a2 := by
  rw [f_ref7_BindFault.r]
  simp only [f_ref7_BindFault.e_l0]
  rfl
def f_ref7_BindFault.u (k : Nat) : f_ref7_BindFault.E := fun y => f_ref7_BindFault.f (f_ref7_ParamsFault.u k) (f_ref7_At.u k) k y.1 y.2.1 y.2.2
theorem f_ref7_BindFault.ty (c13 : f_ref7_ParamsFault.E) (c34 : f_ref7_At.E) : TyOk Try.prog (f_ref7_BindFault.C c13 c34) := tyOk_of (by kernel_rfl)
theorem f_ref7_BindFault.sound (k : Nat) : Sound Try.prog ⟨19, f_ref7_BindFault.A, f_ref7_BindFault.R, f_ref7_BindFault.u k⟩ := by
  have h := fn_sound (k := k) («as» := f_ref7_BindFault.A) (rs := f_ref7_BindFault.R) (f_ref7_BindFault.ty (f_ref7_ParamsFault.u k) (f_ref7_At.u k)) (fun E h => by
    simp only [f_ref7_BindFault.C, List.mem_cons, List.not_mem_nil, or_false] at h
    rcases h with rfl | rfl
    · exact f_ref7_ParamsFault.sound k
    · exact f_ref7_At.sound k) mixed Try.func19 (by kernel_rfl) (by kernel_rfl)
  have e : fn (f_ref7_BindFault.C (f_ref7_ParamsFault.u k) (f_ref7_At.u k)) k Try.f19 f_ref7_BindFault.A f_ref7_BindFault.R = f_ref7_BindFault.u k := by
    funext y
    exact f_ref7_BindFault.e (f_ref7_ParamsFault.u k) (f_ref7_At.u k) k y.1 y.2.1 y.2.2
  rw [e] at h
  exact h
/-! ### slices.Equal[[]uint32,uint32]: f85 -/
abbrev f_slices_Equal_uint32.A : List Sh := [(.d (.sl 113 (.int .u32))), (.d (.sl 113 (.int .u32)))]
abbrev f_slices_Equal_uint32.R : List Sh := [(.d .bool)]
abbrev f_slices_Equal_uint32.E : Type := ((List (Int)) × (List (Int))) → Option (Bool)
def f_slices_Equal_uint32.C  : Ctx := { ty := [(3, (.int .i64)), (54, (.sl 113 (.int .u32))), (113, (.int .u32))], nf := [], by_ := [(113, 4)], env := [], spec := [(0, [.d 0 (.sl 113 (.int .u32)), .d 1 (.sl 113 (.int .u32)), .d 12 (.int .i64), .d 13 (.int .i64)])] }
noncomputable def f_slices_Equal_uint32.code : Code := Func.code Try.f85
noncomputable def f_slices_Equal_uint32.fin  := kfin (f_slices_Equal_uint32.C ) Try.f85 f_slices_Equal_uint32.A f_slices_Equal_uint32.R
def f_slices_Equal_uint32.b  (r_l0 : (List (Int)) → (List (Int)) → (Int) → (Int) → Option (Bool)) (a0 : List (Int)) (a1 : List (Int)) : Option (Bool) :=
  bif (((List.length a0) : Int) != ((List.length a1) : Int)) then
    some false
  else
    r_l0 a0 a1 ((List.length a0) : Int) (0 : Int)
def f_slices_Equal_uint32.b_l0  (n_l0 : (List (Int)) → (List (Int)) → (Int) → (Int) → Option (Bool)) (x0 : List (Int)) (x1 : List (Int)) (x12 : Int) (x13 : Int) : Option (Bool) :=
  bif (decide (x13 < x12)) then
    if 0 ≤ x13 ∧ x13 < ((List.length x0) : Int) then
      if 0 ≤ x13 ∧ x13 < ((List.length x1) : Int) then
        bif ((List.getD x0 (Int.toNat x13) (0 : Int)) != (List.getD x1 (Int.toNat x13) (0 : Int))) then
          some false
        else
          n_l0 x0 x1 x12 (IntKind.i64.wrap (x13 + (1 : Int)))
      else none
    else none
  else
    some true
def f_slices_Equal_uint32.l0  (k : Nat)  : Nat → (List (Int)) → (List (Int)) → (Int) → (Int) → Option (Bool)
  | 0, _, _, _, _ => none
  | n + 1, x0, x1, x12, x13 => f_slices_Equal_uint32.b_l0  (fun x0 x1 x12 x13 => f_slices_Equal_uint32.l0  k  n x0 x1 x12 x13) x0 x1 x12 x13
def f_slices_Equal_uint32.f  (k : Nat) (a0 : List (Int)) (a1 : List (Int)) : Option (Bool) := f_slices_Equal_uint32.b  (f_slices_Equal_uint32.l0  k k) a0 a1
noncomputable def f_slices_Equal_uint32.M_l0  (k n : Nat)  (s : St) : Option (Bool) := atLoop (f_slices_Equal_uint32.C ) k n [1, 1, 0, 1, 0] [] f_slices_Equal_uint32.code (f_slices_Equal_uint32.fin ) s
noncomputable def f_slices_Equal_uint32.fr_l0 (x0 : List (Int)) (x1 : List (Int)) (x12 : Int) (x13 : Int) : St := ⟨(((((List.replicate 26 V.un).set 0 (V.dat (.sl 113 (.int .u32)) x0)).set 1 (V.dat (.sl 113 (.int .u32)) x1)).set 12 (V.dat (.int .i64) x12)).set 13 (V.dat (.int .i64) x13)), []⟩
theorem f_slices_Equal_uint32.r  (k : Nat) (a0 : List (Int)) (a1 : List (Int)) : fn (f_slices_Equal_uint32.C ) k Try.f85 f_slices_Equal_uint32.A f_slices_Equal_uint32.R (a0, a1) = f_slices_Equal_uint32.b  (fun x0 x1 x12 x13 => f_slices_Equal_uint32.M_l0  k k  (f_slices_Equal_uint32.fr_l0 x0 x1 x12 x13)) a0 a1 := by kernel_rfl
theorem f_slices_Equal_uint32.z_l0  (k : Nat)  (s : St) : f_slices_Equal_uint32.M_l0  k 0  s = none := by kernel_rfl
theorem f_slices_Equal_uint32.r_l0  (k n : Nat)  (x0 : List (Int)) (x1 : List (Int)) (x12 : Int) (x13 : Int) : f_slices_Equal_uint32.M_l0  k (n + 1)  (f_slices_Equal_uint32.fr_l0 x0 x1 x12 x13) = f_slices_Equal_uint32.b_l0  (fun x0 x1 x12 x13 => f_slices_Equal_uint32.M_l0  k n  (f_slices_Equal_uint32.fr_l0 x0 x1 x12 x13)) x0 x1 x12 x13 := by kernel_rfl
theorem f_slices_Equal_uint32.e_l0  (k n : Nat)  (x0 : List (Int)) (x1 : List (Int)) (x12 : Int) (x13 : Int) : f_slices_Equal_uint32.M_l0  k n  (f_slices_Equal_uint32.fr_l0 x0 x1 x12 x13) = f_slices_Equal_uint32.l0  k  n x0 x1 x12 x13 := by
  induction n generalizing x0 x1 x12 x13 with
  | zero => rw [f_slices_Equal_uint32.z_l0]; rfl
  | succ n ih =>
    rw [f_slices_Equal_uint32.r_l0]
    simp only [ih]
    rfl
theorem f_slices_Equal_uint32.e  (k : Nat) (a0 : List (Int)) (a1 : List (Int)) : fn (f_slices_Equal_uint32.C ) k Try.f85 f_slices_Equal_uint32.A f_slices_Equal_uint32.R (a0, a1) = f_slices_Equal_uint32.f  k a0 a1 := by
  rw [f_slices_Equal_uint32.r]
  simp only [f_slices_Equal_uint32.e_l0]
  rfl
def f_slices_Equal_uint32.u (k : Nat) : f_slices_Equal_uint32.E := fun y => f_slices_Equal_uint32.f  k y.1 y.2
theorem f_slices_Equal_uint32.ty  : TyOk Try.prog (f_slices_Equal_uint32.C ) := tyOk_of (by kernel_rfl)
theorem f_slices_Equal_uint32.sound (k : Nat) : Sound Try.prog ⟨85, f_slices_Equal_uint32.A, f_slices_Equal_uint32.R, f_slices_Equal_uint32.u k⟩ := by
  have h := fn_sound (k := k) («as» := f_slices_Equal_uint32.A) (rs := f_slices_Equal_uint32.R) (f_slices_Equal_uint32.ty ) (fun E h => by cases h) mixed Try.func85 (by kernel_rfl) (by kernel_rfl)
  have e : fn (f_slices_Equal_uint32.C ) k Try.f85 f_slices_Equal_uint32.A f_slices_Equal_uint32.R = f_slices_Equal_uint32.u k := by
    funext y
    exact f_slices_Equal_uint32.e  k y.1 y.2
  rw [e] at h
  exact h
/-! ### brindlewood/brindlewoodref7.SameInt: f78 -/
abbrev f_ref7_SameInt.A : List Sh := [(.d Y_Int), (.d Y_Int)]
abbrev f_ref7_SameInt.R : List Sh := [(.d .bool)]
abbrev f_ref7_SameInt.E : Type := (X_Int × X_Int) → Option (Bool)
def f_ref7_SameInt.C (c85 : f_slices_Equal_uint32.E) : Ctx := { ty := [(4, .bool), (54, (.sl 113 (.int .u32))), (56, Y_Int)], nf := [(56, 2)], by_ := [(113, 4)], env := [⟨85, f_slices_Equal_uint32.A, f_slices_Equal_uint32.R, c85⟩], spec := [] }
noncomputable def f_ref7_SameInt.code : Code := Func.code Try.f78
noncomputable def f_ref7_SameInt.fin (c85 : f_slices_Equal_uint32.E) := kfin (f_ref7_SameInt.C c85) Try.f78 f_ref7_SameInt.A f_ref7_SameInt.R
def f_ref7_SameInt.b (c85 : f_slices_Equal_uint32.E)  (a0 : (Bool) × (List (Int))) (a1 : (Bool) × (List (Int))) : Option (Bool) :=
  bif (a0.1 == a1.1) then
    (c85 (a0.2, a1.2)).bind fun y1 =>
      some y1
  else
    some false
def f_ref7_SameInt.f (c85 : f_slices_Equal_uint32.E) (k : Nat) (a0 : (Bool) × (List (Int))) (a1 : (Bool) × (List (Int))) : Option (Bool) := f_ref7_SameInt.b c85  a0 a1
theorem f_ref7_SameInt.r (c85 : f_slices_Equal_uint32.E) (k : Nat) (a0 : (Bool) × (List (Int))) (a1 : (Bool) × (List (Int))) : fn (f_ref7_SameInt.C c85) k Try.f78 f_ref7_SameInt.A f_ref7_SameInt.R (a0, a1) = f_ref7_SameInt.b c85  a0 a1 := by kernel_rfl
theorem f_ref7_SameInt.e (c85 : f_slices_Equal_uint32.E) (k : Nat) (a0 : (Bool) × (List (Int))) (a1 : (Bool) × (List (Int))) : fn (f_ref7_SameInt.C c85) k Try.f78 f_ref7_SameInt.A f_ref7_SameInt.R (a0, a1) = f_ref7_SameInt.f c85 k a0 a1 := by
  rw [f_ref7_SameInt.r]
  rfl
def f_ref7_SameInt.u (k : Nat) : f_ref7_SameInt.E := fun y => f_ref7_SameInt.f (f_slices_Equal_uint32.u k) k y.1 y.2
theorem f_ref7_SameInt.ty (c85 : f_slices_Equal_uint32.E) : TyOk Try.prog (f_ref7_SameInt.C c85) := tyOk_of (by kernel_rfl)
theorem f_ref7_SameInt.sound (k : Nat) : Sound Try.prog ⟨78, f_ref7_SameInt.A, f_ref7_SameInt.R, f_ref7_SameInt.u k⟩ := by
  have h := fn_sound (k := k) («as» := f_ref7_SameInt.A) (rs := f_ref7_SameInt.R) (f_ref7_SameInt.ty (f_slices_Equal_uint32.u k)) (fun E h => by
    simp only [f_ref7_SameInt.C, List.mem_cons, List.not_mem_nil, or_false] at h
    rcases h with rfl
    · exact f_slices_Equal_uint32.sound k) mixed Try.func78 (by kernel_rfl) (by kernel_rfl)
  have e : fn (f_ref7_SameInt.C (f_slices_Equal_uint32.u k)) k Try.f78 f_ref7_SameInt.A f_ref7_SameInt.R = f_ref7_SameInt.u k := by
    funext y
    exact f_ref7_SameInt.e (f_slices_Equal_uint32.u k) k y.1 y.2
  rw [e] at h
  exact h
/-! ### brindlewood/brindlewoodref7.SameValue: f55 -/
abbrev f_ref7_SameValue.A : List Sh := [(.d Y_Value), (.d Y_Value)]
abbrev f_ref7_SameValue.R : List Sh := [(.d .bool)]
abbrev f_ref7_SameValue.E : Type := (X_Value × X_Value) → Option (Bool)
def f_ref7_SameValue.C (c78 : f_ref7_SameInt.E) : Ctx := { ty := [(3, (.int .i64)), (9, .str), (56, Y_Int), (58, Y_Value)], nf := [(58, 5)], by_ := [], env := [⟨78, f_ref7_SameInt.A, f_ref7_SameInt.R, c78⟩], spec := [] }
noncomputable def f_ref7_SameValue.code : Code := Func.code Try.f55
noncomputable def f_ref7_SameValue.fin (c78 : f_ref7_SameInt.E) := kfin (f_ref7_SameValue.C c78) Try.f55 f_ref7_SameValue.A f_ref7_SameValue.R
def f_ref7_SameValue.b (c78 : f_ref7_SameInt.E)  (a0 : (Int) × (X_Int × (X_Int × X_errorAddressString))) (a1 : (Int) × (X_Int × (X_Int × X_errorAddressString))) : Option (Bool) :=
  bif (a0.1 == a1.1) then
    bif (a0.2.2.2.2 == a1.2.2.2.2) then
      bif (a0.2.2.2.1 == a1.2.2.2.1) then
        (c78 (a0.2.1, a1.2.1)).bind fun y1 =>
          bif y1 then
            (c78 (a0.2.2.1, a1.2.2.1)).bind fun y2 =>
              some y2
          else
            some false
      else
        some false
    else
      some false
  else
    some false
def f_ref7_SameValue.f (c78 : f_ref7_SameInt.E) (k : Nat) (a0 : (Int) × (X_Int × (X_Int × X_errorAddressString))) (a1 : (Int) × (X_Int × (X_Int × X_errorAddressString))) : Option (Bool) := f_ref7_SameValue.b c78  a0 a1
theorem f_ref7_SameValue.r (c78 : f_ref7_SameInt.E) (k : Nat) (a0 : (Int) × (X_Int × (X_Int × X_errorAddressString))) (a1 : (Int) × (X_Int × (X_Int × X_errorAddressString))) : fn (f_ref7_SameValue.C c78) k Try.f55 f_ref7_SameValue.A f_ref7_SameValue.R (a0, a1) = f_ref7_SameValue.b c78  a0 a1 := by kernel_rfl
theorem f_ref7_SameValue.e (c78 : f_ref7_SameInt.E) (k : Nat) (a0 : (Int) × (X_Int × (X_Int × X_errorAddressString))) (a1 : (Int) × (X_Int × (X_Int × X_errorAddressString))) : fn (f_ref7_SameValue.C c78) k Try.f55 f_ref7_SameValue.A f_ref7_SameValue.R (a0, a1) = f_ref7_SameValue.f c78 k a0 a1 := by
  rw [f_ref7_SameValue.r]
  rfl
def f_ref7_SameValue.u (k : Nat) : f_ref7_SameValue.E := fun y => f_ref7_SameValue.f (f_ref7_SameInt.u k) k y.1 y.2
theorem f_ref7_SameValue.ty (c78 : f_ref7_SameInt.E) : TyOk Try.prog (f_ref7_SameValue.C c78) := tyOk_of (by kernel_rfl)
theorem f_ref7_SameValue.sound (k : Nat) : Sound Try.prog ⟨55, f_ref7_SameValue.A, f_ref7_SameValue.R, f_ref7_SameValue.u k⟩ := by
  have h := fn_sound (k := k) («as» := f_ref7_SameValue.A) (rs := f_ref7_SameValue.R) (f_ref7_SameValue.ty (f_ref7_SameInt.u k)) (fun E h => by
    simp only [f_ref7_SameValue.C, List.mem_cons, List.not_mem_nil, or_false] at h
    rcases h with rfl
    · exact f_ref7_SameInt.sound k) mixed Try.func55 (by kernel_rfl) (by kernel_rfl)
  have e : fn (f_ref7_SameValue.C (f_ref7_SameInt.u k)) k Try.f55 f_ref7_SameValue.A f_ref7_SameValue.R = f_ref7_SameValue.u k := by
    funext y
    exact f_ref7_SameValue.e (f_ref7_SameInt.u k) k y.1 y.2
  rw [e] at h
  exact h
/-! ### brindlewood/brindlewoodref7.SameValues: f49 -/
abbrev f_ref7_SameValues.A : List Sh := [(.d (.sl 58 Y_Value)), (.d (.sl 58 Y_Value))]
abbrev f_ref7_SameValues.R : List Sh := [(.d .bool)]
abbrev f_ref7_SameValues.E : Type := ((List X_Value) × (List X_Value)) → Option (Bool)
def f_ref7_SameValues.C (c55 : f_ref7_SameValue.E) : Ctx := { ty := [(3, (.int .i64)), (36, (.sl 58 Y_Value)), (58, Y_Value)], nf := [], by_ := [(58, 96)], env := [⟨55, f_ref7_SameValue.A, f_ref7_SameValue.R, c55⟩], spec := [(0, [.d 0 (.sl 58 Y_Value), .d 1 (.sl 58 Y_Value), .d 12 (.int .i64), .d 13 (.int .i64)])] }
noncomputable def f_ref7_SameValues.code : Code := Func.code Try.f49
noncomputable def f_ref7_SameValues.fin (c55 : f_ref7_SameValue.E) := kfin (f_ref7_SameValues.C c55) Try.f49 f_ref7_SameValues.A f_ref7_SameValues.R
def f_ref7_SameValues.b (c55 : f_ref7_SameValue.E) (r_l0 : (List X_Value) → (List X_Value) → (Int) → (Int) → Option (Bool)) (a0 : List X_Value) (a1 : List X_Value) : Option (Bool) :=
  bif (((List.length a0) : Int) != ((List.length a1) : Int)) then
    some false
  else
    r_l0 a0 a1 ((List.length a0) : Int) (0 : Int)
def f_ref7_SameValues.b_l0 (c55 : f_ref7_SameValue.E) (n_l0 : (List X_Value) → (List X_Value) → (Int) → (Int) → Option (Bool)) (x0 : List X_Value) (x1 : List X_Value) (x12 : Int) (x13 : Int) : Option (Bool) :=
  bif (decide (x13 < x12)) then
    if 0 ≤ x13 ∧ x13 < ((List.length x0) : Int) then
      if 0 ≤ x13 ∧ x13 < ((List.length x1) : Int) then
        (c55 ((List.getD x0 (Int.toNat x13) Z_Value), (List.getD x1 (Int.toNat x13) Z_Value))).bind fun y1 =>
          bif (!y1) then
            some false
          else
            n_l0 x0 x1 x12 (IntKind.i64.wrap (x13 + (1 : Int)))
      else none
    else none
  else
    some true
def f_ref7_SameValues.c_l0 (c55 : f_ref7_SameValue.E) (n_l0 : (List X_Value) → (List X_Value) → (Int) → (Int) → Option (Bool)) (x0 : List X_Value) (x1 : List X_Value) (x12 : Int) (x13 : Int) : Option (Bool) :=
  bif (decide (x13 < x12)) then
    if 0 ≤ x13 ∧ x13 < ((List.length x0) : Int) then
      if 0 ≤ x13 ∧ x13 < ((List.length x1) : Int) then
        (c55 ((List.getD x0 (Int.toNat x13) Z_Value), (List.getD x1 (Int.toNat x13) Z_Value))).bind fun y1 =>
          bif !y1 then
            some false
          else
            n_l0 x0 x1 x12 (IntKind.i64.wrap (x13 + (1 : Int)))
      else none
    else none
  else
    some true
theorem f_ref7_SameValues.q_l0 (c55 : f_ref7_SameValue.E) (n_l0 : (List X_Value) → (List X_Value) → (Int) → (Int) → Option (Bool)) (x0 : List X_Value) (x1 : List X_Value) (x12 : Int) (x13 : Int) : f_ref7_SameValues.b_l0 c55 n_l0 x0 x1 x12 x13 = f_ref7_SameValues.c_l0 c55 n_l0 x0 x1 x12 x13 := by
  simp only [f_ref7_SameValues.b_l0, f_ref7_SameValues.c_l0, List.take_length, take_one, Nat.zero_add, Int.toNat_natCast, Int.toNat_zero, List.drop_zero, List.append_eq, Nat.le_refl, Int.le_refl, true_and, and_true, zero_le_one, if_true, prod_eta, Int.natCast_zero]
def f_ref7_SameValues.l0 (c55 : f_ref7_SameValue.E) (k : Nat)  : Nat → (List X_Value) → (List X_Value) → (Int) → (Int) → Option (Bool)
  | 0, _, _, _, _ => none
  | n + 1, x0, x1, x12, x13 => f_ref7_SameValues.b_l0 c55 (fun x0 x1 x12 x13 => f_ref7_SameValues.l0 c55 k  n x0 x1 x12 x13) x0 x1 x12 x13
def f_ref7_SameValues.f (c55 : f_ref7_SameValue.E) (k : Nat) (a0 : List X_Value) (a1 : List X_Value) : Option (Bool) := f_ref7_SameValues.b c55 (f_ref7_SameValues.l0 c55 k k) a0 a1
noncomputable def f_ref7_SameValues.M_l0 (c55 : f_ref7_SameValue.E) (k n : Nat)  (s : St) : Option (Bool) := atLoop (f_ref7_SameValues.C c55) k n [1, 1, 0, 1, 0] [] f_ref7_SameValues.code (f_ref7_SameValues.fin c55) s
noncomputable def f_ref7_SameValues.fr_l0 (x0 : List X_Value) (x1 : List X_Value) (x12 : Int) (x13 : Int) : St := ⟨(((((List.replicate 27 V.un).set 0 (V.dat (.sl 58 Y_Value) x0)).set 1 (V.dat (.sl 58 Y_Value) x1)).set 12 (V.dat (.int .i64) x12)).set 13 (V.dat (.int .i64) x13)), []⟩
theorem f_ref7_SameValues.r (c55 : f_ref7_SameValue.E) (k : Nat) (a0 : List X_Value) (a1 : List X_Value) : fn (f_ref7_SameValues.C c55) k Try.f49 f_ref7_SameValues.A f_ref7_SameValues.R (a0, a1) = f_ref7_SameValues.b c55 (fun x0 x1 x12 x13 => f_ref7_SameValues.M_l0 c55 k k  (f_ref7_SameValues.fr_l0 x0 x1 x12 x13)) a0 a1 := by kernel_rfl
theorem f_ref7_SameValues.z_l0 (c55 : f_ref7_SameValue.E) (k : Nat)  (s : St) : f_ref7_SameValues.M_l0 c55 k 0  s = none := by kernel_rfl
theorem f_ref7_SameValues.r_l0 (c55 : f_ref7_SameValue.E) (k n : Nat)  (x0 : List X_Value) (x1 : List X_Value) (x12 : Int) (x13 : Int) : f_ref7_SameValues.M_l0 c55 k (n + 1)  (f_ref7_SameValues.fr_l0 x0 x1 x12 x13) = f_ref7_SameValues.b_l0 c55 (fun x0 x1 x12 x13 => f_ref7_SameValues.M_l0 c55 k n  (f_ref7_SameValues.fr_l0 x0 x1 x12 x13)) x0 x1 x12 x13 := by kernel_rfl
theorem f_ref7_SameValues.e_l0 (c55 : f_ref7_SameValue.E) (k n : Nat)  (x0 : List X_Value) (x1 : List X_Value) (x12 : Int) (x13 : Int) : f_ref7_SameValues.M_l0 c55 k n  (f_ref7_SameValues.fr_l0 x0 x1 x12 x13) = f_ref7_SameValues.l0 c55 k  n x0 x1 x12 x13 := by
  induction n generalizing x0 x1 x12 x13 with
  | zero => rw [f_ref7_SameValues.z_l0]; rfl
  | succ n ih =>
    rw [f_ref7_SameValues.r_l0]
    simp only [ih]
    rfl
theorem f_ref7_SameValues.e (c55 : f_ref7_SameValue.E) (k : Nat) (a0 : List X_Value) (a1 : List X_Value) : fn (f_ref7_SameValues.C c55) k Try.f49 f_ref7_SameValues.A f_ref7_SameValues.R (a0, a1) = f_ref7_SameValues.f c55 k a0 a1 := by
  rw [f_ref7_SameValues.r]
  simp only [f_ref7_SameValues.e_l0]
  rfl
def f_ref7_SameValues.u (k : Nat) : f_ref7_SameValues.E := fun y => f_ref7_SameValues.f (f_ref7_SameValue.u k) k y.1 y.2
theorem f_ref7_SameValues.ty (c55 : f_ref7_SameValue.E) : TyOk Try.prog (f_ref7_SameValues.C c55) := tyOk_of (by kernel_rfl)
theorem f_ref7_SameValues.sound (k : Nat) : Sound Try.prog ⟨49, f_ref7_SameValues.A, f_ref7_SameValues.R, f_ref7_SameValues.u k⟩ := by
  have h := fn_sound (k := k) («as» := f_ref7_SameValues.A) (rs := f_ref7_SameValues.R) (f_ref7_SameValues.ty (f_ref7_SameValue.u k)) (fun E h => by
    simp only [f_ref7_SameValues.C, List.mem_cons, List.not_mem_nil, or_false] at h
    rcases h with rfl
    · exact f_ref7_SameValue.sound k) mixed Try.func49 (by kernel_rfl) (by kernel_rfl)
  have e : fn (f_ref7_SameValues.C (f_ref7_SameValue.u k)) k Try.f49 f_ref7_SameValues.A f_ref7_SameValues.R = f_ref7_SameValues.u k := by
    funext y
    exact f_ref7_SameValues.e (f_ref7_SameValue.u k) k y.1 y.2
  rw [e] at h
  exact h
/-! ### slices.Equal[[]string,string]: f77 -/
abbrev f_slices_Equal_string.A : List Sh := [(.d (.sl 9 .str)), (.d (.sl 9 .str))]
abbrev f_slices_Equal_string.R : List Sh := [(.d .bool)]
abbrev f_slices_Equal_string.E : Type := ((List (List UInt8)) × (List (List UInt8))) → Option (Bool)
def f_slices_Equal_string.C  : Ctx := { ty := [(3, (.int .i64)), (9, .str), (37, (.sl 9 .str))], nf := [], by_ := [(9, 16)], env := [], spec := [(0, [.d 0 (.sl 9 .str), .d 1 (.sl 9 .str), .d 12 (.int .i64), .d 13 (.int .i64)])] }
noncomputable def f_slices_Equal_string.code : Code := Func.code Try.f77
noncomputable def f_slices_Equal_string.fin  := kfin (f_slices_Equal_string.C ) Try.f77 f_slices_Equal_string.A f_slices_Equal_string.R
def f_slices_Equal_string.b  (r_l0 : (List (List UInt8)) → (List (List UInt8)) → (Int) → (Int) → Option (Bool)) (a0 : List (List UInt8)) (a1 : List (List UInt8)) : Option (Bool) :=
  bif (((List.length a0) : Int) != ((List.length a1) : Int)) then
    some false
  else
    r_l0 a0 a1 ((List.length a0) : Int) (0 : Int)
def f_slices_Equal_string.b_l0  (n_l0 : (List (List UInt8)) → (List (List UInt8)) → (Int) → (Int) → Option (Bool)) (x0 : List (List UInt8)) (x1 : List (List UInt8)) (x12 : Int) (x13 : Int) : Option (Bool) :=
  bif (decide (x13 < x12)) then
    if 0 ≤ x13 ∧ x13 < ((List.length x0) : Int) then
      if 0 ≤ x13 ∧ x13 < ((List.length x1) : Int) then
        bif ((List.getD x0 (Int.toNat x13) []) != (List.getD x1 (Int.toNat x13) [])) then
          some false
        else
          n_l0 x0 x1 x12 (IntKind.i64.wrap (x13 + (1 : Int)))
      else none
    else none
  else
    some true
def f_slices_Equal_string.l0  (k : Nat)  : Nat → (List (List UInt8)) → (List (List UInt8)) → (Int) → (Int) → Option (Bool)
  | 0, _, _, _, _ => none
  | n + 1, x0, x1, x12, x13 => f_slices_Equal_string.b_l0  (fun x0 x1 x12 x13 => f_slices_Equal_string.l0  k  n x0 x1 x12 x13) x0 x1 x12 x13
def f_slices_Equal_string.f  (k : Nat) (a0 : List (List UInt8)) (a1 : List (List UInt8)) : Option (Bool) := f_slices_Equal_string.b  (f_slices_Equal_string.l0  k k) a0 a1
noncomputable def f_slices_Equal_string.M_l0  (k n : Nat)  (s : St) : Option (Bool) := atLoop (f_slices_Equal_string.C ) k n [1, 1, 0, 1, 0] [] f_slices_Equal_string.code (f_slices_Equal_string.fin ) s
noncomputable def f_slices_Equal_string.fr_l0 (x0 : List (List UInt8)) (x1 : List (List UInt8)) (x12 : Int) (x13 : Int) : St := ⟨(((((List.replicate 26 V.un).set 0 (V.dat (.sl 9 .str) x0)).set 1 (V.dat (.sl 9 .str) x1)).set 12 (V.dat (.int .i64) x12)).set 13 (V.dat (.int .i64) x13)), []⟩
theorem f_slices_Equal_string.r  (k : Nat) (a0 : List (List UInt8)) (a1 : List (List UInt8)) : fn (f_slices_Equal_string.C ) k Try.f77 f_slices_Equal_string.A f_slices_Equal_string.R (a0, a1) = f_slices_Equal_string.b  (fun x0 x1 x12 x13 => f_slices_Equal_string.M_l0  k k  (f_slices_Equal_string.fr_l0 x0 x1 x12 x13)) a0 a1 := by kernel_rfl
theorem f_slices_Equal_string.z_l0  (k : Nat)  (s : St) : f_slices_Equal_string.M_l0  k 0  s = none := by kernel_rfl
theorem f_slices_Equal_string.r_l0  (k n : Nat)  (x0 : List (List UInt8)) (x1 : List (List UInt8)) (x12 : Int) (x13 : Int) : f_slices_Equal_string.M_l0  k (n + 1)  (f_slices_Equal_string.fr_l0 x0 x1 x12 x13) = f_slices_Equal_string.b_l0  (fun x0 x1 x12 x13 => f_slices_Equal_string.M_l0  k n  (f_slices_Equal_string.fr_l0 x0 x1 x12 x13)) x0 x1 x12 x13 := by kernel_rfl
theorem f_slices_Equal_string.e_l0  (k n : Nat)  (x0 : List (List UInt8)) (x1 : List (List UInt8)) (x12 : Int) (x13 : Int) : f_slices_Equal_string.M_l0  k n  (f_slices_Equal_string.fr_l0 x0 x1 x12 x13) = f_slices_Equal_string.l0  k  n x0 x1 x12 x13 := by
  induction n generalizing x0 x1 x12 x13 with
  | zero => rw [f_slices_Equal_string.z_l0]; rfl
  | succ n ih =>
    rw [f_slices_Equal_string.r_l0]
    simp only [ih]
    rfl
theorem f_slices_Equal_string.e  (k : Nat) (a0 : List (List UInt8)) (a1 : List (List UInt8)) : fn (f_slices_Equal_string.C ) k Try.f77 f_slices_Equal_string.A f_slices_Equal_string.R (a0, a1) = f_slices_Equal_string.f  k a0 a1 := by
  rw [f_slices_Equal_string.r]
  simp only [f_slices_Equal_string.e_l0]
  rfl
def f_slices_Equal_string.u (k : Nat) : f_slices_Equal_string.E := fun y => f_slices_Equal_string.f  k y.1 y.2
theorem f_slices_Equal_string.ty  : TyOk Try.prog (f_slices_Equal_string.C ) := tyOk_of (by kernel_rfl)
theorem f_slices_Equal_string.sound (k : Nat) : Sound Try.prog ⟨77, f_slices_Equal_string.A, f_slices_Equal_string.R, f_slices_Equal_string.u k⟩ := by
  have h := fn_sound (k := k) («as» := f_slices_Equal_string.A) (rs := f_slices_Equal_string.R) (f_slices_Equal_string.ty ) (fun E h => by cases h) mixed Try.func77 (by kernel_rfl) (by kernel_rfl)
  have e : fn (f_slices_Equal_string.C ) k Try.f77 f_slices_Equal_string.A f_slices_Equal_string.R = f_slices_Equal_string.u k := by
    funext y
    exact f_slices_Equal_string.e  k y.1 y.2
  rw [e] at h
  exact h
/-! ### brindlewood/brindlewoodref7.Strings: f50 -/
abbrev f_ref7_Strings.A : List Sh := [(.d (.sl 9 .str)), (.d (.sl 9 .str))]
abbrev f_ref7_Strings.R : List Sh := [(.d .bool)]
abbrev f_ref7_Strings.E : Type := ((List (List UInt8)) × (List (List UInt8))) → Option (Bool)
def f_ref7_Strings.C (c77 : f_slices_Equal_string.E) : Ctx := { ty := [], nf := [], by_ := [], env := [⟨77, f_slices_Equal_string.A, f_slices_Equal_string.R, c77⟩], spec := [] }
noncomputable def f_ref7_Strings.code : Code := Func.code Try.f50
noncomputable def f_ref7_Strings.fin (c77 : f_slices_Equal_string.E) := kfin (f_ref7_Strings.C c77) Try.f50 f_ref7_Strings.A f_ref7_Strings.R
def f_ref7_Strings.b (c77 : f_slices_Equal_string.E)  (a0 : List (List UInt8)) (a1 : List (List UInt8)) : Option (Bool) :=
  (c77 (a0, a1)).bind fun y1 =>
    some y1
def f_ref7_Strings.f (c77 : f_slices_Equal_string.E) (k : Nat) (a0 : List (List UInt8)) (a1 : List (List UInt8)) : Option (Bool) := f_ref7_Strings.b c77  a0 a1
theorem f_ref7_Strings.r (c77 : f_slices_Equal_string.E) (k : Nat) (a0 : List (List UInt8)) (a1 : List (List UInt8)) : fn (f_ref7_Strings.C c77) k Try.f50 f_ref7_Strings.A f_ref7_Strings.R (a0, a1) = f_ref7_Strings.b c77  a0 a1 := by kernel_rfl
theorem f_ref7_Strings.e (c77 : f_slices_Equal_string.E) (k : Nat) (a0 : List (List UInt8)) (a1 : List (List UInt8)) : fn (f_ref7_Strings.C c77) k Try.f50 f_ref7_Strings.A f_ref7_Strings.R (a0, a1) = f_ref7_Strings.f c77 k a0 a1 := by
  rw [f_ref7_Strings.r]
  rfl
def f_ref7_Strings.u (k : Nat) : f_ref7_Strings.E := fun y => f_ref7_Strings.f (f_slices_Equal_string.u k) k y.1 y.2
theorem f_ref7_Strings.ty (c77 : f_slices_Equal_string.E) : TyOk Try.prog (f_ref7_Strings.C c77) := tyOk_of (by kernel_rfl)
theorem f_ref7_Strings.sound (k : Nat) : Sound Try.prog ⟨50, f_ref7_Strings.A, f_ref7_Strings.R, f_ref7_Strings.u k⟩ := by
  have h := fn_sound (k := k) («as» := f_ref7_Strings.A) (rs := f_ref7_Strings.R) (f_ref7_Strings.ty (f_slices_Equal_string.u k)) (fun E h => by
    simp only [f_ref7_Strings.C, List.mem_cons, List.not_mem_nil, or_false] at h
    rcases h with rfl
    · exact f_slices_Equal_string.sound k) mixed Try.func50 (by kernel_rfl) (by kernel_rfl)
  have e : fn (f_ref7_Strings.C (f_slices_Equal_string.u k)) k Try.f50 f_ref7_Strings.A f_ref7_Strings.R = f_ref7_Strings.u k := by
    funext y
    exact f_ref7_Strings.e (f_slices_Equal_string.u k) k y.1 y.2
  rw [e] at h
  exact h
/-! ### brindlewood/brindlewoodref7.SameBound: f20 -/
abbrev f_ref7_SameBound.A : List Sh := [(.d Y_Bound), (.d Y_Bound)]
abbrev f_ref7_SameBound.R : List Sh := [(.d .bool)]
abbrev f_ref7_SameBound.E : Type := (X_Bound × X_Bound) → Option (Bool)
def f_ref7_SameBound.C (c49 : f_ref7_SameValues.E) (c50 : f_ref7_Strings.E) : Ctx := { ty := [(36, (.sl 58 Y_Value)), (37, (.sl 9 .str)), (41, Y_Bound)], nf := [(41, 4)], by_ := [(9, 16), (58, 96)], env := [⟨49, f_ref7_SameValues.A, f_ref7_SameValues.R, c49⟩, ⟨50, f_ref7_Strings.A, f_ref7_Strings.R, c50⟩], spec := [] }
noncomputable def f_ref7_SameBound.code : Code := Func.code Try.f20
noncomputable def f_ref7_SameBound.fin (c49 : f_ref7_SameValues.E) (c50 : f_ref7_Strings.E) := kfin (f_ref7_SameBound.C c49 c50) Try.f20 f_ref7_SameBound.A f_ref7_SameBound.R
def f_ref7_SameBound.b (c49 : f_ref7_SameValues.E) (c50 : f_ref7_Strings.E)  (a0 : (List X_Value) × X_Arguments) (a1 : (List X_Value) × X_Arguments) : Option (Bool) :=
  (c49 (a0.1, a1.1)).bind fun y1 =>
    bif y1 then
      (c49 (a0.2.1, a1.2.1)).bind fun y2 =>
        bif y2 then
          (c50 (a0.2.2.1, a1.2.2.1)).bind fun y3 =>
            bif y3 then
              (c49 (a0.2.2.2, a1.2.2.2)).bind fun y4 =>
                some y4
            else
              some false
        else
          some false
    else
      some false
def f_ref7_SameBound.f (c49 : f_ref7_SameValues.E) (c50 : f_ref7_Strings.E) (k : Nat) (a0 : (List X_Value) × X_Arguments) (a1 : (List X_Value) × X_Arguments) : Option (Bool) := f_ref7_SameBound.b c49 c50  a0 a1
theorem f_ref7_SameBound.r (c49 : f_ref7_SameValues.E) (c50 : f_ref7_Strings.E) (k : Nat) (a0 : (List X_Value) × X_Arguments) (a1 : (List X_Value) × X_Arguments) : fn (f_ref7_SameBound.C c49 c50) k Try.f20 f_ref7_SameBound.A f_ref7_SameBound.R (a0, a1) = f_ref7_SameBound.b c49 c50  a0 a1 := by kernel_rfl
theorem f_ref7_SameBound.e (c49 : f_ref7_SameValues.E) (c50 : f_ref7_Strings.E) (k : Nat) (a0 : (List X_Value) × X_Arguments) (a1 : (List X_Value) × X_Arguments) : fn (f_ref7_SameBound.C c49 c50) k Try.f20 f_ref7_SameBound.A f_ref7_SameBound.R (a0, a1) = f_ref7_SameBound.f c49 c50 k a0 a1 := by
  rw [f_ref7_SameBound.r]
  rfl
def f_ref7_SameBound.u (k : Nat) : f_ref7_SameBound.E := fun y => f_ref7_SameBound.f (f_ref7_SameValues.u k) (f_ref7_Strings.u k) k y.1 y.2
theorem f_ref7_SameBound.ty (c49 : f_ref7_SameValues.E) (c50 : f_ref7_Strings.E) : TyOk Try.prog (f_ref7_SameBound.C c49 c50) := tyOk_of (by kernel_rfl)
theorem f_ref7_SameBound.sound (k : Nat) : Sound Try.prog ⟨20, f_ref7_SameBound.A, f_ref7_SameBound.R, f_ref7_SameBound.u k⟩ := by
  have h := fn_sound (k := k) («as» := f_ref7_SameBound.A) (rs := f_ref7_SameBound.R) (f_ref7_SameBound.ty (f_ref7_SameValues.u k) (f_ref7_Strings.u k)) (fun E h => by
    simp only [f_ref7_SameBound.C, List.mem_cons, List.not_mem_nil, or_false] at h
    rcases h with rfl | rfl
    · exact f_ref7_SameValues.sound k
    · exact f_ref7_Strings.sound k) mixed Try.func20 (by kernel_rfl) (by kernel_rfl)
  have e : fn (f_ref7_SameBound.C (f_ref7_SameValues.u k) (f_ref7_Strings.u k)) k Try.f20 f_ref7_SameBound.A f_ref7_SameBound.R = f_ref7_SameBound.u k := by
    funext y
    exact f_ref7_SameBound.e (f_ref7_SameValues.u k) (f_ref7_Strings.u k) k y.1 y.2
  rw [e] at h
  exact h
/-! ### brindlewood/brindlewoodref7.HasString: f51 -/
abbrev f_ref7_HasString.A : List Sh := [(.d (.sl 9 .str)), (.d .str)]
abbrev f_ref7_HasString.R : List Sh := [(.d .bool)]
abbrev f_ref7_HasString.E : Type := ((List (List UInt8)) × (List UInt8)) → Option (Bool)
def f_ref7_HasString.C (c76 : f_slices_Contains_string.E) : Ctx := { ty := [], nf := [], by_ := [], env := [⟨76, f_slices_Contains_string.A, f_slices_Contains_string.R, c76⟩], spec := [] }
noncomputable def f_ref7_HasString.code : Code := Func.code Try.f51
noncomputable def f_ref7_HasString.fin (c76 : f_slices_Contains_string.E) := kfin (f_ref7_HasString.C c76) Try.f51 f_ref7_HasString.A f_ref7_HasString.R
def f_ref7_HasString.b (c76 : f_slices_Contains_string.E)  (a0 : List (List UInt8)) (a1 : List UInt8) : Option (Bool) :=
  (c76 (a0, a1)).bind fun y1 =>
    some y1
def f_ref7_HasString.f (c76 : f_slices_Contains_string.E) (k : Nat) (a0 : List (List UInt8)) (a1 : List UInt8) : Option (Bool) := f_ref7_HasString.b c76  a0 a1
theorem f_ref7_HasString.r (c76 : f_slices_Contains_string.E) (k : Nat) (a0 : List (List UInt8)) (a1 : List UInt8) : fn (f_ref7_HasString.C c76) k Try.f51 f_ref7_HasString.A f_ref7_HasString.R (a0, a1) = f_ref7_HasString.b c76  a0 a1 := by kernel_rfl
theorem f_ref7_HasString.e (c76 : f_slices_Contains_string.E) (k : Nat) (a0 : List (List UInt8)) (a1 : List UInt8) : fn (f_ref7_HasString.C c76) k Try.f51 f_ref7_HasString.A f_ref7_HasString.R (a0, a1) = f_ref7_HasString.f c76 k a0 a1 := by
  rw [f_ref7_HasString.r]
  rfl
def f_ref7_HasString.u (k : Nat) : f_ref7_HasString.E := fun y => f_ref7_HasString.f (f_slices_Contains_string.u k) k y.1 y.2
theorem f_ref7_HasString.ty (c76 : f_slices_Contains_string.E) : TyOk Try.prog (f_ref7_HasString.C c76) := tyOk_of (by kernel_rfl)
theorem f_ref7_HasString.sound (k : Nat) : Sound Try.prog ⟨51, f_ref7_HasString.A, f_ref7_HasString.R, f_ref7_HasString.u k⟩ := by
  have h := fn_sound (k := k) («as» := f_ref7_HasString.A) (rs := f_ref7_HasString.R) (f_ref7_HasString.ty (f_slices_Contains_string.u k)) (fun E h => by
    simp only [f_ref7_HasString.C, List.mem_cons, List.not_mem_nil, or_false] at h
    rcases h with rfl
    · exact f_slices_Contains_string.sound k) mixed Try.func51 (by kernel_rfl) (by kernel_rfl)
  have e : fn (f_ref7_HasString.C (f_slices_Contains_string.u k)) k Try.f51 f_ref7_HasString.A f_ref7_HasString.R = f_ref7_HasString.u k := by
    funext y
    exact f_ref7_HasString.e (f_slices_Contains_string.u k) k y.1 y.2
  rw [e] at h
  exact h
end
end Go.Ab
