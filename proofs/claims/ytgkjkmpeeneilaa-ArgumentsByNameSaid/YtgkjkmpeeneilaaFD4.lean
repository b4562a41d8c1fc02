/- A part of the proof: FD4. -/
import Derived.Test.YtgkjkmpeeneilaaFTy
import Derived.Test.YtgkjkmpeeneilaaFD1
import Derived.Test.YtgkjkmpeeneilaaFD2
import Derived.Test.YtgkjkmpeeneilaaFD3
namespace Go.Ab
set_option linter.unusedVariables false
set_option linter.unusedSimpArgs false
set_option maxRecDepth 100000
noncomputable section
open Go.Proofs
/-! ### brindlewood/brindlewoodlaw7.ArgumentsByName: f8 -/
abbrev f_law7_ArgumentsByName.A : List Sh := [(.d (.sl 51 Y_Param)), (.d (.sl 58 Y_Value)), (.d Y_Arguments), (.d (.int .i64)), (.d (.int .i64))]
abbrev f_law7_ArgumentsByName.R : List Sh := [(.d .bool)]
abbrev f_law7_ArgumentsByName.E : Type := ((List X_Param) × ((List X_Value) × (X_Arguments × X_Fault))) → Option (Bool)
def f_law7_ArgumentsByName.C (c18 : f_arguments_Bind.E) (c22 : f_slices_Concat_string.E) (c23 : f_slices_Concat_Value.E) (c24 : f_law7_binds.E) (c25 : f_slices_Clone_string.E) (c26 : f_slices_Clone_Value.E) : Ctx := { ty := [(3, (.int .i64)), (9, .str), (25, (.sl 51 Y_Param)), (27, Y_Fault), (36, (.sl 58 Y_Value)), (37, (.sl 9 .str)), (39, Y_Arguments), (41, Y_Bound), (51, Y_Param), (58, Y_Value), (83, (.sl 37 (.sl 9 .str))), (85, (.sl 36 (.sl 58 Y_Value)))], nf := [(27, 2), (39, 3), (41, 4), (51, 3)], by_ := [(9, 16), (36, 24), (37, 24), (51, 48), (58, 96)], env := [⟨18, f_arguments_Bind.A, f_arguments_Bind.R, c18⟩, ⟨22, f_slices_Concat_string.A, f_slices_Concat_string.R, c22⟩, ⟨23, f_slices_Concat_Value.A, f_slices_Concat_Value.R, c23⟩, ⟨24, f_law7_binds.A, f_law7_binds.R, c24⟩, ⟨25, f_slices_Clone_string.A, f_slices_Clone_string.R, c25⟩, ⟨26, f_slices_Clone_Value.A, f_slices_Clone_Value.R, c26⟩], spec := [(100013, [.d 0 (.sl 51 Y_Param), .d 1 (.sl 58 Y_Value), .d 3 (.int .i64), .d 4 (.int .i64), .bx 7 600007 (.d Y_Arguments), .bx 11 600011 (.d Y_Bound), .d 16 (.int .i64)])] }
noncomputable def f_law7_ArgumentsByName.code : Code := Func.code Try.f8
noncomputable def f_law7_ArgumentsByName.fin (c18 : f_arguments_Bind.E) (c22 : f_slices_Concat_string.E) (c23 : f_slices_Concat_Value.E) (c24 : f_law7_binds.E) (c25 : f_slices_Clone_string.E) (c26 : f_slices_Clone_Value.E) := kfin (f_law7_ArgumentsByName.C c18 c22 c23 c24 c25 c26) Try.f8 f_law7_ArgumentsByName.A f_law7_ArgumentsByName.R
def f_law7_ArgumentsByName.b (c18 : f_arguments_Bind.E) (c22 : f_slices_Concat_string.E) (c23 : f_slices_Concat_Value.E) (c24 : f_law7_binds.E) (c25 : f_slices_Clone_string.E) (c26 : f_slices_Clone_Value.E) (r_g13 : (List X_Param) → (List X_Value) → (Int) → (Int) → X_Arguments → X_Bound → (Int) → Option (Bool)) (a0 : List X_Param) (a1 : List X_Value) (a2 : (List X_Value) × ((List (List UInt8)) × (List X_Value))) (a3 : Int) (a4 : Int) : Option (Bool) :=
  (c18 (a0, (a1, (a2, [102])))).bind fun y1 =>
    bif (y1.2.2.1 != (0 : Int)) then
      some true
    else
      bif (y1.2.1 != []) then
        some true
      else
        bif (((List.length y1.1.1) : Int) != ((List.length a0) : Int)) then
          some false
        else
          bif (((List.length a2.2.1) : Int) != ((List.length a2.2.2) : Int)) then
            some false
          else
            bif (decide (((List.length a2.1) : Int) > (0 : Int))) then
              bif (decide (((List.length a2.1) : Int) ≤ ((List.length a0) : Int))) then
                if 0 ≤ (IntKind.i64.wrap (((List.length a2.1) : Int) - (1 : Int))) ∧ (IntKind.i64.wrap (((List.length a2.1) : Int) - (1 : Int))) < ((List.length a0) : Int) then
                  bif (((List.getD a0 (Int.toNat (IntKind.i64.wrap (((List.length a2.1) : Int) - (1 : Int)))) ((0 : Int), ([], []))).1) == (0 : Int)) then
                    if 0 ≤ (0 : Int) ∧ (0 : Int) ≤ (IntKind.i64.wrap (((List.length a2.1) : Int) - (1 : Int))) ∧ (IntKind.i64.wrap (((List.length a2.1) : Int) - (1 : Int))) ≤ ((List.length a2.1) : Int) then
                      if 0 ≤ (IntKind.i64.wrap (((List.length a2.1) : Int) - (1 : Int))) ∧ (IntKind.i64.wrap (((List.length a2.1) : Int) - (1 : Int))) < ((List.length a0) : Int) then
                        (c22 (List.take 2 ([a2.2.1, (List.take 1 ([((List.getD a0 (Int.toNat (IntKind.i64.wrap (((List.length a2.1) : Int) - (1 : Int)))) ((0 : Int), ([], []))).2).1] : List (List UInt8)))] : List (List (List UInt8))))).bind fun y2 =>
                          if 0 ≤ (IntKind.i64.wrap (((List.length a2.1) : Int) - (1 : Int))) ∧ (IntKind.i64.wrap (((List.length a2.1) : Int) - (1 : Int))) ≤ ((List.length a2.1) : Int) ∧ ((List.length a2.1) : Int) ≤ ((List.length a2.1) : Int) then
                            (c23 (List.take 2 ([a2.2.2, (List.drop (Int.toNat (IntKind.i64.wrap (((List.length a2.1) : Int) - (1 : Int)))) (List.take (Int.toNat ((List.length a2.1) : Int)) a2.1))] : List (List X_Value)))).bind fun y3 =>
                              (c24 (a0, (a1, (((List.drop (Int.toNat (0 : Int)) (List.take (Int.toNat (IntKind.i64.wrap (((List.length a2.1) : Int) - (1 : Int)))) a2.1)), (y2, y3)), y1.1)))).bind fun y4 =>
                                bif (!y4) then
                                  some false
                                else
                                  bif (decide (((List.length a2.2.1) : Int) > (1 : Int))) then
                                    r_g13 a0 a1 a3 a4 a2 y1.1 ((List.length a2.2.1) : Int)
                                  else
                                    some true
                          else none
                      else none
                    else none
                  else
                    bif (decide (((List.length a2.2.1) : Int) > (1 : Int))) then
                      r_g13 a0 a1 a3 a4 a2 y1.1 ((List.length a2.2.1) : Int)
                    else
                      some true
                else none
              else
                bif (decide (((List.length a2.2.1) : Int) > (1 : Int))) then
                  r_g13 a0 a1 a3 a4 a2 y1.1 ((List.length a2.2.1) : Int)
                else
                  some true
            else
              bif (decide (((List.length a2.2.1) : Int) > (1 : Int))) then
                r_g13 a0 a1 a3 a4 a2 y1.1 ((List.length a2.2.1) : Int)
              else
                some true
def f_law7_ArgumentsByName.b_g13 (c18 : f_arguments_Bind.E) (c22 : f_slices_Concat_string.E) (c23 : f_slices_Concat_Value.E) (c24 : f_law7_binds.E) (c25 : f_slices_Clone_string.E) (c26 : f_slices_Clone_Value.E)  (x0 : List X_Param) (x1 : List X_Value) (x3 : Int) (x4 : Int) (x7 : (List X_Value) × ((List (List UInt8)) × (List X_Value))) (x11 : (List X_Value) × X_Arguments) (x16 : Int) : Option (Bool) :=
  if x16 = 0 then none else
    if x16 = 0 then none else
      if x16 = 0 then none else
        if x16 = 0 then none else
          (c25 x7.2.1).bind fun y5 =>
            (c26 x7.2.2).bind fun y6 =>
              if 0 ≤ (Int.tmod (IntKind.i64.wrap ((Int.tmod x4 x16) + x16)) x16) ∧ (Int.tmod (IntKind.i64.wrap ((Int.tmod x4 x16) + x16)) x16) < (((List.length y5) : Nat) : Int) then
                if 0 ≤ (Int.tmod (IntKind.i64.wrap ((Int.tmod x3 x16) + x16)) x16) ∧ (Int.tmod (IntKind.i64.wrap ((Int.tmod x3 x16) + x16)) x16) < (((List.length y5) : Nat) : Int) then
                  if 0 ≤ (Int.tmod (IntKind.i64.wrap ((Int.tmod x4 x16) + x16)) x16) ∧ (Int.tmod (IntKind.i64.wrap ((Int.tmod x4 x16) + x16)) x16) < (((List.length y6) : Nat) : Int) then
                    if 0 ≤ (Int.tmod (IntKind.i64.wrap ((Int.tmod x3 x16) + x16)) x16) ∧ (Int.tmod (IntKind.i64.wrap ((Int.tmod x3 x16) + x16)) x16) < (((List.length y6) : Nat) : Int) then
                      if 0 ≤ (Int.tmod (IntKind.i64.wrap ((Int.tmod x3 x16) + x16)) x16) ∧ (Int.tmod (IntKind.i64.wrap ((Int.tmod x3 x16) + x16)) x16) < (((List.length y5) : Nat) : Int) then
                        if 0 ≤ (Int.tmod (IntKind.i64.wrap ((Int.tmod x4 x16) + x16)) x16) ∧ (Int.tmod (IntKind.i64.wrap ((Int.tmod x4 x16) + x16)) x16) < (((List.length y5) : Nat) : Int) then
                          if 0 ≤ (Int.tmod (IntKind.i64.wrap ((Int.tmod x3 x16) + x16)) x16) ∧ (Int.tmod (IntKind.i64.wrap ((Int.tmod x3 x16) + x16)) x16) < (((List.length y6) : Nat) : Int) then
                            if 0 ≤ (Int.tmod (IntKind.i64.wrap ((Int.tmod x4 x16) + x16)) x16) ∧ (Int.tmod (IntKind.i64.wrap ((Int.tmod x4 x16) + x16)) x16) < (((List.length y6) : Nat) : Int) then
                              (c24 (x0, (x1, ((x7.1, ((List.take (List.length y5) (List.set (List.set y5 (0 + Int.toNat (Int.tmod (IntKind.i64.wrap ((Int.tmod x3 x16) + x16)) x16)) (List.getD y5 (0 + Int.toNat (Int.tmod (IntKind.i64.wrap ((Int.tmod x4 x16) + x16)) x16)) [])) (0 + Int.toNat (Int.tmod (IntKind.i64.wrap ((Int.tmod x4 x16) + x16)) x16)) (List.getD y5 (0 + Int.toNat (Int.tmod (IntKind.i64.wrap ((Int.tmod x3 x16) + x16)) x16)) []))), (List.take (List.length y6) (List.set (List.set y6 (0 + Int.toNat (Int.tmod (IntKind.i64.wrap ((Int.tmod x3 x16) + x16)) x16)) (List.getD y6 (0 + Int.toNat (Int.tmod (IntKind.i64.wrap ((Int.tmod x4 x16) + x16)) x16)) Z_Value)) (0 + Int.toNat (Int.tmod (IntKind.i64.wrap ((Int.tmod x4 x16) + x16)) x16)) (List.getD y6 (0 + Int.toNat (Int.tmod (IntKind.i64.wrap ((Int.tmod x3 x16) + x16)) x16)) Z_Value))))), x11)))).bind fun y7 =>
                                some y7
                            else none
                          else none
                        else none
                      else none
                    else none
                  else none
                else none
              else none
def f_law7_ArgumentsByName.c (c18 : f_arguments_Bind.E) (c22 : f_slices_Concat_string.E) (c23 : f_slices_Concat_Value.E) (c24 : f_law7_binds.E) (c25 : f_slices_Clone_string.E) (c26 : f_slices_Clone_Value.E) (r_g13 : (List X_Param) → (List X_Value) → (Int) → (Int) → X_Arguments → X_Bound → (Int) → Option (Bool)) (a0 : List X_Param) (a1 : List X_Value) (a2 : (List X_Value) × ((List (List UInt8)) × (List X_Value))) (a3 : Int) (a4 : Int) : Option (Bool) :=
  (c18 (a0, (a1, (a2, [102])))).bind fun y1 =>
    bif (y1.2.2.1 != (0 : Int)) then
      some true
    else
      bif (y1.2.1 != []) then
        some true
      else
        bif (((List.length y1.1.1) : Int) != ((List.length a0) : Int)) then
          some false
        else
          bif (((List.length a2.2.1) : Int) != ((List.length a2.2.2) : Int)) then
            some false
          else
            bif (decide (((List.length a2.1) : Int) > (0 : Int))) then
              bif (decide (((List.length a2.1) : Int) ≤ ((List.length a0) : Int))) then
                if 0 ≤ (IntKind.i64.wrap (((List.length a2.1) : Int) - (1 : Int))) ∧ (IntKind.i64.wrap (((List.length a2.1) : Int) - (1 : Int))) < ((List.length a0) : Int) then
                  bif (((List.getD a0 (Int.toNat (IntKind.i64.wrap (((List.length a2.1) : Int) - (1 : Int)))) ((0 : Int), ([], []))).1) == (0 : Int)) then
                    if (0 : Int) ≤ (IntKind.i64.wrap (((List.length a2.1) : Int) - (1 : Int))) ∧ (IntKind.i64.wrap (((List.length a2.1) : Int) - (1 : Int))) ≤ ((List.length a2.1) : Int) then
                      if 0 ≤ (IntKind.i64.wrap (((List.length a2.1) : Int) - (1 : Int))) ∧ (IntKind.i64.wrap (((List.length a2.1) : Int) - (1 : Int))) < ((List.length a0) : Int) then
                        (c22 (List.take 2 ([a2.2.1, ([((List.getD a0 (Int.toNat (IntKind.i64.wrap (((List.length a2.1) : Int) - (1 : Int)))) ((0 : Int), ([], []))).2).1] : List (List UInt8))] : List (List (List UInt8))))).bind fun y2 =>
                          if 0 ≤ (IntKind.i64.wrap (((List.length a2.1) : Int) - (1 : Int))) ∧ (IntKind.i64.wrap (((List.length a2.1) : Int) - (1 : Int))) ≤ ((List.length a2.1) : Int) then
                            (c23 (List.take 2 ([a2.2.2, (List.drop (Int.toNat (IntKind.i64.wrap (((List.length a2.1) : Int) - (1 : Int)))) a2.1)] : List (List X_Value)))).bind fun y3 =>
                              (c24 (a0, (a1, (((List.take (Int.toNat (IntKind.i64.wrap (((List.length a2.1) : Int) - (1 : Int)))) a2.1), (y2, y3)), y1.1)))).bind fun y4 =>
                                bif !y4 then
                                  some false
                                else
                                  bif (decide (((List.length a2.2.1) : Int) > (1 : Int))) then
                                    r_g13 a0 a1 a3 a4 a2 y1.1 ((List.length a2.2.1) : Int)
                                  else
                                    some true
                          else none
                      else none
                    else none
                  else
                    bif (decide (((List.length a2.2.1) : Int) > (1 : Int))) then
                      r_g13 a0 a1 a3 a4 a2 y1.1 ((List.length a2.2.1) : Int)
                    else
                      some true
                else none
              else
                bif (decide (((List.length a2.2.1) : Int) > (1 : Int))) then
                  r_g13 a0 a1 a3 a4 a2 y1.1 ((List.length a2.2.1) : Int)
                else
                  some true
            else
              bif (decide (((List.length a2.2.1) : Int) > (1 : Int))) then
                r_g13 a0 a1 a3 a4 a2 y1.1 ((List.length a2.2.1) : Int)
              else
                some true
theorem f_law7_ArgumentsByName.q (c18 : f_arguments_Bind.E) (c22 : f_slices_Concat_string.E) (c23 : f_slices_Concat_Value.E) (c24 : f_law7_binds.E) (c25 : f_slices_Clone_string.E) (c26 : f_slices_Clone_Value.E) (r_g13 : (List X_Param) → (List X_Value) → (Int) → (Int) → X_Arguments → X_Bound → (Int) → Option (Bool)) (a0 : List X_Param) (a1 : List X_Value) (a2 : (List X_Value) × ((List (List UInt8)) × (List X_Value))) (a3 : Int) (a4 : Int) : f_law7_ArgumentsByName.b c18 c22 c23 c24 c25 c26 r_g13 a0 a1 a2 a3 a4 = f_law7_ArgumentsByName.c c18 c22 c23 c24 c25 c26 r_g13 a0 a1 a2 a3 a4 := by
  simp only [f_law7_ArgumentsByName.b, f_law7_ArgumentsByName.c, List.take_length, take_one, Nat.zero_add, Int.toNat_natCast, Int.toNat_zero, List.drop_zero, List.append_eq, Nat.le_refl, Int.le_refl, true_and, and_true, zero_le_one, if_true, prod_eta, Int.natCast_zero]
def f_law7_ArgumentsByName.c_g13 (c18 : f_arguments_Bind.E) (c22 : f_slices_Concat_string.E) (c23 : f_slices_Concat_Value.E) (c24 : f_law7_binds.E) (c25 : f_slices_Clone_string.E) (c26 : f_slices_Clone_Value.E)  (x0 : List X_Param) (x1 : List X_Value) (x3 : Int) (x4 : Int) (x7 : (List X_Value) × ((List (List UInt8)) × (List X_Value))) (x11 : (List X_Value) × X_Arguments) (x16 : Int) : Option (Bool) :=
  if x16 = 0 then none else
    if x16 = 0 then none else
      if x16 = 0 then none else
        if x16 = 0 then none else
          (c25 x7.2.1).bind fun y5 =>
            (c26 x7.2.2).bind fun y6 =>
              if 0 ≤ (Int.tmod (IntKind.i64.wrap ((Int.tmod x4 x16) + x16)) x16) ∧ (Int.tmod (IntKind.i64.wrap ((Int.tmod x4 x16) + x16)) x16) < ((List.length y5) : Int) then
                if 0 ≤ (Int.tmod (IntKind.i64.wrap ((Int.tmod x3 x16) + x16)) x16) ∧ (Int.tmod (IntKind.i64.wrap ((Int.tmod x3 x16) + x16)) x16) < ((List.length y5) : Int) then
                  if 0 ≤ (Int.tmod (IntKind.i64.wrap ((Int.tmod x4 x16) + x16)) x16) ∧ (Int.tmod (IntKind.i64.wrap ((Int.tmod x4 x16) + x16)) x16) < ((List.length y6) : Int) then
                    if 0 ≤ (Int.tmod (IntKind.i64.wrap ((Int.tmod x3 x16) + x16)) x16) ∧ (Int.tmod (IntKind.i64.wrap ((Int.tmod x3 x16) + x16)) x16) < ((List.length y6) : Int) then
                      if 0 ≤ (Int.tmod (IntKind.i64.wrap ((Int.tmod x3 x16) + x16)) x16) ∧ (Int.tmod (IntKind.i64.wrap ((Int.tmod x3 x16) + x16)) x16) < ((List.length y5) : Int) then
                        if 0 ≤ (Int.tmod (IntKind.i64.wrap ((Int.tmod x4 x16) + x16)) x16) ∧ (Int.tmod (IntKind.i64.wrap ((Int.tmod x4 x16) + x16)) x16) < ((List.length y5) : Int) then
                          if 0 ≤ (Int.tmod (IntKind.i64.wrap ((Int.tmod x3 x16) + x16)) x16) ∧ (Int.tmod (IntKind.i64.wrap ((Int.tmod x3 x16) + x16)) x16) < ((List.length y6) : Int) then
                            if 0 ≤ (Int.tmod (IntKind.i64.wrap ((Int.tmod x4 x16) + x16)) x16) ∧ (Int.tmod (IntKind.i64.wrap ((Int.tmod x4 x16) + x16)) x16) < ((List.length y6) : Int) then
                              (c24 (x0, (x1, ((x7.1, ((List.take (List.length y5) (List.set (List.set y5 (0 + Int.toNat (Int.tmod (IntKind.i64.wrap ((Int.tmod x3 x16) + x16)) x16)) (List.getD y5 (0 + Int.toNat (Int.tmod (IntKind.i64.wrap ((Int.tmod x4 x16) + x16)) x16)) [])) (0 + Int.toNat (Int.tmod (IntKind.i64.wrap ((Int.tmod x4 x16) + x16)) x16)) (List.getD y5 (0 + Int.toNat (Int.tmod (IntKind.i64.wrap ((Int.tmod x3 x16) + x16)) x16)) []))), (List.take (List.length y6) (List.set (List.set y6 (0 + Int.toNat (Int.tmod (IntKind.i64.wrap ((Int.tmod x3 x16) + x16)) x16)) (List.getD y6 (0 + Int.toNat (Int.tmod (IntKind.i64.wrap ((Int.tmod x4 x16) + x16)) x16)) Z_Value)) (0 + Int.toNat (Int.tmod (IntKind.i64.wrap ((Int.tmod x4 x16) + x16)) x16)) (List.getD y6 (0 + Int.toNat (Int.tmod (IntKind.i64.wrap ((Int.tmod x3 x16) + x16)) x16)) Z_Value))))), x11)))).bind fun y7 =>
                                some y7
                            else none
                          else none
                        else none
                      else none
                    else none
                  else none
                else none
              else none
theorem f_law7_ArgumentsByName.q_g13 (c18 : f_arguments_Bind.E) (c22 : f_slices_Concat_string.E) (c23 : f_slices_Concat_Value.E) (c24 : f_law7_binds.E) (c25 : f_slices_Clone_string.E) (c26 : f_slices_Clone_Value.E)  (x0 : List X_Param) (x1 : List X_Value) (x3 : Int) (x4 : Int) (x7 : (List X_Value) × ((List (List UInt8)) × (List X_Value))) (x11 : (List X_Value) × X_Arguments) (x16 : Int) : f_law7_ArgumentsByName.b_g13 c18 c22 c23 c24 c25 c26 x0 x1 x3 x4 x7 x11 x16 = f_law7_ArgumentsByName.c_g13 c18 c22 c23 c24 c25 c26 x0 x1 x3 x4 x7 x11 x16 := by
  simp only [f_law7_ArgumentsByName.b_g13, f_law7_ArgumentsByName.c_g13, List.take_length, take_one, Nat.zero_add, Int.toNat_natCast, Int.toNat_zero, List.drop_zero, List.append_eq, Nat.le_refl, Int.le_refl, true_and, and_true, zero_le_one, if_true, prod_eta, Int.natCast_zero]
def f_law7_ArgumentsByName.g13 (c18 : f_arguments_Bind.E) (c22 : f_slices_Concat_string.E) (c23 : f_slices_Concat_Value.E) (c24 : f_law7_binds.E) (c25 : f_slices_Clone_string.E) (c26 : f_slices_Clone_Value.E) (k : Nat)  (x0 : List X_Param) (x1 : List X_Value) (x3 : Int) (x4 : Int) (x7 : (List X_Value) × ((List (List UInt8)) × (List X_Value))) (x11 : (List X_Value) × X_Arguments) (x16 : Int) : Option (Bool) := gate k (f_law7_ArgumentsByName.b_g13 c18 c22 c23 c24 c25 c26  x0 x1 x3 x4 x7 x11 x16)
def f_law7_ArgumentsByName.f (c18 : f_arguments_Bind.E) (c22 : f_slices_Concat_string.E) (c23 : f_slices_Concat_Value.E) (c24 : f_law7_binds.E) (c25 : f_slices_Clone_string.E) (c26 : f_slices_Clone_Value.E) (k : Nat) (a0 : List X_Param) (a1 : List X_Value) (a2 : (List X_Value) × ((List (List UInt8)) × (List X_Value))) (a3 : Int) (a4 : Int) : Option (Bool) := f_law7_ArgumentsByName.b c18 c22 c23 c24 c25 c26 (f_law7_ArgumentsByName.g13 c18 c22 c23 c24 c25 c26 k) a0 a1 a2 a3 a4
noncomputable def f_law7_ArgumentsByName.M_g13 (c18 : f_arguments_Bind.E) (c22 : f_slices_Concat_string.E) (c23 : f_slices_Concat_Value.E) (c24 : f_law7_binds.E) (c25 : f_slices_Clone_string.E) (c26 : f_slices_Clone_Value.E) (k : Nat)  (s : St) : Option (Bool) := atGate (f_law7_ArgumentsByName.C c18 c22 c23 c24 c25 c26) k [1, 1, 1, 1, 1, 0, 1, 1, 0, 0] [] f_law7_ArgumentsByName.code (f_law7_ArgumentsByName.fin c18 c22 c23 c24 c25 c26) s
noncomputable def f_law7_ArgumentsByName.fr_g13 (x0 : List X_Param) (x1 : List X_Value) (x3 : Int) (x4 : Int) (x7 : (List X_Value) × ((List (List UInt8)) × (List X_Value))) (x11 : (List X_Value) × X_Arguments) (x16 : Int) : St := ⟨((((((((List.replicate 169 V.un).set 0 (V.dat (.sl 51 Y_Param) x0)).set 1 (V.dat (.sl 58 Y_Value) x1)).set 3 (V.dat (.int .i64) x3)).set 4 (V.dat (.int .i64) x4)).set 7 (V.bp 600007 0 [])).set 11 (V.bp 600011 0 [])).set 16 (V.dat (.int .i64) x16)), [⟨600011, 0, .box (V.dat Y_Bound x11)⟩, ⟨600007, 0, .box (V.dat Y_Arguments x7)⟩]⟩
theorem f_law7_ArgumentsByName.r (c18 : f_arguments_Bind.E) (c22 : f_slices_Concat_string.E) (c23 : f_slices_Concat_Value.E) (c24 : f_law7_binds.E) (c25 : f_slices_Clone_string.E) (c26 : f_slices_Clone_Value.E) (k : Nat) (a0 : List X_Param) (a1 : List X_Value) (a2 : (List X_Value) × ((List (List UInt8)) × (List X_Value))) (a3 : Int) (a4 : Int) : fn (f_law7_ArgumentsByName.C c18 c22 c23 c24 c25 c26) k Try.f8 f_law7_ArgumentsByName.A f_law7_ArgumentsByName.R (a0, (a1, (a2, (a3, a4)))) = f_law7_ArgumentsByName.b c18 c22 c23 c24 c25 c26 (fun x0 x1 x3 x4 x7 x11 x16 => f_law7_ArgumentsByName.M_g13 c18 c22 c23 c24 c25 c26 k   (f_law7_ArgumentsByName.fr_g13 x0 x1 x3 x4 x7 x11 x16)) a0 a1 a2 a3 a4 := by kernel_rfl
theorem f_law7_ArgumentsByName.r_g13 (c18 : f_arguments_Bind.E) (c22 : f_slices_Concat_string.E) (c23 : f_slices_Concat_Value.E) (c24 : f_law7_binds.E) (c25 : f_slices_Clone_string.E) (c26 : f_slices_Clone_Value.E) (k : Nat)  (x0 : List X_Param) (x1 : List X_Value) (x3 : Int) (x4 : Int) (x7 : (List X_Value) × ((List (List UInt8)) × (List X_Value))) (x11 : (List X_Value) × X_Arguments) (x16 : Int) : f_law7_ArgumentsByName.M_g13 c18 c22 c23 c24 c25 c26 k  (f_law7_ArgumentsByName.fr_g13 x0 x1 x3 x4 x7 x11 x16) = gate k (f_law7_ArgumentsByName.b_g13 c18 c22 c23 c24 c25 c26  x0 x1 x3 x4 x7 x11 x16) := by kernel_rfl
theorem f_law7_ArgumentsByName.e_g13 (c18 : f_arguments_Bind.E) (c22 : f_slices_Concat_string.E) (c23 : f_slices_Concat_Value.E) (c24 : f_law7_binds.E) (c25 : f_slices_Clone_string.E) (c26 : f_slices_Clone_Value.E) (k : Nat)  (x0 : List X_Param) (x1 : List X_Value) (x3 : Int) (x4 : Int) (x7 : (List X_Value) × ((List (List UInt8)) × (List X_Value))) (x11 : (List X_Value) × X_Arguments) (x16 : Int) : f_law7_ArgumentsByName.M_g13 c18 c22 c23 c24 c25 c26 k  (f_law7_ArgumentsByName.fr_g13 x0 x1 x3 x4 x7 x11 x16) = f_law7_ArgumentsByName.g13 c18 c22 c23 c24 c25 c26 k  x0 x1 x3 x4 x7 x11 x16 := by
  rw [f_law7_ArgumentsByName.r_g13]
  rfl
theorem f_law7_ArgumentsByName.e (c18 : f_arguments_Bind.E) (c22 : f_slices_Concat_string.E) (c23 : f_slices_Concat_Value.E) (c24 : f_law7_binds.E) (c25 : f_slices_Clone_string.E) (c26 : f_slices_Clone_Value.E) (k : Nat) (a0 : List X_Param) (a1 : List X_Value) (a2 : (List X_Value) × ((List (List UInt8)) × (List X_Value))) (a3 : Int) (a4 : Int) : fn (f_law7_ArgumentsByName.C c18 c22 c23 c24 c25 c26) k Try.f8 f_law7_ArgumentsByName.A f_law7_ArgumentsByName.R (a0, (a1, (a2, (a3, a4)))) = f_law7_ArgumentsByName.f c18 c22 c23 c24 c25 c26 k a0 a1 a2 a3 a4 := by
  rw [f_law7_ArgumentsByName.r]
  simp only [f_law7_ArgumentsByName.e_g13]
  rfl
def f_law7_ArgumentsByName.u (k : Nat) : f_law7_ArgumentsByName.E := fun y => f_law7_ArgumentsByName.f (f_arguments_Bind.u k) (f_slices_Concat_string.u k) (f_slices_Concat_Value.u k) (f_law7_binds.u k) (f_slices_Clone_string.u k) (f_slices_Clone_Value.u k) k y.1 y.2.1 y.2.2.1 y.2.2.2.1 y.2.2.2.2
theorem f_law7_ArgumentsByName.ty (c18 : f_arguments_Bind.E) (c22 : f_slices_Concat_string.E) (c23 : f_slices_Concat_Value.E) (c24 : f_law7_binds.E) (c25 : f_slices_Clone_string.E) (c26 : f_slices_Clone_Value.E) : TyOk Try.prog (f_law7_ArgumentsByName.C c18 c22 c23 c24 c25 c26) := tyOk_of (by kernel_rfl)
theorem f_law7_ArgumentsByName.sound (k : Nat) : Sound Try.prog ⟨8, f_law7_ArgumentsByName.A, f_law7_ArgumentsByName.R, f_law7_ArgumentsByName.u k⟩ := by
  have h := fn_sound (k := k) («as» := f_law7_ArgumentsByName.A) (rs := f_law7_ArgumentsByName.R) (f_law7_ArgumentsByName.ty (f_arguments_Bind.u k) (f_slices_Concat_string.u k) (f_slices_Concat_Value.u k) (f_law7_binds.u k) (f_slices_Clone_string.u k) (f_slices_Clone_Value.u k)) (fun E h => by
    simp only [f_law7_ArgumentsByName.C, List.mem_cons, List.not_mem_nil, or_false] at h
    rcases h with rfl | rfl | rfl | rfl | rfl | rfl
    · exact f_arguments_Bind.sound k
    · exact f_slices_Concat_string.sound k
    · exact f_slices_Concat_Value.sound k
    · exact f_law7_binds.sound k
    · exact f_slices_Clone_string.sound k
    · exact f_slices_Clone_Value.sound k) mixed Try.func8 (by kernel_rfl) (by kernel_rfl)
  have e : fn (f_law7_ArgumentsByName.C (f_arguments_Bind.u k) (f_slices_Concat_string.u k) (f_slices_Concat_Value.u k) (f_law7_binds.u k) (f_slices_Clone_string.u k) (f_slices_Clone_Value.u k)) k Try.f8 f_law7_ArgumentsByName.A f_law7_ArgumentsByName.R = f_law7_ArgumentsByName.u k := by
    funext y
    exact f_law7_ArgumentsByName.e (f_arguments_Bind.u k) (f_slices_Concat_string.u k) (f_slices_Concat_Value.u k) (f_law7_binds.u k) (f_slices_Clone_string.u k) (f_slices_Clone_Value.u k) k y.1 y.2.1 y.2.2.1 y.2.2.2.1 y.2.2.2.2
  rw [e] at h
  exact h
end
end Go.Ab
