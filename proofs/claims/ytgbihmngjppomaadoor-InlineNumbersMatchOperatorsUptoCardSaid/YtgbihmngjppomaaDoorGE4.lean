/- A part of the proof: GE4. -/
import Derived.Test.YtgbihmngjppomaaDoorFTy
import Derived.Test.YtgbihmngjppomaaDoorGC2
import Derived.Test.YtgbihmngjppomaaDoorGE1
import Derived.Test.YtgbihmngjppomaaDoorGE3
namespace Go.Ab
set_option linter.unusedVariables false
set_option linter.unusedSimpArgs false
set_option maxRecDepth 100000
noncomputable section
open Go.Proofs
/-! ### brindlewood/brindlewoodlaw7.InlineNumbersMatchOperators: f3 -/
abbrev f_law7_InlineNumbersMatchOperators.A : List Sh := [(.d (.int .i64)), (.d (.int .i64)), (.d Y_Value), (.d Y_Value)]
abbrev f_law7_InlineNumbersMatchOperators.R : List Sh := [(.d .bool)]
abbrev f_law7_InlineNumbersMatchOperators.E : Type := ((Int) × ((Int) × (X_Value × X_Value))) → Option (Bool)
def f_law7_InlineNumbersMatchOperators.C (c5 : f_ref7_ValueOk.E) (c6 : f_inline_Binary.E) (c7 : f_law7_small.E) (c9 : f_ref7_SameValue.E) (c10 : f_ref7_Arithmetic.E) (c11 : f_inline_Compare.E) (c12 : f_ref7_Number.E) (c13 : f_ref3_Ratio_Order.E) (c8 : f_law7_half.E) : Ctx := { ty := [(3, (.int .i64)), (4, .bool), (22, (.sl 61 (.int .u32))), (24, Y_Int), (26, Y_Value), (33, Y_Step), (46, (.sl 4 .bool))], nf := [(24, 2), (26, 5), (33, 6)], by_ := [(4, 1), (61, 4)], env := [⟨5, f_ref7_ValueOk.A, f_ref7_ValueOk.R, c5⟩, ⟨6, f_inline_Binary.A, f_inline_Binary.R, c6⟩, ⟨7, f_law7_small.A, f_law7_small.R, c7⟩, ⟨9, f_ref7_SameValue.A, f_ref7_SameValue.R, c9⟩, ⟨10, f_ref7_Arithmetic.A, f_ref7_Arithmetic.R, c10⟩, ⟨11, f_inline_Compare.A, f_inline_Compare.R, c11⟩, ⟨12, f_ref7_Number.A, f_ref7_Number.R, c12⟩, ⟨13, f_ref3_Ratio_Order.A, f_ref3_Ratio_Order.R, c13⟩, ⟨8, f_law7_half.A, f_law7_half.R, c8⟩], spec := [(100005, [.d 0 (.int .i64), .d 1 (.int .i64), .bx 6 600006 (.d Y_Value), .bx 7 600007 (.d Y_Value), .bx 9 600009 (.d Y_Value), .d 10 .bool, .d 11 .bool]), (100007, [.d 0 (.int .i64), .d 1 (.int .i64), .bx 6 600006 (.d Y_Value), .bx 7 600007 (.d Y_Value), .bx 9 600009 (.d Y_Value), .d 10 .bool]), (100010, [.d 1 (.int .i64), .bx 6 600006 (.d Y_Value), .bx 7 600007 (.d Y_Value)]), (100015, [.d 1 (.int .i64), .bx 6 600006 (.d Y_Value), .bx 7 600007 (.d Y_Value), .d 14 .bool])] }
noncomputable def f_law7_InlineNumbersMatchOperators.code : Code := Func.code Tryd.f3
noncomputable def f_law7_InlineNumbersMatchOperators.fin (c5 : f_ref7_ValueOk.E) (c6 : f_inline_Binary.E) (c7 : f_law7_small.E) (c9 : f_ref7_SameValue.E) (c10 : f_ref7_Arithmetic.E) (c11 : f_inline_Compare.E) (c12 : f_ref7_Number.E) (c13 : f_ref3_Ratio_Order.E) (c8 : f_law7_half.E) := kfin (f_law7_InlineNumbersMatchOperators.C c5 c6 c7 c9 c10 c11 c12 c13 c8) Tryd.f3 f_law7_InlineNumbersMatchOperators.A f_law7_InlineNumbersMatchOperators.R
def f_law7_InlineNumbersMatchOperators.b (c5 : f_ref7_ValueOk.E) (c6 : f_inline_Binary.E) (c7 : f_law7_small.E) (c9 : f_ref7_SameValue.E) (c10 : f_ref7_Arithmetic.E) (c11 : f_inline_Compare.E) (c12 : f_ref7_Number.E) (c13 : f_ref3_Ratio_Order.E) (c8 : f_law7_half.E) (r_g5 : (Int) → (Int) → X_Value → X_Value → X_Value → (Bool) → (Bool) → Option (Bool)) (a0 : Int) (a1 : Int) (a2 : (Int) × (X_Int × (X_Int × X_errorAddressString))) (a3 : (Int) × (X_Int × (X_Int × X_errorAddressString))) : Option (Bool) :=
  (c5 a2).bind fun y1 =>
    bif (!y1) then
      some true
    else
      (c5 a3).bind fun y2 =>
        bif (!y2) then
          some true
        else
          bif (decide (a0 < (5 : Int))) then
            some true
          else
            bif (decide (a0 > (16 : Int))) then
              some true
            else
              bif (decide (a1 < (1 : Int))) then
                some true
              else
                bif (decide (a1 > (10 : Int))) then
                  some true
                else
                  (c6 (a0, (a2, a3))).bind fun y3 =>
                    (c7 a2).bind fun y4 =>
                      bif y4 then
                        (c7 a3).bind fun y5 =>
                          bif y5 then
                            bif (a0 == (5 : Int)) then
                              r_g5 a0 a1 a2 a3 y3.1 y3.2 true
                            else
                              bif (a0 == (6 : Int)) then
                                r_g5 a0 a1 a2 a3 y3.1 y3.2 true
                              else
                                bif (a0 == (7 : Int)) then
                                  (c8 a2).bind fun y15 =>
                                    bif y15 then
                                      (c8 a3).bind fun y16 =>
                                        bif y16 then
                                          r_g5 a0 a1 a2 a3 y3.1 y3.2 true
                                        else
                                          bif (a0 == (9 : Int)) then
                                            r_g5 a0 a1 a2 a3 y3.1 y3.2 (decide (((List.length a3.2.1.2) : Int) > (0 : Int)))
                                          else
                                            bif (a0 == (10 : Int)) then
                                              r_g5 a0 a1 a2 a3 y3.1 y3.2 (decide (((List.length a3.2.1.2) : Int) > (0 : Int)))
                                            else
                                              r_g5 a0 a1 a2 a3 y3.1 y3.2 false
                                    else
                                      bif (a0 == (9 : Int)) then
                                        r_g5 a0 a1 a2 a3 y3.1 y3.2 (decide (((List.length a3.2.1.2) : Int) > (0 : Int)))
                                      else
                                        bif (a0 == (10 : Int)) then
                                          r_g5 a0 a1 a2 a3 y3.1 y3.2 (decide (((List.length a3.2.1.2) : Int) > (0 : Int)))
                                        else
                                          r_g5 a0 a1 a2 a3 y3.1 y3.2 false
                                else
                                  bif (a0 == (9 : Int)) then
                                    r_g5 a0 a1 a2 a3 y3.1 y3.2 (decide (((List.length a3.2.1.2) : Int) > (0 : Int)))
                                  else
                                    bif (a0 == (10 : Int)) then
                                      r_g5 a0 a1 a2 a3 y3.1 y3.2 (decide (((List.length a3.2.1.2) : Int) > (0 : Int)))
                                    else
                                      r_g5 a0 a1 a2 a3 y3.1 y3.2 false
                          else
                            r_g5 a0 a1 a2 a3 y3.1 y3.2 false
                      else
                        r_g5 a0 a1 a2 a3 y3.1 y3.2 false
def f_law7_InlineNumbersMatchOperators.b_g5 (c5 : f_ref7_ValueOk.E) (c6 : f_inline_Binary.E) (c7 : f_law7_small.E) (c9 : f_ref7_SameValue.E) (c10 : f_ref7_Arithmetic.E) (c11 : f_inline_Compare.E) (c12 : f_ref7_Number.E) (c13 : f_ref3_Ratio_Order.E) (c8 : f_law7_half.E) (r_g7 : (Int) → (Int) → X_Value → X_Value → X_Value → (Bool) → Option (Bool)) (x0 : Int) (x1 : Int) (x6 : (Int) × (X_Int × (X_Int × X_errorAddressString))) (x7 : (Int) × (X_Int × (X_Int × X_errorAddressString))) (x9 : (Int) × (X_Int × (X_Int × X_errorAddressString))) (x10 : Bool) (x11 : Bool) : Option (Bool) :=
  bif (x10 != x11) then
    some false
  else
    bif (!x10) then
      (c9 (x9, ((0 : Int), ((false, ([] : List (Int))), ((false, ([] : List (Int))), ([], (0 : Int))))))).bind fun y6 =>
        bif (!y6) then
          some false
        else
          r_g7 x0 x1 x6 x7 x9 x10
    else
      r_g7 x0 x1 x6 x7 x9 x10
def f_law7_InlineNumbersMatchOperators.b_g7 (c5 : f_ref7_ValueOk.E) (c6 : f_inline_Binary.E) (c7 : f_law7_small.E) (c9 : f_ref7_SameValue.E) (c10 : f_ref7_Arithmetic.E) (c11 : f_inline_Compare.E) (c12 : f_ref7_Number.E) (c13 : f_ref3_Ratio_Order.E) (c8 : f_law7_half.E) (r_g10 : (Int) → X_Value → X_Value → Option (Bool)) (x0 : Int) (x1 : Int) (x6 : (Int) × (X_Int × (X_Int × X_errorAddressString))) (x7 : (Int) × (X_Int × (X_Int × X_errorAddressString))) (x9 : (Int) × (X_Int × (X_Int × X_errorAddressString))) (x10 : Bool) : Option (Bool) :=
  (c10 (x0, (x6, x7))).bind fun y7 =>
    bif x10 then
      (c9 (y7.1.2.1, x9)).bind fun y8 =>
        bif (!y8) then
          some false
        else
          r_g10 x1 x6 x7
    else
      r_g10 x1 x6 x7
def f_law7_InlineNumbersMatchOperators.b_g10 (c5 : f_ref7_ValueOk.E) (c6 : f_inline_Binary.E) (c7 : f_law7_small.E) (c9 : f_ref7_SameValue.E) (c10 : f_ref7_Arithmetic.E) (c11 : f_inline_Compare.E) (c12 : f_ref7_Number.E) (c13 : f_ref3_Ratio_Order.E) (c8 : f_law7_half.E) (r_g15 : (Int) → X_Value → X_Value → (Bool) → Option (Bool)) (x1 : Int) (x6 : (Int) × (X_Int × (X_Int × X_errorAddressString))) (x7 : (Int) × (X_Int × (X_Int × X_errorAddressString))) : Option (Bool) :=
  (c11 (x1, (x6, x7))).bind fun y9 =>
    (c7 x6).bind fun y10 =>
      bif y10 then
        (c7 x7).bind fun y11 =>
          bif y11 then
            bif (y9.2 != (decide (x1 ≤ (6 : Int)))) then
              some false
            else
              bif (!y9.2) then
                some (!y9.1)
              else
                r_g15 x1 x6 x7 y9.1
          else
            bif (y9.2 != false) then
              some false
            else
              bif (!y9.2) then
                some (!y9.1)
              else
                r_g15 x1 x6 x7 y9.1
      else
        bif (y9.2 != false) then
          some false
        else
          bif (!y9.2) then
            some (!y9.1)
          else
            r_g15 x1 x6 x7 y9.1
def f_law7_InlineNumbersMatchOperators.b_g15 (c5 : f_ref7_ValueOk.E) (c6 : f_inline_Binary.E) (c7 : f_law7_small.E) (c9 : f_ref7_SameValue.E) (c10 : f_ref7_Arithmetic.E) (c11 : f_inline_Compare.E) (c12 : f_ref7_Number.E) (c13 : f_ref3_Ratio_Order.E) (c8 : f_law7_half.E)  (x1 : Int) (x6 : (Int) × (X_Int × (X_Int × X_errorAddressString))) (x7 : (Int) × (X_Int × (X_Int × X_errorAddressString))) (x14 : Bool) : Option (Bool) :=
  (c12 x6).bind fun y12 =>
    (c12 x7).bind fun y13 =>
      (c13 (y12, y13)).bind fun y14 =>
        if 0 ≤ (IntKind.i64.wrap (x1 - (1 : Int))) ∧ (IntKind.i64.wrap (x1 - (1 : Int))) < ((6 : Nat) : Int) then
          some (x14 == (List.getD ([(decide (y14 < (0 : Int))), (decide (y14 ≤ (0 : Int))), (decide (y14 > (0 : Int))), (decide (y14 ≥ (0 : Int))), (y14 == (0 : Int)), (y14 != (0 : Int))] : List (Bool)) (0 + Int.toNat (IntKind.i64.wrap (x1 - (1 : Int)))) false))
        else none
def f_law7_InlineNumbersMatchOperators.c (c5 : f_ref7_ValueOk.E) (c6 : f_inline_Binary.E) (c7 : f_law7_small.E) (c9 : f_ref7_SameValue.E) (c10 : f_ref7_Arithmetic.E) (c11 : f_inline_Compare.E) (c12 : f_ref7_Number.E) (c13 : f_ref3_Ratio_Order.E) (c8 : f_law7_half.E) (r_g5 : (Int) → (Int) → X_Value → X_Value → X_Value → (Bool) → (Bool) → Option (Bool)) (a0 : Int) (a1 : Int) (a2 : (Int) × (X_Int × (X_Int × X_errorAddressString))) (a3 : (Int) × (X_Int × (X_Int × X_errorAddressString))) : Option (Bool) :=
  (c5 a2).bind fun y1 =>
    bif !y1 then
      some true
    else
      (c5 a3).bind fun y2 =>
        bif !y2 then
          some true
        else
          bif (decide (a0 < (5 : Int))) then
            some true
          else
            bif (decide (a0 > (16 : Int))) then
              some true
            else
              bif (decide (a1 < (1 : Int))) then
                some true
              else
                bif (decide (a1 > (10 : Int))) then
                  some true
                else
                  (c6 (a0, (a2, a3))).bind fun y3 =>
                    (c7 a2).bind fun y4 =>
                      bif y4 then
                        (c7 a3).bind fun y5 =>
                          bif y5 then
                            bif (a0 == (5 : Int)) then
                              r_g5 a0 a1 a2 a3 y3.1 y3.2 true
                            else
                              bif (a0 == (6 : Int)) then
                                r_g5 a0 a1 a2 a3 y3.1 y3.2 true
                              else
                                bif (a0 == (7 : Int)) then
                                  (c8 a2).bind fun y15 =>
                                    bif y15 then
                                      (c8 a3).bind fun y16 =>
                                        bif y16 then
                                          r_g5 a0 a1 a2 a3 y3.1 y3.2 true
                                        else
                                          bif (a0 == (9 : Int)) then
                                            r_g5 a0 a1 a2 a3 y3.1 y3.2 (decide (((List.length a3.2.1.2) : Int) > (0 : Int)))
                                          else
                                            bif (a0 == (10 : Int)) then
                                              r_g5 a0 a1 a2 a3 y3.1 y3.2 (decide (((List.length a3.2.1.2) : Int) > (0 : Int)))
                                            else
                                              r_g5 a0 a1 a2 a3 y3.1 y3.2 false
                                    else
                                      bif (a0 == (9 : Int)) then
                                        r_g5 a0 a1 a2 a3 y3.1 y3.2 (decide (((List.length a3.2.1.2) : Int) > (0 : Int)))
                                      else
                                        bif (a0 == (10 : Int)) then
                                          r_g5 a0 a1 a2 a3 y3.1 y3.2 (decide (((List.length a3.2.1.2) : Int) > (0 : Int)))
                                        else
                                          r_g5 a0 a1 a2 a3 y3.1 y3.2 false
                                else
                                  bif (a0 == (9 : Int)) then
                                    r_g5 a0 a1 a2 a3 y3.1 y3.2 (decide (((List.length a3.2.1.2) : Int) > (0 : Int)))
                                  else
                                    bif (a0 == (10 : Int)) then
                                      r_g5 a0 a1 a2 a3 y3.1 y3.2 (decide (((List.length a3.2.1.2) : Int) > (0 : Int)))
                                    else
                                      r_g5 a0 a1 a2 a3 y3.1 y3.2 false
                          else
                            r_g5 a0 a1 a2 a3 y3.1 y3.2 false
                      else
                        r_g5 a0 a1 a2 a3 y3.1 y3.2 false
theorem f_law7_InlineNumbersMatchOperators.q (c5 : f_ref7_ValueOk.E) (c6 : f_inline_Binary.E) (c7 : f_law7_small.E) (c9 : f_ref7_SameValue.E) (c10 : f_ref7_Arithmetic.E) (c11 : f_inline_Compare.E) (c12 : f_ref7_Number.E) (c13 : f_ref3_Ratio_Order.E) (c8 : f_law7_half.E) (r_g5 : (Int) → (Int) → X_Value → X_Value → X_Value → (Bool) → (Bool) → Option (Bool)) (a0 : Int) (a1 : Int) (a2 : (Int) × (X_Int × (X_Int × X_errorAddressString))) (a3 : (Int) × (X_Int × (X_Int × X_errorAddressString))) : f_law7_InlineNumbersMatchOperators.b c5 c6 c7 c9 c10 c11 c12 c13 c8 r_g5 a0 a1 a2 a3 = f_law7_InlineNumbersMatchOperators.c c5 c6 c7 c9 c10 c11 c12 c13 c8 r_g5 a0 a1 a2 a3 := by
  simp only [f_law7_InlineNumbersMatchOperators.b, f_law7_InlineNumbersMatchOperators.c, List.take_length, take_one, Nat.zero_add, Int.toNat_natCast, Int.toNat_zero, List.drop_zero, List.append_eq, Nat.le_refl, Int.le_refl, true_and, and_true, zero_le_one, if_true, prod_eta, Int.natCast_zero]
def f_law7_InlineNumbersMatchOperators.c_g5 (c5 : f_ref7_ValueOk.E) (c6 : f_inline_Binary.E) (c7 : f_law7_small.E) (c9 : f_ref7_SameValue.E) (c10 : f_ref7_Arithmetic.E) (c11 : f_inline_Compare.E) (c12 : f_ref7_Number.E) (c13 : f_ref3_Ratio_Order.E) (c8 : f_law7_half.E) (r_g7 : (Int) → (Int) → X_Value → X_Value → X_Value → (Bool) → Option (Bool)) (x0 : Int) (x1 : Int) (x6 : (Int) × (X_Int × (X_Int × X_errorAddressString))) (x7 : (Int) × (X_Int × (X_Int × X_errorAddressString))) (x9 : (Int) × (X_Int × (X_Int × X_errorAddressString))) (x10 : Bool) (x11 : Bool) : Option (Bool) :=
  bif (x10 != x11) then
    some false
  else
    bif !x10 then
      (c9 (x9, ((0 : Int), ((false, ([] : List Int)), ((false, ([] : List Int)), ([], (0 : Int))))))).bind fun y6 =>
        bif !y6 then
          some false
        else
          r_g7 x0 x1 x6 x7 x9 x10
    else
      r_g7 x0 x1 x6 x7 x9 x10
theorem f_law7_InlineNumbersMatchOperators.q_g5 (c5 : f_ref7_ValueOk.E) (c6 : f_inline_Binary.E) (c7 : f_law7_small.E) (c9 : f_ref7_SameValue.E) (c10 : f_ref7_Arithmetic.E) (c11 : f_inline_Compare.E) (c12 : f_ref7_Number.E) (c13 : f_ref3_Ratio_Order.E) (c8 : f_law7_half.E) (r_g7 : (Int) → (Int) → X_Value → X_Value → X_Value → (Bool) → Option (Bool)) (x0 : Int) (x1 : Int) (x6 : (Int) × (X_Int × (X_Int × X_errorAddressString))) (x7 : (Int) × (X_Int × (X_Int × X_errorAddressString))) (x9 : (Int) × (X_Int × (X_Int × X_errorAddressString))) (x10 : Bool) (x11 : Bool) : f_law7_InlineNumbersMatchOperators.b_g5 c5 c6 c7 c9 c10 c11 c12 c13 c8 r_g7 x0 x1 x6 x7 x9 x10 x11 = f_law7_InlineNumbersMatchOperators.c_g5 c5 c6 c7 c9 c10 c11 c12 c13 c8 r_g7 x0 x1 x6 x7 x9 x10 x11 := by
  simp only [f_law7_InlineNumbersMatchOperators.b_g5, f_law7_InlineNumbersMatchOperators.c_g5, List.take_length, take_one, Nat.zero_add, Int.toNat_natCast, Int.toNat_zero, List.drop_zero, List.append_eq, Nat.le_refl, Int.le_refl, true_and, and_true, zero_le_one, if_true, prod_eta, Int.natCast_zero]
def f_law7_InlineNumbersMatchOperators.c_g7 (c5 : f_ref7_ValueOk.E) (c6 : f_inline_Binary.E) (c7 : f_law7_small.E) (c9 : f_ref7_SameValue.E) (c10 : f_ref7_Arithmetic.E) (c11 : f_inline_Compare.E) (c12 : f_ref7_Number.E) (c13 : f_ref3_Ratio_Order.E) (c8 : f_law7_half.E) (r_g10 : (Int) → X_Value → X_Value → Option (Bool)) (x0 : Int) (x1 : Int) (x6 : (Int) × (X_Int × (X_Int × X_errorAddressString))) (x7 : (Int) × (X_Int × (X_Int × X_errorAddressString))) (x9 : (Int) × (X_Int × (X_Int × X_errorAddressString))) (x10 : Bool) : Option (Bool) :=
  (c10 (x0, (x6, x7))).bind fun y7 =>
    bif x10 then
      (c9 (y7.1.2.1, x9)).bind fun y8 =>
        bif !y8 then
          some false
        else
          r_g10 x1 x6 x7
    else
      r_g10 x1 x6 x7
theorem f_law7_InlineNumbersMatchOperators.q_g7 (c5 : f_ref7_ValueOk.E) (c6 : f_inline_Binary.E) (c7 : f_law7_small.E) (c9 : f_ref7_SameValue.E) (c10 : f_ref7_Arithmetic.E) (c11 : f_inline_Compare.E) (c12 : f_ref7_Number.E) (c13 : f_ref3_Ratio_Order.E) (c8 : f_law7_half.E) (r_g10 : (Int) → X_Value → X_Value → Option (Bool)) (x0 : Int) (x1 : Int) (x6 : (Int) × (X_Int × (X_Int × X_errorAddressString))) (x7 : (Int) × (X_Int × (X_Int × X_errorAddressString))) (x9 : (Int) × (X_Int × (X_Int × X_errorAddressString))) (x10 : Bool) : f_law7_InlineNumbersMatchOperators.b_g7 c5 c6 c7 c9 c10 c11 c12 c13 c8 r_g10 x0 x1 x6 x7 x9 x10 = f_law7_InlineNumbersMatchOperators.c_g7 c5 c6 c7 c9 c10 c11 c12 c13 c8 r_g10 x0 x1 x6 x7 x9 x10 := by
  simp only [f_law7_InlineNumbersMatchOperators.b_g7, f_law7_InlineNumbersMatchOperators.c_g7, List.take_length, take_one, Nat.zero_add, Int.toNat_natCast, Int.toNat_zero, List.drop_zero, List.append_eq, Nat.le_refl, Int.le_refl, true_and, and_true, zero_le_one, if_true, prod_eta, Int.natCast_zero]
def f_law7_InlineNumbersMatchOperators.c_g10 (c5 : f_ref7_ValueOk.E) (c6 : f_inline_Binary.E) (c7 : f_law7_small.E) (c9 : f_ref7_SameValue.E) (c10 : f_ref7_Arithmetic.E) (c11 : f_inline_Compare.E) (c12 : f_ref7_Number.E) (c13 : f_ref3_Ratio_Order.E) (c8 : f_law7_half.E) (r_g15 : (Int) → X_Value → X_Value → (Bool) → Option (Bool)) (x1 : Int) (x6 : (Int) × (X_Int × (X_Int × X_errorAddressString))) (x7 : (Int) × (X_Int × (X_Int × X_errorAddressString))) : Option (Bool) :=
  (c11 (x1, (x6, x7))).bind fun y9 =>
    (c7 x6).bind fun y10 =>
      bif y10 then
        (c7 x7).bind fun y11 =>
          bif y11 then
            bif (y9.2 != (decide (x1 ≤ (6 : Int)))) then
              some false
            else
              bif !y9.2 then
                some (!y9.1)
              else
                r_g15 x1 x6 x7 y9.1
          else
            bif (y9.2 != false) then
              some false
            else
              bif !y9.2 then
                some (!y9.1)
              else
                r_g15 x1 x6 x7 y9.1
      else
        bif (y9.2 != false) then
          some false
        else
          bif !y9.2 then
            some (!y9.1)
          else
            r_g15 x1 x6 x7 y9.1
theorem f_law7_InlineNumbersMatchOperators.q_g10 (c5 : f_ref7_ValueOk.E) (c6 : f_inline_Binary.E) (c7 : f_law7_small.E) (c9 : f_ref7_SameValue.E) (c10 : f_ref7_Arithmetic.E) (c11 : f_inline_Compare.E) (c12 : f_ref7_Number.E) (c13 : f_ref3_Ratio_Order.E) (c8 : f_law7_half.E) (r_g15 : (Int) → X_Value → X_Value → (Bool) → Option (Bool)) (x1 : Int) (x6 : (Int) × (X_Int × (X_Int × X_errorAddressString))) (x7 : (Int) × (X_Int × (X_Int × X_errorAddressString))) : f_law7_InlineNumbersMatchOperators.b_g10 c5 c6 c7 c9 c10 c11 c12 c13 c8 r_g15 x1 x6 x7 = f_law7_InlineNumbersMatchOperators.c_g10 c5 c6 c7 c9 c10 c11 c12 c13 c8 r_g15 x1 x6 x7 := by
  simp only [f_law7_InlineNumbersMatchOperators.b_g10, f_law7_InlineNumbersMatchOperators.c_g10, List.take_length, take_one, Nat.zero_add, Int.toNat_natCast, Int.toNat_zero, List.drop_zero, List.append_eq, Nat.le_refl, Int.le_refl, true_and, and_true, zero_le_one, if_true, prod_eta, Int.natCast_zero]
def f_law7_InlineNumbersMatchOperators.c_g15 (c5 : f_ref7_ValueOk.E) (c6 : f_inline_Binary.E) (c7 : f_law7_small.E) (c9 : f_ref7_SameValue.E) (c10 : f_ref7_Arithmetic.E) (c11 : f_inline_Compare.E) (c12 : f_ref7_Number.E) (c13 : f_ref3_Ratio_Order.E) (c8 : f_law7_half.E)  (x1 : Int) (x6 : (Int) × (X_Int × (X_Int × X_errorAddressString))) (x7 : (Int) × (X_Int × (X_Int × X_errorAddressString))) (x14 : Bool) : Option (Bool) :=
  (c12 x6).bind fun y12 =>
    (c12 x7).bind fun y13 =>
      (c13 (y12, y13)).bind fun y14 =>
        if 0 ≤ (IntKind.i64.wrap (x1 - (1 : Int))) ∧ (IntKind.i64.wrap (x1 - (1 : Int))) < ((6 : Nat) : Int) then
          some (x14 == (List.getD ([(decide (y14 < (0 : Int))), (decide (y14 ≤ (0 : Int))), (decide (y14 > (0 : Int))), (decide (y14 ≥ (0 : Int))), (y14 == (0 : Int)), (y14 != (0 : Int))] : List Bool) (0 + Int.toNat (IntKind.i64.wrap (x1 - (1 : Int)))) false))
        else none
theorem f_law7_InlineNumbersMatchOperators.q_g15 (c5 : f_ref7_ValueOk.E) (c6 : f_inline_Binary.E) (c7 : f_law7_small.E) (c9 : f_ref7_SameValue.E) (c10 : f_ref7_Arithmetic.E) (c11 : f_inline_Compare.E) (c12 : f_ref7_Number.E) (c13 : f_ref3_Ratio_Order.E) (c8 : f_law7_half.E)  (x1 : Int) (x6 : (Int) × (X_Int × (X_Int × X_errorAddressString))) (x7 : (Int) × (X_Int × (X_Int × X_errorAddressString))) (x14 : Bool) : f_law7_InlineNumbersMatchOperators.b_g15 c5 c6 c7 c9 c10 c11 c12 c13 c8 x1 x6 x7 x14 = f_law7_InlineNumbersMatchOperators.c_g15 c5 c6 c7 c9 c10 c11 c12 c13 c8 x1 x6 x7 x14 := by
  simp only [f_law7_InlineNumbersMatchOperators.b_g15, f_law7_InlineNumbersMatchOperators.c_g15, List.take_length, take_one, Nat.zero_add, Int.toNat_natCast, Int.toNat_zero, List.drop_zero, List.append_eq, Nat.le_refl, Int.le_refl, true_and, and_true, zero_le_one, if_true, prod_eta, Int.natCast_zero]
def f_law7_InlineNumbersMatchOperators.g15 (c5 : f_ref7_ValueOk.E) (c6 : f_inline_Binary.E) (c7 : f_law7_small.E) (c9 : f_ref7_SameValue.E) (c10 : f_ref7_Arithmetic.E) (c11 : f_inline_Compare.E) (c12 : f_ref7_Number.E) (c13 : f_ref3_Ratio_Order.E) (c8 : f_law7_half.E) (k : Nat)  (x1 : Int) (x6 : (Int) × (X_Int × (X_Int × X_errorAddressString))) (x7 : (Int) × (X_Int × (X_Int × X_errorAddressString))) (x14 : Bool) : Option (Bool) := gate k (f_law7_InlineNumbersMatchOperators.b_g15 c5 c6 c7 c9 c10 c11 c12 c13 c8  x1 x6 x7 x14)
def f_law7_InlineNumbersMatchOperators.g10 (c5 : f_ref7_ValueOk.E) (c6 : f_inline_Binary.E) (c7 : f_law7_small.E) (c9 : f_ref7_SameValue.E) (c10 : f_ref7_Arithmetic.E) (c11 : f_inline_Compare.E) (c12 : f_ref7_Number.E) (c13 : f_ref3_Ratio_Order.E) (c8 : f_law7_half.E) (k : Nat)  (x1 : Int) (x6 : (Int) × (X_Int × (X_Int × X_errorAddressString))) (x7 : (Int) × (X_Int × (X_Int × X_errorAddressString))) : Option (Bool) := gate k (f_law7_InlineNumbersMatchOperators.b_g10 c5 c6 c7 c9 c10 c11 c12 c13 c8 (f_law7_InlineNumbersMatchOperators.g15 c5 c6 c7 c9 c10 c11 c12 c13 c8 k ) x1 x6 x7)
def f_law7_InlineNumbersMatchOperators.g7 (c5 : f_ref7_ValueOk.E) (c6 : f_inline_Binary.E) (c7 : f_law7_small.E) (c9 : f_ref7_SameValue.E) (c10 : f_ref7_Arithmetic.E) (c11 : f_inline_Compare.E) (c12 : f_ref7_Number.E) (c13 : f_ref3_Ratio_Order.E) (c8 : f_law7_half.E) (k : Nat)  (x0 : Int) (x1 : Int) (x6 : (Int) × (X_Int × (X_Int × X_errorAddressString))) (x7 : (Int) × (X_Int × (X_Int × X_errorAddressString))) (x9 : (Int) × (X_Int × (X_Int × X_errorAddressString))) (x10 : Bool) : Option (Bool) := gate k (f_law7_InlineNumbersMatchOperators.b_g7 c5 c6 c7 c9 c10 c11 c12 c13 c8 (f_law7_InlineNumbersMatchOperators.g10 c5 c6 c7 c9 c10 c11 c12 c13 c8 k ) x0 x1 x6 x7 x9 x10)
def f_law7_InlineNumbersMatchOperators.g5 (c5 : f_ref7_ValueOk.E) (c6 : f_inline_Binary.E) (c7 : f_law7_small.E) (c9 : f_ref7_SameValue.E) (c10 : f_ref7_Arithmetic.E) (c11 : f_inline_Compare.E) (c12 : f_ref7_Number.E) (c13 : f_ref3_Ratio_Order.E) (c8 : f_law7_half.E) (k : Nat)  (x0 : Int) (x1 : Int) (x6 : (Int) × (X_Int × (X_Int × X_errorAddressString))) (x7 : (Int) × (X_Int × (X_Int × X_errorAddressString))) (x9 : (Int) × (X_Int × (X_Int × X_errorAddressString))) (x10 : Bool) (x11 : Bool) : Option (Bool) := gate k (f_law7_InlineNumbersMatchOperators.b_g5 c5 c6 c7 c9 c10 c11 c12 c13 c8 (f_law7_InlineNumbersMatchOperators.g7 c5 c6 c7 c9 c10 c11 c12 c13 c8 k ) x0 x1 x6 x7 x9 x10 x11)
def f_law7_InlineNumbersMatchOperators.f (c5 : f_ref7_ValueOk.E) (c6 : f_inline_Binary.E) (c7 : f_law7_small.E) (c9 : f_ref7_SameValue.E) (c10 : f_ref7_Arithmetic.E) (c11 : f_inline_Compare.E) (c12 : f_ref7_Number.E) (c13 : f_ref3_Ratio_Order.E) (c8 : f_law7_half.E) (k : Nat) (a0 : Int) (a1 : Int) (a2 : (Int) × (X_Int × (X_Int × X_errorAddressString))) (a3 : (Int) × (X_Int × (X_Int × X_errorAddressString))) : Option (Bool) := f_law7_InlineNumbersMatchOperators.b c5 c6 c7 c9 c10 c11 c12 c13 c8 (f_law7_InlineNumbersMatchOperators.g5 c5 c6 c7 c9 c10 c11 c12 c13 c8 k) a0 a1 a2 a3
noncomputable def f_law7_InlineNumbersMatchOperators.M_g5 (c5 : f_ref7_ValueOk.E) (c6 : f_inline_Binary.E) (c7 : f_law7_small.E) (c9 : f_ref7_SameValue.E) (c10 : f_ref7_Arithmetic.E) (c11 : f_inline_Compare.E) (c12 : f_ref7_Number.E) (c13 : f_ref3_Ratio_Order.E) (c8 : f_law7_half.E) (k : Nat)  (s : St) : Option (Bool) := atGate (f_law7_InlineNumbersMatchOperators.C c5 c6 c7 c9 c10 c11 c12 c13 c8) k [1, 1, 1, 1, 0, 0] [] f_law7_InlineNumbersMatchOperators.code (f_law7_InlineNumbersMatchOperators.fin c5 c6 c7 c9 c10 c11 c12 c13 c8) s
noncomputable def f_law7_InlineNumbersMatchOperators.fr_g5 (x0 : Int) (x1 : Int) (x6 : (Int) × (X_Int × (X_Int × X_errorAddressString))) (x7 : (Int) × (X_Int × (X_Int × X_errorAddressString))) (x9 : (Int) × (X_Int × (X_Int × X_errorAddressString))) (x10 : Bool) (x11 : Bool) : St := ⟨((((((((List.replicate 163 V.un).set 0 (V.dat (.int .i64) x0)).set 1 (V.dat (.int .i64) x1)).set 6 (V.bp 600006 0 [])).set 7 (V.bp 600007 0 [])).set 9 (V.bp 600009 0 [])).set 10 (V.dat .bool x10)).set 11 (V.dat .bool x11)), [⟨600009, 0, .box (V.dat Y_Value x9)⟩, ⟨600007, 0, .box (V.dat Y_Value x7)⟩, ⟨600006, 0, .box (V.dat Y_Value x6)⟩]⟩
noncomputable def f_law7_InlineNumbersMatchOperators.M_g7 (c5 : f_ref7_ValueOk.E) (c6 : f_inline_Binary.E) (c7 : f_law7_small.E) (c9 : f_ref7_SameValue.E) (c10 : f_ref7_Arithmetic.E) (c11 : f_inline_Compare.E) (c12 : f_ref7_Number.E) (c13 : f_ref3_Ratio_Order.E) (c8 : f_law7_half.E) (k : Nat)  (s : St) : Option (Bool) := atGate (f_law7_InlineNumbersMatchOperators.C c5 c6 c7 c9 c10 c11 c12 c13 c8) k [1, 1, 1, 1, 1, 0, 0] [] f_law7_InlineNumbersMatchOperators.code (f_law7_InlineNumbersMatchOperators.fin c5 c6 c7 c9 c10 c11 c12 c13 c8) s
noncomputable def f_law7_InlineNumbersMatchOperators.fr_g7 (x0 : Int) (x1 : Int) (x6 : (Int) × (X_Int × (X_Int × X_errorAddressString))) (x7 : (Int) × (X_Int × (X_Int × X_errorAddressString))) (x9 : (Int) × (X_Int × (X_Int × X_errorAddressString))) (x10 : Bool) : St := ⟨(((((((List.replicate 163 V.un).set 0 (V.dat (.int .i64) x0)).set 1 (V.dat (.int .i64) x1)).set 6 (V.bp 600006 0 [])).set 7 (V.bp 600007 0 [])).set 9 (V.bp 600009 0 [])).set 10 (V.dat .bool x10)), [⟨600009, 0, .box (V.dat Y_Value x9)⟩, ⟨600007, 0, .box (V.dat Y_Value x7)⟩, ⟨600006, 0, .box (V.dat Y_Value x6)⟩]⟩
noncomputable def f_law7_InlineNumbersMatchOperators.M_g10 (c5 : f_ref7_ValueOk.E) (c6 : f_inline_Binary.E) (c7 : f_law7_small.E) (c9 : f_ref7_SameValue.E) (c10 : f_ref7_Arithmetic.E) (c11 : f_inline_Compare.E) (c12 : f_ref7_Number.E) (c13 : f_ref3_Ratio_Order.E) (c8 : f_law7_half.E) (k : Nat)  (s : St) : Option (Bool) := atGate (f_law7_InlineNumbersMatchOperators.C c5 c6 c7 c9 c10 c11 c12 c13 c8) k [1, 1, 1, 1, 1, 1, 0] [] f_law7_InlineNumbersMatchOperators.code (f_law7_InlineNumbersMatchOperators.fin c5 c6 c7 c9 c10 c11 c12 c13 c8) s
noncomputable def f_law7_InlineNumbersMatchOperators.fr_g10 (x1 : Int) (x6 : (Int) × (X_Int × (X_Int × X_errorAddressString))) (x7 : (Int) × (X_Int × (X_Int × X_errorAddressString))) : St := ⟨((((List.replicate 163 V.un).set 1 (V.dat (.int .i64) x1)).set 6 (V.bp 600006 0 [])).set 7 (V.bp 600007 0 [])), [⟨600007, 0, .box (V.dat Y_Value x7)⟩, ⟨600006, 0, .box (V.dat Y_Value x6)⟩]⟩
noncomputable def f_law7_InlineNumbersMatchOperators.M_g15 (c5 : f_ref7_ValueOk.E) (c6 : f_inline_Binary.E) (c7 : f_law7_small.E) (c9 : f_ref7_SameValue.E) (c10 : f_ref7_Arithmetic.E) (c11 : f_inline_Compare.E) (c12 : f_ref7_Number.E) (c13 : f_ref3_Ratio_Order.E) (c8 : f_law7_half.E) (k : Nat)  (s : St) : Option (Bool) := atGate (f_law7_InlineNumbersMatchOperators.C c5 c6 c7 c9 c10 c11 c12 c13 c8) k [1, 1, 1, 1, 1, 1, 1, 1, 1, 0] [] f_law7_InlineNumbersMatchOperators.code (f_law7_InlineNumbersMatchOperators.fin c5 c6 c7 c9 c10 c11 c12 c13 c8) s
noncomputable def f_law7_InlineNumbersMatchOperators.fr_g15 (x1 : Int) (x6 : (Int) × (X_Int × (X_Int × X_errorAddressString))) (x7 : (Int) × (X_Int × (X_Int × X_errorAddressString))) (x14 : Bool) : St := ⟨(((((List.replicate 163 V.un).set 1 (V.dat (.int .i64) x1)).set 6 (V.bp 600006 0 [])).set 7 (V.bp 600007 0 [])).set 14 (V.dat .bool x14)), [⟨600007, 0, .box (V.dat Y_Value x7)⟩, ⟨600006, 0, .box (V.dat Y_Value x6)⟩]⟩
theorem f_law7_InlineNumbersMatchOperators.r (c5 : f_ref7_ValueOk.E) (c6 : f_inline_Binary.E) (c7 : f_law7_small.E) (c9 : f_ref7_SameValue.E) (c10 : f_ref7_Arithmetic.E) (c11 : f_inline_Compare.E) (c12 : f_ref7_Number.E) (c13 : f_ref3_Ratio_Order.E) (c8 : f_law7_half.E) (k : Nat) (a0 : Int) (a1 : Int) (a2 : (Int) × (X_Int × (X_Int × X_errorAddressString))) (a3 : (Int) × (X_Int × (X_Int × X_errorAddressString))) : fn (f_law7_InlineNumbersMatchOperators.C c5 c6 c7 c9 c10 c11 c12 c13 c8) k Tryd.f3 f_law7_InlineNumbersMatchOperators.A f_law7_InlineNumbersMatchOperators.R (a0, (a1, (a2, a3))) = f_law7_InlineNumbersMatchOperators.b c5 c6 c7 c9 c10 c11 c12 c13 c8 (fun x0 x1 x6 x7 x9 x10 x11 => f_law7_InlineNumbersMatchOperators.M_g5 c5 c6 c7 c9 c10 c11 c12 c13 c8 k   (f_law7_InlineNumbersMatchOperators.fr_g5 x0 x1 x6 x7 x9 x10 x11)) a0 a1 a2 a3 := by kernel_rfl
theorem f_law7_InlineNumbersMatchOperators.r_g5 (c5 : f_ref7_ValueOk.E) (c6 : f_inline_Binary.E) (c7 : f_law7_small.E) (c9 : f_ref7_SameValue.E) (c10 : f_ref7_Arithmetic.E) (c11 : f_inline_Compare.E) (c12 : f_ref7_Number.E) (c13 : f_ref3_Ratio_Order.E) (c8 : f_law7_half.E) (k : Nat)  (x0 : Int) (x1 : Int) (x6 : (Int) × (X_Int × (X_Int × X_errorAddressString))) (x7 : (Int) × (X_Int × (X_Int × X_errorAddressString))) (x9 : (Int) × (X_Int × (X_Int × X_errorAddressString))) (x10 : Bool) (x11 : Bool) : f_law7_InlineNumbersMatchOperators.M_g5 c5 c6 c7 c9 c10 c11 c12 c13 c8 k  (f_law7_InlineNumbersMatchOperators.fr_g5 x0 x1 x6 x7 x9 x10 x11) = gate k (f_law7_InlineNumbersMatchOperators.b_g5 c5 c6 c7 c9 c10 c11 c12 c13 c8 (fun x0 x1 x6 x7 x9 x10 => f_law7_InlineNumbersMatchOperators.M_g7 c5 c6 c7 c9 c10 c11 c12 c13 c8 k   (f_law7_InlineNumbersMatchOperators.fr_g7 x0 x1 x6 x7 x9 x10)) x0 x1 x6 x7 x9 x10 x11) := by kernel_rfl
theorem f_law7_InlineNumbersMatchOperators.r_g7 (c5 : f_ref7_ValueOk.E) (c6 : f_inline_Binary.E) (c7 : f_law7_small.E) (c9 : f_ref7_SameValue.E) (c10 : f_ref7_Arithmetic.E) (c11 : f_inline_Compare.E) (c12 : f_ref7_Number.E) (c13 : f_ref3_Ratio_Order.E) (c8 : f_law7_half.E) (k : Nat)  (x0 : Int) (x1 : Int) (x6 : (Int) × (X_Int × (X_Int × X_errorAddressString))) (x7 : (Int) × (X_Int × (X_Int × X_errorAddressString))) (x9 : (Int) × (X_Int × (X_Int × X_errorAddressString))) (x10 : Bool) : f_law7_InlineNumbersMatchOperators.M_g7 c5 c6 c7 c9 c10 c11 c12 c13 c8 k  (f_law7_InlineNumbersMatchOperators.fr_g7 x0 x1 x6 x7 x9 x10) = gate k (f_law7_InlineNumbersMatchOperators.b_g7 c5 c6 c7 c9 c10 c11 c12 c13 c8 (fun x1 x6 x7 => f_law7_InlineNumbersMatchOperators.M_g10 c5 c6 c7 c9 c10 c11 c12 c13 c8 k   (f_law7_InlineNumbersMatchOperators.fr_g10 x1 x6 x7)) x0 x1 x6 x7 x9 x10) := by kernel_rfl
theorem f_law7_InlineNumbersMatchOperators.r_g10 (c5 : f_ref7_ValueOk.E) (c6 : f_inline_Binary.E) (c7 : f_law7_small.E) (c9 : f_ref7_SameValue.E) (c10 : f_ref7_Arithmetic.E) (c11 : f_inline_Compare.E) (c12 : f_ref7_Number.E) (c13 : f_ref3_Ratio_Order.E) (c8 : f_law7_half.E) (k : Nat)  (x1 : Int) (x6 : (Int) × (X_Int × (X_Int × X_errorAddressString))) (x7 : (Int) × (X_Int × (X_Int × X_errorAddressString))) : f_law7_InlineNumbersMatchOperators.M_g10 c5 c6 c7 c9 c10 c11 c12 c13 c8 k  (f_law7_InlineNumbersMatchOperators.fr_g10 x1 x6 x7) = gate k (f_law7_InlineNumbersMatchOperators.b_g10 c5 c6 c7 c9 c10 c11 c12 c13 c8 (fun x1 x6 x7 x14 => f_law7_InlineNumbersMatchOperators.M_g15 c5 c6 c7 c9 c10 c11 c12 c13 c8 k   (f_law7_InlineNumbersMatchOperators.fr_g15 x1 x6 x7 x14)) x1 x6 x7) := by kernel_rfl
theorem f_law7_InlineNumbersMatchOperators.r_g15 (c5 : f_ref7_ValueOk.E) (c6 : f_inline_Binary.E) (c7 : f_law7_small.E) (c9 : f_ref7_SameValue.E) (c10 : f_ref7_Arithmetic.E) (c11 : f_inline_Compare.E) (c12 : f_ref7_Number.E) (c13 : f_ref3_Ratio_Order.E) (c8 : f_law7_half.E) (k : Nat)  (x1 : Int) (x6 : (Int) × (X_Int × (X_Int × X_errorAddressString))) (x7 : (Int) × (X_Int × (X_Int × X_errorAddressString))) (x14 : Bool) : f_law7_InlineNumbersMatchOperators.M_g15 c5 c6 c7 c9 c10 c11 c12 c13 c8 k  (f_law7_InlineNumbersMatchOperators.fr_g15 x1 x6 x7 x14) = gate k (f_law7_InlineNumbersMatchOperators.b_g15 c5 c6 c7 c9 c10 c11 c12 c13 c8  x1 x6 x7 x14) := by kernel_rfl
theorem f_law7_InlineNumbersMatchOperators.e_g15 (c5 : f_ref7_ValueOk.E) (c6 : f_inline_Binary.E) (c7 : f_law7_small.E) (c9 : f_ref7_SameValue.E) (c10 : f_ref7_Arithmetic.E) (c11 : f_inline_Compare.E) (c12 : f_ref7_Number.E) (c13 : f_ref3_Ratio_Order.E) (c8 : f_law7_half.E) (k : Nat)  (x1 : Int) (x6 : (Int) × (X_Int × (X_Int × X_errorAddressString))) (x7 : (Int) × (X_Int × (X_Int × X_errorAddressString))) (x14 : Bool) : f_law7_InlineNumbersMatchOperators.M_g15 c5 c6 c7 c9 c10 c11 c12 c13 c8 k  (f_law7_InlineNumbersMatchOperators.fr_g15 x1 x6 x7 x14) = f_law7_InlineNumbersMatchOperators.g15 c5 c6 c7 c9 c10 c11 c12 c13 c8 k  x1 x6 x7 x14 := by
  rw [f_law7_InlineNumbersMatchOperators.r_g15]
  rfl
theorem f_law7_InlineNumbersMatchOperators.e_g10 (c5 : f_ref7_ValueOk.E) (c6 : f_inline_Binary.E) (c7 : f_law7_small.E) (c9 : f_ref7_SameValue.E) (c10 : f_ref7_Arithmetic.E) (c11 : f_inline_Compare.E) (c12 : f_ref7_Number.E) (c13 : f_ref3_Ratio_Order.E) (c8 : f_law7_half.E) (k : Nat)  (x1 : Int) (x6 : (Int) × (X_Int × (X_Int × X_errorAddressString))) (x7 : (Int) × (X_Int × (X_Int × X_errorAddressString))) : f_law7_InlineNumbersMatchOperators.M_g10 c5 c6 c7 c9 c10 c11 c12 c13 c8 k  (f_law7_InlineNumbersMatchOperators.fr_g10 x1 x6 x7) = f_law7_InlineNumbersMatchOperators.g10 c5 c6 c7 c9 c10 c11 c12 c13 c8 k  x1 x6 x7 := by
  rw [f_law7_InlineNumbersMatchOperators.r_g10]
  simp only [f_law7_InlineNumbersMatchOperators.e_g15]
  rfl
theorem f_law7_InlineNumbersMatchOperators.e_g7 (c5 : f_ref7_ValueOk.E) (c6 : f_inline_Binary.E) (c7 : f_law7_small.E) (c9 : f_ref7_SameValue.E) (c10 : f_ref7_Arithmetic.E) (c11 : f_inline_Compare.E) (c12 : f_ref7_Number.E) (c13 : f_ref3_Ratio_Order.E) (c8 : f_law7_half.E) (k : Nat)  (x0 : Int) (x1 : Int) (x6 : (Int) × (X_Int × (X_Int × X_errorAddressString))) (x7 : (Int) × (X_Int × (X_Int × X_errorAddressString))) (x9 : (Int) × (X_Int × (X_Int × X_errorAddressString))) (x10 : Bool) : f_law7_InlineNumbersMatchOperators.M_g7 c5 c6 c7 c9 c10 c11 c12 c13 c8 k  (f_law7_InlineNumbersMatchOperators.fr_g7 x0 x1 x6 x7 x9 x10) = f_law7_InlineNumbersMatchOperators.g7 c5 c6 c7 c9 c10 c11 c12 c13 c8 k  x0 x1 x6 x7 x9 x10 := by
  rw [f_law7_InlineNumbersMatchOperators.r_g7]
  simp only [f_law7_InlineNumbersMatchOperators.e_g10]
  rfl
theorem f_law7_InlineNumbersMatchOperators.e_g5 (c5 : f_ref7_ValueOk.E) (c6 : f_inline_Binary.E) (c7 : f_law7_small.E) (c9 : f_ref7_SameValue.E) (c10 : f_ref7_Arithmetic.E) (c11 : f_inline_Compare.E) (c12 : f_ref7_Number.E) (c13 : f_ref3_Ratio_Order.E) (c8 : f_law7_half.E) (k : Nat)  (x0 : Int) (x1 : Int) (x6 : (Int) × (X_Int × (X_Int × X_errorAddressString))) (x7 : (Int) × (X_Int × (X_Int × X_errorAddressString))) (x9 : (Int) × (X_Int × (X_Int × X_errorAddressString))) (x10 : Bool) (x11 : Bool) : f_law7_InlineNumbersMatchOperators.M_g5 c5 c6 c7 c9 c10 c11 c12 c13 c8 k  (f_law7_InlineNumbersMatchOperators.fr_g5 x0 x1 x6 x7 x9 x10 x11) = f_law7_InlineNumbersMatchOperators.g5 c5 c6 c7 c9 c10 c11 c12 c13 c8 k  x0 x1 x6 x7 x9 x10 x11 := by
  rw [f_law7_InlineNumbersMatchOperators.r_g5]
  simp only [f_law7_InlineNumbersMatchOperators.e_g7]
  rfl
theorem f_law7_InlineNumbersMatchOperators.e (c5 : f_ref7_ValueOk.E) (c6 : f_inline_Binary.E) (c7 : f_law7_small.E) (c9 : f_ref7_SameValue.E) (c10 : f_ref7_Arithmetic.E) (c11 : f_inline_Compare.E) (c12 : f_ref7_Number.E) (c13 : f_ref3_Ratio_Order.E) (c8 : f_law7_half.E) (k : Nat) (a0 : Int) (a1 : Int) (a2 : (Int) × (X_Int × (X_Int × X_errorAddressString))) (a3 : (Int) × (X_Int × (X_Int × X_errorAddressString))) : fn (f_law7_InlineNumbersMatchOperators.C c5 c6 c7 c9 c10 c11 c12 c13 c8) k Tryd.f3 f_law7_InlineNumbersMatchOperators.A f_law7_InlineNumbersMatchOperators.R (a0, (a1, (a2, a3))) = f_law7_InlineNumbersMatchOperators.f c5 c6 c7 c9 c10 c11 c12 c13 c8 k a0 a1 a2 a3 := by
  rw [f_law7_InlineNumbersMatchOperators.r]
  simp only [f_law7_InlineNumbersMatchOperators.e_g5]
  rfl
theorem f_law7_InlineNumbersMatchOperators.ty (c5 : f_ref7_ValueOk.E) (c6 : f_inline_Binary.E) (c7 : f_law7_small.E) (c9 : f_ref7_SameValue.E) (c10 : f_ref7_Arithmetic.E) (c11 : f_inline_Compare.E) (c12 : f_ref7_Number.E) (c13 : f_ref3_Ratio_Order.E) (c8 : f_law7_half.E) : TyOk Tryd.prog (f_law7_InlineNumbersMatchOperators.C c5 c6 c7 c9 c10 c11 c12 c13 c8) := tyOk_of (by kernel_rfl)
def f_law7_InlineNumbersMatchOperators.u (k : Nat) : f_law7_InlineNumbersMatchOperators.E := fun y => f_law7_InlineNumbersMatchOperators.f (f_ref7_ValueOk.u k) (f_inline_Binary.u k) (f_law7_small.u k) (f_ref7_SameValue.u k) (f_ref7_Arithmetic.u k) (f_inline_Compare.u k) (f_ref7_Number.u k) (f_ref3_Ratio_Order.u k) (f_law7_half.u k) k y.1 y.2.1 y.2.2.1 y.2.2.2
theorem f_law7_InlineNumbersMatchOperators.sound (k : Nat) : Sound Tryd.prog ⟨3, f_law7_InlineNumbersMatchOperators.A, f_law7_InlineNumbersMatchOperators.R, f_law7_InlineNumbersMatchOperators.u k⟩ := by
  have h := fn_sound (k := k) («as» := f_law7_InlineNumbersMatchOperators.A) (rs := f_law7_InlineNumbersMatchOperators.R) (f_law7_InlineNumbersMatchOperators.ty (f_ref7_ValueOk.u k) (f_inline_Binary.u k) (f_law7_small.u k) (f_ref7_SameValue.u k) (f_ref7_Arithmetic.u k) (f_inline_Compare.u k) (f_ref7_Number.u k) (f_ref3_Ratio_Order.u k) (f_law7_half.u k)) (fun E h => by
    simp only [f_law7_InlineNumbersMatchOperators.C, List.mem_cons, List.not_mem_nil, or_false] at h
    rcases h with rfl | rfl | rfl | rfl | rfl | rfl | rfl | rfl | rfl
    · exact f_ref7_ValueOk.sound k
    · exact f_inline_Binary.sound k
    · exact f_law7_small.sound k
    · exact f_ref7_SameValue.sound k
    · exact f_ref7_Arithmetic.sound k
    · exact f_inline_Compare.sound k
    · exact f_ref7_Number.sound k
    · exact f_ref3_Ratio_Order.sound k
    · exact f_law7_half.sound k) mixed Tryd.func3 (by kernel_rfl) (by kernel_rfl)
  have e : fn (f_law7_InlineNumbersMatchOperators.C (f_ref7_ValueOk.u k) (f_inline_Binary.u k) (f_law7_small.u k) (f_ref7_SameValue.u k) (f_ref7_Arithmetic.u k) (f_inline_Compare.u k) (f_ref7_Number.u k) (f_ref3_Ratio_Order.u k) (f_law7_half.u k)) k Tryd.f3 f_law7_InlineNumbersMatchOperators.A f_law7_InlineNumbersMatchOperators.R = f_law7_InlineNumbersMatchOperators.u k := by
    funext y
    exact f_law7_InlineNumbersMatchOperators.e (f_ref7_ValueOk.u k) (f_inline_Binary.u k) (f_law7_small.u k) (f_ref7_SameValue.u k) (f_ref7_Arithmetic.u k) (f_inline_Compare.u k) (f_ref7_Number.u k) (f_ref3_Ratio_Order.u k) (f_law7_half.u k) k y.1 y.2.1 y.2.2.1 y.2.2.2
  rw [e] at h
  exact h
end
end Go.Ab
