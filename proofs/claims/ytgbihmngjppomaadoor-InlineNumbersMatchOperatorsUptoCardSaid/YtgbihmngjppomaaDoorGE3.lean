/- A part of the proof: GE3. -/
import Derived.Test.YtgbihmngjppomaaDoorFTy
import Derived.Test.YtgbihmngjppomaaDoorGE1
import Derived.Test.YtgbihmngjppomaaDoorGE2
namespace Go.Ab
set_option linter.unusedVariables false
set_option linter.unusedSimpArgs false
set_option maxRecDepth 100000
noncomputable section
open Go.Proofs
/-! ### brindlewood/brindlewoodref7.bits: f40 -/
abbrev f_ref7_bits.A : List Sh := [(.d (.int .i64)), (.d (.pair .bool (.sl 3 (.int .i64)))), (.d (.pair .bool (.sl 3 (.int .i64))))]
abbrev f_ref7_bits.R : List Sh := [(.d Y_Step)]
abbrev f_ref7_bits.E : Type := ((Int) × (X_Int × X_Int)) → Option X_Step
def f_ref7_bits.C (c73 : f_ref3_Ones.E) (c74 : f_ref7_places.E) (c76 : f_ref7_fromPlaces.E) (c75 : f_ref7_integer.E) (c69 : f_ref7_Negative.E) (c34 : f_ref7_Raise.E) (c33 : f_ref7_Zero.E) (c77 : f_ref7_N.E) (c63 : f_ref7_Result.E) (c70 : f_ref3_Number.E) (c44 : f_ref3_Int_Order.E) (c62 : f_ref7_TooLarge.E) (c71 : f_ref7_Clamp.E) (c72 : f_ref3_Int_Raised.E) (c43 : f_ref3_Int_Times.E) (c68 : f_ref3_Int_Floor.E) : Ctx := { ty := [(3, (.int .i64)), (4, .bool), (33, Y_Step), (39, (.sl 3 (.int .i64))), (41, (.pair .bool (.sl 3 (.int .i64)))), (46, (.sl 4 .bool))], nf := [(41, 2)], by_ := [(3, 8), (4, 1)], env := [⟨73, f_ref3_Ones.A, f_ref3_Ones.R, c73⟩, ⟨74, f_ref7_places.A, f_ref7_places.R, c74⟩, ⟨76, f_ref7_fromPlaces.A, f_ref7_fromPlaces.R, c76⟩, ⟨75, f_ref7_integer.A, f_ref7_integer.R, c75⟩, ⟨69, f_ref7_Negative.A, f_ref7_Negative.R, c69⟩, ⟨34, f_ref7_Raise.A, f_ref7_Raise.R, c34⟩, ⟨33, f_ref7_Zero.A, f_ref7_Zero.R, c33⟩, ⟨77, f_ref7_N.A, f_ref7_N.R, c77⟩, ⟨63, f_ref7_Result.A, f_ref7_Result.R, c63⟩, ⟨70, f_ref3_Number.A, f_ref3_Number.R, c70⟩, ⟨44, f_ref3_Int_Order.A, f_ref3_Int_Order.R, c44⟩, ⟨62, f_ref7_TooLarge.A, f_ref7_TooLarge.R, c62⟩, ⟨71, f_ref7_Clamp.A, f_ref7_Clamp.R, c71⟩, ⟨72, f_ref3_Int_Raised.A, f_ref3_Int_Raised.R, c72⟩, ⟨43, f_ref3_Int_Times.A, f_ref3_Int_Times.R, c43⟩, ⟨68, f_ref3_Int_Floor.A, f_ref3_Int_Floor.R, c68⟩], spec := [(100002, [.d 0 (.int .i64), .bx 4 600004 (.d (.pair .bool (.sl 3 (.int .i64)))), .bx 5 600005 (.d (.pair .bool (.sl 3 (.int .i64)))), .bx 6 600006 (.pair (.d (.int .i64)) (.pair (.pair (.d (.int .i64)) (.pair (.pair (.d .bool) (.o 61 (.int .u32))) (.pair (.pair (.d .bool) (.o 61 (.int .u32))) (.d (.pair .str (.int .i64)))))) (.pair (.d (.int .i64)) (.pair (.d .str) (.pair (.pair (.d (.int .i64)) (.pair (.pair (.d .bool) (.o 61 (.int .u32))) (.pair (.pair (.d .bool) (.o 61 (.int .u32))) (.d (.pair .str (.int .i64)))))) (.o 26 Y_Value))))))]), (0, [.d 0 (.int .i64), .bx 6 600006 (.pair (.d (.int .i64)) (.pair (.pair (.d (.int .i64)) (.pair (.pair (.d .bool) (.o 61 (.int .u32))) (.pair (.pair (.d .bool) (.o 61 (.int .u32))) (.d (.pair .str (.int .i64)))))) (.pair (.d (.int .i64)) (.pair (.d .str) (.pair (.pair (.d (.int .i64)) (.pair (.pair (.d .bool) (.o 61 (.int .u32))) (.pair (.pair (.d .bool) (.o 61 (.int .u32))) (.d (.pair .str (.int .i64)))))) (.o 26 Y_Value)))))), .o 8 500008 4 .bool, .o 9 500009 4 .bool, .d 42 (.int .i64), .d 43 (.int .i64)]), (100019, [.d 0 (.int .i64), .bx 4 600004 (.d (.pair .bool (.sl 3 (.int .i64)))), .bx 5 600005 (.d (.pair .bool (.sl 3 (.int .i64)))), .bx 6 600006 (.pair (.d (.int .i64)) (.pair (.pair (.d (.int .i64)) (.pair (.pair (.d .bool) (.o 61 (.int .u32))) (.pair (.pair (.d .bool) (.o 61 (.int .u32))) (.d (.pair .str (.int .i64)))))) (.pair (.d (.int .i64)) (.pair (.d .str) (.pair (.pair (.d (.int .i64)) (.pair (.pair (.d .bool) (.o 61 (.int .u32))) (.pair (.pair (.d .bool) (.o 61 (.int .u32))) (.d (.pair .str (.int .i64)))))) (.o 26 Y_Value))))))]), (100021, [.d 0 (.int .i64), .bx 4 600004 (.d (.pair .bool (.sl 3 (.int .i64)))), .bx 5 600005 (.d (.pair .bool (.sl 3 (.int .i64)))), .bx 6 600006 (.pair (.d (.int .i64)) (.pair (.pair (.d (.int .i64)) (.pair (.pair (.d .bool) (.o 61 (.int .u32))) (.pair (.pair (.d .bool) (.o 61 (.int .u32))) (.d (.pair .str (.int .i64)))))) (.pair (.d (.int .i64)) (.pair (.d .str) (.pair (.pair (.d (.int .i64)) (.pair (.pair (.d .bool) (.o 61 (.int .u32))) (.pair (.pair (.d .bool) (.o 61 (.int .u32))) (.d (.pair .str (.int .i64)))))) (.o 26 Y_Value))))))]), (100025, [.bx 4 600004 (.d (.pair .bool (.sl 3 (.int .i64)))), .bx 6 600006 (.pair (.d (.int .i64)) (.pair (.pair (.d (.int .i64)) (.pair (.pair (.d .bool) (.o 61 (.int .u32))) (.pair (.pair (.d .bool) (.o 61 (.int .u32))) (.d (.pair .str (.int .i64)))))) (.pair (.d (.int .i64)) (.pair (.d .str) (.pair (.pair (.d (.int .i64)) (.pair (.pair (.d .bool) (.o 61 (.int .u32))) (.pair (.pair (.d .bool) (.o 61 (.int .u32))) (.d (.pair .str (.int .i64)))))) (.o 26 Y_Value)))))), .bx 11 600011 (.d (.pair .bool (.sl 3 (.int .i64))))]), (100026, [.bx 4 600004 (.d (.pair .bool (.sl 3 (.int .i64)))), .bx 6 600006 (.pair (.d (.int .i64)) (.pair (.pair (.d (.int .i64)) (.pair (.pair (.d .bool) (.o 61 (.int .u32))) (.pair (.pair (.d .bool) (.o 61 (.int .u32))) (.d (.pair .str (.int .i64)))))) (.pair (.d (.int .i64)) (.pair (.d .str) (.pair (.pair (.d (.int .i64)) (.pair (.pair (.d .bool) (.o 61 (.int .u32))) (.pair (.pair (.d .bool) (.o 61 (.int .u32))) (.d (.pair .str (.int .i64)))))) (.o 26 Y_Value)))))), .bx 11 600011 (.d (.pair .bool (.sl 3 (.int .i64))))])] }
noncomputable def f_ref7_bits.code : Code := Func.code Tryd.f40
noncomputable def f_ref7_bits.fin (c73 : f_ref3_Ones.E) (c74 : f_ref7_places.E) (c76 : f_ref7_fromPlaces.E) (c75 : f_ref7_integer.E) (c69 : f_ref7_Negative.E) (c34 : f_ref7_Raise.E) (c33 : f_ref7_Zero.E) (c77 : f_ref7_N.E) (c63 : f_ref7_Result.E) (c70 : f_ref3_Number.E) (c44 : f_ref3_Int_Order.E) (c62 : f_ref7_TooLarge.E) (c71 : f_ref7_Clamp.E) (c72 : f_ref3_Int_Raised.E) (c43 : f_ref3_Int_Times.E) (c68 : f_ref3_Int_Floor.E) := kfin (f_ref7_bits.C c73 c74 c76 c75 c69 c34 c33 c77 c63 c70 c44 c62 c71 c72 c43 c68) Tryd.f40 f_ref7_bits.A f_ref7_bits.R
def f_ref7_bits.b (c73 : f_ref3_Ones.E) (c74 : f_ref7_places.E) (c76 : f_ref7_fromPlaces.E) (c75 : f_ref7_integer.E) (c69 : f_ref7_Negative.E) (c34 : f_ref7_Raise.E) (c33 : f_ref7_Zero.E) (c77 : f_ref7_N.E) (c63 : f_ref7_Result.E) (c70 : f_ref3_Number.E) (c44 : f_ref3_Int_Order.E) (c62 : f_ref7_TooLarge.E) (c71 : f_ref7_Clamp.E) (c72 : f_ref3_Int_Raised.E) (c43 : f_ref3_Int_Times.E) (c68 : f_ref3_Int_Floor.E) (r_g2 : (Int) → X_Int → X_Int → X_Step → Option X_Step) (r_g19 : (Int) → X_Int → X_Int → X_Step → Option X_Step) (a0 : Int) (a1 : (Bool) × (List (Int))) (a2 : (Bool) × (List (Int))) : Option X_Step :=
  bif (a0 == (14 : Int)) then
    r_g2 a0 a1 a2 ((0 : Int), (((0 : Int), ((false, ([] : List (Int))), ((false, ([] : List (Int))), ([], (0 : Int))))), ((0 : Int), ([], (((0 : Int), ((false, ([] : List (Int))), ((false, ([] : List (Int))), ([], (0 : Int))))), ([] : List X_Value))))))
  else
    bif (a0 == (15 : Int)) then
      r_g2 a0 a1 a2 ((0 : Int), (((0 : Int), ((false, ([] : List (Int))), ((false, ([] : List (Int))), ([], (0 : Int))))), ((0 : Int), ([], (((0 : Int), ((false, ([] : List (Int))), ((false, ([] : List (Int))), ([], (0 : Int))))), ([] : List X_Value))))))
    else
      bif (a0 == (16 : Int)) then
        r_g2 a0 a1 a2 ((0 : Int), (((0 : Int), ((false, ([] : List (Int))), ((false, ([] : List (Int))), ([], (0 : Int))))), ((0 : Int), ([], (((0 : Int), ((false, ([] : List (Int))), ((false, ([] : List (Int))), ([], (0 : Int))))), ([] : List X_Value))))))
      else
        (c69 a2).bind fun y7 =>
          bif y7 then
            (c34 ((33 : Int), [110, 101, 103, 97, 116, 105, 118, 101, 32, 115, 104, 105, 102, 116])).bind fun y8 =>
              some y8
          else
            bif (a0 == (12 : Int)) then
              (c33 a1).bind fun y9 =>
                bif y9 then
                  (c77 (0 : Int)).bind fun y10 =>
                    (c63 y10).bind fun y11 =>
                      some y11
                else
                  r_g19 a0 a1 a2 ((0 : Int), (((0 : Int), ((false, ([] : List (Int))), ((false, ([] : List (Int))), ([], (0 : Int))))), ((0 : Int), ([], (((0 : Int), ((false, ([] : List (Int))), ((false, ([] : List (Int))), ([], (0 : Int))))), ([] : List X_Value))))))
            else
              r_g19 a0 a1 a2 ((0 : Int), (((0 : Int), ((false, ([] : List (Int))), ((false, ([] : List (Int))), ([], (0 : Int))))), ((0 : Int), ([], (((0 : Int), ((false, ([] : List (Int))), ((false, ([] : List (Int))), ([], (0 : Int))))), ([] : List X_Value))))))
def f_ref7_bits.b_g2 (c73 : f_ref3_Ones.E) (c74 : f_ref7_places.E) (c76 : f_ref7_fromPlaces.E) (c75 : f_ref7_integer.E) (c69 : f_ref7_Negative.E) (c34 : f_ref7_Raise.E) (c33 : f_ref7_Zero.E) (c77 : f_ref7_N.E) (c63 : f_ref7_Result.E) (c70 : f_ref3_Number.E) (c44 : f_ref3_Int_Order.E) (c62 : f_ref7_TooLarge.E) (c71 : f_ref7_Clamp.E) (c72 : f_ref3_Int_Raised.E) (c43 : f_ref3_Int_Times.E) (c68 : f_ref3_Int_Floor.E) (r_l0 : (Int) → X_Step → (List (Bool)) → (List (Bool)) → (Int) → (Int) → Option X_Step) (x0 : Int) (x4 : (Bool) × (List (Int))) (x5 : (Bool) × (List (Int))) (x6 : (Int) × (X_Value × ((Int) × ((List UInt8) × (X_Value × (List X_Value)))))) : Option X_Step :=
  (c73 x4.2).bind fun y1 =>
    (c73 x5.2).bind fun y2 =>
      (c74 (x4, (IntKind.i64.wrap ((IntKind.i64.wrap (((List.length y1) : Int) + ((List.length y2) : Int))) + (2 : Int))))).bind fun y3 =>
        (c74 (x5, (IntKind.i64.wrap ((IntKind.i64.wrap (((List.length y1) : Int) + ((List.length y2) : Int))) + (2 : Int))))).bind fun y4 =>
          r_l0 x0 (x6.1, ((x6.2.1.1, ((x6.2.1.2.1.1, (List.take (List.length x6.2.1.2.1.2) x6.2.1.2.1.2)), ((x6.2.1.2.2.1.1, (List.take (List.length x6.2.1.2.2.1.2) x6.2.1.2.2.1.2)), x6.2.1.2.2.2))), (x6.2.2.1, (x6.2.2.2.1, ((x6.2.2.2.2.1.1, ((x6.2.2.2.2.1.2.1.1, (List.take (List.length x6.2.2.2.2.1.2.1.2) x6.2.2.2.2.1.2.1.2)), ((x6.2.2.2.2.1.2.2.1.1, (List.take (List.length x6.2.2.2.2.1.2.2.1.2) x6.2.2.2.2.1.2.2.1.2)), x6.2.2.2.2.1.2.2.2))), (List.take (List.length x6.2.2.2.2.2) x6.2.2.2.2.2)))))) (List.take (List.length y3) y3) (List.take (List.length y4) y4) (((List.length y3) : Nat) : Int) (0 : Int)
def f_ref7_bits.b_l0 (c73 : f_ref3_Ones.E) (c74 : f_ref7_places.E) (c76 : f_ref7_fromPlaces.E) (c75 : f_ref7_integer.E) (c69 : f_ref7_Negative.E) (c34 : f_ref7_Raise.E) (c33 : f_ref7_Zero.E) (c77 : f_ref7_N.E) (c63 : f_ref7_Result.E) (c70 : f_ref3_Number.E) (c44 : f_ref3_Int_Order.E) (c62 : f_ref7_TooLarge.E) (c71 : f_ref7_Clamp.E) (c72 : f_ref3_Int_Raised.E) (c43 : f_ref3_Int_Times.E) (c68 : f_ref3_Int_Floor.E) (n_l0 : (Int) → X_Step → (List (Bool)) → (List (Bool)) → (Int) → (Int) → Option X_Step) (x0 : Int) (x6 : (Int) × (X_Value × ((Int) × ((List UInt8) × (X_Value × (List X_Value)))))) (x8 : List (Bool)) (x9 : List (Bool)) (x42 : Int) (x43 : Int) : Option X_Step :=
  bif (decide (x43 < x42)) then
    bif (x0 == (14 : Int)) then
      if 0 ≤ x43 ∧ x43 < (((List.length x8) : Nat) : Int) then
        bif (List.getD x8 (0 + Int.toNat x43) false) then
          if 0 ≤ x43 ∧ x43 < (((List.length x9) : Nat) : Int) then
            if 0 ≤ x43 ∧ x43 < (((List.length x8) : Nat) : Int) then
              n_l0 x0 (x6.1, ((x6.2.1.1, ((x6.2.1.2.1.1, (List.take (List.length x6.2.1.2.1.2) x6.2.1.2.1.2)), ((x6.2.1.2.2.1.1, (List.take (List.length x6.2.1.2.2.1.2) x6.2.1.2.2.1.2)), x6.2.1.2.2.2))), (x6.2.2.1, (x6.2.2.2.1, ((x6.2.2.2.2.1.1, ((x6.2.2.2.2.1.2.1.1, (List.take (List.length x6.2.2.2.2.1.2.1.2) x6.2.2.2.2.1.2.1.2)), ((x6.2.2.2.2.1.2.2.1.1, (List.take (List.length x6.2.2.2.2.1.2.2.1.2) x6.2.2.2.2.1.2.2.1.2)), x6.2.2.2.2.1.2.2.2))), (List.take (List.length x6.2.2.2.2.2) x6.2.2.2.2.2)))))) (List.take (List.length x8) (List.set x8 (0 + Int.toNat x43) (List.getD x9 (0 + Int.toNat x43) false))) (List.take (List.length x9) x9) x42 (IntKind.i64.wrap (x43 + (1 : Int)))
            else none
          else none
        else
          if 0 ≤ x43 ∧ x43 < (((List.length x8) : Nat) : Int) then
            n_l0 x0 (x6.1, ((x6.2.1.1, ((x6.2.1.2.1.1, (List.take (List.length x6.2.1.2.1.2) x6.2.1.2.1.2)), ((x6.2.1.2.2.1.1, (List.take (List.length x6.2.1.2.2.1.2) x6.2.1.2.2.1.2)), x6.2.1.2.2.2))), (x6.2.2.1, (x6.2.2.2.1, ((x6.2.2.2.2.1.1, ((x6.2.2.2.2.1.2.1.1, (List.take (List.length x6.2.2.2.2.1.2.1.2) x6.2.2.2.2.1.2.1.2)), ((x6.2.2.2.2.1.2.2.1.1, (List.take (List.length x6.2.2.2.2.1.2.2.1.2) x6.2.2.2.2.1.2.2.1.2)), x6.2.2.2.2.1.2.2.2))), (List.take (List.length x6.2.2.2.2.2) x6.2.2.2.2.2)))))) (List.take (List.length x8) (List.set x8 (0 + Int.toNat x43) false)) (List.take (List.length x9) x9) x42 (IntKind.i64.wrap (x43 + (1 : Int)))
          else none
      else none
    else
      bif (x0 == (15 : Int)) then
        if 0 ≤ x43 ∧ x43 < (((List.length x8) : Nat) : Int) then
          bif (List.getD x8 (0 + Int.toNat x43) false) then
            if 0 ≤ x43 ∧ x43 < (((List.length x8) : Nat) : Int) then
              n_l0 x0 (x6.1, ((x6.2.1.1, ((x6.2.1.2.1.1, (List.take (List.length x6.2.1.2.1.2) x6.2.1.2.1.2)), ((x6.2.1.2.2.1.1, (List.take (List.length x6.2.1.2.2.1.2) x6.2.1.2.2.1.2)), x6.2.1.2.2.2))), (x6.2.2.1, (x6.2.2.2.1, ((x6.2.2.2.2.1.1, ((x6.2.2.2.2.1.2.1.1, (List.take (List.length x6.2.2.2.2.1.2.1.2) x6.2.2.2.2.1.2.1.2)), ((x6.2.2.2.2.1.2.2.1.1, (List.take (List.length x6.2.2.2.2.1.2.2.1.2) x6.2.2.2.2.1.2.2.1.2)), x6.2.2.2.2.1.2.2.2))), (List.take (List.length x6.2.2.2.2.2) x6.2.2.2.2.2)))))) (List.take (List.length x8) (List.set x8 (0 + Int.toNat x43) true)) (List.take (List.length x9) x9) x42 (IntKind.i64.wrap (x43 + (1 : Int)))
            else none
          else
            if 0 ≤ x43 ∧ x43 < (((List.length x9) : Nat) : Int) then
              if 0 ≤ x43 ∧ x43 < (((List.length x8) : Nat) : Int) then
                n_l0 x0 (x6.1, ((x6.2.1.1, ((x6.2.1.2.1.1, (List.take (List.length x6.2.1.2.1.2) x6.2.1.2.1.2)), ((x6.2.1.2.2.1.1, (List.take (List.length x6.2.1.2.2.1.2) x6.2.1.2.2.1.2)), x6.2.1.2.2.2))), (x6.2.2.1, (x6.2.2.2.1, ((x6.2.2.2.2.1.1, ((x6.2.2.2.2.1.2.1.1, (List.take (List.length x6.2.2.2.2.1.2.1.2) x6.2.2.2.2.1.2.1.2)), ((x6.2.2.2.2.1.2.2.1.1, (List.take (List.length x6.2.2.2.2.1.2.2.1.2) x6.2.2.2.2.1.2.2.1.2)), x6.2.2.2.2.1.2.2.2))), (List.take (List.length x6.2.2.2.2.2) x6.2.2.2.2.2)))))) (List.take (List.length x8) (List.set x8 (0 + Int.toNat x43) (List.getD x9 (0 + Int.toNat x43) false))) (List.take (List.length x9) x9) x42 (IntKind.i64.wrap (x43 + (1 : Int)))
              else none
            else none
        else none
      else
        if 0 ≤ x43 ∧ x43 < (((List.length x8) : Nat) : Int) then
          if 0 ≤ x43 ∧ x43 < (((List.length x9) : Nat) : Int) then
            if 0 ≤ x43 ∧ x43 < (((List.length x8) : Nat) : Int) then
              n_l0 x0 (x6.1, ((x6.2.1.1, ((x6.2.1.2.1.1, (List.take (List.length x6.2.1.2.1.2) x6.2.1.2.1.2)), ((x6.2.1.2.2.1.1, (List.take (List.length x6.2.1.2.2.1.2) x6.2.1.2.2.1.2)), x6.2.1.2.2.2))), (x6.2.2.1, (x6.2.2.2.1, ((x6.2.2.2.2.1.1, ((x6.2.2.2.2.1.2.1.1, (List.take (List.length x6.2.2.2.2.1.2.1.2) x6.2.2.2.2.1.2.1.2)), ((x6.2.2.2.2.1.2.2.1.1, (List.take (List.length x6.2.2.2.2.1.2.2.1.2) x6.2.2.2.2.1.2.2.1.2)), x6.2.2.2.2.1.2.2.2))), (List.take (List.length x6.2.2.2.2.2) x6.2.2.2.2.2)))))) (List.take (List.length x8) (List.set x8 (0 + Int.toNat x43) ((List.getD x8 (0 + Int.toNat x43) false) != (List.getD x9 (0 + Int.toNat x43) false)))) (List.take (List.length x9) x9) x42 (IntKind.i64.wrap (x43 + (1 : Int)))
            else none
          else none
        else none
  else
    (c76 (List.take (List.length x8) x8)).bind fun y5 =>
      (c75 y5).bind fun y6 =>
        some y6
def f_ref7_bits.b_g19 (c73 : f_ref3_Ones.E) (c74 : f_ref7_places.E) (c76 : f_ref7_fromPlaces.E) (c75 : f_ref7_integer.E) (c69 : f_ref7_Negative.E) (c34 : f_ref7_Raise.E) (c33 : f_ref7_Zero.E) (c77 : f_ref7_N.E) (c63 : f_ref7_Result.E) (c70 : f_ref3_Number.E) (c44 : f_ref3_Int_Order.E) (c62 : f_ref7_TooLarge.E) (c71 : f_ref7_Clamp.E) (c72 : f_ref3_Int_Raised.E) (c43 : f_ref3_Int_Times.E) (c68 : f_ref3_Int_Floor.E) (r_g21 : (Int) → X_Int → X_Int → X_Step → Option X_Step) (x0 : Int) (x4 : (Bool) × (List (Int))) (x5 : (Bool) × (List (Int))) (x6 : (Int) × (X_Value × ((Int) × ((List UInt8) × (X_Value × (List X_Value)))))) : Option X_Step :=
  bif (x0 == (12 : Int)) then
    (c70 (4096 : Int)).bind fun y12 =>
      (c44 (x5, y12)).bind fun y13 =>
        bif (decide (y13 > (0 : Int))) then
          (c62 ()).bind fun y14 =>
            some y14
        else
          r_g21 x0 x4 x5 (x6.1, ((x6.2.1.1, ((x6.2.1.2.1.1, (List.take (List.length x6.2.1.2.1.2) x6.2.1.2.1.2)), ((x6.2.1.2.2.1.1, (List.take (List.length x6.2.1.2.2.1.2) x6.2.1.2.2.1.2)), x6.2.1.2.2.2))), (x6.2.2.1, (x6.2.2.2.1, ((x6.2.2.2.2.1.1, ((x6.2.2.2.2.1.2.1.1, (List.take (List.length x6.2.2.2.2.1.2.1.2) x6.2.2.2.2.1.2.1.2)), ((x6.2.2.2.2.1.2.2.1.1, (List.take (List.length x6.2.2.2.2.1.2.2.1.2) x6.2.2.2.2.1.2.2.1.2)), x6.2.2.2.2.1.2.2.2))), (List.take (List.length x6.2.2.2.2.2) x6.2.2.2.2.2))))))
  else
    r_g21 x0 x4 x5 (x6.1, ((x6.2.1.1, ((x6.2.1.2.1.1, (List.take (List.length x6.2.1.2.1.2) x6.2.1.2.1.2)), ((x6.2.1.2.2.1.1, (List.take (List.length x6.2.1.2.2.1.2) x6.2.1.2.2.1.2)), x6.2.1.2.2.2))), (x6.2.2.1, (x6.2.2.2.1, ((x6.2.2.2.2.1.1, ((x6.2.2.2.2.1.2.1.1, (List.take (List.length x6.2.2.2.2.1.2.1.2) x6.2.2.2.2.1.2.1.2)), ((x6.2.2.2.2.1.2.2.1.1, (List.take (List.length x6.2.2.2.2.1.2.2.1.2) x6.2.2.2.2.1.2.2.1.2)), x6.2.2.2.2.1.2.2.2))), (List.take (List.length x6.2.2.2.2.2) x6.2.2.2.2.2))))))
def f_ref7_bits.b_g21 (c73 : f_ref3_Ones.E) (c74 : f_ref7_places.E) (c76 : f_ref7_fromPlaces.E) (c75 : f_ref7_integer.E) (c69 : f_ref7_Negative.E) (c34 : f_ref7_Raise.E) (c33 : f_ref7_Zero.E) (c77 : f_ref7_N.E) (c63 : f_ref7_Result.E) (c70 : f_ref3_Number.E) (c44 : f_ref3_Int_Order.E) (c62 : f_ref7_TooLarge.E) (c71 : f_ref7_Clamp.E) (c72 : f_ref3_Int_Raised.E) (c43 : f_ref3_Int_Times.E) (c68 : f_ref3_Int_Floor.E) (r_g25 : X_Int → X_Step → X_Int → Option X_Step) (r_g26 : X_Int → X_Step → X_Int → Option X_Step) (x0 : Int) (x4 : (Bool) × (List (Int))) (x5 : (Bool) × (List (Int))) (x6 : (Int) × (X_Value × ((Int) × ((List UInt8) × (X_Value × (List X_Value)))))) : Option X_Step :=
  (c70 (2 : Int)).bind fun y15 =>
    (c71 (x5, ((0 : Int), (4095 : Int)))).bind fun y16 =>
      (c72 (y15, y16)).bind fun y17 =>
        (c70 (4096 : Int)).bind fun y18 =>
          (c44 (x5, y18)).bind fun y19 =>
            bif (decide (y19 ≥ (0 : Int))) then
              (c70 (2 : Int)).bind fun y20 =>
                (c43 (y17.1, y20)).bind fun y21 =>
                  bif (x0 == (12 : Int)) then
                    r_g25 x4 (x6.1, ((x6.2.1.1, ((x6.2.1.2.1.1, (List.take (List.length x6.2.1.2.1.2) x6.2.1.2.1.2)), ((x6.2.1.2.2.1.1, (List.take (List.length x6.2.1.2.2.1.2) x6.2.1.2.2.1.2)), x6.2.1.2.2.2))), (x6.2.2.1, (x6.2.2.2.1, ((x6.2.2.2.2.1.1, ((x6.2.2.2.2.1.2.1.1, (List.take (List.length x6.2.2.2.2.1.2.1.2) x6.2.2.2.2.1.2.1.2)), ((x6.2.2.2.2.1.2.2.1.1, (List.take (List.length x6.2.2.2.2.1.2.2.1.2) x6.2.2.2.2.1.2.2.1.2)), x6.2.2.2.2.1.2.2.2))), (List.take (List.length x6.2.2.2.2.2) x6.2.2.2.2.2)))))) y21
                  else
                    r_g26 x4 (x6.1, ((x6.2.1.1, ((x6.2.1.2.1.1, (List.take (List.length x6.2.1.2.1.2) x6.2.1.2.1.2)), ((x6.2.1.2.2.1.1, (List.take (List.length x6.2.1.2.2.1.2) x6.2.1.2.2.1.2)), x6.2.1.2.2.2))), (x6.2.2.1, (x6.2.2.2.1, ((x6.2.2.2.2.1.1, ((x6.2.2.2.2.1.2.1.1, (List.take (List.length x6.2.2.2.2.1.2.1.2) x6.2.2.2.2.1.2.1.2)), ((x6.2.2.2.2.1.2.2.1.1, (List.take (List.length x6.2.2.2.2.1.2.2.1.2) x6.2.2.2.2.1.2.2.1.2)), x6.2.2.2.2.1.2.2.2))), (List.take (List.length x6.2.2.2.2.2) x6.2.2.2.2.2)))))) y21
            else
              bif (x0 == (12 : Int)) then
                r_g25 x4 (x6.1, ((x6.2.1.1, ((x6.2.1.2.1.1, (List.take (List.length x6.2.1.2.1.2) x6.2.1.2.1.2)), ((x6.2.1.2.2.1.1, (List.take (List.length x6.2.1.2.2.1.2) x6.2.1.2.2.1.2)), x6.2.1.2.2.2))), (x6.2.2.1, (x6.2.2.2.1, ((x6.2.2.2.2.1.1, ((x6.2.2.2.2.1.2.1.1, (List.take (List.length x6.2.2.2.2.1.2.1.2) x6.2.2.2.2.1.2.1.2)), ((x6.2.2.2.2.1.2.2.1.1, (List.take (List.length x6.2.2.2.2.1.2.2.1.2) x6.2.2.2.2.1.2.2.1.2)), x6.2.2.2.2.1.2.2.2))), (List.take (List.length x6.2.2.2.2.2) x6.2.2.2.2.2)))))) y17.1
              else
                r_g26 x4 (x6.1, ((x6.2.1.1, ((x6.2.1.2.1.1, (List.take (List.length x6.2.1.2.1.2) x6.2.1.2.1.2)), ((x6.2.1.2.2.1.1, (List.take (List.length x6.2.1.2.2.1.2) x6.2.1.2.2.1.2)), x6.2.1.2.2.2))), (x6.2.2.1, (x6.2.2.2.1, ((x6.2.2.2.2.1.1, ((x6.2.2.2.2.1.2.1.1, (List.take (List.length x6.2.2.2.2.1.2.1.2) x6.2.2.2.2.1.2.1.2)), ((x6.2.2.2.2.1.2.2.1.1, (List.take (List.length x6.2.2.2.2.1.2.2.1.2) x6.2.2.2.2.1.2.2.1.2)), x6.2.2.2.2.1.2.2.2))), (List.take (List.length x6.2.2.2.2.2) x6.2.2.2.2.2)))))) y17.1
def f_ref7_bits.b_g25 (c73 : f_ref3_Ones.E) (c74 : f_ref7_places.E) (c76 : f_ref7_fromPlaces.E) (c75 : f_ref7_integer.E) (c69 : f_ref7_Negative.E) (c34 : f_ref7_Raise.E) (c33 : f_ref7_Zero.E) (c77 : f_ref7_N.E) (c63 : f_ref7_Result.E) (c70 : f_ref3_Number.E) (c44 : f_ref3_Int_Order.E) (c62 : f_ref7_TooLarge.E) (c71 : f_ref7_Clamp.E) (c72 : f_ref3_Int_Raised.E) (c43 : f_ref3_Int_Times.E) (c68 : f_ref3_Int_Floor.E)  (x4 : (Bool) × (List (Int))) (x6 : (Int) × (X_Value × ((Int) × ((List UInt8) × (X_Value × (List X_Value)))))) (x11 : (Bool) × (List (Int))) : Option X_Step :=
  (c43 (x4, x11)).bind fun y22 =>
    (c75 y22).bind fun y23 =>
      some y23
def f_ref7_bits.b_g26 (c73 : f_ref3_Ones.E) (c74 : f_ref7_places.E) (c76 : f_ref7_fromPlaces.E) (c75 : f_ref7_integer.E) (c69 : f_ref7_Negative.E) (c34 : f_ref7_Raise.E) (c33 : f_ref7_Zero.E) (c77 : f_ref7_N.E) (c63 : f_ref7_Result.E) (c70 : f_ref3_Number.E) (c44 : f_ref3_Int_Order.E) (c62 : f_ref7_TooLarge.E) (c71 : f_ref7_Clamp.E) (c72 : f_ref3_Int_Raised.E) (c43 : f_ref3_Int_Times.E) (c68 : f_ref3_Int_Floor.E)  (x4 : (Bool) × (List (Int))) (x6 : (Int) × (X_Value × ((Int) × ((List UInt8) × (X_Value × (List X_Value)))))) (x11 : (Bool) × (List (Int))) : Option X_Step :=
  (c68 (x4, x11)).bind fun y24 =>
    (c75 y24.1).bind fun y25 =>
      some y25
def f_ref7_bits.c (c73 : f_ref3_Ones.E) (c74 : f_ref7_places.E) (c76 : f_ref7_fromPlaces.E) (c75 : f_ref7_integer.E) (c69 : f_ref7_Negative.E) (c34 : f_ref7_Raise.E) (c33 : f_ref7_Zero.E) (c77 : f_ref7_N.E) (c63 : f_ref7_Result.E) (c70 : f_ref3_Number.E) (c44 : f_ref3_Int_Order.E) (c62 : f_ref7_TooLarge.E) (c71 : f_ref7_Clamp.E) (c72 : f_ref3_Int_Raised.E) (c43 : f_ref3_Int_Times.E) (c68 : f_ref3_Int_Floor.E) (r_g2 : (Int) → X_Int → X_Int → X_Step → Option X_Step) (r_g19 : (Int) → X_Int → X_Int → X_Step → Option X_Step) (a0 : Int) (a1 : (Bool) × (List (Int))) (a2 : (Bool) × (List (Int))) : Option X_Step :=
  bif (a0 == (14 : Int)) then
    r_g2 a0 a1 a2 ((0 : Int), (((0 : Int), ((false, ([] : List Int)), ((false, ([] : List Int)), ([], (0 : Int))))), ((0 : Int), ([], (((0 : Int), ((false, ([] : List Int)), ((false, ([] : List Int)), ([], (0 : Int))))), ([] : List X_Value))))))
  else
    bif (a0 == (15 : Int)) then
      r_g2 a0 a1 a2 ((0 : Int), (((0 : Int), ((false, ([] : List Int)), ((false, ([] : List Int)), ([], (0 : Int))))), ((0 : Int), ([], (((0 : Int), ((false, ([] : List Int)), ((false, ([] : List Int)), ([], (0 : Int))))), ([] : List X_Value))))))
    else
      bif (a0 == (16 : Int)) then
        r_g2 a0 a1 a2 ((0 : Int), (((0 : Int), ((false, ([] : List Int)), ((false, ([] : List Int)), ([], (0 : Int))))), ((0 : Int), ([], (((0 : Int), ((false, ([] : List Int)), ((false, ([] : List Int)), ([], (0 : Int))))), ([] : List X_Value))))))
      else
        (c69 a2).bind fun y7 =>
          bif y7 then
            (c34 ((33 : Int), [110, 101, 103, 97, 116, 105, 118, 101, 32, 115, 104, 105, 102, 116])).bind fun y8 =>
              some y8
          else
            bif (a0 == (12 : Int)) then
              (c33 a1).bind fun y9 =>
                bif y9 then
                  (c77 (0 : Int)).bind fun y10 =>
                    (c63 y10).bind fun y11 =>
                      some y11
                else
                  r_g19 a0 a1 a2 ((0 : Int), (((0 : Int), ((false, ([] : List Int)), ((false, ([] : List Int)), ([], (0 : Int))))), ((0 : Int), ([], (((0 : Int), ((false, ([] : List Int)), ((false, ([] : List Int)), ([], (0 : Int))))), ([] : List X_Value))))))
            else
              r_g19 a0 a1 a2 ((0 : Int), (((0 : Int), ((false, ([] : List Int)), ((false, ([] : List Int)), ([], (0 : Int))))), ((0 : Int), ([], (((0 : Int), ((false, ([] : List Int)), ((false, ([] : List Int)), ([], (0 : Int))))), ([] : List X_Value))))))
theorem f_ref7_bits.q (c73 : f_ref3_Ones.E) (c74 : f_ref7_places.E) (c76 : f_ref7_fromPlaces.E) (c75 : f_ref7_integer.E) (c69 : f_ref7_Negative.E) (c34 : f_ref7_Raise.E) (c33 : f_ref7_Zero.E) (c77 : f_ref7_N.E) (c63 : f_ref7_Result.E) (c70 : f_ref3_Number.E) (c44 : f_ref3_Int_Order.E) (c62 : f_ref7_TooLarge.E) (c71 : f_ref7_Clamp.E) (c72 : f_ref3_Int_Raised.E) (c43 : f_ref3_Int_Times.E) (c68 : f_ref3_Int_Floor.E) (r_g2 : (Int) → X_Int → X_Int → X_Step → Option X_Step) (r_g19 : (Int) → X_Int → X_Int → X_Step → Option X_Step) (a0 : Int) (a1 : (Bool) × (List (Int))) (a2 : (Bool) × (List (Int))) : f_ref7_bits.b c73 c74 c76 c75 c69 c34 c33 c77 c63 c70 c44 c62 c71 c72 c43 c68 r_g2 r_g19 a0 a1 a2 = f_ref7_bits.c c73 c74 c76 c75 c69 c34 c33 c77 c63 c70 c44 c62 c71 c72 c43 c68 r_g2 r_g19 a0 a1 a2 := by
  simp only [f_ref7_bits.b, f_ref7_bits.c, List.take_length, take_one, Nat.zero_add, Int.toNat_natCast, Int.toNat_zero, List.drop_zero, List.append_eq, Nat.le_refl, Int.le_refl, true_and, and_true, zero_le_one, if_true, prod_eta, Int.natCast_zero]
def f_ref7_bits.c_g2 (c73 : f_ref3_Ones.E) (c74 : f_ref7_places.E) (c76 : f_ref7_fromPlaces.E) (c75 : f_ref7_integer.E) (c69 : f_ref7_Negative.E) (c34 : f_ref7_Raise.E) (c33 : f_ref7_Zero.E) (c77 : f_ref7_N.E) (c63 : f_ref7_Result.E) (c70 : f_ref3_Number.E) (c44 : f_ref3_Int_Order.E) (c62 : f_ref7_TooLarge.E) (c71 : f_ref7_Clamp.E) (c72 : f_ref3_Int_Raised.E) (c43 : f_ref3_Int_Times.E) (c68 : f_ref3_Int_Floor.E) (r_l0 : (Int) → X_Step → (List (Bool)) → (List (Bool)) → (Int) → (Int) → Option X_Step) (x0 : Int) (x4 : (Bool) × (List (Int))) (x5 : (Bool) × (List (Int))) (x6 : (Int) × (X_Value × ((Int) × ((List UInt8) × (X_Value × (List X_Value)))))) : Option X_Step :=
  (c73 x4.2).bind fun y1 =>
    (c73 x5.2).bind fun y2 =>
      (c74 (x4, (IntKind.i64.wrap ((IntKind.i64.wrap (((List.length y1) : Int) + ((List.length y2) : Int))) + (2 : Int))))).bind fun y3 =>
        (c74 (x5, (IntKind.i64.wrap ((IntKind.i64.wrap (((List.length y1) : Int) + ((List.length y2) : Int))) + (2 : Int))))).bind fun y4 =>
          r_l0 x0 x6 y3 y4 ((List.length y3) : Int) (0 : Int)
theorem f_ref7_bits.q_g2 (c73 : f_ref3_Ones.E) (c74 : f_ref7_places.E) (c76 : f_ref7_fromPlaces.E) (c75 : f_ref7_integer.E) (c69 : f_ref7_Negative.E) (c34 : f_ref7_Raise.E) (c33 : f_ref7_Zero.E) (c77 : f_ref7_N.E) (c63 : f_ref7_Result.E) (c70 : f_ref3_Number.E) (c44 : f_ref3_Int_Order.E) (c62 : f_ref7_TooLarge.E) (c71 : f_ref7_Clamp.E) (c72 : f_ref3_Int_Raised.E) (c43 : f_ref3_Int_Times.E) (c68 : f_ref3_Int_Floor.E) (r_l0 : (Int) → X_Step → (List (Bool)) → (List (Bool)) → (Int) → (Int) → Option X_Step) (x0 : Int) (x4 : (Bool) × (List (Int))) (x5 : (Bool) × (List (Int))) (x6 : (Int) × (X_Value × ((Int) × ((List UInt8) × (X_Value × (List X_Value)))))) : f_ref7_bits.b_g2 c73 c74 c76 c75 c69 c34 c33 c77 c63 c70 c44 c62 c71 c72 c43 c68 r_l0 x0 x4 x5 x6 = f_ref7_bits.c_g2 c73 c74 c76 c75 c69 c34 c33 c77 c63 c70 c44 c62 c71 c72 c43 c68 r_l0 x0 x4 x5 x6 := by
  simp only [f_ref7_bits.b_g2, f_ref7_bits.c_g2, List.take_length, take_one, Nat.zero_add, Int.toNat_natCast, Int.toNat_zero, List.drop_zero, List.append_eq, Nat.le_refl, Int.le_refl, true_and, and_true, zero_le_one, if_true, prod_eta, Int.natCast_zero]
def f_ref7_bits.c_l0 (c73 : f_ref3_Ones.E) (c74 : f_ref7_places.E) (c76 : f_ref7_fromPlaces.E) (c75 : f_ref7_integer.E) (c69 : f_ref7_Negative.E) (c34 : f_ref7_Raise.E) (c33 : f_ref7_Zero.E) (c77 : f_ref7_N.E) (c63 : f_ref7_Result.E) (c70 : f_ref3_Number.E) (c44 : f_ref3_Int_Order.E) (c62 : f_ref7_TooLarge.E) (c71 : f_ref7_Clamp.E) (c72 : f_ref3_Int_Raised.E) (c43 : f_ref3_Int_Times.E) (c68 : f_ref3_Int_Floor.E) (n_l0 : (Int) → X_Step → (List (Bool)) → (List (Bool)) → (Int) → (Int) → Option X_Step) (x0 : Int) (x6 : (Int) × (X_Value × ((Int) × ((List UInt8) × (X_Value × (List X_Value)))))) (x8 : List (Bool)) (x9 : List (Bool)) (x42 : Int) (x43 : Int) : Option X_Step :=
  bif (decide (x43 < x42)) then
    bif (x0 == (14 : Int)) then
      if 0 ≤ x43 ∧ x43 < ((List.length x8) : Int) then
        bif (List.getD x8 (0 + Int.toNat x43) false) then
          if 0 ≤ x43 ∧ x43 < ((List.length x9) : Int) then
            if 0 ≤ x43 ∧ x43 < ((List.length x8) : Int) then
              n_l0 x0 x6 (List.take (List.length x8) (List.set x8 (0 + Int.toNat x43) (List.getD x9 (0 + Int.toNat x43) false))) x9 x42 (IntKind.i64.wrap (x43 + (1 : Int)))
            else none
          else none
        else
          if 0 ≤ x43 ∧ x43 < ((List.length x8) : Int) then
            n_l0 x0 x6 (List.take (List.length x8) (List.set x8 (0 + Int.toNat x43) false)) x9 x42 (IntKind.i64.wrap (x43 + (1 : Int)))
          else none
      else none
    else
      bif (x0 == (15 : Int)) then
        if 0 ≤ x43 ∧ x43 < ((List.length x8) : Int) then
          bif (List.getD x8 (0 + Int.toNat x43) false) then
            if 0 ≤ x43 ∧ x43 < ((List.length x8) : Int) then
              n_l0 x0 x6 (List.take (List.length x8) (List.set x8 (0 + Int.toNat x43) true)) x9 x42 (IntKind.i64.wrap (x43 + (1 : Int)))
            else none
          else
            if 0 ≤ x43 ∧ x43 < ((List.length x9) : Int) then
              if 0 ≤ x43 ∧ x43 < ((List.length x8) : Int) then
                n_l0 x0 x6 (List.take (List.length x8) (List.set x8 (0 + Int.toNat x43) (List.getD x9 (0 + Int.toNat x43) false))) x9 x42 (IntKind.i64.wrap (x43 + (1 : Int)))
              else none
            else none
        else none
      else
        if 0 ≤ x43 ∧ x43 < ((List.length x8) : Int) then
          if 0 ≤ x43 ∧ x43 < ((List.length x9) : Int) then
            if 0 ≤ x43 ∧ x43 < ((List.length x8) : Int) then
              n_l0 x0 x6 (List.take (List.length x8) (List.set x8 (0 + Int.toNat x43) ((List.getD x8 (0 + Int.toNat x43) false) != (List.getD x9 (0 + Int.toNat x43) false)))) x9 x42 (IntKind.i64.wrap (x43 + (1 : Int)))
            else none
          else none
        else none
  else
    (c76 x8).bind fun y5 =>
      (c75 y5).bind fun y6 =>
        some y6
theorem f_ref7_bits.q_l0 (c73 : f_ref3_Ones.E) (c74 : f_ref7_places.E) (c76 : f_ref7_fromPlaces.E) (c75 : f_ref7_integer.E) (c69 : f_ref7_Negative.E) (c34 : f_ref7_Raise.E) (c33 : f_ref7_Zero.E) (c77 : f_ref7_N.E) (c63 : f_ref7_Result.E) (c70 : f_ref3_Number.E) (c44 : f_ref3_Int_Order.E) (c62 : f_ref7_TooLarge.E) (c71 : f_ref7_Clamp.E) (c72 : f_ref3_Int_Raised.E) (c43 : f_ref3_Int_Times.E) (c68 : f_ref3_Int_Floor.E) (n_l0 : (Int) → X_Step → (List (Bool)) → (List (Bool)) → (Int) → (Int) → Option X_Step) (x0 : Int) (x6 : (Int) × (X_Value × ((Int) × ((List UInt8) × (X_Value × (List X_Value)))))) (x8 : List (Bool)) (x9 : List (Bool)) (x42 : Int) (x43 : Int) : f_ref7_bits.b_l0 c73 c74 c76 c75 c69 c34 c33 c77 c63 c70 c44 c62 c71 c72 c43 c68 n_l0 x0 x6 x8 x9 x42 x43 = f_ref7_bits.c_l0 c73 c74 c76 c75 c69 c34 c33 c77 c63 c70 c44 c62 c71 c72 c43 c68 n_l0 x0 x6 x8 x9 x42 x43 := by
  simp only [f_ref7_bits.b_l0, f_ref7_bits.c_l0, List.take_length, take_one, Nat.zero_add, Int.toNat_natCast, Int.toNat_zero, List.drop_zero, List.append_eq, Nat.le_refl, Int.le_refl, true_and, and_true, zero_le_one, if_true, prod_eta, Int.natCast_zero]
def f_ref7_bits.c_g19 (c73 : f_ref3_Ones.E) (c74 : f_ref7_places.E) (c76 : f_ref7_fromPlaces.E) (c75 : f_ref7_integer.E) (c69 : f_ref7_Negative.E) (c34 : f_ref7_Raise.E) (c33 : f_ref7_Zero.E) (c77 : f_ref7_N.E) (c63 : f_ref7_Result.E) (c70 : f_ref3_Number.E) (c44 : f_ref3_Int_Order.E) (c62 : f_ref7_TooLarge.E) (c71 : f_ref7_Clamp.E) (c72 : f_ref3_Int_Raised.E) (c43 : f_ref3_Int_Times.E) (c68 : f_ref3_Int_Floor.E) (r_g21 : (Int) → X_Int → X_Int → X_Step → Option X_Step) (x0 : Int) (x4 : (Bool) × (List (Int))) (x5 : (Bool) × (List (Int))) (x6 : (Int) × (X_Value × ((Int) × ((List UInt8) × (X_Value × (List X_Value)))))) : Option X_Step :=
  bif (x0 == (12 : Int)) then
    (c70 (4096 : Int)).bind fun y12 =>
      (c44 (x5, y12)).bind fun y13 =>
        bif (decide (y13 > (0 : Int))) then
          (c62 ()).bind fun y14 =>
            some y14
        else
          r_g21 x0 x4 x5 x6
  else
    r_g21 x0 x4 x5 x6
theorem f_ref7_bits.q_g19 (c73 : f_ref3_Ones.E) (c74 : f_ref7_places.E) (c76 : f_ref7_fromPlaces.E) (c75 : f_ref7_integer.E) (c69 : f_ref7_Negative.E) (c34 : f_ref7_Raise.E) (c33 : f_ref7_Zero.E) (c77 : f_ref7_N.E) (c63 : f_ref7_Result.E) (c70 : f_ref3_Number.E) (c44 : f_ref3_Int_Order.E) (c62 : f_ref7_TooLarge.E) (c71 : f_ref7_Clamp.E) (c72 : f_ref3_Int_Raised.E) (c43 : f_ref3_Int_Times.E) (c68 : f_ref3_Int_Floor.E) (r_g21 : (Int) → X_Int → X_Int → X_Step → Option X_Step) (x0 : Int) (x4 : (Bool) × (List (Int))) (x5 : (Bool) × (List (Int))) (x6 : (Int) × (X_Value × ((Int) × ((List UInt8) × (X_Value × (List X_Value)))))) : f_ref7_bits.b_g19 c73 c74 c76 c75 c69 c34 c33 c77 c63 c70 c44 c62 c71 c72 c43 c68 r_g21 x0 x4 x5 x6 = f_ref7_bits.c_g19 c73 c74 c76 c75 c69 c34 c33 c77 c63 c70 c44 c62 c71 c72 c43 c68 r_g21 x0 x4 x5 x6 := by
  simp only [f_ref7_bits.b_g19, f_ref7_bits.c_g19, List.take_length, take_one, Nat.zero_add, Int.toNat_natCast, Int.toNat_zero, List.drop_zero, List.append_eq, Nat.le_refl, Int.le_refl, true_and, and_true, zero_le_one, if_true, prod_eta, Int.natCast_zero]
def f_ref7_bits.c_g21 (c73 : f_ref3_Ones.E) (c74 : f_ref7_places.E) (c76 : f_ref7_fromPlaces.E) (c75 : f_ref7_integer.E) (c69 : f_ref7_Negative.E) (c34 : f_ref7_Raise.E) (c33 : f_ref7_Zero.E) (c77 : f_ref7_N.E) (c63 : f_ref7_Result.E) (c70 : f_ref3_Number.E) (c44 : f_ref3_Int_Order.E) (c62 : f_ref7_TooLarge.E) (c71 : f_ref7_Clamp.E) (c72 : f_ref3_Int_Raised.E) (c43 : f_ref3_Int_Times.E) (c68 : f_ref3_Int_Floor.E) (r_g25 : X_Int → X_Step → X_Int → Option X_Step) (r_g26 : X_Int → X_Step → X_Int → Option X_Step) (x0 : Int) (x4 : (Bool) × (List (Int))) (x5 : (Bool) × (List (Int))) (x6 : (Int) × (X_Value × ((Int) × ((List UInt8) × (X_Value × (List X_Value)))))) : Option X_Step :=
  (c70 (2 : Int)).bind fun y15 =>
    (c71 (x5, ((0 : Int), (4095 : Int)))).bind fun y16 =>
      (c72 (y15, y16)).bind fun y17 =>
        (c70 (4096 : Int)).bind fun y18 =>
          (c44 (x5, y18)).bind fun y19 =>
            bif (decide (y19 ≥ (0 : Int))) then
              (c70 (2 : Int)).bind fun y20 =>
                (c43 (y17.1, y20)).bind fun y21 =>
                  bif (x0 == (12 : Int)) then
                    r_g25 x4 x6 y21
                  else
                    r_g26 x4 x6 y21
            else
              bif (x0 == (12 : Int)) then
                r_g25 x4 x6 y17.1
              else
                r_g26 x4 x6 y17.1
theorem f_ref7_bits.q_g21 (c73 : f_ref3_Ones.E) (c74 : f_ref7_places.E) (c76 : f_ref7_fromPlaces.E) (c75 : f_ref7_integer.E) (c69 : f_ref7_Negative.E) (c34 : f_ref7_Raise.E) (c33 : f_ref7_Zero.E) (c77 : f_ref7_N.E) (c63 : f_ref7_Result.E) (c70 : f_ref3_Number.E) (c44 : f_ref3_Int_Order.E) (c62 : f_ref7_TooLarge.E) (c71 : f_ref7_Clamp.E) (c72 : f_ref3_Int_Raised.E) (c43 : f_ref3_Int_Times.E) (c68 : f_ref3_Int_Floor.E) (r_g25 : X_Int → X_Step → X_Int → Option X_Step) (r_g26 : X_Int → X_Step → X_Int → Option X_Step) (x0 : Int) (x4 : (Bool) × (List (Int))) (x5 : (Bool) × (List (Int))) (x6 : (Int) × (X_Value × ((Int) × ((List UInt8) × (X_Value × (List X_Value)))))) : f_ref7_bits.b_g21 c73 c74 c76 c75 c69 c34 c33 c77 c63 c70 c44 c62 c71 c72 c43 c68 r_g25 r_g26 x0 x4 x5 x6 = f_ref7_bits.c_g21 c73 c74 c76 c75 c69 c34 c33 c77 c63 c70 c44 c62 c71 c72 c43 c68 r_g25 r_g26 x0 x4 x5 x6 := by
  simp only [f_ref7_bits.b_g21, f_ref7_bits.c_g21, List.take_length, take_one, Nat.zero_add, Int.toNat_natCast, Int.toNat_zero, List.drop_zero, List.append_eq, Nat.le_refl, Int.le_refl, true_and, and_true, zero_le_one, if_true, prod_eta, Int.natCast_zero]
def f_ref7_bits.l0 (c73 : f_ref3_Ones.E) (c74 : f_ref7_places.E) (c76 : f_ref7_fromPlaces.E) (c75 : f_ref7_integer.E) (c69 : f_ref7_Negative.E) (c34 : f_ref7_Raise.E) (c33 : f_ref7_Zero.E) (c77 : f_ref7_N.E) (c63 : f_ref7_Result.E) (c70 : f_ref3_Number.E) (c44 : f_ref3_Int_Order.E) (c62 : f_ref7_TooLarge.E) (c71 : f_ref7_Clamp.E) (c72 : f_ref3_Int_Raised.E) (c43 : f_ref3_Int_Times.E) (c68 : f_ref3_Int_Floor.E) (k : Nat)  : Nat → (Int) → X_Step → (List (Bool)) → (List (Bool)) → (Int) → (Int) → Option X_Step
  | 0, _, _, _, _, _, _ => none
  | n + 1, x0, x6, x8, x9, x42, x43 => f_ref7_bits.b_l0 c73 c74 c76 c75 c69 c34 c33 c77 c63 c70 c44 c62 c71 c72 c43 c68 (fun x0 x6 x8 x9 x42 x43 => f_ref7_bits.l0 c73 c74 c76 c75 c69 c34 c33 c77 c63 c70 c44 c62 c71 c72 c43 c68 k  n x0 x6 x8 x9 x42 x43) x0 x6 x8 x9 x42 x43
def f_ref7_bits.g2 (c73 : f_ref3_Ones.E) (c74 : f_ref7_places.E) (c76 : f_ref7_fromPlaces.E) (c75 : f_ref7_integer.E) (c69 : f_ref7_Negative.E) (c34 : f_ref7_Raise.E) (c33 : f_ref7_Zero.E) (c77 : f_ref7_N.E) (c63 : f_ref7_Result.E) (c70 : f_ref3_Number.E) (c44 : f_ref3_Int_Order.E) (c62 : f_ref7_TooLarge.E) (c71 : f_ref7_Clamp.E) (c72 : f_ref3_Int_Raised.E) (c43 : f_ref3_Int_Times.E) (c68 : f_ref3_Int_Floor.E) (k : Nat)  (x0 : Int) (x4 : (Bool) × (List (Int))) (x5 : (Bool) × (List (Int))) (x6 : (Int) × (X_Value × ((Int) × ((List UInt8) × (X_Value × (List X_Value)))))) : Option X_Step := gate k (f_ref7_bits.b_g2 c73 c74 c76 c75 c69 c34 c33 c77 c63 c70 c44 c62 c71 c72 c43 c68 (f_ref7_bits.l0 c73 c74 c76 c75 c69 c34 c33 c77 c63 c70 c44 c62 c71 c72 c43 c68 k  k) x0 x4 x5 x6)
def f_ref7_bits.g25 (c73 : f_ref3_Ones.E) (c74 : f_ref7_places.E) (c76 : f_ref7_fromPlaces.E) (c75 : f_ref7_integer.E) (c69 : f_ref7_Negative.E) (c34 : f_ref7_Raise.E) (c33 : f_ref7_Zero.E) (c77 : f_ref7_N.E) (c63 : f_ref7_Result.E) (c70 : f_ref3_Number.E) (c44 : f_ref3_Int_Order.E) (c62 : f_ref7_TooLarge.E) (c71 : f_ref7_Clamp.E) (c72 : f_ref3_Int_Raised.E) (c43 : f_ref3_Int_Times.E) (c68 : f_ref3_Int_Floor.E) (k : Nat)  (x4 : (Bool) × (List (Int))) (x6 : (Int) × (X_Value × ((Int) × ((List UInt8) × (X_Value × (List X_Value)))))) (x11 : (Bool) × (List (Int))) : Option X_Step := gate k (f_ref7_bits.b_g25 c73 c74 c76 c75 c69 c34 c33 c77 c63 c70 c44 c62 c71 c72 c43 c68  x4 x6 x11)
def f_ref7_bits.g26 (c73 : f_ref3_Ones.E) (c74 : f_ref7_places.E) (c76 : f_ref7_fromPlaces.E) (c75 : f_ref7_integer.E) (c69 : f_ref7_Negative.E) (c34 : f_ref7_Raise.E) (c33 : f_ref7_Zero.E) (c77 : f_ref7_N.E) (c63 : f_ref7_Result.E) (c70 : f_ref3_Number.E) (c44 : f_ref3_Int_Order.E) (c62 : f_ref7_TooLarge.E) (c71 : f_ref7_Clamp.E) (c72 : f_ref3_Int_Raised.E) (c43 : f_ref3_Int_Times.E) (c68 : f_ref3_Int_Floor.E) (k : Nat)  (x4 : (Bool) × (List (Int))) (x6 : (Int) × (X_Value × ((Int) × ((List UInt8) × (X_Value × (List X_Value)))))) (x11 : (Bool) × (List (Int))) : Option X_Step := gate k (f_ref7_bits.b_g26 c73 c74 c76 c75 c69 c34 c33 c77 c63 c70 c44 c62 c71 c72 c43 c68  x4 x6 x11)
def f_ref7_bits.g21 (c73 : f_ref3_Ones.E) (c74 : f_ref7_places.E) (c76 : f_ref7_fromPlaces.E) (c75 : f_ref7_integer.E) (c69 : f_ref7_Negative.E) (c34 : f_ref7_Raise.E) (c33 : f_ref7_Zero.E) (c77 : f_ref7_N.E) (c63 : f_ref7_Result.E) (c70 : f_ref3_Number.E) (c44 : f_ref3_Int_Order.E) (c62 : f_ref7_TooLarge.E) (c71 : f_ref7_Clamp.E) (c72 : f_ref3_Int_Raised.E) (c43 : f_ref3_Int_Times.E) (c68 : f_ref3_Int_Floor.E) (k : Nat)  (x0 : Int) (x4 : (Bool) × (List (Int))) (x5 : (Bool) × (List (Int))) (x6 : (Int) × (X_Value × ((Int) × ((List UInt8) × (X_Value × (List X_Value)))))) : Option X_Step := gate k (f_ref7_bits.b_g21 c73 c74 c76 c75 c69 c34 c33 c77 c63 c70 c44 c62 c71 c72 c43 c68 (f_ref7_bits.g25 c73 c74 c76 c75 c69 c34 c33 c77 c63 c70 c44 c62 c71 c72 c43 c68 k ) (f_ref7_bits.g26 c73 c74 c76 c75 c69 c34 c33 c77 c63 c70 c44 c62 c71 c72 c43 c68 k ) x0 x4 x5 x6)
def f_ref7_bits.g19 (c73 : f_ref3_Ones.E) (c74 : f_ref7_places.E) (c76 : f_ref7_fromPlaces.E) (c75 : f_ref7_integer.E) (c69 : f_ref7_Negative.E) (c34 : f_ref7_Raise.E) (c33 : f_ref7_Zero.E) (c77 : f_ref7_N.E) (c63 : f_ref7_Result.E) (c70 : f_ref3_Number.E) (c44 : f_ref3_Int_Order.E) (c62 : f_ref7_TooLarge.E) (c71 : f_ref7_Clamp.E) (c72 : f_ref3_Int_Raised.E) (c43 : f_ref3_Int_Times.E) (c68 : f_ref3_Int_Floor.E) (k : Nat)  (x0 : Int) (x4 : (Bool) × (List (Int))) (x5 : (Bool) × (List (Int))) (x6 : (Int) × (X_Value × ((Int) × ((List UInt8) × (X_Value × (List X_Value)))))) : Option X_Step := gate k (f_ref7_bits.b_g19 c73 c74 c76 c75 c69 c34 c33 c77 c63 c70 c44 c62 c71 c72 c43 c68 (f_ref7_bits.g21 c73 c74 c76 c75 c69 c34 c33 c77 c63 c70 c44 c62 c71 c72 c43 c68 k ) x0 x4 x5 x6)
def f_ref7_bits.f (c73 : f_ref3_Ones.E) (c74 : f_ref7_places.E) (c76 : f_ref7_fromPlaces.E) (c75 : f_ref7_integer.E) (c69 : f_ref7_Negative.E) (c34 : f_ref7_Raise.E) (c33 : f_ref7_Zero.E) (c77 : f_ref7_N.E) (c63 : f_ref7_Result.E) (c70 : f_ref3_Number.E) (c44 : f_ref3_Int_Order.E) (c62 : f_ref7_TooLarge.E) (c71 : f_ref7_Clamp.E) (c72 : f_ref3_Int_Raised.E) (c43 : f_ref3_Int_Times.E) (c68 : f_ref3_Int_Floor.E) (k : Nat) (a0 : Int) (a1 : (Bool) × (List (Int))) (a2 : (Bool) × (List (Int))) : Option X_Step := f_ref7_bits.b c73 c74 c76 c75 c69 c34 c33 c77 c63 c70 c44 c62 c71 c72 c43 c68 (f_ref7_bits.g2 c73 c74 c76 c75 c69 c34 c33 c77 c63 c70 c44 c62 c71 c72 c43 c68 k) (f_ref7_bits.g19 c73 c74 c76 c75 c69 c34 c33 c77 c63 c70 c44 c62 c71 c72 c43 c68 k) a0 a1 a2
noncomputable def f_ref7_bits.M_g2 (c73 : f_ref3_Ones.E) (c74 : f_ref7_places.E) (c76 : f_ref7_fromPlaces.E) (c75 : f_ref7_integer.E) (c69 : f_ref7_Negative.E) (c34 : f_ref7_Raise.E) (c33 : f_ref7_Zero.E) (c77 : f_ref7_N.E) (c63 : f_ref7_Result.E) (c70 : f_ref3_Number.E) (c44 : f_ref3_Int_Order.E) (c62 : f_ref7_TooLarge.E) (c71 : f_ref7_Clamp.E) (c72 : f_ref3_Int_Raised.E) (c43 : f_ref3_Int_Times.E) (c68 : f_ref3_Int_Floor.E) (k : Nat)  (s : St) : Option X_Step := atGate (f_ref7_bits.C c73 c74 c76 c75 c69 c34 c33 c77 c63 c70 c44 c62 c71 c72 c43 c68) k [1, 0, 1, 0, 0] [] f_ref7_bits.code (f_ref7_bits.fin c73 c74 c76 c75 c69 c34 c33 c77 c63 c70 c44 c62 c71 c72 c43 c68) s
noncomputable def f_ref7_bits.fr_g2 (x0 : Int) (x4 : (Bool) × (List (Int))) (x5 : (Bool) × (List (Int))) (x6 : (Int) × (X_Value × ((Int) × ((List UInt8) × (X_Value × (List X_Value)))))) : St := ⟨(((((List.replicate 141 V.un).set 0 (V.dat (.int .i64) x0)).set 4 (V.bp 600004 0 [])).set 5 (V.bp 600005 0 [])).set 6 (V.bp 600006 0 [])), [⟨600006, 0, .box (V.st (V.dat (.int .i64) x6.1) (V.st (V.st (V.dat (.int .i64) x6.2.1.1) (V.st (V.st (V.dat .bool x6.2.1.2.1.1) (V.ref 11600096 0 0 (List.length x6.2.1.2.1.2))) (V.st (V.st (V.dat .bool x6.2.1.2.2.1.1) (V.ref 11600097 0 0 (List.length x6.2.1.2.2.1.2))) (V.dat (.pair .str (.int .i64)) x6.2.1.2.2.2)))) (V.st (V.dat (.int .i64) x6.2.2.1) (V.st (V.dat .str x6.2.2.2.1) (V.st (V.st (V.dat (.int .i64) x6.2.2.2.2.1.1) (V.st (V.st (V.dat .bool x6.2.2.2.2.1.2.1.1) (V.ref 11600098 0 0 (List.length x6.2.2.2.2.1.2.1.2))) (V.st (V.st (V.dat .bool x6.2.2.2.2.1.2.2.1.1) (V.ref 11600099 0 0 (List.length x6.2.2.2.2.1.2.2.1.2))) (V.dat (.pair .str (.int .i64)) x6.2.2.2.2.1.2.2.2)))) (V.ref 11600100 0 0 (List.length x6.2.2.2.2.2)))))))⟩, ⟨11600096, 0, .arr 61 (.int .u32) x6.2.1.2.1.2⟩, ⟨11600097, 0, .arr 61 (.int .u32) x6.2.1.2.2.1.2⟩, ⟨11600098, 0, .arr 61 (.int .u32) x6.2.2.2.2.1.2.1.2⟩, ⟨11600099, 0, .arr 61 (.int .u32) x6.2.2.2.2.1.2.2.1.2⟩, ⟨11600100, 0, .arr 26 Y_Value x6.2.2.2.2.2⟩, ⟨600005, 0, .box (V.dat (.pair .bool (.sl 3 (.int .i64))) x5)⟩, ⟨600004, 0, .box (V.dat (.pair .bool (.sl 3 (.int .i64))) x4)⟩]⟩
noncomputable def f_ref7_bits.M_l0 (c73 : f_ref3_Ones.E) (c74 : f_ref7_places.E) (c76 : f_ref7_fromPlaces.E) (c75 : f_ref7_integer.E) (c69 : f_ref7_Negative.E) (c34 : f_ref7_Raise.E) (c33 : f_ref7_Zero.E) (c77 : f_ref7_N.E) (c63 : f_ref7_Result.E) (c70 : f_ref3_Number.E) (c44 : f_ref3_Int_Order.E) (c62 : f_ref7_TooLarge.E) (c71 : f_ref7_Clamp.E) (c72 : f_ref3_Int_Raised.E) (c43 : f_ref3_Int_Times.E) (c68 : f_ref3_Int_Floor.E) (k n : Nat)  (s : St) : Option X_Step := atLoop (f_ref7_bits.C c73 c74 c76 c75 c69 c34 c33 c77 c63 c70 c44 c62 c71 c72 c43 c68) k n [1, 0, 1, 0, 1, 1, 0, 1, 0] [] f_ref7_bits.code (f_ref7_bits.fin c73 c74 c76 c75 c69 c34 c33 c77 c63 c70 c44 c62 c71 c72 c43 c68) s
noncomputable def f_ref7_bits.fr_l0 (x0 : Int) (x6 : (Int) × (X_Value × ((Int) × ((List UInt8) × (X_Value × (List X_Value)))))) (x8 : List (Bool)) (x9 : List (Bool)) (x42 : Int) (x43 : Int) : St := ⟨(((((((List.replicate 141 V.un).set 0 (V.dat (.int .i64) x0)).set 6 (V.bp 600006 0 [])).set 8 (V.ref 500008 0 0 (List.length x8))).set 9 (V.ref 500009 0 0 (List.length x9))).set 42 (V.dat (.int .i64) x42)).set 43 (V.dat (.int .i64) x43)), [⟨500009, 0, .arr 4 .bool x9⟩, ⟨500008, 0, .arr 4 .bool x8⟩, ⟨600006, 0, .box (V.st (V.dat (.int .i64) x6.1) (V.st (V.st (V.dat (.int .i64) x6.2.1.1) (V.st (V.st (V.dat .bool x6.2.1.2.1.1) (V.ref 11600096 0 0 (List.length x6.2.1.2.1.2))) (V.st (V.st (V.dat .bool x6.2.1.2.2.1.1) (V.ref 11600097 0 0 (List.length x6.2.1.2.2.1.2))) (V.dat (.pair .str (.int .i64)) x6.2.1.2.2.2)))) (V.st (V.dat (.int .i64) x6.2.2.1) (V.st (V.dat .str x6.2.2.2.1) (V.st (V.st (V.dat (.int .i64) x6.2.2.2.2.1.1) (V.st (V.st (V.dat .bool x6.2.2.2.2.1.2.1.1) (V.ref 11600098 0 0 (List.length x6.2.2.2.2.1.2.1.2))) (V.st (V.st (V.dat .bool x6.2.2.2.2.1.2.2.1.1) (V.ref 11600099 0 0 (List.length x6.2.2.2.2.1.2.2.1.2))) (V.dat (.pair .str (.int .i64)) x6.2.2.2.2.1.2.2.2)))) (V.ref 11600100 0 0 (List.length x6.2.2.2.2.2)))))))⟩, ⟨11600096, 0, .arr 61 (.int .u32) x6.2.1.2.1.2⟩, ⟨11600097, 0, .arr 61 (.int .u32) x6.2.1.2.2.1.2⟩, ⟨11600098, 0, .arr 61 (.int .u32) x6.2.2.2.2.1.2.1.2⟩, ⟨11600099, 0, .arr 61 (.int .u32) x6.2.2.2.2.1.2.2.1.2⟩, ⟨11600100, 0, .arr 26 Y_Value x6.2.2.2.2.2⟩]⟩
noncomputable def f_ref7_bits.M_g19 (c73 : f_ref3_Ones.E) (c74 : f_ref7_places.E) (c76 : f_ref7_fromPlaces.E) (c75 : f_ref7_integer.E) (c69 : f_ref7_Negative.E) (c34 : f_ref7_Raise.E) (c33 : f_ref7_Zero.E) (c77 : f_ref7_N.E) (c63 : f_ref7_Result.E) (c70 : f_ref3_Number.E) (c44 : f_ref3_Int_Order.E) (c62 : f_ref7_TooLarge.E) (c71 : f_ref7_Clamp.E) (c72 : f_ref3_Int_Raised.E) (c43 : f_ref3_Int_Times.E) (c68 : f_ref3_Int_Floor.E) (k : Nat)  (s : St) : Option X_Step := atGate (f_ref7_bits.C c73 c74 c76 c75 c69 c34 c33 c77 c63 c70 c44 c62 c71 c72 c43 c68) k [1, 1, 1, 1, 0, 0] [] f_ref7_bits.code (f_ref7_bits.fin c73 c74 c76 c75 c69 c34 c33 c77 c63 c70 c44 c62 c71 c72 c43 c68) s
noncomputable def f_ref7_bits.fr_g19 (x0 : Int) (x4 : (Bool) × (List (Int))) (x5 : (Bool) × (List (Int))) (x6 : (Int) × (X_Value × ((Int) × ((List UInt8) × (X_Value × (List X_Value)))))) : St := ⟨(((((List.replicate 141 V.un).set 0 (V.dat (.int .i64) x0)).set 4 (V.bp 600004 0 [])).set 5 (V.bp 600005 0 [])).set 6 (V.bp 600006 0 [])), [⟨600006, 0, .box (V.st (V.dat (.int .i64) x6.1) (V.st (V.st (V.dat (.int .i64) x6.2.1.1) (V.st (V.st (V.dat .bool x6.2.1.2.1.1) (V.ref 11600096 0 0 (List.length x6.2.1.2.1.2))) (V.st (V.st (V.dat .bool x6.2.1.2.2.1.1) (V.ref 11600097 0 0 (List.length x6.2.1.2.2.1.2))) (V.dat (.pair .str (.int .i64)) x6.2.1.2.2.2)))) (V.st (V.dat (.int .i64) x6.2.2.1) (V.st (V.dat .str x6.2.2.2.1) (V.st (V.st (V.dat (.int .i64) x6.2.2.2.2.1.1) (V.st (V.st (V.dat .bool x6.2.2.2.2.1.2.1.1) (V.ref 11600098 0 0 (List.length x6.2.2.2.2.1.2.1.2))) (V.st (V.st (V.dat .bool x6.2.2.2.2.1.2.2.1.1) (V.ref 11600099 0 0 (List.length x6.2.2.2.2.1.2.2.1.2))) (V.dat (.pair .str (.int .i64)) x6.2.2.2.2.1.2.2.2)))) (V.ref 11600100 0 0 (List.length x6.2.2.2.2.2)))))))⟩, ⟨11600096, 0, .arr 61 (.int .u32) x6.2.1.2.1.2⟩, ⟨11600097, 0, .arr 61 (.int .u32) x6.2.1.2.2.1.2⟩, ⟨11600098, 0, .arr 61 (.int .u32) x6.2.2.2.2.1.2.1.2⟩, ⟨11600099, 0, .arr 61 (.int .u32) x6.2.2.2.2.1.2.2.1.2⟩, ⟨11600100, 0, .arr 26 Y_Value x6.2.2.2.2.2⟩, ⟨600005, 0, .box (V.dat (.pair .bool (.sl 3 (.int .i64))) x5)⟩, ⟨600004, 0, .box (V.dat (.pair .bool (.sl 3 (.int .i64))) x4)⟩]⟩
noncomputable def f_ref7_bits.M_g21 (c73 : f_ref3_Ones.E) (c74 : f_ref7_places.E) (c76 : f_ref7_fromPlaces.E) (c75 : f_ref7_integer.E) (c69 : f_ref7_Negative.E) (c34 : f_ref7_Raise.E) (c33 : f_ref7_Zero.E) (c77 : f_ref7_N.E) (c63 : f_ref7_Result.E) (c70 : f_ref3_Number.E) (c44 : f_ref3_Int_Order.E) (c62 : f_ref7_TooLarge.E) (c71 : f_ref7_Clamp.E) (c72 : f_ref3_Int_Raised.E) (c43 : f_ref3_Int_Times.E) (c68 : f_ref3_Int_Floor.E) (k : Nat)  (s : St) : Option X_Step := atGate (f_ref7_bits.C c73 c74 c76 c75 c69 c34 c33 c77 c63 c70 c44 c62 c71 c72 c43 c68) k [1, 1, 1, 1, 1, 0] [] f_ref7_bits.code (f_ref7_bits.fin c73 c74 c76 c75 c69 c34 c33 c77 c63 c70 c44 c62 c71 c72 c43 c68) s
noncomputable def f_ref7_bits.fr_g21 (x0 : Int) (x4 : (Bool) × (List (Int))) (x5 : (Bool) × (List (Int))) (x6 : (Int) × (X_Value × ((Int) × ((List UInt8) × (X_Value × (List X_Value)))))) : St := ⟨(((((List.replicate 141 V.un).set 0 (V.dat (.int .i64) x0)).set 4 (V.bp 600004 0 [])).set 5 (V.bp 600005 0 [])).set 6 (V.bp 600006 0 [])), [⟨600006, 0, .box (V.st (V.dat (.int .i64) x6.1) (V.st (V.st (V.dat (.int .i64) x6.2.1.1) (V.st (V.st (V.dat .bool x6.2.1.2.1.1) (V.ref 11600096 0 0 (List.length x6.2.1.2.1.2))) (V.st (V.st (V.dat .bool x6.2.1.2.2.1.1) (V.ref 11600097 0 0 (List.length x6.2.1.2.2.1.2))) (V.dat (.pair .str (.int .i64)) x6.2.1.2.2.2)))) (V.st (V.dat (.int .i64) x6.2.2.1) (V.st (V.dat .str x6.2.2.2.1) (V.st (V.st (V.dat (.int .i64) x6.2.2.2.2.1.1) (V.st (V.st (V.dat .bool x6.2.2.2.2.1.2.1.1) (V.ref 11600098 0 0 (List.length x6.2.2.2.2.1.2.1.2))) (V.st (V.st (V.dat .bool x6.2.2.2.2.1.2.2.1.1) (V.ref 11600099 0 0 (List.length x6.2.2.2.2.1.2.2.1.2))) (V.dat (.pair .str (.int .i64)) x6.2.2.2.2.1.2.2.2)))) (V.ref 11600100 0 0 (List.length x6.2.2.2.2.2)))))))⟩, ⟨11600096, 0, .arr 61 (.int .u32) x6.2.1.2.1.2⟩, ⟨11600097, 0, .arr 61 (.int .u32) x6.2.1.2.2.1.2⟩, ⟨11600098, 0, .arr 61 (.int .u32) x6.2.2.2.2.1.2.1.2⟩, ⟨11600099, 0, .arr 61 (.int .u32) x6.2.2.2.2.1.2.2.1.2⟩, ⟨11600100, 0, .arr 26 Y_Value x6.2.2.2.2.2⟩, ⟨600005, 0, .box (V.dat (.pair .bool (.sl 3 (.int .i64))) x5)⟩, ⟨600004, 0, .box (V.dat (.pair .bool (.sl 3 (.int .i64))) x4)⟩]⟩
noncomputable def f_ref7_bits.M_g25 (c73 : f_ref3_Ones.E) (c74 : f_ref7_places.E) (c76 : f_ref7_fromPlaces.E) (c75 : f_ref7_integer.E) (c69 : f_ref7_Negative.E) (c34 : f_ref7_Raise.E) (c33 : f_ref7_Zero.E) (c77 : f_ref7_N.E) (c63 : f_ref7_Result.E) (c70 : f_ref3_Number.E) (c44 : f_ref3_Int_Order.E) (c62 : f_ref7_TooLarge.E) (c71 : f_ref7_Clamp.E) (c72 : f_ref3_Int_Raised.E) (c43 : f_ref3_Int_Times.E) (c68 : f_ref3_Int_Floor.E) (k : Nat)  (s : St) : Option X_Step := atGate (f_ref7_bits.C c73 c74 c76 c75 c69 c34 c33 c77 c63 c70 c44 c62 c71 c72 c43 c68) k [1, 1, 1, 1, 1, 1, 1, 0, 1, 0, 0] [] f_ref7_bits.code (f_ref7_bits.fin c73 c74 c76 c75 c69 c34 c33 c77 c63 c70 c44 c62 c71 c72 c43 c68) s
noncomputable def f_ref7_bits.fr_g25 (x4 : (Bool) × (List (Int))) (x6 : (Int) × (X_Value × ((Int) × ((List UInt8) × (X_Value × (List X_Value)))))) (x11 : (Bool) × (List (Int))) : St := ⟨((((List.replicate 141 V.un).set 4 (V.bp 600004 0 [])).set 6 (V.bp 600006 0 [])).set 11 (V.bp 600011 0 [])), [⟨600011, 0, .box (V.dat (.pair .bool (.sl 3 (.int .i64))) x11)⟩, ⟨600006, 0, .box (V.st (V.dat (.int .i64) x6.1) (V.st (V.st (V.dat (.int .i64) x6.2.1.1) (V.st (V.st (V.dat .bool x6.2.1.2.1.1) (V.ref 11600096 0 0 (List.length x6.2.1.2.1.2))) (V.st (V.st (V.dat .bool x6.2.1.2.2.1.1) (V.ref 11600097 0 0 (List.length x6.2.1.2.2.1.2))) (V.dat (.pair .str (.int .i64)) x6.2.1.2.2.2)))) (V.st (V.dat (.int .i64) x6.2.2.1) (V.st (V.dat .str x6.2.2.2.1) (V.st (V.st (V.dat (.int .i64) x6.2.2.2.2.1.1) (V.st (V.st (V.dat .bool x6.2.2.2.2.1.2.1.1) (V.ref 11600098 0 0 (List.length x6.2.2.2.2.1.2.1.2))) (V.st (V.st (V.dat .bool x6.2.2.2.2.1.2.2.1.1) (V.ref 11600099 0 0 (List.length x6.2.2.2.2.1.2.2.1.2))) (V.dat (.pair .str (.int .i64)) x6.2.2.2.2.1.2.2.2)))) (V.ref 11600100 0 0 (List.length x6.2.2.2.2.2)))))))⟩, ⟨11600096, 0, .arr 61 (.int .u32) x6.2.1.2.1.2⟩, ⟨11600097, 0, .arr 61 (.int .u32) x6.2.1.2.2.1.2⟩, ⟨11600098, 0, .arr 61 (.int .u32) x6.2.2.2.2.1.2.1.2⟩, ⟨11600099, 0, .arr 61 (.int .u32) x6.2.2.2.2.1.2.2.1.2⟩, ⟨11600100, 0, .arr 26 Y_Value x6.2.2.2.2.2⟩, ⟨600004, 0, .box (V.dat (.pair .bool (.sl 3 (.int .i64))) x4)⟩]⟩
noncomputable def f_ref7_bits.M_g26 (c73 : f_ref3_Ones.E) (c74 : f_ref7_places.E) (c76 : f_ref7_fromPlaces.E) (c75 : f_ref7_integer.E) (c69 : f_ref7_Negative.E) (c34 : f_ref7_Raise.E) (c33 : f_ref7_Zero.E) (c77 : f_ref7_N.E) (c63 : f_ref7_Result.E) (c70 : f_ref3_Number.E) (c44 : f_ref3_Int_Order.E) (c62 : f_ref7_TooLarge.E) (c71 : f_ref7_Clamp.E) (c72 : f_ref3_Int_Raised.E) (c43 : f_ref3_Int_Times.E) (c68 : f_ref3_Int_Floor.E) (k : Nat)  (s : St) : Option X_Step := atGate (f_ref7_bits.C c73 c74 c76 c75 c69 c34 c33 c77 c63 c70 c44 c62 c71 c72 c43 c68) k [1, 1, 1, 1, 1, 1, 1, 1, 0] [] f_ref7_bits.code (f_ref7_bits.fin c73 c74 c76 c75 c69 c34 c33 c77 c63 c70 c44 c62 c71 c72 c43 c68) s
noncomputable def f_ref7_bits.fr_g26 (x4 : (Bool) × (List (Int))) (x6 : (Int) × (X_Value × ((Int) × ((List UInt8) × (X_Value × (List X_Value)))))) (x11 : (Bool) × (List (Int))) : St := ⟨((((List.replicate 141 V.un).set 4 (V.bp 600004 0 [])).set 6 (V.bp 600006 0 [])).set 11 (V.bp 600011 0 [])), [⟨600011, 0, .box (V.dat (.pair .bool (.sl 3 (.int .i64))) x11)⟩, ⟨600006, 0, .box (V.st (V.dat (.int .i64) x6.1) (V.st (V.st (V.dat (.int .i64) x6.2.1.1) (V.st (V.st (V.dat .bool x6.2.1.2.1.1) (V.ref 11600096 0 0 (List.length x6.2.1.2.1.2))) (V.st (V.st (V.dat .bool x6.2.1.2.2.1.1) (V.ref 11600097 0 0 (List.length x6.2.1.2.2.1.2))) (V.dat (.pair .str (.int .i64)) x6.2.1.2.2.2)))) (V.st (V.dat (.int .i64) x6.2.2.1) (V.st (V.dat .str x6.2.2.2.1) (V.st (V.st (V.dat (.int .i64) x6.2.2.2.2.1.1) (V.st (V.st (V.dat .bool x6.2.2.2.2.1.2.1.1) (V.ref 11600098 0 0 (List.length x6.2.2.2.2.1.2.1.2))) (V.st (V.st (V.dat .bool x6.2.2.2.2.1.2.2.1.1) (V.ref 11600099 0 0 (List.length x6.2.2.2.2.1.2.2.1.2))) (V.dat (.pair .str (.int .i64)) x6.2.2.2.2.1.2.2.2)))) (V.ref 11600100 0 0 (List.length x6.2.2.2.2.2)))))))⟩, ⟨11600096, 0, .arr 61 (.int .u32) x6.2.1.2.1.2⟩, ⟨11600097, 0, .arr 61 (.int .u32) x6.2.1.2.2.1.2⟩, ⟨11600098, 0, .arr 61 (.int .u32) x6.2.2.2.2.1.2.1.2⟩, ⟨11600099, 0, .arr 61 (.int .u32) x6.2.2.2.2.1.2.2.1.2⟩, ⟨11600100, 0, .arr 26 Y_Value x6.2.2.2.2.2⟩, ⟨600004, 0, .box (V.dat (.pair .bool (.sl 3 (.int .i64))) x4)⟩]⟩
theorem f_ref7_bits.r (c73 : f_ref3_Ones.E) (c74 : f_ref7_places.E) (c76 : f_ref7_fromPlaces.E) (c75 : f_ref7_integer.E) (c69 : f_ref7_Negative.E) (c34 : f_ref7_Raise.E) (c33 : f_ref7_Zero.E) (c77 : f_ref7_N.E) (c63 : f_ref7_Result.E) (c70 : f_ref3_Number.E) (c44 : f_ref3_Int_Order.E) (c62 : f_ref7_TooLarge.E) (c71 : f_ref7_Clamp.E) (c72 : f_ref3_Int_Raised.E) (c43 : f_ref3_Int_Times.E) (c68 : f_ref3_Int_Floor.E) (k : Nat) (a0 : Int) (a1 : (Bool) × (List (Int))) (a2 : (Bool) × (List (Int))) : fn (f_ref7_bits.C c73 c74 c76 c75 c69 c34 c33 c77 c63 c70 c44 c62 c71 c72 c43 c68) k Tryd.f40 f_ref7_bits.A f_ref7_bits.R (a0, (a1, a2)) = f_ref7_bits.b c73 c74 c76 c75 c69 c34 c33 c77 c63 c70 c44 c62 c71 c72 c43 c68 (fun x0 x4 x5 x6 => f_ref7_bits.M_g2 c73 c74 c76 c75 c69 c34 c33 c77 c63 c70 c44 c62 c71 c72 c43 c68 k   (f_ref7_bits.fr_g2 x0 x4 x5 x6)) (fun x0 x4 x5 x6 => f_ref7_bits.M_g19 c73 c74 c76 c75 c69 c34 c33 c77 c63 c70 c44 c62 c71 c72 c43 c68 k   (f_ref7_bits.fr_g19 x0 x4 x5 x6)) a0 a1 a2 := by kernel_rfl
theorem f_ref7_bits.r_g2 (c73 : f_ref3_Ones.E) (c74 : f_ref7_places.E) (c76 : f_ref7_fromPlaces.E) (c75 : f_ref7_integer.E) (c69 : f_ref7_Negative.E) (c34 : f_ref7_Raise.E) (c33 : f_ref7_Zero.E) (c77 : f_ref7_N.E) (c63 : f_ref7_Result.E) (c70 : f_ref3_Number.E) (c44 : f_ref3_Int_Order.E) (c62 : f_ref7_TooLarge.E) (c71 : f_ref7_Clamp.E) (c72 : f_ref3_Int_Raised.E) (c43 : f_ref3_Int_Times.E) (c68 : f_ref3_Int_Floor.E) (k : Nat)  (x0 : Int) (x4 : (Bool) × (List (Int))) (x5 : (Bool) × (List (Int))) (x6 : (Int) × (X_Value × ((Int) × ((List UInt8) × (X_Value × (List X_Value)))))) : f_ref7_bits.M_g2 c73 c74 c76 c75 c69 c34 c33 c77 c63 c70 c44 c62 c71 c72 c43 c68 k  (f_ref7_bits.fr_g2 x0 x4 x5 x6) = gate k (f_ref7_bits.b_g2 c73 c74 c76 c75 c69 c34 c33 c77 c63 c70 c44 c62 c71 c72 c43 c68 (fun x0 x6 x8 x9 x42 x43 => f_ref7_bits.M_l0 c73 c74 c76 c75 c69 c34 c33 c77 c63 c70 c44 c62 c71 c72 c43 c68 k k  (f_ref7_bits.fr_l0 x0 x6 x8 x9 x42 x43)) x0 x4 x5 x6) := by kernel_rfl
theorem f_ref7_bits.z_l0 (c73 : f_ref3_Ones.E) (c74 : f_ref7_places.E) (c76 : f_ref7_fromPlaces.E) (c75 : f_ref7_integer.E) (c69 : f_ref7_Negative.E) (c34 : f_ref7_Raise.E) (c33 : f_ref7_Zero.E) (c77 : f_ref7_N.E) (c63 : f_ref7_Result.E) (c70 : f_ref3_Number.E) (c44 : f_ref3_Int_Order.E) (c62 : f_ref7_TooLarge.E) (c71 : f_ref7_Clamp.E) (c72 : f_ref3_Int_Raised.E) (c43 : f_ref3_Int_Times.E) (c68 : f_ref3_Int_Floor.E) (k : Nat)  (s : St) : f_ref7_bits.M_l0 c73 c74 c76 c75 c69 c34 c33 c77 c63 c70 c44 c62 c71 c72 c43 c68 k 0  s = none := by kernel_rfl
theorem f_ref7_bits.r_l0 (c73 : f_ref3_Ones.E) (c74 : f_ref7_places.E) (c76 : f_ref7_fromPlaces.E) (c75 : f_ref7_integer.E) (c69 : f_ref7_Negative.E) (c34 : f_ref7_Raise.E) (c33 : f_ref7_Zero.E) (c77 : f_ref7_N.E) (c63 : f_ref7_Result.E) (c70 : f_ref3_Number.E) (c44 : f_ref3_Int_Order.E) (c62 : f_ref7_TooLarge.E) (c71 : f_ref7_Clamp.E) (c72 : f_ref3_Int_Raised.E) (c43 : f_ref3_Int_Times.E) (c68 : f_ref3_Int_Floor.E) (k n : Nat)  (x0 : Int) (x6 : (Int) × (X_Value × ((Int) × ((List UInt8) × (X_Value × (List X_Value)))))) (x8 : List (Bool)) (x9 : List (Bool)) (x42 : Int) (x43 : Int) : f_ref7_bits.M_l0 c73 c74 c76 c75 c69 c34 c33 c77 c63 c70 c44 c62 c71 c72 c43 c68 k (n + 1)  (f_ref7_bits.fr_l0 x0 x6 x8 x9 x42 x43) = f_ref7_bits.b_l0 c73 c74 c76 c75 c69 c34 c33 c77 c63 c70 c44 c62 c71 c72 c43 c68 (fun x0 x6 x8 x9 x42 x43 => f_ref7_bits.M_l0 c73 c74 c76 c75 c69 c34 c33 c77 c63 c70 c44 c62 c71 c72 c43 c68 k n  (f_ref7_bits.fr_l0 x0 x6 x8 x9 x42 x43)) x0 x6 x8 x9 x42 x43 := by kernel_rfl
theorem f_ref7_bits.r_g19 (c73 : f_ref3_Ones.E) (c74 : f_ref7_places.E) (c76 : f_ref7_fromPlaces.E) (c75 : f_ref7_integer.E) (c69 : f_ref7_Negative.E) (c34 : f_ref7_Raise.E) (c33 : f_ref7_Zero.E) (c77 : f_ref7_N.E) (c63 : f_ref7_Result.E) (c70 : f_ref3_Number.E) (c44 : f_ref3_Int_Order.E) (c62 : f_ref7_TooLarge.E) (c71 : f_ref7_Clamp.E) (c72 : f_ref3_Int_Raised.E) (c43 : f_ref3_Int_Times.E) (c68 : f_ref3_Int_Floor.E) (k : Nat)  (x0 : Int) (x4 : (Bool) × (List (Int))) (x5 : (Bool) × (List (Int))) (x6 : (Int) × (X_Value × ((Int) × ((List UInt8) × (X_Value × (List X_Value)))))) : f_ref7_bits.M_g19 c73 c74 c76 c75 c69 c34 c33 c77 c63 c70 c44 c62 c71 c72 c43 c68 k  (f_ref7_bits.fr_g19 x0 x4 x5 x6) = gate k (f_ref7_bits.b_g19 c73 c74 c76 c75 c69 c34 c33 c77 c63 c70 c44 c62 c71 c72 c43 c68 (fun x0 x4 x5 x6 => f_ref7_bits.M_g21 c73 c74 c76 c75 c69 c34 c33 c77 c63 c70 c44 c62 c71 c72 c43 c68 k   (f_ref7_bits.fr_g21 x0 x4 x5 x6)) x0 x4 x5 x6) := by kernel_rfl
theorem f_ref7_bits.r_g21 (c73 : f_ref3_Ones.E) (c74 : f_ref7_places.E) (c76 : f_ref7_fromPlaces.E) (c75 : f_ref7_integer.E) (c69 : f_ref7_Negative.E) (c34 : f_ref7_Raise.E) (c33 : f_ref7_Zero.E) (c77 : f_ref7_N.E) (c63 : f_ref7_Result.E) (c70 : f_ref3_Number.E) (c44 : f_ref3_Int_Order.E) (c62 : f_ref7_TooLarge.E) (c71 : f_ref7_Clamp.E) (c72 : f_ref3_Int_Raised.E) (c43 : f_ref3_Int_Times.E) (c68 : f_ref3_Int_Floor.E) (k : Nat)  (x0 : Int) (x4 : (Bool) × (List (Int))) (x5 : (Bool) × (List (Int))) (x6 : (Int) × (X_Value × ((Int) × ((List UInt8) × (X_Value × (List X_Value)))))) : f_ref7_bits.M_g21 c73 c74 c76 c75 c69 c34 c33 c77 c63 c70 c44 c62 c71 c72 c43 c68 k  (f_ref7_bits.fr_g21 x0 x4 x5 x6) = gate k (f_ref7_bits.b_g21 c73 c74 c76 c75 c69 c34 c33 c77 c63 c70 c44 c62 c71 c72 c43 c68 (fun x4 x6 x11 => f_ref7_bits.M_g25 c73 c74 c76 c75 c69 c34 c33 c77 c63 c70 c44 c62 c71 c72 c43 c68 k   (f_ref7_bits.fr_g25 x4 x6 x11)) (fun x4 x6 x11 => f_ref7_bits.M_g26 c73 c74 c76 c75 c69 c34 c33 c77 c63 c70 c44 c62 c71 c72 c43 c68 k   (f_ref7_bits.fr_g26 x4 x6 x11)) x0 x4 x5 x6) := by kernel_rfl
theorem f_ref7_bits.r_g25 (c73 : f_ref3_Ones.E) (c74 : f_ref7_places.E) (c76 : f_ref7_fromPlaces.E) (c75 : f_ref7_integer.E) (c69 : f_ref7_Negative.E) (c34 : f_ref7_Raise.E) (c33 : f_ref7_Zero.E) (c77 : f_ref7_N.E) (c63 : f_ref7_Result.E) (c70 : f_ref3_Number.E) (c44 : f_ref3_Int_Order.E) (c62 : f_ref7_TooLarge.E) (c71 : f_ref7_Clamp.E) (c72 : f_ref3_Int_Raised.E) (c43 : f_ref3_Int_Times.E) (c68 : f_ref3_Int_Floor.E) (k : Nat)  (x4 : (Bool) × (List (Int))) (x6 : (Int) × (X_Value × ((Int) × ((List UInt8) × (X_Value × (List X_Value)))))) (x11 : (Bool) × (List (Int))) : f_ref7_bits.M_g25 c73 c74 c76 c75 c69 c34 c33 c77 c63 c70 c44 c62 c71 c72 c43 c68 k  (f_ref7_bits.fr_g25 x4 x6 x11) = gate k (f_ref7_bits.b_g25 c73 c74 c76 c75 c69 c34 c33 c77 c63 c70 c44 c62 c71 c72 c43 c68  x4 x6 x11) := by kernel_rfl
theorem f_ref7_bits.r_g26 (c73 : f_ref3_Ones.E) (c74 : f_ref7_places.E) (c76 : f_ref7_fromPlaces.E) (c75 : f_ref7_integer.E) (c69 : f_ref7_Negative.E) (c34 : f_ref7_Raise.E) (c33 : f_ref7_Zero.E) (c77 : f_ref7_N.E) (c63 : f_ref7_Result.E) (c70 : f_ref3_Number.E) (c44 : f_ref3_Int_Order.E) (c62 : f_ref7_TooLarge.E) (c71 : f_ref7_Clamp.E) (c72 : f_ref3_Int_Raised.E) (c43 : f_ref3_Int_Times.E) (c68 : f_ref3_Int_Floor.E) (k : Nat)  (x4 : (Bool) × (List (Int))) (x6 : (Int) × (X_Value × ((Int) × ((List UInt8) × (X_Value × (List X_Value)))))) (x11 : (Bool) × (List (Int))) : f_ref7_bits.M_g26 c73 c74 c76 c75 c69 c34 c33 c77 c63 c70 c44 c62 c71 c72 c43 c68 k  (f_ref7_bits.fr_g26 x4 x6 x11) = gate k (f_ref7_bits.b_g26 c73 c74 c76 c75 c69 c34 c33 c77 c63 c70 c44 c62 c71 c72 c43 c68  x4 x6 x11) := by kernel_rfl
theorem f_ref7_bits.e_l0 (c73 : f_ref3_Ones.E) (c74 : f_ref7_places.E) (c76 : f_ref7_fromPlaces.E) (c75 : f_ref7_integer.E) (c69 : f_ref7_Negative.E) (c34 : f_ref7_Raise.E) (c33 : f_ref7_Zero.E) (c77 : f_ref7_N.E) (c63 : f_ref7_Result.E) (c70 : f_ref3_Number.E) (c44 : f_ref3_Int_Order.E) (c62 : f_ref7_TooLarge.E) (c71 : f_ref7_Clamp.E) (c72 : f_ref3_Int_Raised.E) (c43 : f_ref3_Int_Times.E) (c68 : f_ref3_Int_Floor.E) (k n : Nat)  (x0 : Int) (x6 : (Int) × (X_Value × ((Int) × ((List UInt8) × (X_Value × (List X_Value)))))) (x8 : List (Bool)) (x9 : List (Bool)) (x42 : Int) (x43 : Int) : f_ref7_bits.M_l0 c73 c74 c76 c75 c69 c34 c33 c77 c63 c70 c44 c62 c71 c72 c43 c68 k n  (f_ref7_bits.fr_l0 x0 x6 x8 x9 x42 x43) = f_ref7_bits.l0 c73 c74 c76 c75 c69 c34 c33 c77 c63 c70 c44 c62 c71 c72 c43 c68 k  n x0 x6 x8 x9 x42 x43 := by
  induction n generalizing x0 x6 x8 x9 x42 x43 with
  | zero => rw [f_ref7_bits.z_l0]; rfl
  | succ n ih =>
    rw [f_ref7_bits.r_l0]
    simp only [ih]
    rfl
theorem f_ref7_bits.e_g2 (c73 : f_ref3_Ones.E) (c74 : f_ref7_places.E) (c76 : f_ref7_fromPlaces.E) (c75 : f_ref7_integer.E) (c69 : f_ref7_Negative.E) (c34 : f_ref7_Raise.E) (c33 : f_ref7_Zero.E) (c77 : f_ref7_N.E) (c63 : f_ref7_Result.E) (c70 : f_ref3_Number.E) (c44 : f_ref3_Int_Order.E) (c62 : f_ref7_TooLarge.E) (c71 : f_ref7_Clamp.E) (c72 : f_ref3_Int_Raised.E) (c43 : f_ref3_Int_Times.E) (c68 : f_ref3_Int_Floor.E) (k : Nat)  (x0 : Int) (x4 : (Bool) × (List (Int))) (x5 : (Bool) × (List (Int))) (x6 : (Int) × (X_Value × ((Int) × ((List UInt8) × (X_Value × (List X_Value)))))) : f_ref7_bits.M_g2 c73 c74 c76 c75 c69 c34 c33 c77 c63 c70 c44 c62 c71 c72 c43 c68 k  (f_ref7_bits.fr_g2 x0 x4 x5 x6) = f_ref7_bits.g2 c73 c74 c76 c75 c69 c34 c33 c77 c63 c70 c44 c62 c71 c72 c43 c68 k  x0 x4 x5 x6 := by
  rw [f_ref7_bits.r_g2]
  simp only [f_ref7_bits.e_l0]
  rfl
theorem f_ref7_bits.e_g25 (c73 : f_ref3_Ones.E) (c74 : f_ref7_places.E) (c76 : f_ref7_fromPlaces.E) (c75 : f_ref7_integer.E) (c69 : f_ref7_Negative.E) (c34 : f_ref7_Raise.E) (c33 : f_ref7_Zero.E) (c77 : f_ref7_N.E) (c63 : f_ref7_Result.E) (c70 : f_ref3_Number.E) (c44 : f_ref3_Int_Order.E) (c62 : f_ref7_TooLarge.E) (c71 : f_ref7_Clamp.E) (c72 : f_ref3_Int_Raised.E) (c43 : f_ref3_Int_Times.E) (c68 : f_ref3_Int_Floor.E) (k : Nat)  (x4 : (Bool) × (List (Int))) (x6 : (Int) × (X_Value × ((Int) × ((List UInt8) × (X_Value × (List X_Value)))))) (x11 : (Bool) × (List (Int))) : f_ref7_bits.M_g25 c73 c74 c76 c75 c69 c34 c33 c77 c63 c70 c44 c62 c71 c72 c43 c68 k  (f_ref7_bits.fr_g25 x4 x6 x11) = f_ref7_bits.g25 c73 c74 c76 c75 c69 c34 c33 c77 c63 c70 c44 c62 c71 c72 c43 c68 k  x4 x6 x11 := by
  rw [f_ref7_bits.r_g25]
  rfl
theorem f_ref7_bits.e_g26 (c73 : f_ref3_Ones.E) (c74 : f_ref7_places.E) (c76 : f_ref7_fromPlaces.E) (c75 : f_ref7_integer.E) (c69 : f_ref7_Negative.E) (c34 : f_ref7_Raise.E) (c33 : f_ref7_Zero.E) (c77 : f_ref7_N.E) (c63 : f_ref7_Result.E) (c70 : f_ref3_Number.E) (c44 : f_ref3_Int_Order.E) (c62 : f_ref7_TooLarge.E) (c71 : f_ref7_Clamp.E) (c72 : f_ref3_Int_Raised.E) (c43 : f_ref3_Int_Times.E) (c68 : f_ref3_Int_Floor.E) (k : Nat)  (x4 : (Bool) × (List (Int))) (x6 : (Int) × (X_Value × ((Int) × ((List UInt8) × (X_Value × (List X_Value)))))) (x11 : (Bool) × (List (Int))) : f_ref7_bits.M_g26 c73 c74 c76 c75 c69 c34 c33 c77 c63 c70 c44 c62 c71 c72 c43 c68 k  (f_ref7_bits.fr_g26 x4 x6 x11) = f_ref7_bits.g26 c73 c74 c76 c75 c69 c34 c33 c77 c63 c70 c44 c62 c71 c72 c43 c68 k  x4 x6 x11 := by
  rw [f_ref7_bits.r_g26]
  rfl
theorem f_ref7_bits.e_g21 (c73 : f_ref3_Ones.E) (c74 : f_ref7_places.E) (c76 : f_ref7_fromPlaces.E) (c75 : f_ref7_integer.E) (c69 : f_ref7_Negative.E) (c34 : f_ref7_Raise.E) (c33 : f_ref7_Zero.E) (c77 : f_ref7_N.E) (c63 : f_ref7_Result.E) (c70 : f_ref3_Number.E) (c44 : f_ref3_Int_Order.E) (c62 : f_ref7_TooLarge.E) (c71 : f_ref7_Clamp.E) (c72 : f_ref3_Int_Raised.E) (c43 : f_ref3_Int_Times.E) (c68 : f_ref3_Int_Floor.E) (k : Nat)  (x0 : Int) (x4 : (Bool) × (List (Int))) (x5 : (Bool) × (List (Int))) (x6 : (Int) × (X_Value × ((Int) × ((List UInt8) × (X_Value × (List X_Value)))))) : f_ref7_bits.M_g21 c73 c74 c76 c75 c69 c34 c33 c77 c63 c70 c44 c62 c71 c72 c43 c68 k  (f_ref7_bits.fr_g21 x0 x4 x5 x6) = f_ref7_bits.g21 c73 c74 c76 c75 c69 c34 c33 c77 c63 c70 c44 c62 c71 c72 c43 c68 k  x0 x4 x5 x6 := by
  rw [f_ref7_bits.r_g21]
  simp only [f_ref7_bits.e_g25, f_ref7_bits.e_g26]
  rfl
theorem f_ref7_bits.e_g19 (c73 : f_ref3_Ones.E) (c74 : f_ref7_places.E) (c76 : f_ref7_fromPlaces.E) (c75 : f_ref7_integer.E) (c69 : f_ref7_Negative.E) (c34 : f_ref7_Raise.E) (c33 : f_ref7_Zero.E) (c77 : f_ref7_N.E) (c63 : f_ref7_Result.E) (c70 : f_ref3_Number.E) (c44 : f_ref3_Int_Order.E) (c62 : f_ref7_TooLarge.E) (c71 : f_ref7_Clamp.E) (c72 : f_ref3_Int_Raised.E) (c43 : f_ref3_Int_Times.E) (c68 : f_ref3_Int_Floor.E) (k : Nat)  (x0 : Int) (x4 : (Bool) × (List (Int))) (x5 : (Bool) × (List (Int))) (x6 : (Int) × (X_Value × ((Int) × ((List UInt8) × (X_Value × (List X_Value)))))) : f_ref7_bits.M_g19 c73 c74 c76 c75 c69 c34 c33 c77 c63 c70 c44 c62 c71 c72 c43 c68 k  (f_ref7_bits.fr_g19 x0 x4 x5 x6) = f_ref7_bits.g19 c73 c74 c76 c75 c69 c34 c33 c77 c63 c70 c44 c62 c71 c72 c43 c68 k  x0 x4 x5 x6 := by
  rw [f_ref7_bits.r_g19]
  simp only [f_ref7_bits.e_g21]
  rfl
theorem f_ref7_bits.e (c73 : f_ref3_Ones.E) (c74 : f_ref7_places.E) (c76 : f_ref7_fromPlaces.E) (c75 : f_ref7_integer.E) (c69 : f_ref7_Negative.E) (c34 : f_ref7_Raise.E) (c33 : f_ref7_Zero.E) (c77 : f_ref7_N.E) (c63 : f_ref7_Result.E) (c70 : f_ref3_Number.E) (c44 : f_ref3_Int_Order.E) (c62 : f_ref7_TooLarge.E) (c71 : f_ref7_Clamp.E) (c72 : f_ref3_Int_Raised.E) (c43 : f_ref3_Int_Times.E) (c68 : f_ref3_Int_Floor.E) (k : Nat) (a0 : Int) (a1 : (Bool) × (List (Int))) (a2 : (Bool) × (List (Int))) : fn (f_ref7_bits.C c73 c74 c76 c75 c69 c34 c33 c77 c63 c70 c44 c62 c71 c72 c43 c68) k Tryd.f40 f_ref7_bits.A f_ref7_bits.R (a0, (a1, a2)) = f_ref7_bits.f c73 c74 c76 c75 c69 c34 c33 c77 c63 c70 c44 c62 c71 c72 c43 c68 k a0 a1 a2 := by
  rw [f_ref7_bits.r]
  simp only [f_ref7_bits.e_g19, f_ref7_bits.e_g2]
  rfl
theorem f_ref7_bits.ty (c73 : f_ref3_Ones.E) (c74 : f_ref7_places.E) (c76 : f_ref7_fromPlaces.E) (c75 : f_ref7_integer.E) (c69 : f_ref7_Negative.E) (c34 : f_ref7_Raise.E) (c33 : f_ref7_Zero.E) (c77 : f_ref7_N.E) (c63 : f_ref7_Result.E) (c70 : f_ref3_Number.E) (c44 : f_ref3_Int_Order.E) (c62 : f_ref7_TooLarge.E) (c71 : f_ref7_Clamp.E) (c72 : f_ref3_Int_Raised.E) (c43 : f_ref3_Int_Times.E) (c68 : f_ref3_Int_Floor.E) : TyOk Tryd.prog (f_ref7_bits.C c73 c74 c76 c75 c69 c34 c33 c77 c63 c70 c44 c62 c71 c72 c43 c68) := tyOk_of (by kernel_rfl)
def f_ref7_bits.u (k : Nat) : f_ref7_bits.E := fun y => f_ref7_bits.f (f_ref3_Ones.u k) (f_ref7_places.u k) (f_ref7_fromPlaces.u k) (f_ref7_integer.u k) (f_ref7_Negative.u k) (f_ref7_Raise.u k) (f_ref7_Zero.u k) (f_ref7_N.u k) (f_ref7_Result.u k) (f_ref3_Number.u k) (f_ref3_Int_Order.u k) (f_ref7_TooLarge.u k) (f_ref7_Clamp.u k) (f_ref3_Int_Raised.u k) (f_ref3_Int_Times.u k) (f_ref3_Int_Floor.u k) k y.1 y.2.1 y.2.2
theorem f_ref7_bits.sound (k : Nat) : Sound Tryd.prog ⟨40, f_ref7_bits.A, f_ref7_bits.R, f_ref7_bits.u k⟩ := by
  have h := fn_sound (k := k) («as» := f_ref7_bits.A) (rs := f_ref7_bits.R) (f_ref7_bits.ty (f_ref3_Ones.u k) (f_ref7_places.u k) (f_ref7_fromPlaces.u k) (f_ref7_integer.u k) (f_ref7_Negative.u k) (f_ref7_Raise.u k) (f_ref7_Zero.u k) (f_ref7_N.u k) (f_ref7_Result.u k) (f_ref3_Number.u k) (f_ref3_Int_Order.u k) (f_ref7_TooLarge.u k) (f_ref7_Clamp.u k) (f_ref3_Int_Raised.u k) (f_ref3_Int_Times.u k) (f_ref3_Int_Floor.u k)) (fun E h => by
    simp only [f_ref7_bits.C, List.mem_cons, List.not_mem_nil, or_false] at h
    rcases h with rfl | rfl | rfl | rfl | rfl | rfl | rfl | rfl | rfl | rfl | rfl | rfl | rfl | rfl | rfl | rfl
    · exact f_ref3_Ones.sound k
    · exact f_ref7_places.sound k
    · exact f_ref7_fromPlaces.sound k
    · exact f_ref7_integer.sound k
    · exact f_ref7_Negative.sound k
    · exact f_ref7_Raise.sound k
    · exact f_ref7_Zero.sound k
    · exact f_ref7_N.sound k
    · exact f_ref7_Result.sound k
    · exact f_ref3_Number.sound k
    · exact f_ref3_Int_Order.sound k
    · exact f_ref7_TooLarge.sound k
    · exact f_ref7_Clamp.sound k
    · exact f_ref3_Int_Raised.sound k
    · exact f_ref3_Int_Times.sound k
    · exact f_ref3_Int_Floor.sound k) mixed Tryd.func40 (by kernel_rfl) (by kernel_rfl)
  have e : fn (f_ref7_bits.C (f_ref3_Ones.u k) (f_ref7_places.u k) (f_ref7_fromPlaces.u k) (f_ref7_integer.u k) (f_ref7_Negative.u k) (f_ref7_Raise.u k) (f_ref7_Zero.u k) (f_ref7_N.u k) (f_ref7_Result.u k) (f_ref3_Number.u k) (f_ref3_Int_Order.u k) (f_ref7_TooLarge.u k) (f_ref7_Clamp.u k) (f_ref3_Int_Raised.u k) (f_ref3_Int_Times.u k) (f_ref3_Int_Floor.u k)) k Tryd.f40 f_ref7_bits.A f_ref7_bits.R = f_ref7_bits.u k := by
    funext y
    exact f_ref7_bits.e (f_ref3_Ones.u k) (f_ref7_places.u k) (f_ref7_fromPlaces.u k) (f_ref7_integer.u k) (f_ref7_Negative.u k) (f_ref7_Raise.u k) (f_ref7_Zero.u k) (f_ref7_N.u k) (f_ref7_Result.u k) (f_ref3_Number.u k) (f_ref3_Int_Order.u k) (f_ref7_TooLarge.u k) (f_ref7_Clamp.u k) (f_ref3_Int_Raised.u k) (f_ref3_Int_Times.u k) (f_ref3_Int_Floor.u k) k y.1 y.2.1 y.2.2
  rw [e] at h
  exact h
/-! ### brindlewood/brindlewoodref7.Arithmetic: f10 -/
abbrev f_ref7_Arithmetic.A : List Sh := [(.d (.int .i64)), (.d Y_Value), (.d Y_Value)]
abbrev f_ref7_Arithmetic.R : List Sh := [(.d Y_Step), (.d .bool)]
abbrev f_ref7_Arithmetic.E : Type := ((Int) × (X_Value × X_Value)) → Option (X_Step × (Bool))
def f_ref7_Arithmetic.C (c28 : f_ref7_IsNumber.E) (c12 : f_ref7_Number.E) (c30 : f_ref3_Ratio_Plus.E) (c29 : f_ref7_number.E) (c31 : f_ref3_Ratio_Less.E) (c32 : f_ref3_Ratio_Times.E) (c33 : f_ref7_Zero.E) (c34 : f_ref7_Raise.E) (c35 : f_ref3_Ratio_Turned.E) (c37 : f_ref3_Ratio_Floor.E) (c36 : f_ref3_Whole.E) (c39 : f_ref7_I.E) (c38 : f_ref7_power.E) (c40 : f_ref7_bits.E) : Ctx := { ty := [(3, (.int .i64)), (26, Y_Value), (33, Y_Step), (41, (.pair .bool (.sl 3 (.int .i64)))), (43, Y_Ratio)], nf := [(26, 5), (33, 6), (43, 2)], by_ := [], env := [⟨28, f_ref7_IsNumber.A, f_ref7_IsNumber.R, c28⟩, ⟨12, f_ref7_Number.A, f_ref7_Number.R, c12⟩, ⟨30, f_ref3_Ratio_Plus.A, f_ref3_Ratio_Plus.R, c30⟩, ⟨29, f_ref7_number.A, f_ref7_number.R, c29⟩, ⟨31, f_ref3_Ratio_Less.A, f_ref3_Ratio_Less.R, c31⟩, ⟨32, f_ref3_Ratio_Times.A, f_ref3_Ratio_Times.R, c32⟩, ⟨33, f_ref7_Zero.A, f_ref7_Zero.R, c33⟩, ⟨34, f_ref7_Raise.A, f_ref7_Raise.R, c34⟩, ⟨35, f_ref3_Ratio_Turned.A, f_ref3_Ratio_Turned.R, c35⟩, ⟨37, f_ref3_Ratio_Floor.A, f_ref3_Ratio_Floor.R, c37⟩, ⟨36, f_ref3_Whole.A, f_ref3_Whole.R, c36⟩, ⟨39, f_ref7_I.A, f_ref7_I.R, c39⟩, ⟨38, f_ref7_power.A, f_ref7_power.R, c38⟩, ⟨40, f_ref7_bits.A, f_ref7_bits.R, c40⟩], spec := [(100016, [.d 0 (.int .i64), .bx 6 600006 (.pair (.d (.int .i64)) (.pair (.pair (.d (.int .i64)) (.pair (.pair (.d .bool) (.o 61 (.int .u32))) (.pair (.pair (.d .bool) (.o 61 (.int .u32))) (.d (.pair .str (.int .i64)))))) (.pair (.d (.int .i64)) (.pair (.d .str) (.pair (.pair (.d (.int .i64)) (.pair (.pair (.d .bool) (.o 61 (.int .u32))) (.pair (.pair (.d .bool) (.o 61 (.int .u32))) (.d (.pair .str (.int .i64)))))) (.o 26 Y_Value)))))), .bx 8 600008 (.d Y_Ratio), .bx 9 600009 (.d Y_Ratio)]), (100026, [.bx 5 600005 (.d Y_Value), .bx 6 600006 (.pair (.d (.int .i64)) (.pair (.pair (.d (.int .i64)) (.pair (.pair (.d .bool) (.o 61 (.int .u32))) (.pair (.pair (.d .bool) (.o 61 (.int .u32))) (.d (.pair .str (.int .i64)))))) (.pair (.d (.int .i64)) (.pair (.d .str) (.pair (.pair (.d (.int .i64)) (.pair (.pair (.d .bool) (.o 61 (.int .u32))) (.pair (.pair (.d .bool) (.o 61 (.int .u32))) (.d (.pair .str (.int .i64)))))) (.o 26 Y_Value)))))), .bx 8 600008 (.d Y_Ratio)]), (100027, [.d 0 (.int .i64), .bx 4 600004 (.d Y_Value), .bx 5 600005 (.d Y_Value), .bx 6 600006 (.pair (.d (.int .i64)) (.pair (.pair (.d (.int .i64)) (.pair (.pair (.d .bool) (.o 61 (.int .u32))) (.pair (.pair (.d .bool) (.o 61 (.int .u32))) (.d (.pair .str (.int .i64)))))) (.pair (.d (.int .i64)) (.pair (.d .str) (.pair (.pair (.d (.int .i64)) (.pair (.pair (.d .bool) (.o 61 (.int .u32))) (.pair (.pair (.d .bool) (.o 61 (.int .u32))) (.d (.pair .str (.int .i64)))))) (.o 26 Y_Value))))))])] }
noncomputable def f_ref7_Arithmetic.code : Code := Func.code Tryd.f10
noncomputable def f_ref7_Arithmetic.fin (c28 : f_ref7_IsNumber.E) (c12 : f_ref7_Number.E) (c30 : f_ref3_Ratio_Plus.E) (c29 : f_ref7_number.E) (c31 : f_ref3_Ratio_Less.E) (c32 : f_ref3_Ratio_Times.E) (c33 : f_ref7_Zero.E) (c34 : f_ref7_Raise.E) (c35 : f_ref3_Ratio_Turned.E) (c37 : f_ref3_Ratio_Floor.E) (c36 : f_ref3_Whole.E) (c39 : f_ref7_I.E) (c38 : f_ref7_power.E) (c40 : f_ref7_bits.E) := kfin (f_ref7_Arithmetic.C c28 c12 c30 c29 c31 c32 c33 c34 c35 c37 c36 c39 c38 c40) Tryd.f10 f_ref7_Arithmetic.A f_ref7_Arithmetic.R
def f_ref7_Arithmetic.b (c28 : f_ref7_IsNumber.E) (c12 : f_ref7_Number.E) (c30 : f_ref3_Ratio_Plus.E) (c29 : f_ref7_number.E) (c31 : f_ref3_Ratio_Less.E) (c32 : f_ref3_Ratio_Times.E) (c33 : f_ref7_Zero.E) (c34 : f_ref7_Raise.E) (c35 : f_ref3_Ratio_Turned.E) (c37 : f_ref3_Ratio_Floor.E) (c36 : f_ref3_Whole.E) (c39 : f_ref7_I.E) (c38 : f_ref7_power.E) (c40 : f_ref7_bits.E) (r_g16 : (Int) → X_Step → X_Ratio → X_Ratio → Option (X_Step × (Bool))) (r_g26 : X_Value → X_Step → X_Ratio → Option (X_Step × (Bool))) (r_g27 : (Int) → X_Value → X_Value → X_Step → Option (X_Step × (Bool))) (a0 : Int) (a1 : (Int) × (X_Int × (X_Int × X_errorAddressString))) (a2 : (Int) × (X_Int × (X_Int × X_errorAddressString))) : Option (X_Step × (Bool)) :=
  (c28 a1).bind fun y1 =>
    bif (!y1) then
      some (((0 : Int), (((0 : Int), ((false, ([] : List (Int))), ((false, ([] : List (Int))), ([], (0 : Int))))), ((0 : Int), ([], (((0 : Int), ((false, ([] : List (Int))), ((false, ([] : List (Int))), ([], (0 : Int))))), ([] : List X_Value)))))), false)
    else
      (c28 a2).bind fun y2 =>
        bif (!y2) then
          some (((0 : Int), (((0 : Int), ((false, ([] : List (Int))), ((false, ([] : List (Int))), ([], (0 : Int))))), ((0 : Int), ([], (((0 : Int), ((false, ([] : List (Int))), ((false, ([] : List (Int))), ([], (0 : Int))))), ([] : List X_Value)))))), false)
        else
          (c12 a1).bind fun y3 =>
            (c12 a2).bind fun y4 =>
              bif (a0 == (5 : Int)) then
                (c30 (y3, y4)).bind fun y5 =>
                  (c29 y5).bind fun y6 =>
                    some (y6, true)
              else
                bif (a0 == (6 : Int)) then
                  (c31 (y3, y4)).bind fun y7 =>
                    (c29 y7).bind fun y8 =>
                      some (y8, true)
                else
                  bif (a0 == (7 : Int)) then
                    (c32 (y3, y4)).bind fun y9 =>
                      (c29 y9).bind fun y10 =>
                        some (y10, true)
                  else
                    bif (a0 == (8 : Int)) then
                      bif (a0 == (8 : Int)) then
                        (c33 y4.1).bind fun y11 =>
                          bif y11 then
                            (c34 ((41 : Int), [100, 105, 118, 105, 115, 105, 111, 110, 32, 98, 121, 32, 122, 101, 114, 111])).bind fun y12 =>
                              some (y12, true)
                          else
                            r_g16 a0 ((0 : Int), (((0 : Int), ((false, ([] : List (Int))), ((false, ([] : List (Int))), ([], (0 : Int))))), ((0 : Int), ([], (((0 : Int), ((false, ([] : List (Int))), ((false, ([] : List (Int))), ([], (0 : Int))))), ([] : List X_Value)))))) y3 y4
                      else
                        bif (a0 == (11 : Int)) then
                          bif (a2.1 != (2 : Int)) then
                            some (((0 : Int), (((0 : Int), ((false, ([] : List (Int))), ((false, ([] : List (Int))), ([], (0 : Int))))), ((0 : Int), ([], (((0 : Int), ((false, ([] : List (Int))), ((false, ([] : List (Int))), ([], (0 : Int))))), ([] : List X_Value)))))), false)
                          else
                            r_g26 a2 ((0 : Int), (((0 : Int), ((false, ([] : List (Int))), ((false, ([] : List (Int))), ([], (0 : Int))))), ((0 : Int), ([], (((0 : Int), ((false, ([] : List (Int))), ((false, ([] : List (Int))), ([], (0 : Int))))), ([] : List X_Value)))))) y3
                        else
                          r_g27 a0 a1 a2 ((0 : Int), (((0 : Int), ((false, ([] : List (Int))), ((false, ([] : List (Int))), ([], (0 : Int))))), ((0 : Int), ([], (((0 : Int), ((false, ([] : List (Int))), ((false, ([] : List (Int))), ([], (0 : Int))))), ([] : List X_Value))))))
                    else
                      bif (a0 == (9 : Int)) then
                        bif (a0 == (9 : Int)) then
                          (c33 y4.1).bind fun y27 =>
                            bif y27 then
                              (c34 ((41 : Int), [100, 105, 118, 105, 115, 105, 111, 110, 32, 98, 121, 32, 122, 101, 114, 111])).bind fun y28 =>
                                some (y28, true)
                            else
                              r_g16 a0 ((0 : Int), (((0 : Int), ((false, ([] : List (Int))), ((false, ([] : List (Int))), ([], (0 : Int))))), ((0 : Int), ([], (((0 : Int), ((false, ([] : List (Int))), ((false, ([] : List (Int))), ([], (0 : Int))))), ([] : List X_Value)))))) y3 y4
                        else
                          bif (a0 == (11 : Int)) then
                            bif (a2.1 != (2 : Int)) then
                              some (((0 : Int), (((0 : Int), ((false, ([] : List (Int))), ((false, ([] : List (Int))), ([], (0 : Int))))), ((0 : Int), ([], (((0 : Int), ((false, ([] : List (Int))), ((false, ([] : List (Int))), ([], (0 : Int))))), ([] : List X_Value)))))), false)
                            else
                              r_g26 a2 ((0 : Int), (((0 : Int), ((false, ([] : List (Int))), ((false, ([] : List (Int))), ([], (0 : Int))))), ((0 : Int), ([], (((0 : Int), ((false, ([] : List (Int))), ((false, ([] : List (Int))), ([], (0 : Int))))), ([] : List X_Value)))))) y3
                          else
                            r_g27 a0 a1 a2 ((0 : Int), (((0 : Int), ((false, ([] : List (Int))), ((false, ([] : List (Int))), ([], (0 : Int))))), ((0 : Int), ([], (((0 : Int), ((false, ([] : List (Int))), ((false, ([] : List (Int))), ([], (0 : Int))))), ([] : List X_Value))))))
                      else
                        bif (a0 == (10 : Int)) then
                          (c33 y4.1).bind fun y29 =>
                            bif y29 then
                              (c34 ((41 : Int), [100, 105, 118, 105, 115, 105, 111, 110, 32, 98, 121, 32, 122, 101, 114, 111])).bind fun y30 =>
                                some (y30, true)
                            else
                              r_g16 a0 ((0 : Int), (((0 : Int), ((false, ([] : List (Int))), ((false, ([] : List (Int))), ([], (0 : Int))))), ((0 : Int), ([], (((0 : Int), ((false, ([] : List (Int))), ((false, ([] : List (Int))), ([], (0 : Int))))), ([] : List X_Value)))))) y3 y4
                        else
                          bif (a0 == (11 : Int)) then
                            bif (a2.1 != (2 : Int)) then
                              some (((0 : Int), (((0 : Int), ((false, ([] : List (Int))), ((false, ([] : List (Int))), ([], (0 : Int))))), ((0 : Int), ([], (((0 : Int), ((false, ([] : List (Int))), ((false, ([] : List (Int))), ([], (0 : Int))))), ([] : List X_Value)))))), false)
                            else
                              r_g26 a2 ((0 : Int), (((0 : Int), ((false, ([] : List (Int))), ((false, ([] : List (Int))), ([], (0 : Int))))), ((0 : Int), ([], (((0 : Int), ((false, ([] : List (Int))), ((false, ([] : List (Int))), ([], (0 : Int))))), ([] : List X_Value)))))) y3
                          else
                            r_g27 a0 a1 a2 ((0 : Int), (((0 : Int), ((false, ([] : List (Int))), ((false, ([] : List (Int))), ([], (0 : Int))))), ((0 : Int), ([], (((0 : Int), ((false, ([] : List (Int))), ((false, ([] : List (Int))), ([], (0 : Int))))), ([] : List X_Value))))))
def f_ref7_Arithmetic.b_g16 (c28 : f_ref7_IsNumber.E) (c12 : f_ref7_Number.E) (c30 : f_ref3_Ratio_Plus.E) (c29 : f_ref7_number.E) (c31 : f_ref3_Ratio_Less.E) (c32 : f_ref3_Ratio_Times.E) (c33 : f_ref7_Zero.E) (c34 : f_ref7_Raise.E) (c35 : f_ref3_Ratio_Turned.E) (c37 : f_ref3_Ratio_Floor.E) (c36 : f_ref3_Whole.E) (c39 : f_ref7_I.E) (c38 : f_ref7_power.E) (c40 : f_ref7_bits.E)  (x0 : Int) (x6 : (Int) × (X_Value × ((Int) × ((List UInt8) × (X_Value × (List X_Value)))))) (x8 : X_Int × (List (Int))) (x9 : X_Int × (List (Int))) : Option (X_Step × (Bool)) :=
  (c35 x9).bind fun y13 =>
    (c32 (x8, y13)).bind fun y14 =>
      bif (x0 == (8 : Int)) then
        (c29 y14).bind fun y15 =>
          some (y15, true)
      else
        (c37 y14).bind fun y16 =>
          (c36 y16).bind fun y17 =>
            bif (x0 == (9 : Int)) then
              (c29 y17).bind fun y18 =>
                some (y18, true)
            else
              (c32 (y17, x9)).bind fun y19 =>
                (c31 (x8, y19)).bind fun y20 =>
                  (c29 y20).bind fun y21 =>
                    some (y21, true)
def f_ref7_Arithmetic.b_g26 (c28 : f_ref7_IsNumber.E) (c12 : f_ref7_Number.E) (c30 : f_ref3_Ratio_Plus.E) (c29 : f_ref7_number.E) (c31 : f_ref3_Ratio_Less.E) (c32 : f_ref3_Ratio_Times.E) (c33 : f_ref7_Zero.E) (c34 : f_ref7_Raise.E) (c35 : f_ref3_Ratio_Turned.E) (c37 : f_ref3_Ratio_Floor.E) (c36 : f_ref3_Whole.E) (c39 : f_ref7_I.E) (c38 : f_ref7_power.E) (c40 : f_ref7_bits.E)  (x5 : (Int) × (X_Int × (X_Int × X_errorAddressString))) (x6 : (Int) × (X_Value × ((Int) × ((List UInt8) × (X_Value × (List X_Value)))))) (x8 : X_Int × (List (Int))) : Option (X_Step × (Bool)) :=
  (c39 x5).bind fun y22 =>
    (c38 (x8, y22)).bind fun y23 =>
      some (y23, true)
def f_ref7_Arithmetic.b_g27 (c28 : f_ref7_IsNumber.E) (c12 : f_ref7_Number.E) (c30 : f_ref3_Ratio_Plus.E) (c29 : f_ref7_number.E) (c31 : f_ref3_Ratio_Less.E) (c32 : f_ref3_Ratio_Times.E) (c33 : f_ref7_Zero.E) (c34 : f_ref7_Raise.E) (c35 : f_ref3_Ratio_Turned.E) (c37 : f_ref3_Ratio_Floor.E) (c36 : f_ref3_Whole.E) (c39 : f_ref7_I.E) (c38 : f_ref7_power.E) (c40 : f_ref7_bits.E)  (x0 : Int) (x4 : (Int) × (X_Int × (X_Int × X_errorAddressString))) (x5 : (Int) × (X_Int × (X_Int × X_errorAddressString))) (x6 : (Int) × (X_Value × ((Int) × ((List UInt8) × (X_Value × (List X_Value)))))) : Option (X_Step × (Bool)) :=
  bif (x4.1 != (2 : Int)) then
    some (((0 : Int), (((0 : Int), ((false, ([] : List (Int))), ((false, ([] : List (Int))), ([], (0 : Int))))), ((0 : Int), ([], (((0 : Int), ((false, ([] : List (Int))), ((false, ([] : List (Int))), ([], (0 : Int))))), ([] : List X_Value)))))), false)
  else
    bif (x5.1 != (2 : Int)) then
      some (((0 : Int), (((0 : Int), ((false, ([] : List (Int))), ((false, ([] : List (Int))), ([], (0 : Int))))), ((0 : Int), ([], (((0 : Int), ((false, ([] : List (Int))), ((false, ([] : List (Int))), ([], (0 : Int))))), ([] : List X_Value)))))), false)
    else
      (c39 x4).bind fun y24 =>
        (c39 x5).bind fun y25 =>
          (c40 (x0, (y24, y25))).bind fun y26 =>
            some (y26, true)
def f_ref7_Arithmetic.c (c28 : f_ref7_IsNumber.E) (c12 : f_ref7_Number.E) (c30 : f_ref3_Ratio_Plus.E) (c29 : f_ref7_number.E) (c31 : f_ref3_Ratio_Less.E) (c32 : f_ref3_Ratio_Times.E) (c33 : f_ref7_Zero.E) (c34 : f_ref7_Raise.E) (c35 : f_ref3_Ratio_Turned.E) (c37 : f_ref3_Ratio_Floor.E) (c36 : f_ref3_Whole.E) (c39 : f_ref7_I.E) (c38 : f_ref7_power.E) (c40 : f_ref7_bits.E) (r_g16 : (Int) → X_Step → X_Ratio → X_Ratio → Option (X_Step × (Bool))) (r_g26 : X_Value → X_Step → X_Ratio → Option (X_Step × (Bool))) (r_g27 : (Int) → X_Value → X_Value → X_Step → Option (X_Step × (Bool))) (a0 : Int) (a1 : (Int) × (X_Int × (X_Int × X_errorAddressString))) (a2 : (Int) × (X_Int × (X_Int × X_errorAddressString))) : Option (X_Step × (Bool)) :=
  (c28 a1).bind fun y1 =>
    bif !y1 then
      some (((0 : Int), (((0 : Int), ((false, ([] : List Int)), ((false, ([] : List Int)), ([], (0 : Int))))), ((0 : Int), ([], (((0 : Int), ((false, ([] : List Int)), ((false, ([] : List Int)), ([], (0 : Int))))), ([] : List X_Value)))))), false)
    else
      (c28 a2).bind fun y2 =>
        bif !y2 then
          some (((0 : Int), (((0 : Int), ((false, ([] : List Int)), ((false, ([] : List Int)), ([], (0 : Int))))), ((0 : Int), ([], (((0 : Int), ((false, ([] : List Int)), ((false, ([] : List Int)), ([], (0 : Int))))), ([] : List X_Value)))))), false)
        else
          (c12 a1).bind fun y3 =>
            (c12 a2).bind fun y4 =>
              bif (a0 == (5 : Int)) then
                (c30 (y3, y4)).bind fun y5 =>
                  (c29 y5).bind fun y6 =>
                    some (y6, true)
              else
                bif (a0 == (6 : Int)) then
                  (c31 (y3, y4)).bind fun y7 =>
                    (c29 y7).bind fun y8 =>
                      some (y8, true)
                else
                  bif (a0 == (7 : Int)) then
                    (c32 (y3, y4)).bind fun y9 =>
                      (c29 y9).bind fun y10 =>
                        some (y10, true)
                  else
                    bif (a0 == (8 : Int)) then
                      bif (a0 == (8 : Int)) then
                        (c33 y4.1).bind fun y11 =>
                          bif y11 then
                            (c34 ((41 : Int), [100, 105, 118, 105, 115, 105, 111, 110, 32, 98, 121, 32, 122, 101, 114, 111])).bind fun y12 =>
                              some (y12, true)
                          else
                            r_g16 a0 ((0 : Int), (((0 : Int), ((false, ([] : List Int)), ((false, ([] : List Int)), ([], (0 : Int))))), ((0 : Int), ([], (((0 : Int), ((false, ([] : List Int)), ((false, ([] : List Int)), ([], (0 : Int))))), ([] : List X_Value)))))) y3 y4
                      else
                        bif (a0 == (11 : Int)) then
                          bif (a2.1 != (2 : Int)) then
                            some (((0 : Int), (((0 : Int), ((false, ([] : List Int)), ((false, ([] : List Int)), ([], (0 : Int))))), ((0 : Int), ([], (((0 : Int), ((false, ([] : List Int)), ((false, ([] : List Int)), ([], (0 : Int))))), ([] : List X_Value)))))), false)
                          else
                            r_g26 a2 ((0 : Int), (((0 : Int), ((false, ([] : List Int)), ((false, ([] : List Int)), ([], (0 : Int))))), ((0 : Int), ([], (((0 : Int), ((false, ([] : List Int)), ((false, ([] : List Int)), ([], (0 : Int))))), ([] : List X_Value)))))) y3
                        else
                          r_g27 a0 a1 a2 ((0 : Int), (((0 : Int), ((false, ([] : List Int)), ((false, ([] : List Int)), ([], (0 : Int))))), ((0 : Int), ([], (((0 : Int), ((false, ([] : List Int)), ((false, ([] : List Int)), ([], (0 : Int))))), ([] : List X_Value))))))
                    else
                      bif (a0 == (9 : Int)) then
                        bif (a0 == (9 : Int)) then
                          (c33 y4.1).bind fun y27 =>
                            bif y27 then
                              (c34 ((41 : Int), [100, 105, 118, 105, 115, 105, 111, 110, 32, 98, 121, 32, 122, 101, 114, 111])).bind fun y28 =>
                                some (y28, true)
                            else
                              r_g16 a0 ((0 : Int), (((0 : Int), ((false, ([] : List Int)), ((false, ([] : List Int)), ([], (0 : Int))))), ((0 : Int), ([], (((0 : Int), ((false, ([] : List Int)), ((false, ([] : List Int)), ([], (0 : Int))))), ([] : List X_Value)))))) y3 y4
                        else
                          bif (a0 == (11 : Int)) then
                            bif (a2.1 != (2 : Int)) then
                              some (((0 : Int), (((0 : Int), ((false, ([] : List Int)), ((false, ([] : List Int)), ([], (0 : Int))))), ((0 : Int), ([], (((0 : Int), ((false, ([] : List Int)), ((false, ([] : List Int)), ([], (0 : Int))))), ([] : List X_Value)))))), false)
                            else
                              r_g26 a2 ((0 : Int), (((0 : Int), ((false, ([] : List Int)), ((false, ([] : List Int)), ([], (0 : Int))))), ((0 : Int), ([], (((0 : Int), ((false, ([] : List Int)), ((false, ([] : List Int)), ([], (0 : Int))))), ([] : List X_Value)))))) y3
                          else
                            r_g27 a0 a1 a2 ((0 : Int), (((0 : Int), ((false, ([] : List Int)), ((false, ([] : List Int)), ([], (0 : Int))))), ((0 : Int), ([], (((0 : Int), ((false, ([] : List Int)), ((false, ([] : List Int)), ([], (0 : Int))))), ([] : List X_Value))))))
                      else
                        bif (a0 == (10 : Int)) then
                          (c33 y4.1).bind fun y29 =>
                            bif y29 then
                              (c34 ((41 : Int), [100, 105, 118, 105, 115, 105, 111, 110, 32, 98, 121, 32, 122, 101, 114, 111])).bind fun y30 =>
                                some (y30, true)
                            else
                              r_g16 a0 ((0 : Int), (((0 : Int), ((false, ([] : List Int)), ((false, ([] : List Int)), ([], (0 : Int))))), ((0 : Int), ([], (((0 : Int), ((false, ([] : List Int)), ((false, ([] : List Int)), ([], (0 : Int))))), ([] : List X_Value)))))) y3 y4
                        else
                          bif (a0 == (11 : Int)) then
                            bif (a2.1 != (2 : Int)) then
                              some (((0 : Int), (((0 : Int), ((false, ([] : List Int)), ((false, ([] : List Int)), ([], (0 : Int))))), ((0 : Int), ([], (((0 : Int), ((false, ([] : List Int)), ((false, ([] : List Int)), ([], (0 : Int))))), ([] : List X_Value)))))), false)
                            else
                              r_g26 a2 ((0 : Int), (((0 : Int), ((false, ([] : List Int)), ((false, ([] : List Int)), ([], (0 : Int))))), ((0 : Int), ([], (((0 : Int), ((false, ([] : List Int)), ((false, ([] : List Int)), ([], (0 : Int))))), ([] : List X_Value)))))) y3
                          else
                            r_g27 a0 a1 a2 ((0 : Int), (((0 : Int), ((false, ([] : List Int)), ((false, ([] : List Int)), ([], (0 : Int))))), ((0 : Int), ([], (((0 : Int), ((false, ([] : List Int)), ((false, ([] : List Int)), ([], (0 : Int))))), ([] : List X_Value))))))
theorem f_ref7_Arithmetic.q (c28 : f_ref7_IsNumber.E) (c12 : f_ref7_Number.E) (c30 : f_ref3_Ratio_Plus.E) (c29 : f_ref7_number.E) (c31 : f_ref3_Ratio_Less.E) (c32 : f_ref3_Ratio_Times.E) (c33 : f_ref7_Zero.E) (c34 : f_ref7_Raise.E) (c35 : f_ref3_Ratio_Turned.E) (c37 : f_ref3_Ratio_Floor.E) (c36 : f_ref3_Whole.E) (c39 : f_ref7_I.E) (c38 : f_ref7_power.E) (c40 : f_ref7_bits.E) (r_g16 : (Int) → X_Step → X_Ratio → X_Ratio → Option (X_Step × (Bool))) (r_g26 : X_Value → X_Step → X_Ratio → Option (X_Step × (Bool))) (r_g27 : (Int) → X_Value → X_Value → X_Step → Option (X_Step × (Bool))) (a0 : Int) (a1 : (Int) × (X_Int × (X_Int × X_errorAddressString))) (a2 : (Int) × (X_Int × (X_Int × X_errorAddressString))) : f_ref7_Arithmetic.b c28 c12 c30 c29 c31 c32 c33 c34 c35 c37 c36 c39 c38 c40 r_g16 r_g26 r_g27 a0 a1 a2 = f_ref7_Arithmetic.c c28 c12 c30 c29 c31 c32 c33 c34 c35 c37 c36 c39 c38 c40 r_g16 r_g26 r_g27 a0 a1 a2 := by
  simp only [f_ref7_Arithmetic.b, f_ref7_Arithmetic.c, List.take_length, take_one, Nat.zero_add, Int.toNat_natCast, Int.toNat_zero, List.drop_zero, List.append_eq, Nat.le_refl, Int.le_refl, true_and, and_true, zero_le_one, if_true, prod_eta, Int.natCast_zero]
def f_ref7_Arithmetic.c_g27 (c28 : f_ref7_IsNumber.E) (c12 : f_ref7_Number.E) (c30 : f_ref3_Ratio_Plus.E) (c29 : f_ref7_number.E) (c31 : f_ref3_Ratio_Less.E) (c32 : f_ref3_Ratio_Times.E) (c33 : f_ref7_Zero.E) (c34 : f_ref7_Raise.E) (c35 : f_ref3_Ratio_Turned.E) (c37 : f_ref3_Ratio_Floor.E) (c36 : f_ref3_Whole.E) (c39 : f_ref7_I.E) (c38 : f_ref7_power.E) (c40 : f_ref7_bits.E)  (x0 : Int) (x4 : (Int) × (X_Int × (X_Int × X_errorAddressString))) (x5 : (Int) × (X_Int × (X_Int × X_errorAddressString))) (x6 : (Int) × (X_Value × ((Int) × ((List UInt8) × (X_Value × (List X_Value)))))) : Option (X_Step × (Bool)) :=
  bif (x4.1 != (2 : Int)) then
    some (((0 : Int), (((0 : Int), ((false, ([] : List Int)), ((false, ([] : List Int)), ([], (0 : Int))))), ((0 : Int), ([], (((0 : Int), ((false, ([] : List Int)), ((false, ([] : List Int)), ([], (0 : Int))))), ([] : List X_Value)))))), false)
  else
    bif (x5.1 != (2 : Int)) then
      some (((0 : Int), (((0 : Int), ((false, ([] : List Int)), ((false, ([] : List Int)), ([], (0 : Int))))), ((0 : Int), ([], (((0 : Int), ((false, ([] : List Int)), ((false, ([] : List Int)), ([], (0 : Int))))), ([] : List X_Value)))))), false)
    else
      (c39 x4).bind fun y24 =>
        (c39 x5).bind fun y25 =>
          (c40 (x0, (y24, y25))).bind fun y26 =>
            some (y26, true)
theorem f_ref7_Arithmetic.q_g27 (c28 : f_ref7_IsNumber.E) (c12 : f_ref7_Number.E) (c30 : f_ref3_Ratio_Plus.E) (c29 : f_ref7_number.E) (c31 : f_ref3_Ratio_Less.E) (c32 : f_ref3_Ratio_Times.E) (c33 : f_ref7_Zero.E) (c34 : f_ref7_Raise.E) (c35 : f_ref3_Ratio_Turned.E) (c37 : f_ref3_Ratio_Floor.E) (c36 : f_ref3_Whole.E) (c39 : f_ref7_I.E) (c38 : f_ref7_power.E) (c40 : f_ref7_bits.E)  (x0 : Int) (x4 : (Int) × (X_Int × (X_Int × X_errorAddressString))) (x5 : (Int) × (X_Int × (X_Int × X_errorAddressString))) (x6 : (Int) × (X_Value × ((Int) × ((List UInt8) × (X_Value × (List X_Value)))))) : f_ref7_Arithmetic.b_g27 c28 c12 c30 c29 c31 c32 c33 c34 c35 c37 c36 c39 c38 c40 x0 x4 x5 x6 = f_ref7_Arithmetic.c_g27 c28 c12 c30 c29 c31 c32 c33 c34 c35 c37 c36 c39 c38 c40 x0 x4 x5 x6 := by
  simp only [f_ref7_Arithmetic.b_g27, f_ref7_Arithmetic.c_g27, List.take_length, take_one, Nat.zero_add, Int.toNat_natCast, Int.toNat_zero, List.drop_zero, List.append_eq, Nat.le_refl, Int.le_refl, true_and, and_true, zero_le_one, if_true, prod_eta, Int.natCast_zero]
def f_ref7_Arithmetic.g16 (c28 : f_ref7_IsNumber.E) (c12 : f_ref7_Number.E) (c30 : f_ref3_Ratio_Plus.E) (c29 : f_ref7_number.E) (c31 : f_ref3_Ratio_Less.E) (c32 : f_ref3_Ratio_Times.E) (c33 : f_ref7_Zero.E) (c34 : f_ref7_Raise.E) (c35 : f_ref3_Ratio_Turned.E) (c37 : f_ref3_Ratio_Floor.E) (c36 : f_ref3_Whole.E) (c39 : f_ref7_I.E) (c38 : f_ref7_power.E) (c40 : f_ref7_bits.E) (k : Nat)  (x0 : Int) (x6 : (Int) × (X_Value × ((Int) × ((List UInt8) × (X_Value × (List X_Value)))))) (x8 : X_Int × (List (Int))) (x9 : X_Int × (List (Int))) : Option (X_Step × (Bool)) := gate k (f_ref7_Arithmetic.b_g16 c28 c12 c30 c29 c31 c32 c33 c34 c35 c37 c36 c39 c38 c40  x0 x6 x8 x9)
def f_ref7_Arithmetic.g26 (c28 : f_ref7_IsNumber.E) (c12 : f_ref7_Number.E) (c30 : f_ref3_Ratio_Plus.E) (c29 : f_ref7_number.E) (c31 : f_ref3_Ratio_Less.E) (c32 : f_ref3_Ratio_Times.E) (c33 : f_ref7_Zero.E) (c34 : f_ref7_Raise.E) (c35 : f_ref3_Ratio_Turned.E) (c37 : f_ref3_Ratio_Floor.E) (c36 : f_ref3_Whole.E) (c39 : f_ref7_I.E) (c38 : f_ref7_power.E) (c40 : f_ref7_bits.E) (k : Nat)  (x5 : (Int) × (X_Int × (X_Int × X_errorAddressString))) (x6 : (Int) × (X_Value × ((Int) × ((List UInt8) × (X_Value × (List X_Value)))))) (x8 : X_Int × (List (Int))) : Option (X_Step × (Bool)) := gate k (f_ref7_Arithmetic.b_g26 c28 c12 c30 c29 c31 c32 c33 c34 c35 c37 c36 c39 c38 c40  x5 x6 x8)
def f_ref7_Arithmetic.g27 (c28 : f_ref7_IsNumber.E) (c12 : f_ref7_Number.E) (c30 : f_ref3_Ratio_Plus.E) (c29 : f_ref7_number.E) (c31 : f_ref3_Ratio_Less.E) (c32 : f_ref3_Ratio_Times.E) (c33 : f_ref7_Zero.E) (c34 : f_ref7_Raise.E) (c35 : f_ref3_Ratio_Turned.E) (c37 : f_ref3_Ratio_Floor.E) (c36 : f_ref3_Whole.E) (c39 : f_ref7_I.E) (c38 : f_ref7_power.E) (c40 : f_ref7_bits.E) (k : Nat)  (x0 : Int) (x4 : (Int) × (X_Int × (X_Int × X_errorAddressString))) (x5 : (Int) × (X_Int × (X_Int × X_errorAddressString))) (x6 : (Int) × (X_Value × ((Int) × ((List UInt8) × (X_Value × (List X_Value)))))) : Option (X_Step × (Bool)) := gate k (f_ref7_Arithmetic.b_g27 c28 c12 c30 c29 c31 c32 c33 c34 c35 c37 c36 c39 c38 c40  x0 x4 x5 x6)
def f_ref7_Arithmetic.f (c28 : f_ref7_IsNumber.E) (c12 : f_ref7_Number.E) (c30 : f_ref3_Ratio_Plus.E) (c29 : f_ref7_number.E) (c31 : f_ref3_Ratio_Less.E) (c32 : f_ref3_Ratio_Times.E) (c33 : f_ref7_Zero.E) (c34 : f_ref7_Raise.E) (c35 : f_ref3_Ratio_Turned.E) (c37 : f_ref3_Ratio_Floor.E) (c36 : f_ref3_Whole.E) (c39 : f_ref7_I.E) (c38 : f_ref7_power.E) (c40 : f_ref7_bits.E) (k : Nat) (a0 : Int) (a1 : (Int) × (X_Int × (X_Int × X_errorAddressString))) (a2 : (Int) × (X_Int × (X_Int × X_errorAddressString))) : Option (X_Step × (Bool)) := f_ref7_Arithmetic.b c28 c12 c30 c29 c31 c32 c33 c34 c35 c37 c36 c39 c38 c40 (f_ref7_Arithmetic.g16 c28 c12 c30 c29 c31 c32 c33 c34 c35 c37 c36 c39 c38 c40 k) (f_ref7_Arithmetic.g26 c28 c12 c30 c29 c31 c32 c33 c34 c35 c37 c36 c39 c38 c40 k) (f_ref7_Arithmetic.g27 c28 c12 c30 c29 c31 c32 c33 c34 c35 c37 c36 c39 c38 c40 k) a0 a1 a2
noncomputable def f_ref7_Arithmetic.M_g16 (c28 : f_ref7_IsNumber.E) (c12 : f_ref7_Number.E) (c30 : f_ref3_Ratio_Plus.E) (c29 : f_ref7_number.E) (c31 : f_ref3_Ratio_Less.E) (c32 : f_ref3_Ratio_Times.E) (c33 : f_ref7_Zero.E) (c34 : f_ref7_Raise.E) (c35 : f_ref3_Ratio_Turned.E) (c37 : f_ref3_Ratio_Floor.E) (c36 : f_ref3_Whole.E) (c39 : f_ref7_I.E) (c38 : f_ref7_power.E) (c40 : f_ref7_bits.E) (k : Nat)  (s : St) : Option (X_Step × (Bool)) := atGate (f_ref7_Arithmetic.C c28 c12 c30 c29 c31 c32 c33 c34 c35 c37 c36 c39 c38 c40) k [1, 1, 1, 0, 1, 0, 1, 1, 1, 1, 1, 1, 1, 0, 1, 0] [] f_ref7_Arithmetic.code (f_ref7_Arithmetic.fin c28 c12 c30 c29 c31 c32 c33 c34 c35 c37 c36 c39 c38 c40) s
noncomputable def f_ref7_Arithmetic.fr_g16 (x0 : Int) (x6 : (Int) × (X_Value × ((Int) × ((List UInt8) × (X_Value × (List X_Value)))))) (x8 : X_Int × (List (Int))) (x9 : X_Int × (List (Int))) : St := ⟨(((((List.replicate 98 V.un).set 0 (V.dat (.int .i64) x0)).set 6 (V.bp 600006 0 [])).set 8 (V.bp 600008 0 [])).set 9 (V.bp 600009 0 [])), [⟨600009, 0, .box (V.dat Y_Ratio x9)⟩, ⟨600008, 0, .box (V.dat Y_Ratio x8)⟩, ⟨600006, 0, .box (V.st (V.dat (.int .i64) x6.1) (V.st (V.st (V.dat (.int .i64) x6.2.1.1) (V.st (V.st (V.dat .bool x6.2.1.2.1.1) (V.ref 11600096 0 0 (List.length x6.2.1.2.1.2))) (V.st (V.st (V.dat .bool x6.2.1.2.2.1.1) (V.ref 11600097 0 0 (List.length x6.2.1.2.2.1.2))) (V.dat (.pair .str (.int .i64)) x6.2.1.2.2.2)))) (V.st (V.dat (.int .i64) x6.2.2.1) (V.st (V.dat .str x6.2.2.2.1) (V.st (V.st (V.dat (.int .i64) x6.2.2.2.2.1.1) (V.st (V.st (V.dat .bool x6.2.2.2.2.1.2.1.1) (V.ref 11600098 0 0 (List.length x6.2.2.2.2.1.2.1.2))) (V.st (V.st (V.dat .bool x6.2.2.2.2.1.2.2.1.1) (V.ref 11600099 0 0 (List.length x6.2.2.2.2.1.2.2.1.2))) (V.dat (.pair .str (.int .i64)) x6.2.2.2.2.1.2.2.2)))) (V.ref 11600100 0 0 (List.length x6.2.2.2.2.2)))))))⟩, ⟨11600096, 0, .arr 61 (.int .u32) x6.2.1.2.1.2⟩, ⟨11600097, 0, .arr 61 (.int .u32) x6.2.1.2.2.1.2⟩, ⟨11600098, 0, .arr 61 (.int .u32) x6.2.2.2.2.1.2.1.2⟩, ⟨11600099, 0, .arr 61 (.int .u32) x6.2.2.2.2.1.2.2.1.2⟩, ⟨11600100, 0, .arr 26 Y_Value x6.2.2.2.2.2⟩]⟩
noncomputable def f_ref7_Arithmetic.M_g26 (c28 : f_ref7_IsNumber.E) (c12 : f_ref7_Number.E) (c30 : f_ref3_Ratio_Plus.E) (c29 : f_ref7_number.E) (c31 : f_ref3_Ratio_Less.E) (c32 : f_ref3_Ratio_Times.E) (c33 : f_ref7_Zero.E) (c34 : f_ref7_Raise.E) (c35 : f_ref3_Ratio_Turned.E) (c37 : f_ref3_Ratio_Floor.E) (c36 : f_ref3_Whole.E) (c39 : f_ref7_I.E) (c38 : f_ref7_power.E) (c40 : f_ref7_bits.E) (k : Nat)  (s : St) : Option (X_Step × (Bool)) := atGate (f_ref7_Arithmetic.C c28 c12 c30 c29 c31 c32 c33 c34 c35 c37 c36 c39 c38 c40) k [1, 1, 1, 0, 1, 0, 1, 1, 1, 1, 1, 1, 1, 1, 1, 0, 1, 0] [] f_ref7_Arithmetic.code (f_ref7_Arithmetic.fin c28 c12 c30 c29 c31 c32 c33 c34 c35 c37 c36 c39 c38 c40) s
noncomputable def f_ref7_Arithmetic.fr_g26 (x5 : (Int) × (X_Int × (X_Int × X_errorAddressString))) (x6 : (Int) × (X_Value × ((Int) × ((List UInt8) × (X_Value × (List X_Value)))))) (x8 : X_Int × (List (Int))) : St := ⟨((((List.replicate 98 V.un).set 5 (V.bp 600005 0 [])).set 6 (V.bp 600006 0 [])).set 8 (V.bp 600008 0 [])), [⟨600008, 0, .box (V.dat Y_Ratio x8)⟩, ⟨600006, 0, .box (V.st (V.dat (.int .i64) x6.1) (V.st (V.st (V.dat (.int .i64) x6.2.1.1) (V.st (V.st (V.dat .bool x6.2.1.2.1.1) (V.ref 11600096 0 0 (List.length x6.2.1.2.1.2))) (V.st (V.st (V.dat .bool x6.2.1.2.2.1.1) (V.ref 11600097 0 0 (List.length x6.2.1.2.2.1.2))) (V.dat (.pair .str (.int .i64)) x6.2.1.2.2.2)))) (V.st (V.dat (.int .i64) x6.2.2.1) (V.st (V.dat .str x6.2.2.2.1) (V.st (V.st (V.dat (.int .i64) x6.2.2.2.2.1.1) (V.st (V.st (V.dat .bool x6.2.2.2.2.1.2.1.1) (V.ref 11600098 0 0 (List.length x6.2.2.2.2.1.2.1.2))) (V.st (V.st (V.dat .bool x6.2.2.2.2.1.2.2.1.1) (V.ref 11600099 0 0 (List.length x6.2.2.2.2.1.2.2.1.2))) (V.dat (.pair .str (.int .i64)) x6.2.2.2.2.1.2.2.2)))) (V.ref 11600100 0 0 (List.length x6.2.2.2.2.2)))))))⟩, ⟨11600096, 0, .arr 61 (.int .u32) x6.2.1.2.1.2⟩, ⟨11600097, 0, .arr 61 (.int .u32) x6.2.1.2.2.1.2⟩, ⟨11600098, 0, .arr 61 (.int .u32) x6.2.2.2.2.1.2.1.2⟩, ⟨11600099, 0, .arr 61 (.int .u32) x6.2.2.2.2.1.2.2.1.2⟩, ⟨11600100, 0, .arr 26 Y_Value x6.2.2.2.2.2⟩, ⟨600005, 0, .box (V.dat Y_Value x5)⟩]⟩
noncomputable def f_ref7_Arithmetic.M_g27 (c28 : f_ref7_IsNumber.E) (c12 : f_ref7_Number.E) (c30 : f_ref3_Ratio_Plus.E) (c29 : f_ref7_number.E) (c31 : f_ref3_Ratio_Less.E) (c32 : f_ref3_Ratio_Times.E) (c33 : f_ref7_Zero.E) (c34 : f_ref7_Raise.E) (c35 : f_ref3_Ratio_Turned.E) (c37 : f_ref3_Ratio_Floor.E) (c36 : f_ref3_Whole.E) (c39 : f_ref7_I.E) (c38 : f_ref7_power.E) (c40 : f_ref7_bits.E) (k : Nat)  (s : St) : Option (X_Step × (Bool)) := atGate (f_ref7_Arithmetic.C c28 c12 c30 c29 c31 c32 c33 c34 c35 c37 c36 c39 c38 c40) k [1, 1, 1, 1, 0, 0] [] f_ref7_Arithmetic.code (f_ref7_Arithmetic.fin c28 c12 c30 c29 c31 c32 c33 c34 c35 c37 c36 c39 c38 c40) s
noncomputable def f_ref7_Arithmetic.fr_g27 (x0 : Int) (x4 : (Int) × (X_Int × (X_Int × X_errorAddressString))) (x5 : (Int) × (X_Int × (X_Int × X_errorAddressString))) (x6 : (Int) × (X_Value × ((Int) × ((List UInt8) × (X_Value × (List X_Value)))))) : St := ⟨(((((List.replicate 98 V.un).set 0 (V.dat (.int .i64) x0)).set 4 (V.bp 600004 0 [])).set 5 (V.bp 600005 0 [])).set 6 (V.bp 600006 0 [])), [⟨600006, 0, .box (V.st (V.dat (.int .i64) x6.1) (V.st (V.st (V.dat (.int .i64) x6.2.1.1) (V.st (V.st (V.dat .bool x6.2.1.2.1.1) (V.ref 11600096 0 0 (List.length x6.2.1.2.1.2))) (V.st (V.st (V.dat .bool x6.2.1.2.2.1.1) (V.ref 11600097 0 0 (List.length x6.2.1.2.2.1.2))) (V.dat (.pair .str (.int .i64)) x6.2.1.2.2.2)))) (V.st (V.dat (.int .i64) x6.2.2.1) (V.st (V.dat .str x6.2.2.2.1) (V.st (V.st (V.dat (.int .i64) x6.2.2.2.2.1.1) (V.st (V.st (V.dat .bool x6.2.2.2.2.1.2.1.1) (V.ref 11600098 0 0 (List.length x6.2.2.2.2.1.2.1.2))) (V.st (V.st (V.dat .bool x6.2.2.2.2.1.2.2.1.1) (V.ref 11600099 0 0 (List.length x6.2.2.2.2.1.2.2.1.2))) (V.dat (.pair .str (.int .i64)) x6.2.2.2.2.1.2.2.2)))) (V.ref 11600100 0 0 (List.length x6.2.2.2.2.2)))))))⟩, ⟨11600096, 0, .arr 61 (.int .u32) x6.2.1.2.1.2⟩, ⟨11600097, 0, .arr 61 (.int .u32) x6.2.1.2.2.1.2⟩, ⟨11600098, 0, .arr 61 (.int .u32) x6.2.2.2.2.1.2.1.2⟩, ⟨11600099, 0, .arr 61 (.int .u32) x6.2.2.2.2.1.2.2.1.2⟩, ⟨11600100, 0, .arr 26 Y_Value x6.2.2.2.2.2⟩, ⟨600005, 0, .box (V.dat Y_Value x5)⟩, ⟨600004, 0, .box (V.dat Y_Value x4)⟩]⟩
theorem f_ref7_Arithmetic.r (c28 : f_ref7_IsNumber.E) (c12 : f_ref7_Number.E) (c30 : f_ref3_Ratio_Plus.E) (c29 : f_ref7_number.E) (c31 : f_ref3_Ratio_Less.E) (c32 : f_ref3_Ratio_Times.E) (c33 : f_ref7_Zero.E) (c34 : f_ref7_Raise.E) (c35 : f_ref3_Ratio_Turned.E) (c37 : f_ref3_Ratio_Floor.E) (c36 : f_ref3_Whole.E) (c39 : f_ref7_I.E) (c38 : f_ref7_power.E) (c40 : f_ref7_bits.E) (k : Nat) (a0 : Int) (a1 : (Int) × (X_Int × (X_Int × X_errorAddressString))) (a2 : (Int) × (X_Int × (X_Int × X_errorAddressString))) : fn (f_ref7_Arithmetic.C c28 c12 c30 c29 c31 c32 c33 c34 c35 c37 c36 c39 c38 c40) k Tryd.f10 f_ref7_Arithmetic.A f_ref7_Arithmetic.R (a0, (a1, a2)) = f_ref7_Arithmetic.b c28 c12 c30 c29 c31 c32 c33 c34 c35 c37 c36 c39 c38 c40 (fun x0 x6 x8 x9 => f_ref7_Arithmetic.M_g16 c28 c12 c30 c29 c31 c32 c33 c34 c35 c37 c36 c39 c38 c40 k   (f_ref7_Arithmetic.fr_g16 x0 x6 x8 x9)) (fun x5 x6 x8 => f_ref7_Arithmetic.M_g26 c28 c12 c30 c29 c31 c32 c33 c34 c35 c37 c36 c39 c38 c40 k   (f_ref7_Arithmetic.fr_g26 x5 x6 x8)) (fun x0 x4 x5 x6 => f_ref7_Arithmetic.M_g27 c28 c12 c30 c29 c31 c32 c33 c34 c35 c37 c36 c39 c38 c40 k   (f_ref7_Arithmetic.fr_g27 x0 x4 x5 x6)) a0 a1 a2 := by kernel_rfl
theorem f_ref7_Arithmetic.r_g16 (c28 : f_ref7_IsNumber.E) (c12 : f_ref7_Number.E) (c30 : f_ref3_Ratio_Plus.E) (c29 : f_ref7_number.E) (c31 : f_ref3_Ratio_Less.E) (c32 : f_ref3_Ratio_Times.E) (c33 : f_ref7_Zero.E) (c34 : f_ref7_Raise.E) (c35 : f_ref3_Ratio_Turned.E) (c37 : f_ref3_Ratio_Floor.E) (c36 : f_ref3_Whole.E) (c39 : f_ref7_I.E) (c38 : f_ref7_power.E) (c40 : f_ref7_bits.E) (k : Nat)  (x0 : Int) (x6 : (Int) × (X_Value × ((Int) × ((List UInt8) × (X_Value × (List X_Value)))))) (x8 : X_Int × (List (Int))) (x9 : X_Int × (List (Int))) : f_ref7_Arithmetic.M_g16 c28 c12 c30 c29 c31 c32 c33 c34 c35 c37 c36 c39 c38 c40 k  (f_ref7_Arithmetic.fr_g16 x0 x6 x8 x9) = gate k (f_ref7_Arithmetic.b_g16 c28 c12 c30 c29 c31 c32 c33 c34 c35 c37 c36 c39 c38 c40  x0 x6 x8 x9) := by kernel_rfl
theorem f_ref7_Arithmetic.r_g26 (c28 : f_ref7_IsNumber.E) (c12 : f_ref7_Number.E) (c30 : f_ref3_Ratio_Plus.E) (c29 : f_ref7_number.E) (c31 : f_ref3_Ratio_Less.E) (c32 : f_ref3_Ratio_Times.E) (c33 : f_ref7_Zero.E) (c34 : f_ref7_Raise.E) (c35 : f_ref3_Ratio_Turned.E) (c37 : f_ref3_Ratio_Floor.E) (c36 : f_ref3_Whole.E) (c39 : f_ref7_I.E) (c38 : f_ref7_power.E) (c40 : f_ref7_bits.E) (k : Nat)  (x5 : (Int) × (X_Int × (X_Int × X_errorAddressString))) (x6 : (Int) × (X_Value × ((Int) × ((List UInt8) × (X_Value × (List X_Value)))))) (x8 : X_Int × (List (Int))) : f_ref7_Arithmetic.M_g26 c28 c12 c30 c29 c31 c32 c33 c34 c35 c37 c36 c39 c38 c40 k  (f_ref7_Arithmetic.fr_g26 x5 x6 x8) = gate k (f_ref7_Arithmetic.b_g26 c28 c12 c30 c29 c31 c32 c33 c34 c35 c37 c36 c39 c38 c40  x5 x6 x8) := by kernel_rfl
theorem f_ref7_Arithmetic.r_g27 (c28 : f_ref7_IsNumber.E) (c12 : f_ref7_Number.E) (c30 : f_ref3_Ratio_Plus.E) (c29 : f_ref7_number.E) (c31 : f_ref3_Ratio_Less.E) (c32 : f_ref3_Ratio_Times.E) (c33 : f_ref7_Zero.E) (c34 : f_ref7_Raise.E) (c35 : f_ref3_Ratio_Turned.E) (c37 : f_ref3_Ratio_Floor.E) (c36 : f_ref3_Whole.E) (c39 : f_ref7_I.E) (c38 : f_ref7_power.E) (c40 : f_ref7_bits.E) (k : Nat)  (x0 : Int) (x4 : (Int) × (X_Int × (X_Int × X_errorAddressString))) (x5 : (Int) × (X_Int × (X_Int × X_errorAddressString))) (x6 : (Int) × (X_Value × ((Int) × ((List UInt8) × (X_Value × (List X_Value)))))) : f_ref7_Arithmetic.M_g27 c28 c12 c30 c29 c31 c32 c33 c34 c35 c37 c36 c39 c38 c40 k  (f_ref7_Arithmetic.fr_g27 x0 x4 x5 x6) = gate k (f_ref7_Arithmetic.b_g27 c28 c12 c30 c29 c31 c32 c33 c34 c35 c37 c36 c39 c38 c40  x0 x4 x5 x6) := by kernel_rfl
theorem f_ref7_Arithmetic.e_g16 (c28 : f_ref7_IsNumber.E) (c12 : f_ref7_Number.E) (c30 : f_ref3_Ratio_Plus.E) (c29 : f_ref7_number.E) (c31 : f_ref3_Ratio_Less.E) (c32 : f_ref3_Ratio_Times.E) (c33 : f_ref7_Zero.E) (c34 : f_ref7_Raise.E) (c35 : f_ref3_Ratio_Turned.E) (c37 : f_ref3_Ratio_Floor.E) (c36 : f_ref3_Whole.E) (c39 : f_ref7_I.E) (c38 : f_ref7_power.E) (c40 : f_ref7_bits.E) (k : Nat)  (x0 : Int) (x6 : (Int) × (X_Value × ((Int) × ((List UInt8) × (X_Value × (List X_Value)))))) (x8 : X_Int × (List (Int))) (x9 : X_Int × (List (Int))) : f_ref7_Arithmetic.M_g16 c28 c12 c30 c29 c31 c32 c33 c34 c35 c37 c36 c39 c38 c40 k  (f_ref7_Arithmetic.fr_g16 x0 x6 x8 x9) = f_ref7_Arithmetic.g16 c28 c12 c30 c29 c31 c32 c33 c34 c35 c37 c36 c39 c38 c40 k  x0 x6 x8 x9 := by
  rw [f_ref7_Arithmetic.r_g16]
  rfl
theorem f_ref7_Arithmetic.e_g26 (c28 : f_ref7_IsNumber.E) (c12 : f_ref7_Number.E) (c30 : f_ref3_Ratio_Plus.E) (c29 : f_ref7_number.E) (c31 : f_ref3_Ratio_Less.E) (c32 : f_ref3_Ratio_Times.E) (c33 : f_ref7_Zero.E) (c34 : f_ref7_Raise.E) (c35 : f_ref3_Ratio_Turned.E) (c37 : f_ref3_Ratio_Floor.E) (c36 : f_ref3_Whole.E) (c39 : f_ref7_I.E) (c38 : f_ref7_power.E) (c40 : f_ref7_bits.E) (k : Nat)  (x5 : (Int) × (X_Int × (X_Int × X_errorAddressString))) (x6 : (Int) × (X_Value × ((Int) × ((List UInt8) × (X_Value × (List X_Value)))))) (x8 : X_Int × (List (Int))) : f_ref7_Arithmetic.M_g26 c28 c12 c30 c29 c31 c32 c33 c34 c35 c37 c36 c39 c38 c40 k  (f_ref7_Arithmetic.fr_g26 x5 x6 x8) = f_ref7_Arithmetic.g26 c28 c12 c30 c29 c31 c32 c33 c34 c35 c37 c36 c39 c38 c40 k  x5 x6 x8 := by
  rw [f_ref7_Arithmetic.r_g26]
  rfl
theorem f_ref7_Arithmetic.e_g27 (c28 : f_ref7_IsNumber.E) (c12 : f_ref7_Number.E) (c30 : f_ref3_Ratio_Plus.E) (c29 : f_ref7_number.E) (c31 : f_ref3_Ratio_Less.E) (c32 : f_ref3_Ratio_Times.E) (c33 : f_ref7_Zero.E) (c34 : f_ref7_Raise.E) (c35 : f_ref3_Ratio_Turned.E) (c37 : f_ref3_Ratio_Floor.E) (c36 : f_ref3_Whole.E) (c39 : f_ref7_I.E) (c38 : f_ref7_power.E) (c40 : f_ref7_bits.E) (k : Nat)  (x0 : Int) (x4 : (Int) × (X_Int × (X_Int × X_errorAddressString))) (x5 : (Int) × (X_Int × (X_Int × X_errorAddressString))) (x6 : (Int) × (X_Value × ((Int) × ((List UInt8) × (X_Value × (List X_Value)))))) : f_ref7_Arithmetic.M_g27 c28 c12 c30 c29 c31 c32 c33 c34 c35 c37 c36 c39 c38 c40 k  (f_ref7_Arithmetic.fr_g27 x0 x4 x5 x6) = f_ref7_Arithmetic.g27 c28 c12 c30 c29 c31 c32 c33 c34 c35 c37 c36 c39 c38 c40 k  x0 x4 x5 x6 := by
  rw [f_ref7_Arithmetic.r_g27]
  rfl
theorem f_ref7_Arithmetic.e (c28 : f_ref7_IsNumber.E) (c12 : f_ref7_Number.E) (c30 : f_ref3_Ratio_Plus.E) (c29 : f_ref7_number.E) (c31 : f_ref3_Ratio_Less.E) (c32 : f_ref3_Ratio_Times.E) (c33 : f_ref7_Zero.E) (c34 : f_ref7_Raise.E) (c35 : f_ref3_Ratio_Turned.E) (c37 : f_ref3_Ratio_Floor.E) (c36 : f_ref3_Whole.E) (c39 : f_ref7_I.E) (c38 : f_ref7_power.E) (c40 : f_ref7_bits.E) (k : Nat) (a0 : Int) (a1 : (Int) × (X_Int × (X_Int × X_errorAddressString))) (a2 : (Int) × (X_Int × (X_Int × X_errorAddressString))) : fn (f_ref7_Arithmetic.C c28 c12 c30 c29 c31 c32 c33 c34 c35 c37 c36 c39 c38 c40) k Tryd.f10 f_ref7_Arithmetic.A f_ref7_Arithmetic.R (a0, (a1, a2)) = f_ref7_Arithmetic.f c28 c12 c30 c29 c31 c32 c33 c34 c35 c37 c36 c39 c38 c40 k a0 a1 a2 := by
  rw [f_ref7_Arithmetic.r]
  simp only [f_ref7_Arithmetic.e_g16, f_ref7_Arithmetic.e_g26, f_ref7_Arithmetic.e_g27]
  rfl
theorem f_ref7_Arithmetic.ty (c28 : f_ref7_IsNumber.E) (c12 : f_ref7_Number.E) (c30 : f_ref3_Ratio_Plus.E) (c29 : f_ref7_number.E) (c31 : f_ref3_Ratio_Less.E) (c32 : f_ref3_Ratio_Times.E) (c33 : f_ref7_Zero.E) (c34 : f_ref7_Raise.E) (c35 : f_ref3_Ratio_Turned.E) (c37 : f_ref3_Ratio_Floor.E) (c36 : f_ref3_Whole.E) (c39 : f_ref7_I.E) (c38 : f_ref7_power.E) (c40 : f_ref7_bits.E) : TyOk Tryd.prog (f_ref7_Arithmetic.C c28 c12 c30 c29 c31 c32 c33 c34 c35 c37 c36 c39 c38 c40) := tyOk_of (by kernel_rfl)
def f_ref7_Arithmetic.u (k : Nat) : f_ref7_Arithmetic.E := fun y => f_ref7_Arithmetic.f (f_ref7_IsNumber.u k) (f_ref7_Number.u k) (f_ref3_Ratio_Plus.u k) (f_ref7_number.u k) (f_ref3_Ratio_Less.u k) (f_ref3_Ratio_Times.u k) (f_ref7_Zero.u k) (f_ref7_Raise.u k) (f_ref3_Ratio_Turned.u k) (f_ref3_Ratio_Floor.u k) (f_ref3_Whole.u k) (f_ref7_I.u k) (f_ref7_power.u k) (f_ref7_bits.u k) k y.1 y.2.1 y.2.2
theorem f_ref7_Arithmetic.sound (k : Nat) : Sound Tryd.prog ⟨10, f_ref7_Arithmetic.A, f_ref7_Arithmetic.R, f_ref7_Arithmetic.u k⟩ := by
  have h := fn_sound (k := k) («as» := f_ref7_Arithmetic.A) (rs := f_ref7_Arithmetic.R) (f_ref7_Arithmetic.ty (f_ref7_IsNumber.u k) (f_ref7_Number.u k) (f_ref3_Ratio_Plus.u k) (f_ref7_number.u k) (f_ref3_Ratio_Less.u k) (f_ref3_Ratio_Times.u k) (f_ref7_Zero.u k) (f_ref7_Raise.u k) (f_ref3_Ratio_Turned.u k) (f_ref3_Ratio_Floor.u k) (f_ref3_Whole.u k) (f_ref7_I.u k) (f_ref7_power.u k) (f_ref7_bits.u k)) (fun E h => by
    simp only [f_ref7_Arithmetic.C, List.mem_cons, List.not_mem_nil, or_false] at h
    rcases h with rfl | rfl | rfl | rfl | rfl | rfl | rfl | rfl | rfl | rfl | rfl | rfl | rfl | rfl
    · exact f_ref7_IsNumber.sound k
    · exact f_ref7_Number.sound k
    · exact f_ref3_Ratio_Plus.sound k
    · exact f_ref7_number.sound k
    · exact f_ref3_Ratio_Less.sound k
    · exact f_ref3_Ratio_Times.sound k
    · exact f_ref7_Zero.sound k
    · exact f_ref7_Raise.sound k
    · exact f_ref3_Ratio_Turned.sound k
    · exact f_ref3_Ratio_Floor.sound k
    · exact f_ref3_Whole.sound k
    · exact f_ref7_I.sound k
    · exact f_ref7_power.sound k
    · exact f_ref7_bits.sound k) mixed Tryd.func10 (by kernel_rfl) (by kernel_rfl)
  have e : fn (f_ref7_Arithmetic.C (f_ref7_IsNumber.u k) (f_ref7_Number.u k) (f_ref3_Ratio_Plus.u k) (f_ref7_number.u k) (f_ref3_Ratio_Less.u k) (f_ref3_Ratio_Times.u k) (f_ref7_Zero.u k) (f_ref7_Raise.u k) (f_ref3_Ratio_Turned.u k) (f_ref3_Ratio_Floor.u k) (f_ref3_Whole.u k) (f_ref7_I.u k) (f_ref7_power.u k) (f_ref7_bits.u k)) k Tryd.f10 f_ref7_Arithmetic.A f_ref7_Arithmetic.R = f_ref7_Arithmetic.u k := by
    funext y
    exact f_ref7_Arithmetic.e (f_ref7_IsNumber.u k) (f_ref7_Number.u k) (f_ref3_Ratio_Plus.u k) (f_ref7_number.u k) (f_ref3_Ratio_Less.u k) (f_ref3_Ratio_Times.u k) (f_ref7_Zero.u k) (f_ref7_Raise.u k) (f_ref3_Ratio_Turned.u k) (f_ref3_Ratio_Floor.u k) (f_ref3_Whole.u k) (f_ref7_I.u k) (f_ref7_power.u k) (f_ref7_bits.u k) k y.1 y.2.1 y.2.2
  rw [e] at h
  exact h
/-! ### brindlewood/inline.Compare: f11 -/
abbrev f_inline_Compare.A : List Sh := [(.d (.int .i64)), (.d Y_Value), (.d Y_Value)]
abbrev f_inline_Compare.R : List Sh := [(.d .bool), (.d .bool)]
abbrev f_inline_Compare.E : Type := ((Int) × (X_Value × X_Value)) → Option ((Bool) × (Bool))
def f_inline_Compare.C (c26 : f_inline_small.E) : Ctx := { ty := [(3, (.int .i64)), (26, Y_Value)], nf := [], by_ := [], env := [⟨26, f_inline_small.A, f_inline_small.R, c26⟩], spec := [] }
noncomputable def f_inline_Compare.code : Code := Func.code Tryd.f11
noncomputable def f_inline_Compare.fin (c26 : f_inline_small.E) := kfin (f_inline_Compare.C c26) Tryd.f11 f_inline_Compare.A f_inline_Compare.R
def f_inline_Compare.b (c26 : f_inline_small.E)  (a0 : Int) (a1 : (Int) × (X_Int × (X_Int × X_errorAddressString))) (a2 : (Int) × (X_Int × (X_Int × X_errorAddressString))) : Option ((Bool) × (Bool)) :=
  (c26 a1).bind fun y1 =>
    (c26 a2).bind fun y2 =>
      bif (!y1.2) then
        some (false, false)
      else
        bif (!y2.2) then
          some (false, false)
        else
          bif (a0 == (1 : Int)) then
            some ((decide (y1.1 < y2.1)), true)
          else
            bif (a0 == (2 : Int)) then
              some ((decide (y1.1 ≤ y2.1)), true)
            else
              bif (a0 == (3 : Int)) then
                some ((decide (y1.1 > y2.1)), true)
              else
                bif (a0 == (4 : Int)) then
                  some ((decide (y1.1 ≥ y2.1)), true)
                else
                  bif (a0 == (5 : Int)) then
                    some ((y1.1 == y2.1), true)
                  else
                    bif (a0 == (6 : Int)) then
                      some ((y1.1 != y2.1), true)
                    else
                      some (false, false)
def f_inline_Compare.c (c26 : f_inline_small.E)  (a0 : Int) (a1 : (Int) × (X_Int × (X_Int × X_errorAddressString))) (a2 : (Int) × (X_Int × (X_Int × X_errorAddressString))) : Option ((Bool) × (Bool)) :=
  (c26 a1).bind fun y1 =>
    (c26 a2).bind fun y2 =>
      bif !y1.2 then
        some (false, false)
      else
        bif !y2.2 then
          some (false, false)
        else
          bif (a0 == (1 : Int)) then
            some ((decide (y1.1 < y2.1)), true)
          else
            bif (a0 == (2 : Int)) then
              some ((decide (y1.1 ≤ y2.1)), true)
            else
              bif (a0 == (3 : Int)) then
                some ((decide (y1.1 > y2.1)), true)
              else
                bif (a0 == (4 : Int)) then
                  some ((decide (y1.1 ≥ y2.1)), true)
                else
                  bif (a0 == (5 : Int)) then
                    some ((y1.1 == y2.1), true)
                  else
                    bif (a0 == (6 : Int)) then
                      some ((y1.1 != y2.1), true)
                    else
                      some (false, false)
theorem f_inline_Compare.q (c26 : f_inline_small.E)  (a0 : Int) (a1 : (Int) × (X_Int × (X_Int × X_errorAddressString))) (a2 : (Int) × (X_Int × (X_Int × X_errorAddressString))) : f_inline_Compare.b c26 a0 a1 a2 = f_inline_Compare.c c26 a0 a1 a2 := by
  simp only [f_inline_Compare.b, f_inline_Compare.c, List.take_length, take_one, Nat.zero_add, Int.toNat_natCast, Int.toNat_zero, List.drop_zero, List.append_eq, Nat.le_refl, Int.le_refl, true_and, and_true, zero_le_one, if_true, prod_eta, Int.natCast_zero]
def f_inline_Compare.f (c26 : f_inline_small.E) (k : Nat) (a0 : Int) (a1 : (Int) × (X_Int × (X_Int × X_errorAddressString))) (a2 : (Int) × (X_Int × (X_Int × X_errorAddressString))) : Option ((Bool) × (Bool)) := f_inline_Compare.b c26  a0 a1 a2
theorem f_inline_Compare.r (c26 : f_inline_small.E) (k : Nat) (a0 : Int) (a1 : (Int) × (X_Int × (X_Int × X_errorAddressString))) (a2 : (Int) × (X_Int × (X_Int × X_errorAddressString))) : fn (f_inline_Compare.C c26) k Tryd.f11 f_inline_Compare.A f_inline_Compare.R (a0, (a1, a2)) = f_inline_Compare.b c26  a0 a1 a2 := by kernel_rfl
theorem f_inline_Compare.e (c26 : f_inline_small.E) (k : Nat) (a0 : Int) (a1 : (Int) × (X_Int × (X_Int × X_errorAddressString))) (a2 : (Int) × (X_Int × (X_Int × X_errorAddressString))) : fn (f_inline_Compare.C c26) k Tryd.f11 f_inline_Compare.A f_inline_Compare.R (a0, (a1, a2)) = f_inline_Compare.f c26 k a0 a1 a2 := by
  rw [f_inline_Compare.r]
  rfl
theorem f_inline_Compare.ty (c26 : f_inline_small.E) : TyOk Tryd.prog (f_inline_Compare.C c26) := tyOk_of (by kernel_rfl)
def f_inline_Compare.u (k : Nat) : f_inline_Compare.E := fun y => f_inline_Compare.f (f_inline_small.u k) k y.1 y.2.1 y.2.2
theorem f_inline_Compare.sound (k : Nat) : Sound Tryd.prog ⟨11, f_inline_Compare.A, f_inline_Compare.R, f_inline_Compare.u k⟩ := by
  have h := fn_sound (k := k) («as» := f_inline_Compare.A) (rs := f_inline_Compare.R) (f_inline_Compare.ty (f_inline_small.u k)) (fun E h => by
    simp only [f_inline_Compare.C, List.mem_cons, List.not_mem_nil, or_false] at h
    rcases h with rfl
    · exact f_inline_small.sound k) mixed Tryd.func11 (by kernel_rfl) (by kernel_rfl)
  have e : fn (f_inline_Compare.C (f_inline_small.u k)) k Tryd.f11 f_inline_Compare.A f_inline_Compare.R = f_inline_Compare.u k := by
    funext y
    exact f_inline_Compare.e (f_inline_small.u k) k y.1 y.2.1 y.2.2
  rw [e] at h
  exact h
/-! ### (brindlewood/brindlewoodref3.Ratio).Order: f13 -/
abbrev f_ref3_Ratio_Order.A : List Sh := [(.d Y_Ratio), (.d Y_Ratio)]
abbrev f_ref3_Ratio_Order.R : List Sh := [(.d (.int .i64))]
abbrev f_ref3_Ratio_Order.E : Type := (X_Ratio × X_Ratio) → Option (Int)
def f_ref3_Ratio_Order.C (c43 : f_ref3_Int_Times.E) (c44 : f_ref3_Int_Order.E) : Ctx := { ty := [(39, (.sl 3 (.int .i64))), (41, (.pair .bool (.sl 3 (.int .i64)))), (43, Y_Ratio)], nf := [(41, 2), (43, 2)], by_ := [(3, 8)], env := [⟨43, f_ref3_Int_Times.A, f_ref3_Int_Times.R, c43⟩, ⟨44, f_ref3_Int_Order.A, f_ref3_Int_Order.R, c44⟩], spec := [] }
noncomputable def f_ref3_Ratio_Order.code : Code := Func.code Tryd.f13
noncomputable def f_ref3_Ratio_Order.fin (c43 : f_ref3_Int_Times.E) (c44 : f_ref3_Int_Order.E) := kfin (f_ref3_Ratio_Order.C c43 c44) Tryd.f13 f_ref3_Ratio_Order.A f_ref3_Ratio_Order.R
def f_ref3_Ratio_Order.b (c43 : f_ref3_Int_Times.E) (c44 : f_ref3_Int_Order.E)  (a0 : X_Int × (List (Int))) (a1 : X_Int × (List (Int))) : Option (Int) :=
  (c43 (a0.1, (false, a1.2))).bind fun y1 =>
    (c43 (a1.1, (false, a0.2))).bind fun y2 =>
      (c44 (y1, y2)).bind fun y3 =>
        some y3
def f_ref3_Ratio_Order.f (c43 : f_ref3_Int_Times.E) (c44 : f_ref3_Int_Order.E) (k : Nat) (a0 : X_Int × (List (Int))) (a1 : X_Int × (List (Int))) : Option (Int) := f_ref3_Ratio_Order.b c43 c44  a0 a1
theorem f_ref3_Ratio_Order.r (c43 : f_ref3_Int_Times.E) (c44 : f_ref3_Int_Order.E) (k : Nat) (a0 : X_Int × (List (Int))) (a1 : X_Int × (List (Int))) : fn (f_ref3_Ratio_Order.C c43 c44) k Tryd.f13 f_ref3_Ratio_Order.A f_ref3_Ratio_Order.R (a0, a1) = f_ref3_Ratio_Order.b c43 c44  a0 a1 := by kernel_rfl
theorem f_ref3_Ratio_Order.e (c43 : f_ref3_Int_Times.E) (c44 : f_ref3_Int_Order.E) (k : Nat) (a0 : X_Int × (List (Int))) (a1 : X_Int × (List (Int))) : fn (f_ref3_Ratio_Order.C c43 c44) k Tryd.f13 f_ref3_Ratio_Order.A f_ref3_Ratio_Order.R (a0, a1) = f_ref3_Ratio_Order.f c43 c44 k a0 a1 := by
  rw [f_ref3_Ratio_Order.r]
  rfl
theorem f_ref3_Ratio_Order.ty (c43 : f_ref3_Int_Times.E) (c44 : f_ref3_Int_Order.E) : TyOk Tryd.prog (f_ref3_Ratio_Order.C c43 c44) := tyOk_of (by kernel_rfl)
def f_ref3_Ratio_Order.u (k : Nat) : f_ref3_Ratio_Order.E := fun y => f_ref3_Ratio_Order.f (f_ref3_Int_Times.u k) (f_ref3_Int_Order.u k) k y.1 y.2
theorem f_ref3_Ratio_Order.sound (k : Nat) : Sound Tryd.prog ⟨13, f_ref3_Ratio_Order.A, f_ref3_Ratio_Order.R, f_ref3_Ratio_Order.u k⟩ := by
  have h := fn_sound (k := k) («as» := f_ref3_Ratio_Order.A) (rs := f_ref3_Ratio_Order.R) (f_ref3_Ratio_Order.ty (f_ref3_Int_Times.u k) (f_ref3_Int_Order.u k)) (fun E h => by
    simp only [f_ref3_Ratio_Order.C, List.mem_cons, List.not_mem_nil, or_false] at h
    rcases h with rfl | rfl
    · exact f_ref3_Int_Times.sound k
    · exact f_ref3_Int_Order.sound k) mixed Tryd.func13 (by kernel_rfl) (by kernel_rfl)
  have e : fn (f_ref3_Ratio_Order.C (f_ref3_Int_Times.u k) (f_ref3_Int_Order.u k)) k Tryd.f13 f_ref3_Ratio_Order.A f_ref3_Ratio_Order.R = f_ref3_Ratio_Order.u k := by
    funext y
    exact f_ref3_Ratio_Order.e (f_ref3_Int_Times.u k) (f_ref3_Int_Order.u k) k y.1 y.2
  rw [e] at h
  exact h
/-! ### brindlewood/brindlewoodlaw7.half: f8 -/
abbrev f_law7_half.A : List Sh := [(.d Y_Value)]
abbrev f_law7_half.R : List Sh := [(.d .bool)]
abbrev f_law7_half.E : Type := X_Value → Option (Bool)
def f_law7_half.C  : Ctx := { ty := [(3, (.int .i64)), (22, (.sl 61 (.int .u32))), (24, Y_Int), (26, Y_Value), (61, (.int .u32))], nf := [(24, 2), (26, 5)], by_ := [(61, 4)], env := [], spec := [] }
noncomputable def f_law7_half.code : Code := Func.code Tryd.f8
noncomputable def f_law7_half.fin  := kfin (f_law7_half.C ) Tryd.f8 f_law7_half.A f_law7_half.R
def f_law7_half.b   (a0 : (Int) × (X_Int × (X_Int × X_errorAddressString))) : Option (Bool) :=
  bif (((List.length a0.2.1.2) : Int) == (0 : Int)) then
    some true
  else
    if 0 ≤ (0 : Int) ∧ (0 : Int) < ((List.length a0.2.1.2) : Int) then
      some (decide ((List.getD a0.2.1.2 (Int.toNat (0 : Int)) (0 : Int)) < (2147483648 : Int)))
    else none
def f_law7_half.c   (a0 : (Int) × (X_Int × (X_Int × X_errorAddressString))) : Option (Bool) :=
  bif (((List.length a0.2.1.2) : Int) == (0 : Int)) then
    some true
  else
    if (0 : Int) < ((List.length a0.2.1.2) : Int) then
      some (decide ((List.getD a0.2.1.2 0 (0 : Int)) < (2147483648 : Int)))
    else none
theorem f_law7_half.q   (a0 : (Int) × (X_Int × (X_Int × X_errorAddressString))) : f_law7_half.b  a0 = f_law7_half.c  a0 := by
  simp only [f_law7_half.b, f_law7_half.c, List.take_length, take_one, Nat.zero_add, Int.toNat_natCast, Int.toNat_zero, List.drop_zero, List.append_eq, Nat.le_refl, Int.le_refl, true_and, and_true, zero_le_one, if_true, prod_eta, Int.natCast_zero]
def f_law7_half.f  (k : Nat) (a0 : (Int) × (X_Int × (X_Int × X_errorAddressString))) : Option (Bool) := f_law7_half.b   a0
theorem f_law7_half.r  (k : Nat) (a0 : (Int) × (X_Int × (X_Int × X_errorAddressString))) : fn (f_law7_half.C ) k Tryd.f8 f_law7_half.A f_law7_half.R a0 = f_law7_half.b   a0 := by kernel_rfl
theorem f_law7_half.e  (k : Nat) (a0 : (Int) × (X_Int × (X_Int × X_errorAddressString))) : fn (f_law7_half.C ) k Tryd.f8 f_law7_half.A f_law7_half.R a0 = f_law7_half.f  k a0 := by
  rw [f_law7_half.r]
  rfl
theorem f_law7_half.ty  : TyOk Tryd.prog (f_law7_half.C ) := tyOk_of (by kernel_rfl)
def f_law7_half.u (k : Nat) : f_law7_half.E := fun y => f_law7_half.f  k y
theorem f_law7_half.sound (k : Nat) : Sound Tryd.prog ⟨8, f_law7_half.A, f_law7_half.R, f_law7_half.u k⟩ := by
  have h := fn_sound (k := k) («as» := f_law7_half.A) (rs := f_law7_half.R) (f_law7_half.ty ) (fun E h => by cases h) mixed Tryd.func8 (by kernel_rfl) (by kernel_rfl)
  have e : fn (f_law7_half.C ) k Tryd.f8 f_law7_half.A f_law7_half.R = f_law7_half.u k := by
    funext y
    exact f_law7_half.e  k y
  rw [e] at h
  exact h
end
end Go.Ab
