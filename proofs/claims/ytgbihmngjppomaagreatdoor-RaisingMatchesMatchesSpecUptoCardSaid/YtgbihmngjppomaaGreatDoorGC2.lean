/- A part of the proof: GC2. -/
import Derived.Test.YtgbihmngjppomaaGreatDoorFTy
import Derived.Test.YtgbihmngjppomaaGreatDoorGC1
import Derived.Test.YtgbihmngjppomaaGreatDoorHLib
namespace Go.Ab
set_option linter.unusedVariables false
set_option linter.unusedSimpArgs false
set_option maxRecDepth 100000
noncomputable section
open Go.Proofs
/-! ### brindlewood/brindlewoodref7.ValueOk: f73 -/
abbrev r7_ValueOk.A : List Sh := [(.d Y_Value)]
abbrev r7_ValueOk.R : List Sh := [(.d .bool)]
abbrev r7_ValueOk.E : Type := X_Value → Option (Bool)
def r7_ValueOk.C (c47 : r7_SameInt.E) (c99 : r3_IntOk.E) (c100 : r3_RatioOk.E) (c101 : f_unicode_utf8_ValidString.E) (c89 : r7_DottedOk.E) : Ctx := { ty := [(3, (.int .i64)), (9, .str), (25, (.sl 72 (.int .u32))), (27, Y_Int), (29, Y_Value), (72, (.int .u32)), (126, Y_Ratio)], nf := [(27, 2), (29, 5), (126, 2)], by_ := [(72, 4)], env := [⟨47, r7_SameInt.A, r7_SameInt.R, c47⟩, ⟨99, r3_IntOk.A, r3_IntOk.R, c99⟩, ⟨100, r3_RatioOk.A, r3_RatioOk.R, c100⟩, ⟨101, f_unicode_utf8_ValidString.A, f_unicode_utf8_ValidString.R, c101⟩, ⟨89, r7_DottedOk.A, r7_DottedOk.R, c89⟩], spec := [(100005, [.bx 1 600001 (.d Y_Value), .d 3 .bool, .d 4 .bool]), (100007, [.bx 1 600001 (.d Y_Value), .d 3 .bool, .d 4 .bool]), (100009, [.bx 1 600001 (.d Y_Value), .d 4 .bool]), (100011, [.bx 1 600001 (.d Y_Value)]), (100012, [.bx 1 600001 (.d Y_Value), .d 5 .bool]), (100014, [.bx 1 600001 (.d Y_Value), .d 3 .bool, .d 4 .bool]), (100016, [.bx 1 600001 (.d Y_Value), .d 3 .bool, .d 4 .bool]), (100018, [.bx 1 600001 (.d Y_Value), .d 3 .bool, .d 4 .bool]), (100020, [.bx 1 600001 (.d Y_Value), .d 3 .bool, .d 4 .bool])] }
noncomputable def r7_ValueOk.code : Code := Func.code Tryz.f73
noncomputable def r7_ValueOk.fin (c47 : r7_SameInt.E) (c99 : r3_IntOk.E) (c100 : r3_RatioOk.E) (c101 : f_unicode_utf8_ValidString.E) (c89 : r7_DottedOk.E) := kfin (r7_ValueOk.C c47 c99 c100 c101 c89) Tryz.f73 r7_ValueOk.A r7_ValueOk.R
def r7_ValueOk.b (c47 : r7_SameInt.E) (c99 : r3_IntOk.E) (c100 : r3_RatioOk.E) (c101 : f_unicode_utf8_ValidString.E) (c89 : r7_DottedOk.E) (r_g5 : X_Value → (Bool) → (Bool) → Option (Bool)) (r_g7 : X_Value → (Bool) → (Bool) → Option (Bool)) (r_g9 : X_Value → (Bool) → Option (Bool)) (r_g11 : X_Value → Option (Bool)) (r_g14 : X_Value → (Bool) → (Bool) → Option (Bool)) (r_g16 : X_Value → (Bool) → (Bool) → Option (Bool)) (r_g18 : X_Value → (Bool) → (Bool) → Option (Bool)) (r_g20 : X_Value → (Bool) → (Bool) → Option (Bool)) (a0 : X_Value) : Option (Bool) :=
  (c47 (a0.2.1, (false, ([] : List (Int))))).bind fun y1 =>
    (c47 (a0.2.2.1, (false, ([] : List (Int))))).bind fun y2 =>
      bif (a0.1 == (0 : Int)) then
        bif (a0.1 == (0 : Int)) then
          r_g5 a0 y1 y2
        else
          bif (a0.1 == (1 : Int)) then
            r_g7 a0 y1 y2
          else
            bif (a0.1 == (2 : Int)) then
              r_g9 a0 y2
            else
              bif (a0.1 == (3 : Int)) then
                r_g11 a0
              else
                bif (a0.1 == (4 : Int)) then
                  r_g14 a0 y1 y2
                else
                  bif (a0.1 == (5 : Int)) then
                    r_g16 a0 y1 y2
                  else
                    bif (a0.1 == (7 : Int)) then
                      r_g18 a0 y1 y2
                    else
                      bif (a0.1 == (6 : Int)) then
                        r_g20 a0 y1 y2
                      else
                        some false
      else
        bif (a0.1 == (8 : Int)) then
          r_g5 a0 y1 y2
        else
          bif (a0.1 == (1 : Int)) then
            r_g7 a0 y1 y2
          else
            bif (a0.1 == (2 : Int)) then
              r_g9 a0 y2
            else
              bif (a0.1 == (3 : Int)) then
                r_g11 a0
              else
                bif (a0.1 == (4 : Int)) then
                  r_g14 a0 y1 y2
                else
                  bif (a0.1 == (5 : Int)) then
                    r_g16 a0 y1 y2
                  else
                    bif (a0.1 == (7 : Int)) then
                      r_g18 a0 y1 y2
                    else
                      bif (a0.1 == (6 : Int)) then
                        r_g20 a0 y1 y2
                      else
                        some false
def r7_ValueOk.b_g5 (c47 : r7_SameInt.E) (c99 : r3_IntOk.E) (c100 : r3_RatioOk.E) (c101 : f_unicode_utf8_ValidString.E) (c89 : r7_DottedOk.E)  (x1 : X_Value) (x3 : Bool) (x4 : Bool) : Option (Bool) :=
  bif x3 then
    bif x4 then
      bif (x1.2.2.2.1 == []) then
        some (x1.2.2.2.2 == (0 : Int))
      else
        some false
    else
      some false
  else
    some false
def r7_ValueOk.b_g7 (c47 : r7_SameInt.E) (c99 : r3_IntOk.E) (c100 : r3_RatioOk.E) (c101 : f_unicode_utf8_ValidString.E) (c89 : r7_DottedOk.E)  (x1 : X_Value) (x3 : Bool) (x4 : Bool) : Option (Bool) :=
  bif x3 then
    bif x4 then
      bif (x1.2.2.2.1 == []) then
        some ((Int.fdiv x1.2.2.2.2 (2 ^ min (Int.toNat (1 : Int)) IntKind.i64.bits)) == (0 : Int))
      else
        some false
    else
      some false
  else
    some false
def r7_ValueOk.b_g9 (c47 : r7_SameInt.E) (c99 : r3_IntOk.E) (c100 : r3_RatioOk.E) (c101 : f_unicode_utf8_ValidString.E) (c89 : r7_DottedOk.E)  (x1 : X_Value) (x4 : Bool) : Option (Bool) :=
  (c99 x1.2.1).bind fun y3 =>
    bif y3 then
      bif x4 then
        bif (x1.2.2.2.1 == []) then
          some (x1.2.2.2.2 == (0 : Int))
        else
          some false
      else
        some false
    else
      some false
def r7_ValueOk.b_g11 (c47 : r7_SameInt.E) (c99 : r3_IntOk.E) (c100 : r3_RatioOk.E) (c101 : f_unicode_utf8_ValidString.E) (c89 : r7_DottedOk.E) (r_g12 : X_Value → (Bool) → Option (Bool)) (x1 : X_Value) : Option (Bool) :=
  bif (((List.length x1.2.2.1.2) : Int) == (1 : Int)) then
    if 0 ≤ (0 : Int) ∧ (0 : Int) < ((List.length x1.2.2.1.2) : Int) then
      r_g12 x1 ((List.getD x1.2.2.1.2 (Int.toNat (0 : Int)) (0 : Int)) == (1 : Int))
    else none
  else
    r_g12 x1 false
def r7_ValueOk.b_g12 (c47 : r7_SameInt.E) (c99 : r3_IntOk.E) (c100 : r3_RatioOk.E) (c101 : f_unicode_utf8_ValidString.E) (c89 : r7_DottedOk.E)  (x1 : X_Value) (x5 : Bool) : Option (Bool) :=
  (c100 (x1.2.1, x1.2.2.1)).bind fun y4 =>
    bif y4 then
      bif (!x5) then
        bif (x1.2.2.2.1 == []) then
          some (x1.2.2.2.2 == (0 : Int))
        else
          some false
      else
        some false
    else
      some false
def r7_ValueOk.b_g14 (c47 : r7_SameInt.E) (c99 : r3_IntOk.E) (c100 : r3_RatioOk.E) (c101 : f_unicode_utf8_ValidString.E) (c89 : r7_DottedOk.E)  (x1 : X_Value) (x3 : Bool) (x4 : Bool) : Option (Bool) :=
  bif x3 then
    bif x4 then
      bif (x1.2.2.2.2 == (0 : Int)) then
        (c101 x1.2.2.2.1).bind fun y5 =>
          bif y5 then
            some (decide (((List.length x1.2.2.2.1) : Int) ≤ (4000 : Int)))
          else
            some false
      else
        some false
    else
      some false
  else
    some false
def r7_ValueOk.b_g16 (c47 : r7_SameInt.E) (c99 : r3_IntOk.E) (c100 : r3_RatioOk.E) (c101 : f_unicode_utf8_ValidString.E) (c89 : r7_DottedOk.E)  (x1 : X_Value) (x3 : Bool) (x4 : Bool) : Option (Bool) :=
  bif x3 then
    bif x4 then
      bif (x1.2.2.2.2 == (0 : Int)) then
        some (decide (((List.length x1.2.2.2.1) : Int) ≤ (4000 : Int)))
      else
        some false
    else
      some false
  else
    some false
def r7_ValueOk.b_g18 (c47 : r7_SameInt.E) (c99 : r3_IntOk.E) (c100 : r3_RatioOk.E) (c101 : f_unicode_utf8_ValidString.E) (c89 : r7_DottedOk.E)  (x1 : X_Value) (x3 : Bool) (x4 : Bool) : Option (Bool) :=
  bif x3 then
    bif x4 then
      bif (x1.2.2.2.2 == (0 : Int)) then
        (c89 x1.2.2.2.1).bind fun y6 =>
          some y6
      else
        some false
    else
      some false
  else
    some false
def r7_ValueOk.b_g20 (c47 : r7_SameInt.E) (c99 : r3_IntOk.E) (c100 : r3_RatioOk.E) (c101 : f_unicode_utf8_ValidString.E) (c89 : r7_DottedOk.E)  (x1 : X_Value) (x3 : Bool) (x4 : Bool) : Option (Bool) :=
  bif x3 then
    bif x4 then
      some (x1.2.2.2.1 == [])
    else
      some false
  else
    some false
def r7_ValueOk.c (c47 : r7_SameInt.E) (c99 : r3_IntOk.E) (c100 : r3_RatioOk.E) (c101 : f_unicode_utf8_ValidString.E) (c89 : r7_DottedOk.E) (r_g5 : X_Value → (Bool) → (Bool) → Option (Bool)) (r_g7 : X_Value → (Bool) → (Bool) → Option (Bool)) (r_g9 : X_Value → (Bool) → Option (Bool)) (r_g11 : X_Value → Option (Bool)) (r_g14 : X_Value → (Bool) → (Bool) → Option (Bool)) (r_g16 : X_Value → (Bool) → (Bool) → Option (Bool)) (r_g18 : X_Value → (Bool) → (Bool) → Option (Bool)) (r_g20 : X_Value → (Bool) → (Bool) → Option (Bool)) (a0 : X_Value) : Option (Bool) :=
  (c47 (a0.2.1, (false, ([] : List Int)))).bind fun y1 =>
    (c47 (a0.2.2.1, (false, ([] : List Int)))).bind fun y2 =>
      bif (a0.1 == (0 : Int)) then
        bif (a0.1 == (0 : Int)) then
          r_g5 a0 y1 y2
        else
          bif (a0.1 == (1 : Int)) then
            r_g7 a0 y1 y2
          else
            bif (a0.1 == (2 : Int)) then
              r_g9 a0 y2
            else
              bif (a0.1 == (3 : Int)) then
                r_g11 a0
              else
                bif (a0.1 == (4 : Int)) then
                  r_g14 a0 y1 y2
                else
                  bif (a0.1 == (5 : Int)) then
                    r_g16 a0 y1 y2
                  else
                    bif (a0.1 == (7 : Int)) then
                      r_g18 a0 y1 y2
                    else
                      bif (a0.1 == (6 : Int)) then
                        r_g20 a0 y1 y2
                      else
                        some false
      else
        bif (a0.1 == (8 : Int)) then
          r_g5 a0 y1 y2
        else
          bif (a0.1 == (1 : Int)) then
            r_g7 a0 y1 y2
          else
            bif (a0.1 == (2 : Int)) then
              r_g9 a0 y2
            else
              bif (a0.1 == (3 : Int)) then
                r_g11 a0
              else
                bif (a0.1 == (4 : Int)) then
                  r_g14 a0 y1 y2
                else
                  bif (a0.1 == (5 : Int)) then
                    r_g16 a0 y1 y2
                  else
                    bif (a0.1 == (7 : Int)) then
                      r_g18 a0 y1 y2
                    else
                      bif (a0.1 == (6 : Int)) then
                        r_g20 a0 y1 y2
                      else
                        some false
theorem r7_ValueOk.q (c47 : r7_SameInt.E) (c99 : r3_IntOk.E) (c100 : r3_RatioOk.E) (c101 : f_unicode_utf8_ValidString.E) (c89 : r7_DottedOk.E) (r_g5 : X_Value → (Bool) → (Bool) → Option (Bool)) (r_g7 : X_Value → (Bool) → (Bool) → Option (Bool)) (r_g9 : X_Value → (Bool) → Option (Bool)) (r_g11 : X_Value → Option (Bool)) (r_g14 : X_Value → (Bool) → (Bool) → Option (Bool)) (r_g16 : X_Value → (Bool) → (Bool) → Option (Bool)) (r_g18 : X_Value → (Bool) → (Bool) → Option (Bool)) (r_g20 : X_Value → (Bool) → (Bool) → Option (Bool)) (a0 : X_Value) : r7_ValueOk.b c47 c99 c100 c101 c89 r_g5 r_g7 r_g9 r_g11 r_g14 r_g16 r_g18 r_g20 a0 = r7_ValueOk.c c47 c99 c100 c101 c89 r_g5 r_g7 r_g9 r_g11 r_g14 r_g16 r_g18 r_g20 a0 := by
  simp only [r7_ValueOk.b, r7_ValueOk.c, List.take_length, take_one, Nat.zero_add, Int.toNat_natCast, Int.toNat_zero, List.drop_zero, List.append_eq, Nat.le_refl, Int.le_refl, true_and, and_true, zero_le_one, if_true, prod_eta, Int.natCast_zero]
def r7_ValueOk.c_g11 (c47 : r7_SameInt.E) (c99 : r3_IntOk.E) (c100 : r3_RatioOk.E) (c101 : f_unicode_utf8_ValidString.E) (c89 : r7_DottedOk.E) (r_g12 : X_Value → (Bool) → Option (Bool)) (x1 : X_Value) : Option (Bool) :=
  bif (((List.length x1.2.2.1.2) : Int) == (1 : Int)) then
    if (0 : Int) < ((List.length x1.2.2.1.2) : Int) then
      r_g12 x1 ((List.getD x1.2.2.1.2 0 (0 : Int)) == (1 : Int))
    else none
  else
    r_g12 x1 false
theorem r7_ValueOk.q_g11 (c47 : r7_SameInt.E) (c99 : r3_IntOk.E) (c100 : r3_RatioOk.E) (c101 : f_unicode_utf8_ValidString.E) (c89 : r7_DottedOk.E) (r_g12 : X_Value → (Bool) → Option (Bool)) (x1 : X_Value) : r7_ValueOk.b_g11 c47 c99 c100 c101 c89 r_g12 x1 = r7_ValueOk.c_g11 c47 c99 c100 c101 c89 r_g12 x1 := by
  simp only [r7_ValueOk.b_g11, r7_ValueOk.c_g11, List.take_length, take_one, Nat.zero_add, Int.toNat_natCast, Int.toNat_zero, List.drop_zero, List.append_eq, Nat.le_refl, Int.le_refl, true_and, and_true, zero_le_one, if_true, prod_eta, Int.natCast_zero]
def r7_ValueOk.c_g12 (c47 : r7_SameInt.E) (c99 : r3_IntOk.E) (c100 : r3_RatioOk.E) (c101 : f_unicode_utf8_ValidString.E) (c89 : r7_DottedOk.E)  (x1 : X_Value) (x5 : Bool) : Option (Bool) :=
  (c100 (x1.2.1, x1.2.2.1)).bind fun y4 =>
    bif y4 then
      bif !x5 then
        bif (x1.2.2.2.1 == []) then
          some (x1.2.2.2.2 == (0 : Int))
        else
          some false
      else
        some false
    else
      some false
theorem r7_ValueOk.q_g12 (c47 : r7_SameInt.E) (c99 : r3_IntOk.E) (c100 : r3_RatioOk.E) (c101 : f_unicode_utf8_ValidString.E) (c89 : r7_DottedOk.E)  (x1 : X_Value) (x5 : Bool) : r7_ValueOk.b_g12 c47 c99 c100 c101 c89 x1 x5 = r7_ValueOk.c_g12 c47 c99 c100 c101 c89 x1 x5 := by
  simp only [r7_ValueOk.b_g12, r7_ValueOk.c_g12, List.take_length, take_one, Nat.zero_add, Int.toNat_natCast, Int.toNat_zero, List.drop_zero, List.append_eq, Nat.le_refl, Int.le_refl, true_and, and_true, zero_le_one, if_true, prod_eta, Int.natCast_zero]
def r7_ValueOk.g5 (c47 : r7_SameInt.E) (c99 : r3_IntOk.E) (c100 : r3_RatioOk.E) (c101 : f_unicode_utf8_ValidString.E) (c89 : r7_DottedOk.E) (k : Nat)  (x1 : X_Value) (x3 : Bool) (x4 : Bool) : Option (Bool) := gate k (r7_ValueOk.b_g5 c47 c99 c100 c101 c89  x1 x3 x4)
def r7_ValueOk.g7 (c47 : r7_SameInt.E) (c99 : r3_IntOk.E) (c100 : r3_RatioOk.E) (c101 : f_unicode_utf8_ValidString.E) (c89 : r7_DottedOk.E) (k : Nat)  (x1 : X_Value) (x3 : Bool) (x4 : Bool) : Option (Bool) := gate k (r7_ValueOk.b_g7 c47 c99 c100 c101 c89  x1 x3 x4)
def r7_ValueOk.g9 (c47 : r7_SameInt.E) (c99 : r3_IntOk.E) (c100 : r3_RatioOk.E) (c101 : f_unicode_utf8_ValidString.E) (c89 : r7_DottedOk.E) (k : Nat)  (x1 : X_Value) (x4 : Bool) : Option (Bool) := gate k (r7_ValueOk.b_g9 c47 c99 c100 c101 c89  x1 x4)
def r7_ValueOk.g12 (c47 : r7_SameInt.E) (c99 : r3_IntOk.E) (c100 : r3_RatioOk.E) (c101 : f_unicode_utf8_ValidString.E) (c89 : r7_DottedOk.E) (k : Nat)  (x1 : X_Value) (x5 : Bool) : Option (Bool) := gate k (r7_ValueOk.b_g12 c47 c99 c100 c101 c89  x1 x5)
def r7_ValueOk.g11 (c47 : r7_SameInt.E) (c99 : r3_IntOk.E) (c100 : r3_RatioOk.E) (c101 : f_unicode_utf8_ValidString.E) (c89 : r7_DottedOk.E) (k : Nat)  (x1 : X_Value) : Option (Bool) := gate k (r7_ValueOk.b_g11 c47 c99 c100 c101 c89 (r7_ValueOk.g12 c47 c99 c100 c101 c89 k ) x1)
def r7_ValueOk.g14 (c47 : r7_SameInt.E) (c99 : r3_IntOk.E) (c100 : r3_RatioOk.E) (c101 : f_unicode_utf8_ValidString.E) (c89 : r7_DottedOk.E) (k : Nat)  (x1 : X_Value) (x3 : Bool) (x4 : Bool) : Option (Bool) := gate k (r7_ValueOk.b_g14 c47 c99 c100 c101 c89  x1 x3 x4)
def r7_ValueOk.g16 (c47 : r7_SameInt.E) (c99 : r3_IntOk.E) (c100 : r3_RatioOk.E) (c101 : f_unicode_utf8_ValidString.E) (c89 : r7_DottedOk.E) (k : Nat)  (x1 : X_Value) (x3 : Bool) (x4 : Bool) : Option (Bool) := gate k (r7_ValueOk.b_g16 c47 c99 c100 c101 c89  x1 x3 x4)
def r7_ValueOk.g18 (c47 : r7_SameInt.E) (c99 : r3_IntOk.E) (c100 : r3_RatioOk.E) (c101 : f_unicode_utf8_ValidString.E) (c89 : r7_DottedOk.E) (k : Nat)  (x1 : X_Value) (x3 : Bool) (x4 : Bool) : Option (Bool) := gate k (r7_ValueOk.b_g18 c47 c99 c100 c101 c89  x1 x3 x4)
def r7_ValueOk.g20 (c47 : r7_SameInt.E) (c99 : r3_IntOk.E) (c100 : r3_RatioOk.E) (c101 : f_unicode_utf8_ValidString.E) (c89 : r7_DottedOk.E) (k : Nat)  (x1 : X_Value) (x3 : Bool) (x4 : Bool) : Option (Bool) := gate k (r7_ValueOk.b_g20 c47 c99 c100 c101 c89  x1 x3 x4)
def r7_ValueOk.f (c47 : r7_SameInt.E) (c99 : r3_IntOk.E) (c100 : r3_RatioOk.E) (c101 : f_unicode_utf8_ValidString.E) (c89 : r7_DottedOk.E) (k : Nat) (a0 : X_Value) : Option (Bool) := r7_ValueOk.b c47 c99 c100 c101 c89 (r7_ValueOk.g5 c47 c99 c100 c101 c89 k) (r7_ValueOk.g7 c47 c99 c100 c101 c89 k) (r7_ValueOk.g9 c47 c99 c100 c101 c89 k) (r7_ValueOk.g11 c47 c99 c100 c101 c89 k) (r7_ValueOk.g14 c47 c99 c100 c101 c89 k) (r7_ValueOk.g16 c47 c99 c100 c101 c89 k) (r7_ValueOk.g18 c47 c99 c100 c101 c89 k) (r7_ValueOk.g20 c47 c99 c100 c101 c89 k) a0
noncomputable def r7_ValueOk.M_g5 (c47 : r7_SameInt.E) (c99 : r3_IntOk.E) (c100 : r3_RatioOk.E) (c101 : f_unicode_utf8_ValidString.E) (c89 : r7_DottedOk.E) (k : Nat)  (s : St) : Option (Bool) := atGate (r7_ValueOk.C c47 c99 c100 c101 c89) k [1, 1, 0, 1, 0, 1, 0, 0] [] r7_ValueOk.code (r7_ValueOk.fin c47 c99 c100 c101 c89) s
noncomputable def r7_ValueOk.fr_g5 (x1 : X_Value) (x3 : Bool) (x4 : Bool) : St := ⟨((((List.replicate 169 V.un).set 1 (V.bp 600001 0 [])).set 3 (V.dat .bool x3)).set 4 (V.dat .bool x4)), [⟨600001, 0, .box (V.dat Y_Value x1)⟩]⟩
noncomputable def r7_ValueOk.M_g7 (c47 : r7_SameInt.E) (c99 : r3_IntOk.E) (c100 : r3_RatioOk.E) (c101 : f_unicode_utf8_ValidString.E) (c89 : r7_DottedOk.E) (k : Nat)  (s : St) : Option (Bool) := atGate (r7_ValueOk.C c47 c99 c100 c101 c89) k [1, 1, 0, 1, 0, 1, 1, 1, 0, 0] [] r7_ValueOk.code (r7_ValueOk.fin c47 c99 c100 c101 c89) s
noncomputable def r7_ValueOk.fr_g7 (x1 : X_Value) (x3 : Bool) (x4 : Bool) : St := ⟨((((List.replicate 169 V.un).set 1 (V.bp 600001 0 [])).set 3 (V.dat .bool x3)).set 4 (V.dat .bool x4)), [⟨600001, 0, .box (V.dat Y_Value x1)⟩]⟩
noncomputable def r7_ValueOk.M_g9 (c47 : r7_SameInt.E) (c99 : r3_IntOk.E) (c100 : r3_RatioOk.E) (c101 : f_unicode_utf8_ValidString.E) (c89 : r7_DottedOk.E) (k : Nat)  (s : St) : Option (Bool) := atGate (r7_ValueOk.C c47 c99 c100 c101 c89) k [1, 1, 0, 1, 0, 1, 1, 1, 1, 1, 0, 0] [] r7_ValueOk.code (r7_ValueOk.fin c47 c99 c100 c101 c89) s
noncomputable def r7_ValueOk.fr_g9 (x1 : X_Value) (x4 : Bool) : St := ⟨(((List.replicate 169 V.un).set 1 (V.bp 600001 0 [])).set 4 (V.dat .bool x4)), [⟨600001, 0, .box (V.dat Y_Value x1)⟩]⟩
noncomputable def r7_ValueOk.M_g11 (c47 : r7_SameInt.E) (c99 : r3_IntOk.E) (c100 : r3_RatioOk.E) (c101 : f_unicode_utf8_ValidString.E) (c89 : r7_DottedOk.E) (k : Nat)  (s : St) : Option (Bool) := atGate (r7_ValueOk.C c47 c99 c100 c101 c89) k [1, 1, 0, 1, 0, 1, 1, 1, 1, 1, 1, 1, 0, 0] [] r7_ValueOk.code (r7_ValueOk.fin c47 c99 c100 c101 c89) s
noncomputable def r7_ValueOk.fr_g11 (x1 : X_Value) : St := ⟨((List.replicate 169 V.un).set 1 (V.bp 600001 0 [])), [⟨600001, 0, .box (V.dat Y_Value x1)⟩]⟩
noncomputable def r7_ValueOk.M_g12 (c47 : r7_SameInt.E) (c99 : r3_IntOk.E) (c100 : r3_RatioOk.E) (c101 : f_unicode_utf8_ValidString.E) (c89 : r7_DottedOk.E) (k : Nat)  (s : St) : Option (Bool) := atGate (r7_ValueOk.C c47 c99 c100 c101 c89) k [1, 1, 0, 1, 0, 1, 1, 1, 1, 1, 1, 1, 0, 1, 0] [] r7_ValueOk.code (r7_ValueOk.fin c47 c99 c100 c101 c89) s
noncomputable def r7_ValueOk.fr_g12 (x1 : X_Value) (x5 : Bool) : St := ⟨(((List.replicate 169 V.un).set 1 (V.bp 600001 0 [])).set 5 (V.dat .bool x5)), [⟨600001, 0, .box (V.dat Y_Value x1)⟩]⟩
noncomputable def r7_ValueOk.M_g14 (c47 : r7_SameInt.E) (c99 : r3_IntOk.E) (c100 : r3_RatioOk.E) (c101 : f_unicode_utf8_ValidString.E) (c89 : r7_DottedOk.E) (k : Nat)  (s : St) : Option (Bool) := atGate (r7_ValueOk.C c47 c99 c100 c101 c89) k [1, 1, 0, 1, 0, 1, 1, 1, 1, 1, 1, 1, 1, 1, 0, 0] [] r7_ValueOk.code (r7_ValueOk.fin c47 c99 c100 c101 c89) s
noncomputable def r7_ValueOk.fr_g14 (x1 : X_Value) (x3 : Bool) (x4 : Bool) : St := ⟨((((List.replicate 169 V.un).set 1 (V.bp 600001 0 [])).set 3 (V.dat .bool x3)).set 4 (V.dat .bool x4)), [⟨600001, 0, .box (V.dat Y_Value x1)⟩]⟩
noncomputable def r7_ValueOk.M_g16 (c47 : r7_SameInt.E) (c99 : r3_IntOk.E) (c100 : r3_RatioOk.E) (c101 : f_unicode_utf8_ValidString.E) (c89 : r7_DottedOk.E) (k : Nat)  (s : St) : Option (Bool) := atGate (r7_ValueOk.C c47 c99 c100 c101 c89) k [1, 1, 0, 1, 0, 1, 1, 1, 1, 1, 1, 1, 1, 1, 1, 1, 0, 0] [] r7_ValueOk.code (r7_ValueOk.fin c47 c99 c100 c101 c89) s
noncomputable def r7_ValueOk.fr_g16 (x1 : X_Value) (x3 : Bool) (x4 : Bool) : St := ⟨((((List.replicate 169 V.un).set 1 (V.bp 600001 0 [])).set 3 (V.dat .bool x3)).set 4 (V.dat .bool x4)), [⟨600001, 0, .box (V.dat Y_Value x1)⟩]⟩
noncomputable def r7_ValueOk.M_g18 (c47 : r7_SameInt.E) (c99 : r3_IntOk.E) (c100 : r3_RatioOk.E) (c101 : f_unicode_utf8_ValidString.E) (c89 : r7_DottedOk.E) (k : Nat)  (s : St) : Option (Bool) := atGate (r7_ValueOk.C c47 c99 c100 c101 c89) k [1, 1, 0, 1, 0, 1, 1, 1, 1, 1, 1, 1, 1, 1, 1, 1, 1, 1, 0, 0] [] r7_ValueOk.code (r7_ValueOk.fin c47 c99 c100 c101 c89) s
noncomputable def r7_ValueOk.fr_g18 (x1 : X_Value) (x3 : Bool) (x4 : Bool) : St := ⟨((((List.replicate 169 V.un).set 1 (V.bp 600001 0 [])).set 3 (V.dat .bool x3)).set 4 (V.dat .bool x4)), [⟨600001, 0, .box (V.dat Y_Value x1)⟩]⟩
noncomputable def r7_ValueOk.M_g20 (c47 : r7_SameInt.E) (c99 : r3_IntOk.E) (c100 : r3_RatioOk.E) (c101 : f_unicode_utf8_ValidString.E) (c89 : r7_DottedOk.E) (k : Nat)  (s : St) : Option (Bool) := atGate (r7_ValueOk.C c47 c99 c100 c101 c89) k [1, 1, 0, 1, 0, 1, 1, 1, 1, 1, 1, 1, 1, 1, 1, 1, 1, 1, 1, 1, 0, 0] [] r7_ValueOk.code (r7_ValueOk.fin c47 c99 c100 c101 c89) s
noncomputable def r7_ValueOk.fr_g20 (x1 : X_Value) (x3 : Bool) (x4 : Bool) : St := ⟨((((List.replicate 169 V.un).set 1 (V.bp 600001 0 [])).set 3 (V.dat .bool x3)).set 4 (V.dat .bool x4)), [⟨600001, 0, .box (V.dat Y_Value x1)⟩]⟩
theorem r7_ValueOk.r (c47 : r7_SameInt.E) (c99 : r3_IntOk.E) (c100 : r3_RatioOk.E) (c101 : f_unicode_utf8_ValidString.E) (c89 : r7_DottedOk.E) (k : Nat) (a0 : X_Value) : fn (r7_ValueOk.C c47 c99 c100 c101 c89) k Tryz.f73 r7_ValueOk.A r7_ValueOk.R a0 = r7_ValueOk.b c47 c99 c100 c101 c89 (fun x1 x3 x4 => r7_ValueOk.M_g5 c47 c99 c100 c101 c89 k   (r7_ValueOk.fr_g5 x1 x3 x4)) (fun x1 x3 x4 => r7_ValueOk.M_g7 c47 c99 c100 c101 c89 k   (r7_ValueOk.fr_g7 x1 x3 x4)) (fun x1 x4 => r7_ValueOk.M_g9 c47 c99 c100 c101 c89 k   (r7_ValueOk.fr_g9 x1 x4)) (fun x1 => r7_ValueOk.M_g11 c47 c99 c100 c101 c89 k   (r7_ValueOk.fr_g11 x1)) (fun x1 x3 x4 => r7_ValueOk.M_g14 c47 c99 c100 c101 c89 k   (r7_ValueOk.fr_g14 x1 x3 x4)) (fun x1 x3 x4 => r7_ValueOk.M_g16 c47 c99 c100 c101 c89 k   (r7_ValueOk.fr_g16 x1 x3 x4)) (fun x1 x3 x4 => r7_ValueOk.M_g18 c47 c99 c100 c101 c89 k   (r7_ValueOk.fr_g18 x1 x3 x4)) (fun x1 x3 x4 => r7_ValueOk.M_g20 c47 c99 c100 c101 c89 k   (r7_ValueOk.fr_g20 x1 x3 x4)) a0 := by kernel_rfl
theorem r7_ValueOk.r_g5 (c47 : r7_SameInt.E) (c99 : r3_IntOk.E) (c100 : r3_RatioOk.E) (c101 : f_unicode_utf8_ValidString.E) (c89 : r7_DottedOk.E) (k : Nat)  (x1 : X_Value) (x3 : Bool) (x4 : Bool) : r7_ValueOk.M_g5 c47 c99 c100 c101 c89 k  (r7_ValueOk.fr_g5 x1 x3 x4) = gate k (r7_ValueOk.b_g5 c47 c99 c100 c101 c89  x1 x3 x4) := by kernel_rfl
theorem r7_ValueOk.r_g7 (c47 : r7_SameInt.E) (c99 : r3_IntOk.E) (c100 : r3_RatioOk.E) (c101 : f_unicode_utf8_ValidString.E) (c89 : r7_DottedOk.E) (k : Nat)  (x1 : X_Value) (x3 : Bool) (x4 : Bool) : r7_ValueOk.M_g7 c47 c99 c100 c101 c89 k  (r7_ValueOk.fr_g7 x1 x3 x4) = gate k (r7_ValueOk.b_g7 c47 c99 c100 c101 c89  x1 x3 x4) := by kernel_rfl
theorem r7_ValueOk.r_g9 (c47 : r7_SameInt.E) (c99 : r3_IntOk.E) (c100 : r3_RatioOk.E) (c101 : f_unicode_utf8_ValidString.E) (c89 : r7_DottedOk.E) (k : Nat)  (x1 : X_Value) (x4 : Bool) : r7_ValueOk.M_g9 c47 c99 c100 c101 c89 k  (r7_ValueOk.fr_g9 x1 x4) = gate k (r7_ValueOk.b_g9 c47 c99 c100 c101 c89  x1 x4) := by kernel_rfl
theorem r7_ValueOk.r_g11 (c47 : r7_SameInt.E) (c99 : r3_IntOk.E) (c100 : r3_RatioOk.E) (c101 : f_unicode_utf8_ValidString.E) (c89 : r7_DottedOk.E) (k : Nat)  (x1 : X_Value) : r7_ValueOk.M_g11 c47 c99 c100 c101 c89 k  (r7_ValueOk.fr_g11 x1) = gate k (r7_ValueOk.b_g11 c47 c99 c100 c101 c89 (fun x1 x5 => r7_ValueOk.M_g12 c47 c99 c100 c101 c89 k   (r7_ValueOk.fr_g12 x1 x5)) x1) := by kernel_rfl
theorem r7_ValueOk.r_g12 (c47 : r7_SameInt.E) (c99 : r3_IntOk.E) (c100 : r3_RatioOk.E) (c101 : f_unicode_utf8_ValidString.E) (c89 : r7_DottedOk.E) (k : Nat)  (x1 : X_Value) (x5 : Bool) : r7_ValueOk.M_g12 c47 c99 c100 c101 c89 k  (r7_ValueOk.fr_g12 x1 x5) = gate k (r7_ValueOk.b_g12 c47 c99 c100 c101 c89  x1 x5) := by kernel_rfl
theorem r7_ValueOk.r_g14 (c47 : r7_SameInt.E) (c99 : r3_IntOk.E) (c100 : r3_RatioOk.E) (c101 : f_unicode_utf8_ValidString.E) (c89 : r7_DottedOk.E) (k : Nat)  (x1 : X_Value) (x3 : Bool) (x4 : Bool) : r7_ValueOk.M_g14 c47 c99 c100 c101 c89 k  (r7_ValueOk.fr_g14 x1 x3 x4) = gate k (r7_ValueOk.b_g14 c47 c99 c100 c101 c89  x1 x3 x4) := by kernel_rfl
theorem r7_ValueOk.r_g16 (c47 : r7_SameInt.E) (c99 : r3_IntOk.E) (c100 : r3_RatioOk.E) (c101 : f_unicode_utf8_ValidString.E) (c89 : r7_DottedOk.E) (k : Nat)  (x1 : X_Value) (x3 : Bool) (x4 : Bool) : r7_ValueOk.M_g16 c47 c99 c100 c101 c89 k  (r7_ValueOk.fr_g16 x1 x3 x4) = gate k (r7_ValueOk.b_g16 c47 c99 c100 c101 c89  x1 x3 x4) := by kernel_rfl
theorem r7_ValueOk.r_g18 (c47 : r7_SameInt.E) (c99 : r3_IntOk.E) (c100 : r3_RatioOk.E) (c101 : f_unicode_utf8_ValidString.E) (c89 : r7_DottedOk.E) (k : Nat)  (x1 : X_Value) (x3 : Bool) (x4 : Bool) : r7_ValueOk.M_g18 c47 c99 c100 c101 c89 k  (r7_ValueOk.fr_g18 x1 x3 x4) = gate k (r7_ValueOk.b_g18 c47 c99 c100 c101 c89  x1 x3 x4) := by kernel_rfl
theorem r7_ValueOk.r_g20 (c47 : r7_SameInt.E) (c99 : r3_IntOk.E) (c100 : r3_RatioOk.E) (c101 : f_unicode_utf8_ValidString.E) (c89 : r7_DottedOk.E) (k : Nat)  (x1 : X_Value) (x3 : Bool) (x4 : Bool) : r7_ValueOk.M_g20 c47 c99 c100 c101 c89 k  (r7_ValueOk.fr_g20 x1 x3 x4) = gate k (r7_ValueOk.b_g20 c47 c99 c100 c101 c89  x1 x3 x4) := by kernel_rfl
theorem r7_ValueOk.e_g5 (c47 : r7_SameInt.E) (c99 : r3_IntOk.E) (c100 : r3_RatioOk.E) (c101 : f_unicode_utf8_ValidString.E) (c89 : r7_DottedOk.E) (k : Nat)  (x1 : X_Value) (x3 : Bool) (x4 : Bool) : r7_ValueOk.M_g5 c47 c99 c100 c101 c89 k  (r7_ValueOk.fr_g5 x1 x3 x4) = r7_ValueOk.g5 c47 c99 c100 c101 c89 k  x1 x3 x4 := by
  rw [r7_ValueOk.r_g5]
  rfl
theorem r7_ValueOk.e_g7 (c47 : r7_SameInt.E) (c99 : r3_IntOk.E) (c100 : r3_RatioOk.E) (c101 : f_unicode_utf8_ValidString.E) (c89 : r7_DottedOk.E) (k : Nat)  (x1 : X_Value) (x3 : Bool) (x4 : Bool) : r7_ValueOk.M_g7 c47 c99 c100 c101 c89 k  (r7_ValueOk.fr_g7 x1 x3 x4) = r7_ValueOk.g7 c47 c99 c100 c101 c89 k  x1 x3 x4 := by
  rw [r7_ValueOk.r_g7]
  rfl
theorem r7_ValueOk.e_g9 (c47 : r7_SameInt.E) (c99 : r3_IntOk.E) (c100 : r3_RatioOk.E) (c101 : f_unicode_utf8_ValidString.E) (c89 : r7_DottedOk.E) (k : Nat)  (x1 : X_Value) (x4 : Bool) : r7_ValueOk.M_g9 c47 c99 c100 c101 c89 k  (r7_ValueOk.fr_g9 x1 x4) = r7_ValueOk.g9 c47 c99 c100 c101 c89 k  x1 x4 := by
  rw [r7_ValueOk.r_g9]
  rfl
theorem r7_ValueOk.e_g12 (c47 : r7_SameInt.E) (c99 : r3_IntOk.E) (c100 : r3_RatioOk.E) (c101 : f_unicode_utf8_ValidString.E) (c89 : r7_DottedOk.E) (k : Nat)  (x1 : X_Value) (x5 : Bool) : r7_ValueOk.M_g12 c47 c99 c100 c101 c89 k  (r7_ValueOk.fr_g12 x1 x5) = r7_ValueOk.g12 c47 c99 c100 c101 c89 k  x1 x5 := by
  rw [r7_ValueOk.r_g12]
  rfl
theorem r7_ValueOk.e_g11 (c47 : r7_SameInt.E) (c99 : r3_IntOk.E) (c100 : r3_RatioOk.E) (c101 : f_unicode_utf8_ValidString.E) (c89 : r7_DottedOk.E) (k : Nat)  (x1 : X_Value) : r7_ValueOk.M_g11 c47 c99 c100 c101 c89 k  (r7_ValueOk.fr_g11 x1) = r7_ValueOk.g11 c47 c99 c100 c101 c89 k  x1 := by
  rw [r7_ValueOk.r_g11]
  simp only [r7_ValueOk.e_g12]
  rfl
theorem r7_ValueOk.e_g14 (c47 : r7_SameInt.E) (c99 : r3_IntOk.E) (c100 : r3_RatioOk.E) (c101 : f_unicode_utf8_ValidString.E) (c89 : r7_DottedOk.E) (k : Nat)  (x1 : X_Value) (x3 : Bool) (x4 : Bool) : r7_ValueOk.M_g14 c47 c99 c100 c101 c89 k  (r7_ValueOk.fr_g14 x1 x3 x4) = r7_ValueOk.g14 c47 c99 c100 c101 c89 k  x1 x3 x4 := by
  rw [r7_ValueOk.r_g14]
  rfl
theorem r7_ValueOk.e_g16 (c47 : r7_SameInt.E) (c99 : r3_IntOk.E) (c100 : r3_RatioOk.E) (c101 : f_unicode_utf8_ValidString.E) (c89 : r7_DottedOk.E) (k : Nat)  (x1 : X_Value) (x3 : Bool) (x4 : Bool) : r7_ValueOk.M_g16 c47 c99 c100 c101 c89 k  (r7_ValueOk.fr_g16 x1 x3 x4) = r7_ValueOk.g16 c47 c99 c100 c101 c89 k  x1 x3 x4 := by
  rw [r7_ValueOk.r_g16]
  rfl
theorem r7_ValueOk.e_g18 (c47 : r7_SameInt.E) (c99 : r3_IntOk.E) (c100 : r3_RatioOk.E) (c101 : f_unicode_utf8_ValidString.E) (c89 : r7_DottedOk.E) (k : Nat)  (x1 : X_Value) (x3 : Bool) (x4 : Bool) : r7_ValueOk.M_g18 c47 c99 c100 c101 c89 k  (r7_ValueOk.fr_g18 x1 x3 x4) = r7_ValueOk.g18 c47 c99 c100 c101 c89 k  x1 x3 x4 := by
  rw [r7_ValueOk.r_g18]
  rfl
theorem r7_ValueOk.e_g20 (c47 : r7_SameInt.E) (c99 : r3_IntOk.E) (c100 : r3_RatioOk.E) (c101 : f_unicode_utf8_ValidString.E) (c89 : r7_DottedOk.E) (k : Nat)  (x1 : X_Value) (x3 : Bool) (x4 : Bool) : r7_ValueOk.M_g20 c47 c99 c100 c101 c89 k  (r7_ValueOk.fr_g20 x1 x3 x4) = r7_ValueOk.g20 c47 c99 c100 c101 c89 k  x1 x3 x4 := by
  rw [r7_ValueOk.r_g20]
  rfl
theorem r7_ValueOk.e (c47 : r7_SameInt.E) (c99 : r3_IntOk.E) (c100 : r3_RatioOk.E) (c101 : f_unicode_utf8_ValidString.E) (c89 : r7_DottedOk.E) (k : Nat) (a0 : X_Value) : fn (r7_ValueOk.C c47 c99 c100 c101 c89) k Tryz.f73 r7_ValueOk.A r7_ValueOk.R a0 = r7_ValueOk.f c47 c99 c100 c101 c89 k a0 := by
  rw [r7_ValueOk.r]
  simp only [r7_ValueOk.e_g11, r7_ValueOk.e_g14, r7_ValueOk.e_g16, r7_ValueOk.e_g18, r7_ValueOk.e_g20, r7_ValueOk.e_g5, r7_ValueOk.e_g7, r7_ValueOk.e_g9]
  rfl
theorem r7_ValueOk.ty (c47 : r7_SameInt.E) (c99 : r3_IntOk.E) (c100 : r3_RatioOk.E) (c101 : f_unicode_utf8_ValidString.E) (c89 : r7_DottedOk.E) : TyOk Tryz.prog (r7_ValueOk.C c47 c99 c100 c101 c89) := tyOk_of (by kernel_rfl)
def r7_ValueOk.u (k : Nat) : r7_ValueOk.E := fun y => r7_ValueOk.f (r7_SameInt.u k) (r3_IntOk.u k) (r3_RatioOk.u k) (f_unicode_utf8_ValidString.u k) (r7_DottedOk.u k) k y
theorem r7_ValueOk.sound (k : Nat) : Sound Tryz.prog ⟨73, r7_ValueOk.A, r7_ValueOk.R, r7_ValueOk.u k⟩ := by
  have h := fn_sound (k := k) («as» := r7_ValueOk.A) (rs := r7_ValueOk.R) (r7_ValueOk.ty (r7_SameInt.u k) (r3_IntOk.u k) (r3_RatioOk.u k) (f_unicode_utf8_ValidString.u k) (r7_DottedOk.u k)) (fun E h => by
    simp only [r7_ValueOk.C, List.mem_cons, List.not_mem_nil, or_false] at h
    rcases h with rfl | rfl | rfl | rfl | rfl
    · exact r7_SameInt.sound k
    · exact r3_IntOk.sound k
    · exact r3_RatioOk.sound k
    · exact f_unicode_utf8_ValidString.sound k
    · exact r7_DottedOk.sound k) mixed Tryz.func73 (by kernel_rfl) (by kernel_rfl)
  have e : fn (r7_ValueOk.C (r7_SameInt.u k) (r3_IntOk.u k) (r3_RatioOk.u k) (f_unicode_utf8_ValidString.u k) (r7_DottedOk.u k)) k Tryz.f73 r7_ValueOk.A r7_ValueOk.R = r7_ValueOk.u k := by
    funext y
    exact r7_ValueOk.e (r7_SameInt.u k) (r3_IntOk.u k) (r3_RatioOk.u k) (f_unicode_utf8_ValidString.u k) (r7_DottedOk.u k) k y
  rw [e] at h
  exact h
/-! ### brindlewood/brindlewoodref7.SameValue: f14 -/
abbrev r7_SameValue.A : List Sh := [(.d Y_Value), (.d Y_Value)]
abbrev r7_SameValue.R : List Sh := [(.d .bool)]
abbrev r7_SameValue.E : Type := X_parts → Option (Bool)
def r7_SameValue.C (c47 : r7_SameInt.E) : Ctx := { ty := [(3, (.int .i64)), (9, .str), (27, Y_Int), (29, Y_Value)], nf := [(29, 5)], by_ := [], env := [⟨47, r7_SameInt.A, r7_SameInt.R, c47⟩], spec := [] }
noncomputable def r7_SameValue.code : Code := Func.code Tryz.f14
noncomputable def r7_SameValue.fin (c47 : r7_SameInt.E) := kfin (r7_SameValue.C c47) Tryz.f14 r7_SameValue.A r7_SameValue.R
def r7_SameValue.b (c47 : r7_SameInt.E)  (a0 : X_Value) (a1 : X_Value) : Option (Bool) :=
  bif (a0.1 == a1.1) then
    bif (a0.2.2.2.2 == a1.2.2.2.2) then
      bif (a0.2.2.2.1 == a1.2.2.2.1) then
        (c47 (a0.2.1, a1.2.1)).bind fun y1 =>
          bif y1 then
            (c47 (a0.2.2.1, a1.2.2.1)).bind fun y2 =>
              some y2
          else
            some false
      else
        some false
    else
      some false
  else
    some false
def r7_SameValue.f (c47 : r7_SameInt.E) (k : Nat) (a0 : X_Value) (a1 : X_Value) : Option (Bool) := r7_SameValue.b c47  a0 a1
theorem r7_SameValue.r (c47 : r7_SameInt.E) (k : Nat) (a0 : X_Value) (a1 : X_Value) : fn (r7_SameValue.C c47) k Tryz.f14 r7_SameValue.A r7_SameValue.R (a0, a1) = r7_SameValue.b c47  a0 a1 := by kernel_rfl
theorem r7_SameValue.e (c47 : r7_SameInt.E) (k : Nat) (a0 : X_Value) (a1 : X_Value) : fn (r7_SameValue.C c47) k Tryz.f14 r7_SameValue.A r7_SameValue.R (a0, a1) = r7_SameValue.f c47 k a0 a1 := by
  rw [r7_SameValue.r]
  rfl
theorem r7_SameValue.ty (c47 : r7_SameInt.E) : TyOk Tryz.prog (r7_SameValue.C c47) := tyOk_of (by kernel_rfl)
def r7_SameValue.u (k : Nat) : r7_SameValue.E := fun y => r7_SameValue.f (r7_SameInt.u k) k y.1 y.2
theorem r7_SameValue.sound (k : Nat) : Sound Tryz.prog ⟨14, r7_SameValue.A, r7_SameValue.R, r7_SameValue.u k⟩ := by
  have h := fn_sound (k := k) («as» := r7_SameValue.A) (rs := r7_SameValue.R) (r7_SameValue.ty (r7_SameInt.u k)) (fun E h => by
    simp only [r7_SameValue.C, List.mem_cons, List.not_mem_nil, or_false] at h
    rcases h with rfl
    · exact r7_SameInt.sound k) mixed Tryz.func14 (by kernel_rfl) (by kernel_rfl)
  have e : fn (r7_SameValue.C (r7_SameInt.u k)) k Tryz.f14 r7_SameValue.A r7_SameValue.R = r7_SameValue.u k := by
    funext y
    exact r7_SameValue.e (r7_SameInt.u k) k y.1 y.2
  rw [e] at h
  exact h
end
end Go.Ab
