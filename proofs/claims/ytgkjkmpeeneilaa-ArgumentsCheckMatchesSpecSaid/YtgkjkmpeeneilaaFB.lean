/- A part of the proof: FB. -/
import Derived.Test.YtgkjkmpeeneilaaFA
namespace Go.Ab
set_option linter.unusedVariables false
set_option maxRecDepth 100000
noncomputable section
open Go.Proofs
/-! ### brindlewood/arguments.Check: f12 -/
abbrev F12.A : List Sh := [(.d (.sl 51 Y50))]
abbrev F12.R : List Sh := [(.d Y26)]
abbrev F12.E : Type := (List X50) → Option X26
def F12.C (c30 : F30.E) (c31 : F31.E) (c32 : F32.E) (c33 : F33.E) : Ctx := { ty := [(3, (.int .i64)), (9, .str), (25, (.sl 51 Y50)), (27, Y26), (49, (.sl 132 (.blob 15))), (51, Y50)], nf := [(27, 2), (51, 3)], by_ := [(51, 48), (132, 232)], env := [⟨30, F30.A, F30.R, c30⟩, ⟨31, F31.A, F31.R, c31⟩, ⟨32, F32.A, F32.R, c32⟩, ⟨33, F33.A, F33.R, c33⟩], spec := [(0, [.d 0 (.sl 51 Y50), .bx 2 600002 (.d Y26), .d 3 (.int .i64), .d 4 .bool, .d 12 (.sl 51 Y50), .d 13 (.int .i64), .d 14 (.int .i64)]), (100022, [.d 0 (.sl 51 Y50), .bx 2 600002 (.d Y26), .d 4 .bool, .d 5 (.int .i64), .bx 6 600006 (.d Y50), .d 7 (.int .i64), .d 12 (.sl 51 Y50), .d 13 (.int .i64), .d 14 (.int .i64)]), (100012, [.d 0 (.sl 51 Y50), .bx 2 600002 (.d Y26), .d 3 (.int .i64), .d 4 .bool, .d 5 (.int .i64), .bx 6 600006 (.d Y50), .d 7 (.int .i64), .d 12 (.sl 51 Y50), .d 13 (.int .i64), .d 14 (.int .i64)]), (100014, [.d 0 (.sl 51 Y50), .bx 2 600002 (.d Y26), .d 3 (.int .i64), .d 4 .bool, .d 5 (.int .i64), .bx 6 600006 (.d Y50), .d 7 (.int .i64), .d 12 (.sl 51 Y50), .d 13 (.int .i64), .d 14 (.int .i64)]), (100016, [.d 0 (.sl 51 Y50), .bx 2 600002 (.d Y26), .d 3 (.int .i64), .d 4 .bool, .d 5 (.int .i64), .bx 6 600006 (.d Y50), .d 7 (.int .i64), .d 12 (.sl 51 Y50), .d 13 (.int .i64), .d 14 (.int .i64)]), (100018, [.d 0 (.sl 51 Y50), .bx 2 600002 (.d Y26), .d 4 .bool, .d 5 (.int .i64), .bx 6 600006 (.d Y50), .d 7 (.int .i64), .d 12 (.sl 51 Y50), .d 13 (.int .i64), .d 14 (.int .i64)]), (100020, [.d 0 (.sl 51 Y50), .bx 2 600002 (.d Y26), .d 4 .bool, .d 5 (.int .i64), .bx 6 600006 (.d Y50), .d 7 (.int .i64), .d 12 (.sl 51 Y50), .d 13 (.int .i64), .d 14 (.int .i64)])] }
noncomputable def F12.code : Code := Func.code Try.f12
noncomputable def F12.fin (c30 : F30.E) (c31 : F31.E) (c32 : F32.E) (c33 : F33.E) := kfin (F12.C c30 c31 c32 c33) Try.f12 F12.A F12.R
def F12.b (c30 : F30.E) (c31 : F31.E) (c32 : F32.E) (c33 : F33.E) (r_l0 : (List X50) → X26 → (Int) → (Bool) → (List X50) → (Int) → (Int) → Option X26) (a0 : List X50) : Option X26 :=
  bif (decide (((List.length a0) : Int) > (12 : Int))) then
    (c30 ((2 : Int), (-1 : Int))).bind fun y1 =>
      some y1
  else
    r_l0 a0 ((0 : Int), (0 : Int)) (0 : Int) false a0 ((List.length a0) : Int) (0 : Int)
def F12.b_l0 (c30 : F30.E) (c31 : F31.E) (c32 : F32.E) (c33 : F33.E) (r_g22 : (List X50) → X26 → (Bool) → (Int) → X50 → (Int) → (List X50) → (Int) → (Int) → Option X26) (r_g12 : (List X50) → X26 → (Int) → (Bool) → (Int) → X50 → (Int) → (List X50) → (Int) → (Int) → Option X26) (x0 : List X50) (x2 : (Int) × (Int)) (x3 : Int) (x4 : Bool) (x12 : List X50) (x13 : Int) (x14 : Int) : Option X26 :=
  bif (decide (x14 < x13)) then
    if 0 ≤ x14 ∧ x14 < ((List.length x12) : Int) then
      bif (decide (((List.getD x12 (Int.toNat x14) ((0 : Int), ([], []))).1) < (0 : Int))) then
        r_g22 x0 x2 x4 x14 (List.getD x12 (Int.toNat x14) ((0 : Int), ([], []))) (5 : Int) x12 x13 x14
      else
        bif (decide (((List.getD x12 (Int.toNat x14) ((0 : Int), ([], []))).1) > (3 : Int))) then
          r_g22 x0 x2 x4 x14 (List.getD x12 (Int.toNat x14) ((0 : Int), ([], []))) (5 : Int) x12 x13 x14
        else
          (c31 (((List.getD x12 (Int.toNat x14) ((0 : Int), ([], []))).2).1)).bind fun y3 =>
            bif (!y3) then
              bif (((List.getD x12 (Int.toNat x14) ((0 : Int), ([], []))).1) != (1 : Int)) then
                r_g22 x0 x2 x4 x14 (List.getD x12 (Int.toNat x14) ((0 : Int), ([], []))) (7 : Int) x12 x13 x14
              else
                bif ((((List.getD x12 (Int.toNat x14) ((0 : Int), ([], []))).2).1) != []) then
                  r_g22 x0 x2 x4 x14 (List.getD x12 (Int.toNat x14) ((0 : Int), ([], []))) (7 : Int) x12 x13 x14
                else
                  r_g12 x0 x2 x3 x4 x14 (List.getD x12 (Int.toNat x14) ((0 : Int), ([], []))) (0 : Int) x12 x13 x14
            else
              r_g12 x0 x2 x3 x4 x14 (List.getD x12 (Int.toNat x14) ((0 : Int), ([], []))) (0 : Int) x12 x13 x14
    else none
  else
    some ((0 : Int), (0 : Int))
def F12.b_g22 (c30 : F30.E) (c31 : F31.E) (c32 : F32.E) (c33 : F33.E) (n_l0 : (List X50) → X26 → (Int) → (Bool) → (List X50) → (Int) → (Int) → Option X26) (x0 : List X50) (x2 : (Int) × (Int)) (x4 : Bool) (x5 : Int) (x6 : (Int) × ((List UInt8) × (List (Unit)))) (x7 : Int) (x12 : List X50) (x13 : Int) (x14 : Int) : Option X26 :=
  bif (x7 != (0 : Int)) then
    (c30 (x7, x5)).bind fun y2 =>
      some y2
  else
    bif x4 then
      n_l0 x0 x2 x6.1 true x12 x13 (IntKind.i64.wrap (x14 + (1 : Int)))
    else
      n_l0 x0 x2 x6.1 (decide (((List.length x6.2.2) : Int) > (0 : Int))) x12 x13 (IntKind.i64.wrap (x14 + (1 : Int)))
def F12.b_g12 (c30 : F30.E) (c31 : F31.E) (c32 : F32.E) (c33 : F33.E) (r_g22 : (List X50) → X26 → (Bool) → (Int) → X50 → (Int) → (List X50) → (Int) → (Int) → Option X26) (r_g14 : (List X50) → X26 → (Int) → (Bool) → (Int) → X50 → (Int) → (List X50) → (Int) → (Int) → Option X26) (x0 : List X50) (x2 : (Int) × (Int)) (x3 : Int) (x4 : Bool) (x5 : Int) (x6 : (Int) × ((List UInt8) × (List (Unit)))) (x7 : Int) (x12 : List X50) (x13 : Int) (x14 : Int) : Option X26 :=
  bif (x6.2.1 != []) then
    if 0 ≤ (0 : Int) ∧ (0 : Int) ≤ x5 ∧ x5 ≤ ((List.length x0) : Int) then
      (c32 ((List.drop (Int.toNat (0 : Int)) (List.take (Int.toNat x5) x0)), (fun z4 => (c33 (z4.1, x6)).bind some))).bind fun y5 =>
        bif y5 then
          r_g22 x0 x2 x4 x5 x6 (8 : Int) x12 x13 x14
        else
          r_g14 x0 x2 x3 x4 x5 x6 x7 x12 x13 x14
    else none
  else
    r_g14 x0 x2 x3 x4 x5 x6 x7 x12 x13 x14
def F12.b_g14 (c30 : F30.E) (c31 : F31.E) (c32 : F32.E) (c33 : F33.E) (r_g22 : (List X50) → X26 → (Bool) → (Int) → X50 → (Int) → (List X50) → (Int) → (Int) → Option X26) (r_g16 : (List X50) → X26 → (Int) → (Bool) → (Int) → X50 → (Int) → (List X50) → (Int) → (Int) → Option X26) (x0 : List X50) (x2 : (Int) × (Int)) (x3 : Int) (x4 : Bool) (x5 : Int) (x6 : (Int) × ((List UInt8) × (List (Unit)))) (x7 : Int) (x12 : List X50) (x13 : Int) (x14 : Int) : Option X26 :=
  bif (decide (((List.length x6.2.2) : Int) > (1 : Int))) then
    r_g22 x0 x2 x4 x5 x6 (6 : Int) x12 x13 x14
  else
    bif (decide (((List.length x6.2.2) : Int) > (0 : Int))) then
      bif (x6.1 == (1 : Int)) then
        r_g22 x0 x2 x4 x5 x6 (6 : Int) x12 x13 x14
      else
        bif (x6.1 == (3 : Int)) then
          r_g22 x0 x2 x4 x5 x6 (6 : Int) x12 x13 x14
        else
          r_g16 x0 x2 x3 x4 x5 x6 x7 x12 x13 x14
    else
      r_g16 x0 x2 x3 x4 x5 x6 x7 x12 x13 x14
def F12.b_g16 (c30 : F30.E) (c31 : F31.E) (c32 : F32.E) (c33 : F33.E) (r_g22 : (List X50) → X26 → (Bool) → (Int) → X50 → (Int) → (List X50) → (Int) → (Int) → Option X26) (r_g18 : (List X50) → X26 → (Bool) → (Int) → X50 → (Int) → (List X50) → (Int) → (Int) → Option X26) (x0 : List X50) (x2 : (Int) × (Int)) (x3 : Int) (x4 : Bool) (x5 : Int) (x6 : (Int) × ((List UInt8) × (List (Unit)))) (x7 : Int) (x12 : List X50) (x13 : Int) (x14 : Int) : Option X26 :=
  bif (decide (x6.1 < x3)) then
    r_g22 x0 x2 x4 x5 x6 (11 : Int) x12 x13 x14
  else
    bif (x6.1 == x3) then
      bif (x3 == (1 : Int)) then
        r_g22 x0 x2 x4 x5 x6 (11 : Int) x12 x13 x14
      else
        bif (x3 == (3 : Int)) then
          r_g22 x0 x2 x4 x5 x6 (11 : Int) x12 x13 x14
        else
          bif (x6.1 == (2 : Int)) then
            bif (x3 == (0 : Int)) then
              r_g22 x0 x2 x4 x5 x6 (11 : Int) x12 x13 x14
            else
              r_g18 x0 x2 x4 x5 x6 x7 x12 x13 x14
          else
            r_g18 x0 x2 x4 x5 x6 x7 x12 x13 x14
    else
      bif (x6.1 == (2 : Int)) then
        bif (x3 == (0 : Int)) then
          r_g22 x0 x2 x4 x5 x6 (11 : Int) x12 x13 x14
        else
          r_g18 x0 x2 x4 x5 x6 x7 x12 x13 x14
      else
        r_g18 x0 x2 x4 x5 x6 x7 x12 x13 x14
def F12.b_g18 (c30 : F30.E) (c31 : F31.E) (c32 : F32.E) (c33 : F33.E) (r_g22 : (List X50) → X26 → (Bool) → (Int) → X50 → (Int) → (List X50) → (Int) → (Int) → Option X26) (r_g20 : (List X50) → X26 → (Bool) → (Int) → X50 → (Int) → (List X50) → (Int) → (Int) → Option X26) (x0 : List X50) (x2 : (Int) × (Int)) (x4 : Bool) (x5 : Int) (x6 : (Int) × ((List UInt8) × (List (Unit)))) (x7 : Int) (x12 : List X50) (x13 : Int) (x14 : Int) : Option X26 :=
  bif (x6.1 == (1 : Int)) then
    bif (x6.2.1 == []) then
      bif ((IntKind.i64.wrap (x5 + (1 : Int))) == ((List.length x0) : Int)) then
        r_g22 x0 x2 x4 x5 x6 (11 : Int) x12 x13 x14
      else
        if 0 ≤ (IntKind.i64.wrap (x5 + (1 : Int))) ∧ (IntKind.i64.wrap (x5 + (1 : Int))) < ((List.length x0) : Int) then
          bif (((List.getD x0 (Int.toNat (IntKind.i64.wrap (x5 + (1 : Int)))) ((0 : Int), ([], []))).1) != (2 : Int)) then
            r_g22 x0 x2 x4 x5 x6 (11 : Int) x12 x13 x14
          else
            r_g20 x0 x2 x4 x5 x6 x7 x12 x13 x14
        else none
    else
      r_g20 x0 x2 x4 x5 x6 x7 x12 x13 x14
  else
    r_g20 x0 x2 x4 x5 x6 x7 x12 x13 x14
def F12.b_g20 (c30 : F30.E) (c31 : F31.E) (c32 : F32.E) (c33 : F33.E) (r_g22 : (List X50) → X26 → (Bool) → (Int) → X50 → (Int) → (List X50) → (Int) → (Int) → Option X26) (x0 : List X50) (x2 : (Int) × (Int)) (x4 : Bool) (x5 : Int) (x6 : (Int) × ((List UInt8) × (List (Unit)))) (x7 : Int) (x12 : List X50) (x13 : Int) (x14 : Int) : Option X26 :=
  bif (x6.1 == (0 : Int)) then
    bif x4 then
      bif (((List.length x6.2.2) : Int) == (0 : Int)) then
        r_g22 x0 x2 x4 x5 x6 (11 : Int) x12 x13 x14
      else
        r_g22 x0 x2 x4 x5 x6 x7 x12 x13 x14
    else
      r_g22 x0 x2 x4 x5 x6 x7 x12 x13 x14
  else
    r_g22 x0 x2 x4 x5 x6 x7 x12 x13 x14
def F12.g22 (c30 : F30.E) (c31 : F31.E) (c32 : F32.E) (c33 : F33.E) (k : Nat) (n_l0 : (List X50) → X26 → (Int) → (Bool) → (List X50) → (Int) → (Int) → Option X26) (x0 : List X50) (x2 : (Int) × (Int)) (x4 : Bool) (x5 : Int) (x6 : (Int) × ((List UInt8) × (List (Unit)))) (x7 : Int) (x12 : List X50) (x13 : Int) (x14 : Int) : Option X26 := gate k (F12.b_g22 c30 c31 c32 c33 n_l0 x0 x2 x4 x5 x6 x7 x12 x13 x14)
def F12.g20 (c30 : F30.E) (c31 : F31.E) (c32 : F32.E) (c33 : F33.E) (k : Nat) (n_l0 : (List X50) → X26 → (Int) → (Bool) → (List X50) → (Int) → (Int) → Option X26) (x0 : List X50) (x2 : (Int) × (Int)) (x4 : Bool) (x5 : Int) (x6 : (Int) × ((List UInt8) × (List (Unit)))) (x7 : Int) (x12 : List X50) (x13 : Int) (x14 : Int) : Option X26 := gate k (F12.b_g20 c30 c31 c32 c33 (F12.g22 c30 c31 c32 c33 k n_l0) x0 x2 x4 x5 x6 x7 x12 x13 x14)
def F12.g18 (c30 : F30.E) (c31 : F31.E) (c32 : F32.E) (c33 : F33.E) (k : Nat) (n_l0 : (List X50) → X26 → (Int) → (Bool) → (List X50) → (Int) → (Int) → Option X26) (x0 : List X50) (x2 : (Int) × (Int)) (x4 : Bool) (x5 : Int) (x6 : (Int) × ((List UInt8) × (List (Unit)))) (x7 : Int) (x12 : List X50) (x13 : Int) (x14 : Int) : Option X26 := gate k (F12.b_g18 c30 c31 c32 c33 (F12.g22 c30 c31 c32 c33 k n_l0) (F12.g20 c30 c31 c32 c33 k n_l0) x0 x2 x4 x5 x6 x7 x12 x13 x14)
def F12.g16 (c30 : F30.E) (c31 : F31.E) (c32 : F32.E) (c33 : F33.E) (k : Nat) (n_l0 : (List X50) → X26 → (Int) → (Bool) → (List X50) → (Int) → (Int) → Option X26) (x0 : List X50) (x2 : (Int) × (Int)) (x3 : Int) (x4 : Bool) (x5 : Int) (x6 : (Int) × ((List UInt8) × (List (Unit)))) (x7 : Int) (x12 : List X50) (x13 : Int) (x14 : Int) : Option X26 := gate k (F12.b_g16 c30 c31 c32 c33 (F12.g22 c30 c31 c32 c33 k n_l0) (F12.g18 c30 c31 c32 c33 k n_l0) x0 x2 x3 x4 x5 x6 x7 x12 x13 x14)
def F12.g14 (c30 : F30.E) (c31 : F31.E) (c32 : F32.E) (c33 : F33.E) (k : Nat) (n_l0 : (List X50) → X26 → (Int) → (Bool) → (List X50) → (Int) → (Int) → Option X26) (x0 : List X50) (x2 : (Int) × (Int)) (x3 : Int) (x4 : Bool) (x5 : Int) (x6 : (Int) × ((List UInt8) × (List (Unit)))) (x7 : Int) (x12 : List X50) (x13 : Int) (x14 : Int) : Option X26 := gate k (F12.b_g14 c30 c31 c32 c33 (F12.g22 c30 c31 c32 c33 k n_l0) (F12.g16 c30 c31 c32 c33 k n_l0) x0 x2 x3 x4 x5 x6 x7 x12 x13 x14)
def F12.g12 (c30 : F30.E) (c31 : F31.E) (c32 : F32.E) (c33 : F33.E) (k : Nat) (n_l0 : (List X50) → X26 → (Int) → (Bool) → (List X50) → (Int) → (Int) → Option X26) (x0 : List X50) (x2 : (Int) × (Int)) (x3 : Int) (x4 : Bool) (x5 : Int) (x6 : (Int) × ((List UInt8) × (List (Unit)))) (x7 : Int) (x12 : List X50) (x13 : Int) (x14 : Int) : Option X26 := gate k (F12.b_g12 c30 c31 c32 c33 (F12.g22 c30 c31 c32 c33 k n_l0) (F12.g14 c30 c31 c32 c33 k n_l0) x0 x2 x3 x4 x5 x6 x7 x12 x13 x14)
def F12.l0 (c30 : F30.E) (c31 : F31.E) (c32 : F32.E) (c33 : F33.E) (k : Nat)  : Nat → (List X50) → X26 → (Int) → (Bool) → (List X50) → (Int) → (Int) → Option X26
  | 0, _, _, _, _, _, _, _ => none
  | n + 1, x0, x2, x3, x4, x12, x13, x14 => F12.b_l0 c30 c31 c32 c33 (F12.g22 c30 c31 c32 c33 k (fun x0 x2 x3 x4 x12 x13 x14 => F12.l0 c30 c31 c32 c33 k  n x0 x2 x3 x4 x12 x13 x14)) (F12.g12 c30 c31 c32 c33 k (fun x0 x2 x3 x4 x12 x13 x14 => F12.l0 c30 c31 c32 c33 k  n x0 x2 x3 x4 x12 x13 x14)) x0 x2 x3 x4 x12 x13 x14
def F12.f (c30 : F30.E) (c31 : F31.E) (c32 : F32.E) (c33 : F33.E) (k : Nat) (a0 : List X50) : Option X26 := F12.b c30 c31 c32 c33 (F12.l0 c30 c31 c32 c33 k k) a0
noncomputable def F12.M_l0 (c30 : F30.E) (c31 : F31.E) (c32 : F32.E) (c33 : F33.E) (k n : Nat)  (s : St) : Option X26 := atLoop (F12.C c30 c31 c32 c33) k n [1, 1, 1, 0, 1, 0] [] F12.code (F12.fin c30 c31 c32 c33) s
noncomputable def F12.fr_l0 (x0 : List X50) (x2 : (Int) × (Int)) (x3 : Int) (x4 : Bool) (x12 : List X50) (x13 : Int) (x14 : Int) : St := ⟨((((((((List.replicate 157 V.un).set 0 (V.dat (.sl 51 Y50) x0)).set 2 (V.bp 600002 0 [])).set 3 (V.dat (.int .i64) x3)).set 4 (V.dat .bool x4)).set 12 (V.dat (.sl 51 Y50) x12)).set 13 (V.dat (.int .i64) x13)).set 14 (V.dat (.int .i64) x14)), [⟨600002, 0, .box (V.dat Y26 x2)⟩]⟩
noncomputable def F12.M_g22 (c30 : F30.E) (c31 : F31.E) (c32 : F32.E) (c33 : F33.E) (k : Nat) (m0 : Nat) (s : St) : Option X26 := atGate (F12.C c30 c31 c32 c33) k [1, 1, 1, 0, 1, 0, 0, 1, 1, 0, 0, 1, 1, 1, 0, 0] [m0] F12.code (F12.fin c30 c31 c32 c33) s
noncomputable def F12.fr_g22 (x0 : List X50) (x2 : (Int) × (Int)) (x4 : Bool) (x5 : Int) (x6 : (Int) × ((List UInt8) × (List (Unit)))) (x7 : Int) (x12 : List X50) (x13 : Int) (x14 : Int) : St := ⟨((((((((((List.replicate 157 V.un).set 0 (V.dat (.sl 51 Y50) x0)).set 2 (V.bp 600002 0 [])).set 4 (V.dat .bool x4)).set 5 (V.dat (.int .i64) x5)).set 6 (V.bp 600006 0 [])).set 7 (V.dat (.int .i64) x7)).set 12 (V.dat (.sl 51 Y50) x12)).set 13 (V.dat (.int .i64) x13)).set 14 (V.dat (.int .i64) x14)), [⟨600006, 0, .box (V.dat Y50 x6)⟩, ⟨600002, 0, .box (V.dat Y26 x2)⟩]⟩
noncomputable def F12.M_g12 (c30 : F30.E) (c31 : F31.E) (c32 : F32.E) (c33 : F33.E) (k : Nat) (m0 : Nat) (s : St) : Option X26 := atGate (F12.C c30 c31 c32 c33) k [1, 1, 1, 0, 1, 0, 0, 1, 1, 0, 0, 1, 1, 0, 0, 1, 1, 1, 1, 0] [m0] F12.code (F12.fin c30 c31 c32 c33) s
noncomputable def F12.fr_g12 (x0 : List X50) (x2 : (Int) × (Int)) (x3 : Int) (x4 : Bool) (x5 : Int) (x6 : (Int) × ((List UInt8) × (List (Unit)))) (x7 : Int) (x12 : List X50) (x13 : Int) (x14 : Int) : St := ⟨(((((((((((List.replicate 157 V.un).set 0 (V.dat (.sl 51 Y50) x0)).set 2 (V.bp 600002 0 [])).set 3 (V.dat (.int .i64) x3)).set 4 (V.dat .bool x4)).set 5 (V.dat (.int .i64) x5)).set 6 (V.bp 600006 0 [])).set 7 (V.dat (.int .i64) x7)).set 12 (V.dat (.sl 51 Y50) x12)).set 13 (V.dat (.int .i64) x13)).set 14 (V.dat (.int .i64) x14)), [⟨600006, 0, .box (V.dat Y50 x6)⟩, ⟨600002, 0, .box (V.dat Y26 x2)⟩]⟩
noncomputable def F12.M_g14 (c30 : F30.E) (c31 : F31.E) (c32 : F32.E) (c33 : F33.E) (k : Nat) (m0 : Nat) (s : St) : Option X26 := atGate (F12.C c30 c31 c32 c33) k [1, 1, 1, 0, 1, 0, 0, 1, 1, 0, 0, 1, 1, 0, 0, 1, 1, 1, 1, 1, 1, 0] [m0] F12.code (F12.fin c30 c31 c32 c33) s
noncomputable def F12.fr_g14 (x0 : List X50) (x2 : (Int) × (Int)) (x3 : Int) (x4 : Bool) (x5 : Int) (x6 : (Int) × ((List UInt8) × (List (Unit)))) (x7 : Int) (x12 : List X50) (x13 : Int) (x14 : Int) : St := ⟨(((((((((((List.replicate 157 V.un).set 0 (V.dat (.sl 51 Y50) x0)).set 2 (V.bp 600002 0 [])).set 3 (V.dat (.int .i64) x3)).set 4 (V.dat .bool x4)).set 5 (V.dat (.int .i64) x5)).set 6 (V.bp 600006 0 [])).set 7 (V.dat (.int .i64) x7)).set 12 (V.dat (.sl 51 Y50) x12)).set 13 (V.dat (.int .i64) x13)).set 14 (V.dat (.int .i64) x14)), [⟨600006, 0, .box (V.dat Y50 x6)⟩, ⟨600002, 0, .box (V.dat Y26 x2)⟩]⟩
noncomputable def F12.M_g16 (c30 : F30.E) (c31 : F31.E) (c32 : F32.E) (c33 : F33.E) (k : Nat) (m0 : Nat) (s : St) : Option X26 := atGate (F12.C c30 c31 c32 c33) k [1, 1, 1, 0, 1, 0, 0, 1, 1, 0, 0, 1, 1, 0, 0, 1, 1, 1, 1, 1, 1, 1, 1, 0] [m0] F12.code (F12.fin c30 c31 c32 c33) s
noncomputable def F12.fr_g16 (x0 : List X50) (x2 : (Int) × (Int)) (x3 : Int) (x4 : Bool) (x5 : Int) (x6 : (Int) × ((List UInt8) × (List (Unit)))) (x7 : Int) (x12 : List X50) (x13 : Int) (x14 : Int) : St := ⟨(((((((((((List.replicate 157 V.un).set 0 (V.dat (.sl 51 Y50) x0)).set 2 (V.bp 600002 0 [])).set 3 (V.dat (.int .i64) x3)).set 4 (V.dat .bool x4)).set 5 (V.dat (.int .i64) x5)).set 6 (V.bp 600006 0 [])).set 7 (V.dat (.int .i64) x7)).set 12 (V.dat (.sl 51 Y50) x12)).set 13 (V.dat (.int .i64) x13)).set 14 (V.dat (.int .i64) x14)), [⟨600006, 0, .box (V.dat Y50 x6)⟩, ⟨600002, 0, .box (V.dat Y26 x2)⟩]⟩
noncomputable def F12.M_g18 (c30 : F30.E) (c31 : F31.E) (c32 : F32.E) (c33 : F33.E) (k : Nat) (m0 : Nat) (s : St) : Option X26 := atGate (F12.C c30 c31 c32 c33) k [1, 1, 1, 0, 1, 0, 0, 1, 1, 0, 0, 1, 1, 0, 0, 1, 1, 1, 1, 1, 1, 1, 1, 1, 1, 0] [m0] F12.code (F12.fin c30 c31 c32 c33) s
noncomputable def F12.fr_g18 (x0 : List X50) (x2 : (Int) × (Int)) (x4 : Bool) (x5 : Int) (x6 : (Int) × ((List UInt8) × (List (Unit)))) (x7 : Int) (x12 : List X50) (x13 : Int) (x14 : Int) : St := ⟨((((((((((List.replicate 157 V.un).set 0 (V.dat (.sl 51 Y50) x0)).set 2 (V.bp 600002 0 [])).set 4 (V.dat .bool x4)).set 5 (V.dat (.int .i64) x5)).set 6 (V.bp 600006 0 [])).set 7 (V.dat (.int .i64) x7)).set 12 (V.dat (.sl 51 Y50) x12)).set 13 (V.dat (.int .i64) x13)).set 14 (V.dat (.int .i64) x14)), [⟨600006, 0, .box (V.dat Y50 x6)⟩, ⟨600002, 0, .box (V.dat Y26 x2)⟩]⟩
noncomputable def F12.M_g20 (c30 : F30.E) (c31 : F31.E) (c32 : F32.E) (c33 : F33.E) (k : Nat) (m0 : Nat) (s : St) : Option X26 := atGate (F12.C c30 c31 c32 c33) k [1, 1, 1, 0, 1, 0, 0, 1, 1, 0, 0, 1, 1, 0, 0, 1, 1, 1, 1, 1, 1, 1, 1, 1, 1, 1, 1, 0] [m0] F12.code (F12.fin c30 c31 c32 c33) s
noncomputable def F12.fr_g20 (x0 : List X50) (x2 : (Int) × (Int)) (x4 : Bool) (x5 : Int) (x6 : (Int) × ((List UInt8) × (List (Unit)))) (x7 : Int) (x12 : List X50) (x13 : Int) (x14 : Int) : St := ⟨((((((((((List.replicate 157 V.un).set 0 (V.dat (.sl 51 Y50) x0)).set 2 (V.bp 600002 0 [])).set 4 (V.dat .bool x4)).set 5 (V.dat (.int .i64) x5)).set 6 (V.bp 600006 0 [])).set 7 (V.dat (.int .i64) x7)).set 12 (V.dat (.sl 51 Y50) x12)).set 13 (V.dat (.int .i64) x13)).set 14 (V.dat (.int .i64) x14)), [⟨600006, 0, .box (V.dat Y50 x6)⟩, ⟨600002, 0, .box (V.dat Y26 x2)⟩]⟩
theorem F12.r (c30 : F30.E) (c31 : F31.E) (c32 : F32.E) (c33 : F33.E) (k : Nat) (a0 : List X50) : fn (F12.C c30 c31 c32 c33) k Try.f12 F12.A F12.R a0 = F12.b c30 c31 c32 c33 (fun x0 x2 x3 x4 x12 x13 x14 => F12.M_l0 c30 c31 c32 c33 k k  (F12.fr_l0 x0 x2 x3 x4 x12 x13 x14)) a0 := by kernel_rfl
theorem F12.z_l0 (c30 : F30.E) (c31 : F31.E) (c32 : F32.E) (c33 : F33.E) (k : Nat)  (s : St) : F12.M_l0 c30 c31 c32 c33 k 0  s = none := by kernel_rfl
theorem F12.r_l0 (c30 : F30.E) (c31 : F31.E) (c32 : F32.E) (c33 : F33.E) (k n : Nat)  (x0 : List X50) (x2 : (Int) × (Int)) (x3 : Int) (x4 : Bool) (x12 : List X50) (x13 : Int) (x14 : Int) : F12.M_l0 c30 c31 c32 c33 k (n + 1)  (F12.fr_l0 x0 x2 x3 x4 x12 x13 x14) = F12.b_l0 c30 c31 c32 c33 (fun x0 x2 x4 x5 x6 x7 x12 x13 x14 => F12.M_g22 c30 c31 c32 c33 k  n (F12.fr_g22 x0 x2 x4 x5 x6 x7 x12 x13 x14)) (fun x0 x2 x3 x4 x5 x6 x7 x12 x13 x14 => F12.M_g12 c30 c31 c32 c33 k  n (F12.fr_g12 x0 x2 x3 x4 x5 x6 x7 x12 x13 x14)) x0 x2 x3 x4 x12 x13 x14 := by kernel_rfl
theorem F12.r_g22 (c30 : F30.E) (c31 : F31.E) (c32 : F32.E) (c33 : F33.E) (k : Nat) (m0 : Nat) (x0 : List X50) (x2 : (Int) × (Int)) (x4 : Bool) (x5 : Int) (x6 : (Int) × ((List UInt8) × (List (Unit)))) (x7 : Int) (x12 : List X50) (x13 : Int) (x14 : Int) : F12.M_g22 c30 c31 c32 c33 k m0 (F12.fr_g22 x0 x2 x4 x5 x6 x7 x12 x13 x14) = gate k (F12.b_g22 c30 c31 c32 c33 (fun x0 x2 x3 x4 x12 x13 x14 => F12.M_l0 c30 c31 c32 c33 k m0  (F12.fr_l0 x0 x2 x3 x4 x12 x13 x14)) x0 x2 x4 x5 x6 x7 x12 x13 x14) := by kernel_rfl
theorem F12.r_g12 (c30 : F30.E) (c31 : F31.E) (c32 : F32.E) (c33 : F33.E) (k : Nat) (m0 : Nat) (x0 : List X50) (x2 : (Int) × (Int)) (x3 : Int) (x4 : Bool) (x5 : Int) (x6 : (Int) × ((List UInt8) × (List (Unit)))) (x7 : Int) (x12 : List X50) (x13 : Int) (x14 : Int) : F12.M_g12 c30 c31 c32 c33 k m0 (F12.fr_g12 x0 x2 x3 x4 x5 x6 x7 x12 x13 x14) = gate k (F12.b_g12 c30 c31 c32 c33 (fun x0 x2 x4 x5 x6 x7 x12 x13 x14 => F12.M_g22 c30 c31 c32 c33 k  m0 (F12.fr_g22 x0 x2 x4 x5 x6 x7 x12 x13 x14)) (fun x0 x2 x3 x4 x5 x6 x7 x12 x13 x14 => F12.M_g14 c30 c31 c32 c33 k  m0 (F12.fr_g14 x0 x2 x3 x4 x5 x6 x7 x12 x13 x14)) x0 x2 x3 x4 x5 x6 x7 x12 x13 x14) := by kernel_rfl
theorem F12.r_g14 (c30 : F30.E) (c31 : F31.E) (c32 : F32.E) (c33 : F33.E) (k : Nat) (m0 : Nat) (x0 : List X50) (x2 : (Int) × (Int)) (x3 : Int) (x4 : Bool) (x5 : Int) (x6 : (Int) × ((List UInt8) × (List (Unit)))) (x7 : Int) (x12 : List X50) (x13 : Int) (x14 : Int) : F12.M_g14 c30 c31 c32 c33 k m0 (F12.fr_g14 x0 x2 x3 x4 x5 x6 x7 x12 x13 x14) = gate k (F12.b_g14 c30 c31 c32 c33 (fun x0 x2 x4 x5 x6 x7 x12 x13 x14 => F12.M_g22 c30 c31 c32 c33 k  m0 (F12.fr_g22 x0 x2 x4 x5 x6 x7 x12 x13 x14)) (fun x0 x2 x3 x4 x5 x6 x7 x12 x13 x14 => F12.M_g16 c30 c31 c32 c33 k  m0 (F12.fr_g16 x0 x2 x3 x4 x5 x6 x7 x12 x13 x14)) x0 x2 x3 x4 x5 x6 x7 x12 x13 x14) := by kernel_rfl
theorem F12.r_g16 (c30 : F30.E) (c31 : F31.E) (c32 : F32.E) (c33 : F33.E) (k : Nat) (m0 : Nat) (x0 : List X50) (x2 : (Int) × (Int)) (x3 : Int) (x4 : Bool) (x5 : Int) (x6 : (Int) × ((List UInt8) × (List (Unit)))) (x7 : Int) (x12 : List X50) (x13 : Int) (x14 : Int) : F12.M_g16 c30 c31 c32 c33 k m0 (F12.fr_g16 x0 x2 x3 x4 x5 x6 x7 x12 x13 x14) = gate k (F12.b_g16 c30 c31 c32 c33 (fun x0 x2 x4 x5 x6 x7 x12 x13 x14 => F12.M_g22 c30 c31 c32 c33 k  m0 (F12.fr_g22 x0 x2 x4 x5 x6 x7 x12 x13 x14)) (fun x0 x2 x4 x5 x6 x7 x12 x13 x14 => F12.M_g18 c30 c31 c32 c33 k  m0 (F12.fr_g18 x0 x2 x4 x5 x6 x7 x12 x13 x14)) x0 x2 x3 x4 x5 x6 x7 x12 x13 x14) := by kernel_rfl
theorem F12.r_g18 (c30 : F30.E) (c31 : F31.E) (c32 : F32.E) (c33 : F33.E) (k : Nat) (m0 : Nat) (x0 : List X50) (x2 : (Int) × (Int)) (x4 : Bool) (x5 : Int) (x6 : (Int) × ((List UInt8) × (List (Unit)))) (x7 : Int) (x12 : List X50) (x13 : Int) (x14 : Int) : F12.M_g18 c30 c31 c32 c33 k m0 (F12.fr_g18 x0 x2 x4 x5 x6 x7 x12 x13 x14) = gate k (F12.b_g18 c30 c31 c32 c33 (fun x0 x2 x4 x5 x6 x7 x12 x13 x14 => F12.M_g22 c30 c31 c32 c33 k  m0 (F12.fr_g22 x0 x2 x4 x5 x6 x7 x12 x13 x14)) (fun x0 x2 x4 x5 x6 x7 x12 x13 x14 => F12.M_g20 c30 c31 c32 c33 k  m0 (F12.fr_g20 x0 x2 x4 x5 x6 x7 x12 x13 x14)) x0 x2 x4 x5 x6 x7 x12 x13 x14) := by kernel_rfl
theorem F12.r_g20 (c30 : F30.E) (c31 : F31.E) (c32 : F32.E) (c33 : F33.E) (k : Nat) (m0 : Nat) (x0 : List X50) (x2 : (Int) × (Int)) (x4 : Bool) (x5 : Int) (x6 : (Int) × ((List UInt8) × (List (Unit)))) (x7 : Int) (x12 : List X50) (x13 : Int) (x14 : Int) : F12.M_g20 c30 c31 c32 c33 k m0 (F12.fr_g20 x0 x2 x4 x5 x6 x7 x12 x13 x14) = gate k (F12.b_g20 c30 c31 c32 c33 (fun x0 x2 x4 x5 x6 x7 x12 x13 x14 => F12.M_g22 c30 c31 c32 c33 k  m0 (F12.fr_g22 x0 x2 x4 x5 x6 x7 x12 x13 x14)) x0 x2 x4 x5 x6 x7 x12 x13 x14) := by kernel_rfl
theorem F12.e_g22 (c30 : F30.E) (c31 : F31.E) (c32 : F32.E) (c33 : F33.E) (k : Nat) (m0 : Nat) (x0 : List X50) (x2 : (Int) × (Int)) (x4 : Bool) (x5 : Int) (x6 : (Int) × ((List UInt8) × (List (Unit)))) (x7 : Int) (x12 : List X50) (x13 : Int) (x14 : Int) : F12.M_g22 c30 c31 c32 c33 k m0 (F12.fr_g22 x0 x2 x4 x5 x6 x7 x12 x13 x14) = F12.g22 c30 c31 c32 c33 k (fun x0 x2 x3 x4 x12 x13 x14 => F12.M_l0 c30 c31 c32 c33 k m0  (F12.fr_l0 x0 x2 x3 x4 x12 x13 x14)) x0 x2 x4 x5 x6 x7 x12 x13 x14 := by
  rw [F12.r_g22]
  rfl
theorem F12.e_g20 (c30 : F30.E) (c31 : F31.E) (c32 : F32.E) (c33 : F33.E) (k : Nat) (m0 : Nat) (x0 : List X50) (x2 : (Int) × (Int)) (x4 : Bool) (x5 : Int) (x6 : (Int) × ((List UInt8) × (List (Unit)))) (x7 : Int) (x12 : List X50) (x13 : Int) (x14 : Int) : F12.M_g20 c30 c31 c32 c33 k m0 (F12.fr_g20 x0 x2 x4 x5 x6 x7 x12 x13 x14) = F12.g20 c30 c31 c32 c33 k (fun x0 x2 x3 x4 x12 x13 x14 => F12.M_l0 c30 c31 c32 c33 k m0  (F12.fr_l0 x0 x2 x3 x4 x12 x13 x14)) x0 x2 x4 x5 x6 x7 x12 x13 x14 := by
  rw [F12.r_g20]
  simp only [F12.e_g22]
  rfl
theorem F12.e_g18 (c30 : F30.E) (c31 : F31.E) (c32 : F32.E) (c33 : F33.E) (k : Nat) (m0 : Nat) (x0 : List X50) (x2 : (Int) × (Int)) (x4 : Bool) (x5 : Int) (x6 : (Int) × ((List UInt8) × (List (Unit)))) (x7 : Int) (x12 : List X50) (x13 : Int) (x14 : Int) : F12.M_g18 c30 c31 c32 c33 k m0 (F12.fr_g18 x0 x2 x4 x5 x6 x7 x12 x13 x14) = F12.g18 c30 c31 c32 c33 k (fun x0 x2 x3 x4 x12 x13 x14 => F12.M_l0 c30 c31 c32 c33 k m0  (F12.fr_l0 x0 x2 x3 x4 x12 x13 x14)) x0 x2 x4 x5 x6 x7 x12 x13 x14 := by
  rw [F12.r_g18]
  simp only [F12.e_g20, F12.e_g22]
  rfl
theorem F12.e_g16 (c30 : F30.E) (c31 : F31.E) (c32 : F32.E) (c33 : F33.E) (k : Nat) (m0 : Nat) (x0 : List X50) (x2 : (Int) × (Int)) (x3 : Int) (x4 : Bool) (x5 : Int) (x6 : (Int) × ((List UInt8) × (List (Unit)))) (x7 : Int) (x12 : List X50) (x13 : Int) (x14 : Int) : F12.M_g16 c30 c31 c32 c33 k m0 (F12.fr_g16 x0 x2 x3 x4 x5 x6 x7 x12 x13 x14) = F12.g16 c30 c31 c32 c33 k (fun x0 x2 x3 x4 x12 x13 x14 => F12.M_l0 c30 c31 c32 c33 k m0  (F12.fr_l0 x0 x2 x3 x4 x12 x13 x14)) x0 x2 x3 x4 x5 x6 x7 x12 x13 x14 := by
  rw [F12.r_g16]
  simp only [F12.e_g18, F12.e_g22]
  rfl
theorem F12.e_g14 (c30 : F30.E) (c31 : F31.E) (c32 : F32.E) (c33 : F33.E) (k : Nat) (m0 : Nat) (x0 : List X50) (x2 : (Int) × (Int)) (x3 : Int) (x4 : Bool) (x5 : Int) (x6 : (Int) × ((List UInt8) × (List (Unit)))) (x7 : Int) (x12 : List X50) (x13 : Int) (x14 : Int) : F12.M_g14 c30 c31 c32 c33 k m0 (F12.fr_g14 x0 x2 x3 x4 x5 x6 x7 x12 x13 x14) = F12.g14 c30 c31 c32 c33 k (fun x0 x2 x3 x4 x12 x13 x14 => F12.M_l0 c30 c31 c32 c33 k m0  (F12.fr_l0 x0 x2 x3 x4 x12 x13 x14)) x0 x2 x3 x4 x5 x6 x7 x12 x13 x14 := by
  rw [F12.r_g14]
  simp only [F12.e_g16, F12.e_g22]
  rfl
theorem F12.e_g12 (c30 : F30.E) (c31 : F31.E) (c32 : F32.E) (c33 : F33.E) (k : Nat) (m0 : Nat) (x0 : List X50) (x2 : (Int) × (Int)) (x3 : Int) (x4 : Bool) (x5 : Int) (x6 : (Int) × ((List UInt8) × (List (Unit)))) (x7 : Int) (x12 : List X50) (x13 : Int) (x14 : Int) : F12.M_g12 c30 c31 c32 c33 k m0 (F12.fr_g12 x0 x2 x3 x4 x5 x6 x7 x12 x13 x14) = F12.g12 c30 c31 c32 c33 k (fun x0 x2 x3 x4 x12 x13 x14 => F12.M_l0 c30 c31 c32 c33 k m0  (F12.fr_l0 x0 x2 x3 x4 x12 x13 x14)) x0 x2 x3 x4 x5 x6 x7 x12 x13 x14 := by
  rw [F12.r_g12]
  simp only [F12.e_g14, F12.e_g22]
  rfl
theorem F12.e_l0 (c30 : F30.E) (c31 : F31.E) (c32 : F32.E) (c33 : F33.E) (k n : Nat)  (x0 : List X50) (x2 : (Int) × (Int)) (x3 : Int) (x4 : Bool) (x12 : List X50) (x13 : Int) (x14 : Int) : F12.M_l0 c30 c31 c32 c33 k n  (F12.fr_l0 x0 x2 x3 x4 x12 x13 x14) = F12.l0 c30 c31 c32 c33 k  n x0 x2 x3 x4 x12 x13 x14 := by
  induction n generalizing x0 x2 x3 x4 x12 x13 x14 with
  | zero => rw [F12.z_l0]; rfl
  | succ n ih =>
    rw [F12.r_l0]
    simp only [F12.e_g12, F12.e_g22, ih]
    rfl
theorem F12.e (c30 : F30.E) (c31 : F31.E) (c32 : F32.E) (c33 : F33.E) (k : Nat) (a0 : List X50) : fn (F12.C c30 c31 c32 c33) k Try.f12 F12.A F12.R a0 = F12.f c30 c31 c32 c33 k a0 := by
  rw [F12.r]
  simp only [F12.e_l0]
  rfl
def F12.u (k : Nat) : F12.E := fun y => F12.f (F30.u k) (F31.u k) (F32.u k) (F33.u k) k y
theorem F12.ty (c30 : F30.E) (c31 : F31.E) (c32 : F32.E) (c33 : F33.E) : TyOk Try.prog (F12.C c30 c31 c32 c33) := tyOk_of (by kernel_rfl)
theorem F12.sound (k : Nat) : Sound Try.prog ⟨12, F12.A, F12.R, F12.u k⟩ := by
  have h := fn_sound (k := k) («as» := F12.A) (rs := F12.R) (F12.ty (F30.u k) (F31.u k) (F32.u k) (F33.u k)) (fun E h => by
    simp only [F12.C, List.mem_cons, List.not_mem_nil, or_false] at h
    rcases h with rfl | rfl | rfl | rfl
    · exact F30.sound k
    · exact F31.sound k
    · exact F32.sound k
    · exact F33.sound k) mixed Try.func12 (by kernel_rfl) (by kernel_rfl)
  have e : fn (F12.C (F30.u k) (F31.u k) (F32.u k) (F33.u k)) k Try.f12 F12.A F12.R = F12.u k := by
    funext y
    exact F12.e (F30.u k) (F31.u k) (F32.u k) (F33.u k) k y
  rw [e] at h
  exact h
/-! ### brindlewood/brindlewoodref7.ParamsFault: f13 -/
abbrev F13.A : List Sh := [(.d (.sl 51 Y50))]
abbrev F13.R : List Sh := [(.d Y26)]
abbrev F13.E : Type := (List X50) → Option X26
def F13.C (c34 : F34.E) (c35 : F35.E) : Ctx := { ty := [(3, (.int .i64)), (9, .str), (25, (.sl 51 Y50)), (27, Y26), (49, (.sl 132 (.blob 15))), (51, Y50)], nf := [(27, 2), (51, 3)], by_ := [(51, 48), (132, 232)], env := [⟨34, F34.A, F34.R, c34⟩, ⟨35, F35.A, F35.R, c35⟩], spec := [(0, [.d 0 (.sl 51 Y50), .bx 2 600002 (.d Y26), .d 18 (.sl 51 Y50), .d 19 (.int .i64), .d 20 (.int .i64)]), (2, [.d 0 (.sl 51 Y50), .bx 2 600002 (.d Y26), .d 3 (.int .i64), .bx 4 600004 (.d Y50), .d 5 .bool, .d 6 .bool, .d 18 (.sl 51 Y50), .d 19 (.int .i64), .d 20 (.int .i64), .d 27 (.sl 51 Y50), .d 28 (.int .i64), .d 29 (.int .i64)]), (100011, [.d 0 (.sl 51 Y50), .bx 2 600002 (.d Y26), .d 3 (.int .i64), .bx 4 600004 (.d Y50), .d 5 .bool, .d 6 .bool, .bx 8 600008 (.d Y50), .d 18 (.sl 51 Y50), .d 19 (.int .i64), .d 20 (.int .i64), .d 27 (.sl 51 Y50), .d 28 (.int .i64), .d 29 (.int .i64)]), (100016, [.d 0 (.sl 51 Y50), .bx 2 600002 (.d Y26), .d 3 (.int .i64), .bx 4 600004 (.d Y50), .d 5 .bool, .d 6 .bool, .d 9 (.int .i64), .d 18 (.sl 51 Y50), .d 19 (.int .i64), .d 20 (.int .i64)]), (100018, [.d 0 (.sl 51 Y50), .bx 2 600002 (.d Y26), .d 3 (.int .i64), .bx 4 600004 (.d Y50), .d 5 .bool, .d 6 .bool, .d 9 (.int .i64), .d 10 .bool, .d 11 .bool, .d 12 .bool, .d 18 (.sl 51 Y50), .d 19 (.int .i64), .d 20 (.int .i64)]), (100019, [.d 0 (.sl 51 Y50), .bx 2 600002 (.d Y26), .d 3 (.int .i64), .bx 4 600004 (.d Y50), .d 5 .bool, .d 6 .bool, .d 9 (.int .i64), .d 10 .bool, .d 11 .bool, .d 12 .bool, .d 13 .bool, .d 18 (.sl 51 Y50), .d 19 (.int .i64), .d 20 (.int .i64)]), (100021, [.d 0 (.sl 51 Y50), .bx 2 600002 (.d Y26), .d 3 (.int .i64), .bx 4 600004 (.d Y50), .d 5 .bool, .d 6 .bool, .d 9 (.int .i64), .d 10 .bool, .d 11 .bool, .d 12 .bool, .d 13 .bool, .d 18 (.sl 51 Y50), .d 19 (.int .i64), .d 20 (.int .i64)]), (100025, [.d 0 (.sl 51 Y50), .bx 2 600002 (.d Y26), .d 3 (.int .i64), .bx 4 600004 (.d Y50), .d 6 .bool, .d 9 (.int .i64), .d 10 .bool, .d 11 .bool, .d 12 .bool, .d 13 .bool, .d 18 (.sl 51 Y50), .d 19 (.int .i64), .d 20 (.int .i64)]), (100027, [.d 0 (.sl 51 Y50), .bx 2 600002 (.d Y26), .d 3 (.int .i64), .bx 4 600004 (.d Y50), .d 6 .bool, .d 9 (.int .i64), .d 10 .bool, .d 11 .bool, .d 12 .bool, .d 13 .bool, .d 18 (.sl 51 Y50), .d 19 (.int .i64), .d 20 (.int .i64)]), (100029, [.d 0 (.sl 51 Y50), .bx 2 600002 (.d Y26), .d 3 (.int .i64), .bx 4 600004 (.d Y50), .d 6 .bool, .d 9 (.int .i64), .d 12 .bool, .d 13 .bool, .d 18 (.sl 51 Y50), .d 19 (.int .i64), .d 20 (.int .i64)]), (100030, [.d 0 (.sl 51 Y50), .bx 2 600002 (.d Y26), .d 3 (.int .i64), .bx 4 600004 (.d Y50), .d 6 .bool, .d 12 .bool, .d 13 .bool, .d 18 (.sl 51 Y50), .d 19 (.int .i64), .d 20 (.int .i64)]), (100031, [.d 0 (.sl 51 Y50), .bx 2 600002 (.d Y26), .d 3 (.int .i64), .bx 4 600004 (.d Y50), .d 6 .bool, .d 18 (.sl 51 Y50), .d 19 (.int .i64), .d 20 (.int .i64)])] }
noncomputable def F13.code : Code := Func.code Try.f13
noncomputable def F13.fin (c34 : F34.E) (c35 : F35.E) := kfin (F13.C c34 c35) Try.f13 F13.A F13.R
def F13.b (c34 : F34.E) (c35 : F35.E) (r_l0 : (List X50) → X26 → (List X50) → (Int) → (Int) → Option X26) (a0 : List X50) : Option X26 :=
  bif (decide (((List.length a0) : Int) > (12 : Int))) then
    (c34 ((2 : Int), (-1 : Int))).bind fun y1 =>
      some y1
  else
    r_l0 a0 ((0 : Int), (0 : Int)) a0 ((List.length a0) : Int) (0 : Int)
def F13.b_l0 (c34 : F34.E) (c35 : F35.E) (r_l2 : (List X50) → X26 → (Int) → X50 → (Bool) → (Bool) → (List X50) → (Int) → (Int) → (List X50) → (Int) → (Int) → Option X26) (x0 : List X50) (x2 : (Int) × (Int)) (x18 : List X50) (x19 : Int) (x20 : Int) : Option X26 :=
  bif (decide (x20 < x19)) then
    if 0 ≤ x20 ∧ x20 < ((List.length x18) : Int) then
      if 0 ≤ (0 : Int) ∧ (0 : Int) ≤ x20 ∧ x20 ≤ ((List.length x0) : Int) then
        r_l2 x0 x2 x20 (List.getD x18 (Int.toNat x20) ((0 : Int), ([], []))) false false x18 x19 x20 (List.drop (Int.toNat (0 : Int)) (List.take (Int.toNat x20) x0)) ((List.length (List.drop (Int.toNat (0 : Int)) (List.take (Int.toNat x20) x0))) : Int) (0 : Int)
      else none
    else none
  else
    some ((0 : Int), (0 : Int))
def F13.b_l2 (c34 : F34.E) (c35 : F35.E) (r_g11 : (List X50) → X26 → (Int) → X50 → (Bool) → (Bool) → X50 → (List X50) → (Int) → (Int) → (List X50) → (Int) → (Int) → Option X26) (r_g16 : (List X50) → X26 → (Int) → X50 → (Bool) → (Bool) → (Int) → (List X50) → (Int) → (Int) → Option X26) (x0 : List X50) (x2 : (Int) × (Int)) (x3 : Int) (x4 : (Int) × ((List UInt8) × (List (Unit)))) (x5 : Bool) (x6 : Bool) (x18 : List X50) (x19 : Int) (x20 : Int) (x27 : List X50) (x28 : Int) (x29 : Int) : Option X26 :=
  bif (decide (x29 < x28)) then
    if 0 ≤ x29 ∧ x29 < ((List.length x27) : Int) then
      bif x5 then
        r_g11 x0 x2 x3 x4 true x6 (List.getD x27 (Int.toNat x29) ((0 : Int), ([], []))) x18 x19 x20 x27 x28 x29
      else
        bif ((((List.getD x27 (Int.toNat x29) ((0 : Int), ([], []))).2).1) == x4.2.1) then
          r_g11 x0 x2 x3 x4 (x4.2.1 != []) x6 (List.getD x27 (Int.toNat x29) ((0 : Int), ([], []))) x18 x19 x20 x27 x28 x29
        else
          r_g11 x0 x2 x3 x4 false x6 (List.getD x27 (Int.toNat x29) ((0 : Int), ([], []))) x18 x19 x20 x27 x28 x29
    else none
  else
    bif (decide (x3 > (0 : Int))) then
      if 0 ≤ (IntKind.i64.wrap (x3 - (1 : Int))) ∧ (IntKind.i64.wrap (x3 - (1 : Int))) < ((List.length x0) : Int) then
        r_g16 x0 x2 x3 x4 x5 x6 ((List.getD x0 (Int.toNat (IntKind.i64.wrap (x3 - (1 : Int)))) ((0 : Int), ([], []))).1) x18 x19 x20
      else none
    else
      r_g16 x0 x2 x3 x4 x5 x6 (-1 : Int) x18 x19 x20
def F13.b_g11 (c34 : F34.E) (c35 : F35.E) (n_l2 : (List X50) → X26 → (Int) → X50 → (Bool) → (Bool) → (List X50) → (Int) → (Int) → (List X50) → (Int) → (Int) → Option X26) (x0 : List X50) (x2 : (Int) × (Int)) (x3 : Int) (x4 : (Int) × ((List UInt8) × (List (Unit)))) (x5 : Bool) (x6 : Bool) (x8 : (Int) × ((List UInt8) × (List (Unit)))) (x18 : List X50) (x19 : Int) (x20 : Int) (x27 : List X50) (x28 : Int) (x29 : Int) : Option X26 :=
  bif x6 then
    n_l2 x0 x2 x3 x4 x5 true x18 x19 x20 x27 x28 (IntKind.i64.wrap (x29 + (1 : Int)))
  else
    n_l2 x0 x2 x3 x4 x5 (decide (((List.length x8.2.2) : Int) > (0 : Int))) x18 x19 x20 x27 x28 (IntKind.i64.wrap (x29 + (1 : Int)))
def F13.b_g16 (c34 : F34.E) (c35 : F35.E) (r_g18 : (List X50) → X26 → (Int) → X50 → (Bool) → (Bool) → (Int) → (Bool) → (Bool) → (Bool) → (List X50) → (Int) → (Int) → Option X26) (x0 : List X50) (x2 : (Int) × (Int)) (x3 : Int) (x4 : (Int) × ((List UInt8) × (List (Unit)))) (x5 : Bool) (x6 : Bool) (x9 : Int) (x18 : List X50) (x19 : Int) (x20 : Int) : Option X26 :=
  bif (x4.1 == (1 : Int)) then
    r_g18 x0 x2 x3 x4 x5 x6 x9 (x4.1 == (1 : Int)) (x4.1 == (3 : Int)) (x4.2.1 == []) x18 x19 x20
  else
    r_g18 x0 x2 x3 x4 x5 x6 x9 (x4.1 == (1 : Int)) (x4.1 == (3 : Int)) false x18 x19 x20
def F13.b_g18 (c34 : F34.E) (c35 : F35.E) (r_g19 : (List X50) → X26 → (Int) → X50 → (Bool) → (Bool) → (Int) → (Bool) → (Bool) → (Bool) → (Bool) → (List X50) → (Int) → (Int) → Option X26) (x0 : List X50) (x2 : (Int) × (Int)) (x3 : Int) (x4 : (Int) × ((List UInt8) × (List (Unit)))) (x5 : Bool) (x6 : Bool) (x9 : Int) (x10 : Bool) (x11 : Bool) (x12 : Bool) (x18 : List X50) (x19 : Int) (x20 : Int) : Option X26 :=
  bif (decide ((IntKind.i64.wrap (x3 + (1 : Int))) < ((List.length x0) : Int))) then
    if 0 ≤ (IntKind.i64.wrap (x3 + (1 : Int))) ∧ (IntKind.i64.wrap (x3 + (1 : Int))) < ((List.length x0) : Int) then
      r_g19 x0 x2 x3 x4 x5 x6 x9 x10 x11 x12 (((List.getD x0 (Int.toNat (IntKind.i64.wrap (x3 + (1 : Int)))) ((0 : Int), ([], []))).1) == (2 : Int)) x18 x19 x20
    else none
  else
    r_g19 x0 x2 x3 x4 x5 x6 x9 x10 x11 x12 false x18 x19 x20
def F13.b_g19 (c34 : F34.E) (c35 : F35.E) (r_g21 : (List X50) → X26 → (Int) → X50 → (Bool) → (Bool) → (Int) → (Bool) → (Bool) → (Bool) → (Bool) → (List X50) → (Int) → (Int) → Option X26) (x0 : List X50) (x2 : (Int) × (Int)) (x3 : Int) (x4 : (Int) × ((List UInt8) × (List (Unit)))) (x5 : Bool) (x6 : Bool) (x9 : Int) (x10 : Bool) (x11 : Bool) (x12 : Bool) (x13 : Bool) (x18 : List X50) (x19 : Int) (x20 : Int) : Option X26 :=
  bif (x4.1 != (0 : Int)) then
    bif (x4.1 != (2 : Int)) then
      bif (!x10) then
        bif (!x11) then
          (c34 ((5 : Int), x3)).bind fun y2 =>
            some y2
        else
          r_g21 x0 x2 x3 x4 x5 x6 x9 x10 x11 x12 x13 x18 x19 x20
      else
        r_g21 x0 x2 x3 x4 x5 x6 x9 x10 x11 x12 x13 x18 x19 x20
    else
      r_g21 x0 x2 x3 x4 x5 x6 x9 x10 x11 x12 x13 x18 x19 x20
  else
    r_g21 x0 x2 x3 x4 x5 x6 x9 x10 x11 x12 x13 x18 x19 x20
def F13.b_g21 (c34 : F34.E) (c35 : F35.E) (r_g25 : (List X50) → X26 → (Int) → X50 → (Bool) → (Int) → (Bool) → (Bool) → (Bool) → (Bool) → (List X50) → (Int) → (Int) → Option X26) (x0 : List X50) (x2 : (Int) × (Int)) (x3 : Int) (x4 : (Int) × ((List UInt8) × (List (Unit)))) (x5 : Bool) (x6 : Bool) (x9 : Int) (x10 : Bool) (x11 : Bool) (x12 : Bool) (x13 : Bool) (x18 : List X50) (x19 : Int) (x20 : Int) : Option X26 :=
  bif (!x12) then
    (c35 x4.2.1).bind fun y3 =>
      bif (!y3) then
        (c34 ((7 : Int), x3)).bind fun y4 =>
          some y4
      else
        bif x5 then
          (c34 ((8 : Int), x3)).bind fun y5 =>
            some y5
        else
          r_g25 x0 x2 x3 x4 x6 x9 x10 x11 x12 x13 x18 x19 x20
  else
    bif x5 then
      (c34 ((8 : Int), x3)).bind fun y15 =>
        some y15
    else
      r_g25 x0 x2 x3 x4 x6 x9 x10 x11 x12 x13 x18 x19 x20
def F13.b_g25 (c34 : F34.E) (c35 : F35.E) (r_g27 : (List X50) → X26 → (Int) → X50 → (Bool) → (Int) → (Bool) → (Bool) → (Bool) → (Bool) → (List X50) → (Int) → (Int) → Option X26) (x0 : List X50) (x2 : (Int) × (Int)) (x3 : Int) (x4 : (Int) × ((List UInt8) × (List (Unit)))) (x6 : Bool) (x9 : Int) (x10 : Bool) (x11 : Bool) (x12 : Bool) (x13 : Bool) (x18 : List X50) (x19 : Int) (x20 : Int) : Option X26 :=
  bif (decide (((List.length x4.2.2) : Int) > (1 : Int))) then
    (c34 ((6 : Int), x3)).bind fun y6 =>
      some y6
  else
    bif (((List.length x4.2.2) : Int) == (1 : Int)) then
      bif x10 then
        (c34 ((6 : Int), x3)).bind fun y7 =>
          some y7
      else
        bif x11 then
          (c34 ((6 : Int), x3)).bind fun y8 =>
            some y8
        else
          r_g27 x0 x2 x3 x4 x6 x9 x10 x11 x12 x13 x18 x19 x20
    else
      r_g27 x0 x2 x3 x4 x6 x9 x10 x11 x12 x13 x18 x19 x20
def F13.b_g27 (c34 : F34.E) (c35 : F35.E) (n_l0 : (List X50) → X26 → (List X50) → (Int) → (Int) → Option X26) (r_g29 : (List X50) → X26 → (Int) → X50 → (Bool) → (Int) → (Bool) → (Bool) → (List X50) → (Int) → (Int) → Option X26) (x0 : List X50) (x2 : (Int) × (Int)) (x3 : Int) (x4 : (Int) × ((List UInt8) × (List (Unit)))) (x6 : Bool) (x9 : Int) (x10 : Bool) (x11 : Bool) (x12 : Bool) (x13 : Bool) (x18 : List X50) (x19 : Int) (x20 : Int) : Option X26 :=
  bif (decide (x4.1 < x9)) then
    bif (decide (x4.1 < x9)) then
      (c34 ((11 : Int), x3)).bind fun y9 =>
        some y9
    else
      n_l0 x0 x2 x18 x19 (IntKind.i64.wrap (x20 + (1 : Int)))
  else
    bif x10 then
      bif (x4.1 == x9) then
        bif (x4.1 == x9) then
          (c34 ((11 : Int), x3)).bind fun y10 =>
            some y10
        else
          n_l0 x0 x2 x18 x19 (IntKind.i64.wrap (x20 + (1 : Int)))
      else
        r_g29 x0 x2 x3 x4 x6 x9 x12 x13 x18 x19 x20
    else
      bif x11 then
        bif (x4.1 == x9) then
          bif (x4.1 == x9) then
            (c34 ((11 : Int), x3)).bind fun y14 =>
              some y14
          else
            n_l0 x0 x2 x18 x19 (IntKind.i64.wrap (x20 + (1 : Int)))
        else
          r_g29 x0 x2 x3 x4 x6 x9 x12 x13 x18 x19 x20
      else
        r_g29 x0 x2 x3 x4 x6 x9 x12 x13 x18 x19 x20
def F13.b_g29 (c34 : F34.E) (c35 : F35.E) (n_l0 : (List X50) → X26 → (List X50) → (Int) → (Int) → Option X26) (r_g30 : (List X50) → X26 → (Int) → X50 → (Bool) → (Bool) → (Bool) → (List X50) → (Int) → (Int) → Option X26) (x0 : List X50) (x2 : (Int) × (Int)) (x3 : Int) (x4 : (Int) × ((List UInt8) × (List (Unit)))) (x6 : Bool) (x9 : Int) (x12 : Bool) (x13 : Bool) (x18 : List X50) (x19 : Int) (x20 : Int) : Option X26 :=
  bif (x4.1 == (2 : Int)) then
    bif (decide (x9 ≤ (0 : Int))) then
      bif (decide (x9 ≤ (0 : Int))) then
        (c34 ((11 : Int), x3)).bind fun y11 =>
          some y11
      else
        n_l0 x0 x2 x18 x19 (IntKind.i64.wrap (x20 + (1 : Int)))
    else
      r_g30 x0 x2 x3 x4 x6 x12 x13 x18 x19 x20
  else
    r_g30 x0 x2 x3 x4 x6 x12 x13 x18 x19 x20
def F13.b_g30 (c34 : F34.E) (c35 : F35.E) (n_l0 : (List X50) → X26 → (List X50) → (Int) → (Int) → Option X26) (r_g31 : (List X50) → X26 → (Int) → X50 → (Bool) → (List X50) → (Int) → (Int) → Option X26) (x0 : List X50) (x2 : (Int) × (Int)) (x3 : Int) (x4 : (Int) × ((List UInt8) × (List (Unit)))) (x6 : Bool) (x12 : Bool) (x13 : Bool) (x18 : List X50) (x19 : Int) (x20 : Int) : Option X26 :=
  bif x12 then
    bif (!x13) then
      bif (!x13) then
        (c34 ((11 : Int), x3)).bind fun y12 =>
          some y12
      else
        n_l0 x0 x2 x18 x19 (IntKind.i64.wrap (x20 + (1 : Int)))
    else
      r_g31 x0 x2 x3 x4 x6 x18 x19 x20
  else
    r_g31 x0 x2 x3 x4 x6 x18 x19 x20
def F13.b_g31 (c34 : F34.E) (c35 : F35.E) (n_l0 : (List X50) → X26 → (List X50) → (Int) → (Int) → Option X26) (x0 : List X50) (x2 : (Int) × (Int)) (x3 : Int) (x4 : (Int) × ((List UInt8) × (List (Unit)))) (x6 : Bool) (x18 : List X50) (x19 : Int) (x20 : Int) : Option X26 :=
  bif (x4.1 == (0 : Int)) then
    bif x6 then
      bif (((List.length x4.2.2) : Int) == (0 : Int)) then
        (c34 ((11 : Int), x3)).bind fun y13 =>
          some y13
      else
        n_l0 x0 x2 x18 x19 (IntKind.i64.wrap (x20 + (1 : Int)))
    else
      n_l0 x0 x2 x18 x19 (IntKind.i64.wrap (x20 + (1 : Int)))
  else
    n_l0 x0 x2 x18 x19 (IntKind.i64.wrap (x20 + (1 : Int)))
def F13.g11 (c34 : F34.E) (c35 : F35.E) (k : Nat) (n_l0 : (List X50) → X26 → (List X50) → (Int) → (Int) → Option X26) (n_l2 : (List X50) → X26 → (Int) → X50 → (Bool) → (Bool) → (List X50) → (Int) → (Int) → (List X50) → (Int) → (Int) → Option X26) (x0 : List X50) (x2 : (Int) × (Int)) (x3 : Int) (x4 : (Int) × ((List UInt8) × (List (Unit)))) (x5 : Bool) (x6 : Bool) (x8 : (Int) × ((List UInt8) × (List (Unit)))) (x18 : List X50) (x19 : Int) (x20 : Int) (x27 : List X50) (x28 : Int) (x29 : Int) : Option X26 := gate k (F13.b_g11 c34 c35 n_l2 x0 x2 x3 x4 x5 x6 x8 x18 x19 x20 x27 x28 x29)
def F13.g31 (c34 : F34.E) (c35 : F35.E) (k : Nat) (n_l0 : (List X50) → X26 → (List X50) → (Int) → (Int) → Option X26) (x0 : List X50) (x2 : (Int) × (Int)) (x3 : Int) (x4 : (Int) × ((List UInt8) × (List (Unit)))) (x6 : Bool) (x18 : List X50) (x19 : Int) (x20 : Int) : Option X26 := gate k (F13.b_g31 c34 c35 n_l0 x0 x2 x3 x4 x6 x18 x19 x20)
def F13.g30 (c34 : F34.E) (c35 : F35.E) (k : Nat) (n_l0 : (List X50) → X26 → (List X50) → (Int) → (Int) → Option X26) (x0 : List X50) (x2 : (Int) × (Int)) (x3 : Int) (x4 : (Int) × ((List UInt8) × (List (Unit)))) (x6 : Bool) (x12 : Bool) (x13 : Bool) (x18 : List X50) (x19 : Int) (x20 : Int) : Option X26 := gate k (F13.b_g30 c34 c35 n_l0 (F13.g31 c34 c35 k n_l0) x0 x2 x3 x4 x6 x12 x13 x18 x19 x20)
def F13.g29 (c34 : F34.E) (c35 : F35.E) (k : Nat) (n_l0 : (List X50) → X26 → (List X50) → (Int) → (Int) → Option X26) (x0 : List X50) (x2 : (Int) × (Int)) (x3 : Int) (x4 : (Int) × ((List UInt8) × (List (Unit)))) (x6 : Bool) (x9 : Int) (x12 : Bool) (x13 : Bool) (x18 : List X50) (x19 : Int) (x20 : Int) : Option X26 := gate k (F13.b_g29 c34 c35 n_l0 (F13.g30 c34 c35 k n_l0) x0 x2 x3 x4 x6 x9 x12 x13 x18 x19 x20)
def F13.g27 (c34 : F34.E) (c35 : F35.E) (k : Nat) (n_l0 : (List X50) → X26 → (List X50) → (Int) → (Int) → Option X26) (x0 : List X50) (x2 : (Int) × (Int)) (x3 : Int) (x4 : (Int) × ((List UInt8) × (List (Unit)))) (x6 : Bool) (x9 : Int) (x10 : Bool) (x11 : Bool) (x12 : Bool) (x13 : Bool) (x18 : List X50) (x19 : Int) (x20 : Int) : Option X26 := gate k (F13.b_g27 c34 c35 n_l0 (F13.g29 c34 c35 k n_l0) x0 x2 x3 x4 x6 x9 x10 x11 x12 x13 x18 x19 x20)
def F13.g25 (c34 : F34.E) (c35 : F35.E) (k : Nat) (n_l0 : (List X50) → X26 → (List X50) → (Int) → (Int) → Option X26) (x0 : List X50) (x2 : (Int) × (Int)) (x3 : Int) (x4 : (Int) × ((List UInt8) × (List (Unit)))) (x6 : Bool) (x9 : Int) (x10 : Bool) (x11 : Bool) (x12 : Bool) (x13 : Bool) (x18 : List X50) (x19 : Int) (x20 : Int) : Option X26 := gate k (F13.b_g25 c34 c35 (F13.g27 c34 c35 k n_l0) x0 x2 x3 x4 x6 x9 x10 x11 x12 x13 x18 x19 x20)
def F13.g21 (c34 : F34.E) (c35 : F35.E) (k : Nat) (n_l0 : (List X50) → X26 → (List X50) → (Int) → (Int) → Option X26) (x0 : List X50) (x2 : (Int) × (Int)) (x3 : Int) (x4 : (Int) × ((List UInt8) × (List (Unit)))) (x5 : Bool) (x6 : Bool) (x9 : Int) (x10 : Bool) (x11 : Bool) (x12 : Bool) (x13 : Bool) (x18 : List X50) (x19 : Int) (x20 : Int) : Option X26 := gate k (F13.b_g21 c34 c35 (F13.g25 c34 c35 k n_l0) x0 x2 x3 x4 x5 x6 x9 x10 x11 x12 x13 x18 x19 x20)
def F13.g19 (c34 : F34.E) (c35 : F35.E) (k : Nat) (n_l0 : (List X50) → X26 → (List X50) → (Int) → (Int) → Option X26) (x0 : List X50) (x2 : (Int) × (Int)) (x3 : Int) (x4 : (Int) × ((List UInt8) × (List (Unit)))) (x5 : Bool) (x6 : Bool) (x9 : Int) (x10 : Bool) (x11 : Bool) (x12 : Bool) (x13 : Bool) (x18 : List X50) (x19 : Int) (x20 : Int) : Option X26 := gate k (F13.b_g19 c34 c35 (F13.g21 c34 c35 k n_l0) x0 x2 x3 x4 x5 x6 x9 x10 x11 x12 x13 x18 x19 x20)
def F13.g18 (c34 : F34.E) (c35 : F35.E) (k : Nat) (n_l0 : (List X50) → X26 → (List X50) → (Int) → (Int) → Option X26) (x0 : List X50) (x2 : (Int) × (Int)) (x3 : Int) (x4 : (Int) × ((List UInt8) × (List (Unit)))) (x5 : Bool) (x6 : Bool) (x9 : Int) (x10 : Bool) (x11 : Bool) (x12 : Bool) (x18 : List X50) (x19 : Int) (x20 : Int) : Option X26 := gate k (F13.b_g18 c34 c35 (F13.g19 c34 c35 k n_l0) x0 x2 x3 x4 x5 x6 x9 x10 x11 x12 x18 x19 x20)
def F13.g16 (c34 : F34.E) (c35 : F35.E) (k : Nat) (n_l0 : (List X50) → X26 → (List X50) → (Int) → (Int) → Option X26) (x0 : List X50) (x2 : (Int) × (Int)) (x3 : Int) (x4 : (Int) × ((List UInt8) × (List (Unit)))) (x5 : Bool) (x6 : Bool) (x9 : Int) (x18 : List X50) (x19 : Int) (x20 : Int) : Option X26 := gate k (F13.b_g16 c34 c35 (F13.g18 c34 c35 k n_l0) x0 x2 x3 x4 x5 x6 x9 x18 x19 x20)
def F13.l2 (c34 : F34.E) (c35 : F35.E) (k : Nat) (n_l0 : (List X50) → X26 → (List X50) → (Int) → (Int) → Option X26) : Nat → (List X50) → X26 → (Int) → X50 → (Bool) → (Bool) → (List X50) → (Int) → (Int) → (List X50) → (Int) → (Int) → Option X26
  | 0, _, _, _, _, _, _, _, _, _, _, _, _ => none
  | n + 1, x0, x2, x3, x4, x5, x6, x18, x19, x20, x27, x28, x29 => F13.b_l2 c34 c35 (F13.g11 c34 c35 k n_l0 (fun x0 x2 x3 x4 x5 x6 x18 x19 x20 x27 x28 x29 => F13.l2 c34 c35 k n_l0 n x0 x2 x3 x4 x5 x6 x18 x19 x20 x27 x28 x29)) (F13.g16 c34 c35 k n_l0) x0 x2 x3 x4 x5 x6 x18 x19 x20 x27 x28 x29
def F13.l0 (c34 : F34.E) (c35 : F35.E) (k : Nat)  : Nat → (List X50) → X26 → (List X50) → (Int) → (Int) → Option X26
  | 0, _, _, _, _, _ => none
  | n + 1, x0, x2, x18, x19, x20 => F13.b_l0 c34 c35 (F13.l2 c34 c35 k (fun x0 x2 x18 x19 x20 => F13.l0 c34 c35 k  n x0 x2 x18 x19 x20) k) x0 x2 x18 x19 x20
def F13.f (c34 : F34.E) (c35 : F35.E) (k : Nat) (a0 : List X50) : Option X26 := F13.b c34 c35 (F13.l0 c34 c35 k k) a0
noncomputable def F13.M_l0 (c34 : F34.E) (c35 : F35.E) (k n : Nat)  (s : St) : Option X26 := atLoop (F13.C c34 c35) k n [1, 1, 0, 1, 0] [] F13.code (F13.fin c34 c35) s
noncomputable def F13.fr_l0 (x0 : List X50) (x2 : (Int) × (Int)) (x18 : List X50) (x19 : Int) (x20 : Int) : St := ⟨((((((List.replicate 184 V.un).set 0 (V.dat (.sl 51 Y50) x0)).set 2 (V.bp 600002 0 [])).set 18 (V.dat (.sl 51 Y50) x18)).set 19 (V.dat (.int .i64) x19)).set 20 (V.dat (.int .i64) x20)), [⟨600002, 0, .box (V.dat Y26 x2)⟩]⟩
noncomputable def F13.M_l2 (c34 : F34.E) (c35 : F35.E) (k n : Nat) (m0 : Nat) (s : St) : Option X26 := atLoop (F13.C c34 c35) k n [1, 1, 0, 1, 0, 0, 1, 1, 0, 0, 1, 1, 0, 1, 0] [m0] F13.code (F13.fin c34 c35) s
noncomputable def F13.fr_l2 (x0 : List X50) (x2 : (Int) × (Int)) (x3 : Int) (x4 : (Int) × ((List UInt8) × (List (Unit)))) (x5 : Bool) (x6 : Bool) (x18 : List X50) (x19 : Int) (x20 : Int) (x27 : List X50) (x28 : Int) (x29 : Int) : St := ⟨(((((((((((((List.replicate 184 V.un).set 0 (V.dat (.sl 51 Y50) x0)).set 2 (V.bp 600002 0 [])).set 3 (V.dat (.int .i64) x3)).set 4 (V.bp 600004 0 [])).set 5 (V.dat .bool x5)).set 6 (V.dat .bool x6)).set 18 (V.dat (.sl 51 Y50) x18)).set 19 (V.dat (.int .i64) x19)).set 20 (V.dat (.int .i64) x20)).set 27 (V.dat (.sl 51 Y50) x27)).set 28 (V.dat (.int .i64) x28)).set 29 (V.dat (.int .i64) x29)), [⟨600004, 0, .box (V.dat Y50 x4)⟩, ⟨600002, 0, .box (V.dat Y26 x2)⟩]⟩
noncomputable def F13.M_g11 (c34 : F34.E) (c35 : F35.E) (k : Nat) (m0 : Nat) (m1 : Nat) (s : St) : Option X26 := atGate (F13.C c34 c35) k [1, 1, 0, 1, 0, 0, 1, 1, 0, 0, 1, 1, 0, 1, 0, 0, 1, 1, 0, 0, 1, 1] [m0, m1] F13.code (F13.fin c34 c35) s
noncomputable def F13.fr_g11 (x0 : List X50) (x2 : (Int) × (Int)) (x3 : Int) (x4 : (Int) × ((List UInt8) × (List (Unit)))) (x5 : Bool) (x6 : Bool) (x8 : (Int) × ((List UInt8) × (List (Unit)))) (x18 : List X50) (x19 : Int) (x20 : Int) (x27 : List X50) (x28 : Int) (x29 : Int) : St := ⟨((((((((((((((List.replicate 184 V.un).set 0 (V.dat (.sl 51 Y50) x0)).set 2 (V.bp 600002 0 [])).set 3 (V.dat (.int .i64) x3)).set 4 (V.bp 600004 0 [])).set 5 (V.dat .bool x5)).set 6 (V.dat .bool x6)).set 8 (V.bp 600008 0 [])).set 18 (V.dat (.sl 51 Y50) x18)).set 19 (V.dat (.int .i64) x19)).set 20 (V.dat (.int .i64) x20)).set 27 (V.dat (.sl 51 Y50) x27)).set 28 (V.dat (.int .i64) x28)).set 29 (V.dat (.int .i64) x29)), [⟨600008, 0, .box (V.dat Y50 x8)⟩, ⟨600004, 0, .box (V.dat Y50 x4)⟩, ⟨600002, 0, .box (V.dat Y26 x2)⟩]⟩
noncomputable def F13.M_g16 (c34 : F34.E) (c35 : F35.E) (k : Nat) (m0 : Nat) (s : St) : Option X26 := atGate (F13.C c34 c35) k [1, 1, 0, 1, 0, 0, 1, 1, 0, 0, 1, 1, 1, 1, 1, 0] [m0] F13.code (F13.fin c34 c35) s
noncomputable def F13.fr_g16 (x0 : List X50) (x2 : (Int) × (Int)) (x3 : Int) (x4 : (Int) × ((List UInt8) × (List (Unit)))) (x5 : Bool) (x6 : Bool) (x9 : Int) (x18 : List X50) (x19 : Int) (x20 : Int) : St := ⟨(((((((((((List.replicate 184 V.un).set 0 (V.dat (.sl 51 Y50) x0)).set 2 (V.bp 600002 0 [])).set 3 (V.dat (.int .i64) x3)).set 4 (V.bp 600004 0 [])).set 5 (V.dat .bool x5)).set 6 (V.dat .bool x6)).set 9 (V.dat (.int .i64) x9)).set 18 (V.dat (.sl 51 Y50) x18)).set 19 (V.dat (.int .i64) x19)).set 20 (V.dat (.int .i64) x20)), [⟨600004, 0, .box (V.dat Y50 x4)⟩, ⟨600002, 0, .box (V.dat Y26 x2)⟩]⟩
noncomputable def F13.M_g18 (c34 : F34.E) (c35 : F35.E) (k : Nat) (m0 : Nat) (s : St) : Option X26 := atGate (F13.C c34 c35) k [1, 1, 0, 1, 0, 0, 1, 1, 0, 0, 1, 1, 1, 1, 1, 1, 1, 0] [m0] F13.code (F13.fin c34 c35) s
noncomputable def F13.fr_g18 (x0 : List X50) (x2 : (Int) × (Int)) (x3 : Int) (x4 : (Int) × ((List UInt8) × (List (Unit)))) (x5 : Bool) (x6 : Bool) (x9 : Int) (x10 : Bool) (x11 : Bool) (x12 : Bool) (x18 : List X50) (x19 : Int) (x20 : Int) : St := ⟨((((((((((((((List.replicate 184 V.un).set 0 (V.dat (.sl 51 Y50) x0)).set 2 (V.bp 600002 0 [])).set 3 (V.dat (.int .i64) x3)).set 4 (V.bp 600004 0 [])).set 5 (V.dat .bool x5)).set 6 (V.dat .bool x6)).set 9 (V.dat (.int .i64) x9)).set 10 (V.dat .bool x10)).set 11 (V.dat .bool x11)).set 12 (V.dat .bool x12)).set 18 (V.dat (.sl 51 Y50) x18)).set 19 (V.dat (.int .i64) x19)).set 20 (V.dat (.int .i64) x20)), [⟨600004, 0, .box (V.dat Y50 x4)⟩, ⟨600002, 0, .box (V.dat Y26 x2)⟩]⟩
noncomputable def F13.M_g19 (c34 : F34.E) (c35 : F35.E) (k : Nat) (m0 : Nat) (s : St) : Option X26 := atGate (F13.C c34 c35) k [1, 1, 0, 1, 0, 0, 1, 1, 0, 0, 1, 1, 1, 1, 1, 1, 1, 1, 0, 0] [m0] F13.code (F13.fin c34 c35) s
noncomputable def F13.fr_g19 (x0 : List X50) (x2 : (Int) × (Int)) (x3 : Int) (x4 : (Int) × ((List UInt8) × (List (Unit)))) (x5 : Bool) (x6 : Bool) (x9 : Int) (x10 : Bool) (x11 : Bool) (x12 : Bool) (x13 : Bool) (x18 : List X50) (x19 : Int) (x20 : Int) : St := ⟨(((((((((((((((List.replicate 184 V.un).set 0 (V.dat (.sl 51 Y50) x0)).set 2 (V.bp 600002 0 [])).set 3 (V.dat (.int .i64) x3)).set 4 (V.bp 600004 0 [])).set 5 (V.dat .bool x5)).set 6 (V.dat .bool x6)).set 9 (V.dat (.int .i64) x9)).set 10 (V.dat .bool x10)).set 11 (V.dat .bool x11)).set 12 (V.dat .bool x12)).set 13 (V.dat .bool x13)).set 18 (V.dat (.sl 51 Y50) x18)).set 19 (V.dat (.int .i64) x19)).set 20 (V.dat (.int .i64) x20)), [⟨600004, 0, .box (V.dat Y50 x4)⟩, ⟨600002, 0, .box (V.dat Y26 x2)⟩]⟩
noncomputable def F13.M_g21 (c34 : F34.E) (c35 : F35.E) (k : Nat) (m0 : Nat) (s : St) : Option X26 := atGate (F13.C c34 c35) k [1, 1, 0, 1, 0, 0, 1, 1, 0, 0, 1, 1, 1, 1, 1, 1, 1, 1, 0, 1, 1, 0] [m0] F13.code (F13.fin c34 c35) s
noncomputable def F13.fr_g21 (x0 : List X50) (x2 : (Int) × (Int)) (x3 : Int) (x4 : (Int) × ((List UInt8) × (List (Unit)))) (x5 : Bool) (x6 : Bool) (x9 : Int) (x10 : Bool) (x11 : Bool) (x12 : Bool) (x13 : Bool) (x18 : List X50) (x19 : Int) (x20 : Int) : St := ⟨(((((((((((((((List.replicate 184 V.un).set 0 (V.dat (.sl 51 Y50) x0)).set 2 (V.bp 600002 0 [])).set 3 (V.dat (.int .i64) x3)).set 4 (V.bp 600004 0 [])).set 5 (V.dat .bool x5)).set 6 (V.dat .bool x6)).set 9 (V.dat (.int .i64) x9)).set 10 (V.dat .bool x10)).set 11 (V.dat .bool x11)).set 12 (V.dat .bool x12)).set 13 (V.dat .bool x13)).set 18 (V.dat (.sl 51 Y50) x18)).set 19 (V.dat (.int .i64) x19)).set 20 (V.dat (.int .i64) x20)), [⟨600004, 0, .box (V.dat Y50 x4)⟩, ⟨600002, 0, .box (V.dat Y26 x2)⟩]⟩
noncomputable def F13.M_g25 (c34 : F34.E) (c35 : F35.E) (k : Nat) (m0 : Nat) (s : St) : Option X26 := atGate (F13.C c34 c35) k [1, 1, 0, 1, 0, 0, 1, 1, 0, 0, 1, 1, 1, 1, 1, 1, 1, 1, 0, 1, 1, 1, 1, 1, 1, 0] [m0] F13.code (F13.fin c34 c35) s
noncomputable def F13.fr_g25 (x0 : List X50) (x2 : (Int) × (Int)) (x3 : Int) (x4 : (Int) × ((List UInt8) × (List (Unit)))) (x6 : Bool) (x9 : Int) (x10 : Bool) (x11 : Bool) (x12 : Bool) (x13 : Bool) (x18 : List X50) (x19 : Int) (x20 : Int) : St := ⟨((((((((((((((List.replicate 184 V.un).set 0 (V.dat (.sl 51 Y50) x0)).set 2 (V.bp 600002 0 [])).set 3 (V.dat (.int .i64) x3)).set 4 (V.bp 600004 0 [])).set 6 (V.dat .bool x6)).set 9 (V.dat (.int .i64) x9)).set 10 (V.dat .bool x10)).set 11 (V.dat .bool x11)).set 12 (V.dat .bool x12)).set 13 (V.dat .bool x13)).set 18 (V.dat (.sl 51 Y50) x18)).set 19 (V.dat (.int .i64) x19)).set 20 (V.dat (.int .i64) x20)), [⟨600004, 0, .box (V.dat Y50 x4)⟩, ⟨600002, 0, .box (V.dat Y26 x2)⟩]⟩
noncomputable def F13.M_g27 (c34 : F34.E) (c35 : F35.E) (k : Nat) (m0 : Nat) (s : St) : Option X26 := atGate (F13.C c34 c35) k [1, 1, 0, 1, 0, 0, 1, 1, 0, 0, 1, 1, 1, 1, 1, 1, 1, 1, 0, 1, 1, 1, 1, 1, 1, 1, 1, 0, 0] [m0] F13.code (F13.fin c34 c35) s
noncomputable def F13.fr_g27 (x0 : List X50) (x2 : (Int) × (Int)) (x3 : Int) (x4 : (Int) × ((List UInt8) × (List (Unit)))) (x6 : Bool) (x9 : Int) (x10 : Bool) (x11 : Bool) (x12 : Bool) (x13 : Bool) (x18 : List X50) (x19 : Int) (x20 : Int) : St := ⟨((((((((((((((List.replicate 184 V.un).set 0 (V.dat (.sl 51 Y50) x0)).set 2 (V.bp 600002 0 [])).set 3 (V.dat (.int .i64) x3)).set 4 (V.bp 600004 0 [])).set 6 (V.dat .bool x6)).set 9 (V.dat (.int .i64) x9)).set 10 (V.dat .bool x10)).set 11 (V.dat .bool x11)).set 12 (V.dat .bool x12)).set 13 (V.dat .bool x13)).set 18 (V.dat (.sl 51 Y50) x18)).set 19 (V.dat (.int .i64) x19)).set 20 (V.dat (.int .i64) x20)), [⟨600004, 0, .box (V.dat Y50 x4)⟩, ⟨600002, 0, .box (V.dat Y26 x2)⟩]⟩
noncomputable def F13.M_g29 (c34 : F34.E) (c35 : F35.E) (k : Nat) (m0 : Nat) (s : St) : Option X26 := atGate (F13.C c34 c35) k [1, 1, 0, 1, 0, 0, 1, 1, 0, 0, 1, 1, 1, 1, 1, 1, 1, 1, 0, 1, 1, 1, 1, 1, 1, 1, 1, 0, 1, 1, 1, 1, 0] [m0] F13.code (F13.fin c34 c35) s
noncomputable def F13.fr_g29 (x0 : List X50) (x2 : (Int) × (Int)) (x3 : Int) (x4 : (Int) × ((List UInt8) × (List (Unit)))) (x6 : Bool) (x9 : Int) (x12 : Bool) (x13 : Bool) (x18 : List X50) (x19 : Int) (x20 : Int) : St := ⟨((((((((((((List.replicate 184 V.un).set 0 (V.dat (.sl 51 Y50) x0)).set 2 (V.bp 600002 0 [])).set 3 (V.dat (.int .i64) x3)).set 4 (V.bp 600004 0 [])).set 6 (V.dat .bool x6)).set 9 (V.dat (.int .i64) x9)).set 12 (V.dat .bool x12)).set 13 (V.dat .bool x13)).set 18 (V.dat (.sl 51 Y50) x18)).set 19 (V.dat (.int .i64) x19)).set 20 (V.dat (.int .i64) x20)), [⟨600004, 0, .box (V.dat Y50 x4)⟩, ⟨600002, 0, .box (V.dat Y26 x2)⟩]⟩
noncomputable def F13.M_g30 (c34 : F34.E) (c35 : F35.E) (k : Nat) (m0 : Nat) (s : St) : Option X26 := atGate (F13.C c34 c35) k [1, 1, 0, 1, 0, 0, 1, 1, 0, 0, 1, 1, 1, 1, 1, 1, 1, 1, 0, 1, 1, 1, 1, 1, 1, 1, 1, 0, 1, 1, 1, 1, 1, 1, 0] [m0] F13.code (F13.fin c34 c35) s
noncomputable def F13.fr_g30 (x0 : List X50) (x2 : (Int) × (Int)) (x3 : Int) (x4 : (Int) × ((List UInt8) × (List (Unit)))) (x6 : Bool) (x12 : Bool) (x13 : Bool) (x18 : List X50) (x19 : Int) (x20 : Int) : St := ⟨(((((((((((List.replicate 184 V.un).set 0 (V.dat (.sl 51 Y50) x0)).set 2 (V.bp 600002 0 [])).set 3 (V.dat (.int .i64) x3)).set 4 (V.bp 600004 0 [])).set 6 (V.dat .bool x6)).set 12 (V.dat .bool x12)).set 13 (V.dat .bool x13)).set 18 (V.dat (.sl 51 Y50) x18)).set 19 (V.dat (.int .i64) x19)).set 20 (V.dat (.int .i64) x20)), [⟨600004, 0, .box (V.dat Y50 x4)⟩, ⟨600002, 0, .box (V.dat Y26 x2)⟩]⟩
noncomputable def F13.M_g31 (c34 : F34.E) (c35 : F35.E) (k : Nat) (m0 : Nat) (s : St) : Option X26 := atGate (F13.C c34 c35) k [1, 1, 0, 1, 0, 0, 1, 1, 0, 0, 1, 1, 1, 1, 1, 1, 1, 1, 0, 1, 1, 1, 1, 1, 1, 1, 1, 0, 1, 1, 1, 1, 1, 1, 1, 1] [m0] F13.code (F13.fin c34 c35) s
noncomputable def F13.fr_g31 (x0 : List X50) (x2 : (Int) × (Int)) (x3 : Int) (x4 : (Int) × ((List UInt8) × (List (Unit)))) (x6 : Bool) (x18 : List X50) (x19 : Int) (x20 : Int) : St := ⟨(((((((((List.replicate 184 V.un).set 0 (V.dat (.sl 51 Y50) x0)).set 2 (V.bp 600002 0 [])).set 3 (V.dat (.int .i64) x3)).set 4 (V.bp 600004 0 [])).set 6 (V.dat .bool x6)).set 18 (V.dat (.sl 51 Y50) x18)).set 19 (V.dat (.int .i64) x19)).set 20 (V.dat (.int .i64) x20)), [⟨600004, 0, .box (V.dat Y50 x4)⟩, ⟨600002, 0, .box (V.dat Y26 x2)⟩]⟩
theorem F13.r (c34 : F34.E) (c35 : F35.E) (k : Nat) (a0 : List X50) : fn (F13.C c34 c35) k Try.f13 F13.A F13.R a0 = F13.b c34 c35 (fun x0 x2 x18 x19 x20 => F13.M_l0 c34 c35 k k  (F13.fr_l0 x0 x2 x18 x19 x20)) a0 := by kernel_rfl
theorem F13.z_l0 (c34 : F34.E) (c35 : F35.E) (k : Nat)  (s : St) : F13.M_l0 c34 c35 k 0  s = none := by kernel_rfl
theorem F13.r_l0 (c34 : F34.E) (c35 : F35.E) (k n : Nat)  (x0 : List X50) (x2 : (Int) × (Int)) (x18 : List X50) (x19 : Int) (x20 : Int) : F13.M_l0 c34 c35 k (n + 1)  (F13.fr_l0 x0 x2 x18 x19 x20) = F13.b_l0 c34 c35 (fun x0 x2 x3 x4 x5 x6 x18 x19 x20 x27 x28 x29 => F13.M_l2 c34 c35 k k n (F13.fr_l2 x0 x2 x3 x4 x5 x6 x18 x19 x20 x27 x28 x29)) x0 x2 x18 x19 x20 := by kernel_rfl
theorem F13.z_l2 (c34 : F34.E) (c35 : F35.E) (k : Nat) (m0 : Nat) (s : St) : F13.M_l2 c34 c35 k 0 m0 s = none := by kernel_rfl
theorem F13.r_l2 (c34 : F34.E) (c35 : F35.E) (k n : Nat) (m0 : Nat) (x0 : List X50) (x2 : (Int) × (Int)) (x3 : Int) (x4 : (Int) × ((List UInt8) × (List (Unit)))) (x5 : Bool) (x6 : Bool) (x18 : List X50) (x19 : Int) (x20 : Int) (x27 : List X50) (x28 : Int) (x29 : Int) : F13.M_l2 c34 c35 k (n + 1) m0 (F13.fr_l2 x0 x2 x3 x4 x5 x6 x18 x19 x20 x27 x28 x29) = F13.b_l2 c34 c35 (fun x0 x2 x3 x4 x5 x6 x8 x18 x19 x20 x27 x28 x29 => F13.M_g11 c34 c35 k  m0 n (F13.fr_g11 x0 x2 x3 x4 x5 x6 x8 x18 x19 x20 x27 x28 x29)) (fun x0 x2 x3 x4 x5 x6 x9 x18 x19 x20 => F13.M_g16 c34 c35 k  m0 (F13.fr_g16 x0 x2 x3 x4 x5 x6 x9 x18 x19 x20)) x0 x2 x3 x4 x5 x6 x18 x19 x20 x27 x28 x29 := by kernel_rfl
theorem F13.r_g11 (c34 : F34.E) (c35 : F35.E) (k : Nat) (m0 : Nat) (m1 : Nat) (x0 : List X50) (x2 : (Int) × (Int)) (x3 : Int) (x4 : (Int) × ((List UInt8) × (List (Unit)))) (x5 : Bool) (x6 : Bool) (x8 : (Int) × ((List UInt8) × (List (Unit)))) (x18 : List X50) (x19 : Int) (x20 : Int) (x27 : List X50) (x28 : Int) (x29 : Int) : F13.M_g11 c34 c35 k m0 m1 (F13.fr_g11 x0 x2 x3 x4 x5 x6 x8 x18 x19 x20 x27 x28 x29) = gate k (F13.b_g11 c34 c35 (fun x0 x2 x3 x4 x5 x6 x18 x19 x20 x27 x28 x29 => F13.M_l2 c34 c35 k m1 m0 (F13.fr_l2 x0 x2 x3 x4 x5 x6 x18 x19 x20 x27 x28 x29)) x0 x2 x3 x4 x5 x6 x8 x18 x19 x20 x27 x28 x29) := by kernel_rfl
theorem F13.r_g16 (c34 : F34.E) (c35 : F35.E) (k : Nat) (m0 : Nat) (x0 : List X50) (x2 : (Int) × (Int)) (x3 : Int) (x4 : (Int) × ((List UInt8) × (List (Unit)))) (x5 : Bool) (x6 : Bool) (x9 : Int) (x18 : List X50) (x19 : Int) (x20 : Int) : F13.M_g16 c34 c35 k m0 (F13.fr_g16 x0 x2 x3 x4 x5 x6 x9 x18 x19 x20) = gate k (F13.b_g16 c34 c35 (fun x0 x2 x3 x4 x5 x6 x9 x10 x11 x12 x18 x19 x20 => F13.M_g18 c34 c35 k  m0 (F13.fr_g18 x0 x2 x3 x4 x5 x6 x9 x10 x11 x12 x18 x19 x20)) x0 x2 x3 x4 x5 x6 x9 x18 x19 x20) := by kernel_rfl
theorem F13.r_g18 (c34 : F34.E) (c35 : F35.E) (k : Nat) (m0 : Nat) (x0 : List X50) (x2 : (Int) × (Int)) (x3 : Int) (x4 : (Int) × ((List UInt8) × (List (Unit)))) (x5 : Bool) (x6 : Bool) (x9 : Int) (x10 : Bool) (x11 : Bool) (x12 : Bool) (x18 : List X50) (x19 : Int) (x20 : Int) : F13.M_g18 c34 c35 k m0 (F13.fr_g18 x0 x2 x3 x4 x5 x6 x9 x10 x11 x12 x18 x19 x20) = gate k (F13.b_g18 c34 c35 (fun x0 x2 x3 x4 x5 x6 x9 x10 x11 x12 x13 x18 x19 x20 => F13.M_g19 c34 c35 k  m0 (F13.fr_g19 x0 x2 x3 x4 x5 x6 x9 x10 x11 x12 x13 x18 x19 x20)) x0 x2 x3 x4 x5 x6 x9 x10 x11 x12 x18 x19 x20) := by kernel_rfl
theorem F13.r_g19 (c34 : F34.E) (c35 : F35.E) (k : Nat) (m0 : Nat) (x0 : List X50) (x2 : (Int) × (Int)) (x3 : Int) (x4 : (Int) × ((List UInt8) × (List (Unit)))) (x5 : Bool) (x6 : Bool) (x9 : Int) (x10 : Bool) (x11 : Bool) (x12 : Bool) (x13 : Bool) (x18 : List X50) (x19 : Int) (x20 : Int) : F13.M_g19 c34 c35 k m0 (F13.fr_g19 x0 x2 x3 x4 x5 x6 x9 x10 x11 x12 x13 x18 x19 x20) = gate k (F13.b_g19 c34 c35 (fun x0 x2 x3 x4 x5 x6 x9 x10 x11 x12 x13 x18 x19 x20 => F13.M_g21 c34 c35 k  m0 (F13.fr_g21 x0 x2 x3 x4 x5 x6 x9 x10 x11 x12 x13 x18 x19 x20)) x0 x2 x3 x4 x5 x6 x9 x10 x11 x12 x13 x18 x19 x20) := by kernel_rfl
theorem F13.r_g21 (c34 : F34.E) (c35 : F35.E) (k : Nat) (m0 : Nat) (x0 : List X50) (x2 : (Int) × (Int)) (x3 : Int) (x4 : (Int) × ((List UInt8) × (List (Unit)))) (x5 : Bool) (x6 : Bool) (x9 : Int) (x10 : Bool) (x11 : Bool) (x12 : Bool) (x13 : Bool) (x18 : List X50) (x19 : Int) (x20 : Int) : F13.M_g21 c34 c35 k m0 (F13.fr_g21 x0 x2 x3 x4 x5 x6 x9 x10 x11 x12 x13 x18 x19 x20) = gate k (F13.b_g21 c34 c35 (fun x0 x2 x3 x4 x6 x9 x10 x11 x12 x13 x18 x19 x20 => F13.M_g25 c34 c35 k  m0 (F13.fr_g25 x0 x2 x3 x4 x6 x9 x10 x11 x12 x13 x18 x19 x20)) x0 x2 x3 x4 x5 x6 x9 x10 x11 x12 x13 x18 x19 x20) := by kernel_rfl
theorem F13.r_g25 (c34 : F34.E) (c35 : F35.E) (k : Nat) (m0 : Nat) (x0 : List X50) (x2 : (Int) × (Int)) (x3 : Int) (x4 : (Int) × ((List UInt8) × (List (Unit)))) (x6 : Bool) (x9 : Int) (x10 : Bool) (x11 : Bool) (x12 : Bool) (x13 : Bool) (x18 : List X50) (x19 : Int) (x20 : Int) : F13.M_g25 c34 c35 k m0 (F13.fr_g25 x0 x2 x3 x4 x6 x9 x10 x11 x12 x13 x18 x19 x20) = gate k (F13.b_g25 c34 c35 (fun x0 x2 x3 x4 x6 x9 x10 x11 x12 x13 x18 x19 x20 => F13.M_g27 c34 c35 k  m0 (F13.fr_g27 x0 x2 x3 x4 x6 x9 x10 x11 x12 x13 x18 x19 x20)) x0 x2 x3 x4 x6 x9 x10 x11 x12 x13 x18 x19 x20) := by kernel_rfl
theorem F13.r_g27 (c34 : F34.E) (c35 : F35.E) (k : Nat) (m0 : Nat) (x0 : List X50) (x2 : (Int) × (Int)) (x3 : Int) (x4 : (Int) × ((List UInt8) × (List (Unit)))) (x6 : Bool) (x9 : Int) (x10 : Bool) (x11 : Bool) (x12 : Bool) (x13 : Bool) (x18 : List X50) (x19 : Int) (x20 : Int) : F13.M_g27 c34 c35 k m0 (F13.fr_g27 x0 x2 x3 x4 x6 x9 x10 x11 x12 x13 x18 x19 x20) = gate k (F13.b_g27 c34 c35 (fun x0 x2 x18 x19 x20 => F13.M_l0 c34 c35 k m0  (F13.fr_l0 x0 x2 x18 x19 x20)) (fun x0 x2 x3 x4 x6 x9 x12 x13 x18 x19 x20 => F13.M_g29 c34 c35 k  m0 (F13.fr_g29 x0 x2 x3 x4 x6 x9 x12 x13 x18 x19 x20)) x0 x2 x3 x4 x6 x9 x10 x11 x12 x13 x18 x19 x20) := by kernel_rfl
theorem F13.r_g29 (c34 : F34.E) (c35 : F35.E) (k : Nat) (m0 : Nat) (x0 : List X50) (x2 : (Int) × (Int)) (x3 : Int) (x4 : (Int) × ((List UInt8) × (List (Unit)))) (x6 : Bool) (x9 : Int) (x12 : Bool) (x13 : Bool) (x18 : List X50) (x19 : Int) (x20 : Int) : F13.M_g29 c34 c35 k m0 (F13.fr_g29 x0 x2 x3 x4 x6 x9 x12 x13 x18 x19 x20) = gate k (F13.b_g29 c34 c35 (fun x0 x2 x18 x19 x20 => F13.M_l0 c34 c35 k m0  (F13.fr_l0 x0 x2 x18 x19 x20)) (fun x0 x2 x3 x4 x6 x12 x13 x18 x19 x20 => F13.M_g30 c34 c35 k  m0 (F13.fr_g30 x0 x2 x3 x4 x6 x12 x13 x18 x19 x20)) x0 x2 x3 x4 x6 x9 x12 x13 x18 x19 x20) := by kernel_rfl
theorem F13.r_g30 (c34 : F34.E) (c35 : F35.E) (k : Nat) (m0 : Nat) (x0 : List X50) (x2 : (Int) × (Int)) (x3 : Int) (x4 : (Int) × ((List UInt8) × (List (Unit)))) (x6 : Bool) (x12 : Bool) (x13 : Bool) (x18 : List X50) (x19 : Int) (x20 : Int) : F13.M_g30 c34 c35 k m0 (F13.fr_g30 x0 x2 x3 x4 x6 x12 x13 x18 x19 x20) = gate k (F13.b_g30 c34 c35 (fun x0 x2 x18 x19 x20 => F13.M_l0 c34 c35 k m0  (F13.fr_l0 x0 x2 x18 x19 x20)) (fun x0 x2 x3 x4 x6 x18 x19 x20 => F13.M_g31 c34 c35 k  m0 (F13.fr_g31 x0 x2 x3 x4 x6 x18 x19 x20)) x0 x2 x3 x4 x6 x12 x13 x18 x19 x20) := by kernel_rfl
theorem F13.r_g31 (c34 : F34.E) (c35 : F35.E) (k : Nat) (m0 : Nat) (x0 : List X50) (x2 : (Int) × (Int)) (x3 : Int) (x4 : (Int) × ((List UInt8) × (List (Unit)))) (x6 : Bool) (x18 : List X50) (x19 : Int) (x20 : Int) : F13.M_g31 c34 c35 k m0 (F13.fr_g31 x0 x2 x3 x4 x6 x18 x19 x20) = gate k (F13.b_g31 c34 c35 (fun x0 x2 x18 x19 x20 => F13.M_l0 c34 c35 k m0  (F13.fr_l0 x0 x2 x18 x19 x20)) x0 x2 x3 x4 x6 x18 x19 x20) := by kernel_rfl
theorem F13.e_g11 (c34 : F34.E) (c35 : F35.E) (k : Nat) (m0 : Nat) (m1 : Nat) (x0 : List X50) (x2 : (Int) × (Int)) (x3 : Int) (x4 : (Int) × ((List UInt8) × (List (Unit)))) (x5 : Bool) (x6 : Bool) (x8 : (Int) × ((List UInt8) × (List (Unit)))) (x18 : List X50) (x19 : Int) (x20 : Int) (x27 : List X50) (x28 : Int) (x29 : Int) : F13.M_g11 c34 c35 k m0 m1 (F13.fr_g11 x0 x2 x3 x4 x5 x6 x8 x18 x19 x20 x27 x28 x29) = F13.g11 c34 c35 k (fun x0 x2 x18 x19 x20 => F13.M_l0 c34 c35 k m0  (F13.fr_l0 x0 x2 x18 x19 x20)) (fun x0 x2 x3 x4 x5 x6 x18 x19 x20 x27 x28 x29 => F13.M_l2 c34 c35 k m1 m0 (F13.fr_l2 x0 x2 x3 x4 x5 x6 x18 x19 x20 x27 x28 x29)) x0 x2 x3 x4 x5 x6 x8 x18 x19 x20 x27 x28 x29 := by
  rw [F13.r_g11]
  rfl
theorem F13.e_g31 (c34 : F34.E) (c35 : F35.E) (k : Nat) (m0 : Nat) (x0 : List X50) (x2 : (Int) × (Int)) (x3 : Int) (x4 : (Int) × ((List UInt8) × (List (Unit)))) (x6 : Bool) (x18 : List X50) (x19 : Int) (x20 : Int) : F13.M_g31 c34 c35 k m0 (F13.fr_g31 x0 x2 x3 x4 x6 x18 x19 x20) = F13.g31 c34 c35 k (fun x0 x2 x18 x19 x20 => F13.M_l0 c34 c35 k m0  (F13.fr_l0 x0 x2 x18 x19 x20)) x0 x2 x3 x4 x6 x18 x19 x20 := by
  rw [F13.r_g31]
  rfl
theorem F13.e_g30 (c34 : F34.E) (c35 : F35.E) (k : Nat) (m0 : Nat) (x0 : List X50) (x2 : (Int) × (Int)) (x3 : Int) (x4 : (Int) × ((List UInt8) × (List (Unit)))) (x6 : Bool) (x12 : Bool) (x13 : Bool) (x18 : List X50) (x19 : Int) (x20 : Int) : F13.M_g30 c34 c35 k m0 (F13.fr_g30 x0 x2 x3 x4 x6 x12 x13 x18 x19 x20) = F13.g30 c34 c35 k (fun x0 x2 x18 x19 x20 => F13.M_l0 c34 c35 k m0  (F13.fr_l0 x0 x2 x18 x19 x20)) x0 x2 x3 x4 x6 x12 x13 x18 x19 x20 := by
  rw [F13.r_g30]
  simp only [F13.e_g31]
  rfl
theorem F13.e_g29 (c34 : F34.E) (c35 : F35.E) (k : Nat) (m0 : Nat) (x0 : List X50) (x2 : (Int) × (Int)) (x3 : Int) (x4 : (Int) × ((List UInt8) × (List (Unit)))) (x6 : Bool) (x9 : Int) (x12 : Bool) (x13 : Bool) (x18 : List X50) (x19 : Int) (x20 : Int) : F13.M_g29 c34 c35 k m0 (F13.fr_g29 x0 x2 x3 x4 x6 x9 x12 x13 x18 x19 x20) = F13.g29 c34 c35 k (fun x0 x2 x18 x19 x20 => F13.M_l0 c34 c35 k m0  (F13.fr_l0 x0 x2 x18 x19 x20)) x0 x2 x3 x4 x6 x9 x12 x13 x18 x19 x20 := by
  rw [F13.r_g29]
  simp only [F13.e_g30]
  rfl
theorem F13.e_g27 (c34 : F34.E) (c35 : F35.E) (k : Nat) (m0 : Nat) (x0 : List X50) (x2 : (Int) × (Int)) (x3 : Int) (x4 : (Int) × ((List UInt8) × (List (Unit)))) (x6 : Bool) (x9 : Int) (x10 : Bool) (x11 : Bool) (x12 : Bool) (x13 : Bool) (x18 : List X50) (x19 : Int) (x20 : Int) : F13.M_g27 c34 c35 k m0 (F13.fr_g27 x0 x2 x3 x4 x6 x9 x10 x11 x12 x13 x18 x19 x20) = F13.g27 c34 c35 k (fun x0 x2 x18 x19 x20 => F13.M_l0 c34 c35 k m0  (F13.fr_l0 x0 x2 x18 x19 x20)) x0 x2 x3 x4 x6 x9 x10 x11 x12 x13 x18 x19 x20 := by
  rw [F13.r_g27]
  simp only [F13.e_g29]
  rfl
theorem F13.e_g25 (c34 : F34.E) (c35 : F35.E) (k : Nat) (m0 : Nat) (x0 : List X50) (x2 : (Int) × (Int)) (x3 : Int) (x4 : (Int) × ((List UInt8) × (List (Unit)))) (x6 : Bool) (x9 : Int) (x10 : Bool) (x11 : Bool) (x12 : Bool) (x13 : Bool) (x18 : List X50) (x19 : Int) (x20 : Int) : F13.M_g25 c34 c35 k m0 (F13.fr_g25 x0 x2 x3 x4 x6 x9 x10 x11 x12 x13 x18 x19 x20) = F13.g25 c34 c35 k (fun x0 x2 x18 x19 x20 => F13.M_l0 c34 c35 k m0  (F13.fr_l0 x0 x2 x18 x19 x20)) x0 x2 x3 x4 x6 x9 x10 x11 x12 x13 x18 x19 x20 := by
  rw [F13.r_g25]
  simp only [F13.e_g27]
  rfl
theorem F13.e_g21 (c34 : F34.E) (c35 : F35.E) (k : Nat) (m0 : Nat) (x0 : List X50) (x2 : (Int) × (Int)) (x3 : Int) (x4 : (Int) × ((List UInt8) × (List (Unit)))) (x5 : Bool) (x6 : Bool) (x9 : Int) (x10 : Bool) (x11 : Bool) (x12 : Bool) (x13 : Bool) (x18 : List X50) (x19 : Int) (x20 : Int) : F13.M_g21 c34 c35 k m0 (F13.fr_g21 x0 x2 x3 x4 x5 x6 x9 x10 x11 x12 x13 x18 x19 x20) = F13.g21 c34 c35 k (fun x0 x2 x18 x19 x20 => F13.M_l0 c34 c35 k m0  (F13.fr_l0 x0 x2 x18 x19 x20)) x0 x2 x3 x4 x5 x6 x9 x10 x11 x12 x13 x18 x19 x20 := by
  rw [F13.r_g21]
  simp only [F13.e_g25]
  rfl
theorem F13.e_g19 (c34 : F34.E) (c35 : F35.E) (k : Nat) (m0 : Nat) (x0 : List X50) (x2 : (Int) × (Int)) (x3 : Int) (x4 : (Int) × ((List UInt8) × (List (Unit)))) (x5 : Bool) (x6 : Bool) (x9 : Int) (x10 : Bool) (x11 : Bool) (x12 : Bool) (x13 : Bool) (x18 : List X50) (x19 : Int) (x20 : Int) : F13.M_g19 c34 c35 k m0 (F13.fr_g19 x0 x2 x3 x4 x5 x6 x9 x10 x11 x12 x13 x18 x19 x20) = F13.g19 c34 c35 k (fun x0 x2 x18 x19 x20 => F13.M_l0 c34 c35 k m0  (F13.fr_l0 x0 x2 x18 x19 x20)) x0 x2 x3 x4 x5 x6 x9 x10 x11 x12 x13 x18 x19 x20 := by
  rw [F13.r_g19]
  simp only [F13.e_g21]
  rfl
theorem F13.e_g18 (c34 : F34.E) (c35 : F35.E) (k : Nat) (m0 : Nat) (x0 : List X50) (x2 : (Int) × (Int)) (x3 : Int) (x4 : (Int) × ((List UInt8) × (List (Unit)))) (x5 : Bool) (x6 : Bool) (x9 : Int) (x10 : Bool) (x11 : Bool) (x12 : Bool) (x18 : List X50) (x19 : Int) (x20 : Int) : F13.M_g18 c34 c35 k m0 (F13.fr_g18 x0 x2 x3 x4 x5 x6 x9 x10 x11 x12 x18 x19 x20) = F13.g18 c34 c35 k (fun x0 x2 x18 x19 x20 => F13.M_l0 c34 c35 k m0  (F13.fr_l0 x0 x2 x18 x19 x20)) x0 x2 x3 x4 x5 x6 x9 x10 x11 x12 x18 x19 x20 := by
  rw [F13.r_g18]
  simp only [F13.e_g19]
  rfl
theorem F13.e_g16 (c34 : F34.E) (c35 : F35.E) (k : Nat) (m0 : Nat) (x0 : List X50) (x2 : (Int) × (Int)) (x3 : Int) (x4 : (Int) × ((List UInt8) × (List (Unit)))) (x5 : Bool) (x6 : Bool) (x9 : Int) (x18 : List X50) (x19 : Int) (x20 : Int) : F13.M_g16 c34 c35 k m0 (F13.fr_g16 x0 x2 x3 x4 x5 x6 x9 x18 x19 x20) = F13.g16 c34 c35 k (fun x0 x2 x18 x19 x20 => F13.M_l0 c34 c35 k m0  (F13.fr_l0 x0 x2 x18 x19 x20)) x0 x2 x3 x4 x5 x6 x9 x18 x19 x20 := by
  rw [F13.r_g16]
  simp only [F13.e_g18]
  rfl
theorem F13.e_l2 (c34 : F34.E) (c35 : F35.E) (k n : Nat) (m0 : Nat) (x0 : List X50) (x2 : (Int) × (Int)) (x3 : Int) (x4 : (Int) × ((List UInt8) × (List (Unit)))) (x5 : Bool) (x6 : Bool) (x18 : List X50) (x19 : Int) (x20 : Int) (x27 : List X50) (x28 : Int) (x29 : Int) : F13.M_l2 c34 c35 k n m0 (F13.fr_l2 x0 x2 x3 x4 x5 x6 x18 x19 x20 x27 x28 x29) = F13.l2 c34 c35 k (fun x0 x2 x18 x19 x20 => F13.M_l0 c34 c35 k m0  (F13.fr_l0 x0 x2 x18 x19 x20)) n x0 x2 x3 x4 x5 x6 x18 x19 x20 x27 x28 x29 := by
  induction n generalizing x0 x2 x3 x4 x5 x6 x18 x19 x20 x27 x28 x29 with
  | zero => rw [F13.z_l2]; rfl
  | succ n ih =>
    rw [F13.r_l2]
    simp only [F13.e_g11, F13.e_g16, ih]
    rfl
theorem F13.e_l0 (c34 : F34.E) (c35 : F35.E) (k n : Nat)  (x0 : List X50) (x2 : (Int) × (Int)) (x18 : List X50) (x19 : Int) (x20 : Int) : F13.M_l0 c34 c35 k n  (F13.fr_l0 x0 x2 x18 x19 x20) = F13.l0 c34 c35 k  n x0 x2 x18 x19 x20 := by
  induction n generalizing x0 x2 x18 x19 x20 with
  | zero => rw [F13.z_l0]; rfl
  | succ n ih =>
    rw [F13.r_l0]
    simp only [F13.e_l2, ih]
    rfl
theorem F13.e (c34 : F34.E) (c35 : F35.E) (k : Nat) (a0 : List X50) : fn (F13.C c34 c35) k Try.f13 F13.A F13.R a0 = F13.f c34 c35 k a0 := by
  rw [F13.r]
  simp only [F13.e_l0]
  rfl
def F13.u (k : Nat) : F13.E := fun y => F13.f (F34.u k) (F35.u k) k y
theorem F13.ty (c34 : F34.E) (c35 : F35.E) : TyOk Try.prog (F13.C c34 c35) := tyOk_of (by kernel_rfl)
theorem F13.sound (k : Nat) : Sound Try.prog ⟨13, F13.A, F13.R, F13.u k⟩ := by
  have h := fn_sound (k := k) («as» := F13.A) (rs := F13.R) (F13.ty (F34.u k) (F35.u k)) (fun E h => by
    simp only [F13.C, List.mem_cons, List.not_mem_nil, or_false] at h
    rcases h with rfl | rfl
    · exact F34.sound k
    · exact F35.sound k) mixed Try.func13 (by kernel_rfl) (by kernel_rfl)
  have e : fn (F13.C (F34.u k) (F35.u k)) k Try.f13 F13.A F13.R = F13.u k := by
    funext y
    exact F13.e (F34.u k) (F35.u k) k y
  rw [e] at h
  exact h
/-! ### brindlewood/brindlewoodlaw7.ArgumentsCheckMatchesSpec: f4 -/
abbrev F4.A : List Sh := [(.d (.sl 51 Y50))]
abbrev F4.R : List Sh := [(.d .bool)]
abbrev F4.E : Type := (List X50) → Option (Bool)
def F4.C (c12 : F12.E) (c13 : F13.E) : Ctx := { ty := [(27, Y26)], nf := [], by_ := [], env := [⟨12, F12.A, F12.R, c12⟩, ⟨13, F13.A, F13.R, c13⟩], spec := [] }
noncomputable def F4.code : Code := Func.code Try.f4
noncomputable def F4.fin (c12 : F12.E) (c13 : F13.E) := kfin (F4.C c12 c13) Try.f4 F4.A F4.R
def F4.b (c12 : F12.E) (c13 : F13.E)  (a0 : List X50) : Option (Bool) :=
  (c12 a0).bind fun y1 =>
    (c13 a0).bind fun y2 =>
      some (Ty.eqT Y26 y1 y2)
def F4.f (c12 : F12.E) (c13 : F13.E) (k : Nat) (a0 : List X50) : Option (Bool) := F4.b c12 c13  a0
theorem F4.r (c12 : F12.E) (c13 : F13.E) (k : Nat) (a0 : List X50) : fn (F4.C c12 c13) k Try.f4 F4.A F4.R a0 = F4.b c12 c13  a0 := by kernel_rfl
theorem F4.e (c12 : F12.E) (c13 : F13.E) (k : Nat) (a0 : List X50) : fn (F4.C c12 c13) k Try.f4 F4.A F4.R a0 = F4.f c12 c13 k a0 := by
  rw [F4.r]
  rfl
def F4.u (k : Nat) : F4.E := fun y => F4.f (F12.u k) (F13.u k) k y
theorem F4.ty (c12 : F12.E) (c13 : F13.E) : TyOk Try.prog (F4.C c12 c13) := tyOk_of (by kernel_rfl)
theorem F4.sound (k : Nat) : Sound Try.prog ⟨4, F4.A, F4.R, F4.u k⟩ := by
  have h := fn_sound (k := k) («as» := F4.A) (rs := F4.R) (F4.ty (F12.u k) (F13.u k)) (fun E h => by
    simp only [F4.C, List.mem_cons, List.not_mem_nil, or_false] at h
    rcases h with rfl | rfl
    · exact F12.sound k
    · exact F13.sound k) mixed Try.func4 (by kernel_rfl) (by kernel_rfl)
  have e : fn (F4.C (F12.u k) (F13.u k)) k Try.f4 F4.A F4.R = F4.u k := by
    funext y
    exact F4.e (F12.u k) (F13.u k) k y
  rw [e] at h
  exact h
end
end Go.Ab
