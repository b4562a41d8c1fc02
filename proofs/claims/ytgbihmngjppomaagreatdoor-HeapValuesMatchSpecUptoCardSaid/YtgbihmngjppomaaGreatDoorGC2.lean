/- A part of the proof: GC2. -/
import Derived.Test.YtgbihmngjppomaaGreatDoorFTy
import Derived.Test.YtgbihmngjppomaaGreatDoorGC1
import Derived.Test.YtgbihmngjppomaaGreatDoorHLib
namespace Go.Ab
set_option linter.unusedVariables false
set_option linter.unusedSimpArgs false
set_option maxRecDepth 100000
noncomputable section
open Go.Proofs
/-! ### brindlewood/brindlewoodref7.ValueOk: f73 -/
abbrev F73.A : List Sh := [(.d Y_Value)]
abbrev F73.R : List Sh := [(.d .bool)]
abbrev F73.E : Type := X_Value → Option (Bool)
def F73.C (c47 : F47.E) (c99 : F99.E) (c100 : F100.E) (c101 : F101.E) (c89 : F89.E) : Ctx := { ty := [(3, (.int .i64)), (9, .str), (25, (.sl 72 (.int .u32))), (27, Y_Int), (29, Y_Value), (72, (.int .u32)), (126, Y_Ratio)], nf := [(27, 2), (29, 5), (126, 2)], by_ := [(72, 4)], env := [⟨47, F47.A, F47.R, c47⟩, ⟨99, F99.A, F99.R, c99⟩, ⟨100, F100.A, F100.R, c100⟩, ⟨101, F101.A, F101.R, c101⟩, ⟨89, F89.A, F89.R, c89⟩], spec := [(100005, [.bx 1 600001 (.d Y_Value), .d 3 .bool, .d 4 .bool]), (100007, [.bx 1 600001 (.d Y_Value), .d 3 .bool, .d 4 .bool]), (100009, [.bx 1 600001 (.d Y_Value), .d 4 .bool]), (100011, [.bx 1 600001 (.d Y_Value)]), (100012, [.bx 1 600001 (.d Y_Value), .d 5 .bool]), (100014, [.bx 1 600001 (.d Y_Value), .d 3 .bool, .d 4 .bool]), (100016, [.bx 1 600001 (.d Y_Value), .d 3 .bool, .d 4 .bool]), (100018, [.bx 1 600001 (.d Y_Value), .d 3 .bool, .d 4 .bool]), (100020, [.bx 1 600001 (.d Y_Value), .d 3 .bool, .d 4 .bool])] }
noncomputable def F73.code : Code := Func.code Tryz.f73
noncomputable def F73.fin (c47 : F47.E) (c99 : F99.E) (c100 : F100.E) (c101 : F101.E) (c89 : F89.E) := kfin (F73.C c47 c99 c100 c101 c89) Tryz.f73 F73.A F73.R
def F73.b (c47 : F47.E) (c99 : F99.E) (c100 : F100.E) (c101 : F101.E) (c89 : F89.E) (r_g5 : X_Value → (Bool) → (Bool) → Option (Bool)) (r_g7 : X_Value → (Bool) → (Bool) → Option (Bool)) (r_g9 : X_Value → (Bool) → Option (Bool)) (r_g11 : X_Value → Option (Bool)) (r_g14 : X_Value → (Bool) → (Bool) → Option (Bool)) (r_g16 : X_Value → (Bool) → (Bool) → Option (Bool)) (r_g18 : X_Value → (Bool) → (Bool) → Option (Bool)) (r_g20 : X_Value → (Bool) → (Bool) → Option (Bool)) (a0 : X_Value) : Option (Bool) :=
 (c47 (a0.2.1, (false, ([] : List (Int))))).bind fun y1 =>
 (c47 (a0.2.2.1, (false, ([] : List (Int))))).bind fun y2 =>
 bif (a0.1 == (0 : Int)) then
 bif (a0.1 == (0 : Int)) then
 r_g5 a0 y1 y2
 else
 bif (a0.1 == (1 : Int)) then
 r_g7 a0 y1 y2
 else
 bif (a0.1 == (2 : Int)) then
 r_g9 a0 y2
 else
 bif (a0.1 == (3 : Int)) then
 r_g11 a0
 else
 bif (a0.1 == (4 : Int)) then
 r_g14 a0 y1 y2
 else
 bif (a0.1 == (5 : Int)) then
 r_g16 a0 y1 y2
 else
 bif (a0.1 == (7 : Int)) then
 r_g18 a0 y1 y2
 else
 bif (a0.1 == (6 : Int)) then
 r_g20 a0 y1 y2
 else
 some false
 else
 bif (a0.1 == (8 : Int)) then
 r_g5 a0 y1 y2
 else
 bif (a0.1 == (1 : Int)) then
 r_g7 a0 y1 y2
 else
 bif (a0.1 == (2 : Int)) then
 r_g9 a0 y2
 else
 bif (a0.1 == (3 : Int)) then
 r_g11 a0
 else
 bif (a0.1 == (4 : Int)) then
 r_g14 a0 y1 y2
 else
 bif (a0.1 == (5 : Int)) then
 r_g16 a0 y1 y2
 else
 bif (a0.1 == (7 : Int)) then
 r_g18 a0 y1 y2
 else
 bif (a0.1 == (6 : Int)) then
 r_g20 a0 y1 y2
 else
 some false
def F73.b_g5 (c47 : F47.E) (c99 : F99.E) (c100 : F100.E) (c101 : F101.E) (c89 : F89.E)  (x1 : X_Value) (x3 : Bool) (x4 : Bool) : Option (Bool) :=
 bif x3 then
 bif x4 then
 bif (x1.2.2.2.1 == []) then
 some (x1.2.2.2.2 == (0 : Int))
 else
 some false
 else
 some false
 else
 some false
def F73.b_g7 (c47 : F47.E) (c99 : F99.E) (c100 : F100.E) (c101 : F101.E) (c89 : F89.E)  (x1 : X_Value) (x3 : Bool) (x4 : Bool) : Option (Bool) :=
 bif x3 then
 bif x4 then
 bif (x1.2.2.2.1 == []) then
 some ((Int.fdiv x1.2.2.2.2 (2 ^ min (Int.toNat (1 : Int)) IntKind.i64.bits)) == (0 : Int))
 else
 some false
 else
 some false
 else
 some false
def F73.b_g9 (c47 : F47.E) (c99 : F99.E) (c100 : F100.E) (c101 : F101.E) (c89 : F89.E)  (x1 : X_Value) (x4 : Bool) : Option (Bool) :=
 (c99 x1.2.1).bind fun y3 =>
 bif y3 then
 bif x4 then
 bif (x1.2.2.2.1 == []) then
 some (x1.2.2.2.2 == (0 : Int))
 else
 some false
 else
 some false
 else
 some false
def F73.b_g11 (c47 : F47.E) (c99 : F99.E) (c100 : F100.E) (c101 : F101.E) (c89 : F89.E) (r_g12 : X_Value → (Bool) → Option (Bool)) (x1 : X_Value) : Option (Bool) :=
 bif (((List.length x1.2.2.1.2) : Int) == (1 : Int)) then
 if 0 ≤ (0 : Int) ∧ (0 : Int) < ((List.length x1.2.2.1.2) : Int) then
 r_g12 x1 ((List.getD x1.2.2.1.2 (Int.toNat (0 : Int)) (0 : Int)) == (1 : Int))
 else none
 else
 r_g12 x1 false
def F73.b_g12 (c47 : F47.E) (c99 : F99.E) (c100 : F100.E) (c101 : F101.E) (c89 : F89.E)  (x1 : X_Value) (x5 : Bool) : Option (Bool) :=
 (c100 (x1.2.1, x1.2.2.1)).bind fun y4 =>
 bif y4 then
 bif (!x5) then
 bif (x1.2.2.2.1 == []) then
 some (x1.2.2.2.2 == (0 : Int))
 else
 some false
 else
 some false
 else
 some false
def F73.b_g14 (c47 : F47.E) (c99 : F99.E) (c100 : F100.E) (c101 : F101.E) (c89 : F89.E)  (x1 : X_Value) (x3 : Bool) (x4 : Bool) : Option (Bool) :=
 bif x3 then
 bif x4 then
 bif (x1.2.2.2.2 == (0 : Int)) then
 (c101 x1.2.2.2.1).bind fun y5 =>
 bif y5 then
 some (decide (((List.length x1.2.2.2.1) : Int) ≤ (4000 : Int)))
 else
 some false
 else
 some false
 else
 some false
 else
 some false
def F73.b_g16 (c47 : F47.E) (c99 : F99.E) (c100 : F100.E) (c101 : F101.E) (c89 : F89.E)  (x1 : X_Value) (x3 : Bool) (x4 : Bool) : Option (Bool) :=
 bif x3 then
 bif x4 then
 bif (x1.2.2.2.2 == (0 : Int)) then
 some (decide (((List.length x1.2.2.2.1) : Int) ≤ (4000 : Int)))
 else
 some false
 else
 some false
 else
 some false
def F73.b_g18 (c47 : F47.E) (c99 : F99.E) (c100 : F100.E) (c101 : F101.E) (c89 : F89.E)  (x1 : X_Value) (x3 : Bool) (x4 : Bool) : Option (Bool) :=
 bif x3 then
 bif x4 then
 bif (x1.2.2.2.2 == (0 : Int)) then
 (c89 x1.2.2.2.1).bind fun y6 =>
 some y6
 else
 some false
 else
 some false
 else
 some false
def F73.b_g20 (c47 : F47.E) (c99 : F99.E) (c100 : F100.E) (c101 : F101.E) (c89 : F89.E)  (x1 : X_Value) (x3 : Bool) (x4 : Bool) : Option (Bool) :=
 bif x3 then
 bif x4 then
 some (x1.2.2.2.1 == [])
 else
 some false
 else
 some false
def F73.c (c47 : F47.E) (c99 : F99.E) (c100 : F100.E) (c101 : F101.E) (c89 : F89.E) (r_g5 : X_Value → (Bool) → (Bool) → Option (Bool)) (r_g7 : X_Value → (Bool) → (Bool) → Option (Bool)) (r_g9 : X_Value → (Bool) → Option (Bool)) (r_g11 : X_Value → Option (Bool)) (r_g14 : X_Value → (Bool) → (Bool) → Option (Bool)) (r_g16 : X_Value → (Bool) → (Bool) → Option (Bool)) (r_g18 : X_Value → (Bool) → (Bool) → Option (Bool)) (r_g20 : X_Value → (Bool) → (Bool) → Option (Bool)) (a0 : X_Value) : Option (Bool) :=
 (c47 (a0.2.1, (false, ([] : List Int)))).bind fun y1 =>
 (c47 (a0.2.2.1, (false, ([] : List Int)))).bind fun y2 =>
 bif (a0.1 == (0 : Int)) then
 bif (a0.1 == (0 : Int)) then
 r_g5 a0 y1 y2
 else
 bif (a0.1 == (1 : Int)) then
 r_g7 a0 y1 y2
 else
 bif (a0.1 == (2 : Int)) then
 r_g9 a0 y2
 else
 bif (a0.1 == (3 : Int)) then
 r_g11 a0
 else
 bif (a0.1 == (4 : Int)) then
 r_g14 a0 y1 y2
 else
 bif (a0.1 == (5 : Int)) then
 r_g16 a0 y1 y2
 else
 bif (a0.1 == (7 : Int)) then
 r_g18 a0 y1 y2
 else
 bif (a0.1 == (6 : Int)) then
 r_g20 a0 y1 y2
 else
 some false
 else
 bif (a0.1 == (8 : Int)) then
 r_g5 a0 y1 y2
 else
 bif (a0.1 == (1 : Int)) then
 r_g7 a0 y1 y2
 else
 bif (a0.1 == (2 : Int)) then
 r_g9 a0 y2
 else
 bif (a0.1 == (3 : Int)) then
 r_g11 a0
 else
 bif (a0.1 == (4 : Int)) then
 r_g14 a0 y1 y2
 else
 bif (a0.1 == (5 : Int)) then
 r_g16 a0 y1 y2
 else
 bif (a0.1 == (7 : Int)) then
 r_g18 a0 y1 y2
 else
 bif (a0.1 == (6 : Int)) then
 r_g20 a0 y1 y2
 else
 some false
theorem F73.q (c47 : F47.E) (c99 : F99.E) (c100 : F100.E) (c101 : F101.E) (c89 : F89.E) (r_g5 : X_Value → (Bool) → (Bool) → Option (Bool)) (r_g7 : X_Value → (Bool) → (Bool) → Option (Bool)) (r_g9 : X_Value → (Bool) → Option (Bool)) (r_g11 : X_Value → Option (Bool)) (r_g14 : X_Value → (Bool) → (Bool) → Option (Bool)) (r_g16 : X_Value → (Bool) → (Bool) → Option (Bool)) (r_g18 : X_Value → (Bool) → (Bool) → Option (Bool)) (r_g20 : X_Value → (Bool) → (Bool) → Option (Bool)) (a0 : X_Value) : F73.b c47 c99 c100 c101 c89 r_g5 r_g7 r_g9 r_g11 r_g14 r_g16 r_g18 r_g20 a0 = F73.c c47 c99 c100 c101 c89 r_g5 r_g7 r_g9 r_g11 r_g14 r_g16 r_g18 r_g20 a0 := by
  simp only [F73.b, F73.c, List.take_length, take_one, Nat.zero_add, Int.toNat_natCast, Int.toNat_zero, List.drop_zero, List.append_eq, Nat.le_refl, Int.le_refl, true_and, and_true, zero_le_one, if_true, prod_eta, Int.natCast_zero]
def F73.c_g11 (c47 : F47.E) (c99 : F99.E) (c100 : F100.E) (c101 : F101.E) (c89 : F89.E) (r_g12 : X_Value → (Bool) → Option (Bool)) (x1 : X_Value) : Option (Bool) :=
 bif (((List.length x1.2.2.1.2) : Int) == (1 : Int)) then
 if (0 : Int) < ((List.length x1.2.2.1.2) : Int) then
 r_g12 x1 ((List.getD x1.2.2.1.2 0 (0 : Int)) == (1 : Int))
 else none
 else
 r_g12 x1 false
theorem F73.q_g11 (c47 : F47.E) (c99 : F99.E) (c100 : F100.E) (c101 : F101.E) (c89 : F89.E) (r_g12 : X_Value → (Bool) → Option (Bool)) (x1 : X_Value) : F73.b_g11 c47 c99 c100 c101 c89 r_g12 x1 = F73.c_g11 c47 c99 c100 c101 c89 r_g12 x1 := by
  simp only [F73.b_g11, F73.c_g11, List.take_length, take_one, Nat.zero_add, Int.toNat_natCast, Int.toNat_zero, List.drop_zero, List.append_eq, Nat.le_refl, Int.le_refl, true_and, and_true, zero_le_one, if_true, prod_eta, Int.natCast_zero]
def F73.c_g12 (c47 : F47.E) (c99 : F99.E) (c100 : F100.E) (c101 : F101.E) (c89 : F89.E)  (x1 : X_Value) (x5 : Bool) : Option (Bool) :=
 (c100 (x1.2.1, x1.2.2.1)).bind fun y4 =>
 bif y4 then
 bif !x5 then
 bif (x1.2.2.2.1 == []) then
 some (x1.2.2.2.2 == (0 : Int))
 else
 some false
 else
 some false
 else
 some false
theorem F73.q_g12 (c47 : F47.E) (c99 : F99.E) (c100 : F100.E) (c101 : F101.E) (c89 : F89.E)  (x1 : X_Value) (x5 : Bool) : F73.b_g12 c47 c99 c100 c101 c89 x1 x5 = F73.c_g12 c47 c99 c100 c101 c89 x1 x5 := by
  simp only [F73.b_g12, F73.c_g12, List.take_length, take_one, Nat.zero_add, Int.toNat_natCast, Int.toNat_zero, List.drop_zero, List.append_eq, Nat.le_refl, Int.le_refl, true_and, and_true, zero_le_one, if_true, prod_eta, Int.natCast_zero]
def F73.g5 (c47 : F47.E) (c99 : F99.E) (c100 : F100.E) (c101 : F101.E) (c89 : F89.E) (k : Nat)  (x1 : X_Value) (x3 : Bool) (x4 : Bool) : Option (Bool) := gate k (F73.b_g5 c47 c99 c100 c101 c89  x1 x3 x4)
def F73.g7 (c47 : F47.E) (c99 : F99.E) (c100 : F100.E) (c101 : F101.E) (c89 : F89.E) (k : Nat)  (x1 : X_Value) (x3 : Bool) (x4 : Bool) : Option (Bool) := gate k (F73.b_g7 c47 c99 c100 c101 c89  x1 x3 x4)
def F73.g9 (c47 : F47.E) (c99 : F99.E) (c100 : F100.E) (c101 : F101.E) (c89 : F89.E) (k : Nat)  (x1 : X_Value) (x4 : Bool) : Option (Bool) := gate k (F73.b_g9 c47 c99 c100 c101 c89  x1 x4)
def F73.g12 (c47 : F47.E) (c99 : F99.E) (c100 : F100.E) (c101 : F101.E) (c89 : F89.E) (k : Nat)  (x1 : X_Value) (x5 : Bool) : Option (Bool) := gate k (F73.b_g12 c47 c99 c100 c101 c89  x1 x5)
def F73.g11 (c47 : F47.E) (c99 : F99.E) (c100 : F100.E) (c101 : F101.E) (c89 : F89.E) (k : Nat)  (x1 : X_Value) : Option (Bool) := gate k (F73.b_g11 c47 c99 c100 c101 c89 (F73.g12 c47 c99 c100 c101 c89 k ) x1)
def F73.g14 (c47 : F47.E) (c99 : F99.E) (c100 : F100.E) (c101 : F101.E) (c89 : F89.E) (k : Nat)  (x1 : X_Value) (x3 : Bool) (x4 : Bool) : Option (Bool) := gate k (F73.b_g14 c47 c99 c100 c101 c89  x1 x3 x4)
def F73.g16 (c47 : F47.E) (c99 : F99.E) (c100 : F100.E) (c101 : F101.E) (c89 : F89.E) (k : Nat)  (x1 : X_Value) (x3 : Bool) (x4 : Bool) : Option (Bool) := gate k (F73.b_g16 c47 c99 c100 c101 c89  x1 x3 x4)
def F73.g18 (c47 : F47.E) (c99 : F99.E) (c100 : F100.E) (c101 : F101.E) (c89 : F89.E) (k : Nat)  (x1 : X_Value) (x3 : Bool) (x4 : Bool) : Option (Bool) := gate k (F73.b_g18 c47 c99 c100 c101 c89  x1 x3 x4)
def F73.g20 (c47 : F47.E) (c99 : F99.E) (c100 : F100.E) (c101 : F101.E) (c89 : F89.E) (k : Nat)  (x1 : X_Value) (x3 : Bool) (x4 : Bool) : Option (Bool) := gate k (F73.b_g20 c47 c99 c100 c101 c89  x1 x3 x4)
def F73.f (c47 : F47.E) (c99 : F99.E) (c100 : F100.E) (c101 : F101.E) (c89 : F89.E) (k : Nat) (a0 : X_Value) : Option (Bool) := F73.b c47 c99 c100 c101 c89 (F73.g5 c47 c99 c100 c101 c89 k) (F73.g7 c47 c99 c100 c101 c89 k) (F73.g9 c47 c99 c100 c101 c89 k) (F73.g11 c47 c99 c100 c101 c89 k) (F73.g14 c47 c99 c100 c101 c89 k) (F73.g16 c47 c99 c100 c101 c89 k) (F73.g18 c47 c99 c100 c101 c89 k) (F73.g20 c47 c99 c100 c101 c89 k) a0
noncomputable def F73.M_g5 (c47 : F47.E) (c99 : F99.E) (c100 : F100.E) (c101 : F101.E) (c89 : F89.E) (k : Nat)  (s : St) : Option (Bool) := atGate (F73.C c47 c99 c100 c101 c89) k [1, 1, 0, 1, 0, 1, 0, 0] [] F73.code (F73.fin c47 c99 c100 c101 c89) s
noncomputable def F73.fr_g5 (x1 : X_Value) (x3 : Bool) (x4 : Bool) : St := ⟨((((List.replicate 169 V.un).set 1 (V.bp 600001 0 [])).set 3 (V.dat .bool x3)).set 4 (V.dat .bool x4)), [⟨600001, 0, .box (V.dat Y_Value x1)⟩]⟩
noncomputable def F73.M_g7 (c47 : F47.E) (c99 : F99.E) (c100 : F100.E) (c101 : F101.E) (c89 : F89.E) (k : Nat)  (s : St) : Option (Bool) := atGate (F73.C c47 c99 c100 c101 c89) k [1, 1, 0, 1, 0, 1, 1, 1, 0, 0] [] F73.code (F73.fin c47 c99 c100 c101 c89) s
noncomputable def F73.fr_g7 (x1 : X_Value) (x3 : Bool) (x4 : Bool) : St := ⟨((((List.replicate 169 V.un).set 1 (V.bp 600001 0 [])).set 3 (V.dat .bool x3)).set 4 (V.dat .bool x4)), [⟨600001, 0, .box (V.dat Y_Value x1)⟩]⟩
noncomputable def F73.M_g9 (c47 : F47.E) (c99 : F99.E) (c100 : F100.E) (c101 : F101.E) (c89 : F89.E) (k : Nat)  (s : St) : Option (Bool) := atGate (F73.C c47 c99 c100 c101 c89) k [1, 1, 0, 1, 0, 1, 1, 1, 1, 1, 0, 0] [] F73.code (F73.fin c47 c99 c100 c101 c89) s
noncomputable def F73.fr_g9 (x1 : X_Value) (x4 : Bool) : St := ⟨(((List.replicate 169 V.un).set 1 (V.bp 600001 0 [])).set 4 (V.dat .bool x4)), [⟨600001, 0, .box (V.dat Y_Value x1)⟩]⟩
noncomputable def F73.M_g11 (c47 : F47.E) (c99 : F99.E) (c100 : F100.E) (c101 : F101.E) (c89 : F89.E) (k : Nat)  (s : St) : Option (Bool) := atGate (F73.C c47 c99 c100 c101 c89) k [1, 1, 0, 1, 0, 1, 1, 1, 1, 1, 1, 1, 0, 0] [] F73.code (F73.fin c47 c99 c100 c101 c89) s
noncomputable def F73.fr_g11 (x1 : X_Value) : St := ⟨((List.replicate 169 V.un).set 1 (V.bp 600001 0 [])), [⟨600001, 0, .box (V.dat Y_Value x1)⟩]⟩
noncomputable def F73.M_g12 (c47 : F47.E) (c99 : F99.E) (c100 : F100.E) (c101 : F101.E) (c89 : F89.E) (k : Nat)  (s : St) : Option (Bool) := atGate (F73.C c47 c99 c100 c101 c89) k [1, 1, 0, 1, 0, 1, 1, 1, 1, 1, 1, 1, 0, 1, 0] [] F73.code (F73.fin c47 c99 c100 c101 c89) s
noncomputable def F73.fr_g12 (x1 : X_Value) (x5 : Bool) : St := ⟨(((List.replicate 169 V.un).set 1 (V.bp 600001 0 [])).set 5 (V.dat .bool x5)), [⟨600001, 0, .box (V.dat Y_Value x1)⟩]⟩
noncomputable def F73.M_g14 (c47 : F47.E) (c99 : F99.E) (c100 : F100.E) (c101 : F101.E) (c89 : F89.E) (k : Nat)  (s : St) : Option (Bool) := atGate (F73.C c47 c99 c100 c101 c89) k [1, 1, 0, 1, 0, 1, 1, 1, 1, 1, 1, 1, 1, 1, 0, 0] [] F73.code (F73.fin c47 c99 c100 c101 c89) s
noncomputable def F73.fr_g14 (x1 : X_Value) (x3 : Bool) (x4 : Bool) : St := ⟨((((List.replicate 169 V.un).set 1 (V.bp 600001 0 [])).set 3 (V.dat .bool x3)).set 4 (V.dat .bool x4)), [⟨600001, 0, .box (V.dat Y_Value x1)⟩]⟩
noncomputable def F73.M_g16 (c47 : F47.E) (c99 : F99.E) (c100 : F100.E) (c101 : F101.E) (c89 : F89.E) (k : Nat)  (s : St) : Option (Bool) := atGate (F73.C c47 c99 c100 c101 c89) k [1, 1, 0, 1, 0, 1, 1, 1, 1, 1, 1, 1, 1, 1, 1, 1, 0, 0] [] F73.code (F73.fin c47 c99 c100 c101 c89) s
noncomputable def F73.fr_g16 (x1 : X_Value) (x3 : Bool) (x4 : Bool) : St := ⟨((((List.replicate 169 V.un).set 1 (V.bp 600001 0 [])).set 3 (V.dat .bool x3)).set 4 (V.dat .bool x4)), [⟨600001, 0, .box (V.dat Y_Value x1)⟩]⟩
noncomputable def F73.M_g18 (c47 : F47.E) (c99 : F99.E) (c100 : F100.E) (c101 : F101.E) (c89 : F89.E) (k : Nat)  (s : St) : Option (Bool) := atGate (F73.C c47 c99 c100 c101 c89) k [1, 1, 0, 1, 0, 1, 1, 1, 1, 1, 1, 1, 1, 1, 1, 1, 1, 1, 0, 0] [] F73.code (F73.fin c47 c99 c100 c101 c89) s
noncomputable def F73.fr_g18 (x1 : X_Value) (x3 : Bool) (x4 : Bool) : St := ⟨((((List.replicate 169 V.un).set 1 (V.bp 600001 0 [])).set 3 (V.dat .bool x3)).set 4 (V.dat .bool x4)), [⟨600001, 0, .box (V.dat Y_Value x1)⟩]⟩
noncomputable def F73.M_g20 (c47 : F47.E) (c99 : F99.E) (c100 : F100.E) (c101 : F101.E) (c89 : F89.E) (k : Nat)  (s : St) : Option (Bool) := atGate (F73.C c47 c99 c100 c101 c89) k [1, 1, 0, 1, 0, 1, 1, 1, 1, 1, 1, 1, 1, 1, 1, 1, 1, 1, 1, 1, 0, 0] [] F73.code (F73.fin c47 c99 c100 c101 c89) s
noncomputable def F73.fr_g20 (x1 : X_Value) (x3 : Bool) (x4 : Bool) : St := ⟨((((List.replicate 169 V.un).set 1 (V.bp 600001 0 [])).set 3 (V.dat .bool x3)).set 4 (V.dat .bool x4)), [⟨600001, 0, .box (V.dat Y_Value x1)⟩]⟩
theorem F73.r (c47 : F47.E) (c99 : F99.E) (c100 : F100.E) (c101 : F101.E) (c89 : F89.E) (k : Nat) (a0 : X_Value) : fn (F73.C c47 c99 c100 c101 c89) k Tryz.f73 F73.A F73.R a0 = F73.b c47 c99 c100 c101 c89 (fun x1 x3 x4 => F73.M_g5 c47 c99 c100 c101 c89 k   (F73.fr_g5 x1 x3 x4)) (fun x1 x3 x4 => F73.M_g7 c47 c99 c100 c101 c89 k   (F73.fr_g7 x1 x3 x4)) (fun x1 x4 => F73.M_g9 c47 c99 c100 c101 c89 k   (F73.fr_g9 x1 x4)) (fun x1 => F73.M_g11 c47 c99 c100 c101 c89 k   (F73.fr_g11 x1)) (fun x1 x3 x4 => F73.M_g14 c47 c99 c100 c101 c89 k   (F73.fr_g14 x1 x3 x4)) (fun x1 x3 x4 => F73.M_g16 c47 c99 c100 c101 c89 k   (F73.fr_g16 x1 x3 x4)) (fun x1 x3 x4 => F73.M_g18 c47 c99 c100 c101 c89 k   (F73.fr_g18 x1 x3 x4)) (fun x1 x3 x4 => F73.M_g20 c47 c99 c100 c101 c89 k   (F73.fr_g20 x1 x3 x4)) a0 := by kernel_rfl
theorem F73.r_g5 (c47 : F47.E) (c99 : F99.E) (c100 : F100.E) (c101 : F101.E) (c89 : F89.E) (k : Nat)  (x1 : X_Value) (x3 : Bool) (x4 : Bool) : F73.M_g5 c47 c99 c100 c101 c89 k  (F73.fr_g5 x1 x3 x4) = gate k (F73.b_g5 c47 c99 c100 c101 c89  x1 x3 x4) := by kernel_rfl
theorem F73.r_g7 (c47 : F47.E) (c99 : F99.E) (c100 : F100.E) (c101 : F101.E) (c89 : F89.E) (k : Nat)  (x1 : X_Value) (x3 : Bool) (x4 : Bool) : F73.M_g7 c47 c99 c100 c101 c89 k  (F73.fr_g7 x1 x3 x4) = gate k (F73.b_g7 c47 c99 c100 c101 c89  x1 x3 x4) := by kernel_rfl
theorem F73.r_g9 (c47 : F47.E) (c99 : F99.E) (c100 : F100.E) (c101 : F101.E) (c89 : F89.E) (k : Nat)  (x1 : X_Value) (x4 : Bool) : F73.M_g9 c47 c99 c100 c101 c89 k  (F73.fr_g9 x1 x4) = gate k (F73.b_g9 c47 c99 c100 c101 c89  x1 x4) := by kernel_rfl
theorem F73.r_g11 (c47 : F47.E) (c99 : F99.E) (c100 : F100.E) (c101 : F101.E) (c89 : F89.E) (k : Nat)  (x1 : X_Value) : F73.M_g11 c47 c99 c100 c101 c89 k  (F73.fr_g11 x1) = gate k (F73.b_g11 c47 c99 c100 c101 c89 (fun x1 x5 => F73.M_g12 c47 c99 c100 c101 c89 k   (F73.fr_g12 x1 x5)) x1) := by kernel_rfl
theorem F73.r_g12 (c47 : F47.E) (c99 : F99.E) (c100 : F100.E) (c101 : F101.E) (c89 : F89.E) (k : Nat)  (x1 : X_Value) (x5 : Bool) : F73.M_g12 c47 c99 c100 c101 c89 k  (F73.fr_g12 x1 x5) = gate k (F73.b_g12 c47 c99 c100 c101 c89  x1 x5) := by kernel_rfl
theorem F73.r_g14 (c47 : F47.E) (c99 : F99.E) (c100 : F100.E) (c101 : F101.E) (c89 : F89.E) (k : Nat)  (x1 : X_Value) (x3 : Bool) (x4 : Bool) : F73.M_g14 c47 c99 c100 c101 c89 k  (F73.fr_g14 x1 x3 x4) = gate k (F73.b_g14 c47 c99 c100 c101 c89  x1 x3 x4) := by kernel_rfl
theorem F73.r_g16 (c47 : F47.E) (c99 : F99.E) (c100 : F100.E) (c101 : F101.E) (c89 : F89.E) (k : Nat)  (x1 : X_Value) (x3 : Bool) (x4 : Bool) : F73.M_g16 c47 c99 c100 c101 c89 k  (F73.fr_g16 x1 x3 x4) = gate k (F73.b_g16 c47 c99 c100 c101 c89  x1 x3 x4) := by kernel_rfl
theorem F73.r_g18 (c47 : F47.E) (c99 : F99.E) (c100 : F100.E) (c101 : F101.E) (c89 : F89.E) (k : Nat)  (x1 : X_Value) (x3 : Bool) (x4 : Bool) : F73.M_g18 c47 c99 c100 c101 c89 k  (F73.fr_g18 x1 x3 x4) = gate k (F73.b_g18 c47 c99 c100 c101 c89  x1 x3 x4) := by kernel_rfl
theorem F73.r_g20 (c47 : F47.E) (c99 : F99.E) (c100 : F100.E) (c101 : F101.E) (c89 : F89.E) (k : Nat)  (x1 : X_Value) (x3 : Bool) (x4 : Bool) : F73.M_g20 c47 c99 c100 c101 c89 k  (F73.fr_g20 x1 x3 x4) = gate k (F73.b_g20 c47 c99 c100 c101 c89  x1 x3 x4) := by kernel_rfl
theorem F73.e_g5 (c47 : F47.E) (c99 : F99.E) (c100 : F100.E) (c101 : F101.E) (c89 : F89.E) (k : Nat)  (x1 : X_Value) (x3 : Bool) (x4 : Bool) : F73.M_g5 c47 c99 c100 c101 c89 k  (F73.fr_g5 x1 x3 x4) = F73.g5 c47 c99 c100 c101 c89 k  x1 x3 x4 := by
  rw [F73.r_g5]
  rfl
theorem F73.e_g7 (c47 : F47.E) (c99 : F99.E) (c100 : F100.E) (c101 : F101.E) (c89 : F89.E) (k : Nat)  (x1 : X_Value) (x3 : Bool) (x4 : Bool) : F73.M_g7 c47 c99 c100 c101 c89 k  (F73.fr_g7 x1 x3 x4) = F73.g7 c47 c99 c100 c101 c89 k  x1 x3 x4 := by
  rw [F73.r_g7]
  rfl
theorem F73.e_g9 (c47 : F47.E) (c99 : F99.E) (c100 : F100.E) (c101 : F101.E) (c89 : F89.E) (k : Nat)  (x1 : X_Value) (x4 : Bool) : F73.M_g9 c47 c99 c100 c101 c89 k  (F73.fr_g9 x1 x4) = F73.g9 c47 c99 c100 c101 c89 k  x1 x4 := by
  rw [F73.r_g9]
  rfl
theorem F73.e_g12 (c47 : F47.E) (c99 : F99.E) (c100 : F100.E) (c101 : F101.E) (c89 : F89.E) (k : Nat)  (x1 : X_Value) (x5 : Bool) : F73.M_g12 c47 c99 c100 c101 c89 k  (F73.fr_g12 x1 x5) = F73.g12 c47 c99 c100 c101 c89 k  x1 x5 := by
  rw [F73.r_g12]
  rfl
theorem F73.e_g11 (c47 : F47.E) (c99 : F99.E) (c100 : F100.E) (c101 : F101.E) (c89 : F89.E) (k : Nat)  (x1 : X_Value) : F73.M_g11 c47 c99 c100 c101 c89 k  (F73.fr_g11 x1) = F73.g11 c47 c99 c100 c101 c89 k  x1 := by
  rw [F73.r_g11]
  simp only [F73.e_g12]
  rfl
theorem F73.e_g14 (c47 : F47.E) (c99 : F99.E) (c100 : F100.E) (c101 : F101.E) (c89 : F89.E) (k : Nat)  (x1 : X_Value) (x3 : Bool) (x4 : Bool) : F73.M_g14 c47 c99 c100 c101 c89 k  (F73.fr_g14 x1 x3 x4) = F73.g14 c47 c99 c100 c101 c89 k  x1 x3 x4 := by
  rw [F73.r_g14]
  rfl
theorem F73.e_g16 (c47 : F47.E) (c99 : F99.E) (c100 : F100.E) (c101 : F101.E) (c89 : F89.E) (k : Nat)  (x1 : X_Value) (x3 : Bool) (x4 : Bool) : F73.M_g16 c47 c99 c100 c101 c89 k  (F73.fr_g16 x1 x3 x4) = F73.g16 c47 c99 c100 c101 c89 k  x1 x3 x4 := by
  rw [F73.r_g16]
  rfl
theorem F73.e_g18 (c47 : F47.E) (c99 : F99.E) (c100 : F100.E) (c101 : F101.E) (c89 : F89.E) (k : Nat)  (x1 : X_Value) (x3 : Bool) (x4 : Bool) : F73.M_g18 c47 c99 c100 c101 c89 k  (F73.fr_g18 x1 x3 x4) = F73.g18 c47 c99 c100 c101 c89 k  x1 x3 x4 := by
  rw [F73.r_g18]
  rfl
theorem F73.e_g20 (c47 : F47.E) (c99 : F99.E) (c100 : F100.E) (c101 : F101.E) (c89 : F89.E) (k : Nat)  (x1 : X_Value) (x3 : Bool) (x4 : Bool) : F73.M_g20 c47 c99 c100 c101 c89 k  (F73.fr_g20 x1 x3 x4) = F73.g20 c47 c99 c100 c101 c89 k  x1 x3 x4 := by
  rw [F73.r_g20]
  rfl
theorem F73.e (c47 : F47.E) (c99 : F99.E) (c100 : F100.E) (c101 : F101.E) (c89 : F89.E) (k : Nat) (a0 : X_Value) : fn (F73.C c47 c99 c100 c101 c89) k Tryz.f73 F73.A F73.R a0 = F73.f c47 c99 c100 c101 c89 k a0 := by
  rw [F73.r]
  simp only [F73.e_g11, F73.e_g14, F73.e_g16, F73.e_g18, F73.e_g20, F73.e_g5, F73.e_g7, F73.e_g9]
  rfl
theorem F73.ty (c47 : F47.E) (c99 : F99.E) (c100 : F100.E) (c101 : F101.E) (c89 : F89.E) : TyOk Tryz.prog (F73.C c47 c99 c100 c101 c89) := tyOk_of (by kernel_rfl)
def F73.u (k : Nat) : F73.E := fun y => F73.f (F47.u k) (F99.u k) (F100.u k) (F101.u k) (F89.u k) k y
theorem F73.sound (k : Nat) : Sound Tryz.prog ⟨73, F73.A, F73.R, F73.u k⟩ := by
  have h := fn_sound (k := k) («as» := F73.A) (rs := F73.R) (F73.ty (F47.u k) (F99.u k) (F100.u k) (F101.u k) (F89.u k)) (fun E h => by
    simp only [F73.C, List.mem_cons, List.not_mem_nil, or_false] at h
    rcases h with rfl | rfl | rfl | rfl | rfl
    · exact F47.sound k
    · exact F99.sound k
    · exact F100.sound k
    · exact F101.sound k
    · exact F89.sound k) mixed Tryz.func73 (by kernel_rfl) (by kernel_rfl)
  have e : fn (F73.C (F47.u k) (F99.u k) (F100.u k) (F101.u k) (F89.u k)) k Tryz.f73 F73.A F73.R = F73.u k := by
    funext y
    exact F73.e (F47.u k) (F99.u k) (F100.u k) (F101.u k) (F89.u k) k y
  rw [e] at h
  exact h
/-! ### brindlewood/brindlewoodref7.SameValue: f14 -/
abbrev F14.A : List Sh := [(.d Y_Value), (.d Y_Value)]
abbrev F14.R : List Sh := [(.d .bool)]
abbrev F14.E : Type := X_parts → Option (Bool)
def F14.C (c47 : F47.E) : Ctx := { ty := [(3, (.int .i64)), (9, .str), (27, Y_Int), (29, Y_Value)], nf := [(29, 5)], by_ := [], env := [⟨47, F47.A, F47.R, c47⟩], spec := [] }
noncomputable def F14.code : Code := Func.code Tryz.f14
noncomputable def F14.fin (c47 : F47.E) := kfin (F14.C c47) Tryz.f14 F14.A F14.R
def F14.b (c47 : F47.E)  (a0 : X_Value) (a1 : X_Value) : Option (Bool) :=
 bif (a0.1 == a1.1) then
 bif (a0.2.2.2.2 == a1.2.2.2.2) then
 bif (a0.2.2.2.1 == a1.2.2.2.1) then
 (c47 (a0.2.1, a1.2.1)).bind fun y1 =>
 bif y1 then
 (c47 (a0.2.2.1, a1.2.2.1)).bind fun y2 =>
 some y2
 else
 some false
 else
 some false
 else
 some false
 else
 some false
def F14.f (c47 : F47.E) (k : Nat) (a0 : X_Value) (a1 : X_Value) : Option (Bool) := F14.b c47  a0 a1
theorem F14.r (c47 : F47.E) (k : Nat) (a0 : X_Value) (a1 : X_Value) : fn (F14.C c47) k Tryz.f14 F14.A F14.R (a0, a1) = F14.b c47  a0 a1 := by kernel_rfl
theorem F14.e (c47 : F47.E) (k : Nat) (a0 : X_Value) (a1 : X_Value) : fn (F14.C c47) k Tryz.f14 F14.A F14.R (a0, a1) = F14.f c47 k a0 a1 := by
  rw [F14.r]
  rfl
theorem F14.ty (c47 : F47.E) : TyOk Tryz.prog (F14.C c47) := tyOk_of (by kernel_rfl)
def F14.u (k : Nat) : F14.E := fun y => F14.f (F47.u k) k y.1 y.2
theorem F14.sound (k : Nat) : Sound Tryz.prog ⟨14, F14.A, F14.R, F14.u k⟩ := by
  have h := fn_sound (k := k) («as» := F14.A) (rs := F14.R) (F14.ty (F47.u k)) (fun E h => by
    simp only [F14.C, List.mem_cons, List.not_mem_nil, or_false] at h
    rcases h with rfl
    · exact F47.sound k) mixed Tryz.func14 (by kernel_rfl) (by kernel_rfl)
  have e : fn (F14.C (F47.u k)) k Tryz.f14 F14.A F14.R = F14.u k := by
    funext y
    exact F14.e (F47.u k) k y.1 y.2
  rw [e] at h
  exact h
end
end Go.Ab
