/- A part of the proof: GY1. -/
import Derived.Test.YtdekjkgfohlmgaaGreatDoorFLs
import Derived.Test.YtdekjkgfohlmgaaGreatDoorGT1
import Derived.Test.YtdekjkgfohlmgaaGreatDoorGT2
import Derived.Test.YtdekjkgfohlmgaaGreatDoorGT3
import Derived.Test.YtdekjkgfohlmgaaGreatDoorGX1
import Derived.Test.YtdekjkgfohlmgaaGreatDoorGX2
import Derived.Test.YtdekjkgfohlmgaaGreatDoorHLib
import Derived.Test.YtdekjkgfohlmgaaGreatDoorHSort
namespace Go.Ab
set_option linter.unusedVariables false
set_option linter.unusedSimpArgs false
set_option maxRecDepth 100000
noncomputable section
open Go.Proofs
/-! ### brindlewood/brindlewoodref7.NameText: f11 -/
abbrev F11.A : List Sh := [(.d .str)]
abbrev F11.R : List Sh := [(.d .bool)]
abbrev F11.E : Type := LB → Option Bool
section
variable (c50 : F50.E)
variable (k n : Nat)
def F11.C : Ctx := cx [⟨50, F50.A, F50.R, c50⟩] []
variable (a0 : LB)
def F11.b : Option Bool :=
 (c50 a0).bind fun y1 =>
 some y1
def F11.f (k : Nat) (a0 : LB) : Option Bool := F11.b c50 a0
theorem F11.e : fn (F11.C c50) k Tryz.f11 F11.A F11.R a0 = F11.f c50 k a0 := by
  kernel_rfl
end
def F11.u (k : Nat) : F11.E := fun y => F11.f (F50.u k) k y
theorem F11.sound (k : Nat) : Sound Tryz.prog ⟨11, F11.A, F11.R, F11.u k⟩ := sn gr Tryz.func11 (fun y => F11.e (F50.u k) k y) (al (F50.sound k) al0)
/-! ### brindlewood/attribute.Methods: f19 -/
abbrev F19.A : List Sh := [(.d (.int .i64))]
abbrev F19.R : List Sh := [(.d (.sl 9 .str))]
abbrev F19.E : Type := Int → Option LLB
section
variable (c66 : F66.E)
variable (k n : Nat)
def F19.C : Ctx := cx [⟨66, F66.A, F66.R, c66⟩] []
variable (a0 : Int)
def F19.b : Option LLB :=
 bif (a0 == (4 : Int)) then
 some (List.take 1 ([[98, 105, 116, 115]] : LLB))
 else
 bif (a0 == (5 : Int)) then
 some (List.take 2 ([[100, 101, 110], [110, 117, 109]] : LLB))
 else
 bif (a0 == (6 : Int)) then
 (c66 [99, 111, 117, 110, 116, 32, 101, 110, 99, 111, 100, 101, 32, 101, 110, 100, 115, 95, 119, 105, 116, 104, 32, 102, 105, 110, 100, 32, 106, 111, 105, 110, 32, 108, 111, 119, 101, 114, 32, 114, 101, 112, 108, 97, 99, 101, 32, 115, 112, 108, 105, 116, 32, 115, 116, 97, 114, 116, 115, 95, 119, 105, 116, 104, 32, 115, 116, 114, 105, 112, 32, 117, 112, 112, 101, 114]).bind fun y1 =>
 some y1
 else
 bif (a0 == (7 : Int)) then
 some (List.take 3 ([[100, 101, 99, 111, 100, 101], [102, 105, 110, 100], [104, 101, 120]] : LLB))
 else
 bif (a0 == (8 : Int)) then
 some (List.take 2 ([[99, 111, 117, 110, 116], [105, 110, 100, 101, 120]] : LLB))
 else
 bif (a0 == (9 : Int)) then
 (c66 [97, 112, 112, 101, 110, 100, 32, 99, 108, 101, 97, 114, 32, 99, 111, 112, 121, 32, 99, 111, 117, 110, 116, 32, 101, 120, 116, 101, 110, 100, 32, 105, 110, 100, 101, 120, 32, 105, 110, 115, 101, 114, 116, 32, 112, 111, 112, 32, 114, 101, 109, 111, 118, 101, 32, 114, 101, 118, 101, 114, 115, 101, 32, 115, 111, 114, 116]).bind fun y2 =>
 some y2
 else
 bif (a0 == (10 : Int)) then
 (c66 [99, 108, 101, 97, 114, 32, 99, 111, 112, 121, 32, 103, 101, 116, 32, 105, 116, 101, 109, 115, 32, 107, 101, 121, 115, 32, 112, 111, 112, 32, 115, 101, 116, 95, 100, 101, 102, 97, 117, 108, 116, 32, 117, 112, 100, 97, 116, 101, 32, 118, 97, 108, 117, 101, 115]).bind fun y3 =>
 some y3
 else
 bif (a0 == (11 : Int)) then
 (c66 [97, 100, 100, 32, 99, 108, 101, 97, 114, 32, 99, 111, 112, 121, 32, 100, 105, 115, 99, 97, 114, 100, 32, 114, 101, 109, 111, 118, 101]).bind fun y4 =>
 some y4
 else
 bif (a0 == (18 : Int)) then
 some (List.take 2 ([[119, 105, 116, 104, 95, 100, 101, 108, 101, 116, 101, 114], [119, 105, 116, 104, 95, 115, 101, 116, 116, 101, 114]] : LLB))
 else
 bif (a0 == (23 : Int)) then
 some (List.take 3 ([[99, 108, 111, 115, 101], [115, 101, 110, 100], [116, 104, 114, 111, 119]] : LLB))
 else
 bif (a0 == (25 : Int)) then
 some (List.take 2 ([[99, 97, 110, 99, 101, 108], [100, 111, 110, 101]] : LLB))
 else
 some ([] : LLB)
def F19.c : Option LLB :=
 bif (a0 == (4 : Int)) then
 some ([[98, 105, 116, 115]] : LLB)
 else
 bif (a0 == (5 : Int)) then
 some (List.take 2 ([[100, 101, 110], [110, 117, 109]] : LLB))
 else
 bif (a0 == (6 : Int)) then
 (c66 [99, 111, 117, 110, 116, 32, 101, 110, 99, 111, 100, 101, 32, 101, 110, 100, 115, 95, 119, 105, 116, 104, 32, 102, 105, 110, 100, 32, 106, 111, 105, 110, 32, 108, 111, 119, 101, 114, 32, 114, 101, 112, 108, 97, 99, 101, 32, 115, 112, 108, 105, 116, 32, 115, 116, 97, 114, 116, 115, 95, 119, 105, 116, 104, 32, 115, 116, 114, 105, 112, 32, 117, 112, 112, 101, 114]).bind fun y1 =>
 some y1
 else
 bif (a0 == (7 : Int)) then
 some (List.take 3 ([[100, 101, 99, 111, 100, 101], [102, 105, 110, 100], [104, 101, 120]] : LLB))
 else
 bif (a0 == (8 : Int)) then
 some (List.take 2 ([[99, 111, 117, 110, 116], [105, 110, 100, 101, 120]] : LLB))
 else
 bif (a0 == (9 : Int)) then
 (c66 [97, 112, 112, 101, 110, 100, 32, 99, 108, 101, 97, 114, 32, 99, 111, 112, 121, 32, 99, 111, 117, 110, 116, 32, 101, 120, 116, 101, 110, 100, 32, 105, 110, 100, 101, 120, 32, 105, 110, 115, 101, 114, 116, 32, 112, 111, 112, 32, 114, 101, 109, 111, 118, 101, 32, 114, 101, 118, 101, 114, 115, 101, 32, 115, 111, 114, 116]).bind fun y2 =>
 some y2
 else
 bif (a0 == (10 : Int)) then
 (c66 [99, 108, 101, 97, 114, 32, 99, 111, 112, 121, 32, 103, 101, 116, 32, 105, 116, 101, 109, 115, 32, 107, 101, 121, 115, 32, 112, 111, 112, 32, 115, 101, 116, 95, 100, 101, 102, 97, 117, 108, 116, 32, 117, 112, 100, 97, 116, 101, 32, 118, 97, 108, 117, 101, 115]).bind fun y3 =>
 some y3
 else
 bif (a0 == (11 : Int)) then
 (c66 [97, 100, 100, 32, 99, 108, 101, 97, 114, 32, 99, 111, 112, 121, 32, 100, 105, 115, 99, 97, 114, 100, 32, 114, 101, 109, 111, 118, 101]).bind fun y4 =>
 some y4
 else
 bif (a0 == (18 : Int)) then
 some (List.take 2 ([[119, 105, 116, 104, 95, 100, 101, 108, 101, 116, 101, 114], [119, 105, 116, 104, 95, 115, 101, 116, 116, 101, 114]] : LLB))
 else
 bif (a0 == (23 : Int)) then
 some (List.take 3 ([[99, 108, 111, 115, 101], [115, 101, 110, 100], [116, 104, 114, 111, 119]] : LLB))
 else
 bif (a0 == (25 : Int)) then
 some (List.take 2 ([[99, 97, 110, 99, 101, 108], [100, 111, 110, 101]] : LLB))
 else
 some ([] : LLB)
theorem F19.q : F19.b c66 a0 = F19.c c66 a0 := by
  simp only [F19.b, F19.c, qq]
def F19.f (k : Nat) (a0 : Int) : Option LLB := F19.b c66 a0
theorem F19.e : fn (F19.C c66) k Tryz.f19 F19.A F19.R a0 = F19.f c66 k a0 := by
  kernel_rfl
end
def F19.u (k : Nat) : F19.E := fun y => F19.f (F66.u k) k y
theorem F19.sound (k : Nat) : Sound Tryz.prog ⟨19, F19.A, F19.R, F19.u k⟩ := sn gr Tryz.func19 (fun y => F19.e (F66.u k) k y) (al (F66.sound k) al0)
/-! ### brindlewood/attribute.Names: f17 -/
abbrev F17.A : List Sh := [(.d Y_Heap), (.d Y_Value)]
abbrev F17.R : List Sh := [(.d (.sl 9 .str))]
abbrev F17.E : Type := (LO × X_Value) → Option LLB
section
variable (c51 : F51.E) (c27 : F27.E) (c62 : F62.E) (c60 : F60.E) (c19 : F19.E)
variable (k n : Nat)
def F17.C : Ctx := { cx [⟨51, F51.A, F51.R, c51⟩, ⟨27, F27.A, F27.R, c27⟩, ⟨62, F62.A, F62.R, c62⟩, ⟨60, F60.A, F60.R, c60⟩, ⟨19, F19.A, F19.R, c19⟩] [(1, [.bx 2 600002 (.d Y_Heap), .o 6 500006 9 .str, .d 58 (.sl 3 (.int .i64)), .d 59 (.int .i64), .d 60 (.int .i64)])] with inp := [⟨61, 9, .str, sortS⟩] }
noncomputable def F17.M_l1 (s : St) : Option LLB := lpAt (F17.C c51 c27 c62 c60 c19) k n [1, 1, 1, 1, 1, 0, 1, 0] [] Tryz.f17 F17.A F17.R s
noncomputable def F17.fr_l1 (x2 : LO) (x6 : LLB) (x58 : LI) (x59 : Int) (x60 : Int) : St := ⟨((((((List.replicate 77 V.un).set 2 (V.bp 600002 0 [])).set 6 (V.ref 500006 0 0 (List.length x6))).set 58 (V.dat (.sl 3 (.int .i64)) x58)).set 59 (V.dat (.int .i64) x59)).set 60 (V.dat (.int .i64) x60)), [⟨500006, 0, .arr 9 .str x6⟩, ⟨600002, 0, .box (V.dat Y_Heap x2)⟩]⟩
section
variable (n_l1 : LO → LLB → LI → Int → Int → Option LLB) (x2 : LO) (x6 : LLB) (x58 : LI) (x59 x60 : Int)
def F17.b_l1 (c51 : F51.E) (c27 : F27.E) (c62 : F62.E) (c60 : F60.E) (c19 : F19.E) (n_l1 : LO → LLB → LI → Int → Int → Option LLB) (x2 : LO) (x6 : LLB) (x58 : LI) (x59 : Int) (x60 : Int) : Option LLB :=
 bif (decide (x60 < x59)) then
 if 0 ≤ x60 ∧ x60 < ((List.length x58) : Int) then
 if 0 ≤ (List.getD x58 (Int.toNat x60) (0 : Int)) ∧ (List.getD x58 (Int.toNat x60) (0 : Int)) < ((List.length x2) : Int) then
 if (List.length x6) ≤ (List.length x6) ∧ ((List.length x6) + (List.length (((((((List.getD x2 (Int.toNat (List.getD x58 (Int.toNat x60) (0 : Int))) Z_Object).2).2).2).2).2).1))) * 16 ≤ LIM then
 n_l1 x2 (List.take (List.length (List.append (List.take (List.length x6) x6) (((((((List.getD x2 (Int.toNat (List.getD x58 (Int.toNat x60) (0 : Int))) Z_Object).2).2).2).2).2).1))) (List.append (List.take (List.length x6) x6) (((((((List.getD x2 (Int.toNat (List.getD x58 (Int.toNat x60) (0 : Int))) Z_Object).2).2).2).2).2).1))) x58 x59 (IntKind.i64.wrap (x60 + (1 : Int)))
 else none
 else none
 else none
 else
 if 0 + (List.length x6) ≤ (List.length x6) ∧ (List.length x6) ≤ 4611686018427387903 then
 (c62 (List.take (List.length x6) (List.append (List.take 0 x6) (List.append (sortS (List.take (List.length x6) (List.drop 0 x6))) (List.drop (0 + (List.length x6)) x6))))).bind fun y3 =>
 some (List.take (List.length y3) y3)
 else none
def F17.c_l1 (c51 : F51.E) (c27 : F27.E) (c62 : F62.E) (c60 : F60.E) (c19 : F19.E) (n_l1 : LO → LLB → LI → Int → Int → Option LLB) (x2 : LO) (x6 : LLB) (x58 : LI) (x59 : Int) (x60 : Int) : Option LLB :=
 bif (decide (x60 < x59)) then
 if 0 ≤ x60 ∧ x60 < ((List.length x58) : Int) then
 if 0 ≤ (List.getD x58 (Int.toNat x60) (0 : Int)) ∧ (List.getD x58 (Int.toNat x60) (0 : Int)) < ((List.length x2) : Int) then
 if ((List.length x6) + (List.length (((((((List.getD x2 (Int.toNat (List.getD x58 (Int.toNat x60) (0 : Int))) Z_Object).2).2).2).2).2).1))) * 16 ≤ LIM then
 n_l1 x2 (x6 ++ (((((((List.getD x2 (Int.toNat (List.getD x58 (Int.toNat x60) (0 : Int))) Z_Object).2).2).2).2).2).1)) x58 x59 (IntKind.i64.wrap (x60 + (1 : Int)))
 else none
 else none
 else none
 else
 if 0 + (List.length x6) ≤ (List.length x6) ∧ (List.length x6) ≤ 4611686018427387903 then
 (c62 (List.take (List.length x6) ((List.take 0 x6) ++ ((sortS x6) ++ (List.drop ((List.length x6)) x6))))).bind fun y3 =>
 some y3
 else none
theorem F17.q_l1 : F17.b_l1 c51 c27 c62 c60 c19 n_l1 x2 x6 x58 x59 x60 = F17.c_l1 c51 c27 c62 c60 c19 n_l1 x2 x6 x58 x59 x60 := by
  simp only [F17.b_l1, F17.c_l1, qq]
def F17.l1 (k : Nat) : Nat → LO → LLB → LI → Int → Int → Option LLB
  | 0, _, _, _, _, _ => none
  | n + 1, x2, x6, x58, x59, x60 => F17.b_l1 c51 c27 c62 c60 c19 (fun x2 x6 x58 x59 x60 => F17.l1 k n x2 x6 x58 x59 x60) x2 x6 x58 x59 x60
theorem F17.e_l1 : F17.M_l1 c51 c27 c62 c60 c19 k n (F17.fr_l1 x2 x6 x58 x59 x60) = F17.l1 c51 c27 c62 c60 c19 k n x2 x6 x58 x59 x60 := by
  induction n generalizing x2 x6 x58 x59 x60 with
  | zero => exact lpAt0
  | succ n ih =>
    refine Eq.trans (b := F17.b_l1 c51 c27 c62 c60 c19 (fun x2 x6 x58 x59 x60 => F17.M_l1 c51 c27 c62 c60 c19 k n (F17.fr_l1 x2 x6 x58 x59 x60)) x2 x6 x58 x59 x60) (by kernel_rfl) ?_
    simp only [ih]
    rfl
end
variable (r_l1 : LO → LLB → LI → Int → Int → Option LLB) (a0 : LO) (a1 : Int × (X_Int × (X_Int × X_errorAddressString)))
def F17.b (c62 : F62.E) (c60 : F60.E) (c19 : F19.E) (r_l1 : LO → LLB → LI → Int → Int → Option LLB) (a0 : LO) (a1 : Int × (X_Int × (X_Int × X_errorAddressString))) : Option LLB :=
 (c51 (a0, a1)).bind fun y1 =>
 (c27 y1.2.2.2.2.2.1).bind fun y2 =>
 bif (y1.1 == (10 : Int)) then
 if 0 ≤ y1.2.2.1 ∧ y1.2.2.1 < ((List.length a0) : Int) then
 r_l1 a0 (List.take (List.length y2) y2) ((((((List.getD a0 (Int.toNat y1.2.2.1) Z_Object).2).2).2).2).1) ((List.length ((((((List.getD a0 (Int.toNat y1.2.2.1) Z_Object).2).2).2).2).1)) : Int) (0 : Int)
 else none
 else
 bif (y1.1 == (9 : Int)) then
 if (List.length y2) ≤ (List.length y2) ∧ ((List.length y2) + (List.length (List.take 2 ([[110, 97, 109, 101], [111, 114, 100, 101, 114]] : LLB)))) * 16 ≤ LIM then
 r_l1 a0 (List.take (List.length (List.append (List.take (List.length y2) y2) (List.take 2 ([[110, 97, 109, 101], [111, 114, 100, 101, 114]] : LLB)))) (List.append (List.take (List.length y2) y2) (List.take 2 ([[110, 97, 109, 101], [111, 114, 100, 101, 114]] : LLB)))) y1.2.2.2.2.1 ((List.length y1.2.2.2.2.1) : Int) (0 : Int)
 else none
 else
 bif (y1.1 == (11 : Int)) then
 r_l1 a0 (List.take (List.length y2) y2) ([] : LI) (0 : Int) (0 : Int)
 else
 (c60 (a0, a1)).bind fun y4 =>
 (c19 y4).bind fun y5 =>
 if (List.length y2) ≤ (List.length y2) ∧ ((List.length y2) + (List.length y5)) * 16 ≤ LIM then
 bif (a1.1 == (7 : Int)) then
 if (List.length (List.append (List.take (List.length y2) y2) y5)) ≤ (List.length (List.append (List.take (List.length y2) y2) y5)) ∧ ((List.length (List.append (List.take (List.length y2) y2) y5)) + (List.length (List.take 1 ([[110, 97, 109, 101]] : LLB)))) * 16 ≤ LIM then
 r_l1 a0 (List.take (List.length (List.append (List.take (List.length (List.append (List.take (List.length y2) y2) y5)) (List.append (List.take (List.length y2) y2) y5)) (List.take 1 ([[110, 97, 109, 101]] : LLB)))) (List.append (List.take (List.length (List.append (List.take (List.length y2) y2) y5)) (List.append (List.take (List.length y2) y2) y5)) (List.take 1 ([[110, 97, 109, 101]] : LLB)))) ([] : LI) (0 : Int) (0 : Int)
 else none
 else
 bif (y1.1 == (7 : Int)) then
 if (List.length (List.append (List.take (List.length y2) y2) y5)) ≤ (List.length (List.append (List.take (List.length y2) y2) y5)) ∧ ((List.length (List.append (List.take (List.length y2) y2) y5)) + (List.length (List.take 1 ([[110, 97, 109, 101]] : LLB)))) * 16 ≤ LIM then
 r_l1 a0 (List.take (List.length (List.append (List.take (List.length (List.append (List.take (List.length y2) y2) y5)) (List.append (List.take (List.length y2) y2) y5)) (List.take 1 ([[110, 97, 109, 101]] : LLB)))) (List.append (List.take (List.length (List.append (List.take (List.length y2) y2) y5)) (List.append (List.take (List.length y2) y2) y5)) (List.take 1 ([[110, 97, 109, 101]] : LLB)))) ([] : LI) (0 : Int) (0 : Int)
 else none
 else
 bif (y1.1 == (8 : Int)) then
 if (List.length (List.append (List.take (List.length y2) y2) y5)) ≤ (List.length (List.append (List.take (List.length y2) y2) y5)) ∧ ((List.length (List.append (List.take (List.length y2) y2) y5)) + (List.length (List.take 1 ([[110, 97, 109, 101]] : LLB)))) * 16 ≤ LIM then
 r_l1 a0 (List.take (List.length (List.append (List.take (List.length (List.append (List.take (List.length y2) y2) y5)) (List.append (List.take (List.length y2) y2) y5)) (List.take 1 ([[110, 97, 109, 101]] : LLB)))) (List.append (List.take (List.length (List.append (List.take (List.length y2) y2) y5)) (List.append (List.take (List.length y2) y2) y5)) (List.take 1 ([[110, 97, 109, 101]] : LLB)))) ([] : LI) (0 : Int) (0 : Int)
 else none
 else
 r_l1 a0 (List.take (List.length (List.append (List.take (List.length y2) y2) y5)) (List.append (List.take (List.length y2) y2) y5)) ([] : LI) (0 : Int) (0 : Int)
 else none
def F17.c (c62 : F62.E) (c60 : F60.E) (c19 : F19.E) (r_l1 : LO → LLB → LI → Int → Int → Option LLB) (a0 : LO) (a1 : Int × (X_Int × (X_Int × X_errorAddressString))) : Option LLB :=
 (c51 (a0, a1)).bind fun y1 =>
 (c27 y1.2.2.2.2.2.1).bind fun y2 =>
 bif (y1.1 == (10 : Int)) then
 if 0 ≤ y1.2.2.1 ∧ y1.2.2.1 < ((List.length a0) : Int) then
 r_l1 a0 y2 ((((((List.getD a0 (Int.toNat y1.2.2.1) Z_Object).2).2).2).2).1) ((List.length ((((((List.getD a0 (Int.toNat y1.2.2.1) Z_Object).2).2).2).2).1)) : Int) (0 : Int)
 else none
 else
 bif (y1.1 == (9 : Int)) then
 if ((List.length y2) + (List.length (List.take 2 ([[110, 97, 109, 101], [111, 114, 100, 101, 114]] : LLB)))) * 16 ≤ LIM then
 r_l1 a0 (y2 ++ (List.take 2 ([[110, 97, 109, 101], [111, 114, 100, 101, 114]] : LLB))) y1.2.2.2.2.1 ((List.length y1.2.2.2.2.1) : Int) (0 : Int)
 else none
 else
 bif (y1.1 == (11 : Int)) then
 r_l1 a0 y2 ([] : LI) (0 : Int) (0 : Int)
 else
 (c60 (a0, a1)).bind fun y4 =>
 (c19 y4).bind fun y5 =>
 if ((List.length y2) + (List.length y5)) * 16 ≤ LIM then
 bif (a1.1 == (7 : Int)) then
 if ((List.length (y2 ++ y5)) + (List.length ([[110, 97, 109, 101]] : LLB))) * 16 ≤ LIM then
 r_l1 a0 ((y2 ++ y5) ++ ([[110, 97, 109, 101]] : LLB)) ([] : LI) (0 : Int) (0 : Int)
 else none
 else
 bif (y1.1 == (7 : Int)) then
 if ((List.length (y2 ++ y5)) + (List.length ([[110, 97, 109, 101]] : LLB))) * 16 ≤ LIM then
 r_l1 a0 ((y2 ++ y5) ++ ([[110, 97, 109, 101]] : LLB)) ([] : LI) (0 : Int) (0 : Int)
 else none
 else
 bif (y1.1 == (8 : Int)) then
 if ((List.length (y2 ++ y5)) + (List.length ([[110, 97, 109, 101]] : LLB))) * 16 ≤ LIM then
 r_l1 a0 ((y2 ++ y5) ++ ([[110, 97, 109, 101]] : LLB)) ([] : LI) (0 : Int) (0 : Int)
 else none
 else
 r_l1 a0 (y2 ++ y5) ([] : LI) (0 : Int) (0 : Int)
 else none
theorem F17.q : F17.b c51 c27 c62 c60 c19 r_l1 a0 a1 = F17.c c51 c27 c62 c60 c19 r_l1 a0 a1 := by
  simp only [F17.b, F17.c, qq]
def F17.f : Option LLB := F17.b c51 c27 c62 c60 c19 (F17.l1 c51 c27 c62 c60 c19 k k) a0 a1
theorem F17.e : fn (F17.C c51 c27 c62 c60 c19) k Tryz.f17 F17.A F17.R (a0, a1) = F17.f c51 c27 c62 c60 c19 k a0 a1 := by
  refine Eq.trans (b := F17.b c51 c27 c62 c60 c19 (fun x2 x6 x58 x59 x60 => F17.M_l1 c51 c27 c62 c60 c19 k k (F17.fr_l1 x2 x6 x58 x59 x60)) a0 a1) (by kernel_rfl) ?_
  simp only [F17.e_l1]
  rfl
end
def F17.u (k : Nat) : F17.E := fun y => F17.f (F51.u k) (F27.u k) (F62.u k) (F60.u k) (F19.u k) k y.1 y.2
theorem F17.sound (k : Nat) : Sound Tryz.prog ⟨17, F17.A, F17.R, F17.u k⟩ := sni gr Tryz.func17 (fun y => F17.e (F51.u k) (F27.u k) (F62.u k) (F60.u k) (F19.u k) k y.1 y.2) (al (F51.sound k) (al (F27.sound k) (al (F62.sound k) (al (F60.sound k) (al (F19.sound k) al0))))) (ali sort_inp al0i)
/-! ### brindlewood/brindlewoodref7.Unique: f65 -/
abbrev F65.A : List Sh := [(.d (.sl 9 .str))]
abbrev F65.R : List Sh := [(.d (.sl 9 .str))]
abbrev F65.E : Type := LLB → Option LLB
section
variable (c27 : F27.E) (c62 : F62.E)
variable (k n : Nat)
def F65.C : Ctx := { cx [⟨27, F27.A, F27.R, c27⟩, ⟨62, F62.A, F62.R, c62⟩] [] with inp := [⟨61, 9, .str, sortS⟩] }
variable (a0 : LLB)
def F65.b : Option LLB :=
 (c27 a0).bind fun y1 =>
 if 0 + (List.length y1) ≤ (List.length y1) ∧ (List.length y1) ≤ 4611686018427387903 then
 (c62 (List.take (List.length y1) (List.append (List.take 0 y1) (List.append (sortS (List.take (List.length y1) (List.drop 0 y1))) (List.drop (0 + (List.length y1)) y1))))).bind fun y2 =>
 some (List.take (List.length y2) y2)
 else none
def F65.c : Option LLB :=
 (c27 a0).bind fun y1 =>
 if 0 + (List.length y1) ≤ (List.length y1) ∧ (List.length y1) ≤ 4611686018427387903 then
 (c62 (List.take (List.length y1) ((List.take 0 y1) ++ ((sortS y1) ++ (List.drop ((List.length y1)) y1))))).bind fun y2 =>
 some y2
 else none
theorem F65.q : F65.b c27 c62 a0 = F65.c c27 c62 a0 := by
  simp only [F65.b, F65.c, qq]
def F65.f (k : Nat) (a0 : LLB) : Option LLB := F65.b c27 c62 a0
theorem F65.e : fn (F65.C c27 c62) k Tryz.f65 F65.A F65.R a0 = F65.f c27 c62 k a0 := by
  kernel_rfl
end
def F65.u (k : Nat) : F65.E := fun y => F65.f (F27.u k) (F62.u k) k y
theorem F65.sound (k : Nat) : Sound Tryz.prog ⟨65, F65.A, F65.R, F65.u k⟩ := sni gr Tryz.func65 (fun y => F65.e (F27.u k) (F62.u k) k y) (al (F27.sound k) (al (F62.sound k) al0)) (ali sort_inp al0i)
/-! ### brindlewood/brindlewoodref7.MethodsOf: f20 -/
abbrev F20.A : List Sh := [(.d (.int .i64))]
abbrev F20.R : List Sh := [(.d (.sl 9 .str))]
abbrev F20.E : Type := Int → Option LLB
section
variable (c66 : F66.E)
variable (k n : Nat)
def F20.C : Ctx := cx [⟨66, F66.A, F66.R, c66⟩] []
variable (a0 : Int)
def F20.b : Option LLB :=
 bif (a0 == (4 : Int)) then
 some (List.take 1 ([[98, 105, 116, 115]] : LLB))
 else
 bif (a0 == (5 : Int)) then
 some (List.take 2 ([[100, 101, 110], [110, 117, 109]] : LLB))
 else
 bif (a0 == (6 : Int)) then
 (c66 [99, 111, 117, 110, 116, 32, 101, 110, 99, 111, 100, 101, 32, 101, 110, 100, 115, 95, 119, 105, 116, 104, 32, 102, 105, 110, 100, 32, 106, 111, 105, 110, 32, 108, 111, 119, 101, 114, 32, 114, 101, 112, 108, 97, 99, 101, 32, 115, 112, 108, 105, 116, 32, 115, 116, 97, 114, 116, 115, 95, 119, 105, 116, 104, 32, 115, 116, 114, 105, 112, 32, 117, 112, 112, 101, 114]).bind fun y1 =>
 some y1
 else
 bif (a0 == (7 : Int)) then
 some (List.take 3 ([[100, 101, 99, 111, 100, 101], [102, 105, 110, 100], [104, 101, 120]] : LLB))
 else
 bif (a0 == (8 : Int)) then
 some (List.take 2 ([[99, 111, 117, 110, 116], [105, 110, 100, 101, 120]] : LLB))
 else
 bif (a0 == (9 : Int)) then
 (c66 [97, 112, 112, 101, 110, 100, 32, 99, 108, 101, 97, 114, 32, 99, 111, 112, 121, 32, 99, 111, 117, 110, 116, 32, 101, 120, 116, 101, 110, 100, 32, 105, 110, 100, 101, 120, 32, 105, 110, 115, 101, 114, 116, 32, 112, 111, 112, 32, 114, 101, 109, 111, 118, 101, 32, 114, 101, 118, 101, 114, 115, 101, 32, 115, 111, 114, 116]).bind fun y2 =>
 some y2
 else
 bif (a0 == (10 : Int)) then
 (c66 [99, 108, 101, 97, 114, 32, 99, 111, 112, 121, 32, 103, 101, 116, 32, 105, 116, 101, 109, 115, 32, 107, 101, 121, 115, 32, 112, 111, 112, 32, 115, 101, 116, 95, 100, 101, 102, 97, 117, 108, 116, 32, 117, 112, 100, 97, 116, 101, 32, 118, 97, 108, 117, 101, 115]).bind fun y3 =>
 some y3
 else
 bif (a0 == (11 : Int)) then
 (c66 [97, 100, 100, 32, 99, 108, 101, 97, 114, 32, 99, 111, 112, 121, 32, 100, 105, 115, 99, 97, 114, 100, 32, 114, 101, 109, 111, 118, 101]).bind fun y4 =>
 some y4
 else
 bif (a0 == (18 : Int)) then
 some (List.take 2 ([[119, 105, 116, 104, 95, 100, 101, 108, 101, 116, 101, 114], [119, 105, 116, 104, 95, 115, 101, 116, 116, 101, 114]] : LLB))
 else
 bif (a0 == (23 : Int)) then
 some (List.take 3 ([[99, 108, 111, 115, 101], [115, 101, 110, 100], [116, 104, 114, 111, 119]] : LLB))
 else
 bif (a0 == (25 : Int)) then
 some (List.take 2 ([[99, 97, 110, 99, 101, 108], [100, 111, 110, 101]] : LLB))
 else
 some ([] : LLB)
def F20.f (k : Nat) (a0 : Int) : Option LLB := F20.b c66 a0
theorem F20.e : fn (F20.C c66) k Tryz.f20 F20.A F20.R a0 = F20.f c66 k a0 := by
  kernel_rfl
end
def F20.u (k : Nat) : F20.E := fun y => F20.f (F66.u k) k y
theorem F20.sound (k : Nat) : Sound Tryz.prog ⟨20, F20.A, F20.R, F20.u k⟩ := sn gr Tryz.func20 (fun y => F20.e (F66.u k) k y) (al (F66.sound k) al0)
/-! ### brindlewood/brindlewoodref7.named: f64 -/
abbrev F64.A : List Sh := [(.d Y_Heap), (.d Y_Value)]
abbrev F64.R : List Sh := [(.d .str), (.d .bool)]
abbrev F64.E : Type := (LO × X_Value) → Option (LB × Bool)
section
variable (c54 : F54.E) (c64 : F64.E)
variable (k n : Nat)
def F64.C : Ctx := cx [⟨54, F54.A, F54.R, c54⟩, ⟨64, F64.A, F64.R, c64⟩] []
variable (a0 : LO) (a1 : Int × (X_Int × (X_Int × X_errorAddressString)))
def F64.b : Option (LB × Bool) :=
 bif (a1.1 == (7 : Int)) then
 some (a1.2.2.2.1, true)
 else
 (c54 (a0, a1)).bind fun y1 =>
 bif (y1.1 == (7 : Int)) then
 some (y1.2.1, true)
 else
 bif (y1.1 == (8 : Int)) then
 if 0 ≤ (0 : Int) ∧ (0 : Int) < ((List.length y1.2.2.2.2.2.2.1) : Int) then
 (c64 (a0, (List.getD y1.2.2.2.2.2.2.1 (Int.toNat (0 : Int)) Z_Value))).bind fun y2 =>
 some (y2.1, y2.2)
 else none
 else
 some ([], false)
def F64.c : Option (LB × Bool) :=
 bif (a1.1 == (7 : Int)) then
 some (a1.2.2.2.1, true)
 else
 (c54 (a0, a1)).bind fun y1 =>
 bif (y1.1 == (7 : Int)) then
 some (y1.2.1, true)
 else
 bif (y1.1 == (8 : Int)) then
 if (0 : Int) < ((List.length y1.2.2.2.2.2.2.1) : Int) then
 (c64 (a0, (List.getD y1.2.2.2.2.2.2.1 0 Z_Value))).bind fun y2 =>
 some y2
 else none
 else
 some ([], false)
theorem F64.q : F64.b c54 c64 a0 a1 = F64.c c54 c64 a0 a1 := by
  simp only [F64.b, F64.c, qq]
def F64.f (k : Nat) (a0 : LO) (a1 : Int × (X_Int × (X_Int × X_errorAddressString))) : Option (LB × Bool) := F64.b c54 c64 a0 a1
theorem F64.e : fn (F64.C c54 c64) k Tryz.f64 F64.A F64.R (a0, a1) = F64.f c54 c64 k a0 a1 := by
  kernel_rfl
end
def F64.ur (k : Nat) (g : F64.E) : F64.E := fun y => F64.f (F54.u k) g k y.1 y.2
theorem F64.sound_r (k : Nat) (g : F64.E) (hg : Sound Tryz.prog ⟨64, F64.A, F64.R, g⟩) : Sound Tryz.prog ⟨64, F64.A, F64.R, F64.ur k g⟩ := sn gr Tryz.func64 (fun y => F64.e (F54.u k) g k y.1 y.2) (al (F54.sound k) (al hg al0))
def F64.u : Nat → F64.E
  | 0 => fun _ => none
  | k + 1 => F64.ur (k + 1) (F64.u k)
theorem F64.sound : ∀ k : Nat, Sound Tryz.prog ⟨64, F64.A, F64.R, F64.u k⟩
  | 0 => ⟨enters_of Tryz.func64 (c := Func.code Tryz.f64) (by kernel_rfl) (by kernel_rfl), fun x y h => by cases h⟩
  | k + 1 => F64.sound_r (k + 1) (F64.u k) (F64.sound k)
/-! ### brindlewood/brindlewoodref7.NamesOf: f18 -/
abbrev F18.A : List Sh := [(.d Y_Heap), (.d Y_Value)]
abbrev F18.R : List Sh := [(.d (.sl 9 .str))]
abbrev F18.E : Type := (LO × X_Value) → Option LLB
section
variable (c54 : F54.E) (c27 : F27.E) (c65 : F65.E) (c63 : F63.E) (c20 : F20.E) (c64 : F64.E)
variable (k n : Nat)
def F18.C : Ctx := cx [⟨54, F54.A, F54.R, c54⟩, ⟨27, F27.A, F27.R, c27⟩, ⟨65, F65.A, F65.R, c65⟩, ⟨63, F63.A, F63.R, c63⟩, ⟨20, F20.A, F20.R, c20⟩, ⟨64, F64.A, F64.R, c64⟩] [(1, [.bx 2 600002 (.d Y_Heap), .o 5 500005 9 .str, .d 54 (.sl 3 (.int .i64)), .d 55 (.int .i64), .d 56 (.int .i64)])]
noncomputable def F18.M_l1 (s : St) : Option LLB := lpAt (F18.C c54 c27 c65 c63 c20 c64) k n [1, 1, 1, 1, 0, 1, 0] [] Tryz.f18 F18.A F18.R s
noncomputable def F18.fr_l1 (x2 : LO) (x5 : LLB) (x54 : LI) (x55 : Int) (x56 : Int) : St := ⟨((((((List.replicate 71 V.un).set 2 (V.bp 600002 0 [])).set 5 (V.ref 500005 0 0 (List.length x5))).set 54 (V.dat (.sl 3 (.int .i64)) x54)).set 55 (V.dat (.int .i64) x55)).set 56 (V.dat (.int .i64) x56)), [⟨500005, 0, .arr 9 .str x5⟩, ⟨600002, 0, .box (V.dat Y_Heap x2)⟩]⟩
section
variable (n_l1 : LO → LLB → LI → Int → Int → Option LLB) (x2 : LO) (x5 : LLB) (x54 : LI) (x55 x56 : Int)
def F18.b_l1 (c54 : F54.E) (c27 : F27.E) (c65 : F65.E) (c63 : F63.E) (c20 : F20.E) (c64 : F64.E) (n_l1 : LO → LLB → LI → Int → Int → Option LLB) (x2 : LO) (x5 : LLB) (x54 : LI) (x55 : Int) (x56 : Int) : Option LLB :=
 bif (decide (x56 < x55)) then
 if 0 ≤ x56 ∧ x56 < ((List.length x54) : Int) then
 if 0 ≤ (List.getD x54 (Int.toNat x56) (0 : Int)) ∧ (List.getD x54 (Int.toNat x56) (0 : Int)) < ((List.length x2) : Int) then
 if (List.length x5) ≤ (List.length x5) ∧ ((List.length x5) + (List.length (((((((List.getD x2 (Int.toNat (List.getD x54 (Int.toNat x56) (0 : Int))) Z_Object).2).2).2).2).2).1))) * 16 ≤ LIM then
 n_l1 x2 (List.take (List.length (List.append (List.take (List.length x5) x5) (((((((List.getD x2 (Int.toNat (List.getD x54 (Int.toNat x56) (0 : Int))) Z_Object).2).2).2).2).2).1))) (List.append (List.take (List.length x5) x5) (((((((List.getD x2 (Int.toNat (List.getD x54 (Int.toNat x56) (0 : Int))) Z_Object).2).2).2).2).2).1))) x54 x55 (IntKind.i64.wrap (x56 + (1 : Int)))
 else none
 else none
 else none
 else
 (c65 (List.take (List.length x5) x5)).bind fun y3 =>
 some y3
def F18.c_l1 (c54 : F54.E) (c27 : F27.E) (c65 : F65.E) (c63 : F63.E) (c20 : F20.E) (c64 : F64.E) (n_l1 : LO → LLB → LI → Int → Int → Option LLB) (x2 : LO) (x5 : LLB) (x54 : LI) (x55 : Int) (x56 : Int) : Option LLB :=
 bif (decide (x56 < x55)) then
 if 0 ≤ x56 ∧ x56 < ((List.length x54) : Int) then
 if 0 ≤ (List.getD x54 (Int.toNat x56) (0 : Int)) ∧ (List.getD x54 (Int.toNat x56) (0 : Int)) < ((List.length x2) : Int) then
 if ((List.length x5) + (List.length (((((((List.getD x2 (Int.toNat (List.getD x54 (Int.toNat x56) (0 : Int))) Z_Object).2).2).2).2).2).1))) * 16 ≤ LIM then
 n_l1 x2 (x5 ++ (((((((List.getD x2 (Int.toNat (List.getD x54 (Int.toNat x56) (0 : Int))) Z_Object).2).2).2).2).2).1)) x54 x55 (IntKind.i64.wrap (x56 + (1 : Int)))
 else none
 else none
 else none
 else
 (c65 x5).bind fun y3 =>
 some y3
theorem F18.q_l1 : F18.b_l1 c54 c27 c65 c63 c20 c64 n_l1 x2 x5 x54 x55 x56 = F18.c_l1 c54 c27 c65 c63 c20 c64 n_l1 x2 x5 x54 x55 x56 := by
  simp only [F18.b_l1, F18.c_l1, qq]
def F18.l1 (k : Nat) : Nat → LO → LLB → LI → Int → Int → Option LLB
  | 0, _, _, _, _, _ => none
  | n + 1, x2, x5, x54, x55, x56 => F18.b_l1 c54 c27 c65 c63 c20 c64 (fun x2 x5 x54 x55 x56 => F18.l1 k n x2 x5 x54 x55 x56) x2 x5 x54 x55 x56
theorem F18.e_l1 : F18.M_l1 c54 c27 c65 c63 c20 c64 k n (F18.fr_l1 x2 x5 x54 x55 x56) = F18.l1 c54 c27 c65 c63 c20 c64 k n x2 x5 x54 x55 x56 := by
  induction n generalizing x2 x5 x54 x55 x56 with
  | zero => exact lpAt0
  | succ n ih =>
    refine Eq.trans (b := F18.b_l1 c54 c27 c65 c63 c20 c64 (fun x2 x5 x54 x55 x56 => F18.M_l1 c54 c27 c65 c63 c20 c64 k n (F18.fr_l1 x2 x5 x54 x55 x56)) x2 x5 x54 x55 x56) (by kernel_rfl) ?_
    simp only [ih]
    rfl
end
variable (r_l1 : LO → LLB → LI → Int → Int → Option LLB) (a0 : LO) (a1 : Int × (X_Int × (X_Int × X_errorAddressString)))
def F18.b (c65 : F65.E) (c63 : F63.E) (c20 : F20.E) (c64 : F64.E) (r_l1 : LO → LLB → LI → Int → Int → Option LLB) (a0 : LO) (a1 : Int × (X_Int × (X_Int × X_errorAddressString))) : Option LLB :=
 (c54 (a0, a1)).bind fun y1 =>
 bif (y1.1 == (10 : Int)) then
 (c27 y1.2.2.2.2.2.1).bind fun y2 =>
 if 0 ≤ y1.2.2.1 ∧ y1.2.2.1 < ((List.length a0) : Int) then
 r_l1 a0 (List.take (List.length y2) y2) ((((((List.getD a0 (Int.toNat y1.2.2.1) Z_Object).2).2).2).2).1) ((List.length ((((((List.getD a0 (Int.toNat y1.2.2.1) Z_Object).2).2).2).2).1)) : Int) (0 : Int)
 else none
 else
 bif (y1.1 == (9 : Int)) then
 r_l1 a0 (List.take 2 ([[110, 97, 109, 101], [111, 114, 100, 101, 114]] : LLB)) y1.2.2.2.2.1 ((List.length y1.2.2.2.2.1) : Int) (0 : Int)
 else
 bif (y1.1 == (11 : Int)) then
 (c27 y1.2.2.2.2.2.1).bind fun y4 =>
 r_l1 a0 (List.take (List.length y4) y4) ([] : LI) (0 : Int) (0 : Int)
 else
 (c63 (a0, a1)).bind fun y5 =>
 (c20 y5).bind fun y6 =>
 (c27 y6).bind fun y7 =>
 (c64 (a0, a1)).bind fun y8 =>
 bif y8.2 then
 if (List.length y7) ≤ (List.length y7) ∧ ((List.length y7) + (List.length (List.take 1 ([[110, 97, 109, 101]] : LLB)))) * 16 ≤ LIM then
 r_l1 a0 (List.take (List.length (List.append (List.take (List.length y7) y7) (List.take 1 ([[110, 97, 109, 101]] : LLB)))) (List.append (List.take (List.length y7) y7) (List.take 1 ([[110, 97, 109, 101]] : LLB)))) ([] : LI) (0 : Int) (0 : Int)
 else none
 else
 r_l1 a0 (List.take (List.length y7) y7) ([] : LI) (0 : Int) (0 : Int)
def F18.c (c65 : F65.E) (c63 : F63.E) (c20 : F20.E) (c64 : F64.E) (r_l1 : LO → LLB → LI → Int → Int → Option LLB) (a0 : LO) (a1 : Int × (X_Int × (X_Int × X_errorAddressString))) : Option LLB :=
 (c54 (a0, a1)).bind fun y1 =>
 bif (y1.1 == (10 : Int)) then
 (c27 y1.2.2.2.2.2.1).bind fun y2 =>
 if 0 ≤ y1.2.2.1 ∧ y1.2.2.1 < ((List.length a0) : Int) then
 r_l1 a0 y2 ((((((List.getD a0 (Int.toNat y1.2.2.1) Z_Object).2).2).2).2).1) ((List.length ((((((List.getD a0 (Int.toNat y1.2.2.1) Z_Object).2).2).2).2).1)) : Int) (0 : Int)
 else none
 else
 bif (y1.1 == (9 : Int)) then
 r_l1 a0 (List.take 2 ([[110, 97, 109, 101], [111, 114, 100, 101, 114]] : LLB)) y1.2.2.2.2.1 ((List.length y1.2.2.2.2.1) : Int) (0 : Int)
 else
 bif (y1.1 == (11 : Int)) then
 (c27 y1.2.2.2.2.2.1).bind fun y4 =>
 r_l1 a0 y4 ([] : LI) (0 : Int) (0 : Int)
 else
 (c63 (a0, a1)).bind fun y5 =>
 (c20 y5).bind fun y6 =>
 (c27 y6).bind fun y7 =>
 (c64 (a0, a1)).bind fun y8 =>
 bif y8.2 then
 if ((List.length y7) + (List.length ([[110, 97, 109, 101]] : LLB))) * 16 ≤ LIM then
 r_l1 a0 (y7 ++ ([[110, 97, 109, 101]] : LLB)) ([] : LI) (0 : Int) (0 : Int)
 else none
 else
 r_l1 a0 y7 ([] : LI) (0 : Int) (0 : Int)
theorem F18.q : F18.b c54 c27 c65 c63 c20 c64 r_l1 a0 a1 = F18.c c54 c27 c65 c63 c20 c64 r_l1 a0 a1 := by
  simp only [F18.b, F18.c, qq]
def F18.f : Option LLB := F18.b c54 c27 c65 c63 c20 c64 (F18.l1 c54 c27 c65 c63 c20 c64 k k) a0 a1
theorem F18.e : fn (F18.C c54 c27 c65 c63 c20 c64) k Tryz.f18 F18.A F18.R (a0, a1) = F18.f c54 c27 c65 c63 c20 c64 k a0 a1 := by
  refine Eq.trans (b := F18.b c54 c27 c65 c63 c20 c64 (fun x2 x5 x54 x55 x56 => F18.M_l1 c54 c27 c65 c63 c20 c64 k k (F18.fr_l1 x2 x5 x54 x55 x56)) a0 a1) (by kernel_rfl) ?_
  simp only [F18.e_l1]
  rfl
end
def F18.u (k : Nat) : F18.E := fun y => F18.f (F54.u k) (F27.u k) (F65.u k) (F63.u k) (F20.u k) (F64.u k) k y.1 y.2
theorem F18.sound (k : Nat) : Sound Tryz.prog ⟨18, F18.A, F18.R, F18.u k⟩ := sn gr Tryz.func18 (fun y => F18.e (F54.u k) (F27.u k) (F65.u k) (F63.u k) (F20.u k) (F64.u k) k y.1 y.2) (al (F54.sound k) (al (F27.sound k) (al (F65.sound k) (al (F63.sound k) (al (F20.sound k) (al (F64.sound k) al0))))))
/-! ### brindlewood/brindlewoodlaw7.AttributeSpecialMatchesSpec: f4 -/
abbrev F4.A : List Sh := [(.d Y_Heap), (.d Y_Value), (.d (.int .i64)), (.d .str)]
abbrev F4.R : List Sh := [(.d .bool)]
abbrev F4.E : Type := (LO × (X_Value × (Int × LB))) → Option Bool
section
variable (c5 : F5.E) (c11 : F11.E) (c12 : F12.E) (c13 : F13.E) (c14 : F14.E) (c15 : F15.E) (c17 : F17.E) (c18 : F18.E) (c16 : F16.E) (c19 : F19.E) (c20 : F20.E) (c21 : F21.E) (c22 : F22.E) (c23 : F23.E)
variable (k n : Nat)
def F4.C : Ctx := cx [⟨5, F5.A, F5.R, c5⟩, ⟨11, F11.A, F11.R, c11⟩, ⟨12, F12.A, F12.R, c12⟩, ⟨13, F13.A, F13.R, c13⟩, ⟨14, F14.A, F14.R, c14⟩, ⟨15, F15.A, F15.R, c15⟩, ⟨17, F17.A, F17.R, c17⟩, ⟨18, F18.A, F18.R, c18⟩, ⟨16, F16.A, F16.R, c16⟩, ⟨19, F19.A, F19.R, c19⟩, ⟨20, F20.A, F20.R, c20⟩, ⟨21, F21.A, F21.R, c21⟩, ⟨22, F22.A, F22.R, c22⟩, ⟨23, F23.A, F23.R, c23⟩] [(100009, [.d 2 (.int .i64), .d 3 .str, .bx 4 600004 (.d Y_Heap)])]
noncomputable def F4.M_g9 (s : St) : Option Bool := gtAt (F4.C c5 c11 c12 c13 c14 c15 c17 c18 c16 c19 c20 c21 c22 c23) k [1, 1, 1, 1, 1, 1, 0, 0] [] Tryz.f4 F4.A F4.R s
noncomputable def F4.fr_g9 (x2 : Int) (x3 : LB) (x4 : LO) : St := ⟨((((List.replicate 131 V.un).set 2 (V.dat (.int .i64) x2)).set 3 (V.dat .str x3)).set 4 (V.bp 600004 0 [])), [⟨600004, 0, .box (V.dat Y_Heap x4)⟩]⟩
section
variable (x2 : Int) (x3 : LB) (x4 : LO)
def F4.b_g9 (c5 : F5.E) (c11 : F11.E) (c12 : F12.E) (c13 : F13.E) (c14 : F14.E) (c15 : F15.E) (c17 : F17.E) (c18 : F18.E) (c16 : F16.E) (c19 : F19.E) (c20 : F20.E) (c21 : F21.E) (c22 : F22.E) (c23 : F23.E) (x2 : Int) (x3 : LB) (x4 : LO) : Option Bool :=
 (c21 (x4, x2)).bind fun y13 =>
 bif (!y13) then
 some true
 else
 if 0 ≤ x2 ∧ x2 < ((List.length x4) : Int) then
 bif (((List.getD x4 (Int.toNat x2) Z_Object).1) != (9 : Int)) then
 some true
 else
 (c22 (x4, (x2, x3))).bind fun y14 =>
 if 0 ≤ x2 ∧ x2 < ((List.length x4) : Int) then
 (c23 (x4, ((((((List.getD x4 (Int.toNat x2) Z_Object).2).2).2).2).1, x3))).bind fun y15 =>
 bif (y14.2.2 == y15.2.2) then
 bif (y14.2.1 == y15.2.1) then
 (c14 (y14.1, y15.1)).bind fun y16 =>
 some y16
 else
 some false
 else
 some false
 else none
 else none
def F4.g9 : Option Bool := gate k (F4.b_g9 c5 c11 c12 c13 c14 c15 c17 c18 c16 c19 c20 c21 c22 c23 x2 x3 x4)
theorem F4.e_g9 : F4.M_g9 c5 c11 c12 c13 c14 c15 c17 c18 c16 c19 c20 c21 c22 c23 k (F4.fr_g9 x2 x3 x4) = F4.g9 c5 c11 c12 c13 c14 c15 c17 c18 c16 c19 c20 c21 c22 c23 k x2 x3 x4 := by
  kernel_rfl
end
variable (r_g9 : Int → LB → LO → Option Bool) (a0 : LO) (a1 : Int × (X_Int × (X_Int × X_errorAddressString))) (a2 : Int) (a3 : LB)
def F4.b (c21 : F21.E) (c22 : F22.E) (c23 : F23.E) (r_g9 : Int → LB → LO → Option Bool) (a0 : LO) (a1 : Int × (X_Int × (X_Int × X_errorAddressString))) (a2 : Int) (a3 : LB) : Option Bool :=
 (c5 (a0, (List.take 1 ([a1] : LV)))).bind fun y1 =>
 bif (!y1) then
 some true
 else
 (c11 a3).bind fun y2 =>
 bif (!y2) then
 some true
 else
 (c12 (a0, (a1, a3))).bind fun y3 =>
 (c13 (a0, (a1, a3))).bind fun y4 =>
 bif (y3.2.2 != y4.2.2) then
 some false
 else
 (c14 (y3.1, y4.1)).bind fun y5 =>
 bif (!y5) then
 some false
 else
 (c15 (y3.2.1, y4.2.1)).bind fun y6 =>
 bif (!y6) then
 some false
 else
 (c17 (a0, a1)).bind fun y7 =>
 (c18 (a0, a1)).bind fun y8 =>
 (c16 (y7, y8)).bind fun y9 =>
 bif (!y9) then
 some false
 else
 bif (decide (a2 ≥ (0 : Int))) then
 bif (decide (a2 < (49 : Int))) then
 (c19 a2).bind fun y10 =>
 (c20 a2).bind fun y11 =>
 (c16 (y10, y11)).bind fun y12 =>
 bif (!y12) then
 some false
 else
 r_g9 a2 a3 a0
 else
 r_g9 a2 a3 a0
 else
 r_g9 a2 a3 a0
def F4.c (c21 : F21.E) (c22 : F22.E) (c23 : F23.E) (r_g9 : Int → LB → LO → Option Bool) (a0 : LO) (a1 : Int × (X_Int × (X_Int × X_errorAddressString))) (a2 : Int) (a3 : LB) : Option Bool :=
 (c5 (a0, ([a1] : LV))).bind fun y1 =>
 bif !y1 then
 some true
 else
 (c11 a3).bind fun y2 =>
 bif !y2 then
 some true
 else
 (c12 (a0, (a1, a3))).bind fun y3 =>
 (c13 (a0, (a1, a3))).bind fun y4 =>
 bif (y3.2.2 != y4.2.2) then
 some false
 else
 (c14 (y3.1, y4.1)).bind fun y5 =>
 bif !y5 then
 some false
 else
 (c15 (y3.2.1, y4.2.1)).bind fun y6 =>
 bif !y6 then
 some false
 else
 (c17 (a0, a1)).bind fun y7 =>
 (c18 (a0, a1)).bind fun y8 =>
 (c16 (y7, y8)).bind fun y9 =>
 bif !y9 then
 some false
 else
 bif (decide (a2 ≥ (0 : Int))) then
 bif (decide (a2 < (49 : Int))) then
 (c19 a2).bind fun y10 =>
 (c20 a2).bind fun y11 =>
 (c16 (y10, y11)).bind fun y12 =>
 bif !y12 then
 some false
 else
 r_g9 a2 a3 a0
 else
 r_g9 a2 a3 a0
 else
 r_g9 a2 a3 a0
theorem F4.q : F4.b c5 c11 c12 c13 c14 c15 c17 c18 c16 c19 c20 c21 c22 c23 r_g9 a0 a1 a2 a3 = F4.c c5 c11 c12 c13 c14 c15 c17 c18 c16 c19 c20 c21 c22 c23 r_g9 a0 a1 a2 a3 := by
  simp only [F4.b, F4.c, qq]
def F4.f : Option Bool := F4.b c5 c11 c12 c13 c14 c15 c17 c18 c16 c19 c20 c21 c22 c23 (F4.g9 c5 c11 c12 c13 c14 c15 c17 c18 c16 c19 c20 c21 c22 c23 k) a0 a1 a2 a3
theorem F4.e : fn (F4.C c5 c11 c12 c13 c14 c15 c17 c18 c16 c19 c20 c21 c22 c23) k Tryz.f4 F4.A F4.R (a0, (a1, (a2, a3))) = F4.f c5 c11 c12 c13 c14 c15 c17 c18 c16 c19 c20 c21 c22 c23 k a0 a1 a2 a3 := by
  refine Eq.trans (b := F4.b c5 c11 c12 c13 c14 c15 c17 c18 c16 c19 c20 c21 c22 c23 (fun x2 x3 x4 => F4.M_g9 c5 c11 c12 c13 c14 c15 c17 c18 c16 c19 c20 c21 c22 c23 k (F4.fr_g9 x2 x3 x4)) a0 a1 a2 a3) (by kernel_rfl) ?_
  simp only [F4.e_g9]
  rfl
end
def F4.u (k : Nat) : F4.E := fun y => F4.f (F5.u k) (F11.u k) (F12.u k) (F13.u k) (F14.u k) (F15.u k) (F17.u k) (F18.u k) (F16.u k) (F19.u k) (F20.u k) (F21.u k) (F22.u k) (F23.u k) k y.1 y.2.1 y.2.2.1 y.2.2.2
theorem F4.sound (k : Nat) : Sound Tryz.prog ⟨4, F4.A, F4.R, F4.u k⟩ := sn gr Tryz.func4 (fun y => F4.e (F5.u k) (F11.u k) (F12.u k) (F13.u k) (F14.u k) (F15.u k) (F17.u k) (F18.u k) (F16.u k) (F19.u k) (F20.u k) (F21.u k) (F22.u k) (F23.u k) k y.1 y.2.1 y.2.2.1 y.2.2.2) (al (F5.sound k) (al (F11.sound k) (al (F12.sound k) (al (F13.sound k) (al (F14.sound k) (al (F15.sound k) (al (F17.sound k) (al (F18.sound k) (al (F16.sound k) (al (F19.sound k) (al (F20.sound k) (al (F21.sound k) (al (F22.sound k) (al (F23.sound k) al0))))))))))))))
end
end Go.Ab
