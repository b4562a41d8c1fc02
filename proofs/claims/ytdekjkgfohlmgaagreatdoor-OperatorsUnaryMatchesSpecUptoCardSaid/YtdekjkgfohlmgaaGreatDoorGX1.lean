/- A part of the proof: GX1. -/
import Derived.Test.YtdekjkgfohlmgaaGreatDoorFLs
import Derived.Test.YtdekjkgfohlmgaaGreatDoorGT1
import Derived.Test.YtdekjkgfohlmgaaGreatDoorHLib
namespace Go.Ab
set_option linter.unusedVariables false
set_option linter.unusedSimpArgs false
set_option maxRecDepth 100000
noncomputable section
open Go.Proofs
/-! ### slices.Clone[[]int,int]: f26 -/
abbrev F26.A : List Sh := [(.d (.sl 3 (.int .i64)))]
abbrev F26.R : List Sh := [(.d (.sl 3 (.int .i64)))]
abbrev F26.E : Type := LI → Option LI
section
variable (k n : Nat)
def F26.C : Ctx := cx [] []
variable (a0 : LI)
def F26.b : Option LI :=
 if 0 < (List.length a0) then
 if 0 ≤ (List.length ([] : LI)) ∧ (0 + (List.length a0)) * 8 ≤ LIM then
 some (List.take (List.length (List.append (List.take 0 ([] : LI)) a0)) (List.append (List.take 0 ([] : LI)) a0))
 else none
 else
 agree
 (some ([] : LI))
 (if 0 ≤ (List.length ([] : LI)) ∧ (0 + (List.length a0)) * 8 ≤ LIM then
 some (List.take (List.length (List.append (List.take 0 ([] : LI)) a0)) (List.append (List.take 0 ([] : LI)) a0))
 else none)
def F26.c : Option LI :=
 if 0 < (List.length a0) then
 if 0 ≤ (List.length ([] : LI)) ∧ ((List.length a0)) * 8 ≤ LIM then
 some ((List.take 0 ([] : LI)) ++ a0)
 else none
 else
 agree
 (some ([] : LI))
 (if 0 ≤ (List.length ([] : LI)) ∧ ((List.length a0)) * 8 ≤ LIM then
 some ((List.take 0 ([] : LI)) ++ a0)
 else none)
theorem F26.q : F26.b a0 = F26.c a0 := by
  simp only [F26.b, F26.c, qq]
def F26.f (k : Nat) (a0 : LI) : Option LI := F26.b a0
theorem F26.e : fn F26.C k Tryz.f26 F26.A F26.R a0 = F26.f k a0 := by
  kernel_rfl
end
def F26.u (k : Nat) : F26.E := fun y => F26.f k y
theorem F26.sound (k : Nat) : Sound Tryz.prog ⟨26, F26.A, F26.R, F26.u k⟩ := sn gr Tryz.func26 (fun y => F26.e k y) al0
/-! ### slices.Clone[[]string,string]: f27 -/
abbrev F27.A : List Sh := [(.d (.sl 9 .str))]
abbrev F27.R : List Sh := [(.d (.sl 9 .str))]
abbrev F27.E : Type := LLB → Option LLB
section
variable (k n : Nat)
def F27.C : Ctx := cx [] []
variable (a0 : LLB)
def F27.b : Option LLB :=
 if 0 < (List.length a0) then
 if 0 ≤ (List.length ([] : LLB)) ∧ (0 + (List.length a0)) * 16 ≤ LIM then
 some (List.take (List.length (List.append (List.take 0 ([] : LLB)) a0)) (List.append (List.take 0 ([] : LLB)) a0))
 else none
 else
 agree
 (some ([] : LLB))
 (if 0 ≤ (List.length ([] : LLB)) ∧ (0 + (List.length a0)) * 16 ≤ LIM then
 some (List.take (List.length (List.append (List.take 0 ([] : LLB)) a0)) (List.append (List.take 0 ([] : LLB)) a0))
 else none)
def F27.c : Option LLB :=
 if 0 < (List.length a0) then
 if 0 ≤ (List.length ([] : LLB)) ∧ ((List.length a0)) * 16 ≤ LIM then
 some ((List.take 0 ([] : LLB)) ++ a0)
 else none
 else
 agree
 (some ([] : LLB))
 (if 0 ≤ (List.length ([] : LLB)) ∧ ((List.length a0)) * 16 ≤ LIM then
 some ((List.take 0 ([] : LLB)) ++ a0)
 else none)
theorem F27.q : F27.b a0 = F27.c a0 := by
  simp only [F27.b, F27.c, qq]
def F27.f (k : Nat) (a0 : LLB) : Option LLB := F27.b a0
theorem F27.e : fn F27.C k Tryz.f27 F27.A F27.R a0 = F27.f k a0 := by
  kernel_rfl
end
def F27.u (k : Nat) : F27.E := fun y => F27.f k y
theorem F27.sound (k : Nat) : Sound Tryz.prog ⟨27, F27.A, F27.R, F27.u k⟩ := sn gr Tryz.func27 (fun y => F27.e k y) al0
/-! ### slices.Clone[[]uint32,uint32]: f80 -/
abbrev F80.A : List Sh := [(.d (.sl 109 (.int .u32)))]
abbrev F80.R : List Sh := [(.d (.sl 109 (.int .u32)))]
abbrev F80.E : Type := LI → Option LI
section
variable (k n : Nat)
def F80.C : Ctx := cx [] []
variable (a0 : LI)
def F80.b : Option LI :=
 if 0 < (List.length a0) then
 if 0 ≤ (List.length ([] : LI)) ∧ (0 + (List.length a0)) * 4 ≤ LIM then
 some (List.take (List.length (List.append (List.take 0 ([] : LI)) a0)) (List.append (List.take 0 ([] : LI)) a0))
 else none
 else
 agree
 (some ([] : LI))
 (if 0 ≤ (List.length ([] : LI)) ∧ (0 + (List.length a0)) * 4 ≤ LIM then
 some (List.take (List.length (List.append (List.take 0 ([] : LI)) a0)) (List.append (List.take 0 ([] : LI)) a0))
 else none)
def F80.c : Option LI :=
 if 0 < (List.length a0) then
 if 0 ≤ (List.length ([] : LI)) ∧ ((List.length a0)) * 4 ≤ LIM then
 some ((List.take 0 ([] : LI)) ++ a0)
 else none
 else
 agree
 (some ([] : LI))
 (if 0 ≤ (List.length ([] : LI)) ∧ ((List.length a0)) * 4 ≤ LIM then
 some ((List.take 0 ([] : LI)) ++ a0)
 else none)
theorem F80.q : F80.b a0 = F80.c a0 := by
  simp only [F80.b, F80.c, qq]
def F80.f (k : Nat) (a0 : LI) : Option LI := F80.b a0
theorem F80.e : fn F80.C k Tryz.f80 F80.A F80.R a0 = F80.f k a0 := by
  kernel_rfl
end
def F80.u (k : Nat) : F80.E := fun y => F80.f k y
theorem F80.sound (k : Nat) : Sound Tryz.prog ⟨80, F80.A, F80.R, F80.u k⟩ := sn gr Tryz.func80 (fun y => F80.e k y) al0
/-! ### brindlewood/brindlewoodref7.copied: f28 -/
abbrev F28.A : List Sh := [(.d (.sl 29 Y_Value))]
abbrev F28.R : List Sh := [(.d (.sl 29 Y_Value))]
abbrev F28.E : Type := LV → Option LV
section
variable (c80 : F80.E)
variable (k n : Nat)
def F28.C : Ctx := cx [⟨80, F80.A, F80.R, c80⟩] [(0, [.o 3 500003 29 Y_Value, .d 6 (.sl 29 Y_Value), .d 7 (.int .i64), .d 8 (.int .i64)])]
noncomputable def F28.M_l0 (s : St) : Option LV := lpAt (F28.C c80) k n [1, 1, 0, 1, 0] [] Tryz.f28 F28.A F28.R s
noncomputable def F28.fr_l0 (x3 : LV) (x6 : LV) (x7 : Int) (x8 : Int) : St := ⟨(((((List.replicate 30 V.un).set 3 (V.ref 500003 0 0 (List.length x3))).set 6 (V.dat (.sl 29 Y_Value) x6)).set 7 (V.dat (.int .i64) x7)).set 8 (V.dat (.int .i64) x8)), [⟨500003, 0, .arr 29 Y_Value x3⟩]⟩
section
variable (n_l0 : LV → LV → Int → Int → Option LV) (x3 x6 : LV) (x7 x8 : Int)
def F28.b_l0 : Option LV :=
 bif (decide (x8 < x7)) then
 if 0 ≤ x8 ∧ x8 < ((List.length x6) : Int) then
 (c80 ((((List.getD x6 (Int.toNat x8) Z_Value).2).1).2)).bind fun y1 =>
 (c80 (((((List.getD x6 (Int.toNat x8) Z_Value).2).2).1).2)).bind fun y2 =>
 if (List.length x3) ≤ (List.length x3) ∧ ((List.length x3) + (List.length (List.take 1 ([((List.getD x6 (Int.toNat x8) Z_Value).1, (((((List.getD x6 (Int.toNat x8) Z_Value).2).1).1, y1), ((((((List.getD x6 (Int.toNat x8) Z_Value).2).2).1).1, y2), (((List.getD x6 (Int.toNat x8) Z_Value).2).2).2)))] : LV)))) * 96 ≤ LIM then
 n_l0 (List.take (List.length (List.append (List.take (List.length x3) x3) (List.take 1 ([((List.getD x6 (Int.toNat x8) Z_Value).1, (((((List.getD x6 (Int.toNat x8) Z_Value).2).1).1, y1), ((((((List.getD x6 (Int.toNat x8) Z_Value).2).2).1).1, y2), (((List.getD x6 (Int.toNat x8) Z_Value).2).2).2)))] : LV)))) (List.append (List.take (List.length x3) x3) (List.take 1 ([((List.getD x6 (Int.toNat x8) Z_Value).1, (((((List.getD x6 (Int.toNat x8) Z_Value).2).1).1, y1), ((((((List.getD x6 (Int.toNat x8) Z_Value).2).2).1).1, y2), (((List.getD x6 (Int.toNat x8) Z_Value).2).2).2)))] : LV)))) x6 x7 (IntKind.i64.wrap (x8 + (1 : Int)))
 else none
 else none
 else
 some (List.take (List.length x3) x3)
def F28.c_l0 : Option LV :=
 bif (decide (x8 < x7)) then
 if 0 ≤ x8 ∧ x8 < ((List.length x6) : Int) then
 (c80 ((((List.getD x6 (Int.toNat x8) Z_Value).2).1).2)).bind fun y1 =>
 (c80 (((((List.getD x6 (Int.toNat x8) Z_Value).2).2).1).2)).bind fun y2 =>
 if ((List.length x3) + (List.length ([((List.getD x6 (Int.toNat x8) Z_Value).1, (((((List.getD x6 (Int.toNat x8) Z_Value).2).1).1, y1), ((((((List.getD x6 (Int.toNat x8) Z_Value).2).2).1).1, y2), (((List.getD x6 (Int.toNat x8) Z_Value).2).2).2)))] : LV))) * 96 ≤ LIM then
 n_l0 (x3 ++ ([((List.getD x6 (Int.toNat x8) Z_Value).1, (((((List.getD x6 (Int.toNat x8) Z_Value).2).1).1, y1), ((((((List.getD x6 (Int.toNat x8) Z_Value).2).2).1).1, y2), (((List.getD x6 (Int.toNat x8) Z_Value).2).2).2)))] : LV)) x6 x7 (IntKind.i64.wrap (x8 + (1 : Int)))
 else none
 else none
 else
 some x3
theorem F28.q_l0 : F28.b_l0 c80 n_l0 x3 x6 x7 x8 = F28.c_l0 c80 n_l0 x3 x6 x7 x8 := by
  simp only [F28.b_l0, F28.c_l0, qq]
def F28.l0 (k : Nat) : Nat → LV → LV → Int → Int → Option LV
  | 0, _, _, _, _ => none
  | n + 1, x3, x6, x7, x8 => F28.b_l0 c80 (fun x3 x6 x7 x8 => F28.l0 k n x3 x6 x7 x8) x3 x6 x7 x8
theorem F28.e_l0 : F28.M_l0 c80 k n (F28.fr_l0 x3 x6 x7 x8) = F28.l0 c80 k n x3 x6 x7 x8 := by
  induction n generalizing x3 x6 x7 x8 with
  | zero => exact lpAt0
  | succ n ih =>
    refine Eq.trans (b := F28.b_l0 c80 (fun x3 x6 x7 x8 => F28.M_l0 c80 k n (F28.fr_l0 x3 x6 x7 x8)) x3 x6 x7 x8) (by kernel_rfl) ?_
    simp only [ih]
    rfl
end
variable (r_l0 : LV → LV → Int → Int → Option LV) (a0 : LV)
def F28.b (c80 : F80.E) (r_l0 : LV → LV → Int → Int → Option LV) (a0 : LV) : Option LV :=
 r_l0 ([] : LV) a0 ((List.length a0) : Int) (0 : Int)
def F28.f : Option LV := F28.b c80 (F28.l0 c80 k k) a0
theorem F28.e : fn (F28.C c80) k Tryz.f28 F28.A F28.R a0 = F28.f c80 k a0 := by
  refine Eq.trans (b := F28.b c80 (fun x3 x6 x7 x8 => F28.M_l0 c80 k k (F28.fr_l0 x3 x6 x7 x8)) a0) (by kernel_rfl) ?_
  simp only [F28.e_l0]
  rfl
end
def F28.u (k : Nat) : F28.E := fun y => F28.f (F80.u k) k y
theorem F28.sound (k : Nat) : Sound Tryz.prog ⟨28, F28.A, F28.R, F28.u k⟩ := sn gr Tryz.func28 (fun y => F28.e (F80.u k) k y) (al (F80.sound k) al0)
/-! ### brindlewood/brindlewoodref7.Copy: f6 -/
abbrev F6.A : List Sh := [(.d Y_Heap)]
abbrev F6.R : List Sh := [(.d Y_Heap)]
abbrev F6.E : Type := LO → Option LO
section
variable (c26 : F26.E) (c27 : F27.E) (c28 : F28.E)
variable (k n : Nat)
def F6.C : Ctx := cx [⟨26, F26.A, F26.R, c26⟩, ⟨27, F27.A, F27.R, c27⟩, ⟨28, F28.A, F28.R, c28⟩] [(0, [.bx 2 600002 (.one (.o 56 Y_Object)), .bx 3 600003 (.one (.o 56 Y_Object)), .d 7 (.sl 56 Y_Object), .d 8 (.int .i64), .d 9 (.int .i64)])]
noncomputable def F6.M_l0 (s : St) : Option LO := lpAt (F6.C c26 c27 c28) k n [1, 1, 0, 1, 0] [] Tryz.f6 F6.A F6.R s
noncomputable def F6.fr_l0 (x2 : LO) (x3 : LO) (x7 : LO) (x8 : Int) (x9 : Int) : St := ⟨((((((List.replicate 41 V.un).set 2 (V.bp 600002 0 [])).set 3 (V.bp 600003 0 [])).set 7 (V.dat (.sl 56 Y_Object) x7)).set 8 (V.dat (.int .i64) x8)).set 9 (V.dat (.int .i64) x9)), [⟨600003, 0, .box (V.st1 (V.ref 11600048 0 0 (List.length x3)))⟩, ⟨11600048, 0, .arr 56 Y_Object x3⟩, ⟨600002, 0, .box (V.st1 (V.ref 11600032 0 0 (List.length x2)))⟩, ⟨11600032, 0, .arr 56 Y_Object x2⟩]⟩
section
variable (n_l0 : LO → LO → LO → Int → Int → Option LO) (x2 x3 x7 : LO) (x8 x9 : Int)
def F6.b_l0 : Option LO :=
 bif (decide (x9 < x8)) then
 if 0 ≤ x9 ∧ x9 < ((List.length x7) : Int) then
 (c26 (((((List.getD x7 (Int.toNat x9) Z_Object).2).2).2).1)).bind fun y1 =>
 (c26 ((((((List.getD x7 (Int.toNat x9) Z_Object).2).2).2).2).1)).bind fun y2 =>
 (c27 (((((((List.getD x7 (Int.toNat x9) Z_Object).2).2).2).2).2).1)).bind fun y3 =>
 (c28 ((((((((List.getD x7 (Int.toNat x9) Z_Object).2).2).2).2).2).2).1)).bind fun y4 =>
 (c28 (((((((((List.getD x7 (Int.toNat x9) Z_Object).2).2).2).2).2).2).2).1)).bind fun y5 =>
 if (List.length x3) ≤ (List.length x3) ∧ ((List.length x3) + (List.length (List.take 1 ([((List.getD x7 (Int.toNat x9) Z_Object).1, (((List.getD x7 (Int.toNat x9) Z_Object).2).1, ((((List.getD x7 (Int.toNat x9) Z_Object).2).2).1, (y1, (y2, (y3, (y4, (y5, ((((((((List.getD x7 (Int.toNat x9) Z_Object).2).2).2).2).2).2).2).2))))))))] : LO)))) * 168 ≤ LIM then
 n_l0 (List.take (List.length x2) x2) (List.take (List.length (List.append (List.take (List.length x3) x3) (List.take 1 ([((List.getD x7 (Int.toNat x9) Z_Object).1, (((List.getD x7 (Int.toNat x9) Z_Object).2).1, ((((List.getD x7 (Int.toNat x9) Z_Object).2).2).1, (y1, (y2, (y3, (y4, (y5, ((((((((List.getD x7 (Int.toNat x9) Z_Object).2).2).2).2).2).2).2).2))))))))] : LO)))) (List.append (List.take (List.length x3) x3) (List.take 1 ([((List.getD x7 (Int.toNat x9) Z_Object).1, (((List.getD x7 (Int.toNat x9) Z_Object).2).1, ((((List.getD x7 (Int.toNat x9) Z_Object).2).2).1, (y1, (y2, (y3, (y4, (y5, ((((((((List.getD x7 (Int.toNat x9) Z_Object).2).2).2).2).2).2).2).2))))))))] : LO)))) x7 x8 (IntKind.i64.wrap (x9 + (1 : Int)))
 else none
 else none
 else
 some (List.take (List.length x3) x3)
def F6.c_l0 : Option LO :=
 bif (decide (x9 < x8)) then
 if 0 ≤ x9 ∧ x9 < ((List.length x7) : Int) then
 (c26 (((((List.getD x7 (Int.toNat x9) Z_Object).2).2).2).1)).bind fun y1 =>
 (c26 ((((((List.getD x7 (Int.toNat x9) Z_Object).2).2).2).2).1)).bind fun y2 =>
 (c27 (((((((List.getD x7 (Int.toNat x9) Z_Object).2).2).2).2).2).1)).bind fun y3 =>
 (c28 ((((((((List.getD x7 (Int.toNat x9) Z_Object).2).2).2).2).2).2).1)).bind fun y4 =>
 (c28 (((((((((List.getD x7 (Int.toNat x9) Z_Object).2).2).2).2).2).2).2).1)).bind fun y5 =>
 if ((List.length x3) + (List.length ([((List.getD x7 (Int.toNat x9) Z_Object).1, (((List.getD x7 (Int.toNat x9) Z_Object).2).1, ((((List.getD x7 (Int.toNat x9) Z_Object).2).2).1, (y1, (y2, (y3, (y4, (y5, ((((((((List.getD x7 (Int.toNat x9) Z_Object).2).2).2).2).2).2).2).2))))))))] : LO))) * 168 ≤ LIM then
 n_l0 x2 (x3 ++ ([((List.getD x7 (Int.toNat x9) Z_Object).1, (((List.getD x7 (Int.toNat x9) Z_Object).2).1, ((((List.getD x7 (Int.toNat x9) Z_Object).2).2).1, (y1, (y2, (y3, (y4, (y5, ((((((((List.getD x7 (Int.toNat x9) Z_Object).2).2).2).2).2).2).2).2))))))))] : LO)) x7 x8 (IntKind.i64.wrap (x9 + (1 : Int)))
 else none
 else none
 else
 some x3
theorem F6.q_l0 : F6.b_l0 c26 c27 c28 n_l0 x2 x3 x7 x8 x9 = F6.c_l0 c26 c27 c28 n_l0 x2 x3 x7 x8 x9 := by
  simp only [F6.b_l0, F6.c_l0, qq]
def F6.l0 (k : Nat) : Nat → LO → LO → LO → Int → Int → Option LO
  | 0, _, _, _, _, _ => none
  | n + 1, x2, x3, x7, x8, x9 => F6.b_l0 c26 c27 c28 (fun x2 x3 x7 x8 x9 => F6.l0 k n x2 x3 x7 x8 x9) x2 x3 x7 x8 x9
theorem F6.e_l0 : F6.M_l0 c26 c27 c28 k n (F6.fr_l0 x2 x3 x7 x8 x9) = F6.l0 c26 c27 c28 k n x2 x3 x7 x8 x9 := by
  induction n generalizing x2 x3 x7 x8 x9 with
  | zero => exact lpAt0
  | succ n ih =>
    refine Eq.trans (b := F6.b_l0 c26 c27 c28 (fun x2 x3 x7 x8 x9 => F6.M_l0 c26 c27 c28 k n (F6.fr_l0 x2 x3 x7 x8 x9)) x2 x3 x7 x8 x9) (by kernel_rfl) ?_
    simp only [ih]
    rfl
end
variable (r_l0 : LO → LO → LO → Int → Int → Option LO) (a0 : LO)
def F6.b (c26 : F26.E) (c27 : F27.E) (c28 : F28.E) (r_l0 : LO → LO → LO → Int → Int → Option LO) (a0 : LO) : Option LO :=
 r_l0 ([] : LO) ([] : LO) a0 ((List.length a0) : Int) (0 : Int)
def F6.f : Option LO := F6.b c26 c27 c28 (F6.l0 c26 c27 c28 k k) a0
theorem F6.e : fn (F6.C c26 c27 c28) k Tryz.f6 F6.A F6.R a0 = F6.f c26 c27 c28 k a0 := by
  refine Eq.trans (b := F6.b c26 c27 c28 (fun x2 x3 x7 x8 x9 => F6.M_l0 c26 c27 c28 k k (F6.fr_l0 x2 x3 x7 x8 x9)) a0) (by kernel_rfl) ?_
  simp only [F6.e_l0]
  rfl
end
def F6.u (k : Nat) : F6.E := fun y => F6.f (F26.u k) (F27.u k) (F28.u k) k y
theorem F6.sound (k : Nat) : Sound Tryz.prog ⟨6, F6.A, F6.R, F6.u k⟩ := sn gr Tryz.func6 (fun y => F6.e (F26.u k) (F27.u k) (F28.u k) k y) (al (F26.sound k) (al (F27.sound k) (al (F28.sound k) al0)))
/-! ### brindlewood/operators.unaries: f30 -/
abbrev F30.A : List Sh := []
abbrev F30.R : List Sh := [(.d (.pair (.pair .str .str) (.pair (.pair .str .str) (.pair .str .str))))]
abbrev F30.E : Type := (Unit) → Option ((LB × LB) × ((LB × LB) × (LB × LB)))
section
variable (k n : Nat)
def F30.C : Ctx := cx [] []
def F30.b : Option ((LB × LB) × ((LB × LB) × (LB × LB))) :=
 some (([45], [110, 101, 103]), (([43], [112, 111, 115]), ([126], [105, 110, 118, 101, 114, 116])))
def F30.f (k : Nat) : Option ((LB × LB) × ((LB × LB) × (LB × LB))) := F30.b
theorem F30.e : fn F30.C k Tryz.f30 F30.A F30.R () = F30.f k := by
  kernel_rfl
end
def F30.u (k : Nat) : F30.E := fun y => F30.f k
theorem F30.sound (k : Nat) : Sound Tryz.prog ⟨30, F30.A, F30.R, F30.u k⟩ := sn gr Tryz.func30 (fun y => F30.e k) al0
/-! ### brindlewood/attribute.object: f51 -/
abbrev F51.A : List Sh := [(.d Y_Heap), (.d Y_Value)]
abbrev F51.R : List Sh := [(.d Y_Object)]
abbrev F51.E : Type := (LO × X_Value) → Option X_Object
section
variable (k n : Nat)
def F51.C : Ctx := cx [] []
variable (a0 : LO) (a1 : Int × (X_Int × (X_Int × X_errorAddressString)))
def F51.b : Option X_Object :=
 bif (a1.1 != (6 : Int)) then
 some ((0 : Int), ([], ((0 : Int), (([] : LI), (([] : LI), (([] : LLB), (([] : LV), (([] : LV), ((0 : Int), (0 : Int))))))))))
 else
 if 0 ≤ a1.2.2.2.2 ∧ a1.2.2.2.2 < ((List.length a0) : Int) then
 some (List.getD a0 (Int.toNat a1.2.2.2.2) Z_Object)
 else none
def F51.f (k : Nat) (a0 : LO) (a1 : Int × (X_Int × (X_Int × X_errorAddressString))) : Option X_Object := F51.b a0 a1
theorem F51.e : fn F51.C k Tryz.f51 F51.A F51.R (a0, a1) = F51.f k a0 a1 := by
  kernel_rfl
end
def F51.u (k : Nat) : F51.E := fun y => F51.f k y.1 y.2
theorem F51.sound (k : Nat) : Sound Tryz.prog ⟨51, F51.A, F51.R, F51.u k⟩ := sn gr Tryz.func51 (fun y => F51.e k y.1 y.2) al0
/-! ### brindlewood/attribute.own: f105 -/
abbrev F105.A : List Sh := [(.d Y_Object), (.d .str)]
abbrev F105.R : List Sh := [(.d Y_Value), (.d .bool)]
abbrev F105.E : Type := (X_Object × LB) → Option (X_Value × Bool)
section
variable (c107 : F107.E)
variable (k n : Nat)
def F105.C : Ctx := cx [⟨107, F107.A, F107.R, c107⟩] []
variable (a0 : Int × (LB × (Int × (LI × (LI × (LLB × (LV × (LV × X_acceptRange)))))))) (a1 : LB)
def F105.b : Option (X_Value × Bool) :=
 (c107 (a0.2.2.2.2.2.1, a1)).bind fun y1 =>
 bif (decide (y1 < (0 : Int))) then
 some (((0 : Int), ((false, ([] : LI)), ((false, ([] : LI)), ([], (0 : Int))))), false)
 else
 if 0 ≤ y1 ∧ y1 < ((List.length a0.2.2.2.2.2.2.1) : Int) then
 some ((List.getD a0.2.2.2.2.2.2.1 (Int.toNat y1) Z_Value), true)
 else none
def F105.f (k : Nat) (a0 : Int × (LB × (Int × (LI × (LI × (LLB × (LV × (LV × X_acceptRange)))))))) (a1 : LB) : Option (X_Value × Bool) := F105.b c107 a0 a1
theorem F105.e : fn (F105.C c107) k Tryz.f105 F105.A F105.R (a0, a1) = F105.f c107 k a0 a1 := by
  kernel_rfl
end
def F105.u (k : Nat) : F105.E := fun y => F105.f (F107.u k) k y.1 y.2
theorem F105.sound (k : Nat) : Sound Tryz.prog ⟨105, F105.A, F105.R, F105.u k⟩ := sn gr Tryz.func105 (fun y => F105.e (F107.u k) k y.1 y.2) (al (F107.sound k) al0)
/-! ### brindlewood/attribute.find: f67 -/
abbrev F67.A : List Sh := [(.d Y_Heap), (.d (.sl 3 (.int .i64))), (.d .str)]
abbrev F67.R : List Sh := [(.d Y_Value), (.d (.int .i64)), (.d .bool)]
abbrev F67.E : Type := (LO × (LI × LB)) → Option (X_Value × (Int × Bool))
section
variable (c105 : F105.E)
variable (k n : Nat)
def F67.C : Ctx := cx [⟨105, F105.A, F105.R, c105⟩] [(0, [.d 2 .str, .bx 3 600003 (.d Y_Heap), .bx 6 600006 (.pair (.d (.int .i64)) (.pair (.pair (.d .bool) (.o 109 (.int .u32))) (.pair (.pair (.d .bool) (.o 109 (.int .u32))) (.d (.pair .str (.int .i64)))))), .d 13 (.sl 3 (.int .i64)), .d 14 (.int .i64), .d 15 (.int .i64)])]
noncomputable def F67.M_l0 (s : St) : Option (X_Value × (Int × Bool)) := lpAt (F67.C c105) k n [1, 0, 1, 0] [] Tryz.f67 F67.A F67.R s
noncomputable def F67.fr_l0 (x2 : LB) (x3 : LO) (x6 : Int × (X_Int × (X_Int × X_errorAddressString))) (x13 : LI) (x14 : Int) (x15 : Int) : St := ⟨(((((((List.replicate 34 V.un).set 2 (V.dat .str x2)).set 3 (V.bp 600003 0 [])).set 6 (V.bp 600006 0 [])).set 13 (V.dat (.sl 3 (.int .i64)) x13)).set 14 (V.dat (.int .i64) x14)).set 15 (V.dat (.int .i64) x15)), [⟨600006, 0, .box (V.st (V.dat (.int .i64) x6.1) (V.st (V.st (V.dat .bool x6.2.1.1) (V.ref 11600096 0 0 (List.length x6.2.1.2))) (V.st (V.st (V.dat .bool x6.2.2.1.1) (V.ref 11600097 0 0 (List.length x6.2.2.1.2))) (V.dat (.pair .str (.int .i64)) x6.2.2.2))))⟩, ⟨11600096, 0, .arr 109 (.int .u32) x6.2.1.2⟩, ⟨11600097, 0, .arr 109 (.int .u32) x6.2.2.1.2⟩, ⟨600003, 0, .box (V.dat Y_Heap x3)⟩]⟩
section
variable (n_l0 : LB → LO → X_Value → LI → Int → Int → Option (X_Value × (Int × Bool))) (x2 : LB) (x3 : LO) (x6 : Int × (X_Int × (X_Int × X_errorAddressString))) (x13 : LI) (x14 x15 : Int)
def F67.b_l0 : Option (X_Value × (Int × Bool)) :=
 bif (decide (x15 < x14)) then
 if 0 ≤ x15 ∧ x15 < ((List.length x13) : Int) then
 if 0 ≤ (List.getD x13 (Int.toNat x15) (0 : Int)) ∧ (List.getD x13 (Int.toNat x15) (0 : Int)) < ((List.length x3) : Int) then
 (c105 ((List.getD x3 (Int.toNat (List.getD x13 (Int.toNat x15) (0 : Int))) Z_Object), x2)).bind fun y1 =>
 bif y1.2 then
 some (y1.1, ((List.getD x13 (Int.toNat x15) (0 : Int)), true))
 else
 n_l0 x2 x3 (x6.1, ((x6.2.1.1, (List.take (List.length x6.2.1.2) x6.2.1.2)), ((x6.2.2.1.1, (List.take (List.length x6.2.2.1.2) x6.2.2.1.2)), x6.2.2.2))) x13 x14 (IntKind.i64.wrap (x15 + (1 : Int)))
 else none
 else none
 else
 some (((0 : Int), ((false, ([] : LI)), ((false, ([] : LI)), ([], (0 : Int))))), ((0 : Int), false))
def F67.c_l0 : Option (X_Value × (Int × Bool)) :=
 bif (decide (x15 < x14)) then
 if 0 ≤ x15 ∧ x15 < ((List.length x13) : Int) then
 if 0 ≤ (List.getD x13 (Int.toNat x15) (0 : Int)) ∧ (List.getD x13 (Int.toNat x15) (0 : Int)) < ((List.length x3) : Int) then
 (c105 ((List.getD x3 (Int.toNat (List.getD x13 (Int.toNat x15) (0 : Int))) Z_Object), x2)).bind fun y1 =>
 bif y1.2 then
 some (y1.1, ((List.getD x13 (Int.toNat x15) (0 : Int)), true))
 else
 n_l0 x2 x3 x6 x13 x14 (IntKind.i64.wrap (x15 + (1 : Int)))
 else none
 else none
 else
 some (((0 : Int), ((false, ([] : LI)), ((false, ([] : LI)), ([], (0 : Int))))), ((0 : Int), false))
theorem F67.q_l0 : F67.b_l0 c105 n_l0 x2 x3 x6 x13 x14 x15 = F67.c_l0 c105 n_l0 x2 x3 x6 x13 x14 x15 := by
  simp only [F67.b_l0, F67.c_l0, qq]
def F67.l0 (k : Nat) : Nat → LB → LO → X_Value → LI → Int → Int → Option (X_Value × (Int × Bool))
  | 0, _, _, _, _, _, _ => none
  | n + 1, x2, x3, x6, x13, x14, x15 => F67.b_l0 c105 (fun x2 x3 x6 x13 x14 x15 => F67.l0 k n x2 x3 x6 x13 x14 x15) x2 x3 x6 x13 x14 x15
theorem F67.e_l0 : F67.M_l0 c105 k n (F67.fr_l0 x2 x3 x6 x13 x14 x15) = F67.l0 c105 k n x2 x3 x6 x13 x14 x15 := by
  induction n generalizing x2 x3 x6 x13 x14 x15 with
  | zero => exact lpAt0
  | succ n ih =>
    refine Eq.trans (b := F67.b_l0 c105 (fun x2 x3 x6 x13 x14 x15 => F67.M_l0 c105 k n (F67.fr_l0 x2 x3 x6 x13 x14 x15)) x2 x3 x6 x13 x14 x15) (by kernel_rfl) ?_
    simp only [ih]
    rfl
end
variable (r_l0 : LB → LO → X_Value → LI → Int → Int → Option (X_Value × (Int × Bool))) (a0 : LO) (a1 : LI) (a2 : LB)
def F67.b (c105 : F105.E) (r_l0 : LB → LO → X_Value → LI → Int → Int → Option (X_Value × (Int × Bool))) (a0 : LO) (a1 : LI) (a2 : LB) : Option (X_Value × (Int × Bool)) :=
 r_l0 a2 a0 ((0 : Int), ((false, ([] : LI)), ((false, ([] : LI)), ([], (0 : Int))))) a1 ((List.length a1) : Int) (0 : Int)
def F67.f : Option (X_Value × (Int × Bool)) := F67.b c105 (F67.l0 c105 k k) a0 a1 a2
theorem F67.e : fn (F67.C c105) k Tryz.f67 F67.A F67.R (a0, (a1, a2)) = F67.f c105 k a0 a1 a2 := by
  refine Eq.trans (b := F67.b c105 (fun x2 x3 x6 x13 x14 x15 => F67.M_l0 c105 k k (F67.fr_l0 x2 x3 x6 x13 x14 x15)) a0 a1 a2) (by kernel_rfl) ?_
  simp only [F67.e_l0]
  rfl
end
def F67.u (k : Nat) : F67.E := fun y => F67.f (F105.u k) k y.1 y.2.1 y.2.2
theorem F67.sound (k : Nat) : Sound Tryz.prog ⟨67, F67.A, F67.R, F67.u k⟩ := sn gr Tryz.func67 (fun y => F67.e (F105.u k) k y.1 y.2.1 y.2.2) (al (F105.sound k) al0)
/-! ### brindlewood/attribute.Find: f22 -/
abbrev F22.A : List Sh := [(.d Y_Heap), (.d (.int .i64)), (.d .str)]
abbrev F22.R : List Sh := [(.d Y_Value), (.d (.int .i64)), (.d .bool)]
abbrev F22.E : Type := (LO × (Int × LB)) → Option (X_Value × (Int × Bool))
section
variable (c67 : F67.E)
variable (k n : Nat)
def F22.C : Ctx := cx [⟨67, F67.A, F67.R, c67⟩] []
variable (a0 : LO) (a1 : Int) (a2 : LB)
def F22.b : Option (X_Value × (Int × Bool)) :=
 if 0 ≤ a1 ∧ a1 < ((List.length a0) : Int) then
 (c67 (a0, ((((((List.getD a0 (Int.toNat a1) Z_Object).2).2).2).2).1, a2))).bind fun y1 =>
 some (y1.1, (y1.2.1, y1.2.2))
 else none
def F22.c : Option (X_Value × (Int × Bool)) :=
 if 0 ≤ a1 ∧ a1 < ((List.length a0) : Int) then
 (c67 (a0, ((((((List.getD a0 (Int.toNat a1) Z_Object).2).2).2).2).1, a2))).bind fun y1 =>
 some y1
 else none
theorem F22.q : F22.b c67 a0 a1 a2 = F22.c c67 a0 a1 a2 := by
  simp only [F22.b, F22.c, qq]
def F22.f (k : Nat) (a0 : LO) (a1 : Int) (a2 : LB) : Option (X_Value × (Int × Bool)) := F22.b c67 a0 a1 a2
theorem F22.e : fn (F22.C c67) k Tryz.f22 F22.A F22.R (a0, (a1, a2)) = F22.f c67 k a0 a1 a2 := by
  kernel_rfl
end
def F22.u (k : Nat) : F22.E := fun y => F22.f (F67.u k) k y.1 y.2.1 y.2.2
theorem F22.sound (k : Nat) : Sound Tryz.prog ⟨22, F22.A, F22.R, F22.u k⟩ := sn gr Tryz.func22 (fun y => F22.e (F67.u k) k y.1 y.2.1 y.2.2) (al (F67.sound k) al0)
/-! ### brindlewood/attribute.function: f52 -/
abbrev F52.A : List Sh := [(.d Y_Heap), (.d Y_Value)]
abbrev F52.R : List Sh := [(.d .bool)]
abbrev F52.E : Type := (LO × X_Value) → Option Bool
section
variable (c51 : F51.E)
variable (k n : Nat)
def F52.C : Ctx := cx [⟨51, F51.A, F51.R, c51⟩] []
variable (a0 : LO) (a1 : Int × (X_Int × (X_Int × X_errorAddressString)))
def F52.b : Option Bool :=
 bif (a1.1 == (7 : Int)) then
 some true
 else
 (c51 (a0, a1)).bind fun y1 =>
 some (y1.1 == (7 : Int))
def F52.f (k : Nat) (a0 : LO) (a1 : Int × (X_Int × (X_Int × X_errorAddressString))) : Option Bool := F52.b c51 a0 a1
theorem F52.e : fn (F52.C c51) k Tryz.f52 F52.A F52.R (a0, a1) = F52.f c51 k a0 a1 := by
  kernel_rfl
end
def F52.u (k : Nat) : F52.E := fun y => F52.f (F51.u k) k y.1 y.2
theorem F52.sound (k : Nat) : Sound Tryz.prog ⟨52, F52.A, F52.R, F52.u k⟩ := sn gr Tryz.func52 (fun y => F52.e (F51.u k) k y.1 y.2) (al (F51.sound k) al0)
/-! ### brindlewood/heap.Ref: f53 -/
abbrev F53.A : List Sh := [(.d (.int .i64))]
abbrev F53.R : List Sh := [(.d Y_Value)]
abbrev F53.E : Type := Int → Option X_Value
section
variable (k n : Nat)
def F53.C : Ctx := cx [] []
variable (a0 : Int)
def F53.b : Option X_Value :=
 some ((6 : Int), ((false, ([] : LI)), ((false, ([] : LI)), ([], a0))))
def F53.f (k : Nat) (a0 : Int) : Option X_Value := F53.b a0
theorem F53.e : fn F53.C k Tryz.f53 F53.A F53.R a0 = F53.f k a0 := by
  kernel_rfl
end
def F53.u (k : Nat) : F53.E := fun y => F53.f k y
theorem F53.sound (k : Nat) : Sound Tryz.prog ⟨53, F53.A, F53.R, F53.u k⟩ := sn gr Tryz.func53 (fun y => F53.e k y) al0
/-! ### brindlewood/attribute.Special: f12 -/
abbrev F12.A : List Sh := [(.d Y_Heap), (.d Y_Value), (.d .str)]
abbrev F12.R : List Sh := [(.d Y_Value), (.d (.sl 29 Y_Value)), (.d .bool)]
abbrev F12.E : Type := (LO × (X_Value × LB)) → Option (X_Value × (LV × Bool))
section
variable (c51 : F51.E) (c22 : F22.E) (c52 : F52.E) (c53 : F53.E)
variable (k n : Nat)
def F12.C : Ctx := cx [⟨51, F51.A, F51.R, c51⟩, ⟨22, F22.A, F22.R, c22⟩, ⟨52, F52.A, F52.R, c52⟩, ⟨53, F53.A, F53.R, c53⟩] []
variable (a0 : LO) (a1 : Int × (X_Int × (X_Int × X_errorAddressString))) (a2 : LB)
def F12.b : Option (X_Value × (LV × Bool)) :=
 (c51 (a0, a1)).bind fun y1 =>
 bif (y1.1 != (10 : Int)) then
 some (((0 : Int), ((false, ([] : LI)), ((false, ([] : LI)), ([], (0 : Int))))), (([] : LV), false))
 else
 if 0 ≤ a1.2.2.2.2 ∧ a1.2.2.2.2 < ((List.length a0) : Int) then
 (c22 (a0, ((((List.getD a0 (Int.toNat a1.2.2.2.2) Z_Object).2).2).1, a2))).bind fun y2 =>
 bif (!y2.2.2) then
 some (((0 : Int), ((false, ([] : LI)), ((false, ([] : LI)), ([], (0 : Int))))), (([] : LV), false))
 else
 (c51 (a0, y2.1)).bind fun y3 =>
 (c52 (a0, y2.1)).bind fun y4 =>
 bif y4 then
 some (y2.1, ((List.take 1 ([a1] : LV)), true))
 else
 bif (y3.1 == (13 : Int)) then
 if 0 ≤ (0 : Int) ∧ (0 : Int) < ((List.length y3.2.2.2.2.2.2.1) : Int) then
 some ((List.getD y3.2.2.2.2.2.2.1 (Int.toNat (0 : Int)) Z_Value), (([] : LV), true))
 else none
 else
 bif (y3.1 == (14 : Int)) then
 if 0 ≤ (0 : Int) ∧ (0 : Int) < ((List.length y3.2.2.2.2.2.2.1) : Int) then
 (c53 ((((List.getD a0 (Int.toNat a1.2.2.2.2) Z_Object).2).2).1)).bind fun y5 =>
 some ((List.getD y3.2.2.2.2.2.2.1 (Int.toNat (0 : Int)) Z_Value), ((List.take 1 ([y5] : LV)), true))
 else none
 else
 some (y2.1, (([] : LV), true))
 else none
def F12.c : Option (X_Value × (LV × Bool)) :=
 (c51 (a0, a1)).bind fun y1 =>
 bif (y1.1 != (10 : Int)) then
 some (((0 : Int), ((false, ([] : LI)), ((false, ([] : LI)), ([], (0 : Int))))), (([] : LV), false))
 else
 if 0 ≤ a1.2.2.2.2 ∧ a1.2.2.2.2 < ((List.length a0) : Int) then
 (c22 (a0, ((((List.getD a0 (Int.toNat a1.2.2.2.2) Z_Object).2).2).1, a2))).bind fun y2 =>
 bif !y2.2.2 then
 some (((0 : Int), ((false, ([] : LI)), ((false, ([] : LI)), ([], (0 : Int))))), (([] : LV), false))
 else
 (c51 (a0, y2.1)).bind fun y3 =>
 (c52 (a0, y2.1)).bind fun y4 =>
 bif y4 then
 some (y2.1, (([a1] : LV), true))
 else
 bif (y3.1 == (13 : Int)) then
 if (0 : Int) < ((List.length y3.2.2.2.2.2.2.1) : Int) then
 some ((List.getD y3.2.2.2.2.2.2.1 0 Z_Value), (([] : LV), true))
 else none
 else
 bif (y3.1 == (14 : Int)) then
 if (0 : Int) < ((List.length y3.2.2.2.2.2.2.1) : Int) then
 (c53 ((((List.getD a0 (Int.toNat a1.2.2.2.2) Z_Object).2).2).1)).bind fun y5 =>
 some ((List.getD y3.2.2.2.2.2.2.1 0 Z_Value), (([y5] : LV), true))
 else none
 else
 some (y2.1, (([] : LV), true))
 else none
theorem F12.q : F12.b c51 c22 c52 c53 a0 a1 a2 = F12.c c51 c22 c52 c53 a0 a1 a2 := by
  simp only [F12.b, F12.c, qq]
def F12.f (k : Nat) (a0 : LO) (a1 : Int × (X_Int × (X_Int × X_errorAddressString))) (a2 : LB) : Option (X_Value × (LV × Bool)) := F12.b c51 c22 c52 c53 a0 a1 a2
theorem F12.e : fn (F12.C c51 c22 c52 c53) k Tryz.f12 F12.A F12.R (a0, (a1, a2)) = F12.f c51 c22 c52 c53 k a0 a1 a2 := by
  kernel_rfl
end
def F12.u (k : Nat) : F12.E := fun y => F12.f (F51.u k) (F22.u k) (F52.u k) (F53.u k) k y.1 y.2.1 y.2.2
theorem F12.sound (k : Nat) : Sound Tryz.prog ⟨12, F12.A, F12.R, F12.u k⟩ := sn gr Tryz.func12 (fun y => F12.e (F51.u k) (F22.u k) (F52.u k) (F53.u k) k y.1 y.2.1 y.2.2) (al (F51.sound k) (al (F22.sound k) (al (F52.sound k) (al (F53.sound k) al0))))
/-! ### slices.Grow[[]brindlewood/api.Value,brindlewood/api.Value]: f124 -/
abbrev F124.A : List Sh := [.nl, (.d (.int .i64))]
abbrev F124.R : List Sh := [(.o 29 Y_Value)]
abbrev F124.E : Type := ((Unit) × Int) → Option LV
section
variable (k n : Nat)
def F124.C : Ctx := cx [] []
variable (a0 : Unit) (a1 : Int)
def F124.b (a0 : Unit) (a1 : Int) : Option LV :=
 bif (decide (a1 < (0 : Int))) then
 none
 else
 bif (decide ((IntKind.i64.wrap (a1 - (IntKind.i64.wrap ((0 : Int) - (0 : Int))))) > (0 : Int))) then
 if (0 : Int) = 0 ∧ (0 : Int) = 0 then
 if 0 < (IntKind.i64.wrap (a1 - (IntKind.i64.wrap ((0 : Int) - (0 : Int))))) ∧ Int.toNat (IntKind.i64.wrap (a1 - (IntKind.i64.wrap ((0 : Int) - (0 : Int))))) * 96 ≤ LIM ∧ (IntKind.i64.wrap (a1 - (IntKind.i64.wrap ((0 : Int) - (0 : Int))))) ≤ 140737488355328 then
 if 0 ≤ (0 : Int) ∧ (0 : Int) ≤ (0 : Int) ∧ (0 : Int) ≤ (((Int.toNat (IntKind.i64.wrap (a1 - (IntKind.i64.wrap ((0 : Int) - (0 : Int)))))) : Nat) : Int) then
 some (List.take (Int.toNat ((0 : Int) - (0 : Int))) (List.replicate (Int.toNat (IntKind.i64.wrap (a1 - (IntKind.i64.wrap ((0 : Int) - (0 : Int)))))) Z_Value))
 else none
 else none
 else none
 else
 some ([] : LV)
def F124.c (a0 : Unit) (a1 : Int) : Option LV :=
 bif (decide (a1 < (0 : Int))) then
 none
 else
 bif (decide ((IntKind.i64.wrap (a1 - (IntKind.i64.wrap ((0 : Int) - (0 : Int))))) > (0 : Int))) then
 if (0 : Int) = 0 ∧ (0 : Int) = 0 then
 if 0 < (IntKind.i64.wrap (a1 - (IntKind.i64.wrap ((0 : Int) - (0 : Int))))) ∧ Int.toNat (IntKind.i64.wrap (a1 - (IntKind.i64.wrap ((0 : Int) - (0 : Int))))) * 96 ≤ LIM ∧ (IntKind.i64.wrap (a1 - (IntKind.i64.wrap ((0 : Int) - (0 : Int))))) ≤ 140737488355328 then
 if (0 : Int) ≤ (((Int.toNat (IntKind.i64.wrap (a1 - (IntKind.i64.wrap ((0 : Int) - (0 : Int)))))) : Nat) : Int) then
 some (List.take (Int.toNat ((0 : Int) - (0 : Int))) (List.replicate (Int.toNat (IntKind.i64.wrap (a1 - (IntKind.i64.wrap ((0 : Int) - (0 : Int)))))) Z_Value))
 else none
 else none
 else none
 else
 some ([] : LV)
theorem F124.q : F124.b a0 a1 = F124.c a0 a1 := by
  simp only [F124.b, F124.c, qq]
def F124.f (k : Nat) (a0 : Unit) (a1 : Int) : Option LV := F124.b a0 a1
theorem F124.e : fn F124.C k Tryz.f124 F124.A F124.R (a0, a1) = F124.f k a0 a1 := by
  kernel_rfl
end
def F124.u (k : Nat) : F124.E := fun y => F124.f k y.1 y.2
theorem F124.sound (k : Nat) : Sound Tryz.prog ⟨124, F124.A, F124.R, F124.u k⟩ := sn gr Tryz.func124 (fun y => F124.e k y.1 y.2) al0
/-! ### slices.Concat[[]brindlewood/api.Value,brindlewood/api.Value]: f81 -/
abbrev F81.A : List Sh := [(.d (.sl 34 (.sl 29 Y_Value)))]
abbrev F81.R : List Sh := [(.d (.sl 29 Y_Value))]
abbrev F81.E : Type := (List LV) → Option LV
section
variable (c124 : F124.E)
variable (k n : Nat)
def F81.C : Ctx := cx [⟨124, F124.A, F124.R, c124⟩] [(0, [.d 0 (.sl 34 (.sl 29 Y_Value)), .d 3 (.int .i64), .d 9 (.sl 34 (.sl 29 Y_Value)), .d 10 (.int .i64), .d 11 (.int .i64)]), (2, [.o 6 500006 29 Y_Value, .d 25 (.sl 34 (.sl 29 Y_Value)), .d 26 (.int .i64), .d 27 (.int .i64)])]
noncomputable def F81.M_l0 (s : St) : Option LV := lpAt (F81.C c124) k n [1, 1, 0, 1, 0] [] Tryz.f81 F81.A F81.R s
noncomputable def F81.fr_l0 (x0 : List LV) (x3 : Int) (x9 : List LV) (x10 : Int) (x11 : Int) : St := ⟨((((((List.replicate 36 V.un).set 0 (V.dat (.sl 34 (.sl 29 Y_Value)) x0)).set 3 (V.dat (.int .i64) x3)).set 9 (V.dat (.sl 34 (.sl 29 Y_Value)) x9)).set 10 (V.dat (.int .i64) x10)).set 11 (V.dat (.int .i64) x11)), []⟩
noncomputable def F81.M_l2 (s : St) : Option LV := lpAt (F81.C c124) k n [1, 1, 1, 1, 0, 1, 0] [] Tryz.f81 F81.A F81.R s
noncomputable def F81.fr_l2 (x6 : LV) (x25 : List LV) (x26 : Int) (x27 : Int) : St := ⟨(((((List.replicate 36 V.un).set 6 (V.ref 500006 0 0 (List.length x6))).set 25 (V.dat (.sl 34 (.sl 29 Y_Value)) x25)).set 26 (V.dat (.int .i64) x26)).set 27 (V.dat (.int .i64) x27)), [⟨500006, 0, .arr 29 Y_Value x6⟩]⟩
section
variable (n_l2 : LV → (List LV) → Int → Int → Option LV) (x6 : LV) (x25 : List LV) (x26 x27 : Int)
def F81.b_l2 (c124 : F124.E) (n_l2 : LV → (List LV) → Int → Int → Option LV) (x6 : LV) (x25 : List LV) (x26 : Int) (x27 : Int) : Option LV :=
 bif (decide (x27 < x26)) then
 if 0 ≤ x27 ∧ x27 < ((List.length x25) : Int) then
 if (List.length x6) ≤ (List.length x6) ∧ ((List.length x6) + (List.length (List.getD x25 (Int.toNat x27) []))) * 96 ≤ LIM then
 n_l2 (List.take (List.length (List.append (List.take (List.length x6) x6) (List.getD x25 (Int.toNat x27) []))) (List.append (List.take (List.length x6) x6) (List.getD x25 (Int.toNat x27) []))) x25 x26 (IntKind.i64.wrap (x27 + (1 : Int)))
 else none
 else none
 else
 some (List.take (List.length x6) x6)
def F81.c_l2 (c124 : F124.E) (n_l2 : LV → (List LV) → Int → Int → Option LV) (x6 : LV) (x25 : List LV) (x26 : Int) (x27 : Int) : Option LV :=
 bif (decide (x27 < x26)) then
 if 0 ≤ x27 ∧ x27 < ((List.length x25) : Int) then
 if ((List.length x6) + (List.length (List.getD x25 (Int.toNat x27) []))) * 96 ≤ LIM then
 n_l2 (x6 ++ (List.getD x25 (Int.toNat x27) [])) x25 x26 (IntKind.i64.wrap (x27 + (1 : Int)))
 else none
 else none
 else
 some x6
theorem F81.q_l2 : F81.b_l2 c124 n_l2 x6 x25 x26 x27 = F81.c_l2 c124 n_l2 x6 x25 x26 x27 := by
  simp only [F81.b_l2, F81.c_l2, qq]
def F81.l2 (k : Nat) : Nat → LV → (List LV) → Int → Int → Option LV
  | 0, _, _, _, _ => none
  | n + 1, x6, x25, x26, x27 => F81.b_l2 c124 (fun x6 x25 x26 x27 => F81.l2 k n x6 x25 x26 x27) x6 x25 x26 x27
theorem F81.e_l2 : F81.M_l2 c124 k n (F81.fr_l2 x6 x25 x26 x27) = F81.l2 c124 k n x6 x25 x26 x27 := by
  induction n generalizing x6 x25 x26 x27 with
  | zero => exact lpAt0
  | succ n ih =>
    refine Eq.trans (b := F81.b_l2 c124 (fun x6 x25 x26 x27 => F81.M_l2 c124 k n (F81.fr_l2 x6 x25 x26 x27)) x6 x25 x26 x27) (by kernel_rfl) ?_
    simp only [ih]
    rfl
end
section
variable (n_l0 : (List LV) → Int → (List LV) → Int → Int → Option LV) (r_l2 : LV → (List LV) → Int → Int → Option LV) (x0 : List LV) (x3 : Int) (x9 : List LV) (x10 x11 : Int)
def F81.b_l0 : Option LV :=
 bif (decide (x11 < x10)) then
 if 0 ≤ x11 ∧ x11 < ((List.length x9) : Int) then
 bif (decide ((IntKind.i64.wrap (x3 + ((List.length (List.getD x9 (Int.toNat x11) [])) : Int))) < (0 : Int))) then
 none
 else
 n_l0 x0 (IntKind.i64.wrap (x3 + ((List.length (List.getD x9 (Int.toNat x11) [])) : Int))) x9 x10 (IntKind.i64.wrap (x11 + (1 : Int)))
 else none
 else
 (c124 ((), x3)).bind fun y1 =>
 r_l2 (List.take (List.length y1) y1) x0 ((List.length x0) : Int) (0 : Int)
def F81.c_l0 : Option LV :=
 bif (decide (x11 < x10)) then
 if 0 ≤ x11 ∧ x11 < ((List.length x9) : Int) then
 bif (decide ((IntKind.i64.wrap (x3 + ((List.length (List.getD x9 (Int.toNat x11) [])) : Int))) < (0 : Int))) then
 none
 else
 n_l0 x0 (IntKind.i64.wrap (x3 + ((List.length (List.getD x9 (Int.toNat x11) [])) : Int))) x9 x10 (IntKind.i64.wrap (x11 + (1 : Int)))
 else none
 else
 (c124 ((), x3)).bind fun y1 =>
 r_l2 y1 x0 ((List.length x0) : Int) (0 : Int)
theorem F81.q_l0 : F81.b_l0 c124 n_l0 r_l2 x0 x3 x9 x10 x11 = F81.c_l0 c124 n_l0 r_l2 x0 x3 x9 x10 x11 := by
  simp only [F81.b_l0, F81.c_l0, qq]
def F81.l0 : Nat → (List LV) → Int → (List LV) → Int → Int → Option LV
  | 0, _, _, _, _, _ => none
  | n + 1, x0, x3, x9, x10, x11 => F81.b_l0 c124 (fun x0 x3 x9 x10 x11 => F81.l0 n x0 x3 x9 x10 x11) (F81.l2 c124 k k) x0 x3 x9 x10 x11
theorem F81.e_l0 : F81.M_l0 c124 k n (F81.fr_l0 x0 x3 x9 x10 x11) = F81.l0 c124 k n x0 x3 x9 x10 x11 := by
  induction n generalizing x0 x3 x9 x10 x11 with
  | zero => exact lpAt0
  | succ n ih =>
    refine Eq.trans (b := F81.b_l0 c124 (fun x0 x3 x9 x10 x11 => F81.M_l0 c124 k n (F81.fr_l0 x0 x3 x9 x10 x11)) (fun x6 x25 x26 x27 => F81.M_l2 c124 k k (F81.fr_l2 x6 x25 x26 x27)) x0 x3 x9 x10 x11) (by kernel_rfl) ?_
    simp only [F81.e_l2, ih]
    rfl
end
variable (r_l0 : (List LV) → Int → (List LV) → Int → Int → Option LV) (a0 : List LV)
def F81.b (c124 : F124.E) (r_l0 : (List LV) → Int → (List LV) → Int → Int → Option LV) (a0 : List LV) : Option LV :=
 r_l0 a0 (0 : Int) a0 ((List.length a0) : Int) (0 : Int)
def F81.f : Option LV := F81.b c124 (F81.l0 c124 k k) a0
theorem F81.e : fn (F81.C c124) k Tryz.f81 F81.A F81.R a0 = F81.f c124 k a0 := by
  refine Eq.trans (b := F81.b c124 (fun x0 x3 x9 x10 x11 => F81.M_l0 c124 k k (F81.fr_l0 x0 x3 x9 x10 x11)) a0) (by kernel_rfl) ?_
  simp only [F81.e_l0]
  rfl
end
def F81.u (k : Nat) : F81.E := fun y => F81.f (F124.u k) k y
theorem F81.sound (k : Nat) : Sound Tryz.prog ⟨81, F81.A, F81.R, F81.u k⟩ := sn gr Tryz.func81 (fun y => F81.e (F124.u k) k y) (al (F124.sound k) al0)
/-! ### brindlewood/operators.attempt: f31 -/
abbrev F31.A : List Sh := [(.d Y_Heap), (.d Y_Value), (.d .str), (.d (.sl 29 Y_Value))]
abbrev F31.R : List Sh := [(.d (.sl 36 Y_Step))]
abbrev F31.E : Type := (LO × (X_Value × (LB × LV))) → Option (List X_Step)
section
variable (c12 : F12.E) (c81 : F81.E)
variable (k n : Nat)
def F31.C : Ctx := cx [⟨12, F12.A, F12.R, c12⟩, ⟨81, F81.A, F81.R, c81⟩] []
variable (a0 : LO) (a1 : Int × (X_Int × (X_Int × X_errorAddressString))) (a2 : LB) (a3 : LV)
def F31.b : Option (List X_Step) :=
 (c12 (a0, (a1, a2))).bind fun y1 =>
 bif (!y1.2.2) then
 some ([] : List X_Step)
 else
 (c81 (List.take 2 ([y1.2.1, a3] : List LV))).bind fun y2 =>
 some (List.take 1 ([((2 : Int), (((0 : Int), ((false, ([] : LI)), ((false, ([] : LI)), ([], (0 : Int))))), ((0 : Int), ([], (y1.1, y2)))))] : List X_Step))
def F31.c : Option (List X_Step) :=
 (c12 (a0, (a1, a2))).bind fun y1 =>
 bif !y1.2.2 then
 some ([] : List X_Step)
 else
 (c81 (List.take 2 ([y1.2.1, a3] : List LV))).bind fun y2 =>
 some ([((2 : Int), (((0 : Int), ((false, ([] : LI)), ((false, ([] : LI)), ([], (0 : Int))))), ((0 : Int), ([], (y1.1, y2)))))] : List X_Step)
theorem F31.q : F31.b c12 c81 a0 a1 a2 a3 = F31.c c12 c81 a0 a1 a2 a3 := by
  simp only [F31.b, F31.c, qq]
def F31.f (k : Nat) (a0 : LO) (a1 : Int × (X_Int × (X_Int × X_errorAddressString))) (a2 : LB) (a3 : LV) : Option (List X_Step) := F31.b c12 c81 a0 a1 a2 a3
theorem F31.e : fn (F31.C c12 c81) k Tryz.f31 F31.A F31.R (a0, (a1, (a2, a3))) = F31.f c12 c81 k a0 a1 a2 a3 := by
  kernel_rfl
end
def F31.u (k : Nat) : F31.E := fun y => F31.f (F12.u k) (F81.u k) k y.1 y.2.1 y.2.2.1 y.2.2.2
theorem F31.sound (k : Nat) : Sound Tryz.prog ⟨31, F31.A, F31.R, F31.u k⟩ := sn gr Tryz.func31 (fun y => F31.e (F12.u k) (F81.u k) k y.1 y.2.1 y.2.2.1 y.2.2.2) (al (F12.sound k) (al (F81.sound k) al0))
/-! ### brindlewood/operators.value: f82 -/
abbrev F82.A : List Sh := [(.d Y_Value)]
abbrev F82.R : List Sh := [(.d Y_Step)]
abbrev F82.E : Type := X_Value → Option X_Step
section
variable (k n : Nat)
def F82.C : Ctx := cx [] []
variable (a0 : Int × (X_Int × (X_Int × X_errorAddressString)))
def F82.b : Option X_Step :=
 some ((0 : Int), (a0, ((0 : Int), ([], (((0 : Int), ((false, ([] : LI)), ((false, ([] : LI)), ([], (0 : Int))))), ([] : LV))))))
def F82.f (k : Nat) (a0 : Int × (X_Int × (X_Int × X_errorAddressString))) : Option X_Step := F82.b a0
theorem F82.e : fn F82.C k Tryz.f82 F82.A F82.R a0 = F82.f k a0 := by
  kernel_rfl
end
def F82.u (k : Nat) : F82.E := fun y => F82.f k y
theorem F82.sound (k : Nat) : Sound Tryz.prog ⟨82, F82.A, F82.R, F82.u k⟩ := sn gr Tryz.func82 (fun y => F82.e k y) al0
/-! ### brindlewood/integer.Valid: f162 -/
abbrev F162.A : List Sh := [(.d Y_Int)]
abbrev F162.R : List Sh := [(.d .bool)]
abbrev F162.E : Type := X_Int → Option Bool
section
variable (k n : Nat)
def F162.C : Ctx := cx [] []
variable (a0 : Bool × LI)
def F162.b : Option Bool :=
 bif (decide (((List.length a0.2) : Int) ≤ (128 : Int))) then
 bif (((List.length a0.2) : Int) == (0 : Int)) then
 bif (!a0.1) then
 some true
 else
 bif (decide (((List.length a0.2) : Int) > (0 : Int))) then
 if 0 ≤ (IntKind.i64.wrap (((List.length a0.2) : Int) - (1 : Int))) ∧ (IntKind.i64.wrap (((List.length a0.2) : Int) - (1 : Int))) < ((List.length a0.2) : Int) then
 some ((List.getD a0.2 (Int.toNat (IntKind.i64.wrap (((List.length a0.2) : Int) - (1 : Int)))) (0 : Int)) != (0 : Int))
 else none
 else
 some false
 else
 bif (decide (((List.length a0.2) : Int) > (0 : Int))) then
 if 0 ≤ (IntKind.i64.wrap (((List.length a0.2) : Int) - (1 : Int))) ∧ (IntKind.i64.wrap (((List.length a0.2) : Int) - (1 : Int))) < ((List.length a0.2) : Int) then
 some ((List.getD a0.2 (Int.toNat (IntKind.i64.wrap (((List.length a0.2) : Int) - (1 : Int)))) (0 : Int)) != (0 : Int))
 else none
 else
 some false
 else
 some false
def F162.f (k : Nat) (a0 : Bool × LI) : Option Bool := F162.b a0
theorem F162.e : fn F162.C k Tryz.f162 F162.A F162.R a0 = F162.f k a0 := by
  kernel_rfl
end
def F162.u (k : Nat) : F162.E := fun y => F162.f k y
theorem F162.sound (k : Nat) : Sound Tryz.prog ⟨162, F162.A, F162.R, F162.u k⟩ := sn gr Tryz.func162 (fun y => F162.e k y) al0
/-! ### brindlewood/integer.at: f163 -/
abbrev F163.A : List Sh := [(.d (.int .i64)), (.d (.int .i64))]
abbrev F163.R : List Sh := [(.d Y_Fault)]
abbrev F163.E : Type := X_acceptRange → Option X_acceptRange
section
variable (k n : Nat)
def F163.C : Ctx := cx [] []
variable (a0 a1 : Int)
def F163.b : Option X_acceptRange :=
 some (a0, a1)
def F163.f (k : Nat) (a0 : Int) (a1 : Int) : Option X_acceptRange := F163.b a0 a1
theorem F163.e : fn F163.C k Tryz.f163 F163.A F163.R (a0, a1) = F163.f k a0 a1 := by
  kernel_rfl
end
def F163.u (k : Nat) : F163.E := fun y => F163.f k y.1 y.2
theorem F163.sound (k : Nat) : Sound Tryz.prog ⟨163, F163.A, F163.R, F163.u k⟩ := sn gr Tryz.func163 (fun y => F163.e k y.1 y.2) al0
/-! ### brindlewood/integer.check: f125 -/
abbrev F125.A : List Sh := [(.d (.sl 27 Y_Int))]
abbrev F125.R : List Sh := [(.d Y_Fault)]
abbrev F125.E : Type := (List X_Int) → Option X_acceptRange
section
variable (c162 : F162.E) (c163 : F163.E)
variable (k n : Nat)
def F125.C : Ctx := cx [⟨162, F162.A, F162.R, c162⟩, ⟨163, F163.A, F163.R, c163⟩] [(0, [.bx 2 600002 (.d Y_Fault), .d 5 (.sl 27 Y_Int), .d 6 (.int .i64), .d 7 (.int .i64)])]
noncomputable def F125.M_l0 (s : St) : Option X_acceptRange := lpAt (F125.C c162 c163) k n [1, 0, 1, 0] [] Tryz.f125 F125.A F125.R s
noncomputable def F125.fr_l0 (x2 : Int × Int) (x5 : List X_Int) (x6 : Int) (x7 : Int) : St := ⟨(((((List.replicate 20 V.un).set 2 (V.bp 600002 0 [])).set 5 (V.dat (.sl 27 Y_Int) x5)).set 6 (V.dat (.int .i64) x6)).set 7 (V.dat (.int .i64) x7)), [⟨600002, 0, .box (V.dat Y_Fault x2)⟩]⟩
section
variable (n_l0 : X_acceptRange → (List X_Int) → Int → Int → Option X_acceptRange) (x2 : Int × Int) (x5 : List X_Int) (x6 x7 : Int)
def F125.b_l0 : Option X_acceptRange :=
 bif (decide (x7 < x6)) then
 if 0 ≤ x7 ∧ x7 < ((List.length x5) : Int) then
 (c162 (List.getD x5 (Int.toNat x7) (false, []))).bind fun y1 =>
 bif (!y1) then
 (c163 ((6 : Int), (IntKind.i64.wrap ((-1 : Int) - x7)))).bind fun y2 =>
 some y2
 else
 n_l0 x2 x5 x6 (IntKind.i64.wrap (x7 + (1 : Int)))
 else none
 else
 some ((0 : Int), (0 : Int))
def F125.l0 (k : Nat) : Nat → X_acceptRange → (List X_Int) → Int → Int → Option X_acceptRange
  | 0, _, _, _, _ => none
  | n + 1, x2, x5, x6, x7 => F125.b_l0 c162 c163 (fun x2 x5 x6 x7 => F125.l0 k n x2 x5 x6 x7) x2 x5 x6 x7
theorem F125.e_l0 : F125.M_l0 c162 c163 k n (F125.fr_l0 x2 x5 x6 x7) = F125.l0 c162 c163 k n x2 x5 x6 x7 := by
  induction n generalizing x2 x5 x6 x7 with
  | zero => exact lpAt0
  | succ n ih =>
    refine Eq.trans (b := F125.b_l0 c162 c163 (fun x2 x5 x6 x7 => F125.M_l0 c162 c163 k n (F125.fr_l0 x2 x5 x6 x7)) x2 x5 x6 x7) (by kernel_rfl) ?_
    simp only [ih]
    rfl
end
variable (r_l0 : X_acceptRange → (List X_Int) → Int → Int → Option X_acceptRange) (a0 : List X_Int)
def F125.b (c162 : F162.E) (c163 : F163.E) (r_l0 : X_acceptRange → (List X_Int) → Int → Int → Option X_acceptRange) (a0 : List X_Int) : Option X_acceptRange :=
 r_l0 ((0 : Int), (0 : Int)) a0 ((List.length a0) : Int) (0 : Int)
def F125.f : Option X_acceptRange := F125.b c162 c163 (F125.l0 c162 c163 k k) a0
theorem F125.e : fn (F125.C c162 c163) k Tryz.f125 F125.A F125.R a0 = F125.f c162 c163 k a0 := by
  refine Eq.trans (b := F125.b c162 c163 (fun x2 x5 x6 x7 => F125.M_l0 c162 c163 k k (F125.fr_l0 x2 x5 x6 x7)) a0) (by kernel_rfl) ?_
  simp only [F125.e_l0]
  rfl
end
def F125.u (k : Nat) : F125.E := fun y => F125.f (F162.u k) (F163.u k) k y
theorem F125.sound (k : Nat) : Sound Tryz.prog ⟨125, F125.A, F125.R, F125.u k⟩ := sn gr Tryz.func125 (fun y => F125.e (F162.u k) (F163.u k) k y) (al (F162.sound k) (al (F163.sound k) al0))
/-! ### brindlewood/integer.signed: f126 -/
abbrev F126.A : List Sh := [(.d .bool), (.d (.sl 109 (.int .u32)))]
abbrev F126.R : List Sh := [(.d Y_Int), (.d Y_Fault)]
abbrev F126.E : Type := X_Int → Option (X_Int × X_acceptRange)
section
variable (c163 : F163.E)
variable (k n : Nat)
def F126.C : Ctx := cx [⟨163, F163.A, F163.R, c163⟩] []
variable (a0 : Bool) (a1 : LI)
def F126.b : Option (X_Int × X_acceptRange) :=
 bif (decide (((List.length a1) : Int) > (128 : Int))) then
 (c163 ((14 : Int), (-1 : Int))).bind fun y1 =>
 some ((false, ([] : LI)), y1)
 else
 bif a0 then
 some (((decide (((List.length a1) : Int) > (0 : Int))), a1), ((0 : Int), (0 : Int)))
 else
 some ((false, a1), ((0 : Int), (0 : Int)))
def F126.f (k : Nat) (a0 : Bool) (a1 : LI) : Option (X_Int × X_acceptRange) := F126.b c163 a0 a1
theorem F126.e : fn (F126.C c163) k Tryz.f126 F126.A F126.R (a0, a1) = F126.f c163 k a0 a1 := by
  kernel_rfl
end
def F126.u (k : Nat) : F126.E := fun y => F126.f (F163.u k) k y.1 y.2
theorem F126.sound (k : Nat) : Sound Tryz.prog ⟨126, F126.A, F126.R, F126.u k⟩ := sn gr Tryz.func126 (fun y => F126.e (F163.u k) k y.1 y.2) (al (F163.sound k) al0)
/-! ### brindlewood/integer.Neg: f83 -/
abbrev F83.A : List Sh := [(.d Y_Int)]
abbrev F83.R : List Sh := [(.d Y_Int), (.d Y_Fault)]
abbrev F83.E : Type := X_Int → Option (X_Int × X_acceptRange)
section
variable (c125 : F125.E) (c80 : F80.E) (c126 : F126.E)
variable (k n : Nat)
def F83.C : Ctx := cx [⟨125, F125.A, F125.R, c125⟩, ⟨80, F80.A, F80.R, c80⟩, ⟨126, F126.A, F126.R, c126⟩] []
variable (a0 : Bool × LI)
def F83.b : Option (X_Int × X_acceptRange) :=
 (c125 (List.take 1 ([a0] : List X_Int))).bind fun y1 =>
 bif (y1.1 != (0 : Int)) then
 some ((false, ([] : LI)), y1)
 else
 (c80 a0.2).bind fun y2 =>
 (c126 ((!a0.1), y2)).bind fun y3 =>
 some (y3.1, y3.2)
def F83.c : Option (X_Int × X_acceptRange) :=
 (c125 ([a0] : List X_Int)).bind fun y1 =>
 bif (y1.1 != (0 : Int)) then
 some ((false, ([] : LI)), y1)
 else
 (c80 a0.2).bind fun y2 =>
 (c126 (!a0.1, y2)).bind fun y3 =>
 some y3
theorem F83.q : F83.b c125 c80 c126 a0 = F83.c c125 c80 c126 a0 := by
  simp only [F83.b, F83.c, qq]
def F83.f (k : Nat) (a0 : Bool × LI) : Option (X_Int × X_acceptRange) := F83.b c125 c80 c126 a0
theorem F83.e : fn (F83.C c125 c80 c126) k Tryz.f83 F83.A F83.R a0 = F83.f c125 c80 c126 k a0 := by
  kernel_rfl
end
def F83.u (k : Nat) : F83.E := fun y => F83.f (F125.u k) (F80.u k) (F126.u k) k y
theorem F83.sound (k : Nat) : Sound Tryz.prog ⟨83, F83.A, F83.R, F83.u k⟩ := sn gr Tryz.func83 (fun y => F83.e (F125.u k) (F80.u k) (F126.u k) k y) (al (F125.sound k) (al (F80.sound k) (al (F126.sound k) al0)))
/-! ### brindlewood/integer.twos: f165 -/
abbrev F165.A : List Sh := [(.d Y_Int), (.d (.int .i64))]
abbrev F165.R : List Sh := [(.o 109 (.int .u32))]
abbrev F165.E : Type := (X_Int × Int) → Option LI
section
variable (k n : Nat)
def F165.C : Ctx := cx [] [(0, [.o 5 500005 109 (.int .u32), .d 6 (.int .u64), .al 19 5, .d 20 (.int .i64), .d 21 (.int .i64)])]
noncomputable def F165.M_l0 (s : St) : Option LI := lpAt F165.C k n [1, 1, 1, 1, 1, 0, 1, 0] [] Tryz.f165 F165.A F165.R s
noncomputable def F165.fr_l0 (x5 : LI) (x6 : Int) (x20 : Int) (x21 : Int) : St := ⟨((((((List.replicate 40 V.un).set 5 (V.ref 500005 0 0 (List.length x5))).set 6 (V.dat (.int .u64) x6)).set 19 (V.ref 500005 0 0 (List.length x5))).set 20 (V.dat (.int .i64) x20)).set 21 (V.dat (.int .i64) x21)), [⟨500005, 0, .arr 109 (.int .u32) x5⟩]⟩
section
variable (n_l0 : LI → Int → Int → Int → Option LI) (x5 : LI) (x6 x20 x21 : Int)
def F165.b_l0 : Option LI :=
 bif (decide (x21 < x20)) then
 if 0 ≤ x21 ∧ x21 < (((List.length x5) : Nat) : Int) then
 if 0 ≤ x21 ∧ x21 < (((List.length x5) : Nat) : Int) then
 if (List.length x5) = (List.length x5) then
 n_l0 (List.take (List.length x5) (List.set x5 (0 + Int.toNat x21) (IntKind.u32.wrap (IntKind.u64.wrap (x6 + (IntKind.u64.wrap (notI IntKind.u32 (List.getD x5 (0 + Int.toNat x21) (0 : Int))))))))) (Int.fdiv (IntKind.u64.wrap (x6 + (IntKind.u64.wrap (notI IntKind.u32 (List.getD x5 (0 + Int.toNat x21) (0 : Int)))))) (2 ^ min (Int.toNat (32 : Int)) IntKind.u64.bits)) x20 (IntKind.i64.wrap (x21 + (1 : Int)))
 else none
 else none
 else none
 else
 some (List.take (List.length x5) x5)
def F165.c_l0 : Option LI :=
 bif (decide (x21 < x20)) then
 if 0 ≤ x21 ∧ x21 < ((List.length x5) : Int) then
 if 0 ≤ x21 ∧ x21 < ((List.length x5) : Int) then
 n_l0 (List.take (List.length x5) (List.set x5 (0 + Int.toNat x21) (IntKind.u32.wrap (IntKind.u64.wrap (x6 + (IntKind.u64.wrap (notI IntKind.u32 (List.getD x5 (0 + Int.toNat x21) (0 : Int))))))))) (Int.fdiv (IntKind.u64.wrap (x6 + (IntKind.u64.wrap (notI IntKind.u32 (List.getD x5 (0 + Int.toNat x21) (0 : Int)))))) (2 ^ min (Int.toNat (32 : Int)) IntKind.u64.bits)) x20 (IntKind.i64.wrap (x21 + (1 : Int)))
 else none
 else none
 else
 some x5
theorem F165.q_l0 : F165.b_l0 n_l0 x5 x6 x20 x21 = F165.c_l0 n_l0 x5 x6 x20 x21 := by
  simp only [F165.b_l0, F165.c_l0, qq]
def F165.l0 (k : Nat) : Nat → LI → Int → Int → Int → Option LI
  | 0, _, _, _, _ => none
  | n + 1, x5, x6, x20, x21 => F165.b_l0 (fun x5 x6 x20 x21 => F165.l0 k n x5 x6 x20 x21) x5 x6 x20 x21
theorem F165.e_l0 : F165.M_l0 k n (F165.fr_l0 x5 x6 x20 x21) = F165.l0 k n x5 x6 x20 x21 := by
  induction n generalizing x5 x6 x20 x21 with
  | zero => exact lpAt0
  | succ n ih =>
    refine Eq.trans (b := F165.b_l0 (fun x5 x6 x20 x21 => F165.M_l0 k n (F165.fr_l0 x5 x6 x20 x21)) x5 x6 x20 x21) (by kernel_rfl) ?_
    simp only [ih]
    rfl
end
variable (r_l0 : LI → Int → Int → Int → Option LI) (a0 : Bool × LI) (a1 : Int)
def F165.b : Option LI :=
 if a1 = a1 ∧ 0 ≤ a1 ∧ Int.toNat a1 * 4 ≤ LIM ∧ a1 ≤ 140737488355328 then
 if 0 + (Int.toNat a1) ≤ (List.length (List.replicate (Int.toNat a1) (0 : Int))) then
 bif (!a0.1) then
 some (List.take (Int.toNat a1) (List.take 0 (List.replicate (Int.toNat a1) (0 : Int)) ++ List.take (Int.toNat a1) a0.2 ++ List.drop (0 + (min (List.length a0.2) (Int.toNat a1))) (List.replicate (Int.toNat a1) (0 : Int))))
 else
 if (Int.toNat a1) = (Int.toNat a1) then
 r_l0 (List.take (Int.toNat a1) (List.take 0 (List.replicate (Int.toNat a1) (0 : Int)) ++ List.take (Int.toNat a1) a0.2 ++ List.drop (0 + (min (List.length a0.2) (Int.toNat a1))) (List.replicate (Int.toNat a1) (0 : Int)))) (1 : Int) (((Int.toNat a1) : Nat) : Int) (0 : Int)
 else none
 else none
 else none
def F165.c : Option LI :=
 if 0 ≤ a1 ∧ Int.toNat a1 * 4 ≤ LIM ∧ a1 ≤ 140737488355328 then
 if 0 + (Int.toNat a1) ≤ (List.length (List.replicate (Int.toNat a1) (0 : Int))) then
 bif !a0.1 then
 some (List.take (Int.toNat a1) (List.take 0 (List.replicate (Int.toNat a1) (0 : Int)) ++ List.take (Int.toNat a1) a0.2 ++ List.drop ((min (List.length a0.2) (Int.toNat a1))) (List.replicate (Int.toNat a1) (0 : Int))))
 else
 r_l0 (List.take (Int.toNat a1) (List.take 0 (List.replicate (Int.toNat a1) (0 : Int)) ++ List.take (Int.toNat a1) a0.2 ++ List.drop ((min (List.length a0.2) (Int.toNat a1))) (List.replicate (Int.toNat a1) (0 : Int)))) (1 : Int) (((Int.toNat a1) : Nat) : Int) (0 : Int)
 else none
 else none
theorem F165.q : F165.b r_l0 a0 a1 = F165.c r_l0 a0 a1 := by
  simp only [F165.b, F165.c, qq]
def F165.f : Option LI := F165.b (F165.l0 k k) a0 a1
theorem F165.e : fn F165.C k Tryz.f165 F165.A F165.R (a0, a1) = F165.f k a0 a1 := by
  refine Eq.trans (b := F165.b (fun x5 x6 x20 x21 => F165.M_l0 k k (F165.fr_l0 x5 x6 x20 x21)) a0 a1) (by kernel_rfl) ?_
  simp only [F165.e_l0]
  rfl
end
def F165.u (k : Nat) : F165.E := fun y => F165.f k y.1 y.2
theorem F165.sound (k : Nat) : Sound Tryz.prog ⟨165, F165.A, F165.R, F165.u k⟩ := sn gr Tryz.func165 (fun y => F165.e k y.1 y.2) al0
/-! ### brindlewood/integer.back: f166 -/
abbrev F166.A : List Sh := [(.d (.sl 109 (.int .u32)))]
abbrev F166.R : List Sh := [(.d Y_Int), (.d Y_Fault)]
abbrev F166.E : Type := LI → Option (X_Int × X_acceptRange)
section
variable (c165 : F165.E) (c126 : F126.E)
variable (k n : Nat)
def F166.C : Ctx := cx [⟨165, F165.A, F165.R, c165⟩, ⟨126, F126.A, F126.R, c126⟩] [(0, [.d 0 (.sl 109 (.int .u32)), .bx 2 600002 (.pair (.d .bool) (.o 109 (.int .u32))), .bx 3 600003 (.d Y_Fault), .d 4 .bool]), (100006, [.d 0 (.sl 109 (.int .u32)), .bx 2 600002 (.pair (.d .bool) (.o 109 (.int .u32))), .bx 3 600003 (.d Y_Fault), .d 4 .bool])]
noncomputable def F166.M_l0 (s : St) : Option (X_Int × X_acceptRange) := lpAt (F166.C c165 c126) k n [1, 1, 1, 0, 0] [] Tryz.f166 F166.A F166.R s
noncomputable def F166.fr_l0 (x0 : LI) (x2 : Bool × LI) (x3 : Int × Int) (x4 : Bool) : St := ⟨(((((List.replicate 41 V.un).set 0 (V.dat (.sl 109 (.int .u32)) x0)).set 2 (V.bp 600002 0 [])).set 3 (V.bp 600003 0 [])).set 4 (V.dat .bool x4)), [⟨600003, 0, .box (V.dat Y_Fault x3)⟩, ⟨600002, 0, .box (V.st (V.dat .bool x2.1) (V.ref 11600032 0 0 (List.length x2.2)))⟩, ⟨11600032, 0, .arr 109 (.int .u32) x2.2⟩]⟩
noncomputable def F166.M_g6 (s : St) : Option (X_Int × X_acceptRange) := gtAt (F166.C c165 c126) k [1, 1, 1, 1, 0] [] Tryz.f166 F166.A F166.R s
noncomputable def F166.fr_g6 (x0 : LI) (x2 : Bool × LI) (x3 : Int × Int) (x4 : Bool) : St := ⟨(((((List.replicate 41 V.un).set 0 (V.dat (.sl 109 (.int .u32)) x0)).set 2 (V.bp 600002 0 [])).set 3 (V.bp 600003 0 [])).set 4 (V.dat .bool x4)), [⟨600003, 0, .box (V.dat Y_Fault x3)⟩, ⟨600002, 0, .box (V.st (V.dat .bool x2.1) (V.ref 11600032 0 0 (List.length x2.2)))⟩, ⟨11600032, 0, .arr 109 (.int .u32) x2.2⟩]⟩
section
variable (x0 : LI) (x2 : Bool × LI) (x3 : Int × Int) (x4 : Bool)
def F166.b_g6 (c165 : F165.E) (c126 : F126.E) (x0 : LI) (x2 : Bool × LI) (x3 : Int × Int) (x4 : Bool) : Option (X_Int × X_acceptRange) :=
 (c126 (x4, x0)).bind fun y2 =>
 some (y2.1, y2.2)
def F166.c_g6 (c165 : F165.E) (c126 : F126.E) (x0 : LI) (x2 : Bool × LI) (x3 : Int × Int) (x4 : Bool) : Option (X_Int × X_acceptRange) :=
 (c126 (x4, x0)).bind fun y2 =>
 some y2
theorem F166.q_g6 : F166.b_g6 c165 c126 x0 x2 x3 x4 = F166.c_g6 c165 c126 x0 x2 x3 x4 := by
  simp only [F166.b_g6, F166.c_g6, qq]
def F166.g6 : Option (X_Int × X_acceptRange) := gate k (F166.b_g6 c165 c126 x0 x2 x3 x4)
theorem F166.e_g6 : F166.M_g6 c165 c126 k (F166.fr_g6 x0 x2 x3 x4) = F166.g6 c165 c126 k x0 x2 x3 x4 := by
  kernel_rfl
end
section
variable (n_l0 r_g6 : LI → X_Int → X_acceptRange → Bool → Option (X_Int × X_acceptRange)) (x0 : LI) (x2 : Bool × LI) (x3 : Int × Int) (x4 : Bool)
def F166.b_l0 (c165 : F165.E) (c126 : F126.E) (n_l0 : LI → X_Int → X_acceptRange → Bool → Option (X_Int × X_acceptRange)) (r_g6 : LI → X_Int → X_acceptRange → Bool → Option (X_Int × X_acceptRange)) (x0 : LI) (x2 : Bool × LI) (x3 : Int × Int) (x4 : Bool) : Option (X_Int × X_acceptRange) :=
 bif (decide (((List.length x0) : Int) > (0 : Int))) then
 if 0 ≤ (IntKind.i64.wrap (((List.length x0) : Int) - (1 : Int))) ∧ (IntKind.i64.wrap (((List.length x0) : Int) - (1 : Int))) < ((List.length x0) : Int) then
 bif ((List.getD x0 (Int.toNat (IntKind.i64.wrap (((List.length x0) : Int) - (1 : Int)))) (0 : Int)) == (0 : Int)) then
 if 0 ≤ (0 : Int) ∧ (0 : Int) ≤ (IntKind.i64.wrap (((List.length x0) : Int) - (1 : Int))) ∧ (IntKind.i64.wrap (((List.length x0) : Int) - (1 : Int))) ≤ ((List.length x0) : Int) then
 n_l0 (List.drop (Int.toNat (0 : Int)) (List.take (Int.toNat (IntKind.i64.wrap (((List.length x0) : Int) - (1 : Int)))) x0)) (x2.1, (List.take (List.length x2.2) x2.2)) x3 x4
 else none
 else
 r_g6 x0 (x2.1, (List.take (List.length x2.2) x2.2)) x3 x4
 else none
 else
 r_g6 x0 (x2.1, (List.take (List.length x2.2) x2.2)) x3 x4
def F166.c_l0 (c165 : F165.E) (c126 : F126.E) (n_l0 : LI → X_Int → X_acceptRange → Bool → Option (X_Int × X_acceptRange)) (r_g6 : LI → X_Int → X_acceptRange → Bool → Option (X_Int × X_acceptRange)) (x0 : LI) (x2 : Bool × LI) (x3 : Int × Int) (x4 : Bool) : Option (X_Int × X_acceptRange) :=
 bif (decide (((List.length x0) : Int) > (0 : Int))) then
 if 0 ≤ (IntKind.i64.wrap (((List.length x0) : Int) - (1 : Int))) ∧ (IntKind.i64.wrap (((List.length x0) : Int) - (1 : Int))) < ((List.length x0) : Int) then
 bif ((List.getD x0 (Int.toNat (IntKind.i64.wrap (((List.length x0) : Int) - (1 : Int)))) (0 : Int)) == (0 : Int)) then
 if (0 : Int) ≤ (IntKind.i64.wrap (((List.length x0) : Int) - (1 : Int))) ∧ (IntKind.i64.wrap (((List.length x0) : Int) - (1 : Int))) ≤ ((List.length x0) : Int) then
 n_l0 (List.take (Int.toNat (IntKind.i64.wrap (((List.length x0) : Int) - (1 : Int)))) x0) x2 x3 x4
 else none
 else
 r_g6 x0 x2 x3 x4
 else none
 else
 r_g6 x0 x2 x3 x4
theorem F166.q_l0 : F166.b_l0 c165 c126 n_l0 r_g6 x0 x2 x3 x4 = F166.c_l0 c165 c126 n_l0 r_g6 x0 x2 x3 x4 := by
  simp only [F166.b_l0, F166.c_l0, qq]
def F166.l0 : Nat → LI → X_Int → X_acceptRange → Bool → Option (X_Int × X_acceptRange)
  | 0, _, _, _, _ => none
  | n + 1, x0, x2, x3, x4 => F166.b_l0 c165 c126 (fun x0 x2 x3 x4 => F166.l0 n x0 x2 x3 x4) (F166.g6 c165 c126 k) x0 x2 x3 x4
theorem F166.e_l0 : F166.M_l0 c165 c126 k n (F166.fr_l0 x0 x2 x3 x4) = F166.l0 c165 c126 k n x0 x2 x3 x4 := by
  induction n generalizing x0 x2 x3 x4 with
  | zero => exact lpAt0
  | succ n ih =>
    refine Eq.trans (b := F166.b_l0 c165 c126 (fun x0 x2 x3 x4 => F166.M_l0 c165 c126 k n (F166.fr_l0 x0 x2 x3 x4)) (fun x0 x2 x3 x4 => F166.M_g6 c165 c126 k (F166.fr_g6 x0 x2 x3 x4)) x0 x2 x3 x4) (by kernel_rfl) ?_
    simp only [F166.e_g6, ih]
    rfl
end
variable (r_l0 : LI → X_Int → X_acceptRange → Bool → Option (X_Int × X_acceptRange)) (a0 : LI)
def F166.b (c126 : F126.E) (r_l0 : LI → X_Int → X_acceptRange → Bool → Option (X_Int × X_acceptRange)) (a0 : LI) : Option (X_Int × X_acceptRange) :=
 if 0 ≤ (IntKind.i64.wrap (((List.length a0) : Int) - (1 : Int))) ∧ (IntKind.i64.wrap (((List.length a0) : Int) - (1 : Int))) < ((List.length a0) : Int) then
 bif ((Int.fdiv (List.getD a0 (Int.toNat (IntKind.i64.wrap (((List.length a0) : Int) - (1 : Int)))) (0 : Int)) (2 ^ min (Int.toNat (31 : Int)) IntKind.u32.bits)) == (1 : Int)) then
 (c165 ((true, a0), ((List.length a0) : Int))).bind fun y1 =>
 r_l0 (List.take (List.length y1) y1) (false, ([] : LI)) ((0 : Int), (0 : Int)) ((Int.fdiv (List.getD a0 (Int.toNat (IntKind.i64.wrap (((List.length a0) : Int) - (1 : Int)))) (0 : Int)) (2 ^ min (Int.toNat (31 : Int)) IntKind.u32.bits)) == (1 : Int))
 else
 r_l0 a0 (false, ([] : LI)) ((0 : Int), (0 : Int)) ((Int.fdiv (List.getD a0 (Int.toNat (IntKind.i64.wrap (((List.length a0) : Int) - (1 : Int)))) (0 : Int)) (2 ^ min (Int.toNat (31 : Int)) IntKind.u32.bits)) == (1 : Int))
 else none
def F166.c (c126 : F126.E) (r_l0 : LI → X_Int → X_acceptRange → Bool → Option (X_Int × X_acceptRange)) (a0 : LI) : Option (X_Int × X_acceptRange) :=
 if 0 ≤ (IntKind.i64.wrap (((List.length a0) : Int) - (1 : Int))) ∧ (IntKind.i64.wrap (((List.length a0) : Int) - (1 : Int))) < ((List.length a0) : Int) then
 bif ((Int.fdiv (List.getD a0 (Int.toNat (IntKind.i64.wrap (((List.length a0) : Int) - (1 : Int)))) (0 : Int)) (2 ^ min (Int.toNat (31 : Int)) IntKind.u32.bits)) == (1 : Int)) then
 (c165 ((true, a0), ((List.length a0) : Int))).bind fun y1 =>
 r_l0 y1 (false, ([] : LI)) ((0 : Int), (0 : Int)) ((Int.fdiv (List.getD a0 (Int.toNat (IntKind.i64.wrap (((List.length a0) : Int) - (1 : Int)))) (0 : Int)) (2 ^ min (Int.toNat (31 : Int)) IntKind.u32.bits)) == (1 : Int))
 else
 r_l0 a0 (false, ([] : LI)) ((0 : Int), (0 : Int)) ((Int.fdiv (List.getD a0 (Int.toNat (IntKind.i64.wrap (((List.length a0) : Int) - (1 : Int)))) (0 : Int)) (2 ^ min (Int.toNat (31 : Int)) IntKind.u32.bits)) == (1 : Int))
 else none
theorem F166.q : F166.b c165 c126 r_l0 a0 = F166.c c165 c126 r_l0 a0 := by
  simp only [F166.b, F166.c, qq]
def F166.f : Option (X_Int × X_acceptRange) := F166.b c165 c126 (F166.l0 c165 c126 k k) a0
theorem F166.e : fn (F166.C c165 c126) k Tryz.f166 F166.A F166.R a0 = F166.f c165 c126 k a0 := by
  refine Eq.trans (b := F166.b c165 c126 (fun x0 x2 x3 x4 => F166.M_l0 c165 c126 k k (F166.fr_l0 x0 x2 x3 x4)) a0) (by kernel_rfl) ?_
  simp only [F166.e_l0]
  rfl
end
def F166.u (k : Nat) : F166.E := fun y => F166.f (F165.u k) (F126.u k) k y
theorem F166.sound (k : Nat) : Sound Tryz.prog ⟨166, F166.A, F166.R, F166.u k⟩ := sn gr Tryz.func166 (fun y => F166.e (F165.u k) (F126.u k) k y) (al (F165.sound k) (al (F126.sound k) al0))
/-! ### brindlewood/integer.bitwise: f128 -/
abbrev F128.A : List Sh := [(.d Y_Int), (.d Y_Int), (.fn (.pair (.int .u32) (.pair (.int .u32) .unit)) (.int .u32))]
abbrev F128.R : List Sh := [(.d Y_Int), (.d Y_Fault)]
abbrev F128.E : Type := (X_Int × (X_Int × ((Int × (Int × (Unit))) → Option Int))) → Option (X_Int × X_acceptRange)
section
variable (c125 : F125.E) (c165 : F165.E) (c166 : F166.E)
variable (k n : Nat)
def F128.C : Ctx := cx [⟨125, F125.A, F125.R, c125⟩, ⟨165, F165.A, F165.R, c165⟩, ⟨166, F166.A, F166.R, c166⟩] [(0, [.cp 2, .bx 6 600006 (.pair (.d .bool) (.o 109 (.int .u32))), .bx 7 600007 (.d Y_Fault), .o 10 500010 109 (.int .u32), .o 11 500011 109 (.int .u32), .d 37 (.int .i64), .d 38 (.int .i64)])]
noncomputable def F128.M_l0 (s : St) : Option (X_Int × X_acceptRange) := lpAt (F128.C c125 c165 c166) k n [1, 1, 1, 1, 0, 1, 0] [] Tryz.f128 F128.A F128.R s
noncomputable def F128.fr_l0 (x2 : (Int × (Int × (Unit))) → Option Int) (x6 : Bool × LI) (x7 : Int × Int) (x10 : LI) (x11 : LI) (x37 : Int) (x38 : Int) : St := ⟨((((((((List.replicate 59 V.un).set 2 (V.fnv (.pair (.int .u32) (.pair (.int .u32) .unit)) (.int .u32) x2)).set 6 (V.bp 600006 0 [])).set 7 (V.bp 600007 0 [])).set 10 (V.ref 500010 0 0 (List.length x10))).set 11 (V.ref 500011 0 0 (List.length x11))).set 37 (V.dat (.int .i64) x37)).set 38 (V.dat (.int .i64) x38)), [⟨500011, 0, .arr 109 (.int .u32) x11⟩, ⟨500010, 0, .arr 109 (.int .u32) x10⟩, ⟨600007, 0, .box (V.dat Y_Fault x7)⟩, ⟨600006, 0, .box (V.st (V.dat .bool x6.1) (V.ref 11600096 0 0 (List.length x6.2)))⟩, ⟨11600096, 0, .arr 109 (.int .u32) x6.2⟩]⟩
section
variable (n_l0 : ((Int × (Int × (Unit))) → Option Int) → X_Int → X_acceptRange → LI → LI → Int → Int → Option (X_Int × X_acceptRange)) (x2 : (Int × (Int × (Unit))) → Option Int) (x6 : Bool × LI) (x7 : Int × Int) (x10 x11 : LI) (x37 x38 : Int)
def F128.b_l0 (c125 : F125.E) (c165 : F165.E) (c166 : F166.E) (n_l0 : ((Int × (Int × (Unit))) → Option Int) → X_Int → X_acceptRange → LI → LI → Int → Int → Option (X_Int × X_acceptRange)) (x2 : (Int × (Int × (Unit))) → Option Int) (x6 : Bool × LI) (x7 : Int × Int) (x10 : LI) (x11 : LI) (x37 : Int) (x38 : Int) : Option (X_Int × X_acceptRange) :=
 bif (decide (x38 < x37)) then
 if 0 ≤ x38 ∧ x38 < (((List.length x10) : Nat) : Int) then
 if 0 ≤ x38 ∧ x38 < (((List.length x11) : Nat) : Int) then
 (x2 ((List.getD x10 (0 + Int.toNat x38) (0 : Int)), ((List.getD x11 (0 + Int.toNat x38) (0 : Int)), ()))).bind fun y4 =>
 if 0 ≤ x38 ∧ x38 < (((List.length x10) : Nat) : Int) then
 n_l0 x2 (x6.1, (List.take (List.length x6.2) x6.2)) x7 (List.take (List.length x10) (List.set x10 (0 + Int.toNat x38) y4)) (List.take (List.length x11) x11) x37 (IntKind.i64.wrap (x38 + (1 : Int)))
 else none
 else none
 else none
 else
 (c166 (List.take (List.length x10) x10)).bind fun y5 =>
 some (y5.1, y5.2)
def F128.c_l0 (c125 : F125.E) (c165 : F165.E) (c166 : F166.E) (n_l0 : ((Int × (Int × (Unit))) → Option Int) → X_Int → X_acceptRange → LI → LI → Int → Int → Option (X_Int × X_acceptRange)) (x2 : (Int × (Int × (Unit))) → Option Int) (x6 : Bool × LI) (x7 : Int × Int) (x10 : LI) (x11 : LI) (x37 : Int) (x38 : Int) : Option (X_Int × X_acceptRange) :=
 bif (decide (x38 < x37)) then
 if 0 ≤ x38 ∧ x38 < ((List.length x10) : Int) then
 if 0 ≤ x38 ∧ x38 < ((List.length x11) : Int) then
 (x2 ((List.getD x10 (0 + Int.toNat x38) (0 : Int)), ((List.getD x11 (0 + Int.toNat x38) (0 : Int)), ()))).bind fun y4 =>
 if 0 ≤ x38 ∧ x38 < ((List.length x10) : Int) then
 n_l0 x2 x6 x7 (List.take (List.length x10) (List.set x10 (0 + Int.toNat x38) y4)) x11 x37 (IntKind.i64.wrap (x38 + (1 : Int)))
 else none
 else none
 else none
 else
 (c166 x10).bind fun y5 =>
 some y5
theorem F128.q_l0 : F128.b_l0 c125 c165 c166 n_l0 x2 x6 x7 x10 x11 x37 x38 = F128.c_l0 c125 c165 c166 n_l0 x2 x6 x7 x10 x11 x37 x38 := by
  simp only [F128.b_l0, F128.c_l0, qq]
def F128.l0 (k : Nat) : Nat → ((Int × (Int × (Unit))) → Option Int) → X_Int → X_acceptRange → LI → LI → Int → Int → Option (X_Int × X_acceptRange)
  | 0, _, _, _, _, _, _, _ => none
  | n + 1, x2, x6, x7, x10, x11, x37, x38 => F128.b_l0 c125 c165 c166 (fun x2 x6 x7 x10 x11 x37 x38 => F128.l0 k n x2 x6 x7 x10 x11 x37 x38) x2 x6 x7 x10 x11 x37 x38
theorem F128.e_l0 : F128.M_l0 c125 c165 c166 k n (F128.fr_l0 x2 x6 x7 x10 x11 x37 x38) = F128.l0 c125 c165 c166 k n x2 x6 x7 x10 x11 x37 x38 := by
  induction n generalizing x2 x6 x7 x10 x11 x37 x38 with
  | zero => exact lpAt0
  | succ n ih =>
    refine Eq.trans (b := F128.b_l0 c125 c165 c166 (fun x2 x6 x7 x10 x11 x37 x38 => F128.M_l0 c125 c165 c166 k n (F128.fr_l0 x2 x6 x7 x10 x11 x37 x38)) x2 x6 x7 x10 x11 x37 x38) (by kernel_rfl) ?_
    simp only [ih]
    rfl
end
variable (r_l0 : ((Int × (Int × (Unit))) → Option Int) → X_Int → X_acceptRange → LI → LI → Int → Int → Option (X_Int × X_acceptRange)) (a0 a1 : Bool × LI) (a2 : (Int × (Int × (Unit))) → Option Int)
def F128.b (c166 : F166.E) (r_l0 : ((Int × (Int × (Unit))) → Option Int) → X_Int → X_acceptRange → LI → LI → Int → Int → Option (X_Int × X_acceptRange)) (a0 : Bool × LI) (a1 : Bool × LI) (a2 : (Int × (Int × (Unit))) → Option Int) : Option (X_Int × X_acceptRange) :=
 (c125 (List.take 2 ([a0, a1] : List X_Int))).bind fun y1 =>
 bif (y1.1 != (0 : Int)) then
 some ((false, ([] : LI)), y1)
 else
 (c165 (a0, (IntKind.i64.wrap ((if ((List.length a1.2) : Int) > ((List.length a0.2) : Int) then ((List.length a1.2) : Int) else ((List.length a0.2) : Int)) + (1 : Int))))).bind fun y2 =>
 (c165 (a1, (IntKind.i64.wrap ((if ((List.length a1.2) : Int) > ((List.length a0.2) : Int) then ((List.length a1.2) : Int) else ((List.length a0.2) : Int)) + (1 : Int))))).bind fun y3 =>
 r_l0 a2 (false, ([] : LI)) ((0 : Int), (0 : Int)) (List.take (List.length y2) y2) (List.take (List.length y3) y3) (((List.length y2) : Nat) : Int) (0 : Int)
def F128.c (c166 : F166.E) (r_l0 : ((Int × (Int × (Unit))) → Option Int) → X_Int → X_acceptRange → LI → LI → Int → Int → Option (X_Int × X_acceptRange)) (a0 : Bool × LI) (a1 : Bool × LI) (a2 : (Int × (Int × (Unit))) → Option Int) : Option (X_Int × X_acceptRange) :=
 (c125 (List.take 2 ([a0, a1] : List X_Int))).bind fun y1 =>
 bif (y1.1 != (0 : Int)) then
 some ((false, ([] : LI)), y1)
 else
 (c165 (a0, (IntKind.i64.wrap ((if ((List.length a1.2) : Int) > ((List.length a0.2) : Int) then ((List.length a1.2) : Int) else ((List.length a0.2) : Int)) + (1 : Int))))).bind fun y2 =>
 (c165 (a1, (IntKind.i64.wrap ((if ((List.length a1.2) : Int) > ((List.length a0.2) : Int) then ((List.length a1.2) : Int) else ((List.length a0.2) : Int)) + (1 : Int))))).bind fun y3 =>
 r_l0 a2 (false, ([] : LI)) ((0 : Int), (0 : Int)) y2 y3 ((List.length y2) : Int) (0 : Int)
theorem F128.q : F128.b c125 c165 c166 r_l0 a0 a1 a2 = F128.c c125 c165 c166 r_l0 a0 a1 a2 := by
  simp only [F128.b, F128.c, qq]
def F128.f : Option (X_Int × X_acceptRange) := F128.b c125 c165 c166 (F128.l0 c125 c165 c166 k k) a0 a1 a2
theorem F128.e : fn (F128.C c125 c165 c166) k Tryz.f128 F128.A F128.R (a0, (a1, a2)) = F128.f c125 c165 c166 k a0 a1 a2 := by
  refine Eq.trans (b := F128.b c125 c165 c166 (fun x2 x6 x7 x10 x11 x37 x38 => F128.M_l0 c125 c165 c166 k k (F128.fr_l0 x2 x6 x7 x10 x11 x37 x38)) a0 a1 a2) (by kernel_rfl) ?_
  simp only [F128.e_l0]
  rfl
end
def F128.u (k : Nat) : F128.E := fun y => F128.f (F125.u k) (F165.u k) (F166.u k) k y.1 y.2.1 y.2.2
theorem F128.sound (k : Nat) : Sound Tryz.prog ⟨128, F128.A, F128.R, F128.u k⟩ := sn gr Tryz.func128 (fun y => F128.e (F125.u k) (F165.u k) (F166.u k) k y.1 y.2.1 y.2.2) (al (F125.sound k) (al (F165.sound k) (al (F166.sound k) al0)))
/-! ### brindlewood/integer.Not$1: f129 -/
abbrev F129.A : List Sh := [(.d (.int .u32)), (.d (.int .u32))]
abbrev F129.R : List Sh := [(.d (.int .u32))]
abbrev F129.E : Type := X_acceptRange → Option Int
section
variable (k n : Nat)
def F129.C : Ctx := cx [] []
variable (a0 a1 : Int)
def F129.b (a1 : Int) : Option Int :=
 some (notI IntKind.u32 a0)
def F129.f (k : Nat) (a0 : Int) (a1 : Int) : Option Int := F129.b a0 a1
theorem F129.e : fn F129.C k Tryz.f129 F129.A F129.R (a0, a1) = F129.f k a0 a1 := by
  kernel_rfl
end
def F129.u (k : Nat) : F129.E := fun y => F129.f k y.1 y.2
theorem F129.sound (k : Nat) : Sound Tryz.prog ⟨129, F129.A, F129.R, F129.u k⟩ := sn gr Tryz.func129 (fun y => F129.e k y.1 y.2) al0
/-! ### brindlewood/integer.Not: f85 -/
abbrev F85.A : List Sh := [(.d Y_Int)]
abbrev F85.R : List Sh := [(.d Y_Int), (.d Y_Fault)]
abbrev F85.E : Type := X_Int → Option (X_Int × X_acceptRange)
section
variable (c128 : F128.E) (c129 : F129.E)
variable (k n : Nat)
def F85.C : Ctx := cx [⟨128, F128.A, F128.R, c128⟩, ⟨129, F129.A, F129.R, c129⟩] []
variable (a0 : Bool × LI)
def F85.b : Option (X_Int × X_acceptRange) :=
 (c128 (a0, ((false, ([] : LI)), (fun z1 => (c129 (z1.1, z1.2.1)).bind some)))).bind fun y2 =>
 some (y2.1, y2.2)
def F85.c : Option (X_Int × X_acceptRange) :=
 (c128 (a0, ((false, ([] : LI)), (fun z1 => (c129 (z1.1, z1.2.1)).bind some)))).bind fun y2 =>
 some y2
theorem F85.q : F85.b c128 c129 a0 = F85.c c128 c129 a0 := by
  simp only [F85.b, F85.c, qq]
def F85.f (k : Nat) (a0 : Bool × LI) : Option (X_Int × X_acceptRange) := F85.b c128 c129 a0
theorem F85.e : fn (F85.C c128 c129) k Tryz.f85 F85.A F85.R a0 = F85.f c128 c129 k a0 := by
  kernel_rfl
end
def F85.u (k : Nat) : F85.E := fun y => F85.f (F128.u k) (F129.u k) k y
theorem F85.sound (k : Nat) : Sound Tryz.prog ⟨85, F85.A, F85.R, F85.u k⟩ := sn gr Tryz.func85 (fun y => F85.e (F128.u k) (F129.u k) k y) (al (F128.sound k) (al (F129.sound k) al0))
/-! ### brindlewood/operators.raise: f33 -/
abbrev F33.A : List Sh := [(.d (.int .i64)), (.d .str)]
abbrev F33.R : List Sh := [(.d Y_Step)]
abbrev F33.E : Type := (Int × LB) → Option X_Step
section
variable (k n : Nat)
def F33.C : Ctx := cx [] []
variable (a0 : Int) (a1 : LB)
def F33.b : Option X_Step :=
 some ((1 : Int), (((0 : Int), ((false, ([] : LI)), ((false, ([] : LI)), ([], (0 : Int))))), (a0, (a1, (((0 : Int), ((false, ([] : LI)), ((false, ([] : LI)), ([], (0 : Int))))), ([] : LV))))))
def F33.f (k : Nat) (a0 : Int) (a1 : LB) : Option X_Step := F33.b a0 a1
theorem F33.e : fn F33.C k Tryz.f33 F33.A F33.R (a0, a1) = F33.f k a0 a1 := by
  kernel_rfl
end
def F33.u (k : Nat) : F33.E := fun y => F33.f k y.1 y.2
theorem F33.sound (k : Nat) : Sound Tryz.prog ⟨33, F33.A, F33.R, F33.u k⟩ := sn gr Tryz.func33 (fun y => F33.e k y.1 y.2) al0
/-! ### brindlewood/operators.limit: f164 -/
abbrev F164.A : List Sh := []
abbrev F164.R : List Sh := [(.d Y_Step)]
abbrev F164.E : Type := (Unit) → Option X_Step
section
variable (c33 : F33.E)
variable (k n : Nat)
def F164.C : Ctx := cx [⟨33, F33.A, F33.R, c33⟩] []
def F164.b : Option X_Step :=
 (c33 ((42 : Int), [118, 97, 108, 117, 101, 32, 105, 115, 32, 116, 111, 111, 32, 108, 97, 114, 103, 101])).bind fun y1 =>
 some y1
def F164.f (k : Nat) : Option X_Step := F164.b c33
theorem F164.e : fn (F164.C c33) k Tryz.f164 F164.A F164.R () = F164.f c33 k := by
  kernel_rfl
end
def F164.u (k : Nat) : F164.E := fun y => F164.f (F33.u k) k
theorem F164.sound (k : Nat) : Sound Tryz.prog ⟨164, F164.A, F164.R, F164.u k⟩ := sn gr Tryz.func164 (fun y => F164.e (F33.u k) k) (al (F33.sound k) al0)
/-! ### brindlewood/operators.failed: f127 -/
abbrev F127.A : List Sh := [(.d Y_Fault)]
abbrev F127.R : List Sh := [(.d Y_Step), (.d .bool)]
abbrev F127.E : Type := X_acceptRange → Option (X_Step × Bool)
section
variable (c33 : F33.E) (c164 : F164.E)
variable (k n : Nat)
def F127.C : Ctx := cx [⟨33, F33.A, F33.R, c33⟩, ⟨164, F164.A, F164.R, c164⟩] []
variable (a0 : Int × Int)
def F127.b : Option (X_Step × Bool) :=
 bif (a0.1 == (0 : Int)) then
 some (((0 : Int), (((0 : Int), ((false, ([] : LI)), ((false, ([] : LI)), ([], (0 : Int))))), ((0 : Int), ([], (((0 : Int), ((false, ([] : LI)), ((false, ([] : LI)), ([], (0 : Int))))), ([] : LV)))))), false)
 else
 bif (a0.1 == (22 : Int)) then
 (c33 ((41 : Int), [100, 105, 118, 105, 115, 105, 111, 110, 32, 98, 121, 32, 122, 101, 114, 111])).bind fun y1 =>
 some (y1, true)
 else
 (c164 ()).bind fun y2 =>
 some (y2, true)
def F127.f (k : Nat) (a0 : Int × Int) : Option (X_Step × Bool) := F127.b c33 c164 a0
theorem F127.e : fn (F127.C c33 c164) k Tryz.f127 F127.A F127.R a0 = F127.f c33 c164 k a0 := by
  kernel_rfl
end
def F127.u (k : Nat) : F127.E := fun y => F127.f (F33.u k) (F164.u k) k y
theorem F127.sound (k : Nat) : Sound Tryz.prog ⟨127, F127.A, F127.R, F127.u k⟩ := sn gr Tryz.func127 (fun y => F127.e (F33.u k) (F164.u k) k y) (al (F33.sound k) (al (F164.sound k) al0))
/-! ### brindlewood/operators.whole: f84 -/
abbrev F84.A : List Sh := [(.d Y_Int), (.d Y_Fault)]
abbrev F84.R : List Sh := [(.d Y_Step)]
abbrev F84.E : Type := (X_Int × X_acceptRange) → Option X_Step
section
variable (c127 : F127.E) (c82 : F82.E)
variable (k n : Nat)
def F84.C : Ctx := cx [⟨127, F127.A, F127.R, c127⟩, ⟨82, F82.A, F82.R, c82⟩] []
variable (a0 : Bool × LI) (a1 : Int × Int)
def F84.b : Option X_Step :=
 (c127 a1).bind fun y1 =>
 bif y1.2 then
 some y1.1
 else
 (c82 ((2 : Int), (a0, ((false, ([] : LI)), ([], (0 : Int)))))).bind fun y2 =>
 some y2
def F84.f (k : Nat) (a0 : Bool × LI) (a1 : Int × Int) : Option X_Step := F84.b c127 c82 a0 a1
theorem F84.e : fn (F84.C c127 c82) k Tryz.f84 F84.A F84.R (a0, a1) = F84.f c127 c82 k a0 a1 := by
  kernel_rfl
end
def F84.u (k : Nat) : F84.E := fun y => F84.f (F127.u k) (F82.u k) k y.1 y.2
theorem F84.sound (k : Nat) : Sound Tryz.prog ⟨84, F84.A, F84.R, F84.u k⟩ := sn gr Tryz.func84 (fun y => F84.e (F127.u k) (F82.u k) k y.1 y.2) (al (F127.sound k) (al (F82.sound k) al0))
/-! ### brindlewood/operators.unary: f32 -/
abbrev F32.A : List Sh := [(.d (.int .i64)), (.d Y_Value)]
abbrev F32.R : List Sh := [(.d Y_Step), (.d .bool)]
abbrev F32.E : Type := (Int × X_Value) → Option (X_Step × Bool)
section
variable (c82 : F82.E) (c83 : F83.E) (c85 : F85.E) (c84 : F84.E)
variable (k n : Nat)
def F32.C : Ctx := cx [⟨82, F82.A, F82.R, c82⟩, ⟨83, F83.A, F83.R, c83⟩, ⟨85, F85.A, F85.R, c85⟩, ⟨84, F84.A, F84.R, c84⟩] [(100003, [.d 0 (.int .i64), .bx 3 600003 (.d Y_Value), .bx 4 600004 (.pair (.d (.int .i64)) (.pair (.pair (.d (.int .i64)) (.pair (.pair (.d .bool) (.o 109 (.int .u32))) (.pair (.pair (.d .bool) (.o 109 (.int .u32))) (.d (.pair .str (.int .i64)))))) (.pair (.d (.int .i64)) (.pair (.d .str) (.pair (.pair (.d (.int .i64)) (.pair (.pair (.d .bool) (.o 109 (.int .u32))) (.pair (.pair (.d .bool) (.o 109 (.int .u32))) (.d (.pair .str (.int .i64)))))) (.o 29 Y_Value))))))]), (100004, [.bx 3 600003 (.d Y_Value), .bx 4 600004 (.pair (.d (.int .i64)) (.pair (.pair (.d (.int .i64)) (.pair (.pair (.d .bool) (.o 109 (.int .u32))) (.pair (.pair (.d .bool) (.o 109 (.int .u32))) (.d (.pair .str (.int .i64)))))) (.pair (.d (.int .i64)) (.pair (.d .str) (.pair (.pair (.d (.int .i64)) (.pair (.pair (.d .bool) (.o 109 (.int .u32))) (.pair (.pair (.d .bool) (.o 109 (.int .u32))) (.d (.pair .str (.int .i64)))))) (.o 29 Y_Value))))))]), (100007, [.d 0 (.int .i64), .bx 3 600003 (.d Y_Value), .bx 4 600004 (.pair (.d (.int .i64)) (.pair (.pair (.d (.int .i64)) (.pair (.pair (.d .bool) (.o 109 (.int .u32))) (.pair (.pair (.d .bool) (.o 109 (.int .u32))) (.d (.pair .str (.int .i64)))))) (.pair (.d (.int .i64)) (.pair (.d .str) (.pair (.pair (.d (.int .i64)) (.pair (.pair (.d .bool) (.o 109 (.int .u32))) (.pair (.pair (.d .bool) (.o 109 (.int .u32))) (.d (.pair .str (.int .i64)))))) (.o 29 Y_Value))))))])]
noncomputable def F32.M_g3 (s : St) : Option (X_Step × Bool) := gtAt (F32.C c82 c83 c85 c84) k [1, 0, 0, 1, 1, 0] [] Tryz.f32 F32.A F32.R s
noncomputable def F32.fr_g3 (x0 : Int) (x3 : Int × (X_Int × (X_Int × X_errorAddressString))) (x4 : Int × (X_Value × (Int × (LB × (X_Value × LV))))) : St := ⟨((((List.replicate 61 V.un).set 0 (V.dat (.int .i64) x0)).set 3 (V.bp 600003 0 [])).set 4 (V.bp 600004 0 [])), [⟨600004, 0, .box (V.st (V.dat (.int .i64) x4.1) (V.st (V.st (V.dat (.int .i64) x4.2.1.1) (V.st (V.st (V.dat .bool x4.2.1.2.1.1) (V.ref 11600064 0 0 (List.length x4.2.1.2.1.2))) (V.st (V.st (V.dat .bool x4.2.1.2.2.1.1) (V.ref 11600065 0 0 (List.length x4.2.1.2.2.1.2))) (V.dat (.pair .str (.int .i64)) x4.2.1.2.2.2)))) (V.st (V.dat (.int .i64) x4.2.2.1) (V.st (V.dat .str x4.2.2.2.1) (V.st (V.st (V.dat (.int .i64) x4.2.2.2.2.1.1) (V.st (V.st (V.dat .bool x4.2.2.2.2.1.2.1.1) (V.ref 11600066 0 0 (List.length x4.2.2.2.2.1.2.1.2))) (V.st (V.st (V.dat .bool x4.2.2.2.2.1.2.2.1.1) (V.ref 11600067 0 0 (List.length x4.2.2.2.2.1.2.2.1.2))) (V.dat (.pair .str (.int .i64)) x4.2.2.2.2.1.2.2.2)))) (V.ref 11600068 0 0 (List.length x4.2.2.2.2.2)))))))⟩, ⟨11600064, 0, .arr 109 (.int .u32) x4.2.1.2.1.2⟩, ⟨11600065, 0, .arr 109 (.int .u32) x4.2.1.2.2.1.2⟩, ⟨11600066, 0, .arr 109 (.int .u32) x4.2.2.2.2.1.2.1.2⟩, ⟨11600067, 0, .arr 109 (.int .u32) x4.2.2.2.2.1.2.2.1.2⟩, ⟨11600068, 0, .arr 29 Y_Value x4.2.2.2.2.2⟩, ⟨600003, 0, .box (V.dat Y_Value x3)⟩]⟩
noncomputable def F32.M_g4 (s : St) : Option (X_Step × Bool) := gtAt (F32.C c82 c83 c85 c84) k [1, 0, 0, 1, 1, 1, 0, 0] [] Tryz.f32 F32.A F32.R s
noncomputable def F32.fr_g4 (x3 : Int × (X_Int × (X_Int × X_errorAddressString))) (x4 : Int × (X_Value × (Int × (LB × (X_Value × LV))))) : St := ⟨(((List.replicate 61 V.un).set 3 (V.bp 600003 0 [])).set 4 (V.bp 600004 0 [])), [⟨600004, 0, .box (V.st (V.dat (.int .i64) x4.1) (V.st (V.st (V.dat (.int .i64) x4.2.1.1) (V.st (V.st (V.dat .bool x4.2.1.2.1.1) (V.ref 11600064 0 0 (List.length x4.2.1.2.1.2))) (V.st (V.st (V.dat .bool x4.2.1.2.2.1.1) (V.ref 11600065 0 0 (List.length x4.2.1.2.2.1.2))) (V.dat (.pair .str (.int .i64)) x4.2.1.2.2.2)))) (V.st (V.dat (.int .i64) x4.2.2.1) (V.st (V.dat .str x4.2.2.2.1) (V.st (V.st (V.dat (.int .i64) x4.2.2.2.2.1.1) (V.st (V.st (V.dat .bool x4.2.2.2.2.1.2.1.1) (V.ref 11600066 0 0 (List.length x4.2.2.2.2.1.2.1.2))) (V.st (V.st (V.dat .bool x4.2.2.2.2.1.2.2.1.1) (V.ref 11600067 0 0 (List.length x4.2.2.2.2.1.2.2.1.2))) (V.dat (.pair .str (.int .i64)) x4.2.2.2.2.1.2.2.2)))) (V.ref 11600068 0 0 (List.length x4.2.2.2.2.2)))))))⟩, ⟨11600064, 0, .arr 109 (.int .u32) x4.2.1.2.1.2⟩, ⟨11600065, 0, .arr 109 (.int .u32) x4.2.1.2.2.1.2⟩, ⟨11600066, 0, .arr 109 (.int .u32) x4.2.2.2.2.1.2.1.2⟩, ⟨11600067, 0, .arr 109 (.int .u32) x4.2.2.2.2.1.2.2.1.2⟩, ⟨11600068, 0, .arr 29 Y_Value x4.2.2.2.2.2⟩, ⟨600003, 0, .box (V.dat Y_Value x3)⟩]⟩
noncomputable def F32.M_g7 (s : St) : Option (X_Step × Bool) := gtAt (F32.C c82 c83 c85 c84) k [1, 0, 0, 1, 1, 1, 1, 0] [] Tryz.f32 F32.A F32.R s
noncomputable def F32.fr_g7 (x0 : Int) (x3 : Int × (X_Int × (X_Int × X_errorAddressString))) (x4 : Int × (X_Value × (Int × (LB × (X_Value × LV))))) : St := ⟨((((List.replicate 61 V.un).set 0 (V.dat (.int .i64) x0)).set 3 (V.bp 600003 0 [])).set 4 (V.bp 600004 0 [])), [⟨600004, 0, .box (V.st (V.dat (.int .i64) x4.1) (V.st (V.st (V.dat (.int .i64) x4.2.1.1) (V.st (V.st (V.dat .bool x4.2.1.2.1.1) (V.ref 11600064 0 0 (List.length x4.2.1.2.1.2))) (V.st (V.st (V.dat .bool x4.2.1.2.2.1.1) (V.ref 11600065 0 0 (List.length x4.2.1.2.2.1.2))) (V.dat (.pair .str (.int .i64)) x4.2.1.2.2.2)))) (V.st (V.dat (.int .i64) x4.2.2.1) (V.st (V.dat .str x4.2.2.2.1) (V.st (V.st (V.dat (.int .i64) x4.2.2.2.2.1.1) (V.st (V.st (V.dat .bool x4.2.2.2.2.1.2.1.1) (V.ref 11600066 0 0 (List.length x4.2.2.2.2.1.2.1.2))) (V.st (V.st (V.dat .bool x4.2.2.2.2.1.2.2.1.1) (V.ref 11600067 0 0 (List.length x4.2.2.2.2.1.2.2.1.2))) (V.dat (.pair .str (.int .i64)) x4.2.2.2.2.1.2.2.2)))) (V.ref 11600068 0 0 (List.length x4.2.2.2.2.2)))))))⟩, ⟨11600064, 0, .arr 109 (.int .u32) x4.2.1.2.1.2⟩, ⟨11600065, 0, .arr 109 (.int .u32) x4.2.1.2.2.1.2⟩, ⟨11600066, 0, .arr 109 (.int .u32) x4.2.2.2.2.1.2.1.2⟩, ⟨11600067, 0, .arr 109 (.int .u32) x4.2.2.2.2.1.2.2.1.2⟩, ⟨11600068, 0, .arr 29 Y_Value x4.2.2.2.2.2⟩, ⟨600003, 0, .box (V.dat Y_Value x3)⟩]⟩
section
variable (x3 : Int × (X_Int × (X_Int × X_errorAddressString))) (x4 : Int × (X_Value × (Int × (LB × (X_Value × LV)))))
def F32.b_g4 (c85 : F85.E) (c84 : F84.E) (x3 : Int × (X_Int × (X_Int × X_errorAddressString))) (x4 : Int × (X_Value × (Int × (LB × (X_Value × LV))))) : Option (X_Step × Bool) :=
 (c83 x3.2.1).bind fun y3 =>
 (c82 (x3.1, (y3.1, x3.2.2))).bind fun y4 =>
 some (y4, true)
def F32.g4 : Option (X_Step × Bool) := gate k (F32.b_g4 c82 c83 c85 c84 x3 x4)
theorem F32.e_g4 : F32.M_g4 c82 c83 c85 c84 k (F32.fr_g4 x3 x4) = F32.g4 c82 c83 c85 c84 k x3 x4 := by
  kernel_rfl
end
section
variable (x0 : Int) (x3 : Int × (X_Int × (X_Int × X_errorAddressString))) (x4 : Int × (X_Value × (Int × (LB × (X_Value × LV)))))
def F32.b_g7 (c82 : F82.E) (c83 : F83.E) (c85 : F85.E) (c84 : F84.E) (x0 : Int) (x3 : Int × (X_Int × (X_Int × X_errorAddressString))) (x4 : Int × (X_Value × (Int × (LB × (X_Value × LV))))) : Option (X_Step × Bool) :=
 bif (x0 == (3 : Int)) then
 bif (x3.1 == (2 : Int)) then
 (c85 x3.2.1).bind fun y5 =>
 (c84 (y5.1, y5.2)).bind fun y6 =>
 some (y6, true)
 else
 some (((0 : Int), (((0 : Int), ((false, ([] : LI)), ((false, ([] : LI)), ([], (0 : Int))))), ((0 : Int), ([], (((0 : Int), ((false, ([] : LI)), ((false, ([] : LI)), ([], (0 : Int))))), ([] : LV)))))), false)
 else
 some (((0 : Int), (((0 : Int), ((false, ([] : LI)), ((false, ([] : LI)), ([], (0 : Int))))), ((0 : Int), ([], (((0 : Int), ((false, ([] : LI)), ((false, ([] : LI)), ([], (0 : Int))))), ([] : LV)))))), false)
def F32.c_g7 (c82 : F82.E) (c83 : F83.E) (c85 : F85.E) (c84 : F84.E) (x0 : Int) (x3 : Int × (X_Int × (X_Int × X_errorAddressString))) (x4 : Int × (X_Value × (Int × (LB × (X_Value × LV))))) : Option (X_Step × Bool) :=
 bif (x0 == (3 : Int)) then
 bif (x3.1 == (2 : Int)) then
 (c85 x3.2.1).bind fun y5 =>
 (c84 y5).bind fun y6 =>
 some (y6, true)
 else
 some (((0 : Int), (((0 : Int), ((false, ([] : LI)), ((false, ([] : LI)), ([], (0 : Int))))), ((0 : Int), ([], (((0 : Int), ((false, ([] : LI)), ((false, ([] : LI)), ([], (0 : Int))))), ([] : LV)))))), false)
 else
 some (((0 : Int), (((0 : Int), ((false, ([] : LI)), ((false, ([] : LI)), ([], (0 : Int))))), ((0 : Int), ([], (((0 : Int), ((false, ([] : LI)), ((false, ([] : LI)), ([], (0 : Int))))), ([] : LV)))))), false)
theorem F32.q_g7 : F32.b_g7 c82 c83 c85 c84 x0 x3 x4 = F32.c_g7 c82 c83 c85 c84 x0 x3 x4 := by
  simp only [F32.b_g7, F32.c_g7, qq]
def F32.g7 : Option (X_Step × Bool) := gate k (F32.b_g7 c82 c83 c85 c84 x0 x3 x4)
theorem F32.e_g7 : F32.M_g7 c82 c83 c85 c84 k (F32.fr_g7 x0 x3 x4) = F32.g7 c82 c83 c85 c84 k x0 x3 x4 := by
  kernel_rfl
end
section
variable (r_g4 : X_Value → X_Step → Option (X_Step × Bool)) (r_g7 : Int → X_Value → X_Step → Option (X_Step × Bool)) (x0 : Int) (x3 : Int × (X_Int × (X_Int × X_errorAddressString))) (x4 : Int × (X_Value × (Int × (LB × (X_Value × LV)))))
def F32.b_g3 (c82 : F82.E) (c83 : F83.E) (c85 : F85.E) (c84 : F84.E) (r_g4 : X_Value → X_Step → Option (X_Step × Bool)) (r_g7 : Int → X_Value → X_Step → Option (X_Step × Bool)) (x0 : Int) (x3 : Int × (X_Int × (X_Int × X_errorAddressString))) (x4 : Int × (X_Value × (Int × (LB × (X_Value × LV))))) : Option (X_Step × Bool) :=
 bif (x0 == (1 : Int)) then
 bif (x3.1 == (2 : Int)) then
 r_g4 x3 (x4.1, ((x4.2.1.1, ((x4.2.1.2.1.1, (List.take (List.length x4.2.1.2.1.2) x4.2.1.2.1.2)), ((x4.2.1.2.2.1.1, (List.take (List.length x4.2.1.2.2.1.2) x4.2.1.2.2.1.2)), x4.2.1.2.2.2))), (x4.2.2.1, (x4.2.2.2.1, ((x4.2.2.2.2.1.1, ((x4.2.2.2.2.1.2.1.1, (List.take (List.length x4.2.2.2.2.1.2.1.2) x4.2.2.2.2.1.2.1.2)), ((x4.2.2.2.2.1.2.2.1.1, (List.take (List.length x4.2.2.2.2.1.2.2.1.2) x4.2.2.2.2.1.2.2.1.2)), x4.2.2.2.2.1.2.2.2))), (List.take (List.length x4.2.2.2.2.2) x4.2.2.2.2.2))))))
 else
 bif (x3.1 == (3 : Int)) then
 r_g4 x3 (x4.1, ((x4.2.1.1, ((x4.2.1.2.1.1, (List.take (List.length x4.2.1.2.1.2) x4.2.1.2.1.2)), ((x4.2.1.2.2.1.1, (List.take (List.length x4.2.1.2.2.1.2) x4.2.1.2.2.1.2)), x4.2.1.2.2.2))), (x4.2.2.1, (x4.2.2.2.1, ((x4.2.2.2.2.1.1, ((x4.2.2.2.2.1.2.1.1, (List.take (List.length x4.2.2.2.2.1.2.1.2) x4.2.2.2.2.1.2.1.2)), ((x4.2.2.2.2.1.2.2.1.1, (List.take (List.length x4.2.2.2.2.1.2.2.1.2) x4.2.2.2.2.1.2.2.1.2)), x4.2.2.2.2.1.2.2.2))), (List.take (List.length x4.2.2.2.2.2) x4.2.2.2.2.2))))))
 else
 r_g7 x0 x3 (x4.1, ((x4.2.1.1, ((x4.2.1.2.1.1, (List.take (List.length x4.2.1.2.1.2) x4.2.1.2.1.2)), ((x4.2.1.2.2.1.1, (List.take (List.length x4.2.1.2.2.1.2) x4.2.1.2.2.1.2)), x4.2.1.2.2.2))), (x4.2.2.1, (x4.2.2.2.1, ((x4.2.2.2.2.1.1, ((x4.2.2.2.2.1.2.1.1, (List.take (List.length x4.2.2.2.2.1.2.1.2) x4.2.2.2.2.1.2.1.2)), ((x4.2.2.2.2.1.2.2.1.1, (List.take (List.length x4.2.2.2.2.1.2.2.1.2) x4.2.2.2.2.1.2.2.1.2)), x4.2.2.2.2.1.2.2.2))), (List.take (List.length x4.2.2.2.2.2) x4.2.2.2.2.2))))))
 else
 r_g7 x0 x3 (x4.1, ((x4.2.1.1, ((x4.2.1.2.1.1, (List.take (List.length x4.2.1.2.1.2) x4.2.1.2.1.2)), ((x4.2.1.2.2.1.1, (List.take (List.length x4.2.1.2.2.1.2) x4.2.1.2.2.1.2)), x4.2.1.2.2.2))), (x4.2.2.1, (x4.2.2.2.1, ((x4.2.2.2.2.1.1, ((x4.2.2.2.2.1.2.1.1, (List.take (List.length x4.2.2.2.2.1.2.1.2) x4.2.2.2.2.1.2.1.2)), ((x4.2.2.2.2.1.2.2.1.1, (List.take (List.length x4.2.2.2.2.1.2.2.1.2) x4.2.2.2.2.1.2.2.1.2)), x4.2.2.2.2.1.2.2.2))), (List.take (List.length x4.2.2.2.2.2) x4.2.2.2.2.2))))))
def F32.c_g3 (c82 : F82.E) (c83 : F83.E) (c85 : F85.E) (c84 : F84.E) (r_g4 : X_Value → X_Step → Option (X_Step × Bool)) (r_g7 : Int → X_Value → X_Step → Option (X_Step × Bool)) (x0 : Int) (x3 : Int × (X_Int × (X_Int × X_errorAddressString))) (x4 : Int × (X_Value × (Int × (LB × (X_Value × LV))))) : Option (X_Step × Bool) :=
 bif (x0 == (1 : Int)) then
 bif (x3.1 == (2 : Int)) then
 r_g4 x3 x4
 else
 bif (x3.1 == (3 : Int)) then
 r_g4 x3 x4
 else
 r_g7 x0 x3 x4
 else
 r_g7 x0 x3 x4
theorem F32.q_g3 : F32.b_g3 c82 c83 c85 c84 r_g4 r_g7 x0 x3 x4 = F32.c_g3 c82 c83 c85 c84 r_g4 r_g7 x0 x3 x4 := by
  simp only [F32.b_g3, F32.c_g3, qq]
def F32.g3 : Option (X_Step × Bool) := gate k (F32.b_g3 c82 c83 c85 c84 (F32.g4 c82 c83 c85 c84 k) (F32.g7 c82 c83 c85 c84 k) x0 x3 x4)
theorem F32.e_g3 : F32.M_g3 c82 c83 c85 c84 k (F32.fr_g3 x0 x3 x4) = F32.g3 c82 c83 c85 c84 k x0 x3 x4 := by
  refine Eq.trans (b := gate k (F32.b_g3 c82 c83 c85 c84 (fun x3 x4 => F32.M_g4 c82 c83 c85 c84 k (F32.fr_g4 x3 x4)) (fun x0 x3 x4 => F32.M_g7 c82 c83 c85 c84 k (F32.fr_g7 x0 x3 x4)) x0 x3 x4)) (by kernel_rfl) ?_
  simp only [F32.e_g4, F32.e_g7]
  rfl
end
variable (r_g3 : Int → X_Value → X_Step → Option (X_Step × Bool)) (a0 : Int) (a1 : Int × (X_Int × (X_Int × X_errorAddressString)))
def F32.b (c83 : F83.E) (c85 : F85.E) (c84 : F84.E) (r_g3 : Int → X_Value → X_Step → Option (X_Step × Bool)) (a0 : Int) (a1 : Int × (X_Int × (X_Int × X_errorAddressString))) : Option (X_Step × Bool) :=
 bif (a0 == (2 : Int)) then
 bif (a1.1 == (2 : Int)) then
 (c82 a1).bind fun y1 =>
 some (y1, true)
 else
 bif (a1.1 == (3 : Int)) then
 (c82 a1).bind fun y2 =>
 some (y2, true)
 else
 r_g3 a0 a1 ((0 : Int), (((0 : Int), ((false, ([] : LI)), ((false, ([] : LI)), ([], (0 : Int))))), ((0 : Int), ([], (((0 : Int), ((false, ([] : LI)), ((false, ([] : LI)), ([], (0 : Int))))), ([] : LV))))))
 else
 r_g3 a0 a1 ((0 : Int), (((0 : Int), ((false, ([] : LI)), ((false, ([] : LI)), ([], (0 : Int))))), ((0 : Int), ([], (((0 : Int), ((false, ([] : LI)), ((false, ([] : LI)), ([], (0 : Int))))), ([] : LV))))))
def F32.f : Option (X_Step × Bool) := F32.b c82 c83 c85 c84 (F32.g3 c82 c83 c85 c84 k) a0 a1
theorem F32.e : fn (F32.C c82 c83 c85 c84) k Tryz.f32 F32.A F32.R (a0, a1) = F32.f c82 c83 c85 c84 k a0 a1 := by
  refine Eq.trans (b := F32.b c82 c83 c85 c84 (fun x0 x3 x4 => F32.M_g3 c82 c83 c85 c84 k (F32.fr_g3 x0 x3 x4)) a0 a1) (by kernel_rfl) ?_
  simp only [F32.e_g3]
  rfl
end
def F32.u (k : Nat) : F32.E := fun y => F32.f (F82.u k) (F83.u k) (F85.u k) (F84.u k) k y.1 y.2
theorem F32.sound (k : Nat) : Sound Tryz.prog ⟨32, F32.A, F32.R, F32.u k⟩ := sn gr Tryz.func32 (fun y => F32.e (F82.u k) (F83.u k) (F85.u k) (F84.u k) k y.1 y.2) (al (F82.sound k) (al (F83.sound k) (al (F85.sound k) (al (F84.sound k) al0))))
/-! ### brindlewood/heap.kindClasses: f98 -/
abbrev F98.A : List Sh := []
abbrev F98.R : List Sh := [(.d (.sl 3 (.int .i64)))]
abbrev F98.E : Type := (Unit) → Option LI
section
variable (k n : Nat)
def F98.C : Ctx := cx [] []
def F98.b : Option LI :=
 some (List.take 10 ([(2 : Int), (3 : Int), (4 : Int), (5 : Int), (6 : Int), (7 : Int), (0 : Int), (15 : Int), (27 : Int), (2 : Int)] : LI))
def F98.f (k : Nat) : Option LI := F98.b
theorem F98.e : fn F98.C k Tryz.f98 F98.A F98.R () = F98.f k := by
  kernel_rfl
end
def F98.u (k : Nat) : F98.E := fun y => F98.f k
theorem F98.sound (k : Nat) : Sound Tryz.prog ⟨98, F98.A, F98.R, F98.u k⟩ := sn gr Tryz.func98 (fun y => F98.e k) al0
/-! ### brindlewood/heap.objectClasses: f99 -/
abbrev F99.A : List Sh := []
abbrev F99.R : List Sh := [(.d (.sl 3 (.int .i64)))]
abbrev F99.E : Type := (Unit) → Option LI
section
variable (k n : Nat)
def F99.C : Ctx := cx [] []
def F99.b : Option LI :=
 some (List.take 21 ([(0 : Int), (8 : Int), (9 : Int), (10 : Int), (11 : Int), (12 : Int), (13 : Int), (14 : Int), (16 : Int), (1 : Int), (0 : Int), (17 : Int), (18 : Int), (19 : Int), (20 : Int), (21 : Int), (22 : Int), (23 : Int), (24 : Int), (25 : Int), (26 : Int)] : LI))
def F99.f (k : Nat) : Option LI := F99.b
theorem F99.e : fn F99.C k Tryz.f99 F99.A F99.R () = F99.f k := by
  kernel_rfl
end
def F99.u (k : Nat) : F99.E := fun y => F99.f k
theorem F99.sound (k : Nat) : Sound Tryz.prog ⟨99, F99.A, F99.R, F99.u k⟩ := sn gr Tryz.func99 (fun y => F99.e k) al0
/-! ### brindlewood/heap.ClassOf: f60 -/
abbrev F60.A : List Sh := [(.d Y_Heap), (.d Y_Value)]
abbrev F60.R : List Sh := [(.d (.int .i64))]
abbrev F60.E : Type := (LO × X_Value) → Option Int
section
variable (c98 : F98.E) (c99 : F99.E)
variable (k n : Nat)
def F60.C : Ctx := cx [⟨98, F98.A, F98.R, c98⟩, ⟨99, F99.A, F99.R, c99⟩] []
variable (a0 : LO) (a1 : Int × (X_Int × (X_Int × X_errorAddressString)))
def F60.b : Option Int :=
 bif (a1.1 != (6 : Int)) then
 (c98 ()).bind fun y1 =>
 if 0 ≤ a1.1 ∧ a1.1 < ((List.length y1) : Int) then
 some (List.getD y1 (Int.toNat a1.1) (0 : Int))
 else none
 else
 if 0 ≤ a1.2.2.2.2 ∧ a1.2.2.2.2 < ((List.length a0) : Int) then
 bif (((List.getD a0 (Int.toNat a1.2.2.2.2) Z_Object).1) == (10 : Int)) then
 some ((((List.getD a0 (Int.toNat a1.2.2.2.2) Z_Object).2).2).1)
 else
 (c99 ()).bind fun y2 =>
 if 0 ≤ ((List.getD a0 (Int.toNat a1.2.2.2.2) Z_Object).1) ∧ ((List.getD a0 (Int.toNat a1.2.2.2.2) Z_Object).1) < ((List.length y2) : Int) then
 some (List.getD y2 (Int.toNat ((List.getD a0 (Int.toNat a1.2.2.2.2) Z_Object).1)) (0 : Int))
 else none
 else none
def F60.f (k : Nat) (a0 : LO) (a1 : Int × (X_Int × (X_Int × X_errorAddressString))) : Option Int := F60.b c98 c99 a0 a1
theorem F60.e : fn (F60.C c98 c99) k Tryz.f60 F60.A F60.R (a0, a1) = F60.f c98 c99 k a0 a1 := by
  kernel_rfl
end
def F60.u (k : Nat) : F60.E := fun y => F60.f (F98.u k) (F99.u k) k y.1 y.2
theorem F60.sound (k : Nat) : Sound Tryz.prog ⟨60, F60.A, F60.R, F60.u k⟩ := sn gr Tryz.func60 (fun y => F60.e (F98.u k) (F99.u k) k y.1 y.2) (al (F98.sound k) (al (F99.sound k) al0))
/-! ### brindlewood/heap.Name: f34 -/
abbrev F34.A : List Sh := [(.d Y_Heap), (.d Y_Value)]
abbrev F34.R : List Sh := [(.d .str)]
abbrev F34.E : Type := (LO × X_Value) → Option LB
section
variable (c60 : F60.E)
variable (k n : Nat)
def F34.C : Ctx := cx [⟨60, F60.A, F60.R, c60⟩] []
variable (a0 : LO) (a1 : Int × (X_Int × (X_Int × X_errorAddressString)))
def F34.b : Option LB :=
 (c60 (a0, a1)).bind fun y1 =>
 if 0 ≤ y1 ∧ y1 < ((List.length a0) : Int) then
 some (((List.getD a0 (Int.toNat y1) Z_Object).2).1)
 else none
def F34.f (k : Nat) (a0 : LO) (a1 : Int × (X_Int × (X_Int × X_errorAddressString))) : Option LB := F34.b c60 a0 a1
theorem F34.e : fn (F34.C c60) k Tryz.f34 F34.A F34.R (a0, a1) = F34.f c60 k a0 a1 := by
  kernel_rfl
end
def F34.u (k : Nat) : F34.E := fun y => F34.f (F60.u k) k y.1 y.2
theorem F34.sound (k : Nat) : Sound Tryz.prog ⟨34, F34.A, F34.R, F34.u k⟩ := sn gr Tryz.func34 (fun y => F34.e (F60.u k) k y.1 y.2) (al (F60.sound k) al0)
/-! ### brindlewood/operators.Unary: f8 -/
abbrev F8.A : List Sh := [(.pi Y_Heap), (.d (.int .i64)), (.d Y_Value)]
abbrev F8.R : List Sh := [(.d Y_Plan)]
abbrev F8.E : Type := (LO × (Int × X_Value)) → Option X_Plan
section
variable (c30 : F30.E) (c31 : F31.E) (c32 : F32.E) (c34 : F34.E) (c33 : F33.E)
variable (k n : Nat)
def F8.C : Ctx := cx [⟨30, F30.A, F30.R, c30⟩, ⟨31, F31.A, F31.R, c31⟩, ⟨32, F32.A, F32.R, c32⟩, ⟨34, F34.A, F34.R, c34⟩, ⟨33, F33.A, F33.R, c33⟩] []
variable (a0 : LO) (a1 : Int) (a2 : Int × (X_Int × (X_Int × X_errorAddressString)))
def F8.b : Option X_Plan :=
 (c30 ()).bind fun y1 =>
 if 0 ≤ (IntKind.i64.wrap (a1 - (1 : Int))) ∧ (IntKind.i64.wrap (a1 - (1 : Int))) < ((3 : Nat) : Int) then
 if (List.length [111, 110, 95]) + (List.length ((List.getD ([y1.1, y1.2.1, y1.2.2] : List (LB × LB)) (Int.toNat (IntKind.i64.wrap (a1 - (1 : Int)))) ([], [])).2)) ≤ 9223372036854775807 then
 (c31 (a0, (a2, (([111, 110, 95] ++ ((List.getD ([y1.1, y1.2.1, y1.2.2] : List (LB × LB)) (Int.toNat (IntKind.i64.wrap (a1 - (1 : Int)))) ([], [])).2)), ([] : LV))))).bind fun y2 =>
 (c32 (a1, a2)).bind fun y3 =>
 bif y3.2 then
 some (y2, y3.1)
 else
 if (List.length [99, 97, 110, 110, 111, 116, 32, 97, 112, 112, 108, 121, 32, 39]) + (List.length ((List.getD ([y1.1, y1.2.1, y1.2.2] : List (LB × LB)) (Int.toNat (IntKind.i64.wrap (a1 - (1 : Int)))) ([], [])).1)) ≤ 9223372036854775807 then
 if (List.length ([99, 97, 110, 110, 111, 116, 32, 97, 112, 112, 108, 121, 32, 39] ++ ((List.getD ([y1.1, y1.2.1, y1.2.2] : List (LB × LB)) (Int.toNat (IntKind.i64.wrap (a1 - (1 : Int)))) ([], [])).1))) + (List.length [39, 32, 116, 111, 32, 39]) ≤ 9223372036854775807 then
 (c34 (a0, a2)).bind fun y4 =>
 if (List.length (([99, 97, 110, 110, 111, 116, 32, 97, 112, 112, 108, 121, 32, 39] ++ ((List.getD ([y1.1, y1.2.1, y1.2.2] : List (LB × LB)) (Int.toNat (IntKind.i64.wrap (a1 - (1 : Int)))) ([], [])).1)) ++ [39, 32, 116, 111, 32, 39])) + (List.length y4) ≤ 9223372036854775807 then
 if (List.length ((([99, 97, 110, 110, 111, 116, 32, 97, 112, 112, 108, 121, 32, 39] ++ ((List.getD ([y1.1, y1.2.1, y1.2.2] : List (LB × LB)) (Int.toNat (IntKind.i64.wrap (a1 - (1 : Int)))) ([], [])).1)) ++ [39, 32, 116, 111, 32, 39]) ++ y4)) + (List.length [39]) ≤ 9223372036854775807 then
 (c33 ((32 : Int), (((([99, 97, 110, 110, 111, 116, 32, 97, 112, 112, 108, 121, 32, 39] ++ ((List.getD ([y1.1, y1.2.1, y1.2.2] : List (LB × LB)) (Int.toNat (IntKind.i64.wrap (a1 - (1 : Int)))) ([], [])).1)) ++ [39, 32, 116, 111, 32, 39]) ++ y4) ++ [39]))).bind fun y5 =>
 some (y2, y5)
 else none
 else none
 else none
 else none
 else none
 else none
def F8.f (k : Nat) (a0 : LO) (a1 : Int) (a2 : Int × (X_Int × (X_Int × X_errorAddressString))) : Option X_Plan := F8.b c30 c31 c32 c34 c33 a0 a1 a2
theorem F8.e : fn (F8.C c30 c31 c32 c34 c33) k Tryz.f8 F8.A F8.R (a0, (a1, a2)) = F8.f c30 c31 c32 c34 c33 k a0 a1 a2 := by
  kernel_rfl
end
def F8.u (k : Nat) : F8.E := fun y => F8.f (F30.u k) (F31.u k) (F32.u k) (F34.u k) (F33.u k) k y.1 y.2.1 y.2.2
theorem F8.sound (k : Nat) : Sound Tryz.prog ⟨8, F8.A, F8.R, F8.u k⟩ := sn gr Tryz.func8 (fun y => F8.e (F30.u k) (F31.u k) (F32.u k) (F34.u k) (F33.u k) k y.1 y.2.1 y.2.2) (al (F30.sound k) (al (F31.sound k) (al (F32.sound k) (al (F34.sound k) (al (F33.sound k) al0)))))
/-! ### brindlewood/brindlewoodref7.Verbs: f36 -/
abbrev F36.A : List Sh := []
abbrev F36.R : List Sh := [(.d (.sl 9 .str))]
abbrev F36.E : Type := (Unit) → Option LLB
section
variable (c66 : F66.E)
variable (k n : Nat)
def F36.C : Ctx := cx [⟨66, F66.A, F66.R, c66⟩] []
def F36.b : Option LLB :=
 (c66 [110, 101, 103, 32, 112, 111, 115, 32, 105, 110, 118, 101, 114, 116, 32, 110, 111, 116, 32, 97, 100, 100, 32, 115, 117, 98, 32, 109, 117, 108, 32, 100, 105, 118, 32, 102, 108, 111, 111, 114, 32, 109, 111, 100, 32, 112, 111, 119, 32, 108, 101, 102, 116, 32, 114, 105, 103, 104, 116, 32, 97, 110, 100, 32, 111, 114, 32, 120, 111, 114]).bind fun y1 =>
 some y1
def F36.f (k : Nat) : Option LLB := F36.b c66
theorem F36.e : fn (F36.C c66) k Tryz.f36 F36.A F36.R () = F36.f c66 k := by
  kernel_rfl
end
def F36.u (k : Nat) : F36.E := fun y => F36.f (F66.u k) k
theorem F36.sound (k : Nat) : Sound Tryz.prog ⟨36, F36.A, F36.R, F36.u k⟩ := sn gr Tryz.func36 (fun y => F36.e (F66.u k) k) (al (F66.sound k) al0)
/-! ### brindlewood/brindlewoodref7.Own: f68 -/
abbrev F68.A : List Sh := [(.d Y_Object), (.d .str)]
abbrev F68.R : List Sh := [(.d Y_Value), (.d .bool)]
abbrev F68.E : Type := (X_Object × LB) → Option (X_Value × Bool)
section
variable (k n : Nat)
def F68.C : Ctx := cx [] [(0, [.d 1 .str, .bx 2 600002 (.d Y_Object), .bx 4 600004 (.pair (.d (.int .i64)) (.pair (.pair (.d .bool) (.o 109 (.int .u32))) (.pair (.pair (.d .bool) (.o 109 (.int .u32))) (.d (.pair .str (.int .i64)))))), .d 9 (.sl 9 .str), .d 10 (.int .i64), .d 11 (.int .i64)])]
noncomputable def F68.M_l0 (s : St) : Option (X_Value × Bool) := lpAt F68.C k n [1, 0, 1, 0] [] Tryz.f68 F68.A F68.R s
noncomputable def F68.fr_l0 (x1 : LB) (x2 : Int × (LB × (Int × (LI × (LI × (LLB × (LV × (LV × X_acceptRange)))))))) (x4 : Int × (X_Int × (X_Int × X_errorAddressString))) (x9 : LLB) (x10 : Int) (x11 : Int) : St := ⟨(((((((List.replicate 26 V.un).set 1 (V.dat .str x1)).set 2 (V.bp 600002 0 [])).set 4 (V.bp 600004 0 [])).set 9 (V.dat (.sl 9 .str) x9)).set 10 (V.dat (.int .i64) x10)).set 11 (V.dat (.int .i64) x11)), [⟨600004, 0, .box (V.st (V.dat (.int .i64) x4.1) (V.st (V.st (V.dat .bool x4.2.1.1) (V.ref 11600064 0 0 (List.length x4.2.1.2))) (V.st (V.st (V.dat .bool x4.2.2.1.1) (V.ref 11600065 0 0 (List.length x4.2.2.1.2))) (V.dat (.pair .str (.int .i64)) x4.2.2.2))))⟩, ⟨11600064, 0, .arr 109 (.int .u32) x4.2.1.2⟩, ⟨11600065, 0, .arr 109 (.int .u32) x4.2.2.1.2⟩, ⟨600002, 0, .box (V.dat Y_Object x2)⟩]⟩
section
variable (n_l0 : LB → X_Object → X_Value → LLB → Int → Int → Option (X_Value × Bool)) (x1 : LB) (x2 : Int × (LB × (Int × (LI × (LI × (LLB × (LV × (LV × X_acceptRange)))))))) (x4 : Int × (X_Int × (X_Int × X_errorAddressString))) (x9 : LLB) (x10 x11 : Int)
def F68.b_l0 : Option (X_Value × Bool) :=
 bif (decide (x11 < x10)) then
 if 0 ≤ x11 ∧ x11 < ((List.length x9) : Int) then
 bif ((List.getD x9 (Int.toNat x11) []) == x1) then
 if 0 ≤ x11 ∧ x11 < ((List.length x2.2.2.2.2.2.2.1) : Int) then
 some ((List.getD x2.2.2.2.2.2.2.1 (Int.toNat x11) Z_Value), true)
 else none
 else
 n_l0 x1 x2 (x4.1, ((x4.2.1.1, (List.take (List.length x4.2.1.2) x4.2.1.2)), ((x4.2.2.1.1, (List.take (List.length x4.2.2.1.2) x4.2.2.1.2)), x4.2.2.2))) x9 x10 (IntKind.i64.wrap (x11 + (1 : Int)))
 else none
 else
 some (((0 : Int), ((false, ([] : LI)), ((false, ([] : LI)), ([], (0 : Int))))), false)
def F68.c_l0 : Option (X_Value × Bool) :=
 bif (decide (x11 < x10)) then
 if 0 ≤ x11 ∧ x11 < ((List.length x9) : Int) then
 bif ((List.getD x9 (Int.toNat x11) []) == x1) then
 if 0 ≤ x11 ∧ x11 < ((List.length x2.2.2.2.2.2.2.1) : Int) then
 some ((List.getD x2.2.2.2.2.2.2.1 (Int.toNat x11) Z_Value), true)
 else none
 else
 n_l0 x1 x2 x4 x9 x10 (IntKind.i64.wrap (x11 + (1 : Int)))
 else none
 else
 some (((0 : Int), ((false, ([] : LI)), ((false, ([] : LI)), ([], (0 : Int))))), false)
theorem F68.q_l0 : F68.b_l0 n_l0 x1 x2 x4 x9 x10 x11 = F68.c_l0 n_l0 x1 x2 x4 x9 x10 x11 := by
  simp only [F68.b_l0, F68.c_l0, qq]
def F68.l0 (k : Nat) : Nat → LB → X_Object → X_Value → LLB → Int → Int → Option (X_Value × Bool)
  | 0, _, _, _, _, _, _ => none
  | n + 1, x1, x2, x4, x9, x10, x11 => F68.b_l0 (fun x1 x2 x4 x9 x10 x11 => F68.l0 k n x1 x2 x4 x9 x10 x11) x1 x2 x4 x9 x10 x11
theorem F68.e_l0 : F68.M_l0 k n (F68.fr_l0 x1 x2 x4 x9 x10 x11) = F68.l0 k n x1 x2 x4 x9 x10 x11 := by
  induction n generalizing x1 x2 x4 x9 x10 x11 with
  | zero => exact lpAt0
  | succ n ih =>
    refine Eq.trans (b := F68.b_l0 (fun x1 x2 x4 x9 x10 x11 => F68.M_l0 k n (F68.fr_l0 x1 x2 x4 x9 x10 x11)) x1 x2 x4 x9 x10 x11) (by kernel_rfl) ?_
    simp only [ih]
    rfl
end
variable (r_l0 : LB → X_Object → X_Value → LLB → Int → Int → Option (X_Value × Bool)) (a0 : Int × (LB × (Int × (LI × (LI × (LLB × (LV × (LV × X_acceptRange)))))))) (a1 : LB)
def F68.b : Option (X_Value × Bool) :=
 r_l0 a1 a0 ((0 : Int), ((false, ([] : LI)), ((false, ([] : LI)), ([], (0 : Int))))) a0.2.2.2.2.2.1 ((List.length a0.2.2.2.2.2.1) : Int) (0 : Int)
def F68.f : Option (X_Value × Bool) := F68.b (F68.l0 k k) a0 a1
theorem F68.e : fn F68.C k Tryz.f68 F68.A F68.R (a0, a1) = F68.f k a0 a1 := by
  refine Eq.trans (b := F68.b (fun x1 x2 x4 x9 x10 x11 => F68.M_l0 k k (F68.fr_l0 x1 x2 x4 x9 x10 x11)) a0 a1) (by kernel_rfl) ?_
  simp only [F68.e_l0]
  rfl
end
def F68.u (k : Nat) : F68.E := fun y => F68.f k y.1 y.2
theorem F68.sound (k : Nat) : Sound Tryz.prog ⟨68, F68.A, F68.R, F68.u k⟩ := sn gr Tryz.func68 (fun y => F68.e k y.1 y.2) al0
/-! ### brindlewood/brindlewoodref7.Among: f23 -/
abbrev F23.A : List Sh := [(.d Y_Heap), (.d (.sl 3 (.int .i64))), (.d .str)]
abbrev F23.R : List Sh := [(.d Y_Value), (.d (.int .i64)), (.d .bool)]
abbrev F23.E : Type := (LO × (LI × LB)) → Option (X_Value × (Int × Bool))
section
variable (c68 : F68.E)
variable (k n : Nat)
def F23.C : Ctx := cx [⟨68, F68.A, F68.R, c68⟩] [(0, [.d 2 .str, .bx 3 600003 (.d Y_Heap), .bx 6 600006 (.pair (.d (.int .i64)) (.pair (.pair (.d .bool) (.o 109 (.int .u32))) (.pair (.pair (.d .bool) (.o 109 (.int .u32))) (.d (.pair .str (.int .i64)))))), .d 13 (.sl 3 (.int .i64)), .d 14 (.int .i64), .d 15 (.int .i64)])]
noncomputable def F23.M_l0 (s : St) : Option (X_Value × (Int × Bool)) := lpAt (F23.C c68) k n [1, 0, 1, 0] [] Tryz.f23 F23.A F23.R s
noncomputable def F23.fr_l0 (x2 : LB) (x3 : LO) (x6 : Int × (X_Int × (X_Int × X_errorAddressString))) (x13 : LI) (x14 : Int) (x15 : Int) : St := ⟨(((((((List.replicate 34 V.un).set 2 (V.dat .str x2)).set 3 (V.bp 600003 0 [])).set 6 (V.bp 600006 0 [])).set 13 (V.dat (.sl 3 (.int .i64)) x13)).set 14 (V.dat (.int .i64) x14)).set 15 (V.dat (.int .i64) x15)), [⟨600006, 0, .box (V.st (V.dat (.int .i64) x6.1) (V.st (V.st (V.dat .bool x6.2.1.1) (V.ref 11600096 0 0 (List.length x6.2.1.2))) (V.st (V.st (V.dat .bool x6.2.2.1.1) (V.ref 11600097 0 0 (List.length x6.2.2.1.2))) (V.dat (.pair .str (.int .i64)) x6.2.2.2))))⟩, ⟨11600096, 0, .arr 109 (.int .u32) x6.2.1.2⟩, ⟨11600097, 0, .arr 109 (.int .u32) x6.2.2.1.2⟩, ⟨600003, 0, .box (V.dat Y_Heap x3)⟩]⟩
section
variable (n_l0 : LB → LO → X_Value → LI → Int → Int → Option (X_Value × (Int × Bool))) (x2 : LB) (x3 : LO) (x6 : Int × (X_Int × (X_Int × X_errorAddressString))) (x13 : LI) (x14 x15 : Int)
def F23.b_l0 : Option (X_Value × (Int × Bool)) :=
 bif (decide (x15 < x14)) then
 if 0 ≤ x15 ∧ x15 < ((List.length x13) : Int) then
 if 0 ≤ (List.getD x13 (Int.toNat x15) (0 : Int)) ∧ (List.getD x13 (Int.toNat x15) (0 : Int)) < ((List.length x3) : Int) then
 (c68 ((List.getD x3 (Int.toNat (List.getD x13 (Int.toNat x15) (0 : Int))) Z_Object), x2)).bind fun y1 =>
 bif y1.2 then
 some (y1.1, ((List.getD x13 (Int.toNat x15) (0 : Int)), true))
 else
 n_l0 x2 x3 (x6.1, ((x6.2.1.1, (List.take (List.length x6.2.1.2) x6.2.1.2)), ((x6.2.2.1.1, (List.take (List.length x6.2.2.1.2) x6.2.2.1.2)), x6.2.2.2))) x13 x14 (IntKind.i64.wrap (x15 + (1 : Int)))
 else none
 else none
 else
 some (((0 : Int), ((false, ([] : LI)), ((false, ([] : LI)), ([], (0 : Int))))), ((0 : Int), false))
def F23.c_l0 : Option (X_Value × (Int × Bool)) :=
 bif (decide (x15 < x14)) then
 if 0 ≤ x15 ∧ x15 < ((List.length x13) : Int) then
 if 0 ≤ (List.getD x13 (Int.toNat x15) (0 : Int)) ∧ (List.getD x13 (Int.toNat x15) (0 : Int)) < ((List.length x3) : Int) then
 (c68 ((List.getD x3 (Int.toNat (List.getD x13 (Int.toNat x15) (0 : Int))) Z_Object), x2)).bind fun y1 =>
 bif y1.2 then
 some (y1.1, ((List.getD x13 (Int.toNat x15) (0 : Int)), true))
 else
 n_l0 x2 x3 x6 x13 x14 (IntKind.i64.wrap (x15 + (1 : Int)))
 else none
 else none
 else
 some (((0 : Int), ((false, ([] : LI)), ((false, ([] : LI)), ([], (0 : Int))))), ((0 : Int), false))
theorem F23.q_l0 : F23.b_l0 c68 n_l0 x2 x3 x6 x13 x14 x15 = F23.c_l0 c68 n_l0 x2 x3 x6 x13 x14 x15 := by
  simp only [F23.b_l0, F23.c_l0, qq]
def F23.l0 (k : Nat) : Nat → LB → LO → X_Value → LI → Int → Int → Option (X_Value × (Int × Bool))
  | 0, _, _, _, _, _, _ => none
  | n + 1, x2, x3, x6, x13, x14, x15 => F23.b_l0 c68 (fun x2 x3 x6 x13 x14 x15 => F23.l0 k n x2 x3 x6 x13 x14 x15) x2 x3 x6 x13 x14 x15
theorem F23.e_l0 : F23.M_l0 c68 k n (F23.fr_l0 x2 x3 x6 x13 x14 x15) = F23.l0 c68 k n x2 x3 x6 x13 x14 x15 := by
  induction n generalizing x2 x3 x6 x13 x14 x15 with
  | zero => exact lpAt0
  | succ n ih =>
    refine Eq.trans (b := F23.b_l0 c68 (fun x2 x3 x6 x13 x14 x15 => F23.M_l0 c68 k n (F23.fr_l0 x2 x3 x6 x13 x14 x15)) x2 x3 x6 x13 x14 x15) (by kernel_rfl) ?_
    simp only [ih]
    rfl
end
variable (r_l0 : LB → LO → X_Value → LI → Int → Int → Option (X_Value × (Int × Bool))) (a0 : LO) (a1 : LI) (a2 : LB)
def F23.b (c68 : F68.E) (r_l0 : LB → LO → X_Value → LI → Int → Int → Option (X_Value × (Int × Bool))) (a0 : LO) (a1 : LI) (a2 : LB) : Option (X_Value × (Int × Bool)) :=
 r_l0 a2 a0 ((0 : Int), ((false, ([] : LI)), ((false, ([] : LI)), ([], (0 : Int))))) a1 ((List.length a1) : Int) (0 : Int)
def F23.f : Option (X_Value × (Int × Bool)) := F23.b c68 (F23.l0 c68 k k) a0 a1 a2
theorem F23.e : fn (F23.C c68) k Tryz.f23 F23.A F23.R (a0, (a1, a2)) = F23.f c68 k a0 a1 a2 := by
  refine Eq.trans (b := F23.b c68 (fun x2 x3 x6 x13 x14 x15 => F23.M_l0 c68 k k (F23.fr_l0 x2 x3 x6 x13 x14 x15)) a0 a1 a2) (by kernel_rfl) ?_
  simp only [F23.e_l0]
  rfl
end
def F23.u (k : Nat) : F23.E := fun y => F23.f (F68.u k) k y.1 y.2.1 y.2.2
theorem F23.sound (k : Nat) : Sound Tryz.prog ⟨23, F23.A, F23.R, F23.u k⟩ := sn gr Tryz.func23 (fun y => F23.e (F68.u k) k y.1 y.2.1 y.2.2) (al (F68.sound k) al0)
/-! ### brindlewood/brindlewoodref7.Inherited: f55 -/
abbrev F55.A : List Sh := [(.d Y_Heap), (.d (.int .i64)), (.d .str)]
abbrev F55.R : List Sh := [(.d Y_Value), (.d .bool)]
abbrev F55.E : Type := (LO × (Int × LB)) → Option (X_Value × Bool)
section
variable (c23 : F23.E)
variable (k n : Nat)
def F55.C : Ctx := cx [⟨23, F23.A, F23.R, c23⟩] []
variable (a0 : LO) (a1 : Int) (a2 : LB)
def F55.b : Option (X_Value × Bool) :=
 if 0 ≤ a1 ∧ a1 < ((List.length a0) : Int) then
 (c23 (a0, ((((((List.getD a0 (Int.toNat a1) Z_Object).2).2).2).2).1, a2))).bind fun y1 =>
 some (y1.1, y1.2.2)
 else none
def F55.f (k : Nat) (a0 : LO) (a1 : Int) (a2 : LB) : Option (X_Value × Bool) := F55.b c23 a0 a1 a2
theorem F55.e : fn (F55.C c23) k Tryz.f55 F55.A F55.R (a0, (a1, a2)) = F55.f c23 k a0 a1 a2 := by
  kernel_rfl
end
def F55.u (k : Nat) : F55.E := fun y => F55.f (F23.u k) k y.1 y.2.1 y.2.2
theorem F55.sound (k : Nat) : Sound Tryz.prog ⟨55, F55.A, F55.R, F55.u k⟩ := sn gr Tryz.func55 (fun y => F55.e (F23.u k) k y.1 y.2.1 y.2.2) (al (F23.sound k) al0)
/-! ### brindlewood/brindlewoodref7.O: f57 -/
abbrev F57.A : List Sh := [(.d (.int .i64))]
abbrev F57.R : List Sh := [(.d Y_Value)]
abbrev F57.E : Type := Int → Option X_Value
section
variable (k n : Nat)
def F57.C : Ctx := cx [] []
variable (a0 : Int)
def F57.b : Option X_Value :=
 some ((6 : Int), ((false, ([] : LI)), ((false, ([] : LI)), ([], a0))))
def F57.f (k : Nat) (a0 : Int) : Option X_Value := F57.b a0
theorem F57.e : fn F57.C k Tryz.f57 F57.A F57.R a0 = F57.f k a0 := by
  kernel_rfl
end
def F57.u (k : Nat) : F57.E := fun y => F57.f k y
theorem F57.sound (k : Nat) : Sound Tryz.prog ⟨57, F57.A, F57.R, F57.u k⟩ := sn gr Tryz.func57 (fun y => F57.e k y) al0
end
end Go.Ab
