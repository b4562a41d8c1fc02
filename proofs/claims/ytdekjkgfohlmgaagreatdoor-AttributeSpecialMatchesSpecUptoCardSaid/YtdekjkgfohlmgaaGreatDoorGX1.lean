/- A part of the proof: GX1. -/
import Derived.Test.YtdekjkgfohlmgaaGreatDoorFLs
import Derived.Test.YtdekjkgfohlmgaaGreatDoorGT1
import Derived.Test.YtdekjkgfohlmgaaGreatDoorHLib
namespace Go.Ab
set_option linter.unusedVariables false
set_option linter.unusedSimpArgs false
set_option maxRecDepth 100000
noncomputable section
open Go.Proofs
/-! ### slices.Clone[[]int,int]: f26 -/
abbrev F26.E : Type := LI → Option LI
section
variable (k n : Nat)
variable (a0 : LI)
end
/-! ### slices.Clone[[]string,string]: f27 -/
abbrev F27.A : List Sh := [(.d (.sl 9 .str))]
abbrev F27.R : List Sh := [(.o 9 .str)]
abbrev F27.E : Type := LLB → Option LLB
section
variable (k n : Nat)
def F27.C : Ctx := cx [] []
variable (a0 : LLB)
def F27.b : Option LLB :=
 if 0 < (List.length a0) then
 if 0 ≤ (List.length ([] : LLB)) ∧ (0 + (List.length a0)) * 16 ≤ LIM then
 some (List.take (List.length (List.append (List.take 0 ([] : LLB)) a0)) (List.append (List.take 0 ([] : LLB)) a0))
 else none
 else
 agree
 (some ([] : LLB))
 (if 0 ≤ (List.length ([] : LLB)) ∧ (0 + (List.length a0)) * 16 ≤ LIM then
 some (List.take (List.length (List.append (List.take 0 ([] : LLB)) a0)) (List.append (List.take 0 ([] : LLB)) a0))
 else none)
def F27.c : Option LLB :=
 if 0 < (List.length a0) then
 if 0 ≤ (List.length ([] : LLB)) ∧ ((List.length a0)) * 16 ≤ LIM then
 some ((List.take 0 ([] : LLB)) ++ a0)
 else none
 else
 agree
 (some ([] : LLB))
 (if 0 ≤ (List.length ([] : LLB)) ∧ ((List.length a0)) * 16 ≤ LIM then
 some ((List.take 0 ([] : LLB)) ++ a0)
 else none)
theorem F27.q : F27.b a0 = F27.c a0 := by
  simp only [F27.b, F27.c, qq]
def F27.f (k : Nat) (a0 : LLB) : Option LLB := F27.b a0
theorem F27.e : fn F27.C k Tryz.f27 F27.A F27.R a0 = F27.f k a0 := by
  kernel_rfl
end
def F27.u (k : Nat) : F27.E := fun y => F27.f k y
theorem F27.sound (k : Nat) : Sound Tryz.prog ⟨27, F27.A, F27.R, F27.u k⟩ := sn gr Tryz.func27 (fun y => F27.e k y) al0
/-! ### slices.Clone[[]uint32,uint32]: f80 -/
abbrev F80.E : Type := LI → Option LI
section
variable (k n : Nat)
variable (a0 : LI)
end
/-! ### brindlewood/brindlewoodref7.copied: f28 -/
abbrev F28.E : Type := LV → Option LV
section
variable (c80 : F80.E)
variable (k n : Nat)
section
variable (n_l0 : LV → LV → Int → Int → Option LV) (x3 x6 : LV) (x7 x8 : Int)
end
variable (r_l0 : LV → LV → Int → Int → Option LV) (a0 : LV)
end
/-! ### brindlewood/brindlewoodref7.Copy: f6 -/
abbrev F6.E : Type := LO → Option LO
section
variable (c26 : F26.E) (c27 : F27.E) (c28 : F28.E)
variable (k n : Nat)
section
variable (n_l0 : LO → LO → LO → Int → Int → Option LO) (x2 x3 x7 : LO) (x8 x9 : Int)
end
variable (r_l0 : LO → LO → LO → Int → Int → Option LO) (a0 : LO)
end
/-! ### brindlewood/operators.unaries: f30 -/
abbrev F30.E : Type := (Unit) → Option ((LB × LB) × ((LB × LB) × (LB × LB)))
section
variable (k n : Nat)
end
/-! ### brindlewood/attribute.object: f51 -/
abbrev F51.A : List Sh := [(.d Y_Heap), (.d Y_Value)]
abbrev F51.R : List Sh := [(.d Y_Object)]
abbrev F51.E : Type := (LO × X_Value) → Option X_Object
section
variable (k n : Nat)
def F51.C : Ctx := cx [] []
variable (a0 : LO) (a1 : Int × (X_Int × (X_Int × X_errorAddressString)))
def F51.b : Option X_Object :=
 bif (a1.1 != (6 : Int)) then
 some ((0 : Int), ([], ((0 : Int), (([] : LI), (([] : LI), (([] : LLB), (([] : LV), (([] : LV), ((0 : Int), (0 : Int))))))))))
 else
 if 0 ≤ a1.2.2.2.2 ∧ a1.2.2.2.2 < ((List.length a0) : Int) then
 some (List.getD a0 (Int.toNat a1.2.2.2.2) Z_Object)
 else none
def F51.f (k : Nat) (a0 : LO) (a1 : Int × (X_Int × (X_Int × X_errorAddressString))) : Option X_Object := F51.b a0 a1
theorem F51.e : fn F51.C k Tryz.f51 F51.A F51.R (a0, a1) = F51.f k a0 a1 := by
  kernel_rfl
end
def F51.u (k : Nat) : F51.E := fun y => F51.f k y.1 y.2
theorem F51.sound (k : Nat) : Sound Tryz.prog ⟨51, F51.A, F51.R, F51.u k⟩ := sn gr Tryz.func51 (fun y => F51.e k y.1 y.2) al0
/-! ### brindlewood/attribute.own: f105 -/
abbrev F105.A : List Sh := [(.d Y_Object), (.d .str)]
abbrev F105.R : List Sh := [(.d Y_Value), (.d .bool)]
abbrev F105.E : Type := (X_Object × LB) → Option (X_Value × Bool)
section
variable (c107 : F107.E)
variable (k n : Nat)
def F105.C : Ctx := cx [⟨107, F107.A, F107.R, c107⟩] []
variable (a0 : Int × (LB × (Int × (LI × (LI × (LLB × (LV × (LV × X_acceptRange)))))))) (a1 : LB)
def F105.b : Option (X_Value × Bool) :=
 (c107 (a0.2.2.2.2.2.1, a1)).bind fun y1 =>
 bif (decide (y1 < (0 : Int))) then
 some (((0 : Int), ((false, ([] : LI)), ((false, ([] : LI)), ([], (0 : Int))))), false)
 else
 if 0 ≤ y1 ∧ y1 < ((List.length a0.2.2.2.2.2.2.1) : Int) then
 some ((List.getD a0.2.2.2.2.2.2.1 (Int.toNat y1) Z_Value), true)
 else none
def F105.f (k : Nat) (a0 : Int × (LB × (Int × (LI × (LI × (LLB × (LV × (LV × X_acceptRange)))))))) (a1 : LB) : Option (X_Value × Bool) := F105.b c107 a0 a1
theorem F105.e : fn (F105.C c107) k Tryz.f105 F105.A F105.R (a0, a1) = F105.f c107 k a0 a1 := by
  kernel_rfl
end
def F105.u (k : Nat) : F105.E := fun y => F105.f (F107.u k) k y.1 y.2
theorem F105.sound (k : Nat) : Sound Tryz.prog ⟨105, F105.A, F105.R, F105.u k⟩ := sn gr Tryz.func105 (fun y => F105.e (F107.u k) k y.1 y.2) (al (F107.sound k) al0)
/-! ### brindlewood/attribute.find: f67 -/
abbrev F67.A : List Sh := [(.d Y_Heap), (.d (.sl 3 (.int .i64))), (.d .str)]
abbrev F67.R : List Sh := [(.d Y_Value), (.d (.int .i64)), (.d .bool)]
abbrev F67.E : Type := (LO × (LI × LB)) → Option (X_Value × (Int × Bool))
section
variable (c105 : F105.E)
variable (k n : Nat)
def F67.C : Ctx := cx [⟨105, F105.A, F105.R, c105⟩] [(0, [.d 2 .str, .bx 3 600003 (.d Y_Heap), .bx 6 600006 (.pair (.d (.int .i64)) (.pair (.pair (.d .bool) (.o 109 (.int .u32))) (.pair (.pair (.d .bool) (.o 109 (.int .u32))) (.d (.pair .str (.int .i64)))))), .d 13 (.sl 3 (.int .i64)), .d 14 (.int .i64), .d 15 (.int .i64)])]
noncomputable def F67.M_l0 (s : St) : Option (X_Value × (Int × Bool)) := lpAt (F67.C c105) k n [1, 0, 1, 0] [] Tryz.f67 F67.A F67.R s
noncomputable def F67.fr_l0 (x2 : LB) (x3 : LO) (x6 : Int × (X_Int × (X_Int × X_errorAddressString))) (x13 : LI) (x14 : Int) (x15 : Int) : St := ⟨(((((((List.replicate 34 V.un).set 2 (V.dat .str x2)).set 3 (V.bp 600003 0 [])).set 6 (V.bp 600006 0 [])).set 13 (V.dat (.sl 3 (.int .i64)) x13)).set 14 (V.dat (.int .i64) x14)).set 15 (V.dat (.int .i64) x15)), [⟨600006, 0, .box (V.st (V.dat (.int .i64) x6.1) (V.st (V.st (V.dat .bool x6.2.1.1) (V.ref 11600096 0 0 (List.length x6.2.1.2))) (V.st (V.st (V.dat .bool x6.2.2.1.1) (V.ref 11600097 0 0 (List.length x6.2.2.1.2))) (V.dat (.pair .str (.int .i64)) x6.2.2.2))))⟩, ⟨11600096, 0, .arr 109 (.int .u32) x6.2.1.2⟩, ⟨11600097, 0, .arr 109 (.int .u32) x6.2.2.1.2⟩, ⟨600003, 0, .box (V.dat Y_Heap x3)⟩]⟩
section
variable (n_l0 : LB → LO → X_Value → LI → Int → Int → Option (X_Value × (Int × Bool))) (x2 : LB) (x3 : LO) (x6 : Int × (X_Int × (X_Int × X_errorAddressString))) (x13 : LI) (x14 x15 : Int)
def F67.b_l0 : Option (X_Value × (Int × Bool)) :=
 bif (decide (x15 < x14)) then
 if 0 ≤ x15 ∧ x15 < ((List.length x13) : Int) then
 if 0 ≤ (List.getD x13 (Int.toNat x15) (0 : Int)) ∧ (List.getD x13 (Int.toNat x15) (0 : Int)) < ((List.length x3) : Int) then
 (c105 ((List.getD x3 (Int.toNat (List.getD x13 (Int.toNat x15) (0 : Int))) Z_Object), x2)).bind fun y1 =>
 bif y1.2 then
 some (y1.1, ((List.getD x13 (Int.toNat x15) (0 : Int)), true))
 else
 n_l0 x2 x3 (x6.1, ((x6.2.1.1, (List.take (List.length x6.2.1.2) x6.2.1.2)), ((x6.2.2.1.1, (List.take (List.length x6.2.2.1.2) x6.2.2.1.2)), x6.2.2.2))) x13 x14 (IntKind.i64.wrap (x15 + (1 : Int)))
 else none
 else none
 else
 some (((0 : Int), ((false, ([] : LI)), ((false, ([] : LI)), ([], (0 : Int))))), ((0 : Int), false))
def F67.c_l0 : Option (X_Value × (Int × Bool)) :=
 bif (decide (x15 < x14)) then
 if 0 ≤ x15 ∧ x15 < ((List.length x13) : Int) then
 if 0 ≤ (List.getD x13 (Int.toNat x15) (0 : Int)) ∧ (List.getD x13 (Int.toNat x15) (0 : Int)) < ((List.length x3) : Int) then
 (c105 ((List.getD x3 (Int.toNat (List.getD x13 (Int.toNat x15) (0 : Int))) Z_Object), x2)).bind fun y1 =>
 bif y1.2 then
 some (y1.1, ((List.getD x13 (Int.toNat x15) (0 : Int)), true))
 else
 n_l0 x2 x3 x6 x13 x14 (IntKind.i64.wrap (x15 + (1 : Int)))
 else none
 else none
 else
 some (((0 : Int), ((false, ([] : LI)), ((false, ([] : LI)), ([], (0 : Int))))), ((0 : Int), false))
theorem F67.q_l0 : F67.b_l0 c105 n_l0 x2 x3 x6 x13 x14 x15 = F67.c_l0 c105 n_l0 x2 x3 x6 x13 x14 x15 := by
  simp only [F67.b_l0, F67.c_l0, qq]
def F67.l0 (k : Nat) : Nat → LB → LO → X_Value → LI → Int → Int → Option (X_Value × (Int × Bool))
  | 0, _, _, _, _, _, _ => none
  | n + 1, x2, x3, x6, x13, x14, x15 => F67.b_l0 c105 (fun x2 x3 x6 x13 x14 x15 => F67.l0 k n x2 x3 x6 x13 x14 x15) x2 x3 x6 x13 x14 x15
theorem F67.e_l0 : F67.M_l0 c105 k n (F67.fr_l0 x2 x3 x6 x13 x14 x15) = F67.l0 c105 k n x2 x3 x6 x13 x14 x15 := by
  induction n generalizing x2 x3 x6 x13 x14 x15 with
  | zero => exact lpAt0
  | succ n ih =>
    refine Eq.trans (b := F67.b_l0 c105 (fun x2 x3 x6 x13 x14 x15 => F67.M_l0 c105 k n (F67.fr_l0 x2 x3 x6 x13 x14 x15)) x2 x3 x6 x13 x14 x15) (by kernel_rfl) ?_
    simp only [ih]
    rfl
end
variable (r_l0 : LB → LO → X_Value → LI → Int → Int → Option (X_Value × (Int × Bool))) (a0 : LO) (a1 : LI) (a2 : LB)
def F67.b (c105 : F105.E) (r_l0 : LB → LO → X_Value → LI → Int → Int → Option (X_Value × (Int × Bool))) (a0 : LO) (a1 : LI) (a2 : LB) : Option (X_Value × (Int × Bool)) :=
 r_l0 a2 a0 ((0 : Int), ((false, ([] : LI)), ((false, ([] : LI)), ([], (0 : Int))))) a1 ((List.length a1) : Int) (0 : Int)
def F67.f : Option (X_Value × (Int × Bool)) := F67.b c105 (F67.l0 c105 k k) a0 a1 a2
theorem F67.e : fn (F67.C c105) k Tryz.f67 F67.A F67.R (a0, (a1, a2)) = F67.f c105 k a0 a1 a2 := by
  refine Eq.trans (b := F67.b c105 (fun x2 x3 x6 x13 x14 x15 => F67.M_l0 c105 k k (F67.fr_l0 x2 x3 x6 x13 x14 x15)) a0 a1 a2) (by kernel_rfl) ?_
  simp only [F67.e_l0]
  rfl
end
def F67.u (k : Nat) : F67.E := fun y => F67.f (F105.u k) k y.1 y.2.1 y.2.2
theorem F67.sound (k : Nat) : Sound Tryz.prog ⟨67, F67.A, F67.R, F67.u k⟩ := sn gr Tryz.func67 (fun y => F67.e (F105.u k) k y.1 y.2.1 y.2.2) (al (F105.sound k) al0)
/-! ### brindlewood/attribute.Find: f22 -/
abbrev F22.A : List Sh := [(.d Y_Heap), (.d (.int .i64)), (.d .str)]
abbrev F22.R : List Sh := [(.d Y_Value), (.d (.int .i64)), (.d .bool)]
abbrev F22.E : Type := (LO × (Int × LB)) → Option (X_Value × (Int × Bool))
section
variable (c67 : F67.E)
variable (k n : Nat)
def F22.C : Ctx := cx [⟨67, F67.A, F67.R, c67⟩] []
variable (a0 : LO) (a1 : Int) (a2 : LB)
def F22.b : Option (X_Value × (Int × Bool)) :=
 if 0 ≤ a1 ∧ a1 < ((List.length a0) : Int) then
 (c67 (a0, ((((((List.getD a0 (Int.toNat a1) Z_Object).2).2).2).2).1, a2))).bind fun y1 =>
 some (y1.1, (y1.2.1, y1.2.2))
 else none
def F22.c : Option (X_Value × (Int × Bool)) :=
 if 0 ≤ a1 ∧ a1 < ((List.length a0) : Int) then
 (c67 (a0, ((((((List.getD a0 (Int.toNat a1) Z_Object).2).2).2).2).1, a2))).bind fun y1 =>
 some y1
 else none
theorem F22.q : F22.b c67 a0 a1 a2 = F22.c c67 a0 a1 a2 := by
  simp only [F22.b, F22.c, qq]
def F22.f (k : Nat) (a0 : LO) (a1 : Int) (a2 : LB) : Option (X_Value × (Int × Bool)) := F22.b c67 a0 a1 a2
theorem F22.e : fn (F22.C c67) k Tryz.f22 F22.A F22.R (a0, (a1, a2)) = F22.f c67 k a0 a1 a2 := by
  kernel_rfl
end
def F22.u (k : Nat) : F22.E := fun y => F22.f (F67.u k) k y.1 y.2.1 y.2.2
theorem F22.sound (k : Nat) : Sound Tryz.prog ⟨22, F22.A, F22.R, F22.u k⟩ := sn gr Tryz.func22 (fun y => F22.e (F67.u k) k y.1 y.2.1 y.2.2) (al (F67.sound k) al0)
/-! ### brindlewood/attribute.function: f52 -/
abbrev F52.A : List Sh := [(.d Y_Heap), (.d Y_Value)]
abbrev F52.R : List Sh := [(.d .bool)]
abbrev F52.E : Type := (LO × X_Value) → Option Bool
section
variable (c51 : F51.E)
variable (k n : Nat)
def F52.C : Ctx := cx [⟨51, F51.A, F51.R, c51⟩] []
variable (a0 : LO) (a1 : Int × (X_Int × (X_Int × X_errorAddressString)))
def F52.b : Option Bool :=
 bif (a1.1 == (7 : Int)) then
 some true
 else
 (c51 (a0, a1)).bind fun y1 =>
 some (y1.1 == (7 : Int))
def F52.f (k : Nat) (a0 : LO) (a1 : Int × (X_Int × (X_Int × X_errorAddressString))) : Option Bool := F52.b c51 a0 a1
theorem F52.e : fn (F52.C c51) k Tryz.f52 F52.A F52.R (a0, a1) = F52.f c51 k a0 a1 := by
  kernel_rfl
end
def F52.u (k : Nat) : F52.E := fun y => F52.f (F51.u k) k y.1 y.2
theorem F52.sound (k : Nat) : Sound Tryz.prog ⟨52, F52.A, F52.R, F52.u k⟩ := sn gr Tryz.func52 (fun y => F52.e (F51.u k) k y.1 y.2) (al (F51.sound k) al0)
/-! ### brindlewood/heap.Ref: f53 -/
abbrev F53.A : List Sh := [(.d (.int .i64))]
abbrev F53.R : List Sh := [(.d Y_Value)]
abbrev F53.E : Type := Int → Option X_Value
section
variable (k n : Nat)
def F53.C : Ctx := cx [] []
variable (a0 : Int)
def F53.b : Option X_Value :=
 some ((6 : Int), ((false, ([] : LI)), ((false, ([] : LI)), ([], a0))))
def F53.f (k : Nat) (a0 : Int) : Option X_Value := F53.b a0
theorem F53.e : fn F53.C k Tryz.f53 F53.A F53.R a0 = F53.f k a0 := by
  kernel_rfl
end
def F53.u (k : Nat) : F53.E := fun y => F53.f k y
theorem F53.sound (k : Nat) : Sound Tryz.prog ⟨53, F53.A, F53.R, F53.u k⟩ := sn gr Tryz.func53 (fun y => F53.e k y) al0
/-! ### brindlewood/attribute.Special: f12 -/
abbrev F12.A : List Sh := [(.d Y_Heap), (.d Y_Value), (.d .str)]
abbrev F12.R : List Sh := [(.d Y_Value), (.d (.sl 29 Y_Value)), (.d .bool)]
abbrev F12.E : Type := (LO × (X_Value × LB)) → Option (X_Value × (LV × Bool))
section
variable (c51 : F51.E) (c22 : F22.E) (c52 : F52.E) (c53 : F53.E)
variable (k n : Nat)
def F12.C : Ctx := cx [⟨51, F51.A, F51.R, c51⟩, ⟨22, F22.A, F22.R, c22⟩, ⟨52, F52.A, F52.R, c52⟩, ⟨53, F53.A, F53.R, c53⟩] []
variable (a0 : LO) (a1 : Int × (X_Int × (X_Int × X_errorAddressString))) (a2 : LB)
def F12.b : Option (X_Value × (LV × Bool)) :=
 (c51 (a0, a1)).bind fun y1 =>
 bif (y1.1 != (10 : Int)) then
 some (((0 : Int), ((false, ([] : LI)), ((false, ([] : LI)), ([], (0 : Int))))), (([] : LV), false))
 else
 if 0 ≤ a1.2.2.2.2 ∧ a1.2.2.2.2 < ((List.length a0) : Int) then
 (c22 (a0, ((((List.getD a0 (Int.toNat a1.2.2.2.2) Z_Object).2).2).1, a2))).bind fun y2 =>
 bif (!y2.2.2) then
 some (((0 : Int), ((false, ([] : LI)), ((false, ([] : LI)), ([], (0 : Int))))), (([] : LV), false))
 else
 (c51 (a0, y2.1)).bind fun y3 =>
 (c52 (a0, y2.1)).bind fun y4 =>
 bif y4 then
 some (y2.1, ((List.take 1 ([a1] : LV)), true))
 else
 bif (y3.1 == (13 : Int)) then
 if 0 ≤ (0 : Int) ∧ (0 : Int) < ((List.length y3.2.2.2.2.2.2.1) : Int) then
 some ((List.getD y3.2.2.2.2.2.2.1 (Int.toNat (0 : Int)) Z_Value), (([] : LV), true))
 else none
 else
 bif (y3.1 == (14 : Int)) then
 if 0 ≤ (0 : Int) ∧ (0 : Int) < ((List.length y3.2.2.2.2.2.2.1) : Int) then
 (c53 ((((List.getD a0 (Int.toNat a1.2.2.2.2) Z_Object).2).2).1)).bind fun y5 =>
 some ((List.getD y3.2.2.2.2.2.2.1 (Int.toNat (0 : Int)) Z_Value), ((List.take 1 ([y5] : LV)), true))
 else none
 else
 some (y2.1, (([] : LV), true))
 else none
def F12.c : Option (X_Value × (LV × Bool)) :=
 (c51 (a0, a1)).bind fun y1 =>
 bif (y1.1 != (10 : Int)) then
 some (((0 : Int), ((false, ([] : LI)), ((false, ([] : LI)), ([], (0 : Int))))), (([] : LV), false))
 else
 if 0 ≤ a1.2.2.2.2 ∧ a1.2.2.2.2 < ((List.length a0) : Int) then
 (c22 (a0, ((((List.getD a0 (Int.toNat a1.2.2.2.2) Z_Object).2).2).1, a2))).bind fun y2 =>
 bif !y2.2.2 then
 some (((0 : Int), ((false, ([] : LI)), ((false, ([] : LI)), ([], (0 : Int))))), (([] : LV), false))
 else
 (c51 (a0, y2.1)).bind fun y3 =>
 (c52 (a0, y2.1)).bind fun y4 =>
 bif y4 then
 some (y2.1, (([a1] : LV), true))
 else
 bif (y3.1 == (13 : Int)) then
 if (0 : Int) < ((List.length y3.2.2.2.2.2.2.1) : Int) then
 some ((List.getD y3.2.2.2.2.2.2.1 0 Z_Value), (([] : LV), true))
 else none
 else
 bif (y3.1 == (14 : Int)) then
 if (0 : Int) < ((List.length y3.2.2.2.2.2.2.1) : Int) then
 (c53 ((((List.getD a0 (Int.toNat a1.2.2.2.2) Z_Object).2).2).1)).bind fun y5 =>
 some ((List.getD y3.2.2.2.2.2.2.1 0 Z_Value), (([y5] : LV), true))
 else none
 else
 some (y2.1, (([] : LV), true))
 else none
theorem F12.q : F12.b c51 c22 c52 c53 a0 a1 a2 = F12.c c51 c22 c52 c53 a0 a1 a2 := by
  simp only [F12.b, F12.c, qq]
def F12.f (k : Nat) (a0 : LO) (a1 : Int × (X_Int × (X_Int × X_errorAddressString))) (a2 : LB) : Option (X_Value × (LV × Bool)) := F12.b c51 c22 c52 c53 a0 a1 a2
theorem F12.e : fn (F12.C c51 c22 c52 c53) k Tryz.f12 F12.A F12.R (a0, (a1, a2)) = F12.f c51 c22 c52 c53 k a0 a1 a2 := by
  kernel_rfl
end
def F12.u (k : Nat) : F12.E := fun y => F12.f (F51.u k) (F22.u k) (F52.u k) (F53.u k) k y.1 y.2.1 y.2.2
theorem F12.sound (k : Nat) : Sound Tryz.prog ⟨12, F12.A, F12.R, F12.u k⟩ := sn gr Tryz.func12 (fun y => F12.e (F51.u k) (F22.u k) (F52.u k) (F53.u k) k y.1 y.2.1 y.2.2) (al (F51.sound k) (al (F22.sound k) (al (F52.sound k) (al (F53.sound k) al0))))
/-! ### slices.Grow[[]brindlewood/api.Value,brindlewood/api.Value]: f124 -/
abbrev F124.E : Type := ((Unit) × Int) → Option LV
section
variable (k n : Nat)
variable (a0 : Unit) (a1 : Int)
end
/-! ### slices.Concat[[]brindlewood/api.Value,brindlewood/api.Value]: f81 -/
abbrev F81.E : Type := (List LV) → Option LV
section
variable (c124 : F124.E)
variable (k n : Nat)
section
variable (n_l2 : LV → (List LV) → Int → Int → Option LV) (x6 : LV) (x25 : List LV) (x26 x27 : Int)
end
section
variable (n_l0 : (List LV) → Int → (List LV) → Int → Int → Option LV) (r_l2 : LV → (List LV) → Int → Int → Option LV) (x0 : List LV) (x3 : Int) (x9 : List LV) (x10 x11 : Int)
end
variable (r_l0 : (List LV) → Int → (List LV) → Int → Int → Option LV) (a0 : List LV)
end
/-! ### brindlewood/operators.attempt: f31 -/
abbrev F31.E : Type := (LO × (X_Value × (LB × LV))) → Option (List X_Step)
section
variable (c12 : F12.E) (c81 : F81.E)
variable (k n : Nat)
variable (a0 : LO) (a1 : Int × (X_Int × (X_Int × X_errorAddressString))) (a2 : LB) (a3 : LV)
end
/-! ### brindlewood/operators.value: f82 -/
abbrev F82.E : Type := X_Value → Option X_Step
section
variable (k n : Nat)
variable (a0 : Int × (X_Int × (X_Int × X_errorAddressString)))
end
/-! ### brindlewood/integer.Valid: f162 -/
abbrev F162.E : Type := X_Int → Option Bool
section
variable (k n : Nat)
variable (a0 : Bool × LI)
end
/-! ### brindlewood/integer.at: f163 -/
abbrev F163.E : Type := X_acceptRange → Option X_acceptRange
section
variable (k n : Nat)
variable (a0 a1 : Int)
end
/-! ### brindlewood/integer.check: f125 -/
abbrev F125.E : Type := (List X_Int) → Option X_acceptRange
section
variable (c162 : F162.E) (c163 : F163.E)
variable (k n : Nat)
section
variable (n_l0 : X_acceptRange → (List X_Int) → Int → Int → Option X_acceptRange) (x2 : Int × Int) (x5 : List X_Int) (x6 x7 : Int)
end
variable (r_l0 : X_acceptRange → (List X_Int) → Int → Int → Option X_acceptRange) (a0 : List X_Int)
end
/-! ### brindlewood/integer.signed: f126 -/
abbrev F126.E : Type := X_Int → Option (X_Int × X_acceptRange)
section
variable (c163 : F163.E)
variable (k n : Nat)
variable (a0 : Bool) (a1 : LI)
end
/-! ### brindlewood/integer.Neg: f83 -/
abbrev F83.E : Type := X_Int → Option (X_Int × X_acceptRange)
section
variable (c125 : F125.E) (c80 : F80.E) (c126 : F126.E)
variable (k n : Nat)
variable (a0 : Bool × LI)
end
/-! ### brindlewood/integer.twos: f165 -/
abbrev F165.E : Type := (X_Int × Int) → Option LI
section
variable (k n : Nat)
section
variable (n_l0 : LI → Int → Int → Int → Option LI) (x5 : LI) (x6 x20 x21 : Int)
end
variable (r_l0 : LI → Int → Int → Int → Option LI) (a0 : Bool × LI) (a1 : Int)
end
/-! ### brindlewood/integer.back: f166 -/
abbrev F166.E : Type := LI → Option (X_Int × X_acceptRange)
section
variable (c165 : F165.E) (c126 : F126.E)
variable (k n : Nat)
section
variable (x0 : LI) (x2 : Bool × LI) (x3 : Int × Int) (x4 : Bool)
end
section
variable (n_l0 r_g6 : LI → X_Int → X_acceptRange → Bool → Option (X_Int × X_acceptRange)) (x0 : LI) (x2 : Bool × LI) (x3 : Int × Int) (x4 : Bool)
end
variable (r_l0 : LI → X_Int → X_acceptRange → Bool → Option (X_Int × X_acceptRange)) (a0 : LI)
end
/-! ### brindlewood/integer.bitwise: f128 -/
abbrev F128.E : Type := (X_Int × (X_Int × ((Int × (Int × (Unit))) → Option Int))) → Option (X_Int × X_acceptRange)
section
variable (c125 : F125.E) (c165 : F165.E) (c166 : F166.E)
variable (k n : Nat)
section
variable (n_l0 : ((Int × (Int × (Unit))) → Option Int) → X_Int → X_acceptRange → LI → LI → Int → Int → Option (X_Int × X_acceptRange)) (x2 : (Int × (Int × (Unit))) → Option Int) (x6 : Bool × LI) (x7 : Int × Int) (x10 x11 : LI) (x37 x38 : Int)
end
variable (r_l0 : ((Int × (Int × (Unit))) → Option Int) → X_Int → X_acceptRange → LI → LI → Int → Int → Option (X_Int × X_acceptRange)) (a0 a1 : Bool × LI) (a2 : (Int × (Int × (Unit))) → Option Int)
end
/-! ### brindlewood/integer.Not$1: f129 -/
abbrev F129.E : Type := X_acceptRange → Option Int
section
variable (k n : Nat)
variable (a0 a1 : Int)
end
/-! ### brindlewood/integer.Not: f85 -/
abbrev F85.E : Type := X_Int → Option (X_Int × X_acceptRange)
section
variable (c128 : F128.E) (c129 : F129.E)
variable (k n : Nat)
variable (a0 : Bool × LI)
end
/-! ### brindlewood/operators.raise: f33 -/
abbrev F33.E : Type := (Int × LB) → Option X_Step
section
variable (k n : Nat)
variable (a0 : Int) (a1 : LB)
end
/-! ### brindlewood/operators.limit: f164 -/
abbrev F164.E : Type := (Unit) → Option X_Step
section
variable (c33 : F33.E)
variable (k n : Nat)
end
/-! ### brindlewood/operators.failed: f127 -/
abbrev F127.E : Type := X_acceptRange → Option (X_Step × Bool)
section
variable (c33 : F33.E) (c164 : F164.E)
variable (k n : Nat)
variable (a0 : Int × Int)
end
/-! ### brindlewood/operators.whole: f84 -/
abbrev F84.E : Type := (X_Int × X_acceptRange) → Option X_Step
section
variable (c127 : F127.E) (c82 : F82.E)
variable (k n : Nat)
variable (a0 : Bool × LI) (a1 : Int × Int)
end
/-! ### brindlewood/operators.unary: f32 -/
abbrev F32.E : Type := (Int × X_Value) → Option (X_Step × Bool)
section
variable (c82 : F82.E) (c83 : F83.E) (c85 : F85.E) (c84 : F84.E)
variable (k n : Nat)
section
variable (x3 : Int × (X_Int × (X_Int × X_errorAddressString))) (x4 : Int × (X_Value × (Int × (LB × (X_Value × LV)))))
end
section
variable (x0 : Int) (x3 : Int × (X_Int × (X_Int × X_errorAddressString))) (x4 : Int × (X_Value × (Int × (LB × (X_Value × LV)))))
end
section
variable (r_g4 : X_Value → X_Step → Option (X_Step × Bool)) (r_g7 : Int → X_Value → X_Step → Option (X_Step × Bool)) (x0 : Int) (x3 : Int × (X_Int × (X_Int × X_errorAddressString))) (x4 : Int × (X_Value × (Int × (LB × (X_Value × LV)))))
end
variable (r_g3 : Int → X_Value → X_Step → Option (X_Step × Bool)) (a0 : Int) (a1 : Int × (X_Int × (X_Int × X_errorAddressString)))
end
/-! ### brindlewood/heap.kindClasses: f98 -/
abbrev F98.A : List Sh := []
abbrev F98.R : List Sh := [(.d (.sl 3 (.int .i64)))]
abbrev F98.E : Type := (Unit) → Option LI
section
variable (k n : Nat)
def F98.C : Ctx := cx [] []
def F98.b : Option LI :=
 some (List.take 10 ([(2 : Int), (3 : Int), (4 : Int), (5 : Int), (6 : Int), (7 : Int), (0 : Int), (15 : Int), (27 : Int), (2 : Int)] : LI))
def F98.f (k : Nat) : Option LI := F98.b
theorem F98.e : fn F98.C k Tryz.f98 F98.A F98.R () = F98.f k := by
  kernel_rfl
end
def F98.u (k : Nat) : F98.E := fun y => F98.f k
theorem F98.sound (k : Nat) : Sound Tryz.prog ⟨98, F98.A, F98.R, F98.u k⟩ := sn gr Tryz.func98 (fun y => F98.e k) al0
/-! ### brindlewood/heap.objectClasses: f99 -/
abbrev F99.A : List Sh := []
abbrev F99.R : List Sh := [(.d (.sl 3 (.int .i64)))]
abbrev F99.E : Type := (Unit) → Option LI
section
variable (k n : Nat)
def F99.C : Ctx := cx [] []
def F99.b : Option LI :=
 some (List.take 21 ([(0 : Int), (8 : Int), (9 : Int), (10 : Int), (11 : Int), (12 : Int), (13 : Int), (14 : Int), (16 : Int), (1 : Int), (0 : Int), (17 : Int), (18 : Int), (19 : Int), (20 : Int), (21 : Int), (22 : Int), (23 : Int), (24 : Int), (25 : Int), (26 : Int)] : LI))
def F99.f (k : Nat) : Option LI := F99.b
theorem F99.e : fn F99.C k Tryz.f99 F99.A F99.R () = F99.f k := by
  kernel_rfl
end
def F99.u (k : Nat) : F99.E := fun y => F99.f k
theorem F99.sound (k : Nat) : Sound Tryz.prog ⟨99, F99.A, F99.R, F99.u k⟩ := sn gr Tryz.func99 (fun y => F99.e k) al0
/-! ### brindlewood/heap.ClassOf: f60 -/
abbrev F60.A : List Sh := [(.d Y_Heap), (.d Y_Value)]
abbrev F60.R : List Sh := [(.d (.int .i64))]
abbrev F60.E : Type := (LO × X_Value) → Option Int
section
variable (c98 : F98.E) (c99 : F99.E)
variable (k n : Nat)
def F60.C : Ctx := cx [⟨98, F98.A, F98.R, c98⟩, ⟨99, F99.A, F99.R, c99⟩] []
variable (a0 : LO) (a1 : Int × (X_Int × (X_Int × X_errorAddressString)))
def F60.b : Option Int :=
 bif (a1.1 != (6 : Int)) then
 (c98 ()).bind fun y1 =>
 if 0 ≤ a1.1 ∧ a1.1 < ((List.length y1) : Int) then
 some (List.getD y1 (Int.toNat a1.1) (0 : Int))
 else none
 else
 if 0 ≤ a1.2.2.2.2 ∧ a1.2.2.2.2 < ((List.length a0) : Int) then
 bif (((List.getD a0 (Int.toNat a1.2.2.2.2) Z_Object).1) == (10 : Int)) then
 some ((((List.getD a0 (Int.toNat a1.2.2.2.2) Z_Object).2).2).1)
 else
 (c99 ()).bind fun y2 =>
 if 0 ≤ ((List.getD a0 (Int.toNat a1.2.2.2.2) Z_Object).1) ∧ ((List.getD a0 (Int.toNat a1.2.2.2.2) Z_Object).1) < ((List.length y2) : Int) then
 some (List.getD y2 (Int.toNat ((List.getD a0 (Int.toNat a1.2.2.2.2) Z_Object).1)) (0 : Int))
 else none
 else none
def F60.f (k : Nat) (a0 : LO) (a1 : Int × (X_Int × (X_Int × X_errorAddressString))) : Option Int := F60.b c98 c99 a0 a1
theorem F60.e : fn (F60.C c98 c99) k Tryz.f60 F60.A F60.R (a0, a1) = F60.f c98 c99 k a0 a1 := by
  kernel_rfl
end
def F60.u (k : Nat) : F60.E := fun y => F60.f (F98.u k) (F99.u k) k y.1 y.2
theorem F60.sound (k : Nat) : Sound Tryz.prog ⟨60, F60.A, F60.R, F60.u k⟩ := sn gr Tryz.func60 (fun y => F60.e (F98.u k) (F99.u k) k y.1 y.2) (al (F98.sound k) (al (F99.sound k) al0))
/-! ### brindlewood/heap.Name: f34 -/
abbrev F34.E : Type := (LO × X_Value) → Option LB
section
variable (c60 : F60.E)
variable (k n : Nat)
variable (a0 : LO) (a1 : Int × (X_Int × (X_Int × X_errorAddressString)))
end
/-! ### brindlewood/operators.Unary: f8 -/
abbrev F8.E : Type := (LO × (Int × X_Value)) → Option X_Plan
section
variable (c30 : F30.E) (c31 : F31.E) (c32 : F32.E) (c34 : F34.E) (c33 : F33.E)
variable (k n : Nat)
variable (a0 : LO) (a1 : Int) (a2 : Int × (X_Int × (X_Int × X_errorAddressString)))
end
/-! ### brindlewood/brindlewoodref7.Verbs: f36 -/
abbrev F36.E : Type := (Unit) → Option LLB
section
variable (c66 : F66.E)
variable (k n : Nat)
end
/-! ### brindlewood/brindlewoodref7.Own: f68 -/
abbrev F68.A : List Sh := [(.d Y_Object), (.d .str)]
abbrev F68.R : List Sh := [(.d Y_Value), (.d .bool)]
abbrev F68.E : Type := (X_Object × LB) → Option (X_Value × Bool)
section
variable (k n : Nat)
def F68.C : Ctx := cx [] [(0, [.d 1 .str, .bx 2 600002 (.d Y_Object), .bx 4 600004 (.pair (.d (.int .i64)) (.pair (.pair (.d .bool) (.o 109 (.int .u32))) (.pair (.pair (.d .bool) (.o 109 (.int .u32))) (.d (.pair .str (.int .i64)))))), .d 9 (.sl 9 .str), .d 10 (.int .i64), .d 11 (.int .i64)])]
noncomputable def F68.M_l0 (s : St) : Option (X_Value × Bool) := lpAt F68.C k n [1, 0, 1, 0] [] Tryz.f68 F68.A F68.R s
noncomputable def F68.fr_l0 (x1 : LB) (x2 : Int × (LB × (Int × (LI × (LI × (LLB × (LV × (LV × X_acceptRange)))))))) (x4 : Int × (X_Int × (X_Int × X_errorAddressString))) (x9 : LLB) (x10 : Int) (x11 : Int) : St := ⟨(((((((List.replicate 26 V.un).set 1 (V.dat .str x1)).set 2 (V.bp 600002 0 [])).set 4 (V.bp 600004 0 [])).set 9 (V.dat (.sl 9 .str) x9)).set 10 (V.dat (.int .i64) x10)).set 11 (V.dat (.int .i64) x11)), [⟨600004, 0, .box (V.st (V.dat (.int .i64) x4.1) (V.st (V.st (V.dat .bool x4.2.1.1) (V.ref 11600064 0 0 (List.length x4.2.1.2))) (V.st (V.st (V.dat .bool x4.2.2.1.1) (V.ref 11600065 0 0 (List.length x4.2.2.1.2))) (V.dat (.pair .str (.int .i64)) x4.2.2.2))))⟩, ⟨11600064, 0, .arr 109 (.int .u32) x4.2.1.2⟩, ⟨11600065, 0, .arr 109 (.int .u32) x4.2.2.1.2⟩, ⟨600002, 0, .box (V.dat Y_Object x2)⟩]⟩
section
variable (n_l0 : LB → X_Object → X_Value → LLB → Int → Int → Option (X_Value × Bool)) (x1 : LB) (x2 : Int × (LB × (Int × (LI × (LI × (LLB × (LV × (LV × X_acceptRange)))))))) (x4 : Int × (X_Int × (X_Int × X_errorAddressString))) (x9 : LLB) (x10 x11 : Int)
def F68.b_l0 : Option (X_Value × Bool) :=
 bif (decide (x11 < x10)) then
 if 0 ≤ x11 ∧ x11 < ((List.length x9) : Int) then
 bif ((List.getD x9 (Int.toNat x11) []) == x1) then
 if 0 ≤ x11 ∧ x11 < ((List.length x2.2.2.2.2.2.2.1) : Int) then
 some ((List.getD x2.2.2.2.2.2.2.1 (Int.toNat x11) Z_Value), true)
 else none
 else
 n_l0 x1 x2 (x4.1, ((x4.2.1.1, (List.take (List.length x4.2.1.2) x4.2.1.2)), ((x4.2.2.1.1, (List.take (List.length x4.2.2.1.2) x4.2.2.1.2)), x4.2.2.2))) x9 x10 (IntKind.i64.wrap (x11 + (1 : Int)))
 else none
 else
 some (((0 : Int), ((false, ([] : LI)), ((false, ([] : LI)), ([], (0 : Int))))), false)
def F68.c_l0 : Option (X_Value × Bool) :=
 bif (decide (x11 < x10)) then
 if 0 ≤ x11 ∧ x11 < ((List.length x9) : Int) then
 bif ((List.getD x9 (Int.toNat x11) []) == x1) then
 if 0 ≤ x11 ∧ x11 < ((List.length x2.2.2.2.2.2.2.1) : Int) then
 some ((List.getD x2.2.2.2.2.2.2.1 (Int.toNat x11) Z_Value), true)
 else none
 else
 n_l0 x1 x2 x4 x9 x10 (IntKind.i64.wrap (x11 + (1 : Int)))
 else none
 else
 some (((0 : Int), ((false, ([] : LI)), ((false, ([] : LI)), ([], (0 : Int))))), false)
theorem F68.q_l0 : F68.b_l0 n_l0 x1 x2 x4 x9 x10 x11 = F68.c_l0 n_l0 x1 x2 x4 x9 x10 x11 := by
  simp only [F68.b_l0, F68.c_l0, qq]
def F68.l0 (k : Nat) : Nat → LB → X_Object → X_Value → LLB → Int → Int → Option (X_Value × Bool)
  | 0, _, _, _, _, _, _ => none
  | n + 1, x1, x2, x4, x9, x10, x11 => F68.b_l0 (fun x1 x2 x4 x9 x10 x11 => F68.l0 k n x1 x2 x4 x9 x10 x11) x1 x2 x4 x9 x10 x11
theorem F68.e_l0 : F68.M_l0 k n (F68.fr_l0 x1 x2 x4 x9 x10 x11) = F68.l0 k n x1 x2 x4 x9 x10 x11 := by
  induction n generalizing x1 x2 x4 x9 x10 x11 with
  | zero => exact lpAt0
  | succ n ih =>
    refine Eq.trans (b := F68.b_l0 (fun x1 x2 x4 x9 x10 x11 => F68.M_l0 k n (F68.fr_l0 x1 x2 x4 x9 x10 x11)) x1 x2 x4 x9 x10 x11) (by kernel_rfl) ?_
    simp only [ih]
    rfl
end
variable (r_l0 : LB → X_Object → X_Value → LLB → Int → Int → Option (X_Value × Bool)) (a0 : Int × (LB × (Int × (LI × (LI × (LLB × (LV × (LV × X_acceptRange)))))))) (a1 : LB)
def F68.b : Option (X_Value × Bool) :=
 r_l0 a1 a0 ((0 : Int), ((false, ([] : LI)), ((false, ([] : LI)), ([], (0 : Int))))) a0.2.2.2.2.2.1 ((List.length a0.2.2.2.2.2.1) : Int) (0 : Int)
def F68.f : Option (X_Value × Bool) := F68.b (F68.l0 k k) a0 a1
theorem F68.e : fn F68.C k Tryz.f68 F68.A F68.R (a0, a1) = F68.f k a0 a1 := by
  refine Eq.trans (b := F68.b (fun x1 x2 x4 x9 x10 x11 => F68.M_l0 k k (F68.fr_l0 x1 x2 x4 x9 x10 x11)) a0 a1) (by kernel_rfl) ?_
  simp only [F68.e_l0]
  rfl
end
def F68.u (k : Nat) : F68.E := fun y => F68.f k y.1 y.2
theorem F68.sound (k : Nat) : Sound Tryz.prog ⟨68, F68.A, F68.R, F68.u k⟩ := sn gr Tryz.func68 (fun y => F68.e k y.1 y.2) al0
/-! ### brindlewood/brindlewoodref7.Among: f23 -/
abbrev F23.A : List Sh := [(.d Y_Heap), (.d (.sl 3 (.int .i64))), (.d .str)]
abbrev F23.R : List Sh := [(.d Y_Value), (.d (.int .i64)), (.d .bool)]
abbrev F23.E : Type := (LO × (LI × LB)) → Option (X_Value × (Int × Bool))
section
variable (c68 : F68.E)
variable (k n : Nat)
def F23.C : Ctx := cx [⟨68, F68.A, F68.R, c68⟩] [(0, [.d 2 .str, .bx 3 600003 (.d Y_Heap), .bx 6 600006 (.pair (.d (.int .i64)) (.pair (.pair (.d .bool) (.o 109 (.int .u32))) (.pair (.pair (.d .bool) (.o 109 (.int .u32))) (.d (.pair .str (.int .i64)))))), .d 13 (.sl 3 (.int .i64)), .d 14 (.int .i64), .d 15 (.int .i64)])]
noncomputable def F23.M_l0 (s : St) : Option (X_Value × (Int × Bool)) := lpAt (F23.C c68) k n [1, 0, 1, 0] [] Tryz.f23 F23.A F23.R s
noncomputable def F23.fr_l0 (x2 : LB) (x3 : LO) (x6 : Int × (X_Int × (X_Int × X_errorAddressString))) (x13 : LI) (x14 : Int) (x15 : Int) : St := ⟨(((((((List.replicate 34 V.un).set 2 (V.dat .str x2)).set 3 (V.bp 600003 0 [])).set 6 (V.bp 600006 0 [])).set 13 (V.dat (.sl 3 (.int .i64)) x13)).set 14 (V.dat (.int .i64) x14)).set 15 (V.dat (.int .i64) x15)), [⟨600006, 0, .box (V.st (V.dat (.int .i64) x6.1) (V.st (V.st (V.dat .bool x6.2.1.1) (V.ref 11600096 0 0 (List.length x6.2.1.2))) (V.st (V.st (V.dat .bool x6.2.2.1.1) (V.ref 11600097 0 0 (List.length x6.2.2.1.2))) (V.dat (.pair .str (.int .i64)) x6.2.2.2))))⟩, ⟨11600096, 0, .arr 109 (.int .u32) x6.2.1.2⟩, ⟨11600097, 0, .arr 109 (.int .u32) x6.2.2.1.2⟩, ⟨600003, 0, .box (V.dat Y_Heap x3)⟩]⟩
section
variable (n_l0 : LB → LO → X_Value → LI → Int → Int → Option (X_Value × (Int × Bool))) (x2 : LB) (x3 : LO) (x6 : Int × (X_Int × (X_Int × X_errorAddressString))) (x13 : LI) (x14 x15 : Int)
def F23.b_l0 : Option (X_Value × (Int × Bool)) :=
 bif (decide (x15 < x14)) then
 if 0 ≤ x15 ∧ x15 < ((List.length x13) : Int) then
 if 0 ≤ (List.getD x13 (Int.toNat x15) (0 : Int)) ∧ (List.getD x13 (Int.toNat x15) (0 : Int)) < ((List.length x3) : Int) then
 (c68 ((List.getD x3 (Int.toNat (List.getD x13 (Int.toNat x15) (0 : Int))) Z_Object), x2)).bind fun y1 =>
 bif y1.2 then
 some (y1.1, ((List.getD x13 (Int.toNat x15) (0 : Int)), true))
 else
 n_l0 x2 x3 (x6.1, ((x6.2.1.1, (List.take (List.length x6.2.1.2) x6.2.1.2)), ((x6.2.2.1.1, (List.take (List.length x6.2.2.1.2) x6.2.2.1.2)), x6.2.2.2))) x13 x14 (IntKind.i64.wrap (x15 + (1 : Int)))
 else none
 else none
 else
 some (((0 : Int), ((false, ([] : LI)), ((false, ([] : LI)), ([], (0 : Int))))), ((0 : Int), false))
def F23.c_l0 : Option (X_Value × (Int × Bool)) :=
 bif (decide (x15 < x14)) then
 if 0 ≤ x15 ∧ x15 < ((List.length x13) : Int) then
 if 0 ≤ (List.getD x13 (Int.toNat x15) (0 : Int)) ∧ (List.getD x13 (Int.toNat x15) (0 : Int)) < ((List.length x3) : Int) then
 (c68 ((List.getD x3 (Int.toNat (List.getD x13 (Int.toNat x15) (0 : Int))) Z_Object), x2)).bind fun y1 =>
 bif y1.2 then
 some (y1.1, ((List.getD x13 (Int.toNat x15) (0 : Int)), true))
 else
 n_l0 x2 x3 x6 x13 x14 (IntKind.i64.wrap (x15 + (1 : Int)))
 else none
 else none
 else
 some (((0 : Int), ((false, ([] : LI)), ((false, ([] : LI)), ([], (0 : Int))))), ((0 : Int), false))
theorem F23.q_l0 : F23.b_l0 c68 n_l0 x2 x3 x6 x13 x14 x15 = F23.c_l0 c68 n_l0 x2 x3 x6 x13 x14 x15 := by
  simp only [F23.b_l0, F23.c_l0, qq]
def F23.l0 (k : Nat) : Nat → LB → LO → X_Value → LI → Int → Int → Option (X_Value × (Int × Bool))
  | 0, _, _, _, _, _, _ => none
  | n + 1, x2, x3, x6, x13, x14, x15 => F23.b_l0 c68 (fun x2 x3 x6 x13 x14 x15 => F23.l0 k n x2 x3 x6 x13 x14 x15) x2 x3 x6 x13 x14 x15
theorem F23.e_l0 : F23.M_l0 c68 k n (F23.fr_l0 x2 x3 x6 x13 x14 x15) = F23.l0 c68 k n x2 x3 x6 x13 x14 x15 := by
  induction n generalizing x2 x3 x6 x13 x14 x15 with
  | zero => exact lpAt0
  | succ n ih =>
    refine Eq.trans (b := F23.b_l0 c68 (fun x2 x3 x6 x13 x14 x15 => F23.M_l0 c68 k n (F23.fr_l0 x2 x3 x6 x13 x14 x15)) x2 x3 x6 x13 x14 x15) (by kernel_rfl) ?_
    simp only [ih]
    rfl
end
variable (r_l0 : LB → LO → X_Value → LI → Int → Int → Option (X_Value × (Int × Bool))) (a0 : LO) (a1 : LI) (a2 : LB)
def F23.b (c68 : F68.E) (r_l0 : LB → LO → X_Value → LI → Int → Int → Option (X_Value × (Int × Bool))) (a0 : LO) (a1 : LI) (a2 : LB) : Option (X_Value × (Int × Bool)) :=
 r_l0 a2 a0 ((0 : Int), ((false, ([] : LI)), ((false, ([] : LI)), ([], (0 : Int))))) a1 ((List.length a1) : Int) (0 : Int)
def F23.f : Option (X_Value × (Int × Bool)) := F23.b c68 (F23.l0 c68 k k) a0 a1 a2
theorem F23.e : fn (F23.C c68) k Tryz.f23 F23.A F23.R (a0, (a1, a2)) = F23.f c68 k a0 a1 a2 := by
  refine Eq.trans (b := F23.b c68 (fun x2 x3 x6 x13 x14 x15 => F23.M_l0 c68 k k (F23.fr_l0 x2 x3 x6 x13 x14 x15)) a0 a1 a2) (by kernel_rfl) ?_
  simp only [F23.e_l0]
  rfl
end
def F23.u (k : Nat) : F23.E := fun y => F23.f (F68.u k) k y.1 y.2.1 y.2.2
theorem F23.sound (k : Nat) : Sound Tryz.prog ⟨23, F23.A, F23.R, F23.u k⟩ := sn gr Tryz.func23 (fun y => F23.e (F68.u k) k y.1 y.2.1 y.2.2) (al (F68.sound k) al0)
/-! ### brindlewood/brindlewoodref7.Inherited: f55 -/
abbrev F55.A : List Sh := [(.d Y_Heap), (.d (.int .i64)), (.d .str)]
abbrev F55.R : List Sh := [(.d Y_Value), (.d .bool)]
abbrev F55.E : Type := (LO × (Int × LB)) → Option (X_Value × Bool)
section
variable (c23 : F23.E)
variable (k n : Nat)
def F55.C : Ctx := cx [⟨23, F23.A, F23.R, c23⟩] []
variable (a0 : LO) (a1 : Int) (a2 : LB)
def F55.b : Option (X_Value × Bool) :=
 if 0 ≤ a1 ∧ a1 < ((List.length a0) : Int) then
 (c23 (a0, ((((((List.getD a0 (Int.toNat a1) Z_Object).2).2).2).2).1, a2))).bind fun y1 =>
 some (y1.1, y1.2.2)
 else none
def F55.f (k : Nat) (a0 : LO) (a1 : Int) (a2 : LB) : Option (X_Value × Bool) := F55.b c23 a0 a1 a2
theorem F55.e : fn (F55.C c23) k Tryz.f55 F55.A F55.R (a0, (a1, a2)) = F55.f c23 k a0 a1 a2 := by
  kernel_rfl
end
def F55.u (k : Nat) : F55.E := fun y => F55.f (F23.u k) k y.1 y.2.1 y.2.2
theorem F55.sound (k : Nat) : Sound Tryz.prog ⟨55, F55.A, F55.R, F55.u k⟩ := sn gr Tryz.func55 (fun y => F55.e (F23.u k) k y.1 y.2.1 y.2.2) (al (F23.sound k) al0)
/-! ### brindlewood/brindlewoodref7.O: f57 -/
abbrev F57.A : List Sh := [(.d (.int .i64))]
abbrev F57.R : List Sh := [(.d Y_Value)]
abbrev F57.E : Type := Int → Option X_Value
section
variable (k n : Nat)
def F57.C : Ctx := cx [] []
variable (a0 : Int)
def F57.b : Option X_Value :=
 some ((6 : Int), ((false, ([] : LI)), ((false, ([] : LI)), ([], a0))))
def F57.f (k : Nat) (a0 : Int) : Option X_Value := F57.b a0
theorem F57.e : fn F57.C k Tryz.f57 F57.A F57.R a0 = F57.f k a0 := by
  kernel_rfl
end
def F57.u (k : Nat) : F57.E := fun y => F57.f k y
theorem F57.sound (k : Nat) : Sound Tryz.prog ⟨57, F57.A, F57.R, F57.u k⟩ := sn gr Tryz.func57 (fun y => F57.e k y) al0
end
end Go.Ab
