/- A part of the proof: GX2. -/
import Derived.Test.YtdekjkgfohlmgaaGreatDoorFLs
import Derived.Test.YtdekjkgfohlmgaaGreatDoorGT1
import Derived.Test.YtdekjkgfohlmgaaGreatDoorGT2
import Derived.Test.YtdekjkgfohlmgaaGreatDoorGT3
import Derived.Test.YtdekjkgfohlmgaaGreatDoorGX1
import Derived.Test.YtdekjkgfohlmgaaGreatDoorHLib
namespace Go.Ab
set_option linter.unusedVariables false
set_option linter.unusedSimpArgs false
set_option maxRecDepth 100000
noncomputable section
open Go.Proofs
/-! ### brindlewood/brindlewoodref7.Method: f13 -/
abbrev F13.A : List Sh := [(.d Y_Heap), (.d Y_Value), (.d .str)]
abbrev F13.R : List Sh := [(.d Y_Value), (.d (.sl 29 Y_Value)), (.d .bool)]
abbrev F13.E : Type := (LO × (X_Value × LB)) → Option (X_Value × (LV × Bool))
section
variable (c54 : F54.E) (c55 : F55.E) (c56 : F56.E) (c57 : F57.E)
variable (k n : Nat)
def F13.C : Ctx := cx [⟨54, F54.A, F54.R, c54⟩, ⟨55, F55.A, F55.R, c55⟩, ⟨56, F56.A, F56.R, c56⟩, ⟨57, F57.A, F57.R, c57⟩] []
variable (a0 : LO) (a1 : Int × (X_Int × (X_Int × X_errorAddressString))) (a2 : LB)
def F13.b : Option (X_Value × (LV × Bool)) :=
 (c54 (a0, a1)).bind fun y1 =>
 bif (y1.1 != (10 : Int)) then
 some (((0 : Int), ((false, ([] : LI)), ((false, ([] : LI)), ([], (0 : Int))))), (([] : LV), false))
 else
 (c55 (a0, (y1.2.2.1, a2))).bind fun y2 =>
 bif (!y2.2) then
 some (((0 : Int), ((false, ([] : LI)), ((false, ([] : LI)), ([], (0 : Int))))), (([] : LV), false))
 else
 (c56 (a0, y2.1)).bind fun y3 =>
 bif y3 then
 some (y2.1, ((List.take 1 ([a1] : LV)), true))
 else
 (c54 (a0, y2.1)).bind fun y4 =>
 bif (y4.1 == (14 : Int)) then
 if 0 ≤ (0 : Int) ∧ (0 : Int) < ((List.length y4.2.2.2.2.2.2.1) : Int) then
 (c57 y1.2.2.1).bind fun y5 =>
 some ((List.getD y4.2.2.2.2.2.2.1 (Int.toNat (0 : Int)) Z_Value), ((List.take 1 ([y5] : LV)), true))
 else none
 else
 bif (y4.1 == (13 : Int)) then
 if 0 ≤ (0 : Int) ∧ (0 : Int) < ((List.length y4.2.2.2.2.2.2.1) : Int) then
 some ((List.getD y4.2.2.2.2.2.2.1 (Int.toNat (0 : Int)) Z_Value), (([] : LV), true))
 else none
 else
 some (y2.1, (([] : LV), true))
def F13.c : Option (X_Value × (LV × Bool)) :=
 (c54 (a0, a1)).bind fun y1 =>
 bif (y1.1 != (10 : Int)) then
 some (((0 : Int), ((false, ([] : LI)), ((false, ([] : LI)), ([], (0 : Int))))), (([] : LV), false))
 else
 (c55 (a0, (y1.2.2.1, a2))).bind fun y2 =>
 bif !y2.2 then
 some (((0 : Int), ((false, ([] : LI)), ((false, ([] : LI)), ([], (0 : Int))))), (([] : LV), false))
 else
 (c56 (a0, y2.1)).bind fun y3 =>
 bif y3 then
 some (y2.1, (([a1] : LV), true))
 else
 (c54 (a0, y2.1)).bind fun y4 =>
 bif (y4.1 == (14 : Int)) then
 if (0 : Int) < ((List.length y4.2.2.2.2.2.2.1) : Int) then
 (c57 y1.2.2.1).bind fun y5 =>
 some ((List.getD y4.2.2.2.2.2.2.1 0 Z_Value), (([y5] : LV), true))
 else none
 else
 bif (y4.1 == (13 : Int)) then
 if (0 : Int) < ((List.length y4.2.2.2.2.2.2.1) : Int) then
 some ((List.getD y4.2.2.2.2.2.2.1 0 Z_Value), (([] : LV), true))
 else none
 else
 some (y2.1, (([] : LV), true))
theorem F13.q : F13.b c54 c55 c56 c57 a0 a1 a2 = F13.c c54 c55 c56 c57 a0 a1 a2 := by
  simp only [F13.b, F13.c, qq]
def F13.f (k : Nat) (a0 : LO) (a1 : Int × (X_Int × (X_Int × X_errorAddressString))) (a2 : LB) : Option (X_Value × (LV × Bool)) := F13.b c54 c55 c56 c57 a0 a1 a2
theorem F13.e : fn (F13.C c54 c55 c56 c57) k Tryz.f13 F13.A F13.R (a0, (a1, a2)) = F13.f c54 c55 c56 c57 k a0 a1 a2 := by
  kernel_rfl
end
def F13.u (k : Nat) : F13.E := fun y => F13.f (F54.u k) (F55.u k) (F56.u k) (F57.u k) k y.1 y.2.1 y.2.2
theorem F13.sound (k : Nat) : Sound Tryz.prog ⟨13, F13.A, F13.R, F13.u k⟩ := sn gr Tryz.func13 (fun y => F13.e (F54.u k) (F55.u k) (F56.u k) (F57.u k) k y.1 y.2.1 y.2.2) (al (F54.sound k) (al (F55.sound k) (al (F56.sound k) (al (F57.sound k) al0))))
/-! ### brindlewood/brindlewoodref7.CallOf: f130 -/
abbrev F130.E : Type := (X_Value × LV) → Option X_Step
section
variable (k n : Nat)
variable (a0 : Int × (X_Int × (X_Int × X_errorAddressString))) (a1 : LV)
end
/-! ### brindlewood/brindlewoodref7.Specially: f86 -/
abbrev F86.E : Type := (LO × (X_Value × (LB × LV))) → Option (X_Step × Bool)
section
variable (c13 : F13.E) (c81 : F81.E) (c130 : F130.E)
variable (k n : Nat)
variable (a0 : LO) (a1 : Int × (X_Int × (X_Int × X_errorAddressString))) (a2 : LB) (a3 : LV)
end
/-! ### brindlewood/brindlewoodref7.attempts: f35 -/
abbrev F35.E : Type := (LO × (X_Value × (LB × LV))) → Option (List X_Step)
section
variable (c86 : F86.E)
variable (k n : Nat)
variable (a0 : LO) (a1 : Int × (X_Int × (X_Int × X_errorAddressString))) (a2 : LB) (a3 : LV)
end
/-! ### brindlewood/brindlewoodref7.IsNumber: f37 -/
abbrev F37.E : Type := X_Value → Option Bool
section
variable (k n : Nat)
variable (a0 : Int × (X_Int × (X_Int × X_errorAddressString)))
end
/-! ### brindlewood/brindlewoodref7.Result: f38 -/
abbrev F38.E : Type := X_Value → Option X_Step
section
variable (k n : Nat)
variable (a0 : Int × (X_Int × (X_Int × X_errorAddressString)))
end
/-! ### brindlewood/brindlewoodref3.IntOf: f89 -/
abbrev F89.E : Type := X_Int → Option X_Int
section
variable (c131 : F131.E)
variable (k n : Nat)
variable (a0 : Bool × LI)
end
/-! ### brindlewood/brindlewoodref3.RatioOf: f87 -/
abbrev F87.E : Type := X_Ratio → Option (X_Int × LI)
section
variable (c89 : F89.E) (c131 : F131.E)
variable (k n : Nat)
variable (a0 : X_Int × X_Int)
end
/-! ### brindlewood/brindlewoodref3.Whole: f88 -/
abbrev F88.E : Type := X_Int → Option (X_Int × LI)
section
variable (c132 : F132.E)
variable (k n : Nat)
variable (a0 : Bool × LI)
end
/-! ### brindlewood/brindlewoodref7.Number: f39 -/
abbrev F39.E : Type := X_Value → Option (X_Int × LI)
section
variable (c87 : F87.E) (c89 : F89.E) (c88 : F88.E)
variable (k n : Nat)
variable (a0 : Int × (X_Int × (X_Int × X_errorAddressString)))
end
/-! ### (brindlewood/brindlewoodref3.Int).Minus: f41 -/
abbrev F41.E : Type := X_Int → Option X_Int
section
variable (k n : Nat)
variable (a0 : Bool × LI)
end
/-! ### (brindlewood/brindlewoodref3.Int).Fits: f167 -/
abbrev F167.E : Type := (X_Int × Int) → Option Bool
section
variable (k n : Nat)
variable (a0 : Bool × LI) (a1 : Int)
end
/-! ### (brindlewood/brindlewoodref3.Ratio).Fits: f133 -/
abbrev F133.E : Type := (X_Int × LI) → Option Bool
section
variable (c167 : F167.E)
variable (k n : Nat)
variable (a0 : X_Int × LI)
end
/-! ### brindlewood/brindlewoodref3.Limbs: f135 -/
abbrev F135.E : Type := LI → Option LI
section
variable (k n m0 : Nat)
section
variable (n_l0 : LI → LI → Int → Option LI) (x0 x3 : LI) (x4 x5 : Int)
end
section
variable (r_g8 : LI → LI → Int → Int → Option LI) (x0 x3 : LI) (x4 : Int)
end
variable (r_l0 : LI → LI → Int → Option LI) (a0 : LI)
end
/-! ### brindlewood/brindlewoodref7.Whole: f134 -/
abbrev F134.E : Type := X_Int → Option X_Value
section
variable (c135 : F135.E)
variable (k n : Nat)
variable (a0 : Bool × LI)
end
/-! ### brindlewood/brindlewoodref7.Value: f90 -/
abbrev F90.E : Type := (X_Int × LI) → Option (X_Value × Bool)
section
variable (c133 : F133.E) (c134 : F134.E) (c132 : F132.E) (c93 : F93.E) (c135 : F135.E)
variable (k n : Nat)
variable (a0 : X_Int × LI)
end
/-! ### brindlewood/brindlewoodref7.Raise: f46 -/
abbrev F46.E : Type := (Int × LB) → Option X_Step
section
variable (k n : Nat)
variable (a0 : Int) (a1 : LB)
end
/-! ### brindlewood/brindlewoodref7.TooLarge: f91 -/
abbrev F91.E : Type := (Unit) → Option X_Step
section
variable (c46 : F46.E)
variable (k n : Nat)
end
/-! ### brindlewood/brindlewoodref7.number: f40 -/
abbrev F40.E : Type := (X_Int × LI) → Option X_Step
section
variable (c90 : F90.E) (c91 : F91.E) (c38 : F38.E)
variable (k n : Nat)
variable (a0 : X_Int × LI)
end
/-! ### brindlewood/brindlewoodref7.I: f43 -/
abbrev F43.E : Type := X_Value → Option X_Int
section
variable (c89 : F89.E)
variable (k n : Nat)
variable (a0 : Int × (X_Int × (X_Int × X_errorAddressString)))
end
/-! ### brindlewood/brindlewoodref3.Binary: f95 -/
abbrev F95.E : Type := (List Bool) → Option LI
section
variable (c136 : F136.E)
variable (k n m0 : Nat)
section
variable (n_l2 : (List Bool) → LI → Int → Int → Int → Option LI) (n_l0 : (List Bool) → LI → Int → Option LI) (x0 : List Bool) (x3 : LI) (x4 x5 x6 : Int)
end
section
variable (r_l2 : (List Bool) → LI → Int → Int → Int → Option LI) (x0 : List Bool) (x3 : LI) (x4 : Int)
end
variable (r_l0 : (List Bool) → LI → Int → Option LI) (a0 : List Bool)
end
/-! ### brindlewood/brindlewoodref3.Number: f45 -/
abbrev F45.E : Type := Int → Option X_Int
section
variable (c95 : F95.E)
variable (k n : Nat)
section
variable (n_l0 : Int → X_Int → (List Bool) → Bool → Option X_Int) (x0 : Int) (x2 : Bool × LI) (x3 : List Bool) (x4 : Bool)
end
variable (r_l0 : Int → X_Int → (List Bool) → Bool → Option X_Int) (a0 : Int)
end
/-! ### (brindlewood/brindlewoodref3.Int).Plus: f44 -/
abbrev F44.E : Type := X_Ratio → Option X_Int
section
variable (c92 : F92.E) (c93 : F93.E) (c94 : F94.E)
variable (k n : Nat)
variable (a0 a1 : Bool × LI)
end
/-! ### brindlewood/brindlewoodref7.integer: f42 -/
abbrev F42.E : Type := X_Int → Option X_Step
section
variable (c88 : F88.E) (c40 : F40.E)
variable (k n : Nat)
variable (a0 : Bool × LI)
end
/-! ### brindlewood/brindlewoodref7.Signs: f47 -/
abbrev F47.E : Type := (Unit) → Option LLB
section
variable (c66 : F66.E)
variable (k n : Nat)
end
/-! ### brindlewood/brindlewoodref7.classOfObject: f102 -/
abbrev F102.A : List Sh := [(.d Y_Object)]
abbrev F102.R : List Sh := [(.d (.int .i64))]
abbrev F102.E : Type := X_Object → Option Int
section
variable (k n : Nat)
def F102.C : Ctx := cx [] []
variable (a0 : Int × (LB × (Int × (LI × (LI × (LLB × (LV × (LV × X_acceptRange))))))))
def F102.b : Option Int :=
 bif (a0.1 == (10 : Int)) then
 some a0.2.2.1
 else
 bif (a0.1 == (8 : Int)) then
 some (16 : Int)
 else
 bif (a0.1 == (9 : Int)) then
 some (1 : Int)
 else
 bif (a0.1 == (11 : Int)) then
 some (17 : Int)
 else
 bif (a0.1 == (12 : Int)) then
 some (18 : Int)
 else
 bif (a0.1 == (13 : Int)) then
 some (19 : Int)
 else
 bif (a0.1 == (14 : Int)) then
 some (20 : Int)
 else
 bif (decide (a0.1 ≥ (15 : Int))) then
 some (IntKind.i64.wrap ((IntKind.i64.wrap ((21 : Int) + a0.1)) - (15 : Int)))
 else
 some (IntKind.i64.wrap ((IntKind.i64.wrap ((8 : Int) + a0.1)) - (1 : Int)))
def F102.f (k : Nat) (a0 : Int × (LB × (Int × (LI × (LI × (LLB × (LV × (LV × X_acceptRange)))))))) : Option Int := F102.b a0
theorem F102.e : fn F102.C k Tryz.f102 F102.A F102.R a0 = F102.f k a0 := by
  kernel_rfl
end
def F102.u (k : Nat) : F102.E := fun y => F102.f k y
theorem F102.sound (k : Nat) : Sound Tryz.prog ⟨102, F102.A, F102.R, F102.u k⟩ := sn gr Tryz.func102 (fun y => F102.e k y) al0
/-! ### brindlewood/brindlewoodref7.ClassOf: f63 -/
abbrev F63.A : List Sh := [(.d Y_Heap), (.d Y_Value)]
abbrev F63.R : List Sh := [(.d (.int .i64))]
abbrev F63.E : Type := (LO × X_Value) → Option Int
section
variable (c102 : F102.E)
variable (k n : Nat)
def F63.C : Ctx := cx [⟨102, F102.A, F102.R, c102⟩] []
variable (a0 : LO) (a1 : Int × (X_Int × (X_Int × X_errorAddressString)))
def F63.b : Option Int :=
 bif (a1.1 == (1 : Int)) then
 some (3 : Int)
 else
 bif (a1.1 == (2 : Int)) then
 some (4 : Int)
 else
 bif (a1.1 == (3 : Int)) then
 some (5 : Int)
 else
 bif (a1.1 == (4 : Int)) then
 some (6 : Int)
 else
 bif (a1.1 == (5 : Int)) then
 some (7 : Int)
 else
 bif (a1.1 == (7 : Int)) then
 some (15 : Int)
 else
 bif (a1.1 == (8 : Int)) then
 some (27 : Int)
 else
 bif (a1.1 == (6 : Int)) then
 if 0 ≤ a1.2.2.2.2 ∧ a1.2.2.2.2 < ((List.length a0) : Int) then
 (c102 (List.getD a0 (Int.toNat a1.2.2.2.2) Z_Object)).bind fun y1 =>
 some y1
 else none
 else
 some (2 : Int)
def F63.f (k : Nat) (a0 : LO) (a1 : Int × (X_Int × (X_Int × X_errorAddressString))) : Option Int := F63.b c102 a0 a1
theorem F63.e : fn (F63.C c102) k Tryz.f63 F63.A F63.R (a0, a1) = F63.f c102 k a0 a1 := by
  kernel_rfl
end
def F63.u (k : Nat) : F63.E := fun y => F63.f (F102.u k) k y.1 y.2
theorem F63.sound (k : Nat) : Sound Tryz.prog ⟨63, F63.A, F63.R, F63.u k⟩ := sn gr Tryz.func63 (fun y => F63.e (F102.u k) k y.1 y.2) (al (F102.sound k) al0)
/-! ### brindlewood/brindlewoodref7.ClassName: f48 -/
abbrev F48.E : Type := (LO × X_Value) → Option LB
section
variable (c63 : F63.E)
variable (k n : Nat)
variable (a0 : LO) (a1 : Int × (X_Int × (X_Int × X_errorAddressString)))
end
/-! ### brindlewood/brindlewoodref7.Unary: f9 -/
abbrev F9.E : Type := (LO × (Int × X_Value)) → Option X_Plan
section
variable (c36 : F36.E) (c35 : F35.E) (c37 : F37.E) (c38 : F38.E) (c39 : F39.E) (c41 : F41.E) (c40 : F40.E) (c43 : F43.E) (c45 : F45.E) (c44 : F44.E) (c42 : F42.E) (c47 : F47.E) (c48 : F48.E) (c46 : F46.E)
variable (k n : Nat)
section
variable (x1 : Int) (x3 : LO) (x5 : Int × (X_Int × (X_Int × X_errorAddressString))) (x6 x7 : (List X_Step) × X_Step)
end
section
variable (r_g2 : Int → LO → X_Value → X_Plan → X_Plan → Option X_Plan) (x1 : Int) (x3 : LO) (x5 : Int × (X_Int × (X_Int × X_errorAddressString))) (x6 x7 : (List X_Step) × X_Step)
end
section
variable (r_g8 : Int → LO → X_Value → X_Plan → X_Plan → Option X_Plan) (x1 : Int) (x3 : LO) (x5 : Int × (X_Int × (X_Int × X_errorAddressString))) (x6 x7 : (List X_Step) × X_Step)
end
variable (r_g5 : Int → LO → X_Value → X_Plan → X_Plan → Option X_Plan) (a0 : LO) (a1 : Int) (a2 : Int × (X_Int × (X_Int × X_errorAddressString)))
end
/-! ### brindlewood/brindlewoodref7.SameStep: f29 -/
abbrev F29.E : Type := (X_Step × X_Step) → Option Bool
section
variable (c14 : F14.E) (c15 : F15.E)
variable (k n : Nat)
variable (a0 a1 : Int × (X_Value × (Int × (LB × (X_Value × LV)))))
end
/-! ### brindlewood/brindlewoodref7.SamePlan: f7 -/
abbrev F7.E : Type := (X_Plan × X_Plan) → Option Bool
section
variable (c29 : F29.E)
variable (k n : Nat)
section
variable (n_l0 : X_Plan → X_Plan → Int → Int → Option Bool) (x2 x3 : (List X_Step) × X_Step) (x23 x24 : Int)
end
variable (r_l0 : X_Plan → X_Plan → Int → Int → Option Bool) (a0 a1 : (List X_Step) × X_Step)
end
/-! ### brindlewood/brindlewoodref7.SameHeap: f10 -/
abbrev F10.E : Type := (LO × LO) → Option Bool
section
variable (c49 : F49.E)
variable (k n : Nat)
section
variable (n_l0 : LO → LO → Int → Int → Option Bool) (x2 x3 : LO) (x15 x16 : Int)
end
variable (r_l0 : LO → LO → Int → Int → Option Bool) (a0 a1 : LO)
end
/-! ### brindlewood/brindlewoodlaw7.OperatorsUnaryMatchesSpec: f3 -/
section
variable (c5 : F5.E) (c6 : F6.E) (c8 : F8.E) (c9 : F9.E) (c7 : F7.E) (c10 : F10.E)
variable (k n : Nat)
variable (a0 : LO) (a1 : Int) (a2 : Int × (X_Int × (X_Int × X_errorAddressString)))
end
end
end Go.Ab
