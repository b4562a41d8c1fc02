/- A part of the proof: GX2. -/
import Derived.Test.YtdekjkgfohlmgaaGreatDoorFLs
import Derived.Test.YtdekjkgfohlmgaaGreatDoorGT1
import Derived.Test.YtdekjkgfohlmgaaGreatDoorGT2
import Derived.Test.YtdekjkgfohlmgaaGreatDoorGT3
import Derived.Test.YtdekjkgfohlmgaaGreatDoorGX1
import Derived.Test.YtdekjkgfohlmgaaGreatDoorHLib
namespace Go.Ab
set_option linter.unusedVariables false
set_option linter.unusedSimpArgs false
set_option maxRecDepth 100000
noncomputable section
open Go.Proofs
/-! ### brindlewood/brindlewoodref7.Method: f13 -/
abbrev F13.A : List Sh := [(.d Y_Heap), (.d Y_Value), (.d .str)]
abbrev F13.R : List Sh := [(.d Y_Value), (.d (.sl 29 Y_Value)), (.d .bool)]
abbrev F13.E : Type := (LO × (X_Value × LB)) → Option (X_Value × (LV × Bool))
section
variable (c54 : F54.E) (c55 : F55.E) (c56 : F56.E) (c57 : F57.E)
variable (k n : Nat)
def F13.C : Ctx := cx [⟨54, F54.A, F54.R, c54⟩, ⟨55, F55.A, F55.R, c55⟩, ⟨56, F56.A, F56.R, c56⟩, ⟨57, F57.A, F57.R, c57⟩] []
variable (a0 : LO) (a1 : Int × (X_Int × (X_Int × X_errorAddressString))) (a2 : LB)
def F13.b : Option (X_Value × (LV × Bool)) :=
 (c54 (a0, a1)).bind fun y1 =>
 bif (y1.1 != (10 : Int)) then
 some (((0 : Int), ((false, ([] : LI)), ((false, ([] : LI)), ([], (0 : Int))))), (([] : LV), false))
 else
 (c55 (a0, (y1.2.2.1, a2))).bind fun y2 =>
 bif (!y2.2) then
 some (((0 : Int), ((false, ([] : LI)), ((false, ([] : LI)), ([], (0 : Int))))), (([] : LV), false))
 else
 (c56 (a0, y2.1)).bind fun y3 =>
 bif y3 then
 some (y2.1, ((List.take 1 ([a1] : LV)), true))
 else
 (c54 (a0, y2.1)).bind fun y4 =>
 bif (y4.1 == (14 : Int)) then
 if 0 ≤ (0 : Int) ∧ (0 : Int) < ((List.length y4.2.2.2.2.2.2.1) : Int) then
 (c57 y1.2.2.1).bind fun y5 =>
 some ((List.getD y4.2.2.2.2.2.2.1 (Int.toNat (0 : Int)) Z_Value), ((List.take 1 ([y5] : LV)), true))
 else none
 else
 bif (y4.1 == (13 : Int)) then
 if 0 ≤ (0 : Int) ∧ (0 : Int) < ((List.length y4.2.2.2.2.2.2.1) : Int) then
 some ((List.getD y4.2.2.2.2.2.2.1 (Int.toNat (0 : Int)) Z_Value), (([] : LV), true))
 else none
 else
 some (y2.1, (([] : LV), true))
def F13.c : Option (X_Value × (LV × Bool)) :=
 (c54 (a0, a1)).bind fun y1 =>
 bif (y1.1 != (10 : Int)) then
 some (((0 : Int), ((false, ([] : LI)), ((false, ([] : LI)), ([], (0 : Int))))), (([] : LV), false))
 else
 (c55 (a0, (y1.2.2.1, a2))).bind fun y2 =>
 bif !y2.2 then
 some (((0 : Int), ((false, ([] : LI)), ((false, ([] : LI)), ([], (0 : Int))))), (([] : LV), false))
 else
 (c56 (a0, y2.1)).bind fun y3 =>
 bif y3 then
 some (y2.1, (([a1] : LV), true))
 else
 (c54 (a0, y2.1)).bind fun y4 =>
 bif (y4.1 == (14 : Int)) then
 if (0 : Int) < ((List.length y4.2.2.2.2.2.2.1) : Int) then
 (c57 y1.2.2.1).bind fun y5 =>
 some ((List.getD y4.2.2.2.2.2.2.1 0 Z_Value), (([y5] : LV), true))
 else none
 else
 bif (y4.1 == (13 : Int)) then
 if (0 : Int) < ((List.length y4.2.2.2.2.2.2.1) : Int) then
 some ((List.getD y4.2.2.2.2.2.2.1 0 Z_Value), (([] : LV), true))
 else none
 else
 some (y2.1, (([] : LV), true))
theorem F13.q : F13.b c54 c55 c56 c57 a0 a1 a2 = F13.c c54 c55 c56 c57 a0 a1 a2 := by
  simp only [F13.b, F13.c, qq]
def F13.f (k : Nat) (a0 : LO) (a1 : Int × (X_Int × (X_Int × X_errorAddressString))) (a2 : LB) : Option (X_Value × (LV × Bool)) := F13.b c54 c55 c56 c57 a0 a1 a2
theorem F13.e : fn (F13.C c54 c55 c56 c57) k Tryz.f13 F13.A F13.R (a0, (a1, a2)) = F13.f c54 c55 c56 c57 k a0 a1 a2 := by
  kernel_rfl
end
def F13.u (k : Nat) : F13.E := fun y => F13.f (F54.u k) (F55.u k) (F56.u k) (F57.u k) k y.1 y.2.1 y.2.2
theorem F13.sound (k : Nat) : Sound Tryz.prog ⟨13, F13.A, F13.R, F13.u k⟩ := sn gr Tryz.func13 (fun y => F13.e (F54.u k) (F55.u k) (F56.u k) (F57.u k) k y.1 y.2.1 y.2.2) (al (F54.sound k) (al (F55.sound k) (al (F56.sound k) (al (F57.sound k) al0))))
/-! ### brindlewood/brindlewoodref7.CallOf: f130 -/
abbrev F130.A : List Sh := [(.d Y_Value), (.d (.sl 29 Y_Value))]
abbrev F130.R : List Sh := [(.d Y_Step)]
abbrev F130.E : Type := (X_Value × LV) → Option X_Step
section
variable (k n : Nat)
def F130.C : Ctx := cx [] []
variable (a0 : Int × (X_Int × (X_Int × X_errorAddressString))) (a1 : LV)
def F130.b : Option X_Step :=
 some ((2 : Int), (((0 : Int), ((false, ([] : LI)), ((false, ([] : LI)), ([], (0 : Int))))), ((0 : Int), ([], (a0, a1)))))
def F130.f (k : Nat) (a0 : Int × (X_Int × (X_Int × X_errorAddressString))) (a1 : LV) : Option X_Step := F130.b a0 a1
theorem F130.e : fn F130.C k Tryz.f130 F130.A F130.R (a0, a1) = F130.f k a0 a1 := by
  kernel_rfl
end
def F130.u (k : Nat) : F130.E := fun y => F130.f k y.1 y.2
theorem F130.sound (k : Nat) : Sound Tryz.prog ⟨130, F130.A, F130.R, F130.u k⟩ := sn gr Tryz.func130 (fun y => F130.e k y.1 y.2) al0
/-! ### brindlewood/brindlewoodref7.Specially: f86 -/
abbrev F86.A : List Sh := [(.d Y_Heap), (.d Y_Value), (.d .str), (.d (.sl 29 Y_Value))]
abbrev F86.R : List Sh := [(.d Y_Step), (.d .bool)]
abbrev F86.E : Type := (LO × (X_Value × (LB × LV))) → Option (X_Step × Bool)
section
variable (c13 : F13.E) (c81 : F81.E) (c130 : F130.E)
variable (k n : Nat)
def F86.C : Ctx := cx [⟨13, F13.A, F13.R, c13⟩, ⟨81, F81.A, F81.R, c81⟩, ⟨130, F130.A, F130.R, c130⟩] []
variable (a0 : LO) (a1 : Int × (X_Int × (X_Int × X_errorAddressString))) (a2 : LB) (a3 : LV)
def F86.b : Option (X_Step × Bool) :=
 (c13 (a0, (a1, a2))).bind fun y1 =>
 (c81 (List.take 2 ([y1.2.1, a3] : List LV))).bind fun y2 =>
 (c130 (y1.1, y2)).bind fun y3 =>
 some (y3, y1.2.2)
def F86.f (k : Nat) (a0 : LO) (a1 : Int × (X_Int × (X_Int × X_errorAddressString))) (a2 : LB) (a3 : LV) : Option (X_Step × Bool) := F86.b c13 c81 c130 a0 a1 a2 a3
theorem F86.e : fn (F86.C c13 c81 c130) k Tryz.f86 F86.A F86.R (a0, (a1, (a2, a3))) = F86.f c13 c81 c130 k a0 a1 a2 a3 := by
  kernel_rfl
end
def F86.u (k : Nat) : F86.E := fun y => F86.f (F13.u k) (F81.u k) (F130.u k) k y.1 y.2.1 y.2.2.1 y.2.2.2
theorem F86.sound (k : Nat) : Sound Tryz.prog ⟨86, F86.A, F86.R, F86.u k⟩ := sn gr Tryz.func86 (fun y => F86.e (F13.u k) (F81.u k) (F130.u k) k y.1 y.2.1 y.2.2.1 y.2.2.2) (al (F13.sound k) (al (F81.sound k) (al (F130.sound k) al0)))
/-! ### brindlewood/brindlewoodref7.attempts: f35 -/
abbrev F35.A : List Sh := [(.d Y_Heap), (.d Y_Value), (.d .str), (.d (.sl 29 Y_Value))]
abbrev F35.R : List Sh := [(.d (.sl 36 Y_Step))]
abbrev F35.E : Type := (LO × (X_Value × (LB × LV))) → Option (List X_Step)
section
variable (c86 : F86.E)
variable (k n : Nat)
def F35.C : Ctx := cx [⟨86, F86.A, F86.R, c86⟩] []
variable (a0 : LO) (a1 : Int × (X_Int × (X_Int × X_errorAddressString))) (a2 : LB) (a3 : LV)
def F35.b : Option (List X_Step) :=
 (c86 (a0, (a1, (a2, a3)))).bind fun y1 =>
 bif y1.2 then
 some (List.take 1 ([y1.1] : List X_Step))
 else
 some ([] : List X_Step)
def F35.c : Option (List X_Step) :=
 (c86 (a0, (a1, (a2, a3)))).bind fun y1 =>
 bif y1.2 then
 some ([y1.1] : List X_Step)
 else
 some ([] : List X_Step)
theorem F35.q : F35.b c86 a0 a1 a2 a3 = F35.c c86 a0 a1 a2 a3 := by
  simp only [F35.b, F35.c, qq]
def F35.f (k : Nat) (a0 : LO) (a1 : Int × (X_Int × (X_Int × X_errorAddressString))) (a2 : LB) (a3 : LV) : Option (List X_Step) := F35.b c86 a0 a1 a2 a3
theorem F35.e : fn (F35.C c86) k Tryz.f35 F35.A F35.R (a0, (a1, (a2, a3))) = F35.f c86 k a0 a1 a2 a3 := by
  kernel_rfl
end
def F35.u (k : Nat) : F35.E := fun y => F35.f (F86.u k) k y.1 y.2.1 y.2.2.1 y.2.2.2
theorem F35.sound (k : Nat) : Sound Tryz.prog ⟨35, F35.A, F35.R, F35.u k⟩ := sn gr Tryz.func35 (fun y => F35.e (F86.u k) k y.1 y.2.1 y.2.2.1 y.2.2.2) (al (F86.sound k) al0)
/-! ### brindlewood/brindlewoodref7.IsNumber: f37 -/
abbrev F37.A : List Sh := [(.d Y_Value)]
abbrev F37.R : List Sh := [(.d .bool)]
abbrev F37.E : Type := X_Value → Option Bool
section
variable (k n : Nat)
def F37.C : Ctx := cx [] []
variable (a0 : Int × (X_Int × (X_Int × X_errorAddressString)))
def F37.b : Option Bool :=
 bif (a0.1 == (2 : Int)) then
 some true
 else
 some (a0.1 == (3 : Int))
def F37.f (k : Nat) (a0 : Int × (X_Int × (X_Int × X_errorAddressString))) : Option Bool := F37.b a0
theorem F37.e : fn F37.C k Tryz.f37 F37.A F37.R a0 = F37.f k a0 := by
  kernel_rfl
end
def F37.u (k : Nat) : F37.E := fun y => F37.f k y
theorem F37.sound (k : Nat) : Sound Tryz.prog ⟨37, F37.A, F37.R, F37.u k⟩ := sn gr Tryz.func37 (fun y => F37.e k y) al0
/-! ### brindlewood/brindlewoodref7.Result: f38 -/
abbrev F38.A : List Sh := [(.d Y_Value)]
abbrev F38.R : List Sh := [(.d Y_Step)]
abbrev F38.E : Type := X_Value → Option X_Step
section
variable (k n : Nat)
def F38.C : Ctx := cx [] []
variable (a0 : Int × (X_Int × (X_Int × X_errorAddressString)))
def F38.b : Option X_Step :=
 some ((0 : Int), (a0, ((0 : Int), ([], (((0 : Int), ((false, ([] : LI)), ((false, ([] : LI)), ([], (0 : Int))))), ([] : LV))))))
def F38.f (k : Nat) (a0 : Int × (X_Int × (X_Int × X_errorAddressString))) : Option X_Step := F38.b a0
theorem F38.e : fn F38.C k Tryz.f38 F38.A F38.R a0 = F38.f k a0 := by
  kernel_rfl
end
def F38.u (k : Nat) : F38.E := fun y => F38.f k y
theorem F38.sound (k : Nat) : Sound Tryz.prog ⟨38, F38.A, F38.R, F38.u k⟩ := sn gr Tryz.func38 (fun y => F38.e k y) al0
/-! ### brindlewood/brindlewoodref3.IntOf: f89 -/
abbrev F89.A : List Sh := [(.d Y_Int)]
abbrev F89.R : List Sh := [(.d (.pair .bool (.sl 3 (.int .i64))))]
abbrev F89.E : Type := X_Int → Option X_Int
section
variable (c131 : F131.E)
variable (k n : Nat)
def F89.C : Ctx := cx [⟨131, F131.A, F131.R, c131⟩] []
variable (a0 : Bool × LI)
def F89.b : Option X_Int :=
 (c131 a0.2).bind fun y1 =>
 some (a0.1, y1)
def F89.f (k : Nat) (a0 : Bool × LI) : Option X_Int := F89.b c131 a0
theorem F89.e : fn (F89.C c131) k Tryz.f89 F89.A F89.R a0 = F89.f c131 k a0 := by
  kernel_rfl
end
def F89.u (k : Nat) : F89.E := fun y => F89.f (F131.u k) k y
theorem F89.sound (k : Nat) : Sound Tryz.prog ⟨89, F89.A, F89.R, F89.u k⟩ := sn gr Tryz.func89 (fun y => F89.e (F131.u k) k y) (al (F131.sound k) al0)
/-! ### brindlewood/brindlewoodref3.RatioOf: f87 -/
abbrev F87.A : List Sh := [(.d Y_Ratio)]
abbrev F87.R : List Sh := [(.d (.pair (.pair .bool (.sl 3 (.int .i64))) (.sl 3 (.int .i64))))]
abbrev F87.E : Type := X_Ratio → Option (X_Int × LI)
section
variable (c89 : F89.E) (c131 : F131.E)
variable (k n : Nat)
def F87.C : Ctx := cx [⟨89, F89.A, F89.R, c89⟩, ⟨131, F131.A, F131.R, c131⟩] []
variable (a0 : X_Int × X_Int)
def F87.b : Option (X_Int × LI) :=
 (c89 a0.1).bind fun y1 =>
 (c131 a0.2.2).bind fun y2 =>
 some (y1, y2)
def F87.f (k : Nat) (a0 : X_Int × X_Int) : Option (X_Int × LI) := F87.b c89 c131 a0
theorem F87.e : fn (F87.C c89 c131) k Tryz.f87 F87.A F87.R a0 = F87.f c89 c131 k a0 := by
  kernel_rfl
end
def F87.u (k : Nat) : F87.E := fun y => F87.f (F89.u k) (F131.u k) k y
theorem F87.sound (k : Nat) : Sound Tryz.prog ⟨87, F87.A, F87.R, F87.u k⟩ := sn gr Tryz.func87 (fun y => F87.e (F89.u k) (F131.u k) k y) (al (F89.sound k) (al (F131.sound k) al0))
/-! ### brindlewood/brindlewoodref3.Whole: f88 -/
abbrev F88.A : List Sh := [(.d (.pair .bool (.sl 3 (.int .i64))))]
abbrev F88.R : List Sh := [(.d (.pair (.pair .bool (.sl 3 (.int .i64))) (.sl 3 (.int .i64))))]
abbrev F88.E : Type := X_Int → Option (X_Int × LI)
section
variable (c132 : F132.E)
variable (k n : Nat)
def F88.C : Ctx := cx [⟨132, F132.A, F132.R, c132⟩] []
variable (a0 : Bool × LI)
def F88.b : Option (X_Int × LI) :=
 (c132 (1 : Int)).bind fun y1 =>
 some (a0, y1)
def F88.f (k : Nat) (a0 : Bool × LI) : Option (X_Int × LI) := F88.b c132 a0
theorem F88.e : fn (F88.C c132) k Tryz.f88 F88.A F88.R a0 = F88.f c132 k a0 := by
  kernel_rfl
end
def F88.u (k : Nat) : F88.E := fun y => F88.f (F132.u k) k y
theorem F88.sound (k : Nat) : Sound Tryz.prog ⟨88, F88.A, F88.R, F88.u k⟩ := sn gr Tryz.func88 (fun y => F88.e (F132.u k) k y) (al (F132.sound k) al0)
/-! ### brindlewood/brindlewoodref7.Number: f39 -/
abbrev F39.A : List Sh := [(.d Y_Value)]
abbrev F39.R : List Sh := [(.d (.pair (.pair .bool (.sl 3 (.int .i64))) (.sl 3 (.int .i64))))]
abbrev F39.E : Type := X_Value → Option (X_Int × LI)
section
variable (c87 : F87.E) (c89 : F89.E) (c88 : F88.E)
variable (k n : Nat)
def F39.C : Ctx := cx [⟨87, F87.A, F87.R, c87⟩, ⟨89, F89.A, F89.R, c89⟩, ⟨88, F88.A, F88.R, c88⟩] []
variable (a0 : Int × (X_Int × (X_Int × X_errorAddressString)))
def F39.b : Option (X_Int × LI) :=
 bif (a0.1 == (3 : Int)) then
 (c87 (a0.2.1, a0.2.2.1)).bind fun y1 =>
 some y1
 else
 (c89 a0.2.1).bind fun y2 =>
 (c88 y2).bind fun y3 =>
 some y3
def F39.f (k : Nat) (a0 : Int × (X_Int × (X_Int × X_errorAddressString))) : Option (X_Int × LI) := F39.b c87 c89 c88 a0
theorem F39.e : fn (F39.C c87 c89 c88) k Tryz.f39 F39.A F39.R a0 = F39.f c87 c89 c88 k a0 := by
  kernel_rfl
end
def F39.u (k : Nat) : F39.E := fun y => F39.f (F87.u k) (F89.u k) (F88.u k) k y
theorem F39.sound (k : Nat) : Sound Tryz.prog ⟨39, F39.A, F39.R, F39.u k⟩ := sn gr Tryz.func39 (fun y => F39.e (F87.u k) (F89.u k) (F88.u k) k y) (al (F87.sound k) (al (F89.sound k) (al (F88.sound k) al0)))
/-! ### (brindlewood/brindlewoodref3.Int).Minus: f41 -/
abbrev F41.A : List Sh := [(.d (.pair .bool (.sl 3 (.int .i64))))]
abbrev F41.R : List Sh := [(.d (.pair .bool (.sl 3 (.int .i64))))]
abbrev F41.E : Type := X_Int → Option X_Int
section
variable (k n : Nat)
def F41.C : Ctx := cx [] []
variable (a0 : Bool × LI)
def F41.b : Option X_Int :=
 bif (!a0.1) then
 some ((decide (((List.length a0.2) : Int) > (0 : Int))), a0.2)
 else
 some (false, a0.2)
def F41.f (k : Nat) (a0 : Bool × LI) : Option X_Int := F41.b a0
theorem F41.e : fn F41.C k Tryz.f41 F41.A F41.R a0 = F41.f k a0 := by
  kernel_rfl
end
def F41.u (k : Nat) : F41.E := fun y => F41.f k y
theorem F41.sound (k : Nat) : Sound Tryz.prog ⟨41, F41.A, F41.R, F41.u k⟩ := sn gr Tryz.func41 (fun y => F41.e k y) al0
/-! ### (brindlewood/brindlewoodref3.Int).Fits: f167 -/
abbrev F167.A : List Sh := [(.d (.pair .bool (.sl 3 (.int .i64)))), (.d (.int .i64))]
abbrev F167.R : List Sh := [(.d .bool)]
abbrev F167.E : Type := (X_Int × Int) → Option Bool
section
variable (k n : Nat)
def F167.C : Ctx := cx [] []
variable (a0 : Bool × LI) (a1 : Int)
def F167.b : Option Bool :=
 some (decide (((List.length a0.2) : Int) ≤ (IntKind.i64.wrap ((2 : Int) * a1))))
def F167.f (k : Nat) (a0 : Bool × LI) (a1 : Int) : Option Bool := F167.b a0 a1
theorem F167.e : fn F167.C k Tryz.f167 F167.A F167.R (a0, a1) = F167.f k a0 a1 := by
  kernel_rfl
end
def F167.u (k : Nat) : F167.E := fun y => F167.f k y.1 y.2
theorem F167.sound (k : Nat) : Sound Tryz.prog ⟨167, F167.A, F167.R, F167.u k⟩ := sn gr Tryz.func167 (fun y => F167.e k y.1 y.2) al0
/-! ### (brindlewood/brindlewoodref3.Ratio).Fits: f133 -/
abbrev F133.A : List Sh := [(.d (.pair (.pair .bool (.sl 3 (.int .i64))) (.sl 3 (.int .i64))))]
abbrev F133.R : List Sh := [(.d .bool)]
abbrev F133.E : Type := (X_Int × LI) → Option Bool
section
variable (c167 : F167.E)
variable (k n : Nat)
def F133.C : Ctx := cx [⟨167, F167.A, F167.R, c167⟩] []
variable (a0 : X_Int × LI)
def F133.b : Option Bool :=
 (c167 (a0.1, (128 : Int))).bind fun y1 =>
 bif y1 then
 some (decide (((List.length a0.2) : Int) ≤ (256 : Int)))
 else
 some false
def F133.f (k : Nat) (a0 : X_Int × LI) : Option Bool := F133.b c167 a0
theorem F133.e : fn (F133.C c167) k Tryz.f133 F133.A F133.R a0 = F133.f c167 k a0 := by
  kernel_rfl
end
def F133.u (k : Nat) : F133.E := fun y => F133.f (F167.u k) k y
theorem F133.sound (k : Nat) : Sound Tryz.prog ⟨133, F133.A, F133.R, F133.u k⟩ := sn gr Tryz.func133 (fun y => F133.e (F167.u k) k y) (al (F167.sound k) al0)
/-! ### brindlewood/brindlewoodref3.Limbs: f135 -/
abbrev F135.A : List Sh := [(.d (.sl 3 (.int .i64)))]
abbrev F135.R : List Sh := [(.d (.sl 109 (.int .u32)))]
abbrev F135.E : Type := LI → Option LI
section
variable (k n m0 : Nat)
def F135.C : Ctx := cx [] [(0, [.d 0 (.sl 3 (.int .i64)), .o 3 500003 109 (.int .u32), .d 4 (.int .i64)]), (100008, [.d 0 (.sl 3 (.int .i64)), .o 3 500003 109 (.int .u32), .d 4 (.int .i64), .d 5 (.int .u32)])]
noncomputable def F135.M_l0 (s : St) : Option LI := lpAt F135.C k n [1, 1, 0, 1, 0] [] Tryz.f135 F135.A F135.R s
noncomputable def F135.fr_l0 (x0 : LI) (x3 : LI) (x4 : Int) : St := ⟨((((List.replicate 36 V.un).set 0 (V.dat (.sl 3 (.int .i64)) x0)).set 3 (V.ref 500003 0 0 (List.length x3))).set 4 (V.dat (.int .i64) x4)), [⟨500003, 0, .arr 109 (.int .u32) x3⟩]⟩
noncomputable def F135.M_g8 (s : St) : Option LI := gtAt F135.C k [1, 1, 0, 1, 0, 0, 1, 0, 0, 1, 1] [m0] Tryz.f135 F135.A F135.R s
noncomputable def F135.fr_g8 (x0 : LI) (x3 : LI) (x4 : Int) (x5 : Int) : St := ⟨(((((List.replicate 36 V.un).set 0 (V.dat (.sl 3 (.int .i64)) x0)).set 3 (V.ref 500003 0 0 (List.length x3))).set 4 (V.dat (.int .i64) x4)).set 5 (V.dat (.int .u32) x5)), [⟨500003, 0, .arr 109 (.int .u32) x3⟩]⟩
section
variable (n_l0 : LI → LI → Int → Option LI) (x0 x3 : LI) (x4 x5 : Int)
def F135.b_g8 : Option LI :=
 if (List.length x3) ≤ (List.length x3) ∧ ((List.length x3) + (List.length (List.take 1 ([x5] : LI)))) * 4 ≤ LIM then
 n_l0 x0 (List.take (List.length (List.append (List.take (List.length x3) x3) (List.take 1 ([x5] : LI)))) (List.append (List.take (List.length x3) x3) (List.take 1 ([x5] : LI)))) (IntKind.i64.wrap (x4 + (2 : Int)))
 else none
def F135.c_g8 : Option LI :=
 if ((List.length x3) + (List.length ([x5] : LI))) * 4 ≤ LIM then
 n_l0 x0 (x3 ++ ([x5] : LI)) (IntKind.i64.wrap (x4 + (2 : Int)))
 else none
theorem F135.q_g8 : F135.b_g8 n_l0 x0 x3 x4 x5 = F135.c_g8 n_l0 x0 x3 x4 x5 := by
  simp only [F135.b_g8, F135.c_g8, qq]
def F135.g8 : Option LI := gate k (F135.b_g8 n_l0 x0 x3 x4 x5)
theorem F135.e_g8 : F135.M_g8 k m0 (F135.fr_g8 x0 x3 x4 x5) = F135.g8 k (fun x0 x3 x4 => F135.M_l0 k m0 (F135.fr_l0 x0 x3 x4)) x0 x3 x4 x5 := by
  kernel_rfl
end
section
variable (r_g8 : LI → LI → Int → Int → Option LI) (x0 x3 : LI) (x4 : Int)
def F135.b_l0 : Option LI :=
 bif (decide (x4 < ((List.length x0) : Int))) then
 if 0 ≤ x4 ∧ x4 < ((List.length x0) : Int) then
 bif (decide ((IntKind.i64.wrap (x4 + (1 : Int))) < ((List.length x0) : Int))) then
 if 0 ≤ (IntKind.i64.wrap (x4 + (1 : Int))) ∧ (IntKind.i64.wrap (x4 + (1 : Int))) < ((List.length x0) : Int) then
 r_g8 x0 (List.take (List.length x3) x3) x4 (IntKind.u32.wrap ((IntKind.u32.wrap (List.getD x0 (Int.toNat x4) (0 : Int))) + (IntKind.u32.wrap ((IntKind.u32.wrap (List.getD x0 (Int.toNat (IntKind.i64.wrap (x4 + (1 : Int)))) (0 : Int))) * (65536 : Int)))))
 else none
 else
 r_g8 x0 (List.take (List.length x3) x3) x4 (IntKind.u32.wrap (List.getD x0 (Int.toNat x4) (0 : Int)))
 else none
 else
 some (List.take (List.length x3) x3)
def F135.c_l0 : Option LI :=
 bif (decide (x4 < ((List.length x0) : Int))) then
 if 0 ≤ x4 ∧ x4 < ((List.length x0) : Int) then
 bif (decide ((IntKind.i64.wrap (x4 + (1 : Int))) < ((List.length x0) : Int))) then
 if 0 ≤ (IntKind.i64.wrap (x4 + (1 : Int))) ∧ (IntKind.i64.wrap (x4 + (1 : Int))) < ((List.length x0) : Int) then
 r_g8 x0 x3 x4 (IntKind.u32.wrap ((IntKind.u32.wrap (List.getD x0 (Int.toNat x4) (0 : Int))) + (IntKind.u32.wrap ((IntKind.u32.wrap (List.getD x0 (Int.toNat (IntKind.i64.wrap (x4 + (1 : Int)))) (0 : Int))) * (65536 : Int)))))
 else none
 else
 r_g8 x0 x3 x4 (IntKind.u32.wrap (List.getD x0 (Int.toNat x4) (0 : Int)))
 else none
 else
 some x3
theorem F135.q_l0 : F135.b_l0 r_g8 x0 x3 x4 = F135.c_l0 r_g8 x0 x3 x4 := by
  simp only [F135.b_l0, F135.c_l0, qq]
def F135.l0 : Nat → LI → LI → Int → Option LI
  | 0, _, _, _ => none
  | n + 1, x0, x3, x4 => F135.b_l0 (F135.g8 k (fun x0 x3 x4 => F135.l0 n x0 x3 x4)) x0 x3 x4
theorem F135.e_l0 : F135.M_l0 k n (F135.fr_l0 x0 x3 x4) = F135.l0 k n x0 x3 x4 := by
  induction n generalizing x0 x3 x4 with
  | zero => exact lpAt0
  | succ n ih =>
    refine Eq.trans (b := F135.b_l0 (fun x0 x3 x4 x5 => F135.M_g8 k n (F135.fr_g8 x0 x3 x4 x5)) x0 x3 x4) (by kernel_rfl) ?_
    simp only [F135.e_g8, ih]
    rfl
end
variable (r_l0 : LI → LI → Int → Option LI) (a0 : LI)
def F135.b : Option LI :=
 r_l0 a0 ([] : LI) (0 : Int)
def F135.f : Option LI := F135.b (F135.l0 k k) a0
theorem F135.e : fn F135.C k Tryz.f135 F135.A F135.R a0 = F135.f k a0 := by
  refine Eq.trans (b := F135.b (fun x0 x3 x4 => F135.M_l0 k k (F135.fr_l0 x0 x3 x4)) a0) (by kernel_rfl) ?_
  simp only [F135.e_l0]
  rfl
end
def F135.u (k : Nat) : F135.E := fun y => F135.f k y
theorem F135.sound (k : Nat) : Sound Tryz.prog ⟨135, F135.A, F135.R, F135.u k⟩ := sn gr Tryz.func135 (fun y => F135.e k y) al0
/-! ### brindlewood/brindlewoodref7.Whole: f134 -/
abbrev F134.A : List Sh := [(.d (.pair .bool (.sl 3 (.int .i64))))]
abbrev F134.R : List Sh := [(.d Y_Value)]
abbrev F134.E : Type := X_Int → Option X_Value
section
variable (c135 : F135.E)
variable (k n : Nat)
def F134.C : Ctx := cx [⟨135, F135.A, F135.R, c135⟩] []
variable (a0 : Bool × LI)
def F134.b : Option X_Value :=
 bif a0.1 then
 (c135 a0.2).bind fun y1 =>
 some ((2 : Int), (((decide (((List.length a0.2) : Int) > (0 : Int))), y1), ((false, ([] : LI)), ([], (0 : Int)))))
 else
 (c135 a0.2).bind fun y2 =>
 some ((2 : Int), ((false, y2), ((false, ([] : LI)), ([], (0 : Int)))))
def F134.f (k : Nat) (a0 : Bool × LI) : Option X_Value := F134.b c135 a0
theorem F134.e : fn (F134.C c135) k Tryz.f134 F134.A F134.R a0 = F134.f c135 k a0 := by
  kernel_rfl
end
def F134.u (k : Nat) : F134.E := fun y => F134.f (F135.u k) k y
theorem F134.sound (k : Nat) : Sound Tryz.prog ⟨134, F134.A, F134.R, F134.u k⟩ := sn gr Tryz.func134 (fun y => F134.e (F135.u k) k y) (al (F135.sound k) al0)
/-! ### brindlewood/brindlewoodref7.Value: f90 -/
abbrev F90.A : List Sh := [(.d (.pair (.pair .bool (.sl 3 (.int .i64))) (.sl 3 (.int .i64))))]
abbrev F90.R : List Sh := [(.d Y_Value), (.d .bool)]
abbrev F90.E : Type := (X_Int × LI) → Option (X_Value × Bool)
section
variable (c133 : F133.E) (c134 : F134.E) (c132 : F132.E) (c93 : F93.E) (c135 : F135.E)
variable (k n : Nat)
def F90.C : Ctx := cx [⟨133, F133.A, F133.R, c133⟩, ⟨134, F134.A, F134.R, c134⟩, ⟨132, F132.A, F132.R, c132⟩, ⟨93, F93.A, F93.R, c93⟩, ⟨135, F135.A, F135.R, c135⟩] []
variable (a0 : X_Int × LI)
def F90.b : Option (X_Value × Bool) :=
 (c133 a0).bind fun y1 =>
 bif (!y1) then
 some (((0 : Int), ((false, ([] : LI)), ((false, ([] : LI)), ([], (0 : Int))))), false)
 else
 (c134 a0.1).bind fun y2 =>
 (c132 (1 : Int)).bind fun y3 =>
 (c93 (a0.2, y3)).bind fun y4 =>
 bif (y4 != (0 : Int)) then
 (c135 a0.2).bind fun y5 =>
 some (((3 : Int), (y2.2.1, ((false, y5), y2.2.2.2))), true)
 else
 some (y2, true)
def F90.f (k : Nat) (a0 : X_Int × LI) : Option (X_Value × Bool) := F90.b c133 c134 c132 c93 c135 a0
theorem F90.e : fn (F90.C c133 c134 c132 c93 c135) k Tryz.f90 F90.A F90.R a0 = F90.f c133 c134 c132 c93 c135 k a0 := by
  kernel_rfl
end
def F90.u (k : Nat) : F90.E := fun y => F90.f (F133.u k) (F134.u k) (F132.u k) (F93.u k) (F135.u k) k y
theorem F90.sound (k : Nat) : Sound Tryz.prog ⟨90, F90.A, F90.R, F90.u k⟩ := sn gr Tryz.func90 (fun y => F90.e (F133.u k) (F134.u k) (F132.u k) (F93.u k) (F135.u k) k y) (al (F133.sound k) (al (F134.sound k) (al (F132.sound k) (al (F93.sound k) (al (F135.sound k) al0)))))
/-! ### brindlewood/brindlewoodref7.Raise: f46 -/
abbrev F46.A : List Sh := [(.d (.int .i64)), (.d .str)]
abbrev F46.R : List Sh := [(.d Y_Step)]
abbrev F46.E : Type := (Int × LB) → Option X_Step
section
variable (k n : Nat)
def F46.C : Ctx := cx [] []
variable (a0 : Int) (a1 : LB)
def F46.b : Option X_Step :=
 some ((1 : Int), (((0 : Int), ((false, ([] : LI)), ((false, ([] : LI)), ([], (0 : Int))))), (a0, (a1, (((0 : Int), ((false, ([] : LI)), ((false, ([] : LI)), ([], (0 : Int))))), ([] : LV))))))
def F46.f (k : Nat) (a0 : Int) (a1 : LB) : Option X_Step := F46.b a0 a1
theorem F46.e : fn F46.C k Tryz.f46 F46.A F46.R (a0, a1) = F46.f k a0 a1 := by
  kernel_rfl
end
def F46.u (k : Nat) : F46.E := fun y => F46.f k y.1 y.2
theorem F46.sound (k : Nat) : Sound Tryz.prog ⟨46, F46.A, F46.R, F46.u k⟩ := sn gr Tryz.func46 (fun y => F46.e k y.1 y.2) al0
/-! ### brindlewood/brindlewoodref7.TooLarge: f91 -/
abbrev F91.A : List Sh := []
abbrev F91.R : List Sh := [(.d Y_Step)]
abbrev F91.E : Type := (Unit) → Option X_Step
section
variable (c46 : F46.E)
variable (k n : Nat)
def F91.C : Ctx := cx [⟨46, F46.A, F46.R, c46⟩] []
def F91.b : Option X_Step :=
 (c46 ((42 : Int), [118, 97, 108, 117, 101, 32, 105, 115, 32, 116, 111, 111, 32, 108, 97, 114, 103, 101])).bind fun y1 =>
 some y1
def F91.f (k : Nat) : Option X_Step := F91.b c46
theorem F91.e : fn (F91.C c46) k Tryz.f91 F91.A F91.R () = F91.f c46 k := by
  kernel_rfl
end
def F91.u (k : Nat) : F91.E := fun y => F91.f (F46.u k) k
theorem F91.sound (k : Nat) : Sound Tryz.prog ⟨91, F91.A, F91.R, F91.u k⟩ := sn gr Tryz.func91 (fun y => F91.e (F46.u k) k) (al (F46.sound k) al0)
/-! ### brindlewood/brindlewoodref7.number: f40 -/
abbrev F40.A : List Sh := [(.d (.pair (.pair .bool (.sl 3 (.int .i64))) (.sl 3 (.int .i64))))]
abbrev F40.R : List Sh := [(.d Y_Step)]
abbrev F40.E : Type := (X_Int × LI) → Option X_Step
section
variable (c90 : F90.E) (c91 : F91.E) (c38 : F38.E)
variable (k n : Nat)
def F40.C : Ctx := cx [⟨90, F90.A, F90.R, c90⟩, ⟨91, F91.A, F91.R, c91⟩, ⟨38, F38.A, F38.R, c38⟩] []
variable (a0 : X_Int × LI)
def F40.b : Option X_Step :=
 (c90 a0).bind fun y1 =>
 bif (!y1.2) then
 (c91 ()).bind fun y2 =>
 some y2
 else
 (c38 y1.1).bind fun y3 =>
 some y3
def F40.f (k : Nat) (a0 : X_Int × LI) : Option X_Step := F40.b c90 c91 c38 a0
theorem F40.e : fn (F40.C c90 c91 c38) k Tryz.f40 F40.A F40.R a0 = F40.f c90 c91 c38 k a0 := by
  kernel_rfl
end
def F40.u (k : Nat) : F40.E := fun y => F40.f (F90.u k) (F91.u k) (F38.u k) k y
theorem F40.sound (k : Nat) : Sound Tryz.prog ⟨40, F40.A, F40.R, F40.u k⟩ := sn gr Tryz.func40 (fun y => F40.e (F90.u k) (F91.u k) (F38.u k) k y) (al (F90.sound k) (al (F91.sound k) (al (F38.sound k) al0)))
/-! ### brindlewood/brindlewoodref7.I: f43 -/
abbrev F43.A : List Sh := [(.d Y_Value)]
abbrev F43.R : List Sh := [(.d (.pair .bool (.sl 3 (.int .i64))))]
abbrev F43.E : Type := X_Value → Option X_Int
section
variable (c89 : F89.E)
variable (k n : Nat)
def F43.C : Ctx := cx [⟨89, F89.A, F89.R, c89⟩] []
variable (a0 : Int × (X_Int × (X_Int × X_errorAddressString)))
def F43.b : Option X_Int :=
 (c89 a0.2.1).bind fun y1 =>
 some y1
def F43.f (k : Nat) (a0 : Int × (X_Int × (X_Int × X_errorAddressString))) : Option X_Int := F43.b c89 a0
theorem F43.e : fn (F43.C c89) k Tryz.f43 F43.A F43.R a0 = F43.f c89 k a0 := by
  kernel_rfl
end
def F43.u (k : Nat) : F43.E := fun y => F43.f (F89.u k) k y
theorem F43.sound (k : Nat) : Sound Tryz.prog ⟨43, F43.A, F43.R, F43.u k⟩ := sn gr Tryz.func43 (fun y => F43.e (F89.u k) k y) (al (F89.sound k) al0)
/-! ### brindlewood/brindlewoodref3.Binary: f95 -/
abbrev F95.A : List Sh := [(.d (.sl 4 .bool))]
abbrev F95.R : List Sh := [(.d (.sl 3 (.int .i64)))]
abbrev F95.E : Type := (List Bool) → Option LI
section
variable (c136 : F136.E)
variable (k n m0 : Nat)
def F95.C : Ctx := cx [⟨136, F136.A, F136.R, c136⟩] [(0, [.d 0 (.sl 4 .bool), .o 3 500003 3 (.int .i64), .d 4 (.int .i64)]), (2, [.d 0 (.sl 4 .bool), .o 3 500003 3 (.int .i64), .d 4 (.int .i64), .d 5 (.int .i64), .d 6 (.int .i64)])]
noncomputable def F95.M_l0 (s : St) : Option LI := lpAt (F95.C c136) k n [1, 1, 0, 1, 0] [] Tryz.f95 F95.A F95.R s
noncomputable def F95.fr_l0 (x0 : List Bool) (x3 : LI) (x4 : Int) : St := ⟨((((List.replicate 41 V.un).set 0 (V.dat (.sl 4 .bool) x0)).set 3 (V.ref 500003 0 0 (List.length x3))).set 4 (V.dat (.int .i64) x4)), [⟨500003, 0, .arr 3 (.int .i64) x3⟩]⟩
noncomputable def F95.M_l2 (s : St) : Option LI := lpAt (F95.C c136) k n [1, 1, 0, 1, 0, 0, 1, 0, 0, 1, 0, 1, 0] [m0] Tryz.f95 F95.A F95.R s
noncomputable def F95.fr_l2 (x0 : List Bool) (x3 : LI) (x4 : Int) (x5 : Int) (x6 : Int) : St := ⟨((((((List.replicate 41 V.un).set 0 (V.dat (.sl 4 .bool) x0)).set 3 (V.ref 500003 0 0 (List.length x3))).set 4 (V.dat (.int .i64) x4)).set 5 (V.dat (.int .i64) x5)).set 6 (V.dat (.int .i64) x6)), [⟨500003, 0, .arr 3 (.int .i64) x3⟩]⟩
section
variable (n_l2 : (List Bool) → LI → Int → Int → Int → Option LI) (n_l0 : (List Bool) → LI → Int → Option LI) (x0 : List Bool) (x3 : LI) (x4 x5 x6 : Int)
def F95.b_l2 (c136 : F136.E) (n_l2 : (List Bool) → LI → Int → Int → Int → Option LI) (n_l0 : (List Bool) → LI → Int → Option LI) (x0 : List Bool) (x3 : LI) (x4 : Int) (x5 : Int) (x6 : Int) : Option LI :=
 bif (decide (x6 ≥ (0 : Int))) then
 bif (decide ((IntKind.i64.wrap (x4 + x6)) < ((List.length x0) : Int))) then
 if 0 ≤ (IntKind.i64.wrap (x4 + x6)) ∧ (IntKind.i64.wrap (x4 + x6)) < ((List.length x0) : Int) then
 bif (List.getD x0 (Int.toNat (IntKind.i64.wrap (x4 + x6))) false) then
 n_l2 x0 (List.take (List.length x3) x3) x4 (IntKind.i64.wrap ((IntKind.i64.wrap (x5 * (2 : Int))) + (1 : Int))) (IntKind.i64.wrap (x6 - (1 : Int)))
 else
 n_l2 x0 (List.take (List.length x3) x3) x4 (IntKind.i64.wrap (x5 * (2 : Int))) (IntKind.i64.wrap (x6 - (1 : Int)))
 else none
 else
 n_l2 x0 (List.take (List.length x3) x3) x4 (IntKind.i64.wrap (x5 * (2 : Int))) (IntKind.i64.wrap (x6 - (1 : Int)))
 else
 if (List.length x3) ≤ (List.length x3) ∧ ((List.length x3) + (List.length (List.take 1 ([x5] : LI)))) * 8 ≤ LIM then
 n_l0 x0 (List.take (List.length (List.append (List.take (List.length x3) x3) (List.take 1 ([x5] : LI)))) (List.append (List.take (List.length x3) x3) (List.take 1 ([x5] : LI)))) (IntKind.i64.wrap (x4 + (16 : Int)))
 else none
def F95.c_l2 (c136 : F136.E) (n_l2 : (List Bool) → LI → Int → Int → Int → Option LI) (n_l0 : (List Bool) → LI → Int → Option LI) (x0 : List Bool) (x3 : LI) (x4 : Int) (x5 : Int) (x6 : Int) : Option LI :=
 bif (decide (x6 ≥ (0 : Int))) then
 bif (decide ((IntKind.i64.wrap (x4 + x6)) < ((List.length x0) : Int))) then
 if 0 ≤ (IntKind.i64.wrap (x4 + x6)) ∧ (IntKind.i64.wrap (x4 + x6)) < ((List.length x0) : Int) then
 bif (List.getD x0 (Int.toNat (IntKind.i64.wrap (x4 + x6))) false) then
 n_l2 x0 x3 x4 (IntKind.i64.wrap ((IntKind.i64.wrap (x5 * (2 : Int))) + (1 : Int))) (IntKind.i64.wrap (x6 - (1 : Int)))
 else
 n_l2 x0 x3 x4 (IntKind.i64.wrap (x5 * (2 : Int))) (IntKind.i64.wrap (x6 - (1 : Int)))
 else none
 else
 n_l2 x0 x3 x4 (IntKind.i64.wrap (x5 * (2 : Int))) (IntKind.i64.wrap (x6 - (1 : Int)))
 else
 if ((List.length x3) + (List.length ([x5] : LI))) * 8 ≤ LIM then
 n_l0 x0 (x3 ++ ([x5] : LI)) (IntKind.i64.wrap (x4 + (16 : Int)))
 else none
theorem F95.q_l2 : F95.b_l2 c136 n_l2 n_l0 x0 x3 x4 x5 x6 = F95.c_l2 c136 n_l2 n_l0 x0 x3 x4 x5 x6 := by
  simp only [F95.b_l2, F95.c_l2, qq]
def F95.l2 (k : Nat) (n_l0 : (List Bool) → LI → Int → Option LI) : Nat → (List Bool) → LI → Int → Int → Int → Option LI
  | 0, _, _, _, _, _ => none
  | n + 1, x0, x3, x4, x5, x6 => F95.b_l2 c136 (fun x0 x3 x4 x5 x6 => F95.l2 k n_l0 n x0 x3 x4 x5 x6) n_l0 x0 x3 x4 x5 x6
theorem F95.e_l2 : F95.M_l2 c136 k n m0 (F95.fr_l2 x0 x3 x4 x5 x6) = F95.l2 c136 k (fun x0 x3 x4 => F95.M_l0 c136 k m0 (F95.fr_l0 x0 x3 x4)) n x0 x3 x4 x5 x6 := by
  induction n generalizing x0 x3 x4 x5 x6 with
  | zero => exact lpAt0
  | succ n ih =>
    refine Eq.trans (b := F95.b_l2 c136 (fun x0 x3 x4 x5 x6 => F95.M_l2 c136 k n m0 (F95.fr_l2 x0 x3 x4 x5 x6)) (fun x0 x3 x4 => F95.M_l0 c136 k m0 (F95.fr_l0 x0 x3 x4)) x0 x3 x4 x5 x6) (by kernel_rfl) ?_
    simp only [ih]
    rfl
end
section
variable (r_l2 : (List Bool) → LI → Int → Int → Int → Option LI) (x0 : List Bool) (x3 : LI) (x4 : Int)
def F95.b_l0 : Option LI :=
 bif (decide (x4 < ((List.length x0) : Int))) then
 r_l2 x0 (List.take (List.length x3) x3) x4 (0 : Int) (15 : Int)
 else
 (c136 (List.take (List.length x3) x3)).bind fun y1 =>
 some y1
def F95.c_l0 : Option LI :=
 bif (decide (x4 < ((List.length x0) : Int))) then
 r_l2 x0 x3 x4 (0 : Int) (15 : Int)
 else
 (c136 x3).bind fun y1 =>
 some y1
theorem F95.q_l0 : F95.b_l0 c136 r_l2 x0 x3 x4 = F95.c_l0 c136 r_l2 x0 x3 x4 := by
  simp only [F95.b_l0, F95.c_l0, qq]
def F95.l0 : Nat → (List Bool) → LI → Int → Option LI
  | 0, _, _, _ => none
  | n + 1, x0, x3, x4 => F95.b_l0 c136 (F95.l2 c136 k (fun x0 x3 x4 => F95.l0 n x0 x3 x4) k) x0 x3 x4
theorem F95.e_l0 : F95.M_l0 c136 k n (F95.fr_l0 x0 x3 x4) = F95.l0 c136 k n x0 x3 x4 := by
  induction n generalizing x0 x3 x4 with
  | zero => exact lpAt0
  | succ n ih =>
    refine Eq.trans (b := F95.b_l0 c136 (fun x0 x3 x4 x5 x6 => F95.M_l2 c136 k k n (F95.fr_l2 x0 x3 x4 x5 x6)) x0 x3 x4) (by kernel_rfl) ?_
    simp only [F95.e_l2, ih]
    rfl
end
variable (r_l0 : (List Bool) → LI → Int → Option LI) (a0 : List Bool)
def F95.b (c136 : F136.E) (r_l0 : (List Bool) → LI → Int → Option LI) (a0 : List Bool) : Option LI :=
 r_l0 a0 ([] : LI) (0 : Int)
def F95.f : Option LI := F95.b c136 (F95.l0 c136 k k) a0
theorem F95.e : fn (F95.C c136) k Tryz.f95 F95.A F95.R a0 = F95.f c136 k a0 := by
  refine Eq.trans (b := F95.b c136 (fun x0 x3 x4 => F95.M_l0 c136 k k (F95.fr_l0 x0 x3 x4)) a0) (by kernel_rfl) ?_
  simp only [F95.e_l0]
  rfl
end
def F95.u (k : Nat) : F95.E := fun y => F95.f (F136.u k) k y
theorem F95.sound (k : Nat) : Sound Tryz.prog ⟨95, F95.A, F95.R, F95.u k⟩ := sn gr Tryz.func95 (fun y => F95.e (F136.u k) k y) (al (F136.sound k) al0)
/-! ### brindlewood/brindlewoodref3.Number: f45 -/
abbrev F45.A : List Sh := [(.d (.int .i64))]
abbrev F45.R : List Sh := [(.d (.pair .bool (.sl 3 (.int .i64))))]
abbrev F45.E : Type := Int → Option X_Int
section
variable (c95 : F95.E)
variable (k n : Nat)
def F45.C : Ctx := cx [⟨95, F95.A, F95.R, c95⟩] [(0, [.d 0 (.int .i64), .bx 2 600002 (.pair (.d .bool) (.o 3 (.int .i64))), .o 3 500003 4 .bool, .d 4 .bool])]
noncomputable def F45.M_l0 (s : St) : Option X_Int := lpAt (F45.C c95) k n [1, 1, 1, 0, 0] [] Tryz.f45 F45.A F45.R s
noncomputable def F45.fr_l0 (x0 : Int) (x2 : Bool × LI) (x3 : List Bool) (x4 : Bool) : St := ⟨(((((List.replicate 21 V.un).set 0 (V.dat (.int .i64) x0)).set 2 (V.bp 600002 0 [])).set 3 (V.ref 500003 0 0 (List.length x3))).set 4 (V.dat .bool x4)), [⟨500003, 0, .arr 4 .bool x3⟩, ⟨600002, 0, .box (V.st (V.dat .bool x2.1) (V.ref 11600032 0 0 (List.length x2.2)))⟩, ⟨11600032, 0, .arr 3 (.int .i64) x2.2⟩]⟩
section
variable (n_l0 : Int → X_Int → (List Bool) → Bool → Option X_Int) (x0 : Int) (x2 : Bool × LI) (x3 : List Bool) (x4 : Bool)
def F45.b_l0 : Option X_Int :=
 bif (x0 != (0 : Int)) then
 if (List.length x3) ≤ (List.length x3) ∧ ((List.length x3) + (List.length (List.take 1 ([((Int.tmod x0 (2 : Int)) != (0 : Int))] : List Bool)))) * 1 ≤ LIM then
 n_l0 (IntKind.i64.wrap (Int.tdiv x0 (2 : Int))) (x2.1, (List.take (List.length x2.2) x2.2)) (List.take (List.length (List.append (List.take (List.length x3) x3) (List.take 1 ([((Int.tmod x0 (2 : Int)) != (0 : Int))] : List Bool)))) (List.append (List.take (List.length x3) x3) (List.take 1 ([((Int.tmod x0 (2 : Int)) != (0 : Int))] : List Bool)))) x4
 else none
 else
 (c95 (List.take (List.length x3) x3)).bind fun y1 =>
 some (x4, y1)
def F45.c_l0 : Option X_Int :=
 bif (x0 != (0 : Int)) then
 if ((List.length x3) + (List.length ([((Int.tmod x0 (2 : Int)) != (0 : Int))] : List Bool))) * 1 ≤ LIM then
 n_l0 (IntKind.i64.wrap (Int.tdiv x0 (2 : Int))) x2 (x3 ++ ([((Int.tmod x0 (2 : Int)) != (0 : Int))] : List Bool)) x4
 else none
 else
 (c95 x3).bind fun y1 =>
 some (x4, y1)
theorem F45.q_l0 : F45.b_l0 c95 n_l0 x0 x2 x3 x4 = F45.c_l0 c95 n_l0 x0 x2 x3 x4 := by
  simp only [F45.b_l0, F45.c_l0, qq]
def F45.l0 (k : Nat) : Nat → Int → X_Int → (List Bool) → Bool → Option X_Int
  | 0, _, _, _, _ => none
  | n + 1, x0, x2, x3, x4 => F45.b_l0 c95 (fun x0 x2 x3 x4 => F45.l0 k n x0 x2 x3 x4) x0 x2 x3 x4
theorem F45.e_l0 : F45.M_l0 c95 k n (F45.fr_l0 x0 x2 x3 x4) = F45.l0 c95 k n x0 x2 x3 x4 := by
  induction n generalizing x0 x2 x3 x4 with
  | zero => exact lpAt0
  | succ n ih =>
    refine Eq.trans (b := F45.b_l0 c95 (fun x0 x2 x3 x4 => F45.M_l0 c95 k n (F45.fr_l0 x0 x2 x3 x4)) x0 x2 x3 x4) (by kernel_rfl) ?_
    simp only [ih]
    rfl
end
variable (r_l0 : Int → X_Int → (List Bool) → Bool → Option X_Int) (a0 : Int)
def F45.b (c95 : F95.E) (r_l0 : Int → X_Int → (List Bool) → Bool → Option X_Int) (a0 : Int) : Option X_Int :=
 r_l0 a0 (false, ([] : LI)) ([] : List Bool) (decide (a0 < (0 : Int)))
def F45.f : Option X_Int := F45.b c95 (F45.l0 c95 k k) a0
theorem F45.e : fn (F45.C c95) k Tryz.f45 F45.A F45.R a0 = F45.f c95 k a0 := by
  refine Eq.trans (b := F45.b c95 (fun x0 x2 x3 x4 => F45.M_l0 c95 k k (F45.fr_l0 x0 x2 x3 x4)) a0) (by kernel_rfl) ?_
  simp only [F45.e_l0]
  rfl
end
def F45.u (k : Nat) : F45.E := fun y => F45.f (F95.u k) k y
theorem F45.sound (k : Nat) : Sound Tryz.prog ⟨45, F45.A, F45.R, F45.u k⟩ := sn gr Tryz.func45 (fun y => F45.e (F95.u k) k y) (al (F95.sound k) al0)
/-! ### (brindlewood/brindlewoodref3.Int).Plus: f44 -/
abbrev F44.A : List Sh := [(.d (.pair .bool (.sl 3 (.int .i64)))), (.d (.pair .bool (.sl 3 (.int .i64))))]
abbrev F44.R : List Sh := [(.d (.pair .bool (.sl 3 (.int .i64))))]
abbrev F44.E : Type := X_Ratio → Option X_Int
section
variable (c92 : F92.E) (c93 : F93.E) (c94 : F94.E)
variable (k n : Nat)
def F44.C : Ctx := cx [⟨92, F92.A, F92.R, c92⟩, ⟨93, F93.A, F93.R, c93⟩, ⟨94, F94.A, F94.R, c94⟩] []
variable (a0 a1 : Bool × LI)
def F44.b : Option X_Int :=
 bif (a0.1 == a1.1) then
 (c92 (a0.2, a1.2)).bind fun y1 =>
 some (a0.1, y1)
 else
 (c93 (a0.2, a1.2)).bind fun y2 =>
 bif (decide (y2 ≥ (0 : Int))) then
 (c94 (a0.2, a1.2)).bind fun y3 =>
 some (a0.1, y3)
 else
 (c94 (a1.2, a0.2)).bind fun y4 =>
 some (a1.1, y4)
def F44.f (k : Nat) (a0 : Bool × LI) (a1 : Bool × LI) : Option X_Int := F44.b c92 c93 c94 a0 a1
theorem F44.e : fn (F44.C c92 c93 c94) k Tryz.f44 F44.A F44.R (a0, a1) = F44.f c92 c93 c94 k a0 a1 := by
  kernel_rfl
end
def F44.u (k : Nat) : F44.E := fun y => F44.f (F92.u k) (F93.u k) (F94.u k) k y.1 y.2
theorem F44.sound (k : Nat) : Sound Tryz.prog ⟨44, F44.A, F44.R, F44.u k⟩ := sn gr Tryz.func44 (fun y => F44.e (F92.u k) (F93.u k) (F94.u k) k y.1 y.2) (al (F92.sound k) (al (F93.sound k) (al (F94.sound k) al0)))
/-! ### brindlewood/brindlewoodref7.integer: f42 -/
abbrev F42.A : List Sh := [(.d (.pair .bool (.sl 3 (.int .i64))))]
abbrev F42.R : List Sh := [(.d Y_Step)]
abbrev F42.E : Type := X_Int → Option X_Step
section
variable (c88 : F88.E) (c40 : F40.E)
variable (k n : Nat)
def F42.C : Ctx := cx [⟨88, F88.A, F88.R, c88⟩, ⟨40, F40.A, F40.R, c40⟩] []
variable (a0 : Bool × LI)
def F42.b : Option X_Step :=
 (c88 a0).bind fun y1 =>
 (c40 y1).bind fun y2 =>
 some y2
def F42.f (k : Nat) (a0 : Bool × LI) : Option X_Step := F42.b c88 c40 a0
theorem F42.e : fn (F42.C c88 c40) k Tryz.f42 F42.A F42.R a0 = F42.f c88 c40 k a0 := by
  kernel_rfl
end
def F42.u (k : Nat) : F42.E := fun y => F42.f (F88.u k) (F40.u k) k y
theorem F42.sound (k : Nat) : Sound Tryz.prog ⟨42, F42.A, F42.R, F42.u k⟩ := sn gr Tryz.func42 (fun y => F42.e (F88.u k) (F40.u k) k y) (al (F88.sound k) (al (F40.sound k) al0))
/-! ### brindlewood/brindlewoodref7.Signs: f47 -/
abbrev F47.A : List Sh := []
abbrev F47.R : List Sh := [(.d (.sl 9 .str))]
abbrev F47.E : Type := (Unit) → Option LLB
section
variable (c66 : F66.E)
variable (k n : Nat)
def F47.C : Ctx := cx [⟨66, F66.A, F66.R, c66⟩] []
def F47.b : Option LLB :=
 (c66 [45, 32, 43, 32, 126, 32, 110, 111, 116, 32, 43, 32, 45, 32, 42, 32, 47, 32, 47, 47, 32, 37, 32, 42, 42, 32, 60, 60, 32, 62, 62, 32, 38, 32, 124, 32, 94]).bind fun y1 =>
 some y1
def F47.f (k : Nat) : Option LLB := F47.b c66
theorem F47.e : fn (F47.C c66) k Tryz.f47 F47.A F47.R () = F47.f c66 k := by
  kernel_rfl
end
def F47.u (k : Nat) : F47.E := fun y => F47.f (F66.u k) k
theorem F47.sound (k : Nat) : Sound Tryz.prog ⟨47, F47.A, F47.R, F47.u k⟩ := sn gr Tryz.func47 (fun y => F47.e (F66.u k) k) (al (F66.sound k) al0)
/-! ### brindlewood/brindlewoodref7.classOfObject: f102 -/
abbrev F102.A : List Sh := [(.d Y_Object)]
abbrev F102.R : List Sh := [(.d (.int .i64))]
abbrev F102.E : Type := X_Object → Option Int
section
variable (k n : Nat)
def F102.C : Ctx := cx [] []
variable (a0 : Int × (LB × (Int × (LI × (LI × (LLB × (LV × (LV × X_acceptRange))))))))
def F102.b : Option Int :=
 bif (a0.1 == (10 : Int)) then
 some a0.2.2.1
 else
 bif (a0.1 == (8 : Int)) then
 some (16 : Int)
 else
 bif (a0.1 == (9 : Int)) then
 some (1 : Int)
 else
 bif (a0.1 == (11 : Int)) then
 some (17 : Int)
 else
 bif (a0.1 == (12 : Int)) then
 some (18 : Int)
 else
 bif (a0.1 == (13 : Int)) then
 some (19 : Int)
 else
 bif (a0.1 == (14 : Int)) then
 some (20 : Int)
 else
 bif (decide (a0.1 ≥ (15 : Int))) then
 some (IntKind.i64.wrap ((IntKind.i64.wrap ((21 : Int) + a0.1)) - (15 : Int)))
 else
 some (IntKind.i64.wrap ((IntKind.i64.wrap ((8 : Int) + a0.1)) - (1 : Int)))
def F102.f (k : Nat) (a0 : Int × (LB × (Int × (LI × (LI × (LLB × (LV × (LV × X_acceptRange)))))))) : Option Int := F102.b a0
theorem F102.e : fn F102.C k Tryz.f102 F102.A F102.R a0 = F102.f k a0 := by
  kernel_rfl
end
def F102.u (k : Nat) : F102.E := fun y => F102.f k y
theorem F102.sound (k : Nat) : Sound Tryz.prog ⟨102, F102.A, F102.R, F102.u k⟩ := sn gr Tryz.func102 (fun y => F102.e k y) al0
/-! ### brindlewood/brindlewoodref7.ClassOf: f63 -/
abbrev F63.A : List Sh := [(.d Y_Heap), (.d Y_Value)]
abbrev F63.R : List Sh := [(.d (.int .i64))]
abbrev F63.E : Type := (LO × X_Value) → Option Int
section
variable (c102 : F102.E)
variable (k n : Nat)
def F63.C : Ctx := cx [⟨102, F102.A, F102.R, c102⟩] []
variable (a0 : LO) (a1 : Int × (X_Int × (X_Int × X_errorAddressString)))
def F63.b : Option Int :=
 bif (a1.1 == (1 : Int)) then
 some (3 : Int)
 else
 bif (a1.1 == (2 : Int)) then
 some (4 : Int)
 else
 bif (a1.1 == (3 : Int)) then
 some (5 : Int)
 else
 bif (a1.1 == (4 : Int)) then
 some (6 : Int)
 else
 bif (a1.1 == (5 : Int)) then
 some (7 : Int)
 else
 bif (a1.1 == (7 : Int)) then
 some (15 : Int)
 else
 bif (a1.1 == (8 : Int)) then
 some (27 : Int)
 else
 bif (a1.1 == (6 : Int)) then
 if 0 ≤ a1.2.2.2.2 ∧ a1.2.2.2.2 < ((List.length a0) : Int) then
 (c102 (List.getD a0 (Int.toNat a1.2.2.2.2) Z_Object)).bind fun y1 =>
 some y1
 else none
 else
 some (2 : Int)
def F63.f (k : Nat) (a0 : LO) (a1 : Int × (X_Int × (X_Int × X_errorAddressString))) : Option Int := F63.b c102 a0 a1
theorem F63.e : fn (F63.C c102) k Tryz.f63 F63.A F63.R (a0, a1) = F63.f c102 k a0 a1 := by
  kernel_rfl
end
def F63.u (k : Nat) : F63.E := fun y => F63.f (F102.u k) k y.1 y.2
theorem F63.sound (k : Nat) : Sound Tryz.prog ⟨63, F63.A, F63.R, F63.u k⟩ := sn gr Tryz.func63 (fun y => F63.e (F102.u k) k y.1 y.2) (al (F102.sound k) al0)
/-! ### brindlewood/brindlewoodref7.ClassName: f48 -/
abbrev F48.A : List Sh := [(.d Y_Heap), (.d Y_Value)]
abbrev F48.R : List Sh := [(.d .str)]
abbrev F48.E : Type := (LO × X_Value) → Option LB
section
variable (c63 : F63.E)
variable (k n : Nat)
def F48.C : Ctx := cx [⟨63, F63.A, F63.R, c63⟩] []
variable (a0 : LO) (a1 : Int × (X_Int × (X_Int × X_errorAddressString)))
def F48.b : Option LB :=
 (c63 (a0, a1)).bind fun y1 =>
 if 0 ≤ y1 ∧ y1 < ((List.length a0) : Int) then
 some (((List.getD a0 (Int.toNat y1) Z_Object).2).1)
 else none
def F48.f (k : Nat) (a0 : LO) (a1 : Int × (X_Int × (X_Int × X_errorAddressString))) : Option LB := F48.b c63 a0 a1
theorem F48.e : fn (F48.C c63) k Tryz.f48 F48.A F48.R (a0, a1) = F48.f c63 k a0 a1 := by
  kernel_rfl
end
def F48.u (k : Nat) : F48.E := fun y => F48.f (F63.u k) k y.1 y.2
theorem F48.sound (k : Nat) : Sound Tryz.prog ⟨48, F48.A, F48.R, F48.u k⟩ := sn gr Tryz.func48 (fun y => F48.e (F63.u k) k y.1 y.2) (al (F63.sound k) al0)
/-! ### brindlewood/brindlewoodref7.Unary: f9 -/
abbrev F9.A : List Sh := [(.d Y_Heap), (.d (.int .i64)), (.d Y_Value)]
abbrev F9.R : List Sh := [(.d Y_Plan)]
abbrev F9.E : Type := (LO × (Int × X_Value)) → Option X_Plan
section
variable (c36 : F36.E) (c35 : F35.E) (c37 : F37.E) (c38 : F38.E) (c39 : F39.E) (c41 : F41.E) (c40 : F40.E) (c43 : F43.E) (c45 : F45.E) (c44 : F44.E) (c42 : F42.E) (c47 : F47.E) (c48 : F48.E) (c46 : F46.E)
variable (k n : Nat)
def F9.C : Ctx := cx [⟨36, F36.A, F36.R, c36⟩, ⟨35, F35.A, F35.R, c35⟩, ⟨37, F37.A, F37.R, c37⟩, ⟨38, F38.A, F38.R, c38⟩, ⟨39, F39.A, F39.R, c39⟩, ⟨41, F41.A, F41.R, c41⟩, ⟨40, F40.A, F40.R, c40⟩, ⟨43, F43.A, F43.R, c43⟩, ⟨45, F45.A, F45.R, c45⟩, ⟨44, F44.A, F44.R, c44⟩, ⟨42, F42.A, F42.R, c42⟩, ⟨47, F47.A, F47.R, c47⟩, ⟨48, F48.A, F48.R, c48⟩, ⟨46, F46.A, F46.R, c46⟩] [(100005, [.d 1 (.int .i64), .bx 3 600003 (.d Y_Heap), .bx 5 600005 (.d Y_Value), .bx 6 600006 (.pair (.o 36 Y_Step) (.pair (.d (.int .i64)) (.pair (.pair (.d (.int .i64)) (.pair (.pair (.d .bool) (.o 109 (.int .u32))) (.pair (.pair (.d .bool) (.o 109 (.int .u32))) (.d (.pair .str (.int .i64)))))) (.pair (.d (.int .i64)) (.pair (.d .str) (.pair (.pair (.d (.int .i64)) (.pair (.pair (.d .bool) (.o 109 (.int .u32))) (.pair (.pair (.d .bool) (.o 109 (.int .u32))) (.d (.pair .str (.int .i64)))))) (.o 29 Y_Value))))))), .bx 7 600007 (.pair (.d (.sl 36 Y_Step)) (.pair (.d (.int .i64)) (.pair (.pair (.d (.int .i64)) (.pair (.pair (.d .bool) (.o 109 (.int .u32))) (.pair (.pair (.d .bool) (.o 109 (.int .u32))) (.d (.pair .str (.int .i64)))))) (.pair (.d (.int .i64)) (.pair (.d .str) (.pair (.pair (.d (.int .i64)) (.pair (.pair (.d .bool) (.o 109 (.int .u32))) (.pair (.pair (.d .bool) (.o 109 (.int .u32))) (.d (.pair .str (.int .i64)))))) (.o 29 Y_Value)))))))]), (100008, [.d 1 (.int .i64), .bx 3 600003 (.d Y_Heap), .bx 5 600005 (.d Y_Value), .bx 6 600006 (.pair (.o 36 Y_Step) (.pair (.d (.int .i64)) (.pair (.pair (.d (.int .i64)) (.pair (.pair (.d .bool) (.o 109 (.int .u32))) (.pair (.pair (.d .bool) (.o 109 (.int .u32))) (.d (.pair .str (.int .i64)))))) (.pair (.d (.int .i64)) (.pair (.d .str) (.pair (.pair (.d (.int .i64)) (.pair (.pair (.d .bool) (.o 109 (.int .u32))) (.pair (.pair (.d .bool) (.o 109 (.int .u32))) (.d (.pair .str (.int .i64)))))) (.o 29 Y_Value))))))), .bx 7 600007 (.pair (.d (.sl 36 Y_Step)) (.pair (.d (.int .i64)) (.pair (.pair (.d (.int .i64)) (.pair (.pair (.d .bool) (.o 109 (.int .u32))) (.pair (.pair (.d .bool) (.o 109 (.int .u32))) (.d (.pair .str (.int .i64)))))) (.pair (.d (.int .i64)) (.pair (.d .str) (.pair (.pair (.d (.int .i64)) (.pair (.pair (.d .bool) (.o 109 (.int .u32))) (.pair (.pair (.d .bool) (.o 109 (.int .u32))) (.d (.pair .str (.int .i64)))))) (.o 29 Y_Value)))))))]), (100002, [.d 1 (.int .i64), .bx 3 600003 (.d Y_Heap), .bx 5 600005 (.d Y_Value), .bx 6 600006 (.pair (.o 36 Y_Step) (.pair (.d (.int .i64)) (.pair (.pair (.d (.int .i64)) (.pair (.pair (.d .bool) (.o 109 (.int .u32))) (.pair (.pair (.d .bool) (.o 109 (.int .u32))) (.d (.pair .str (.int .i64)))))) (.pair (.d (.int .i64)) (.pair (.d .str) (.pair (.pair (.d (.int .i64)) (.pair (.pair (.d .bool) (.o 109 (.int .u32))) (.pair (.pair (.d .bool) (.o 109 (.int .u32))) (.d (.pair .str (.int .i64)))))) (.o 29 Y_Value))))))), .bx 7 600007 (.pair (.d (.sl 36 Y_Step)) (.pair (.d (.int .i64)) (.pair (.pair (.d (.int .i64)) (.pair (.pair (.d .bool) (.o 109 (.int .u32))) (.pair (.pair (.d .bool) (.o 109 (.int .u32))) (.d (.pair .str (.int .i64)))))) (.pair (.d (.int .i64)) (.pair (.d .str) (.pair (.pair (.d (.int .i64)) (.pair (.pair (.d .bool) (.o 109 (.int .u32))) (.pair (.pair (.d .bool) (.o 109 (.int .u32))) (.d (.pair .str (.int .i64)))))) (.o 29 Y_Value)))))))])]
noncomputable def F9.M_g5 (s : St) : Option X_Plan := gtAt (F9.C c36 c35 c37 c38 c39 c41 c40 c43 c45 c44 c42 c47 c48 c46) k [1, 1, 0, 0, 1, 1, 0] [] Tryz.f9 F9.A F9.R s
noncomputable def F9.fr_g5 (x1 : Int) (x3 : LO) (x5 : Int × (X_Int × (X_Int × X_errorAddressString))) (x6 : (List X_Step) × X_Step) (x7 : (List X_Step) × X_Step) : St := ⟨((((((List.replicate 76 V.un).set 1 (V.dat (.int .i64) x1)).set 3 (V.bp 600003 0 [])).set 5 (V.bp 600005 0 [])).set 6 (V.bp 600006 0 [])).set 7 (V.bp 600007 0 [])), [⟨600007, 0, .box (V.st (V.dat (.sl 36 Y_Step) x7.1) (V.st (V.dat (.int .i64) x7.2.1) (V.st (V.st (V.dat (.int .i64) x7.2.2.1.1) (V.st (V.st (V.dat .bool x7.2.2.1.2.1.1) (V.ref 11600112 0 0 (List.length x7.2.2.1.2.1.2))) (V.st (V.st (V.dat .bool x7.2.2.1.2.2.1.1) (V.ref 11600113 0 0 (List.length x7.2.2.1.2.2.1.2))) (V.dat (.pair .str (.int .i64)) x7.2.2.1.2.2.2)))) (V.st (V.dat (.int .i64) x7.2.2.2.1) (V.st (V.dat .str x7.2.2.2.2.1) (V.st (V.st (V.dat (.int .i64) x7.2.2.2.2.2.1.1) (V.st (V.st (V.dat .bool x7.2.2.2.2.2.1.2.1.1) (V.ref 11600114 0 0 (List.length x7.2.2.2.2.2.1.2.1.2))) (V.st (V.st (V.dat .bool x7.2.2.2.2.2.1.2.2.1.1) (V.ref 11600115 0 0 (List.length x7.2.2.2.2.2.1.2.2.1.2))) (V.dat (.pair .str (.int .i64)) x7.2.2.2.2.2.1.2.2.2)))) (V.ref 11600116 0 0 (List.length x7.2.2.2.2.2.2))))))))⟩, ⟨11600112, 0, .arr 109 (.int .u32) x7.2.2.1.2.1.2⟩, ⟨11600113, 0, .arr 109 (.int .u32) x7.2.2.1.2.2.1.2⟩, ⟨11600114, 0, .arr 109 (.int .u32) x7.2.2.2.2.2.1.2.1.2⟩, ⟨11600115, 0, .arr 109 (.int .u32) x7.2.2.2.2.2.1.2.2.1.2⟩, ⟨11600116, 0, .arr 29 Y_Value x7.2.2.2.2.2.2⟩, ⟨600006, 0, .box (V.st (V.ref 11600096 0 0 (List.length x6.1)) (V.st (V.dat (.int .i64) x6.2.1) (V.st (V.st (V.dat (.int .i64) x6.2.2.1.1) (V.st (V.st (V.dat .bool x6.2.2.1.2.1.1) (V.ref 11600097 0 0 (List.length x6.2.2.1.2.1.2))) (V.st (V.st (V.dat .bool x6.2.2.1.2.2.1.1) (V.ref 11600098 0 0 (List.length x6.2.2.1.2.2.1.2))) (V.dat (.pair .str (.int .i64)) x6.2.2.1.2.2.2)))) (V.st (V.dat (.int .i64) x6.2.2.2.1) (V.st (V.dat .str x6.2.2.2.2.1) (V.st (V.st (V.dat (.int .i64) x6.2.2.2.2.2.1.1) (V.st (V.st (V.dat .bool x6.2.2.2.2.2.1.2.1.1) (V.ref 11600099 0 0 (List.length x6.2.2.2.2.2.1.2.1.2))) (V.st (V.st (V.dat .bool x6.2.2.2.2.2.1.2.2.1.1) (V.ref 11600100 0 0 (List.length x6.2.2.2.2.2.1.2.2.1.2))) (V.dat (.pair .str (.int .i64)) x6.2.2.2.2.2.1.2.2.2)))) (V.ref 11600101 0 0 (List.length x6.2.2.2.2.2.2))))))))⟩, ⟨11600096, 0, .arr 36 Y_Step x6.1⟩, ⟨11600097, 0, .arr 109 (.int .u32) x6.2.2.1.2.1.2⟩, ⟨11600098, 0, .arr 109 (.int .u32) x6.2.2.1.2.2.1.2⟩, ⟨11600099, 0, .arr 109 (.int .u32) x6.2.2.2.2.2.1.2.1.2⟩, ⟨11600100, 0, .arr 109 (.int .u32) x6.2.2.2.2.2.1.2.2.1.2⟩, ⟨11600101, 0, .arr 29 Y_Value x6.2.2.2.2.2.2⟩, ⟨600005, 0, .box (V.dat Y_Value x5)⟩, ⟨600003, 0, .box (V.dat Y_Heap x3)⟩]⟩
noncomputable def F9.M_g8 (s : St) : Option X_Plan := gtAt (F9.C c36 c35 c37 c38 c39 c41 c40 c43 c45 c44 c42 c47 c48 c46) k [1, 1, 0, 0, 1, 1, 1, 1, 0] [] Tryz.f9 F9.A F9.R s
noncomputable def F9.fr_g8 (x1 : Int) (x3 : LO) (x5 : Int × (X_Int × (X_Int × X_errorAddressString))) (x6 : (List X_Step) × X_Step) (x7 : (List X_Step) × X_Step) : St := ⟨((((((List.replicate 76 V.un).set 1 (V.dat (.int .i64) x1)).set 3 (V.bp 600003 0 [])).set 5 (V.bp 600005 0 [])).set 6 (V.bp 600006 0 [])).set 7 (V.bp 600007 0 [])), [⟨600007, 0, .box (V.st (V.dat (.sl 36 Y_Step) x7.1) (V.st (V.dat (.int .i64) x7.2.1) (V.st (V.st (V.dat (.int .i64) x7.2.2.1.1) (V.st (V.st (V.dat .bool x7.2.2.1.2.1.1) (V.ref 11600112 0 0 (List.length x7.2.2.1.2.1.2))) (V.st (V.st (V.dat .bool x7.2.2.1.2.2.1.1) (V.ref 11600113 0 0 (List.length x7.2.2.1.2.2.1.2))) (V.dat (.pair .str (.int .i64)) x7.2.2.1.2.2.2)))) (V.st (V.dat (.int .i64) x7.2.2.2.1) (V.st (V.dat .str x7.2.2.2.2.1) (V.st (V.st (V.dat (.int .i64) x7.2.2.2.2.2.1.1) (V.st (V.st (V.dat .bool x7.2.2.2.2.2.1.2.1.1) (V.ref 11600114 0 0 (List.length x7.2.2.2.2.2.1.2.1.2))) (V.st (V.st (V.dat .bool x7.2.2.2.2.2.1.2.2.1.1) (V.ref 11600115 0 0 (List.length x7.2.2.2.2.2.1.2.2.1.2))) (V.dat (.pair .str (.int .i64)) x7.2.2.2.2.2.1.2.2.2)))) (V.ref 11600116 0 0 (List.length x7.2.2.2.2.2.2))))))))⟩, ⟨11600112, 0, .arr 109 (.int .u32) x7.2.2.1.2.1.2⟩, ⟨11600113, 0, .arr 109 (.int .u32) x7.2.2.1.2.2.1.2⟩, ⟨11600114, 0, .arr 109 (.int .u32) x7.2.2.2.2.2.1.2.1.2⟩, ⟨11600115, 0, .arr 109 (.int .u32) x7.2.2.2.2.2.1.2.2.1.2⟩, ⟨11600116, 0, .arr 29 Y_Value x7.2.2.2.2.2.2⟩, ⟨600006, 0, .box (V.st (V.ref 11600096 0 0 (List.length x6.1)) (V.st (V.dat (.int .i64) x6.2.1) (V.st (V.st (V.dat (.int .i64) x6.2.2.1.1) (V.st (V.st (V.dat .bool x6.2.2.1.2.1.1) (V.ref 11600097 0 0 (List.length x6.2.2.1.2.1.2))) (V.st (V.st (V.dat .bool x6.2.2.1.2.2.1.1) (V.ref 11600098 0 0 (List.length x6.2.2.1.2.2.1.2))) (V.dat (.pair .str (.int .i64)) x6.2.2.1.2.2.2)))) (V.st (V.dat (.int .i64) x6.2.2.2.1) (V.st (V.dat .str x6.2.2.2.2.1) (V.st (V.st (V.dat (.int .i64) x6.2.2.2.2.2.1.1) (V.st (V.st (V.dat .bool x6.2.2.2.2.2.1.2.1.1) (V.ref 11600099 0 0 (List.length x6.2.2.2.2.2.1.2.1.2))) (V.st (V.st (V.dat .bool x6.2.2.2.2.2.1.2.2.1.1) (V.ref 11600100 0 0 (List.length x6.2.2.2.2.2.1.2.2.1.2))) (V.dat (.pair .str (.int .i64)) x6.2.2.2.2.2.1.2.2.2)))) (V.ref 11600101 0 0 (List.length x6.2.2.2.2.2.2))))))))⟩, ⟨11600096, 0, .arr 36 Y_Step x6.1⟩, ⟨11600097, 0, .arr 109 (.int .u32) x6.2.2.1.2.1.2⟩, ⟨11600098, 0, .arr 109 (.int .u32) x6.2.2.1.2.2.1.2⟩, ⟨11600099, 0, .arr 109 (.int .u32) x6.2.2.2.2.2.1.2.1.2⟩, ⟨11600100, 0, .arr 109 (.int .u32) x6.2.2.2.2.2.1.2.2.1.2⟩, ⟨11600101, 0, .arr 29 Y_Value x6.2.2.2.2.2.2⟩, ⟨600005, 0, .box (V.dat Y_Value x5)⟩, ⟨600003, 0, .box (V.dat Y_Heap x3)⟩]⟩
noncomputable def F9.M_g2 (s : St) : Option X_Plan := gtAt (F9.C c36 c35 c37 c38 c39 c41 c40 c43 c45 c44 c42 c47 c48 c46) k [1, 1, 0, 0, 1, 1, 1, 1, 1, 1] [] Tryz.f9 F9.A F9.R s
noncomputable def F9.fr_g2 (x1 : Int) (x3 : LO) (x5 : Int × (X_Int × (X_Int × X_errorAddressString))) (x6 : (List X_Step) × X_Step) (x7 : (List X_Step) × X_Step) : St := ⟨((((((List.replicate 76 V.un).set 1 (V.dat (.int .i64) x1)).set 3 (V.bp 600003 0 [])).set 5 (V.bp 600005 0 [])).set 6 (V.bp 600006 0 [])).set 7 (V.bp 600007 0 [])), [⟨600007, 0, .box (V.st (V.dat (.sl 36 Y_Step) x7.1) (V.st (V.dat (.int .i64) x7.2.1) (V.st (V.st (V.dat (.int .i64) x7.2.2.1.1) (V.st (V.st (V.dat .bool x7.2.2.1.2.1.1) (V.ref 11600112 0 0 (List.length x7.2.2.1.2.1.2))) (V.st (V.st (V.dat .bool x7.2.2.1.2.2.1.1) (V.ref 11600113 0 0 (List.length x7.2.2.1.2.2.1.2))) (V.dat (.pair .str (.int .i64)) x7.2.2.1.2.2.2)))) (V.st (V.dat (.int .i64) x7.2.2.2.1) (V.st (V.dat .str x7.2.2.2.2.1) (V.st (V.st (V.dat (.int .i64) x7.2.2.2.2.2.1.1) (V.st (V.st (V.dat .bool x7.2.2.2.2.2.1.2.1.1) (V.ref 11600114 0 0 (List.length x7.2.2.2.2.2.1.2.1.2))) (V.st (V.st (V.dat .bool x7.2.2.2.2.2.1.2.2.1.1) (V.ref 11600115 0 0 (List.length x7.2.2.2.2.2.1.2.2.1.2))) (V.dat (.pair .str (.int .i64)) x7.2.2.2.2.2.1.2.2.2)))) (V.ref 11600116 0 0 (List.length x7.2.2.2.2.2.2))))))))⟩, ⟨11600112, 0, .arr 109 (.int .u32) x7.2.2.1.2.1.2⟩, ⟨11600113, 0, .arr 109 (.int .u32) x7.2.2.1.2.2.1.2⟩, ⟨11600114, 0, .arr 109 (.int .u32) x7.2.2.2.2.2.1.2.1.2⟩, ⟨11600115, 0, .arr 109 (.int .u32) x7.2.2.2.2.2.1.2.2.1.2⟩, ⟨11600116, 0, .arr 29 Y_Value x7.2.2.2.2.2.2⟩, ⟨600006, 0, .box (V.st (V.ref 11600096 0 0 (List.length x6.1)) (V.st (V.dat (.int .i64) x6.2.1) (V.st (V.st (V.dat (.int .i64) x6.2.2.1.1) (V.st (V.st (V.dat .bool x6.2.2.1.2.1.1) (V.ref 11600097 0 0 (List.length x6.2.2.1.2.1.2))) (V.st (V.st (V.dat .bool x6.2.2.1.2.2.1.1) (V.ref 11600098 0 0 (List.length x6.2.2.1.2.2.1.2))) (V.dat (.pair .str (.int .i64)) x6.2.2.1.2.2.2)))) (V.st (V.dat (.int .i64) x6.2.2.2.1) (V.st (V.dat .str x6.2.2.2.2.1) (V.st (V.st (V.dat (.int .i64) x6.2.2.2.2.2.1.1) (V.st (V.st (V.dat .bool x6.2.2.2.2.2.1.2.1.1) (V.ref 11600099 0 0 (List.length x6.2.2.2.2.2.1.2.1.2))) (V.st (V.st (V.dat .bool x6.2.2.2.2.2.1.2.2.1.1) (V.ref 11600100 0 0 (List.length x6.2.2.2.2.2.1.2.2.1.2))) (V.dat (.pair .str (.int .i64)) x6.2.2.2.2.2.1.2.2.2)))) (V.ref 11600101 0 0 (List.length x6.2.2.2.2.2.2))))))))⟩, ⟨11600096, 0, .arr 36 Y_Step x6.1⟩, ⟨11600097, 0, .arr 109 (.int .u32) x6.2.2.1.2.1.2⟩, ⟨11600098, 0, .arr 109 (.int .u32) x6.2.2.1.2.2.1.2⟩, ⟨11600099, 0, .arr 109 (.int .u32) x6.2.2.2.2.2.1.2.1.2⟩, ⟨11600100, 0, .arr 109 (.int .u32) x6.2.2.2.2.2.1.2.2.1.2⟩, ⟨11600101, 0, .arr 29 Y_Value x6.2.2.2.2.2.2⟩, ⟨600005, 0, .box (V.dat Y_Value x5)⟩, ⟨600003, 0, .box (V.dat Y_Heap x3)⟩]⟩
section
variable (x1 : Int) (x3 : LO) (x5 : Int × (X_Int × (X_Int × X_errorAddressString))) (x6 x7 : (List X_Step) × X_Step)
def F9.b_g2 (c36 : F36.E) (c35 : F35.E) (c37 : F37.E) (c38 : F38.E) (c39 : F39.E) (c41 : F41.E) (c40 : F40.E) (c43 : F43.E) (c45 : F45.E) (c44 : F44.E) (c42 : F42.E) (c47 : F47.E) (c48 : F48.E) (c46 : F46.E) (x1 : Int) (x3 : LO) (x5 : Int × (X_Int × (X_Int × X_errorAddressString))) (x6 : (List X_Step) × X_Step) (x7 : (List X_Step) × X_Step) : Option X_Plan :=
 (c47 ()).bind fun y14 =>
 if 0 ≤ (IntKind.i64.wrap (x1 - (1 : Int))) ∧ (IntKind.i64.wrap (x1 - (1 : Int))) < ((List.length y14) : Int) then
 if (List.length [99, 97, 110, 110, 111, 116, 32, 97, 112, 112, 108, 121, 32, 39]) + (List.length (List.getD y14 (Int.toNat (IntKind.i64.wrap (x1 - (1 : Int)))) [])) ≤ 9223372036854775807 then
 if (List.length ([99, 97, 110, 110, 111, 116, 32, 97, 112, 112, 108, 121, 32, 39] ++ (List.getD y14 (Int.toNat (IntKind.i64.wrap (x1 - (1 : Int)))) []))) + (List.length [39, 32, 116, 111, 32, 39]) ≤ 9223372036854775807 then
 (c48 (x3, x5)).bind fun y15 =>
 if (List.length (([99, 97, 110, 110, 111, 116, 32, 97, 112, 112, 108, 121, 32, 39] ++ (List.getD y14 (Int.toNat (IntKind.i64.wrap (x1 - (1 : Int)))) [])) ++ [39, 32, 116, 111, 32, 39])) + (List.length y15) ≤ 9223372036854775807 then
 if (List.length ((([99, 97, 110, 110, 111, 116, 32, 97, 112, 112, 108, 121, 32, 39] ++ (List.getD y14 (Int.toNat (IntKind.i64.wrap (x1 - (1 : Int)))) [])) ++ [39, 32, 116, 111, 32, 39]) ++ y15)) + (List.length [39]) ≤ 9223372036854775807 then
 (c46 ((32 : Int), (((([99, 97, 110, 110, 111, 116, 32, 97, 112, 112, 108, 121, 32, 39] ++ (List.getD y14 (Int.toNat (IntKind.i64.wrap (x1 - (1 : Int)))) [])) ++ [39, 32, 116, 111, 32, 39]) ++ y15) ++ [39]))).bind fun y16 =>
 some (x7.1, y16)
 else none
 else none
 else none
 else none
 else none
def F9.g2 : Option X_Plan := gate k (F9.b_g2 c36 c35 c37 c38 c39 c41 c40 c43 c45 c44 c42 c47 c48 c46 x1 x3 x5 x6 x7)
theorem F9.e_g2 : F9.M_g2 c36 c35 c37 c38 c39 c41 c40 c43 c45 c44 c42 c47 c48 c46 k (F9.fr_g2 x1 x3 x5 x6 x7) = F9.g2 c36 c35 c37 c38 c39 c41 c40 c43 c45 c44 c42 c47 c48 c46 k x1 x3 x5 x6 x7 := by
  kernel_rfl
end
section
variable (r_g2 : Int → LO → X_Value → X_Plan → X_Plan → Option X_Plan) (x1 : Int) (x3 : LO) (x5 : Int × (X_Int × (X_Int × X_errorAddressString))) (x6 x7 : (List X_Step) × X_Step)
def F9.b_g8 (c36 : F36.E) (c35 : F35.E) (c37 : F37.E) (c38 : F38.E) (c39 : F39.E) (c41 : F41.E) (c40 : F40.E) (c43 : F43.E) (c45 : F45.E) (c44 : F44.E) (c42 : F42.E) (c47 : F47.E) (c48 : F48.E) (c46 : F46.E) (r_g2 : Int → LO → X_Value → X_Plan → X_Plan → Option X_Plan) (x1 : Int) (x3 : LO) (x5 : Int × (X_Int × (X_Int × X_errorAddressString))) (x6 : (List X_Step) × X_Step) (x7 : (List X_Step) × X_Step) : Option X_Plan :=
 bif (x5.1 == (2 : Int)) then
 bif (x1 == (3 : Int)) then
 (c43 x5).bind fun y9 =>
 (c41 y9).bind fun y10 =>
 (c45 (-1 : Int)).bind fun y11 =>
 (c44 (y10, y11)).bind fun y12 =>
 (c42 y12).bind fun y13 =>
 some (x7.1, y13)
 else
 r_g2 x1 x3 x5 ((List.take (List.length x6.1) x6.1), (x6.2.1, ((x6.2.2.1.1, ((x6.2.2.1.2.1.1, (List.take (List.length x6.2.2.1.2.1.2) x6.2.2.1.2.1.2)), ((x6.2.2.1.2.2.1.1, (List.take (List.length x6.2.2.1.2.2.1.2) x6.2.2.1.2.2.1.2)), x6.2.2.1.2.2.2))), (x6.2.2.2.1, (x6.2.2.2.2.1, ((x6.2.2.2.2.2.1.1, ((x6.2.2.2.2.2.1.2.1.1, (List.take (List.length x6.2.2.2.2.2.1.2.1.2) x6.2.2.2.2.2.1.2.1.2)), ((x6.2.2.2.2.2.1.2.2.1.1, (List.take (List.length x6.2.2.2.2.2.1.2.2.1.2) x6.2.2.2.2.2.1.2.2.1.2)), x6.2.2.2.2.2.1.2.2.2))), (List.take (List.length x6.2.2.2.2.2.2) x6.2.2.2.2.2.2))))))) (x7.1, (x7.2.1, ((x7.2.2.1.1, ((x7.2.2.1.2.1.1, (List.take (List.length x7.2.2.1.2.1.2) x7.2.2.1.2.1.2)), ((x7.2.2.1.2.2.1.1, (List.take (List.length x7.2.2.1.2.2.1.2) x7.2.2.1.2.2.1.2)), x7.2.2.1.2.2.2))), (x7.2.2.2.1, (x7.2.2.2.2.1, ((x7.2.2.2.2.2.1.1, ((x7.2.2.2.2.2.1.2.1.1, (List.take (List.length x7.2.2.2.2.2.1.2.1.2) x7.2.2.2.2.2.1.2.1.2)), ((x7.2.2.2.2.2.1.2.2.1.1, (List.take (List.length x7.2.2.2.2.2.1.2.2.1.2) x7.2.2.2.2.2.1.2.2.1.2)), x7.2.2.2.2.2.1.2.2.2))), (List.take (List.length x7.2.2.2.2.2.2) x7.2.2.2.2.2.2)))))))
 else
 r_g2 x1 x3 x5 ((List.take (List.length x6.1) x6.1), (x6.2.1, ((x6.2.2.1.1, ((x6.2.2.1.2.1.1, (List.take (List.length x6.2.2.1.2.1.2) x6.2.2.1.2.1.2)), ((x6.2.2.1.2.2.1.1, (List.take (List.length x6.2.2.1.2.2.1.2) x6.2.2.1.2.2.1.2)), x6.2.2.1.2.2.2))), (x6.2.2.2.1, (x6.2.2.2.2.1, ((x6.2.2.2.2.2.1.1, ((x6.2.2.2.2.2.1.2.1.1, (List.take (List.length x6.2.2.2.2.2.1.2.1.2) x6.2.2.2.2.2.1.2.1.2)), ((x6.2.2.2.2.2.1.2.2.1.1, (List.take (List.length x6.2.2.2.2.2.1.2.2.1.2) x6.2.2.2.2.2.1.2.2.1.2)), x6.2.2.2.2.2.1.2.2.2))), (List.take (List.length x6.2.2.2.2.2.2) x6.2.2.2.2.2.2))))))) (x7.1, (x7.2.1, ((x7.2.2.1.1, ((x7.2.2.1.2.1.1, (List.take (List.length x7.2.2.1.2.1.2) x7.2.2.1.2.1.2)), ((x7.2.2.1.2.2.1.1, (List.take (List.length x7.2.2.1.2.2.1.2) x7.2.2.1.2.2.1.2)), x7.2.2.1.2.2.2))), (x7.2.2.2.1, (x7.2.2.2.2.1, ((x7.2.2.2.2.2.1.1, ((x7.2.2.2.2.2.1.2.1.1, (List.take (List.length x7.2.2.2.2.2.1.2.1.2) x7.2.2.2.2.2.1.2.1.2)), ((x7.2.2.2.2.2.1.2.2.1.1, (List.take (List.length x7.2.2.2.2.2.1.2.2.1.2) x7.2.2.2.2.2.1.2.2.1.2)), x7.2.2.2.2.2.1.2.2.2))), (List.take (List.length x7.2.2.2.2.2.2) x7.2.2.2.2.2.2)))))))
def F9.c_g8 (c36 : F36.E) (c35 : F35.E) (c37 : F37.E) (c38 : F38.E) (c39 : F39.E) (c41 : F41.E) (c40 : F40.E) (c43 : F43.E) (c45 : F45.E) (c44 : F44.E) (c42 : F42.E) (c47 : F47.E) (c48 : F48.E) (c46 : F46.E) (r_g2 : Int → LO → X_Value → X_Plan → X_Plan → Option X_Plan) (x1 : Int) (x3 : LO) (x5 : Int × (X_Int × (X_Int × X_errorAddressString))) (x6 : (List X_Step) × X_Step) (x7 : (List X_Step) × X_Step) : Option X_Plan :=
 bif (x5.1 == (2 : Int)) then
 bif (x1 == (3 : Int)) then
 (c43 x5).bind fun y9 =>
 (c41 y9).bind fun y10 =>
 (c45 (-1 : Int)).bind fun y11 =>
 (c44 (y10, y11)).bind fun y12 =>
 (c42 y12).bind fun y13 =>
 some (x7.1, y13)
 else
 r_g2 x1 x3 x5 x6 x7
 else
 r_g2 x1 x3 x5 x6 x7
theorem F9.q_g8 : F9.b_g8 c36 c35 c37 c38 c39 c41 c40 c43 c45 c44 c42 c47 c48 c46 r_g2 x1 x3 x5 x6 x7 = F9.c_g8 c36 c35 c37 c38 c39 c41 c40 c43 c45 c44 c42 c47 c48 c46 r_g2 x1 x3 x5 x6 x7 := by
  simp only [F9.b_g8, F9.c_g8, qq]
def F9.g8 : Option X_Plan := gate k (F9.b_g8 c36 c35 c37 c38 c39 c41 c40 c43 c45 c44 c42 c47 c48 c46 (F9.g2 c36 c35 c37 c38 c39 c41 c40 c43 c45 c44 c42 c47 c48 c46 k) x1 x3 x5 x6 x7)
theorem F9.e_g8 : F9.M_g8 c36 c35 c37 c38 c39 c41 c40 c43 c45 c44 c42 c47 c48 c46 k (F9.fr_g8 x1 x3 x5 x6 x7) = F9.g8 c36 c35 c37 c38 c39 c41 c40 c43 c45 c44 c42 c47 c48 c46 k x1 x3 x5 x6 x7 := by
  refine Eq.trans (b := gate k (F9.b_g8 c36 c35 c37 c38 c39 c41 c40 c43 c45 c44 c42 c47 c48 c46 (fun x1 x3 x5 x6 x7 => F9.M_g2 c36 c35 c37 c38 c39 c41 c40 c43 c45 c44 c42 c47 c48 c46 k (F9.fr_g2 x1 x3 x5 x6 x7)) x1 x3 x5 x6 x7)) (by kernel_rfl) ?_
  simp only [F9.e_g2]
  rfl
end
section
variable (r_g8 : Int → LO → X_Value → X_Plan → X_Plan → Option X_Plan) (x1 : Int) (x3 : LO) (x5 : Int × (X_Int × (X_Int × X_errorAddressString))) (x6 x7 : (List X_Step) × X_Step)
def F9.b_g5 (c36 : F36.E) (c35 : F35.E) (c37 : F37.E) (c38 : F38.E) (c39 : F39.E) (c41 : F41.E) (c40 : F40.E) (c43 : F43.E) (c45 : F45.E) (c44 : F44.E) (c42 : F42.E) (c47 : F47.E) (c48 : F48.E) (c46 : F46.E) (r_g8 : Int → LO → X_Value → X_Plan → X_Plan → Option X_Plan) (x1 : Int) (x3 : LO) (x5 : Int × (X_Int × (X_Int × X_errorAddressString))) (x6 : (List X_Step) × X_Step) (x7 : (List X_Step) × X_Step) : Option X_Plan :=
 (c37 x5).bind fun y5 =>
 bif y5 then
 bif (x1 == (1 : Int)) then
 (c39 x5).bind fun y6 =>
 (c41 y6.1).bind fun y7 =>
 (c40 (y7, y6.2)).bind fun y8 =>
 some (x7.1, y8)
 else
 r_g8 x1 x3 x5 ((List.take (List.length x6.1) x6.1), (x6.2.1, ((x6.2.2.1.1, ((x6.2.2.1.2.1.1, (List.take (List.length x6.2.2.1.2.1.2) x6.2.2.1.2.1.2)), ((x6.2.2.1.2.2.1.1, (List.take (List.length x6.2.2.1.2.2.1.2) x6.2.2.1.2.2.1.2)), x6.2.2.1.2.2.2))), (x6.2.2.2.1, (x6.2.2.2.2.1, ((x6.2.2.2.2.2.1.1, ((x6.2.2.2.2.2.1.2.1.1, (List.take (List.length x6.2.2.2.2.2.1.2.1.2) x6.2.2.2.2.2.1.2.1.2)), ((x6.2.2.2.2.2.1.2.2.1.1, (List.take (List.length x6.2.2.2.2.2.1.2.2.1.2) x6.2.2.2.2.2.1.2.2.1.2)), x6.2.2.2.2.2.1.2.2.2))), (List.take (List.length x6.2.2.2.2.2.2) x6.2.2.2.2.2.2))))))) (x7.1, (x7.2.1, ((x7.2.2.1.1, ((x7.2.2.1.2.1.1, (List.take (List.length x7.2.2.1.2.1.2) x7.2.2.1.2.1.2)), ((x7.2.2.1.2.2.1.1, (List.take (List.length x7.2.2.1.2.2.1.2) x7.2.2.1.2.2.1.2)), x7.2.2.1.2.2.2))), (x7.2.2.2.1, (x7.2.2.2.2.1, ((x7.2.2.2.2.2.1.1, ((x7.2.2.2.2.2.1.2.1.1, (List.take (List.length x7.2.2.2.2.2.1.2.1.2) x7.2.2.2.2.2.1.2.1.2)), ((x7.2.2.2.2.2.1.2.2.1.1, (List.take (List.length x7.2.2.2.2.2.1.2.2.1.2) x7.2.2.2.2.2.1.2.2.1.2)), x7.2.2.2.2.2.1.2.2.2))), (List.take (List.length x7.2.2.2.2.2.2) x7.2.2.2.2.2.2)))))))
 else
 r_g8 x1 x3 x5 ((List.take (List.length x6.1) x6.1), (x6.2.1, ((x6.2.2.1.1, ((x6.2.2.1.2.1.1, (List.take (List.length x6.2.2.1.2.1.2) x6.2.2.1.2.1.2)), ((x6.2.2.1.2.2.1.1, (List.take (List.length x6.2.2.1.2.2.1.2) x6.2.2.1.2.2.1.2)), x6.2.2.1.2.2.2))), (x6.2.2.2.1, (x6.2.2.2.2.1, ((x6.2.2.2.2.2.1.1, ((x6.2.2.2.2.2.1.2.1.1, (List.take (List.length x6.2.2.2.2.2.1.2.1.2) x6.2.2.2.2.2.1.2.1.2)), ((x6.2.2.2.2.2.1.2.2.1.1, (List.take (List.length x6.2.2.2.2.2.1.2.2.1.2) x6.2.2.2.2.2.1.2.2.1.2)), x6.2.2.2.2.2.1.2.2.2))), (List.take (List.length x6.2.2.2.2.2.2) x6.2.2.2.2.2.2))))))) (x7.1, (x7.2.1, ((x7.2.2.1.1, ((x7.2.2.1.2.1.1, (List.take (List.length x7.2.2.1.2.1.2) x7.2.2.1.2.1.2)), ((x7.2.2.1.2.2.1.1, (List.take (List.length x7.2.2.1.2.2.1.2) x7.2.2.1.2.2.1.2)), x7.2.2.1.2.2.2))), (x7.2.2.2.1, (x7.2.2.2.2.1, ((x7.2.2.2.2.2.1.1, ((x7.2.2.2.2.2.1.2.1.1, (List.take (List.length x7.2.2.2.2.2.1.2.1.2) x7.2.2.2.2.2.1.2.1.2)), ((x7.2.2.2.2.2.1.2.2.1.1, (List.take (List.length x7.2.2.2.2.2.1.2.2.1.2) x7.2.2.2.2.2.1.2.2.1.2)), x7.2.2.2.2.2.1.2.2.2))), (List.take (List.length x7.2.2.2.2.2.2) x7.2.2.2.2.2.2)))))))
def F9.c_g5 (c36 : F36.E) (c35 : F35.E) (c37 : F37.E) (c38 : F38.E) (c39 : F39.E) (c41 : F41.E) (c40 : F40.E) (c43 : F43.E) (c45 : F45.E) (c44 : F44.E) (c42 : F42.E) (c47 : F47.E) (c48 : F48.E) (c46 : F46.E) (r_g8 : Int → LO → X_Value → X_Plan → X_Plan → Option X_Plan) (x1 : Int) (x3 : LO) (x5 : Int × (X_Int × (X_Int × X_errorAddressString))) (x6 : (List X_Step) × X_Step) (x7 : (List X_Step) × X_Step) : Option X_Plan :=
 (c37 x5).bind fun y5 =>
 bif y5 then
 bif (x1 == (1 : Int)) then
 (c39 x5).bind fun y6 =>
 (c41 y6.1).bind fun y7 =>
 (c40 (y7, y6.2)).bind fun y8 =>
 some (x7.1, y8)
 else
 r_g8 x1 x3 x5 x6 x7
 else
 r_g8 x1 x3 x5 x6 x7
theorem F9.q_g5 : F9.b_g5 c36 c35 c37 c38 c39 c41 c40 c43 c45 c44 c42 c47 c48 c46 r_g8 x1 x3 x5 x6 x7 = F9.c_g5 c36 c35 c37 c38 c39 c41 c40 c43 c45 c44 c42 c47 c48 c46 r_g8 x1 x3 x5 x6 x7 := by
  simp only [F9.b_g5, F9.c_g5, qq]
def F9.g5 : Option X_Plan := gate k (F9.b_g5 c36 c35 c37 c38 c39 c41 c40 c43 c45 c44 c42 c47 c48 c46 (F9.g8 c36 c35 c37 c38 c39 c41 c40 c43 c45 c44 c42 c47 c48 c46 k) x1 x3 x5 x6 x7)
theorem F9.e_g5 : F9.M_g5 c36 c35 c37 c38 c39 c41 c40 c43 c45 c44 c42 c47 c48 c46 k (F9.fr_g5 x1 x3 x5 x6 x7) = F9.g5 c36 c35 c37 c38 c39 c41 c40 c43 c45 c44 c42 c47 c48 c46 k x1 x3 x5 x6 x7 := by
  refine Eq.trans (b := gate k (F9.b_g5 c36 c35 c37 c38 c39 c41 c40 c43 c45 c44 c42 c47 c48 c46 (fun x1 x3 x5 x6 x7 => F9.M_g8 c36 c35 c37 c38 c39 c41 c40 c43 c45 c44 c42 c47 c48 c46 k (F9.fr_g8 x1 x3 x5 x6 x7)) x1 x3 x5 x6 x7)) (by kernel_rfl) ?_
  simp only [F9.e_g8]
  rfl
end
variable (r_g5 : Int → LO → X_Value → X_Plan → X_Plan → Option X_Plan) (a0 : LO) (a1 : Int) (a2 : Int × (X_Int × (X_Int × X_errorAddressString)))
def F9.b (c39 : F39.E) (c41 : F41.E) (c40 : F40.E) (c43 : F43.E) (c45 : F45.E) (c44 : F44.E) (c42 : F42.E) (c47 : F47.E) (c48 : F48.E) (c46 : F46.E) (r_g5 : Int → LO → X_Value → X_Plan → X_Plan → Option X_Plan) (a0 : LO) (a1 : Int) (a2 : Int × (X_Int × (X_Int × X_errorAddressString))) : Option X_Plan :=
 (c36 ()).bind fun y1 =>
 if 0 ≤ (IntKind.i64.wrap (a1 - (1 : Int))) ∧ (IntKind.i64.wrap (a1 - (1 : Int))) < ((List.length y1) : Int) then
 if (List.length [111, 110, 95]) + (List.length (List.getD y1 (Int.toNat (IntKind.i64.wrap (a1 - (1 : Int)))) [])) ≤ 9223372036854775807 then
 (c35 (a0, (a2, (([111, 110, 95] ++ (List.getD y1 (Int.toNat (IntKind.i64.wrap (a1 - (1 : Int)))) [])), ([] : LV))))).bind fun y2 =>
 (c37 a2).bind fun y3 =>
 bif y3 then
 bif (a1 == (2 : Int)) then
 (c38 a2).bind fun y4 =>
 some (y2, y4)
 else
 r_g5 a1 a0 a2 (([] : List X_Step), ((0 : Int), (((0 : Int), ((false, ([] : LI)), ((false, ([] : LI)), ([], (0 : Int))))), ((0 : Int), ([], (((0 : Int), ((false, ([] : LI)), ((false, ([] : LI)), ([], (0 : Int))))), ([] : LV))))))) (y2, ((0 : Int), (((0 : Int), ((false, ([] : LI)), ((false, ([] : LI)), ([], (0 : Int))))), ((0 : Int), ([], (((0 : Int), ((false, ([] : LI)), ((false, ([] : LI)), ([], (0 : Int))))), ([] : LV)))))))
 else
 r_g5 a1 a0 a2 (([] : List X_Step), ((0 : Int), (((0 : Int), ((false, ([] : LI)), ((false, ([] : LI)), ([], (0 : Int))))), ((0 : Int), ([], (((0 : Int), ((false, ([] : LI)), ((false, ([] : LI)), ([], (0 : Int))))), ([] : LV))))))) (y2, ((0 : Int), (((0 : Int), ((false, ([] : LI)), ((false, ([] : LI)), ([], (0 : Int))))), ((0 : Int), ([], (((0 : Int), ((false, ([] : LI)), ((false, ([] : LI)), ([], (0 : Int))))), ([] : LV)))))))
 else none
 else none
def F9.f : Option X_Plan := F9.b c36 c35 c37 c38 c39 c41 c40 c43 c45 c44 c42 c47 c48 c46 (F9.g5 c36 c35 c37 c38 c39 c41 c40 c43 c45 c44 c42 c47 c48 c46 k) a0 a1 a2
theorem F9.e : fn (F9.C c36 c35 c37 c38 c39 c41 c40 c43 c45 c44 c42 c47 c48 c46) k Tryz.f9 F9.A F9.R (a0, (a1, a2)) = F9.f c36 c35 c37 c38 c39 c41 c40 c43 c45 c44 c42 c47 c48 c46 k a0 a1 a2 := by
  refine Eq.trans (b := F9.b c36 c35 c37 c38 c39 c41 c40 c43 c45 c44 c42 c47 c48 c46 (fun x1 x3 x5 x6 x7 => F9.M_g5 c36 c35 c37 c38 c39 c41 c40 c43 c45 c44 c42 c47 c48 c46 k (F9.fr_g5 x1 x3 x5 x6 x7)) a0 a1 a2) (by kernel_rfl) ?_
  simp only [F9.e_g5]
  rfl
end
def F9.u (k : Nat) : F9.E := fun y => F9.f (F36.u k) (F35.u k) (F37.u k) (F38.u k) (F39.u k) (F41.u k) (F40.u k) (F43.u k) (F45.u k) (F44.u k) (F42.u k) (F47.u k) (F48.u k) (F46.u k) k y.1 y.2.1 y.2.2
theorem F9.sound (k : Nat) : Sound Tryz.prog ⟨9, F9.A, F9.R, F9.u k⟩ := sn gr Tryz.func9 (fun y => F9.e (F36.u k) (F35.u k) (F37.u k) (F38.u k) (F39.u k) (F41.u k) (F40.u k) (F43.u k) (F45.u k) (F44.u k) (F42.u k) (F47.u k) (F48.u k) (F46.u k) k y.1 y.2.1 y.2.2) (al (F36.sound k) (al (F35.sound k) (al (F37.sound k) (al (F38.sound k) (al (F39.sound k) (al (F41.sound k) (al (F40.sound k) (al (F43.sound k) (al (F45.sound k) (al (F44.sound k) (al (F42.sound k) (al (F47.sound k) (al (F48.sound k) (al (F46.sound k) al0))))))))))))))
/-! ### brindlewood/brindlewoodref7.SameStep: f29 -/
abbrev F29.A : List Sh := [(.d Y_Step), (.d Y_Step)]
abbrev F29.R : List Sh := [(.d .bool)]
abbrev F29.E : Type := (X_Step × X_Step) → Option Bool
section
variable (c14 : F14.E) (c15 : F15.E)
variable (k n : Nat)
def F29.C : Ctx := cx [⟨14, F14.A, F14.R, c14⟩, ⟨15, F15.A, F15.R, c15⟩] []
variable (a0 a1 : Int × (X_Value × (Int × (LB × (X_Value × LV)))))
def F29.b : Option Bool :=
 bif (a0.1 == a1.1) then
 bif (a0.2.2.1 == a1.2.2.1) then
 bif (a0.2.2.2.1 == a1.2.2.2.1) then
 (c14 (a0.2.1, a1.2.1)).bind fun y1 =>
 bif y1 then
 (c14 (a0.2.2.2.2.1, a1.2.2.2.2.1)).bind fun y2 =>
 bif y2 then
 (c15 (a0.2.2.2.2.2, a1.2.2.2.2.2)).bind fun y3 =>
 some y3
 else
 some false
 else
 some false
 else
 some false
 else
 some false
 else
 some false
def F29.f (k : Nat) (a0 : Int × (X_Value × (Int × (LB × (X_Value × LV))))) (a1 : Int × (X_Value × (Int × (LB × (X_Value × LV))))) : Option Bool := F29.b c14 c15 a0 a1
theorem F29.e : fn (F29.C c14 c15) k Tryz.f29 F29.A F29.R (a0, a1) = F29.f c14 c15 k a0 a1 := by
  kernel_rfl
end
def F29.u (k : Nat) : F29.E := fun y => F29.f (F14.u k) (F15.u k) k y.1 y.2
theorem F29.sound (k : Nat) : Sound Tryz.prog ⟨29, F29.A, F29.R, F29.u k⟩ := sn gr Tryz.func29 (fun y => F29.e (F14.u k) (F15.u k) k y.1 y.2) (al (F14.sound k) (al (F15.sound k) al0))
/-! ### brindlewood/brindlewoodref7.SamePlan: f7 -/
abbrev F7.A : List Sh := [(.d Y_Plan), (.d Y_Plan)]
abbrev F7.R : List Sh := [(.d .bool)]
abbrev F7.E : Type := (X_Plan × X_Plan) → Option Bool
section
variable (c29 : F29.E)
variable (k n : Nat)
def F7.C : Ctx := cx [⟨29, F29.A, F29.R, c29⟩] [(0, [.bx 2 600002 (.d Y_Plan), .bx 3 600003 (.d Y_Plan), .d 23 (.int .i64), .d 24 (.int .i64)])]
noncomputable def F7.M_l0 (s : St) : Option Bool := lpAt (F7.C c29) k n [1, 1, 0, 1, 0] [] Tryz.f7 F7.A F7.R s
noncomputable def F7.fr_l0 (x2 : (List X_Step) × X_Step) (x3 : (List X_Step) × X_Step) (x23 : Int) (x24 : Int) : St := ⟨(((((List.replicate 40 V.un).set 2 (V.bp 600002 0 [])).set 3 (V.bp 600003 0 [])).set 23 (V.dat (.int .i64) x23)).set 24 (V.dat (.int .i64) x24)), [⟨600003, 0, .box (V.dat Y_Plan x3)⟩, ⟨600002, 0, .box (V.dat Y_Plan x2)⟩]⟩
section
variable (n_l0 : X_Plan → X_Plan → Int → Int → Option Bool) (x2 x3 : (List X_Step) × X_Step) (x23 x24 : Int)
def F7.b_l0 : Option Bool :=
 bif (decide (x24 < x23)) then
 if 0 ≤ x24 ∧ x24 < ((List.length x2.1) : Int) then
 if 0 ≤ x24 ∧ x24 < ((List.length x3.1) : Int) then
 (c29 ((List.getD x2.1 (Int.toNat x24) Z_Step), (List.getD x3.1 (Int.toNat x24) Z_Step))).bind fun y2 =>
 bif (!y2) then
 some false
 else
 n_l0 x2 x3 x23 (IntKind.i64.wrap (x24 + (1 : Int)))
 else none
 else none
 else
 some true
def F7.l0 (k : Nat) : Nat → X_Plan → X_Plan → Int → Int → Option Bool
  | 0, _, _, _, _ => none
  | n + 1, x2, x3, x23, x24 => F7.b_l0 c29 (fun x2 x3 x23 x24 => F7.l0 k n x2 x3 x23 x24) x2 x3 x23 x24
theorem F7.e_l0 : F7.M_l0 c29 k n (F7.fr_l0 x2 x3 x23 x24) = F7.l0 c29 k n x2 x3 x23 x24 := by
  induction n generalizing x2 x3 x23 x24 with
  | zero => exact lpAt0
  | succ n ih =>
    refine Eq.trans (b := F7.b_l0 c29 (fun x2 x3 x23 x24 => F7.M_l0 c29 k n (F7.fr_l0 x2 x3 x23 x24)) x2 x3 x23 x24) (by kernel_rfl) ?_
    simp only [ih]
    rfl
end
variable (r_l0 : X_Plan → X_Plan → Int → Int → Option Bool) (a0 a1 : (List X_Step) × X_Step)
def F7.b : Option Bool :=
 bif (((List.length a0.1) : Int) != ((List.length a1.1) : Int)) then
 some false
 else
 (c29 (a0.2, a1.2)).bind fun y1 =>
 bif (!y1) then
 some false
 else
 r_l0 a0 a1 ((List.length a0.1) : Int) (0 : Int)
def F7.f : Option Bool := F7.b c29 (F7.l0 c29 k k) a0 a1
theorem F7.e : fn (F7.C c29) k Tryz.f7 F7.A F7.R (a0, a1) = F7.f c29 k a0 a1 := by
  refine Eq.trans (b := F7.b c29 (fun x2 x3 x23 x24 => F7.M_l0 c29 k k (F7.fr_l0 x2 x3 x23 x24)) a0 a1) (by kernel_rfl) ?_
  simp only [F7.e_l0]
  rfl
end
def F7.u (k : Nat) : F7.E := fun y => F7.f (F29.u k) k y.1 y.2
theorem F7.sound (k : Nat) : Sound Tryz.prog ⟨7, F7.A, F7.R, F7.u k⟩ := sn gr Tryz.func7 (fun y => F7.e (F29.u k) k y.1 y.2) (al (F29.sound k) al0)
/-! ### brindlewood/brindlewoodref7.SameHeap: f10 -/
abbrev F10.A : List Sh := [(.d Y_Heap), (.d Y_Heap)]
abbrev F10.R : List Sh := [(.d .bool)]
abbrev F10.E : Type := (LO × LO) → Option Bool
section
variable (c49 : F49.E)
variable (k n : Nat)
def F10.C : Ctx := cx [⟨49, F49.A, F49.R, c49⟩] [(0, [.bx 2 600002 (.d Y_Heap), .bx 3 600003 (.d Y_Heap), .d 15 (.int .i64), .d 16 (.int .i64)])]
noncomputable def F10.M_l0 (s : St) : Option Bool := lpAt (F10.C c49) k n [1, 1, 0, 1, 0] [] Tryz.f10 F10.A F10.R s
noncomputable def F10.fr_l0 (x2 : LO) (x3 : LO) (x15 : Int) (x16 : Int) : St := ⟨(((((List.replicate 32 V.un).set 2 (V.bp 600002 0 [])).set 3 (V.bp 600003 0 [])).set 15 (V.dat (.int .i64) x15)).set 16 (V.dat (.int .i64) x16)), [⟨600003, 0, .box (V.dat Y_Heap x3)⟩, ⟨600002, 0, .box (V.dat Y_Heap x2)⟩]⟩
section
variable (n_l0 : LO → LO → Int → Int → Option Bool) (x2 x3 : LO) (x15 x16 : Int)
def F10.b_l0 : Option Bool :=
 bif (decide (x16 < x15)) then
 if 0 ≤ x16 ∧ x16 < ((List.length x2) : Int) then
 if 0 ≤ x16 ∧ x16 < ((List.length x3) : Int) then
 (c49 ((List.getD x2 (Int.toNat x16) Z_Object), (List.getD x3 (Int.toNat x16) Z_Object))).bind fun y1 =>
 bif (!y1) then
 some false
 else
 n_l0 x2 x3 x15 (IntKind.i64.wrap (x16 + (1 : Int)))
 else none
 else none
 else
 some true
def F10.l0 (k : Nat) : Nat → LO → LO → Int → Int → Option Bool
  | 0, _, _, _, _ => none
  | n + 1, x2, x3, x15, x16 => F10.b_l0 c49 (fun x2 x3 x15 x16 => F10.l0 k n x2 x3 x15 x16) x2 x3 x15 x16
theorem F10.e_l0 : F10.M_l0 c49 k n (F10.fr_l0 x2 x3 x15 x16) = F10.l0 c49 k n x2 x3 x15 x16 := by
  induction n generalizing x2 x3 x15 x16 with
  | zero => exact lpAt0
  | succ n ih =>
    refine Eq.trans (b := F10.b_l0 c49 (fun x2 x3 x15 x16 => F10.M_l0 c49 k n (F10.fr_l0 x2 x3 x15 x16)) x2 x3 x15 x16) (by kernel_rfl) ?_
    simp only [ih]
    rfl
end
variable (r_l0 : LO → LO → Int → Int → Option Bool) (a0 a1 : LO)
def F10.b (c49 : F49.E) (r_l0 : LO → LO → Int → Int → Option Bool) (a0 : LO) (a1 : LO) : Option Bool :=
 bif (((List.length a0) : Int) != ((List.length a1) : Int)) then
 some false
 else
 r_l0 a0 a1 ((List.length a0) : Int) (0 : Int)
def F10.f : Option Bool := F10.b c49 (F10.l0 c49 k k) a0 a1
theorem F10.e : fn (F10.C c49) k Tryz.f10 F10.A F10.R (a0, a1) = F10.f c49 k a0 a1 := by
  refine Eq.trans (b := F10.b c49 (fun x2 x3 x15 x16 => F10.M_l0 c49 k k (F10.fr_l0 x2 x3 x15 x16)) a0 a1) (by kernel_rfl) ?_
  simp only [F10.e_l0]
  rfl
end
def F10.u (k : Nat) : F10.E := fun y => F10.f (F49.u k) k y.1 y.2
theorem F10.sound (k : Nat) : Sound Tryz.prog ⟨10, F10.A, F10.R, F10.u k⟩ := sn gr Tryz.func10 (fun y => F10.e (F49.u k) k y.1 y.2) (al (F49.sound k) al0)
/-! ### brindlewood/brindlewoodlaw7.OperatorsUnaryMatchesSpec: f3 -/
abbrev F3.A : List Sh := [(.d Y_Heap), (.d (.int .i64)), (.d Y_Value)]
abbrev F3.R : List Sh := [(.d .bool)]
abbrev F3.E : Type := (LO × (Int × X_Value)) → Option Bool
section
variable (c5 : F5.E) (c6 : F6.E) (c8 : F8.E) (c9 : F9.E) (c7 : F7.E) (c10 : F10.E)
variable (k n : Nat)
def F3.C : Ctx := cx [⟨5, F5.A, F5.R, c5⟩, ⟨6, F6.A, F6.R, c6⟩, ⟨8, F8.A, F8.R, c8⟩, ⟨9, F9.A, F9.R, c9⟩, ⟨7, F7.A, F7.R, c7⟩, ⟨10, F10.A, F10.R, c10⟩] []
variable (a0 : LO) (a1 : Int) (a2 : Int × (X_Int × (X_Int × X_errorAddressString)))
def F3.b : Option Bool :=
 (c5 (a0, (List.take 1 ([a2] : LV)))).bind fun y1 =>
 bif (!y1) then
 some true
 else
 bif (decide (a1 < (1 : Int))) then
 some true
 else
 bif (decide (a1 > (3 : Int))) then
 some true
 else
 (c6 a0).bind fun y2 =>
 (c8 (y2, (a1, a2))).bind fun y3 =>
 (c9 (a0, (a1, a2))).bind fun y4 =>
 (c7 (y3, y4)).bind fun y5 =>
 bif y5 then
 (c10 (y2, a0)).bind fun y6 =>
 some y6
 else
 some false
def F3.c : Option Bool :=
 (c5 (a0, ([a2] : LV))).bind fun y1 =>
 bif !y1 then
 some true
 else
 bif (decide (a1 < (1 : Int))) then
 some true
 else
 bif (decide (a1 > (3 : Int))) then
 some true
 else
 (c6 a0).bind fun y2 =>
 (c8 (y2, (a1, a2))).bind fun y3 =>
 (c9 (a0, (a1, a2))).bind fun y4 =>
 (c7 (y3, y4)).bind fun y5 =>
 bif y5 then
 (c10 (y2, a0)).bind fun y6 =>
 some y6
 else
 some false
theorem F3.q : F3.b c5 c6 c8 c9 c7 c10 a0 a1 a2 = F3.c c5 c6 c8 c9 c7 c10 a0 a1 a2 := by
  simp only [F3.b, F3.c, qq]
def F3.f (k : Nat) (a0 : LO) (a1 : Int) (a2 : Int × (X_Int × (X_Int × X_errorAddressString))) : Option Bool := F3.b c5 c6 c8 c9 c7 c10 a0 a1 a2
theorem F3.e : fn (F3.C c5 c6 c8 c9 c7 c10) k Tryz.f3 F3.A F3.R (a0, (a1, a2)) = F3.f c5 c6 c8 c9 c7 c10 k a0 a1 a2 := by
  kernel_rfl
end
def F3.u (k : Nat) : F3.E := fun y => F3.f (F5.u k) (F6.u k) (F8.u k) (F9.u k) (F7.u k) (F10.u k) k y.1 y.2.1 y.2.2
theorem F3.sound (k : Nat) : Sound Tryz.prog ⟨3, F3.A, F3.R, F3.u k⟩ := sn gr Tryz.func3 (fun y => F3.e (F5.u k) (F6.u k) (F8.u k) (F9.u k) (F7.u k) (F10.u k) k y.1 y.2.1 y.2.2) (al (F5.sound k) (al (F6.sound k) (al (F8.sound k) (al (F9.sound k) (al (F7.sound k) (al (F10.sound k) al0))))))
end
end Go.Ab
