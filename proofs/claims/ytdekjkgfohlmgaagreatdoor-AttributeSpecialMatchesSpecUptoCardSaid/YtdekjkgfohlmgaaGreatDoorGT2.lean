/- A part of the proof: GT2. -/
import Derived.Test.YtdekjkgfohlmgaaGreatDoorFLs
import Derived.Test.YtdekjkgfohlmgaaGreatDoorGT1
import Derived.Test.YtdekjkgfohlmgaaGreatDoorHLib
namespace Go.Ab
set_option linter.unusedVariables false
set_option linter.unusedSimpArgs false
set_option maxRecDepth 100000
noncomputable section
open Go.Proofs
/-! ### brindlewood/brindlewoodref7.ValueOk: f79 -/
abbrev F79.A : List Sh := [(.d Y_Value)]
abbrev F79.R : List Sh := [(.d .bool)]
abbrev F79.E : Type := X_Value → Option Bool
section
variable (c58 : F58.E) (c121 : F121.E) (c122 : F122.E) (c123 : F123.E) (c111 : F111.E)
variable (k n : Nat)
def F79.C : Ctx := cx [⟨58, F58.A, F58.R, c58⟩, ⟨121, F121.A, F121.R, c121⟩, ⟨122, F122.A, F122.R, c122⟩, ⟨123, F123.A, F123.R, c123⟩, ⟨111, F111.A, F111.R, c111⟩] [(100005, [.bx 1 600001 (.d Y_Value), .d 3 .bool, .d 4 .bool]), (100007, [.bx 1 600001 (.d Y_Value), .d 3 .bool, .d 4 .bool]), (100009, [.bx 1 600001 (.d Y_Value), .d 4 .bool]), (100011, [.bx 1 600001 (.d Y_Value)]), (100012, [.bx 1 600001 (.d Y_Value), .d 5 .bool]), (100014, [.bx 1 600001 (.d Y_Value), .d 3 .bool, .d 4 .bool]), (100016, [.bx 1 600001 (.d Y_Value), .d 3 .bool, .d 4 .bool]), (100018, [.bx 1 600001 (.d Y_Value), .d 3 .bool, .d 4 .bool]), (100020, [.bx 1 600001 (.d Y_Value), .d 3 .bool, .d 4 .bool])]
noncomputable def F79.M_g5 (s : St) : Option Bool := gtAt (F79.C c58 c121 c122 c123 c111) k [1, 1, 0, 1, 0, 1, 0, 0] [] Tryz.f79 F79.A F79.R s
noncomputable def F79.fr_g5 (x1 : Int × (X_Int × (X_Int × X_errorAddressString))) (x3 : Bool) (x4 : Bool) : St := ⟨((((List.replicate 169 V.un).set 1 (V.bp 600001 0 [])).set 3 (V.dat .bool x3)).set 4 (V.dat .bool x4)), [⟨600001, 0, .box (V.dat Y_Value x1)⟩]⟩
noncomputable def F79.M_g7 (s : St) : Option Bool := gtAt (F79.C c58 c121 c122 c123 c111) k [1, 1, 0, 1, 0, 1, 1, 1, 0, 0] [] Tryz.f79 F79.A F79.R s
noncomputable def F79.fr_g7 (x1 : Int × (X_Int × (X_Int × X_errorAddressString))) (x3 : Bool) (x4 : Bool) : St := ⟨((((List.replicate 169 V.un).set 1 (V.bp 600001 0 [])).set 3 (V.dat .bool x3)).set 4 (V.dat .bool x4)), [⟨600001, 0, .box (V.dat Y_Value x1)⟩]⟩
noncomputable def F79.M_g9 (s : St) : Option Bool := gtAt (F79.C c58 c121 c122 c123 c111) k [1, 1, 0, 1, 0, 1, 1, 1, 1, 1, 0, 0] [] Tryz.f79 F79.A F79.R s
noncomputable def F79.fr_g9 (x1 : Int × (X_Int × (X_Int × X_errorAddressString))) (x4 : Bool) : St := ⟨(((List.replicate 169 V.un).set 1 (V.bp 600001 0 [])).set 4 (V.dat .bool x4)), [⟨600001, 0, .box (V.dat Y_Value x1)⟩]⟩
noncomputable def F79.M_g11 (s : St) : Option Bool := gtAt (F79.C c58 c121 c122 c123 c111) k [1, 1, 0, 1, 0, 1, 1, 1, 1, 1, 1, 1, 0, 0] [] Tryz.f79 F79.A F79.R s
noncomputable def F79.fr_g11 (x1 : Int × (X_Int × (X_Int × X_errorAddressString))) : St := ⟨((List.replicate 169 V.un).set 1 (V.bp 600001 0 [])), [⟨600001, 0, .box (V.dat Y_Value x1)⟩]⟩
noncomputable def F79.M_g12 (s : St) : Option Bool := gtAt (F79.C c58 c121 c122 c123 c111) k [1, 1, 0, 1, 0, 1, 1, 1, 1, 1, 1, 1, 0, 1, 0] [] Tryz.f79 F79.A F79.R s
noncomputable def F79.fr_g12 (x1 : Int × (X_Int × (X_Int × X_errorAddressString))) (x5 : Bool) : St := ⟨(((List.replicate 169 V.un).set 1 (V.bp 600001 0 [])).set 5 (V.dat .bool x5)), [⟨600001, 0, .box (V.dat Y_Value x1)⟩]⟩
noncomputable def F79.M_g14 (s : St) : Option Bool := gtAt (F79.C c58 c121 c122 c123 c111) k [1, 1, 0, 1, 0, 1, 1, 1, 1, 1, 1, 1, 1, 1, 0, 0] [] Tryz.f79 F79.A F79.R s
noncomputable def F79.fr_g14 (x1 : Int × (X_Int × (X_Int × X_errorAddressString))) (x3 : Bool) (x4 : Bool) : St := ⟨((((List.replicate 169 V.un).set 1 (V.bp 600001 0 [])).set 3 (V.dat .bool x3)).set 4 (V.dat .bool x4)), [⟨600001, 0, .box (V.dat Y_Value x1)⟩]⟩
noncomputable def F79.M_g16 (s : St) : Option Bool := gtAt (F79.C c58 c121 c122 c123 c111) k [1, 1, 0, 1, 0, 1, 1, 1, 1, 1, 1, 1, 1, 1, 1, 1, 0, 0] [] Tryz.f79 F79.A F79.R s
noncomputable def F79.fr_g16 (x1 : Int × (X_Int × (X_Int × X_errorAddressString))) (x3 : Bool) (x4 : Bool) : St := ⟨((((List.replicate 169 V.un).set 1 (V.bp 600001 0 [])).set 3 (V.dat .bool x3)).set 4 (V.dat .bool x4)), [⟨600001, 0, .box (V.dat Y_Value x1)⟩]⟩
noncomputable def F79.M_g18 (s : St) : Option Bool := gtAt (F79.C c58 c121 c122 c123 c111) k [1, 1, 0, 1, 0, 1, 1, 1, 1, 1, 1, 1, 1, 1, 1, 1, 1, 1, 0, 0] [] Tryz.f79 F79.A F79.R s
noncomputable def F79.fr_g18 (x1 : Int × (X_Int × (X_Int × X_errorAddressString))) (x3 : Bool) (x4 : Bool) : St := ⟨((((List.replicate 169 V.un).set 1 (V.bp 600001 0 [])).set 3 (V.dat .bool x3)).set 4 (V.dat .bool x4)), [⟨600001, 0, .box (V.dat Y_Value x1)⟩]⟩
noncomputable def F79.M_g20 (s : St) : Option Bool := gtAt (F79.C c58 c121 c122 c123 c111) k [1, 1, 0, 1, 0, 1, 1, 1, 1, 1, 1, 1, 1, 1, 1, 1, 1, 1, 1, 1, 0, 0] [] Tryz.f79 F79.A F79.R s
noncomputable def F79.fr_g20 (x1 : Int × (X_Int × (X_Int × X_errorAddressString))) (x3 : Bool) (x4 : Bool) : St := ⟨((((List.replicate 169 V.un).set 1 (V.bp 600001 0 [])).set 3 (V.dat .bool x3)).set 4 (V.dat .bool x4)), [⟨600001, 0, .box (V.dat Y_Value x1)⟩]⟩
section
variable (x1 : Int × (X_Int × (X_Int × X_errorAddressString))) (x3 x4 : Bool)
def F79.b_g5 (c58 : F58.E) (c121 : F121.E) (c122 : F122.E) (c123 : F123.E) (c111 : F111.E) (x1 : Int × (X_Int × (X_Int × X_errorAddressString))) (x3 : Bool) (x4 : Bool) : Option Bool :=
 bif x3 then
 bif x4 then
 bif (x1.2.2.2.1 == []) then
 some (x1.2.2.2.2 == (0 : Int))
 else
 some false
 else
 some false
 else
 some false
def F79.g5 : Option Bool := gate k (F79.b_g5 c58 c121 c122 c123 c111 x1 x3 x4)
theorem F79.e_g5 : F79.M_g5 c58 c121 c122 c123 c111 k (F79.fr_g5 x1 x3 x4) = F79.g5 c58 c121 c122 c123 c111 k x1 x3 x4 := by
  kernel_rfl
end
section
variable (x1 : Int × (X_Int × (X_Int × X_errorAddressString))) (x3 x4 : Bool)
def F79.b_g7 (c58 : F58.E) (c121 : F121.E) (c122 : F122.E) (c123 : F123.E) (c111 : F111.E) (x1 : Int × (X_Int × (X_Int × X_errorAddressString))) (x3 : Bool) (x4 : Bool) : Option Bool :=
 bif x3 then
 bif x4 then
 bif (x1.2.2.2.1 == []) then
 some ((Int.fdiv x1.2.2.2.2 (2 ^ min (Int.toNat (1 : Int)) IntKind.i64.bits)) == (0 : Int))
 else
 some false
 else
 some false
 else
 some false
def F79.g7 : Option Bool := gate k (F79.b_g7 c58 c121 c122 c123 c111 x1 x3 x4)
theorem F79.e_g7 : F79.M_g7 c58 c121 c122 c123 c111 k (F79.fr_g7 x1 x3 x4) = F79.g7 c58 c121 c122 c123 c111 k x1 x3 x4 := by
  kernel_rfl
end
section
variable (x1 : Int × (X_Int × (X_Int × X_errorAddressString))) (x4 : Bool)
def F79.b_g9 (c58 : F58.E) (c121 : F121.E) (c122 : F122.E) (c123 : F123.E) (c111 : F111.E) (x1 : Int × (X_Int × (X_Int × X_errorAddressString))) (x4 : Bool) : Option Bool :=
 (c121 x1.2.1).bind fun y3 =>
 bif y3 then
 bif x4 then
 bif (x1.2.2.2.1 == []) then
 some (x1.2.2.2.2 == (0 : Int))
 else
 some false
 else
 some false
 else
 some false
def F79.g9 : Option Bool := gate k (F79.b_g9 c58 c121 c122 c123 c111 x1 x4)
theorem F79.e_g9 : F79.M_g9 c58 c121 c122 c123 c111 k (F79.fr_g9 x1 x4) = F79.g9 c58 c121 c122 c123 c111 k x1 x4 := by
  kernel_rfl
end
section
variable (x1 : Int × (X_Int × (X_Int × X_errorAddressString))) (x5 : Bool)
def F79.b_g12 (c58 : F58.E) (c121 : F121.E) (c122 : F122.E) (c123 : F123.E) (c111 : F111.E) (x1 : Int × (X_Int × (X_Int × X_errorAddressString))) (x5 : Bool) : Option Bool :=
 (c122 (x1.2.1, x1.2.2.1)).bind fun y4 =>
 bif y4 then
 bif (!x5) then
 bif (x1.2.2.2.1 == []) then
 some (x1.2.2.2.2 == (0 : Int))
 else
 some false
 else
 some false
 else
 some false
def F79.g12 : Option Bool := gate k (F79.b_g12 c58 c121 c122 c123 c111 x1 x5)
theorem F79.e_g12 : F79.M_g12 c58 c121 c122 c123 c111 k (F79.fr_g12 x1 x5) = F79.g12 c58 c121 c122 c123 c111 k x1 x5 := by
  kernel_rfl
end
section
variable (r_g12 : X_Value → Bool → Option Bool) (x1 : Int × (X_Int × (X_Int × X_errorAddressString)))
def F79.b_g11 (c58 : F58.E) (c121 : F121.E) (c122 : F122.E) (c123 : F123.E) (c111 : F111.E) (r_g12 : X_Value → Bool → Option Bool) (x1 : Int × (X_Int × (X_Int × X_errorAddressString))) : Option Bool :=
 bif (((List.length x1.2.2.1.2) : Int) == (1 : Int)) then
 if 0 ≤ (0 : Int) ∧ (0 : Int) < ((List.length x1.2.2.1.2) : Int) then
 r_g12 x1 ((List.getD x1.2.2.1.2 (Int.toNat (0 : Int)) (0 : Int)) == (1 : Int))
 else none
 else
 r_g12 x1 false
def F79.c_g11 (c58 : F58.E) (c121 : F121.E) (c122 : F122.E) (c123 : F123.E) (c111 : F111.E) (r_g12 : X_Value → Bool → Option Bool) (x1 : Int × (X_Int × (X_Int × X_errorAddressString))) : Option Bool :=
 bif (((List.length x1.2.2.1.2) : Int) == (1 : Int)) then
 if (0 : Int) < ((List.length x1.2.2.1.2) : Int) then
 r_g12 x1 ((List.getD x1.2.2.1.2 0 (0 : Int)) == (1 : Int))
 else none
 else
 r_g12 x1 false
theorem F79.q_g11 : F79.b_g11 c58 c121 c122 c123 c111 r_g12 x1 = F79.c_g11 c58 c121 c122 c123 c111 r_g12 x1 := by
  simp only [F79.b_g11, F79.c_g11, qq]
def F79.g11 : Option Bool := gate k (F79.b_g11 c58 c121 c122 c123 c111 (F79.g12 c58 c121 c122 c123 c111 k) x1)
theorem F79.e_g11 : F79.M_g11 c58 c121 c122 c123 c111 k (F79.fr_g11 x1) = F79.g11 c58 c121 c122 c123 c111 k x1 := by
  refine Eq.trans (b := gate k (F79.b_g11 c58 c121 c122 c123 c111 (fun x1 x5 => F79.M_g12 c58 c121 c122 c123 c111 k (F79.fr_g12 x1 x5)) x1)) (by kernel_rfl) ?_
  simp only [F79.e_g12]
  rfl
end
section
variable (x1 : Int × (X_Int × (X_Int × X_errorAddressString))) (x3 x4 : Bool)
def F79.b_g14 (c58 : F58.E) (c121 : F121.E) (c122 : F122.E) (c123 : F123.E) (c111 : F111.E) (x1 : Int × (X_Int × (X_Int × X_errorAddressString))) (x3 : Bool) (x4 : Bool) : Option Bool :=
 bif x3 then
 bif x4 then
 bif (x1.2.2.2.2 == (0 : Int)) then
 (c123 x1.2.2.2.1).bind fun y5 =>
 bif y5 then
 some (decide (((List.length x1.2.2.2.1) : Int) ≤ (4000 : Int)))
 else
 some false
 else
 some false
 else
 some false
 else
 some false
def F79.g14 : Option Bool := gate k (F79.b_g14 c58 c121 c122 c123 c111 x1 x3 x4)
theorem F79.e_g14 : F79.M_g14 c58 c121 c122 c123 c111 k (F79.fr_g14 x1 x3 x4) = F79.g14 c58 c121 c122 c123 c111 k x1 x3 x4 := by
  kernel_rfl
end
section
variable (x1 : Int × (X_Int × (X_Int × X_errorAddressString))) (x3 x4 : Bool)
def F79.b_g16 (c58 : F58.E) (c121 : F121.E) (c122 : F122.E) (c123 : F123.E) (c111 : F111.E) (x1 : Int × (X_Int × (X_Int × X_errorAddressString))) (x3 : Bool) (x4 : Bool) : Option Bool :=
 bif x3 then
 bif x4 then
 bif (x1.2.2.2.2 == (0 : Int)) then
 some (decide (((List.length x1.2.2.2.1) : Int) ≤ (4000 : Int)))
 else
 some false
 else
 some false
 else
 some false
def F79.g16 : Option Bool := gate k (F79.b_g16 c58 c121 c122 c123 c111 x1 x3 x4)
theorem F79.e_g16 : F79.M_g16 c58 c121 c122 c123 c111 k (F79.fr_g16 x1 x3 x4) = F79.g16 c58 c121 c122 c123 c111 k x1 x3 x4 := by
  kernel_rfl
end
section
variable (x1 : Int × (X_Int × (X_Int × X_errorAddressString))) (x3 x4 : Bool)
def F79.b_g18 (c58 : F58.E) (c121 : F121.E) (c122 : F122.E) (c123 : F123.E) (c111 : F111.E) (x1 : Int × (X_Int × (X_Int × X_errorAddressString))) (x3 : Bool) (x4 : Bool) : Option Bool :=
 bif x3 then
 bif x4 then
 bif (x1.2.2.2.2 == (0 : Int)) then
 (c111 x1.2.2.2.1).bind fun y6 =>
 some y6
 else
 some false
 else
 some false
 else
 some false
def F79.g18 : Option Bool := gate k (F79.b_g18 c58 c121 c122 c123 c111 x1 x3 x4)
theorem F79.e_g18 : F79.M_g18 c58 c121 c122 c123 c111 k (F79.fr_g18 x1 x3 x4) = F79.g18 c58 c121 c122 c123 c111 k x1 x3 x4 := by
  kernel_rfl
end
section
variable (x1 : Int × (X_Int × (X_Int × X_errorAddressString))) (x3 x4 : Bool)
def F79.b_g20 (c58 : F58.E) (c121 : F121.E) (c122 : F122.E) (c123 : F123.E) (c111 : F111.E) (x1 : Int × (X_Int × (X_Int × X_errorAddressString))) (x3 : Bool) (x4 : Bool) : Option Bool :=
 bif x3 then
 bif x4 then
 some (x1.2.2.2.1 == [])
 else
 some false
 else
 some false
def F79.g20 : Option Bool := gate k (F79.b_g20 c58 c121 c122 c123 c111 x1 x3 x4)
theorem F79.e_g20 : F79.M_g20 c58 c121 c122 c123 c111 k (F79.fr_g20 x1 x3 x4) = F79.g20 c58 c121 c122 c123 c111 k x1 x3 x4 := by
  kernel_rfl
end
variable (r_g5 r_g7 : X_Value → Bool → Bool → Option Bool) (r_g9 : X_Value → Bool → Option Bool) (r_g11 : X_Value → Option Bool) (r_g14 r_g16 r_g18 r_g20 : X_Value → Bool → Bool → Option Bool) (a0 : Int × (X_Int × (X_Int × X_errorAddressString)))
def F79.b (c121 : F121.E) (c122 : F122.E) (c123 : F123.E) (c111 : F111.E) (r_g5 : X_Value → Bool → Bool → Option Bool) (r_g7 : X_Value → Bool → Bool → Option Bool) (r_g9 : X_Value → Bool → Option Bool) (r_g11 : X_Value → Option Bool) (r_g14 : X_Value → Bool → Bool → Option Bool) (r_g16 : X_Value → Bool → Bool → Option Bool) (r_g18 : X_Value → Bool → Bool → Option Bool) (r_g20 : X_Value → Bool → Bool → Option Bool) (a0 : Int × (X_Int × (X_Int × X_errorAddressString))) : Option Bool :=
 (c58 (a0.2.1, (false, ([] : LI)))).bind fun y1 =>
 (c58 (a0.2.2.1, (false, ([] : LI)))).bind fun y2 =>
 bif (a0.1 == (0 : Int)) then
 bif (a0.1 == (0 : Int)) then
 r_g5 a0 y1 y2
 else
 bif (a0.1 == (1 : Int)) then
 r_g7 a0 y1 y2
 else
 bif (a0.1 == (2 : Int)) then
 r_g9 a0 y2
 else
 bif (a0.1 == (3 : Int)) then
 r_g11 a0
 else
 bif (a0.1 == (4 : Int)) then
 r_g14 a0 y1 y2
 else
 bif (a0.1 == (5 : Int)) then
 r_g16 a0 y1 y2
 else
 bif (a0.1 == (7 : Int)) then
 r_g18 a0 y1 y2
 else
 bif (a0.1 == (6 : Int)) then
 r_g20 a0 y1 y2
 else
 some false
 else
 bif (a0.1 == (8 : Int)) then
 r_g5 a0 y1 y2
 else
 bif (a0.1 == (1 : Int)) then
 r_g7 a0 y1 y2
 else
 bif (a0.1 == (2 : Int)) then
 r_g9 a0 y2
 else
 bif (a0.1 == (3 : Int)) then
 r_g11 a0
 else
 bif (a0.1 == (4 : Int)) then
 r_g14 a0 y1 y2
 else
 bif (a0.1 == (5 : Int)) then
 r_g16 a0 y1 y2
 else
 bif (a0.1 == (7 : Int)) then
 r_g18 a0 y1 y2
 else
 bif (a0.1 == (6 : Int)) then
 r_g20 a0 y1 y2
 else
 some false
def F79.f : Option Bool := F79.b c58 c121 c122 c123 c111 (F79.g5 c58 c121 c122 c123 c111 k) (F79.g7 c58 c121 c122 c123 c111 k) (F79.g9 c58 c121 c122 c123 c111 k) (F79.g11 c58 c121 c122 c123 c111 k) (F79.g14 c58 c121 c122 c123 c111 k) (F79.g16 c58 c121 c122 c123 c111 k) (F79.g18 c58 c121 c122 c123 c111 k) (F79.g20 c58 c121 c122 c123 c111 k) a0
theorem F79.e : fn (F79.C c58 c121 c122 c123 c111) k Tryz.f79 F79.A F79.R a0 = F79.f c58 c121 c122 c123 c111 k a0 := by
  refine Eq.trans (b := F79.b c58 c121 c122 c123 c111 (fun x1 x3 x4 => F79.M_g5 c58 c121 c122 c123 c111 k (F79.fr_g5 x1 x3 x4)) (fun x1 x3 x4 => F79.M_g7 c58 c121 c122 c123 c111 k (F79.fr_g7 x1 x3 x4)) (fun x1 x4 => F79.M_g9 c58 c121 c122 c123 c111 k (F79.fr_g9 x1 x4)) (fun x1 => F79.M_g11 c58 c121 c122 c123 c111 k (F79.fr_g11 x1)) (fun x1 x3 x4 => F79.M_g14 c58 c121 c122 c123 c111 k (F79.fr_g14 x1 x3 x4)) (fun x1 x3 x4 => F79.M_g16 c58 c121 c122 c123 c111 k (F79.fr_g16 x1 x3 x4)) (fun x1 x3 x4 => F79.M_g18 c58 c121 c122 c123 c111 k (F79.fr_g18 x1 x3 x4)) (fun x1 x3 x4 => F79.M_g20 c58 c121 c122 c123 c111 k (F79.fr_g20 x1 x3 x4)) a0) (by kernel_rfl) ?_
  simp only [F79.e_g11, F79.e_g14, F79.e_g16, F79.e_g18, F79.e_g20, F79.e_g5, F79.e_g7, F79.e_g9]
  rfl
end
def F79.u (k : Nat) : F79.E := fun y => F79.f (F58.u k) (F121.u k) (F122.u k) (F123.u k) (F111.u k) k y
theorem F79.sound (k : Nat) : Sound Tryz.prog ⟨79, F79.A, F79.R, F79.u k⟩ := sn gr Tryz.func79 (fun y => F79.e (F58.u k) (F121.u k) (F122.u k) (F123.u k) (F111.u k) k y) (al (F58.sound k) (al (F121.sound k) (al (F122.sound k) (al (F123.sound k) (al (F111.sound k) al0)))))
/-! ### brindlewood/brindlewoodref7.IsObject: f21 -/
abbrev F21.A : List Sh := [(.d Y_Heap), (.d (.int .i64))]
abbrev F21.R : List Sh := [(.d .bool)]
abbrev F21.E : Type := (LO × Int) → Option Bool
section
variable (k n : Nat)
def F21.C : Ctx := cx [] []
variable (a0 : LO) (a1 : Int)
def F21.b : Option Bool :=
 bif (decide (a1 ≥ (0 : Int))) then
 bif (decide (a1 < ((List.length a0) : Int))) then
 if 0 ≤ a1 ∧ a1 < ((List.length a0) : Int) then
 some (((List.getD a0 (Int.toNat a1) Z_Object).1) != (0 : Int))
 else none
 else
 some false
 else
 some false
def F21.f (k : Nat) (a0 : LO) (a1 : Int) : Option Bool := F21.b a0 a1
theorem F21.e : fn F21.C k Tryz.f21 F21.A F21.R (a0, a1) = F21.f k a0 a1 := by
  kernel_rfl
end
def F21.u (k : Nat) : F21.E := fun y => F21.f k y.1 y.2
theorem F21.sound (k : Nat) : Sound Tryz.prog ⟨21, F21.A, F21.R, F21.u k⟩ := sn gr Tryz.func21 (fun y => F21.e k y.1 y.2) al0
/-! ### brindlewood/brindlewoodref7.values: f74 -/
abbrev F74.A : List Sh := [(.d Y_Heap), (.d (.int .i64))]
abbrev F74.R : List Sh := [(.d (.int .i64))]
abbrev F74.E : Type := (LO × Int) → Option Int
section
variable (c78 : F78.E) (c79 : F79.E) (c21 : F21.E)
variable (k n : Nat)
def F74.C : Ctx := cx [⟨78, F78.A, F78.R, c78⟩, ⟨79, F79.A, F79.R, c79⟩, ⟨21, F21.A, F21.R, c21⟩] [(0, [.bx 2 600002 (.d Y_Heap), .bx 5 600005 (.d Y_Object), .o 6 500006 29 Y_Value, .al 25 6, .d 26 (.int .i64), .d 27 (.int .i64)]), (2, [.bx 2 600002 (.d Y_Heap), .bx 5 600005 (.d Y_Object), .o 9 500009 3 (.int .i64), .o 58 500058 29 Y_Value, .d 59 (.int .i64), .d 60 (.int .i64)]), (4, [.bx 2 600002 (.d Y_Heap), .o 87 500087 3 (.int .i64), .d 88 (.int .i64), .d 89 (.int .i64)])]
noncomputable def F74.M_l0 (s : St) : Option Int := lpAt (F74.C c78 c79 c21) k n [1, 1, 1, 0, 1, 0] [] Tryz.f74 F74.A F74.R s
noncomputable def F74.fr_l0 (x2 : LO) (x5 : Int × (LB × (Int × (LI × (LI × (LLB × (LV × (LV × X_acceptRange)))))))) (x6 : LV) (x26 : Int) (x27 : Int) : St := ⟨(((((((List.replicate 98 V.un).set 2 (V.bp 600002 0 [])).set 5 (V.bp 600005 0 [])).set 6 (V.ref 500006 0 0 (List.length x6))).set 25 (V.ref 500006 0 0 (List.length x6))).set 26 (V.dat (.int .i64) x26)).set 27 (V.dat (.int .i64) x27)), [⟨500006, 0, .arr 29 Y_Value x6⟩, ⟨600005, 0, .box (V.dat Y_Object x5)⟩, ⟨600002, 0, .box (V.dat Y_Heap x2)⟩]⟩
noncomputable def F74.M_l2 (s : St) : Option Int := lpAt (F74.C c78 c79 c21) k n [1, 1, 1, 1, 1, 0, 1, 0] [] Tryz.f74 F74.A F74.R s
noncomputable def F74.fr_l2 (x2 : LO) (x5 : Int × (LB × (Int × (LI × (LI × (LLB × (LV × (LV × X_acceptRange)))))))) (x9 : LI) (x58 : LV) (x59 : Int) (x60 : Int) : St := ⟨(((((((List.replicate 98 V.un).set 2 (V.bp 600002 0 [])).set 5 (V.bp 600005 0 [])).set 9 (V.ref 500009 0 0 (List.length x9))).set 58 (V.ref 500058 0 0 (List.length x58))).set 59 (V.dat (.int .i64) x59)).set 60 (V.dat (.int .i64) x60)), [⟨500058, 0, .arr 29 Y_Value x58⟩, ⟨500009, 0, .arr 3 (.int .i64) x9⟩, ⟨600005, 0, .box (V.dat Y_Object x5)⟩, ⟨600002, 0, .box (V.dat Y_Heap x2)⟩]⟩
noncomputable def F74.M_l4 (s : St) : Option Int := lpAt (F74.C c78 c79 c21) k n [1, 1, 1, 1, 1, 1, 1, 0, 1, 0] [] Tryz.f74 F74.A F74.R s
noncomputable def F74.fr_l4 (x2 : LO) (x87 : LI) (x88 : Int) (x89 : Int) : St := ⟨(((((List.replicate 98 V.un).set 2 (V.bp 600002 0 [])).set 87 (V.ref 500087 0 0 (List.length x87))).set 88 (V.dat (.int .i64) x88)).set 89 (V.dat (.int .i64) x89)), [⟨500087, 0, .arr 3 (.int .i64) x87⟩, ⟨600002, 0, .box (V.dat Y_Heap x2)⟩]⟩
section
variable (n_l4 : LO → LI → Int → Int → Option Int) (x2 : LO) (x87 : LI) (x88 x89 : Int)
def F74.b_l4 (c78 : F78.E) (c79 : F79.E) (c21 : F21.E) (n_l4 : LO → LI → Int → Int → Option Int) (x2 : LO) (x87 : LI) (x88 : Int) (x89 : Int) : Option Int :=
 bif (decide (x89 < x88)) then
 if 0 ≤ x89 ∧ x89 < (((List.length x87) : Nat) : Int) then
 (c21 (x2, (List.getD x87 (0 + Int.toNat x89) (0 : Int)))).bind fun y6 =>
 bif (!y6) then
 some (4 : Int)
 else
 n_l4 x2 (List.take (List.length x87) x87) x88 (IntKind.i64.wrap (x89 + (1 : Int)))
 else none
 else
 some (0 : Int)
def F74.c_l4 (c78 : F78.E) (c79 : F79.E) (c21 : F21.E) (n_l4 : LO → LI → Int → Int → Option Int) (x2 : LO) (x87 : LI) (x88 : Int) (x89 : Int) : Option Int :=
 bif (decide (x89 < x88)) then
 if 0 ≤ x89 ∧ x89 < ((List.length x87) : Int) then
 (c21 (x2, (List.getD x87 (0 + Int.toNat x89) (0 : Int)))).bind fun y6 =>
 bif !y6 then
 some (4 : Int)
 else
 n_l4 x2 x87 x88 (IntKind.i64.wrap (x89 + (1 : Int)))
 else none
 else
 some (0 : Int)
theorem F74.q_l4 : F74.b_l4 c78 c79 c21 n_l4 x2 x87 x88 x89 = F74.c_l4 c78 c79 c21 n_l4 x2 x87 x88 x89 := by
  simp only [F74.b_l4, F74.c_l4, qq]
def F74.l4 (k : Nat) : Nat → LO → LI → Int → Int → Option Int
  | 0, _, _, _, _ => none
  | n + 1, x2, x87, x88, x89 => F74.b_l4 c78 c79 c21 (fun x2 x87 x88 x89 => F74.l4 k n x2 x87 x88 x89) x2 x87 x88 x89
theorem F74.e_l4 : F74.M_l4 c78 c79 c21 k n (F74.fr_l4 x2 x87 x88 x89) = F74.l4 c78 c79 c21 k n x2 x87 x88 x89 := by
  induction n generalizing x2 x87 x88 x89 with
  | zero => exact lpAt0
  | succ n ih =>
    refine Eq.trans (b := F74.b_l4 c78 c79 c21 (fun x2 x87 x88 x89 => F74.M_l4 c78 c79 c21 k n (F74.fr_l4 x2 x87 x88 x89)) x2 x87 x88 x89) (by kernel_rfl) ?_
    simp only [ih]
    rfl
end
section
variable (n_l2 : LO → X_Object → LI → LV → Int → Int → Option Int) (r_l4 : LO → LI → Int → Int → Option Int) (x2 : LO) (x5 : Int × (LB × (Int × (LI × (LI × (LLB × (LV × (LV × X_acceptRange)))))))) (x9 : LI) (x58 : LV) (x59 x60 : Int)
def F74.b_l2 (c78 : F78.E) (c79 : F79.E) (c21 : F21.E) (n_l2 : LO → X_Object → LI → LV → Int → Int → Option Int) (r_l4 : LO → LI → Int → Int → Option Int) (x2 : LO) (x5 : Int × (LB × (Int × (LI × (LI × (LLB × (LV × (LV × X_acceptRange)))))))) (x9 : LI) (x58 : LV) (x59 : Int) (x60 : Int) : Option Int :=
 bif (decide (x60 < x59)) then
 if 0 ≤ x60 ∧ x60 < (((List.length x58) : Nat) : Int) then
 bif (((List.getD x58 (0 + Int.toNat x60) Z_Value).1) == (6 : Int)) then
 if (List.length x9) ≤ (List.length x9) ∧ ((List.length x9) + (List.length (List.take 1 ([((((List.getD x58 (0 + Int.toNat x60) Z_Value).2).2).2).2] : LI)))) * 8 ≤ LIM then
 n_l2 x2 x5 (List.take (List.length (List.append (List.take (List.length x9) x9) (List.take 1 ([((((List.getD x58 (0 + Int.toNat x60) Z_Value).2).2).2).2] : LI)))) (List.append (List.take (List.length x9) x9) (List.take 1 ([((((List.getD x58 (0 + Int.toNat x60) Z_Value).2).2).2).2] : LI)))) (List.take (List.length x58) x58) x59 (IntKind.i64.wrap (x60 + (1 : Int)))
 else none
 else
 n_l2 x2 x5 (List.take (List.length x9) x9) (List.take (List.length x58) x58) x59 (IntKind.i64.wrap (x60 + (1 : Int)))
 else none
 else
 bif (x5.1 == (18 : Int)) then
 bif (x5.2.2.2.2.2.2.2.2.2 != (0 : Int)) then
 if (List.length x9) ≤ (List.length x9) ∧ ((List.length x9) + (List.length (List.take 1 ([(IntKind.i64.wrap (x5.2.2.2.2.2.2.2.2.2 - (1 : Int)))] : LI)))) * 8 ≤ LIM then
 r_l4 x2 (List.take (List.length (List.append (List.take (List.length x9) x9) (List.take 1 ([(IntKind.i64.wrap (x5.2.2.2.2.2.2.2.2.2 - (1 : Int)))] : LI)))) (List.append (List.take (List.length x9) x9) (List.take 1 ([(IntKind.i64.wrap (x5.2.2.2.2.2.2.2.2.2 - (1 : Int)))] : LI)))) (((List.length (List.append (List.take (List.length x9) x9) (List.take 1 ([(IntKind.i64.wrap (x5.2.2.2.2.2.2.2.2.2 - (1 : Int)))] : LI)))) : Nat) : Int) (0 : Int)
 else none
 else
 r_l4 x2 (List.take (List.length x9) x9) (((List.length x9) : Nat) : Int) (0 : Int)
 else
 r_l4 x2 (List.take (List.length x9) x9) (((List.length x9) : Nat) : Int) (0 : Int)
def F74.c_l2 (c78 : F78.E) (c79 : F79.E) (c21 : F21.E) (n_l2 : LO → X_Object → LI → LV → Int → Int → Option Int) (r_l4 : LO → LI → Int → Int → Option Int) (x2 : LO) (x5 : Int × (LB × (Int × (LI × (LI × (LLB × (LV × (LV × X_acceptRange)))))))) (x9 : LI) (x58 : LV) (x59 : Int) (x60 : Int) : Option Int :=
 bif (decide (x60 < x59)) then
 if 0 ≤ x60 ∧ x60 < ((List.length x58) : Int) then
 bif (((List.getD x58 (0 + Int.toNat x60) Z_Value).1) == (6 : Int)) then
 if ((List.length x9) + (List.length ([((((List.getD x58 (0 + Int.toNat x60) Z_Value).2).2).2).2] : LI))) * 8 ≤ LIM then
 n_l2 x2 x5 (x9 ++ ([((((List.getD x58 (0 + Int.toNat x60) Z_Value).2).2).2).2] : LI)) x58 x59 (IntKind.i64.wrap (x60 + (1 : Int)))
 else none
 else
 n_l2 x2 x5 x9 x58 x59 (IntKind.i64.wrap (x60 + (1 : Int)))
 else none
 else
 bif (x5.1 == (18 : Int)) then
 bif (x5.2.2.2.2.2.2.2.2.2 != (0 : Int)) then
 if ((List.length x9) + (List.length ([(IntKind.i64.wrap (x5.2.2.2.2.2.2.2.2.2 - (1 : Int)))] : LI))) * 8 ≤ LIM then
 r_l4 x2 (x9 ++ ([(IntKind.i64.wrap (x5.2.2.2.2.2.2.2.2.2 - (1 : Int)))] : LI)) ((List.length (x9 ++ ([(IntKind.i64.wrap (x5.2.2.2.2.2.2.2.2.2 - (1 : Int)))] : LI))) : Int) (0 : Int)
 else none
 else
 r_l4 x2 x9 ((List.length x9) : Int) (0 : Int)
 else
 r_l4 x2 x9 ((List.length x9) : Int) (0 : Int)
theorem F74.q_l2 : F74.b_l2 c78 c79 c21 n_l2 r_l4 x2 x5 x9 x58 x59 x60 = F74.c_l2 c78 c79 c21 n_l2 r_l4 x2 x5 x9 x58 x59 x60 := by
  simp only [F74.b_l2, F74.c_l2, qq]
def F74.l2 : Nat → LO → X_Object → LI → LV → Int → Int → Option Int
  | 0, _, _, _, _, _, _ => none
  | n + 1, x2, x5, x9, x58, x59, x60 => F74.b_l2 c78 c79 c21 (fun x2 x5 x9 x58 x59 x60 => F74.l2 n x2 x5 x9 x58 x59 x60) (F74.l4 c78 c79 c21 k k) x2 x5 x9 x58 x59 x60
theorem F74.e_l2 : F74.M_l2 c78 c79 c21 k n (F74.fr_l2 x2 x5 x9 x58 x59 x60) = F74.l2 c78 c79 c21 k n x2 x5 x9 x58 x59 x60 := by
  induction n generalizing x2 x5 x9 x58 x59 x60 with
  | zero => exact lpAt0
  | succ n ih =>
    refine Eq.trans (b := F74.b_l2 c78 c79 c21 (fun x2 x5 x9 x58 x59 x60 => F74.M_l2 c78 c79 c21 k n (F74.fr_l2 x2 x5 x9 x58 x59 x60)) (fun x2 x87 x88 x89 => F74.M_l4 c78 c79 c21 k k (F74.fr_l4 x2 x87 x88 x89)) x2 x5 x9 x58 x59 x60) (by kernel_rfl) ?_
    simp only [F74.e_l4, ih]
    rfl
end
section
variable (n_l0 : LO → X_Object → LV → Int → Int → Option Int) (r_l2 : LO → X_Object → LI → LV → Int → Int → Option Int) (x2 : LO) (x5 : Int × (LB × (Int × (LI × (LI × (LLB × (LV × (LV × X_acceptRange)))))))) (x6 : LV) (x26 x27 : Int)
def F74.b_l0 (c78 : F78.E) (c79 : F79.E) (c21 : F21.E) (n_l0 : LO → X_Object → LV → Int → Int → Option Int) (r_l2 : LO → X_Object → LI → LV → Int → Int → Option Int) (x2 : LO) (x5 : Int × (LB × (Int × (LI × (LI × (LLB × (LV × (LV × X_acceptRange)))))))) (x6 : LV) (x26 : Int) (x27 : Int) : Option Int :=
 bif (decide (x27 < x26)) then
 if 0 ≤ x27 ∧ x27 < (((List.length x6) : Nat) : Int) then
 bif (((List.getD x6 (0 + Int.toNat x27) Z_Value).1) == (9 : Int)) then
 bif (x5.1 == (6 : Int)) then
 (c79 ((0 : Int), (List.getD x6 (0 + Int.toNat x27) Z_Value).2)).bind fun y2 =>
 bif (!y2) then
 some (6 : Int)
 else
 if (List.length x6) = (List.length x6) then
 n_l0 x2 x5 (List.take (List.length x6) x6) x26 (IntKind.i64.wrap (x27 + (1 : Int)))
 else none
 else
 bif (x5.1 == (17 : Int)) then
 (c79 ((0 : Int), (List.getD x6 (0 + Int.toNat x27) Z_Value).2)).bind fun y3 =>
 bif (!y3) then
 some (6 : Int)
 else
 if (List.length x6) = (List.length x6) then
 n_l0 x2 x5 (List.take (List.length x6) x6) x26 (IntKind.i64.wrap (x27 + (1 : Int)))
 else none
 else
 (c79 (List.getD x6 (0 + Int.toNat x27) Z_Value)).bind fun y4 =>
 bif (!y4) then
 some (6 : Int)
 else
 if (List.length x6) = (List.length x6) then
 n_l0 x2 x5 (List.take (List.length x6) x6) x26 (IntKind.i64.wrap (x27 + (1 : Int)))
 else none
 else
 (c79 (List.getD x6 (0 + Int.toNat x27) Z_Value)).bind fun y5 =>
 bif (!y5) then
 some (6 : Int)
 else
 if (List.length x6) = (List.length x6) then
 n_l0 x2 x5 (List.take (List.length x6) x6) x26 (IntKind.i64.wrap (x27 + (1 : Int)))
 else none
 else none
 else
 if 1 ≤ (List.length ([x5.2.2.1] : LI)) ∧ (1 + (List.length x5.2.2.2.1)) * 8 ≤ LIM then
 if (List.length (List.append (List.take 1 ([x5.2.2.1] : LI)) x5.2.2.2.1)) ≤ (List.length (List.append (List.take 1 ([x5.2.2.1] : LI)) x5.2.2.2.1)) ∧ ((List.length (List.append (List.take 1 ([x5.2.2.1] : LI)) x5.2.2.2.1)) + (List.length x5.2.2.2.2.1)) * 8 ≤ LIM then
 r_l2 x2 x5 (List.take (List.length (List.append (List.take (List.length (List.append (List.take 1 ([x5.2.2.1] : LI)) x5.2.2.2.1)) (List.append (List.take 1 ([x5.2.2.1] : LI)) x5.2.2.2.1)) x5.2.2.2.2.1)) (List.append (List.take (List.length (List.append (List.take 1 ([x5.2.2.1] : LI)) x5.2.2.2.1)) (List.append (List.take 1 ([x5.2.2.1] : LI)) x5.2.2.2.1)) x5.2.2.2.2.1)) (List.take (List.length x6) x6) (((List.length x6) : Nat) : Int) (0 : Int)
 else none
 else none
def F74.c_l0 (c78 : F78.E) (c79 : F79.E) (c21 : F21.E) (n_l0 : LO → X_Object → LV → Int → Int → Option Int) (r_l2 : LO → X_Object → LI → LV → Int → Int → Option Int) (x2 : LO) (x5 : Int × (LB × (Int × (LI × (LI × (LLB × (LV × (LV × X_acceptRange)))))))) (x6 : LV) (x26 : Int) (x27 : Int) : Option Int :=
 bif (decide (x27 < x26)) then
 if 0 ≤ x27 ∧ x27 < ((List.length x6) : Int) then
 bif (((List.getD x6 (0 + Int.toNat x27) Z_Value).1) == (9 : Int)) then
 bif (x5.1 == (6 : Int)) then
 (c79 ((0 : Int), (List.getD x6 (0 + Int.toNat x27) Z_Value).2)).bind fun y2 =>
 bif !y2 then
 some (6 : Int)
 else
 n_l0 x2 x5 x6 x26 (IntKind.i64.wrap (x27 + (1 : Int)))
 else
 bif (x5.1 == (17 : Int)) then
 (c79 ((0 : Int), (List.getD x6 (0 + Int.toNat x27) Z_Value).2)).bind fun y3 =>
 bif !y3 then
 some (6 : Int)
 else
 n_l0 x2 x5 x6 x26 (IntKind.i64.wrap (x27 + (1 : Int)))
 else
 (c79 (List.getD x6 (0 + Int.toNat x27) Z_Value)).bind fun y4 =>
 bif !y4 then
 some (6 : Int)
 else
 n_l0 x2 x5 x6 x26 (IntKind.i64.wrap (x27 + (1 : Int)))
 else
 (c79 (List.getD x6 (0 + Int.toNat x27) Z_Value)).bind fun y5 =>
 bif !y5 then
 some (6 : Int)
 else
 n_l0 x2 x5 x6 x26 (IntKind.i64.wrap (x27 + (1 : Int)))
 else none
 else
 if 1 ≤ (List.length ([x5.2.2.1] : LI)) ∧ (1 + (List.length x5.2.2.2.1)) * 8 ≤ LIM then
 if ((List.length (([x5.2.2.1] : LI) ++ x5.2.2.2.1)) + (List.length x5.2.2.2.2.1)) * 8 ≤ LIM then
 r_l2 x2 x5 ((([x5.2.2.1] : LI) ++ x5.2.2.2.1) ++ x5.2.2.2.2.1) x6 ((List.length x6) : Int) (0 : Int)
 else none
 else none
theorem F74.q_l0 : F74.b_l0 c78 c79 c21 n_l0 r_l2 x2 x5 x6 x26 x27 = F74.c_l0 c78 c79 c21 n_l0 r_l2 x2 x5 x6 x26 x27 := by
  simp only [F74.b_l0, F74.c_l0, qq]
def F74.l0 : Nat → LO → X_Object → LV → Int → Int → Option Int
  | 0, _, _, _, _, _ => none
  | n + 1, x2, x5, x6, x26, x27 => F74.b_l0 c78 c79 c21 (fun x2 x5 x6 x26 x27 => F74.l0 n x2 x5 x6 x26 x27) (F74.l2 c78 c79 c21 k k) x2 x5 x6 x26 x27
theorem F74.e_l0 : F74.M_l0 c78 c79 c21 k n (F74.fr_l0 x2 x5 x6 x26 x27) = F74.l0 c78 c79 c21 k n x2 x5 x6 x26 x27 := by
  induction n generalizing x2 x5 x6 x26 x27 with
  | zero => exact lpAt0
  | succ n ih =>
    refine Eq.trans (b := F74.b_l0 c78 c79 c21 (fun x2 x5 x6 x26 x27 => F74.M_l0 c78 c79 c21 k n (F74.fr_l0 x2 x5 x6 x26 x27)) (fun x2 x5 x9 x58 x59 x60 => F74.M_l2 c78 c79 c21 k k (F74.fr_l2 x2 x5 x9 x58 x59 x60)) x2 x5 x6 x26 x27) (by kernel_rfl) ?_
    simp only [F74.e_l2, ih]
    rfl
end
variable (r_l0 : LO → X_Object → LV → Int → Int → Option Int) (a0 : LO) (a1 : Int)
def F74.b (c79 : F79.E) (c21 : F21.E) (r_l0 : LO → X_Object → LV → Int → Int → Option Int) (a0 : LO) (a1 : Int) : Option Int :=
 if 0 ≤ a1 ∧ a1 < ((List.length a0) : Int) then
 (c78 (((((((((List.getD a0 (Int.toNat a1) Z_Object).2).2).2).2).2).2).2).1)).bind fun y1 =>
 if (List.length y1) ≤ (List.length y1) ∧ ((List.length y1) + (List.length ((((((((List.getD a0 (Int.toNat a1) Z_Object).2).2).2).2).2).2).1))) * 96 ≤ LIM then
 if (List.length (List.append (List.take (List.length y1) y1) ((((((((List.getD a0 (Int.toNat a1) Z_Object).2).2).2).2).2).2).1))) = (List.length (List.append (List.take (List.length y1) y1) ((((((((List.getD a0 (Int.toNat a1) Z_Object).2).2).2).2).2).2).1))) then
 r_l0 a0 (List.getD a0 (Int.toNat a1) Z_Object) (List.take (List.length (List.append (List.take (List.length y1) y1) ((((((((List.getD a0 (Int.toNat a1) Z_Object).2).2).2).2).2).2).1))) (List.append (List.take (List.length y1) y1) ((((((((List.getD a0 (Int.toNat a1) Z_Object).2).2).2).2).2).2).1))) (((List.length (List.append (List.take (List.length y1) y1) ((((((((List.getD a0 (Int.toNat a1) Z_Object).2).2).2).2).2).2).1))) : Nat) : Int) (0 : Int)
 else none
 else none
 else none
def F74.c (c79 : F79.E) (c21 : F21.E) (r_l0 : LO → X_Object → LV → Int → Int → Option Int) (a0 : LO) (a1 : Int) : Option Int :=
 if 0 ≤ a1 ∧ a1 < ((List.length a0) : Int) then
 (c78 (((((((((List.getD a0 (Int.toNat a1) Z_Object).2).2).2).2).2).2).2).1)).bind fun y1 =>
 if ((List.length y1) + (List.length ((((((((List.getD a0 (Int.toNat a1) Z_Object).2).2).2).2).2).2).1))) * 96 ≤ LIM then
 r_l0 a0 (List.getD a0 (Int.toNat a1) Z_Object) (y1 ++ ((((((((List.getD a0 (Int.toNat a1) Z_Object).2).2).2).2).2).2).1)) ((List.length (y1 ++ ((((((((List.getD a0 (Int.toNat a1) Z_Object).2).2).2).2).2).2).1))) : Int) (0 : Int)
 else none
 else none
theorem F74.q : F74.b c78 c79 c21 r_l0 a0 a1 = F74.c c78 c79 c21 r_l0 a0 a1 := by
  simp only [F74.b, F74.c, qq]
def F74.f : Option Int := F74.b c78 c79 c21 (F74.l0 c78 c79 c21 k k) a0 a1
theorem F74.e : fn (F74.C c78 c79 c21) k Tryz.f74 F74.A F74.R (a0, a1) = F74.f c78 c79 c21 k a0 a1 := by
  refine Eq.trans (b := F74.b c78 c79 c21 (fun x2 x5 x6 x26 x27 => F74.M_l0 c78 c79 c21 k k (F74.fr_l0 x2 x5 x6 x26 x27)) a0 a1) (by kernel_rfl) ?_
  simp only [F74.e_l0]
  rfl
end
def F74.u (k : Nat) : F74.E := fun y => F74.f (F78.u k) (F79.u k) (F21.u k) k y.1 y.2
theorem F74.sound (k : Nat) : Sound Tryz.prog ⟨74, F74.A, F74.R, F74.u k⟩ := sn gr Tryz.func74 (fun y => F74.e (F78.u k) (F79.u k) (F21.u k) k y.1 y.2) (al (F78.sound k) (al (F79.sound k) (al (F21.sound k) al0)))
/-! ### brindlewood/brindlewoodref7.RangeOk: f113 -/
abbrev F113.A : List Sh := [(.d Y_Object)]
abbrev F113.R : List Sh := [(.d .bool)]
abbrev F113.E : Type := X_Object → Option Bool
section
variable (k n : Nat)
def F113.C : Ctx := cx [] [(0, [.bx 1 600001 (.d Y_Object), .d 6 (.sl 29 Y_Value), .d 7 (.int .i64), .d 8 (.int .i64)])]
noncomputable def F113.M_l0 (s : St) : Option Bool := lpAt F113.C k n [1, 0, 1, 0] [] Tryz.f113 F113.A F113.R s
noncomputable def F113.fr_l0 (x1 : Int × (LB × (Int × (LI × (LI × (LLB × (LV × (LV × X_acceptRange)))))))) (x6 : LV) (x7 : Int) (x8 : Int) : St := ⟨(((((List.replicate 31 V.un).set 1 (V.bp 600001 0 [])).set 6 (V.dat (.sl 29 Y_Value) x6)).set 7 (V.dat (.int .i64) x7)).set 8 (V.dat (.int .i64) x8)), [⟨600001, 0, .box (V.dat Y_Object x1)⟩]⟩
section
variable (n_l0 : X_Object → LV → Int → Int → Option Bool) (x1 : Int × (LB × (Int × (LI × (LI × (LLB × (LV × (LV × X_acceptRange)))))))) (x6 : LV) (x7 x8 : Int)
def F113.b_l0 : Option Bool :=
 bif (decide (x8 < x7)) then
 if 0 ≤ x8 ∧ x8 < ((List.length x6) : Int) then
 bif (((List.getD x6 (Int.toNat x8) Z_Value).1) != (2 : Int)) then
 some false
 else
 bif (decide (((List.length ((((List.getD x6 (Int.toNat x8) Z_Value).2).1).2)) : Int) > (40 : Int))) then
 some false
 else
 n_l0 x1 x6 x7 (IntKind.i64.wrap (x8 + (1 : Int)))
 else none
 else
 if 0 ≤ (2 : Int) ∧ (2 : Int) < ((List.length x1.2.2.2.2.2.2.1) : Int) then
 some (decide (((List.length ((((List.getD x1.2.2.2.2.2.2.1 (Int.toNat (2 : Int)) Z_Value).2).1).2)) : Int) > (0 : Int)))
 else none
def F113.l0 (k : Nat) : Nat → X_Object → LV → Int → Int → Option Bool
  | 0, _, _, _, _ => none
  | n + 1, x1, x6, x7, x8 => F113.b_l0 (fun x1 x6 x7 x8 => F113.l0 k n x1 x6 x7 x8) x1 x6 x7 x8
theorem F113.e_l0 : F113.M_l0 k n (F113.fr_l0 x1 x6 x7 x8) = F113.l0 k n x1 x6 x7 x8 := by
  induction n generalizing x1 x6 x7 x8 with
  | zero => exact lpAt0
  | succ n ih =>
    refine Eq.trans (b := F113.b_l0 (fun x1 x6 x7 x8 => F113.M_l0 k n (F113.fr_l0 x1 x6 x7 x8)) x1 x6 x7 x8) (by kernel_rfl) ?_
    simp only [ih]
    rfl
end
variable (r_l0 : X_Object → LV → Int → Int → Option Bool) (a0 : Int × (LB × (Int × (LI × (LI × (LLB × (LV × (LV × X_acceptRange))))))))
def F113.b : Option Bool :=
 r_l0 a0 a0.2.2.2.2.2.2.1 ((List.length a0.2.2.2.2.2.2.1) : Int) (0 : Int)
def F113.f : Option Bool := F113.b (F113.l0 k k) a0
theorem F113.e : fn F113.C k Tryz.f113 F113.A F113.R a0 = F113.f k a0 := by
  refine Eq.trans (b := F113.b (fun x1 x6 x7 x8 => F113.M_l0 k k (F113.fr_l0 x1 x6 x7 x8)) a0) (by kernel_rfl) ?_
  simp only [F113.e_l0]
  rfl
end
def F113.u (k : Nat) : F113.E := fun y => F113.f k y
theorem F113.sound (k : Nat) : Sound Tryz.prog ⟨113, F113.A, F113.R, F113.u k⟩ := sn gr Tryz.func113 (fun y => F113.e k y) al0
/-! ### brindlewood/brindlewoodref7.Obj: f54 -/
abbrev F54.A : List Sh := [(.d Y_Heap), (.d Y_Value)]
abbrev F54.R : List Sh := [(.d Y_Object)]
abbrev F54.E : Type := (LO × X_Value) → Option X_Object
section
variable (c21 : F21.E)
variable (k n : Nat)
def F54.C : Ctx := cx [⟨21, F21.A, F21.R, c21⟩] []
variable (a0 : LO) (a1 : Int × (X_Int × (X_Int × X_errorAddressString)))
def F54.b : Option X_Object :=
 bif (a1.1 != (6 : Int)) then
 some ((0 : Int), ([], ((0 : Int), (([] : LI), (([] : LI), (([] : LLB), (([] : LV), (([] : LV), ((0 : Int), (0 : Int))))))))))
 else
 (c21 (a0, a1.2.2.2.2)).bind fun y1 =>
 bif (!y1) then
 some ((0 : Int), ([], ((0 : Int), (([] : LI), (([] : LI), (([] : LLB), (([] : LV), (([] : LV), ((0 : Int), (0 : Int))))))))))
 else
 if 0 ≤ a1.2.2.2.2 ∧ a1.2.2.2.2 < ((List.length a0) : Int) then
 some (List.getD a0 (Int.toNat a1.2.2.2.2) Z_Object)
 else none
def F54.f (k : Nat) (a0 : LO) (a1 : Int × (X_Int × (X_Int × X_errorAddressString))) : Option X_Object := F54.b c21 a0 a1
theorem F54.e : fn (F54.C c21) k Tryz.f54 F54.A F54.R (a0, a1) = F54.f c21 k a0 a1 := by
  kernel_rfl
end
def F54.u (k : Nat) : F54.E := fun y => F54.f (F21.u k) k y.1 y.2
theorem F54.sound (k : Nat) : Sound Tryz.prog ⟨54, F54.A, F54.R, F54.u k⟩ := sn gr Tryz.func54 (fun y => F54.e (F21.u k) k y.1 y.2) (al (F21.sound k) al0)
/-! ### brindlewood/brindlewoodref7.callable: f56 -/
abbrev F56.A : List Sh := [(.d Y_Heap), (.d Y_Value)]
abbrev F56.R : List Sh := [(.d .bool)]
abbrev F56.E : Type := (LO × X_Value) → Option Bool
section
variable (c54 : F54.E)
variable (k n : Nat)
def F56.C : Ctx := cx [⟨54, F54.A, F54.R, c54⟩] []
variable (a0 : LO) (a1 : Int × (X_Int × (X_Int × X_errorAddressString)))
def F56.b : Option Bool :=
 bif (a1.1 == (7 : Int)) then
 some true
 else
 (c54 (a0, a1)).bind fun y1 =>
 some (y1.1 == (7 : Int))
def F56.f (k : Nat) (a0 : LO) (a1 : Int × (X_Int × (X_Int × X_errorAddressString))) : Option Bool := F56.b c54 a0 a1
theorem F56.e : fn (F56.C c54) k Tryz.f56 F56.A F56.R (a0, a1) = F56.f c54 k a0 a1 := by
  kernel_rfl
end
def F56.u (k : Nat) : F56.E := fun y => F56.f (F54.u k) k y.1 y.2
theorem F56.sound (k : Nat) : Sound Tryz.prog ⟨56, F56.A, F56.R, F56.u k⟩ := sn gr Tryz.func56 (fun y => F56.e (F54.u k) k y.1 y.2) (al (F54.sound k) al0)
/-! ### brindlewood/brindlewoodref7.isClass: f114 -/
abbrev F114.A : List Sh := [(.d Y_Heap), (.d (.int .i64))]
abbrev F114.R : List Sh := [(.d .bool)]
abbrev F114.E : Type := (LO × Int) → Option Bool
section
variable (k n : Nat)
def F114.C : Ctx := cx [] []
variable (a0 : LO) (a1 : Int)
def F114.b : Option Bool :=
 if 0 ≤ a1 ∧ a1 < ((List.length a0) : Int) then
 some (((List.getD a0 (Int.toNat a1) Z_Object).1) == (9 : Int))
 else none
def F114.f (k : Nat) (a0 : LO) (a1 : Int) : Option Bool := F114.b a0 a1
theorem F114.e : fn F114.C k Tryz.f114 F114.A F114.R (a0, a1) = F114.f k a0 a1 := by
  kernel_rfl
end
def F114.u (k : Nat) : F114.E := fun y => F114.f k y.1 y.2
theorem F114.sound (k : Nat) : Sound Tryz.prog ⟨114, F114.A, F114.R, F114.u k⟩ := sn gr Tryz.func114 (fun y => F114.e k y.1 y.2) al0
/-! ### brindlewood/brindlewoodref7.Open: f115 -/
abbrev F115.A : List Sh := [(.d (.int .i64))]
abbrev F115.R : List Sh := [(.d .bool)]
abbrev F115.E : Type := Int → Option Bool
section
variable (k n : Nat)
def F115.C : Ctx := cx [] []
variable (a0 : Int)
def F115.b : Option Bool :=
 bif (a0 == (0 : Int)) then
 some true
 else
 some (decide (a0 ≥ (28 : Int)))
def F115.f (k : Nat) (a0 : Int) : Option Bool := F115.b a0
theorem F115.e : fn F115.C k Tryz.f115 F115.A F115.R a0 = F115.f k a0 := by
  kernel_rfl
end
def F115.u (k : Nat) : F115.E := fun y => F115.f k y
theorem F115.sound (k : Nat) : Sound Tryz.prog ⟨115, F115.A, F115.R, F115.u k⟩ := sn gr Tryz.func115 (fun y => F115.e k y) al0
/-! ### slices.Index[[]int,int]: f154 -/
abbrev F154.A : List Sh := [(.d (.sl 3 (.int .i64))), (.d (.int .i64))]
abbrev F154.R : List Sh := [(.d (.int .i64))]
abbrev F154.E : Type := (LI × Int) → Option Int
section
variable (k n : Nat)
def F154.C : Ctx := cx [] [(0, [.d 0 (.sl 3 (.int .i64)), .d 1 (.int .i64), .d 7 (.int .i64), .d 8 (.int .i64)])]
noncomputable def F154.M_l0 (s : St) : Option Int := lpAt F154.C k n [1, 0, 1, 0] [] Tryz.f154 F154.A F154.R s
noncomputable def F154.fr_l0 (x0 : LI) (x1 : Int) (x7 : Int) (x8 : Int) : St := ⟨(((((List.replicate 19 V.un).set 0 (V.dat (.sl 3 (.int .i64)) x0)).set 1 (V.dat (.int .i64) x1)).set 7 (V.dat (.int .i64) x7)).set 8 (V.dat (.int .i64) x8)), []⟩
section
variable (n_l0 : LI → Int → Int → Int → Option Int) (x0 : LI) (x1 x7 x8 : Int)
def F154.b_l0 : Option Int :=
 bif (decide (x8 < x7)) then
 if 0 ≤ x8 ∧ x8 < ((List.length x0) : Int) then
 bif (x1 == (List.getD x0 (Int.toNat x8) (0 : Int))) then
 some x8
 else
 n_l0 x0 x1 x7 (IntKind.i64.wrap (x8 + (1 : Int)))
 else none
 else
 some (-1 : Int)
def F154.l0 (k : Nat) : Nat → LI → Int → Int → Int → Option Int
  | 0, _, _, _, _ => none
  | n + 1, x0, x1, x7, x8 => F154.b_l0 (fun x0 x1 x7 x8 => F154.l0 k n x0 x1 x7 x8) x0 x1 x7 x8
theorem F154.e_l0 : F154.M_l0 k n (F154.fr_l0 x0 x1 x7 x8) = F154.l0 k n x0 x1 x7 x8 := by
  induction n generalizing x0 x1 x7 x8 with
  | zero => exact lpAt0
  | succ n ih =>
    refine Eq.trans (b := F154.b_l0 (fun x0 x1 x7 x8 => F154.M_l0 k n (F154.fr_l0 x0 x1 x7 x8)) x0 x1 x7 x8) (by kernel_rfl) ?_
    simp only [ih]
    rfl
end
variable (r_l0 : LI → Int → Int → Int → Option Int) (a0 : LI) (a1 : Int)
def F154.b : Option Int :=
 r_l0 a0 a1 ((List.length a0) : Int) (0 : Int)
def F154.f : Option Int := F154.b (F154.l0 k k) a0 a1
theorem F154.e : fn F154.C k Tryz.f154 F154.A F154.R (a0, a1) = F154.f k a0 a1 := by
  refine Eq.trans (b := F154.b (fun x0 x1 x7 x8 => F154.M_l0 k k (F154.fr_l0 x0 x1 x7 x8)) a0 a1) (by kernel_rfl) ?_
  simp only [F154.e_l0]
  rfl
end
def F154.u (k : Nat) : F154.E := fun y => F154.f k y.1 y.2
theorem F154.sound (k : Nat) : Sound Tryz.prog ⟨154, F154.A, F154.R, F154.u k⟩ := sn gr Tryz.func154 (fun y => F154.e k y.1 y.2) al0
/-! ### slices.Contains[[]int,int]: f116 -/
abbrev F116.A : List Sh := [(.d (.sl 3 (.int .i64))), (.d (.int .i64))]
abbrev F116.R : List Sh := [(.d .bool)]
abbrev F116.E : Type := (LI × Int) → Option Bool
section
variable (c154 : F154.E)
variable (k n : Nat)
def F116.C : Ctx := cx [⟨154, F154.A, F154.R, c154⟩] []
variable (a0 : LI) (a1 : Int)
def F116.b : Option Bool :=
 (c154 (a0, a1)).bind fun y1 =>
 some (decide (y1 ≥ (0 : Int)))
def F116.f (k : Nat) (a0 : LI) (a1 : Int) : Option Bool := F116.b c154 a0 a1
theorem F116.e : fn (F116.C c154) k Tryz.f116 F116.A F116.R (a0, a1) = F116.f c154 k a0 a1 := by
  kernel_rfl
end
def F116.u (k : Nat) : F116.E := fun y => F116.f (F154.u k) k y.1 y.2
theorem F116.sound (k : Nat) : Sound Tryz.prog ⟨116, F116.A, F116.R, F116.u k⟩ := sn gr Tryz.func116 (fun y => F116.e (F154.u k) k y.1 y.2) (al (F154.sound k) al0)
/-! ### brindlewood/brindlewoodref7.Exception: f155 -/
abbrev F155.A : List Sh := [(.d Y_Heap), (.d Y_Value)]
abbrev F155.R : List Sh := [(.d .bool)]
abbrev F155.E : Type := (LO × X_Value) → Option Bool
section
variable (c54 : F54.E) (c21 : F21.E) (c116 : F116.E)
variable (k n : Nat)
def F155.C : Ctx := cx [⟨54, F54.A, F54.R, c54⟩, ⟨21, F21.A, F21.R, c21⟩, ⟨116, F116.A, F116.R, c116⟩] []
variable (a0 : LO) (a1 : Int × (X_Int × (X_Int × X_errorAddressString)))
def F155.b : Option Bool :=
 (c54 (a0, a1)).bind fun y1 =>
 bif (y1.1 == (10 : Int)) then
 (c21 (a0, y1.2.2.1)).bind fun y2 =>
 bif y2 then
 if 0 ≤ y1.2.2.1 ∧ y1.2.2.1 < ((List.length a0) : Int) then
 (c116 ((((((List.getD a0 (Int.toNat y1.2.2.1) Z_Object).2).2).2).2).1, (28 : Int))).bind fun y3 =>
 some y3
 else none
 else
 some false
 else
 some false
def F155.f (k : Nat) (a0 : LO) (a1 : Int × (X_Int × (X_Int × X_errorAddressString))) : Option Bool := F155.b c54 c21 c116 a0 a1
theorem F155.e : fn (F155.C c54 c21 c116) k Tryz.f155 F155.A F155.R (a0, a1) = F155.f c54 c21 c116 k a0 a1 := by
  kernel_rfl
end
def F155.u (k : Nat) : F155.E := fun y => F155.f (F54.u k) (F21.u k) (F116.u k) k y.1 y.2
theorem F155.sound (k : Nat) : Sound Tryz.prog ⟨155, F155.A, F155.R, F155.u k⟩ := sn gr Tryz.func155 (fun y => F155.e (F54.u k) (F21.u k) (F116.u k) k y.1 y.2) (al (F54.sound k) (al (F21.sound k) (al (F116.sound k) al0)))
/-! ### brindlewood/brindlewoodref7.exceptionOk: f117 -/
abbrev F117.A : List Sh := [(.d Y_Heap), (.d (.int .i64))]
abbrev F117.R : List Sh := [(.d .bool)]
abbrev F117.E : Type := (LO × Int) → Option Bool
section
variable (c116 : F116.E) (c16 : F16.E) (c54 : F54.E) (c155 : F155.E)
variable (k n : Nat)
def F117.C : Ctx := cx [⟨116, F116.A, F116.R, c116⟩, ⟨16, F16.A, F16.R, c16⟩, ⟨54, F54.A, F54.R, c54⟩, ⟨155, F155.A, F155.R, c155⟩] [(100006, [.d 1 (.int .i64), .bx 2 600002 (.d Y_Heap), .bx 5 600005 (.d Y_Object), .o 6 500006 9 .str, .d 7 .bool]), (0, [.d 1 (.int .i64), .bx 2 600002 (.d Y_Heap), .bx 5 600005 (.d Y_Object), .d 7 .bool, .bx 8 600008 (.d Y_Object), .bx 9 600009 (.d Y_Object), .d 66 (.sl 29 Y_Value), .d 67 (.int .i64), .d 68 (.int .i64)]), (2, [.d 1 (.int .i64), .bx 2 600002 (.d Y_Heap), .bx 5 600005 (.d Y_Object), .d 7 .bool, .bx 8 600008 (.d Y_Object), .d 91 (.sl 29 Y_Value), .d 92 (.int .i64), .d 93 (.int .i64)]), (4, [.d 1 (.int .i64), .bx 2 600002 (.d Y_Heap), .bx 8 600008 (.d Y_Object), .bx 15 600015 (.d Y_Object), .d 135 (.sl 29 Y_Value), .d 136 (.int .i64), .d 137 (.int .i64)])]
noncomputable def F117.M_g6 (s : St) : Option Bool := gtAt (F117.C c116 c16 c54 c155) k [1, 1, 1, 1, 1, 0, 0] [] Tryz.f117 F117.A F117.R s
noncomputable def F117.fr_g6 (x1 : Int) (x2 : LO) (x5 : Int × (LB × (Int × (LI × (LI × (LLB × (LV × (LV × X_acceptRange)))))))) (x6 : LLB) (x7 : Bool) : St := ⟨((((((List.replicate 167 V.un).set 1 (V.dat (.int .i64) x1)).set 2 (V.bp 600002 0 [])).set 5 (V.bp 600005 0 [])).set 6 (V.ref 500006 0 0 (List.length x6))).set 7 (V.dat .bool x7)), [⟨500006, 0, .arr 9 .str x6⟩, ⟨600005, 0, .box (V.dat Y_Object x5)⟩, ⟨600002, 0, .box (V.dat Y_Heap x2)⟩]⟩
noncomputable def F117.M_l0 (s : St) : Option Bool := lpAt (F117.C c116 c16 c54 c155) k n [1, 1, 1, 1, 1, 1, 1, 0, 1, 0] [] Tryz.f117 F117.A F117.R s
noncomputable def F117.fr_l0 (x1 : Int) (x2 : LO) (x5 : Int × (LB × (Int × (LI × (LI × (LLB × (LV × (LV × X_acceptRange)))))))) (x7 : Bool) (x8 : Int × (LB × (Int × (LI × (LI × (LLB × (LV × (LV × X_acceptRange)))))))) (x9 : Int × (LB × (Int × (LI × (LI × (LLB × (LV × (LV × X_acceptRange)))))))) (x66 : LV) (x67 : Int) (x68 : Int) : St := ⟨((((((((((List.replicate 167 V.un).set 1 (V.dat (.int .i64) x1)).set 2 (V.bp 600002 0 [])).set 5 (V.bp 600005 0 [])).set 7 (V.dat .bool x7)).set 8 (V.bp 600008 0 [])).set 9 (V.bp 600009 0 [])).set 66 (V.dat (.sl 29 Y_Value) x66)).set 67 (V.dat (.int .i64) x67)).set 68 (V.dat (.int .i64) x68)), [⟨600009, 0, .box (V.dat Y_Object x9)⟩, ⟨600008, 0, .box (V.dat Y_Object x8)⟩, ⟨600005, 0, .box (V.dat Y_Object x5)⟩, ⟨600002, 0, .box (V.dat Y_Heap x2)⟩]⟩
noncomputable def F117.M_l2 (s : St) : Option Bool := lpAt (F117.C c116 c16 c54 c155) k n [1, 1, 1, 1, 1, 1, 1, 1, 1, 0, 1, 0] [] Tryz.f117 F117.A F117.R s
noncomputable def F117.fr_l2 (x1 : Int) (x2 : LO) (x5 : Int × (LB × (Int × (LI × (LI × (LLB × (LV × (LV × X_acceptRange)))))))) (x7 : Bool) (x8 : Int × (LB × (Int × (LI × (LI × (LLB × (LV × (LV × X_acceptRange)))))))) (x91 : LV) (x92 : Int) (x93 : Int) : St := ⟨(((((((((List.replicate 167 V.un).set 1 (V.dat (.int .i64) x1)).set 2 (V.bp 600002 0 [])).set 5 (V.bp 600005 0 [])).set 7 (V.dat .bool x7)).set 8 (V.bp 600008 0 [])).set 91 (V.dat (.sl 29 Y_Value) x91)).set 92 (V.dat (.int .i64) x92)).set 93 (V.dat (.int .i64) x93)), [⟨600008, 0, .box (V.dat Y_Object x8)⟩, ⟨600005, 0, .box (V.dat Y_Object x5)⟩, ⟨600002, 0, .box (V.dat Y_Heap x2)⟩]⟩
noncomputable def F117.M_l4 (s : St) : Option Bool := lpAt (F117.C c116 c16 c54 c155) k n [1, 1, 1, 1, 1, 1, 1, 1, 1, 1, 1, 1, 0, 1, 0] [] Tryz.f117 F117.A F117.R s
noncomputable def F117.fr_l4 (x1 : Int) (x2 : LO) (x8 : Int × (LB × (Int × (LI × (LI × (LLB × (LV × (LV × X_acceptRange)))))))) (x15 : Int × (LB × (Int × (LI × (LI × (LLB × (LV × (LV × X_acceptRange)))))))) (x135 : LV) (x136 : Int) (x137 : Int) : St := ⟨((((((((List.replicate 167 V.un).set 1 (V.dat (.int .i64) x1)).set 2 (V.bp 600002 0 [])).set 8 (V.bp 600008 0 [])).set 15 (V.bp 600015 0 [])).set 135 (V.dat (.sl 29 Y_Value) x135)).set 136 (V.dat (.int .i64) x136)).set 137 (V.dat (.int .i64) x137)), [⟨600015, 0, .box (V.dat Y_Object x15)⟩, ⟨600008, 0, .box (V.dat Y_Object x8)⟩, ⟨600002, 0, .box (V.dat Y_Heap x2)⟩]⟩
section
variable (n_l4 : Int → LO → X_Object → X_Object → LV → Int → Int → Option Bool) (x1 : Int) (x2 : LO) (x8 x15 : Int × (LB × (Int × (LI × (LI × (LLB × (LV × (LV × X_acceptRange)))))))) (x135 : LV) (x136 x137 : Int)
def F117.b_l4 (c116 : F116.E) (c16 : F16.E) (c54 : F54.E) (c155 : F155.E) (n_l4 : Int → LO → X_Object → X_Object → LV → Int → Int → Option Bool) (x1 : Int) (x2 : LO) (x8 : Int × (LB × (Int × (LI × (LI × (LLB × (LV × (LV × X_acceptRange)))))))) (x15 : Int × (LB × (Int × (LI × (LI × (LLB × (LV × (LV × X_acceptRange)))))))) (x135 : LV) (x136 : Int) (x137 : Int) : Option Bool :=
 bif (decide (x137 < x136)) then
 if 0 ≤ x137 ∧ x137 < ((List.length x135) : Int) then
 (c155 (x2, (List.getD x135 (Int.toNat x137) Z_Value))).bind fun y8 =>
 bif (!y8) then
 some false
 else
 bif (decide ((((((List.getD x135 (Int.toNat x137) Z_Value).2).2).2).2) ≥ x1)) then
 some false
 else
 n_l4 x1 x2 x8 x15 x135 x136 (IntKind.i64.wrap (x137 + (1 : Int)))
 else none
 else
 bif (x15.1 == (1 : Int)) then
 bif (decide (((List.length x15.2.2.2.2.2.2.1) : Int) > (0 : Int))) then
 some (decide (((List.length x8.2.2.2.2.2.2.1) : Int) > (0 : Int)))
 else
 some false
 else
 some false
def F117.l4 (k : Nat) : Nat → Int → LO → X_Object → X_Object → LV → Int → Int → Option Bool
  | 0, _, _, _, _, _, _, _ => none
  | n + 1, x1, x2, x8, x15, x135, x136, x137 => F117.b_l4 c116 c16 c54 c155 (fun x1 x2 x8 x15 x135 x136 x137 => F117.l4 k n x1 x2 x8 x15 x135 x136 x137) x1 x2 x8 x15 x135 x136 x137
theorem F117.e_l4 : F117.M_l4 c116 c16 c54 c155 k n (F117.fr_l4 x1 x2 x8 x15 x135 x136 x137) = F117.l4 c116 c16 c54 c155 k n x1 x2 x8 x15 x135 x136 x137 := by
  induction n generalizing x1 x2 x8 x15 x135 x136 x137 with
  | zero => exact lpAt0
  | succ n ih =>
    refine Eq.trans (b := F117.b_l4 c116 c16 c54 c155 (fun x1 x2 x8 x15 x135 x136 x137 => F117.M_l4 c116 c16 c54 c155 k n (F117.fr_l4 x1 x2 x8 x15 x135 x136 x137)) x1 x2 x8 x15 x135 x136 x137) (by kernel_rfl) ?_
    simp only [ih]
    rfl
end
section
variable (n_l2 : Int → LO → X_Object → Bool → X_Object → LV → Int → Int → Option Bool) (r_l4 : Int → LO → X_Object → X_Object → LV → Int → Int → Option Bool) (x1 : Int) (x2 : LO) (x5 : Int × (LB × (Int × (LI × (LI × (LLB × (LV × (LV × X_acceptRange)))))))) (x7 : Bool) (x8 : Int × (LB × (Int × (LI × (LI × (LLB × (LV × (LV × X_acceptRange)))))))) (x91 : LV) (x92 x93 : Int)
def F117.b_l2 (c116 : F116.E) (c16 : F16.E) (c54 : F54.E) (c155 : F155.E) (n_l2 : Int → LO → X_Object → Bool → X_Object → LV → Int → Int → Option Bool) (r_l4 : Int → LO → X_Object → X_Object → LV → Int → Int → Option Bool) (x1 : Int) (x2 : LO) (x5 : Int × (LB × (Int × (LI × (LI × (LLB × (LV × (LV × X_acceptRange)))))))) (x7 : Bool) (x8 : Int × (LB × (Int × (LI × (LI × (LLB × (LV × (LV × X_acceptRange)))))))) (x91 : LV) (x92 : Int) (x93 : Int) : Option Bool :=
 bif (decide (x93 < x92)) then
 if 0 ≤ x93 ∧ x93 < ((List.length x91) : Int) then
 (c54 (x2, (List.getD x91 (Int.toNat x93) Z_Value))).bind fun y6 =>
 bif (y6.1 != (1 : Int)) then
 some false
 else
 bif (((List.length y6.2.2.2.2.2.2.1) : Int) != (2 : Int)) then
 some false
 else
 if 0 ≤ (0 : Int) ∧ (0 : Int) < ((List.length y6.2.2.2.2.2.2.1) : Int) then
 bif (((List.getD y6.2.2.2.2.2.2.1 (Int.toNat (0 : Int)) Z_Value).1) != (4 : Int)) then
 some false
 else
 if 0 ≤ (1 : Int) ∧ (1 : Int) < ((List.length y6.2.2.2.2.2.2.1) : Int) then
 bif (((List.getD y6.2.2.2.2.2.2.1 (Int.toNat (1 : Int)) Z_Value).1) != (2 : Int)) then
 some false
 else
 n_l2 x1 x2 x5 x7 x8 x91 x92 (IntKind.i64.wrap (x93 + (1 : Int)))
 else none
 else none
 else none
 else
 bif (!x7) then
 some true
 else
 if 0 ≤ (4 : Int) ∧ (4 : Int) < ((List.length x5.2.2.2.2.2.2.1) : Int) then
 (c54 (x2, (List.getD x5.2.2.2.2.2.2.1 (Int.toNat (4 : Int)) Z_Value))).bind fun y7 =>
 r_l4 x1 x2 x8 y7 y7.2.2.2.2.2.2.1 ((List.length y7.2.2.2.2.2.2.1) : Int) (0 : Int)
 else none
def F117.c_l2 (c116 : F116.E) (c16 : F16.E) (c54 : F54.E) (c155 : F155.E) (n_l2 : Int → LO → X_Object → Bool → X_Object → LV → Int → Int → Option Bool) (r_l4 : Int → LO → X_Object → X_Object → LV → Int → Int → Option Bool) (x1 : Int) (x2 : LO) (x5 : Int × (LB × (Int × (LI × (LI × (LLB × (LV × (LV × X_acceptRange)))))))) (x7 : Bool) (x8 : Int × (LB × (Int × (LI × (LI × (LLB × (LV × (LV × X_acceptRange)))))))) (x91 : LV) (x92 : Int) (x93 : Int) : Option Bool :=
 bif (decide (x93 < x92)) then
 if 0 ≤ x93 ∧ x93 < ((List.length x91) : Int) then
 (c54 (x2, (List.getD x91 (Int.toNat x93) Z_Value))).bind fun y6 =>
 bif (y6.1 != (1 : Int)) then
 some false
 else
 bif (((List.length y6.2.2.2.2.2.2.1) : Int) != (2 : Int)) then
 some false
 else
 if (0 : Int) < ((List.length y6.2.2.2.2.2.2.1) : Int) then
 bif (((List.getD y6.2.2.2.2.2.2.1 0 Z_Value).1) != (4 : Int)) then
 some false
 else
 if (1 : Int) < ((List.length y6.2.2.2.2.2.2.1) : Int) then
 bif (((List.getD y6.2.2.2.2.2.2.1 (Int.toNat (1 : Int)) Z_Value).1) != (2 : Int)) then
 some false
 else
 n_l2 x1 x2 x5 x7 x8 x91 x92 (IntKind.i64.wrap (x93 + (1 : Int)))
 else none
 else none
 else none
 else
 bif !x7 then
 some true
 else
 if 0 ≤ (4 : Int) ∧ (4 : Int) < ((List.length x5.2.2.2.2.2.2.1) : Int) then
 (c54 (x2, (List.getD x5.2.2.2.2.2.2.1 (Int.toNat (4 : Int)) Z_Value))).bind fun y7 =>
 r_l4 x1 x2 x8 y7 y7.2.2.2.2.2.2.1 ((List.length y7.2.2.2.2.2.2.1) : Int) (0 : Int)
 else none
theorem F117.q_l2 : F117.b_l2 c116 c16 c54 c155 n_l2 r_l4 x1 x2 x5 x7 x8 x91 x92 x93 = F117.c_l2 c116 c16 c54 c155 n_l2 r_l4 x1 x2 x5 x7 x8 x91 x92 x93 := by
  simp only [F117.b_l2, F117.c_l2, qq]
def F117.l2 : Nat → Int → LO → X_Object → Bool → X_Object → LV → Int → Int → Option Bool
  | 0, _, _, _, _, _, _, _, _ => none
  | n + 1, x1, x2, x5, x7, x8, x91, x92, x93 => F117.b_l2 c116 c16 c54 c155 (fun x1 x2 x5 x7 x8 x91 x92 x93 => F117.l2 n x1 x2 x5 x7 x8 x91 x92 x93) (F117.l4 c116 c16 c54 c155 k k) x1 x2 x5 x7 x8 x91 x92 x93
theorem F117.e_l2 : F117.M_l2 c116 c16 c54 c155 k n (F117.fr_l2 x1 x2 x5 x7 x8 x91 x92 x93) = F117.l2 c116 c16 c54 c155 k n x1 x2 x5 x7 x8 x91 x92 x93 := by
  induction n generalizing x1 x2 x5 x7 x8 x91 x92 x93 with
  | zero => exact lpAt0
  | succ n ih =>
    refine Eq.trans (b := F117.b_l2 c116 c16 c54 c155 (fun x1 x2 x5 x7 x8 x91 x92 x93 => F117.M_l2 c116 c16 c54 c155 k n (F117.fr_l2 x1 x2 x5 x7 x8 x91 x92 x93)) (fun x1 x2 x8 x15 x135 x136 x137 => F117.M_l4 c116 c16 c54 c155 k k (F117.fr_l4 x1 x2 x8 x15 x135 x136 x137)) x1 x2 x5 x7 x8 x91 x92 x93) (by kernel_rfl) ?_
    simp only [F117.e_l4, ih]
    rfl
end
section
variable (n_l0 : Int → LO → X_Object → Bool → X_Object → X_Object → LV → Int → Int → Option Bool) (r_l2 : Int → LO → X_Object → Bool → X_Object → LV → Int → Int → Option Bool) (x1 : Int) (x2 : LO) (x5 : Int × (LB × (Int × (LI × (LI × (LLB × (LV × (LV × X_acceptRange)))))))) (x7 : Bool) (x8 x9 : Int × (LB × (Int × (LI × (LI × (LLB × (LV × (LV × X_acceptRange)))))))) (x66 : LV) (x67 x68 : Int)
def F117.b_l0 (c116 : F116.E) (c16 : F16.E) (c54 : F54.E) (c155 : F155.E) (n_l0 : Int → LO → X_Object → Bool → X_Object → X_Object → LV → Int → Int → Option Bool) (r_l2 : Int → LO → X_Object → Bool → X_Object → LV → Int → Int → Option Bool) (x1 : Int) (x2 : LO) (x5 : Int × (LB × (Int × (LI × (LI × (LLB × (LV × (LV × X_acceptRange)))))))) (x7 : Bool) (x8 : Int × (LB × (Int × (LI × (LI × (LLB × (LV × (LV × X_acceptRange)))))))) (x9 : Int × (LB × (Int × (LI × (LI × (LLB × (LV × (LV × X_acceptRange)))))))) (x66 : LV) (x67 : Int) (x68 : Int) : Option Bool :=
 bif (decide (x68 < x67)) then
 if 0 ≤ x68 ∧ x68 < ((List.length x66) : Int) then
 bif (((List.getD x66 (Int.toNat x68) Z_Value).1) != (0 : Int)) then
 (c155 (x2, (List.getD x66 (Int.toNat x68) Z_Value))).bind fun y5 =>
 bif (!y5) then
 some false
 else
 n_l0 x1 x2 x5 x7 x8 x9 x66 x67 (IntKind.i64.wrap (x68 + (1 : Int)))
 else
 n_l0 x1 x2 x5 x7 x8 x9 x66 x67 (IntKind.i64.wrap (x68 + (1 : Int)))
 else none
 else
 bif (x8.1 != (1 : Int)) then
 some false
 else
 bif (x9.1 != (1 : Int)) then
 some false
 else
 r_l2 x1 x2 x5 x7 x8 x9.2.2.2.2.2.2.1 ((List.length x9.2.2.2.2.2.2.1) : Int) (0 : Int)
def F117.l0 : Nat → Int → LO → X_Object → Bool → X_Object → X_Object → LV → Int → Int → Option Bool
  | 0, _, _, _, _, _, _, _, _, _ => none
  | n + 1, x1, x2, x5, x7, x8, x9, x66, x67, x68 => F117.b_l0 c116 c16 c54 c155 (fun x1 x2 x5 x7 x8 x9 x66 x67 x68 => F117.l0 n x1 x2 x5 x7 x8 x9 x66 x67 x68) (F117.l2 c116 c16 c54 c155 k k) x1 x2 x5 x7 x8 x9 x66 x67 x68
theorem F117.e_l0 : F117.M_l0 c116 c16 c54 c155 k n (F117.fr_l0 x1 x2 x5 x7 x8 x9 x66 x67 x68) = F117.l0 c116 c16 c54 c155 k n x1 x2 x5 x7 x8 x9 x66 x67 x68 := by
  induction n generalizing x1 x2 x5 x7 x8 x9 x66 x67 x68 with
  | zero => exact lpAt0
  | succ n ih =>
    refine Eq.trans (b := F117.b_l0 c116 c16 c54 c155 (fun x1 x2 x5 x7 x8 x9 x66 x67 x68 => F117.M_l0 c116 c16 c54 c155 k n (F117.fr_l0 x1 x2 x5 x7 x8 x9 x66 x67 x68)) (fun x1 x2 x5 x7 x8 x91 x92 x93 => F117.M_l2 c116 c16 c54 c155 k k (F117.fr_l2 x1 x2 x5 x7 x8 x91 x92 x93)) x1 x2 x5 x7 x8 x9 x66 x67 x68) (by kernel_rfl) ?_
    simp only [F117.e_l2, ih]
    rfl
end
section
variable (r_l0 : Int → LO → X_Object → Bool → X_Object → X_Object → LV → Int → Int → Option Bool) (x1 : Int) (x2 : LO) (x5 : Int × (LB × (Int × (LI × (LI × (LLB × (LV × (LV × X_acceptRange)))))))) (x6 : LLB) (x7 : Bool)
def F117.b_g6 (c116 : F116.E) (c16 : F16.E) (c54 : F54.E) (c155 : F155.E) (r_l0 : Int → LO → X_Object → Bool → X_Object → X_Object → LV → Int → Int → Option Bool) (x1 : Int) (x2 : LO) (x5 : Int × (LB × (Int × (LI × (LI × (LLB × (LV × (LV × X_acceptRange)))))))) (x6 : LLB) (x7 : Bool) : Option Bool :=
 bif (decide (((List.length x5.2.2.2.2.2.1) : Int) < (((List.length x6) : Nat) : Int))) then
 some false
 else
 if 0 ≤ (0 : Int) ∧ (0 : Int) ≤ (((List.length x6) : Nat) : Int) ∧ (((List.length x6) : Nat) : Int) ≤ ((List.length x5.2.2.2.2.2.1) : Int) then
 (c16 ((List.drop (Int.toNat (0 : Int)) (List.take (Int.toNat (((List.length x6) : Nat) : Int)) x5.2.2.2.2.2.1)), (List.take (List.length x6) x6))).bind fun y2 =>
 bif (!y2) then
 some false
 else
 if 0 ≤ (0 : Int) ∧ (0 : Int) < ((List.length x5.2.2.2.2.2.2.1) : Int) then
 (c54 (x2, (List.getD x5.2.2.2.2.2.2.1 (Int.toNat (0 : Int)) Z_Value))).bind fun y3 =>
 if 0 ≤ (3 : Int) ∧ (3 : Int) < ((List.length x5.2.2.2.2.2.2.1) : Int) then
 (c54 (x2, (List.getD x5.2.2.2.2.2.2.1 (Int.toNat (3 : Int)) Z_Value))).bind fun y4 =>
 if 0 ≤ (1 : Int) ∧ (1 : Int) ≤ (3 : Int) ∧ (3 : Int) ≤ ((List.length x5.2.2.2.2.2.2.1) : Int) then
 r_l0 x1 x2 x5 x7 y3 y4 (List.drop (Int.toNat (1 : Int)) (List.take (Int.toNat (3 : Int)) x5.2.2.2.2.2.2.1)) ((List.length (List.drop (Int.toNat (1 : Int)) (List.take (Int.toNat (3 : Int)) x5.2.2.2.2.2.2.1))) : Int) (0 : Int)
 else none
 else none
 else none
 else none
def F117.c_g6 (c116 : F116.E) (c16 : F16.E) (c54 : F54.E) (c155 : F155.E) (r_l0 : Int → LO → X_Object → Bool → X_Object → X_Object → LV → Int → Int → Option Bool) (x1 : Int) (x2 : LO) (x5 : Int × (LB × (Int × (LI × (LI × (LLB × (LV × (LV × X_acceptRange)))))))) (x6 : LLB) (x7 : Bool) : Option Bool :=
 bif (decide (((List.length x5.2.2.2.2.2.1) : Int) < ((List.length x6) : Int))) then
 some false
 else
 if (0 : Int) ≤ ((List.length x6) : Int) ∧ ((List.length x6) : Int) ≤ ((List.length x5.2.2.2.2.2.1) : Int) then
 (c16 ((List.take (List.length x6) x5.2.2.2.2.2.1), x6)).bind fun y2 =>
 bif !y2 then
 some false
 else
 if (0 : Int) < ((List.length x5.2.2.2.2.2.2.1) : Int) then
 (c54 (x2, (List.getD x5.2.2.2.2.2.2.1 0 Z_Value))).bind fun y3 =>
 if 0 ≤ (3 : Int) ∧ (3 : Int) < ((List.length x5.2.2.2.2.2.2.1) : Int) then
 (c54 (x2, (List.getD x5.2.2.2.2.2.2.1 (Int.toNat (3 : Int)) Z_Value))).bind fun y4 =>
 if (1 : Int) ≤ (3 : Int) ∧ (3 : Int) ≤ ((List.length x5.2.2.2.2.2.2.1) : Int) then
 r_l0 x1 x2 x5 x7 y3 y4 (List.drop (Int.toNat (1 : Int)) (List.take (Int.toNat (3 : Int)) x5.2.2.2.2.2.2.1)) ((List.length (List.drop (Int.toNat (1 : Int)) (List.take (Int.toNat (3 : Int)) x5.2.2.2.2.2.2.1))) : Int) (0 : Int)
 else none
 else none
 else none
 else none
theorem F117.q_g6 : F117.b_g6 c116 c16 c54 c155 r_l0 x1 x2 x5 x6 x7 = F117.c_g6 c116 c16 c54 c155 r_l0 x1 x2 x5 x6 x7 := by
  simp only [F117.b_g6, F117.c_g6, qq]
def F117.g6 : Option Bool := gate k (F117.b_g6 c116 c16 c54 c155 (F117.l0 c116 c16 c54 c155 k k) x1 x2 x5 x6 x7)
theorem F117.e_g6 : F117.M_g6 c116 c16 c54 c155 k (F117.fr_g6 x1 x2 x5 x6 x7) = F117.g6 c116 c16 c54 c155 k x1 x2 x5 x6 x7 := by
  refine Eq.trans (b := gate k (F117.b_g6 c116 c16 c54 c155 (fun x1 x2 x5 x7 x8 x9 x66 x67 x68 => F117.M_l0 c116 c16 c54 c155 k k (F117.fr_l0 x1 x2 x5 x7 x8 x9 x66 x67 x68)) x1 x2 x5 x6 x7)) (by kernel_rfl) ?_
  simp only [F117.e_l0]
  rfl
end
variable (r_g6 : Int → LO → X_Object → LLB → Bool → Option Bool) (a0 : LO) (a1 : Int)
def F117.b (c16 : F16.E) (c54 : F54.E) (c155 : F155.E) (r_g6 : Int → LO → X_Object → LLB → Bool → Option Bool) (a0 : LO) (a1 : Int) : Option Bool :=
 if 0 ≤ a1 ∧ a1 < ((List.length a0) : Int) then
 if 0 ≤ ((((List.getD a0 (Int.toNat a1) Z_Object).2).2).1) ∧ ((((List.getD a0 (Int.toNat a1) Z_Object).2).2).1) < ((List.length a0) : Int) then
 (c116 ((((((List.getD a0 (Int.toNat ((((List.getD a0 (Int.toNat a1) Z_Object).2).2).1)) Z_Object).2).2).2).2).1, (48 : Int))).bind fun y1 =>
 bif y1 then
 if 4 ≤ (List.length ([[97, 114, 103, 115], [99, 97, 117, 115, 101], [99, 111, 110, 116, 101, 120, 116], [116, 114, 97, 99, 101]] : LLB)) ∧ (4 + (List.length (List.take 1 ([[109, 101, 109, 98, 101, 114, 115]] : LLB)))) * 16 ≤ LIM then
 r_g6 a1 a0 (List.getD a0 (Int.toNat a1) Z_Object) (List.take (List.length (List.append (List.take 4 ([[97, 114, 103, 115], [99, 97, 117, 115, 101], [99, 111, 110, 116, 101, 120, 116], [116, 114, 97, 99, 101]] : LLB)) (List.take 1 ([[109, 101, 109, 98, 101, 114, 115]] : LLB)))) (List.append (List.take 4 ([[97, 114, 103, 115], [99, 97, 117, 115, 101], [99, 111, 110, 116, 101, 120, 116], [116, 114, 97, 99, 101]] : LLB)) (List.take 1 ([[109, 101, 109, 98, 101, 114, 115]] : LLB)))) y1
 else none
 else
 r_g6 a1 a0 (List.getD a0 (Int.toNat a1) Z_Object) (List.take 4 ([[97, 114, 103, 115], [99, 97, 117, 115, 101], [99, 111, 110, 116, 101, 120, 116], [116, 114, 97, 99, 101]] : LLB)) y1
 else none
 else none
def F117.c (c16 : F16.E) (c54 : F54.E) (c155 : F155.E) (r_g6 : Int → LO → X_Object → LLB → Bool → Option Bool) (a0 : LO) (a1 : Int) : Option Bool :=
 if 0 ≤ a1 ∧ a1 < ((List.length a0) : Int) then
 if 0 ≤ ((((List.getD a0 (Int.toNat a1) Z_Object).2).2).1) ∧ ((((List.getD a0 (Int.toNat a1) Z_Object).2).2).1) < ((List.length a0) : Int) then
 (c116 ((((((List.getD a0 (Int.toNat ((((List.getD a0 (Int.toNat a1) Z_Object).2).2).1)) Z_Object).2).2).2).2).1, (48 : Int))).bind fun y1 =>
 bif y1 then
 if 4 ≤ (List.length ([[97, 114, 103, 115], [99, 97, 117, 115, 101], [99, 111, 110, 116, 101, 120, 116], [116, 114, 97, 99, 101]] : LLB)) ∧ (4 + (List.length ([[109, 101, 109, 98, 101, 114, 115]] : LLB))) * 16 ≤ LIM then
 r_g6 a1 a0 (List.getD a0 (Int.toNat a1) Z_Object) ((List.take 4 ([[97, 114, 103, 115], [99, 97, 117, 115, 101], [99, 111, 110, 116, 101, 120, 116], [116, 114, 97, 99, 101]] : LLB)) ++ ([[109, 101, 109, 98, 101, 114, 115]] : LLB)) y1
 else none
 else
 r_g6 a1 a0 (List.getD a0 (Int.toNat a1) Z_Object) (List.take 4 ([[97, 114, 103, 115], [99, 97, 117, 115, 101], [99, 111, 110, 116, 101, 120, 116], [116, 114, 97, 99, 101]] : LLB)) y1
 else none
 else none
theorem F117.q : F117.b c116 c16 c54 c155 r_g6 a0 a1 = F117.c c116 c16 c54 c155 r_g6 a0 a1 := by
  simp only [F117.b, F117.c, qq]
def F117.f : Option Bool := F117.b c116 c16 c54 c155 (F117.g6 c116 c16 c54 c155 k) a0 a1
theorem F117.e : fn (F117.C c116 c16 c54 c155) k Tryz.f117 F117.A F117.R (a0, a1) = F117.f c116 c16 c54 c155 k a0 a1 := by
  refine Eq.trans (b := F117.b c116 c16 c54 c155 (fun x1 x2 x5 x6 x7 => F117.M_g6 c116 c16 c54 c155 k (F117.fr_g6 x1 x2 x5 x6 x7)) a0 a1) (by kernel_rfl) ?_
  simp only [F117.e_g6]
  rfl
end
def F117.u (k : Nat) : F117.E := fun y => F117.f (F116.u k) (F16.u k) (F54.u k) (F155.u k) k y.1 y.2
theorem F117.sound (k : Nat) : Sound Tryz.prog ⟨117, F117.A, F117.R, F117.u k⟩ := sn gr Tryz.func117 (fun y => F117.e (F116.u k) (F16.u k) (F54.u k) (F155.u k) k y.1 y.2) (al (F116.sound k) (al (F16.sound k) (al (F54.sound k) (al (F155.sound k) al0))))
/-! ### brindlewood/brindlewoodref7.links: f75 -/
abbrev F75.A : List Sh := [(.d Y_Heap), (.d (.int .i64))]
abbrev F75.R : List Sh := [(.d .bool)]
abbrev F75.E : Type := (LO × Int) → Option Bool
section
variable (c113 : F113.E) (c56 : F56.E) (c114 : F114.E) (c115 : F115.E) (c116 : F116.E) (c117 : F117.E) (c54 : F54.E) (c21 : F21.E)
variable (k n : Nat)
def F75.C : Ctx := cx [⟨113, F113.A, F113.R, c113⟩, ⟨56, F56.A, F56.R, c56⟩, ⟨114, F114.A, F114.R, c114⟩, ⟨115, F115.A, F115.R, c115⟩, ⟨116, F116.A, F116.R, c116⟩, ⟨117, F117.A, F117.R, c117⟩, ⟨54, F54.A, F54.R, c54⟩, ⟨21, F21.A, F21.R, c21⟩] [(1, [.bx 2 600002 (.d Y_Heap), .bx 5 600005 (.d Y_Object), .d 30 (.sl 3 (.int .i64)), .d 31 (.int .i64), .d 32 (.int .i64)]), (100015, [.bx 2 600002 (.d Y_Heap), .bx 5 600005 (.d Y_Object)]), (3, [.d 1 (.int .i64), .bx 2 600002 (.d Y_Heap), .bx 5 600005 (.d Y_Object), .d 64 (.sl 3 (.int .i64)), .d 65 (.int .i64), .d 66 (.int .i64)]), (100025, [.d 1 (.int .i64), .bx 2 600002 (.d Y_Heap), .bx 5 600005 (.d Y_Object)]), (100027, [.bx 2 600002 (.d Y_Heap), .bx 5 600005 (.d Y_Object)]), (100035, [.bx 2 600002 (.d Y_Heap), .bx 10 600010 (.d Y_Value), .d 12 (.int .i64)]), (100037, [.bx 2 600002 (.d Y_Heap), .bx 5 600005 (.d Y_Object)]), (100042, [.bx 5 600005 (.d Y_Object)]), (100044, [.bx 5 600005 (.d Y_Object)]), (100039, [.bx 5 600005 (.d Y_Object), .bx 14 600014 (.d Y_Object)]), (100047, [.bx 2 600002 (.d Y_Heap), .bx 5 600005 (.d Y_Object)]), (100050, [.bx 2 600002 (.d Y_Heap), .bx 5 600005 (.d Y_Object)]), (100052, [.bx 5 600005 (.d Y_Object)])]
noncomputable def F75.M_l1 (s : St) : Option Bool := lpAt (F75.C c113 c56 c114 c115 c116 c117 c54 c21) k n [1, 1, 0, 1, 0, 1, 1, 1, 0, 0, 1, 0] [] Tryz.f75 F75.A F75.R s
noncomputable def F75.fr_l1 (x2 : LO) (x5 : Int × (LB × (Int × (LI × (LI × (LLB × (LV × (LV × X_acceptRange)))))))) (x30 : LI) (x31 : Int) (x32 : Int) : St := ⟨((((((List.replicate 286 V.un).set 2 (V.bp 600002 0 [])).set 5 (V.bp 600005 0 [])).set 30 (V.dat (.sl 3 (.int .i64)) x30)).set 31 (V.dat (.int .i64) x31)).set 32 (V.dat (.int .i64) x32)), [⟨600005, 0, .box (V.dat Y_Object x5)⟩, ⟨600002, 0, .box (V.dat Y_Heap x2)⟩]⟩
noncomputable def F75.M_g15 (s : St) : Option Bool := gtAt (F75.C c113 c56 c114 c115 c116 c117 c54 c21) k [1, 1, 0, 1, 0, 1, 1, 1, 1, 1, 0, 0] [] Tryz.f75 F75.A F75.R s
noncomputable def F75.fr_g15 (x2 : LO) (x5 : Int × (LB × (Int × (LI × (LI × (LLB × (LV × (LV × X_acceptRange)))))))) : St := ⟨(((List.replicate 286 V.un).set 2 (V.bp 600002 0 [])).set 5 (V.bp 600005 0 [])), [⟨600005, 0, .box (V.dat Y_Object x5)⟩, ⟨600002, 0, .box (V.dat Y_Heap x2)⟩]⟩
noncomputable def F75.M_l3 (s : St) : Option Bool := lpAt (F75.C c113 c56 c114 c115 c116 c117 c54 c21) k n [1, 1, 0, 1, 0, 1, 1, 1, 1, 1, 1, 1, 0, 0, 1, 0] [] Tryz.f75 F75.A F75.R s
noncomputable def F75.fr_l3 (x1 : Int) (x2 : LO) (x5 : Int × (LB × (Int × (LI × (LI × (LLB × (LV × (LV × X_acceptRange)))))))) (x64 : LI) (x65 : Int) (x66 : Int) : St := ⟨(((((((List.replicate 286 V.un).set 1 (V.dat (.int .i64) x1)).set 2 (V.bp 600002 0 [])).set 5 (V.bp 600005 0 [])).set 64 (V.dat (.sl 3 (.int .i64)) x64)).set 65 (V.dat (.int .i64) x65)).set 66 (V.dat (.int .i64) x66)), [⟨600005, 0, .box (V.dat Y_Object x5)⟩, ⟨600002, 0, .box (V.dat Y_Heap x2)⟩]⟩
noncomputable def F75.M_g25 (s : St) : Option Bool := gtAt (F75.C c113 c56 c114 c115 c116 c117 c54 c21) k [1, 1, 0, 1, 0, 1, 1, 1, 1, 1, 1, 1, 1, 1, 0, 0] [] Tryz.f75 F75.A F75.R s
noncomputable def F75.fr_g25 (x1 : Int) (x2 : LO) (x5 : Int × (LB × (Int × (LI × (LI × (LLB × (LV × (LV × X_acceptRange)))))))) : St := ⟨((((List.replicate 286 V.un).set 1 (V.dat (.int .i64) x1)).set 2 (V.bp 600002 0 [])).set 5 (V.bp 600005 0 [])), [⟨600005, 0, .box (V.dat Y_Object x5)⟩, ⟨600002, 0, .box (V.dat Y_Heap x2)⟩]⟩
noncomputable def F75.M_g27 (s : St) : Option Bool := gtAt (F75.C c113 c56 c114 c115 c116 c117 c54 c21) k [1, 1, 0, 1, 0, 1, 1, 1, 1, 1, 1, 1, 1, 1, 1, 1, 0, 0] [] Tryz.f75 F75.A F75.R s
noncomputable def F75.fr_g27 (x2 : LO) (x5 : Int × (LB × (Int × (LI × (LI × (LLB × (LV × (LV × X_acceptRange)))))))) : St := ⟨(((List.replicate 286 V.un).set 2 (V.bp 600002 0 [])).set 5 (V.bp 600005 0 [])), [⟨600005, 0, .box (V.dat Y_Object x5)⟩, ⟨600002, 0, .box (V.dat Y_Heap x2)⟩]⟩
noncomputable def F75.M_g35 (s : St) : Option Bool := gtAt (F75.C c113 c56 c114 c115 c116 c117 c54 c21) k [1, 1, 0, 1, 0, 1, 1, 1, 1, 1, 1, 1, 1, 1, 1, 1, 0, 1, 1, 1, 0] [] Tryz.f75 F75.A F75.R s
noncomputable def F75.fr_g35 (x2 : LO) (x10 : Int × (X_Int × (X_Int × X_errorAddressString))) (x12 : Int) : St := ⟨((((List.replicate 286 V.un).set 2 (V.bp 600002 0 [])).set 10 (V.bp 600010 0 [])).set 12 (V.dat (.int .i64) x12)), [⟨600010, 0, .box (V.dat Y_Value x10)⟩, ⟨600002, 0, .box (V.dat Y_Heap x2)⟩]⟩
noncomputable def F75.M_g37 (s : St) : Option Bool := gtAt (F75.C c113 c56 c114 c115 c116 c117 c54 c21) k [1, 1, 0, 1, 0, 1, 1, 1, 1, 1, 1, 1, 1, 1, 1, 1, 1, 1, 0, 0] [] Tryz.f75 F75.A F75.R s
noncomputable def F75.fr_g37 (x2 : LO) (x5 : Int × (LB × (Int × (LI × (LI × (LLB × (LV × (LV × X_acceptRange)))))))) : St := ⟨(((List.replicate 286 V.un).set 2 (V.bp 600002 0 [])).set 5 (V.bp 600005 0 [])), [⟨600005, 0, .box (V.dat Y_Object x5)⟩, ⟨600002, 0, .box (V.dat Y_Heap x2)⟩]⟩
noncomputable def F75.M_g42 (s : St) : Option Bool := gtAt (F75.C c113 c56 c114 c115 c116 c117 c54 c21) k [1, 1, 0, 1, 0, 1, 1, 1, 1, 1, 1, 1, 1, 1, 1, 1, 1, 1, 0, 1, 1, 0, 1, 0, 0] [] Tryz.f75 F75.A F75.R s
noncomputable def F75.fr_g42 (x5 : Int × (LB × (Int × (LI × (LI × (LLB × (LV × (LV × X_acceptRange)))))))) : St := ⟨((List.replicate 286 V.un).set 5 (V.bp 600005 0 [])), [⟨600005, 0, .box (V.dat Y_Object x5)⟩]⟩
noncomputable def F75.M_g44 (s : St) : Option Bool := gtAt (F75.C c113 c56 c114 c115 c116 c117 c54 c21) k [1, 1, 0, 1, 0, 1, 1, 1, 1, 1, 1, 1, 1, 1, 1, 1, 1, 1, 0, 1, 1, 0, 1, 1, 1, 0, 0] [] Tryz.f75 F75.A F75.R s
noncomputable def F75.fr_g44 (x5 : Int × (LB × (Int × (LI × (LI × (LLB × (LV × (LV × X_acceptRange)))))))) : St := ⟨((List.replicate 286 V.un).set 5 (V.bp 600005 0 [])), [⟨600005, 0, .box (V.dat Y_Object x5)⟩]⟩
noncomputable def F75.M_g39 (s : St) : Option Bool := gtAt (F75.C c113 c56 c114 c115 c116 c117 c54 c21) k [1, 1, 0, 1, 0, 1, 1, 1, 1, 1, 1, 1, 1, 1, 1, 1, 1, 1, 0, 1, 1, 0, 1, 1, 1, 1, 0] [] Tryz.f75 F75.A F75.R s
noncomputable def F75.fr_g39 (x5 : Int × (LB × (Int × (LI × (LI × (LLB × (LV × (LV × X_acceptRange)))))))) (x14 : Int × (LB × (Int × (LI × (LI × (LLB × (LV × (LV × X_acceptRange)))))))) : St := ⟨(((List.replicate 286 V.un).set 5 (V.bp 600005 0 [])).set 14 (V.bp 600014 0 [])), [⟨600014, 0, .box (V.dat Y_Object x14)⟩, ⟨600005, 0, .box (V.dat Y_Object x5)⟩]⟩
noncomputable def F75.M_g47 (s : St) : Option Bool := gtAt (F75.C c113 c56 c114 c115 c116 c117 c54 c21) k [1, 1, 0, 1, 0, 1, 1, 1, 1, 1, 1, 1, 1, 1, 1, 1, 1, 1, 1, 1, 0, 1, 0, 0] [] Tryz.f75 F75.A F75.R s
noncomputable def F75.fr_g47 (x2 : LO) (x5 : Int × (LB × (Int × (LI × (LI × (LLB × (LV × (LV × X_acceptRange)))))))) : St := ⟨(((List.replicate 286 V.un).set 2 (V.bp 600002 0 [])).set 5 (V.bp 600005 0 [])), [⟨600005, 0, .box (V.dat Y_Object x5)⟩, ⟨600002, 0, .box (V.dat Y_Heap x2)⟩]⟩
noncomputable def F75.M_g50 (s : St) : Option Bool := gtAt (F75.C c113 c56 c114 c115 c116 c117 c54 c21) k [1, 1, 0, 1, 0, 1, 1, 1, 1, 1, 1, 1, 1, 1, 1, 1, 1, 1, 1, 1, 1, 1, 0, 0] [] Tryz.f75 F75.A F75.R s
noncomputable def F75.fr_g50 (x2 : LO) (x5 : Int × (LB × (Int × (LI × (LI × (LLB × (LV × (LV × X_acceptRange)))))))) : St := ⟨(((List.replicate 286 V.un).set 2 (V.bp 600002 0 [])).set 5 (V.bp 600005 0 [])), [⟨600005, 0, .box (V.dat Y_Object x5)⟩, ⟨600002, 0, .box (V.dat Y_Heap x2)⟩]⟩
noncomputable def F75.M_g52 (s : St) : Option Bool := gtAt (F75.C c113 c56 c114 c115 c116 c117 c54 c21) k [1, 1, 0, 1, 0, 1, 1, 1, 1, 1, 1, 1, 1, 1, 1, 1, 1, 1, 1, 1, 1, 1, 1, 1, 0, 0] [] Tryz.f75 F75.A F75.R s
noncomputable def F75.fr_g52 (x5 : Int × (LB × (Int × (LI × (LI × (LLB × (LV × (LV × X_acceptRange)))))))) : St := ⟨((List.replicate 286 V.un).set 5 (V.bp 600005 0 [])), [⟨600005, 0, .box (V.dat Y_Object x5)⟩]⟩
section
variable (n_l1 : LO → X_Object → LI → Int → Int → Option Bool) (x2 : LO) (x5 : Int × (LB × (Int × (LI × (LI × (LLB × (LV × (LV × X_acceptRange)))))))) (x30 : LI) (x31 x32 : Int)
def F75.b_l1 (c113 : F113.E) (c56 : F56.E) (c114 : F114.E) (c115 : F115.E) (c116 : F116.E) (c117 : F117.E) (c54 : F54.E) (c21 : F21.E) (n_l1 : LO → X_Object → LI → Int → Int → Option Bool) (x2 : LO) (x5 : Int × (LB × (Int × (LI × (LI × (LLB × (LV × (LV × X_acceptRange)))))))) (x30 : LI) (x31 : Int) (x32 : Int) : Option Bool :=
 bif (decide (x32 < x31)) then
 if 0 ≤ x32 ∧ x32 < ((List.length x30) : Int) then
 if 0 ≤ (List.getD x30 (Int.toNat x32) (0 : Int)) ∧ (List.getD x30 (Int.toNat x32) (0 : Int)) < ((List.length x2) : Int) then
 bif (((List.getD x2 (Int.toNat (List.getD x30 (Int.toNat x32) (0 : Int))) Z_Object).1) != (6 : Int)) then
 some false
 else
 n_l1 x2 x5 x30 x31 (IntKind.i64.wrap (x32 + (1 : Int)))
 else none
 else none
 else
 if 0 ≤ x5.2.2.1 ∧ x5.2.2.1 < ((List.length x2) : Int) then
 some (((List.getD x2 (Int.toNat x5.2.2.1) Z_Object).1) == (11 : Int))
 else none
def F75.l1 (k : Nat) : Nat → LO → X_Object → LI → Int → Int → Option Bool
  | 0, _, _, _, _, _ => none
  | n + 1, x2, x5, x30, x31, x32 => F75.b_l1 c113 c56 c114 c115 c116 c117 c54 c21 (fun x2 x5 x30 x31 x32 => F75.l1 k n x2 x5 x30 x31 x32) x2 x5 x30 x31 x32
theorem F75.e_l1 : F75.M_l1 c113 c56 c114 c115 c116 c117 c54 c21 k n (F75.fr_l1 x2 x5 x30 x31 x32) = F75.l1 c113 c56 c114 c115 c116 c117 c54 c21 k n x2 x5 x30 x31 x32 := by
  induction n generalizing x2 x5 x30 x31 x32 with
  | zero => exact lpAt0
  | succ n ih =>
    refine Eq.trans (b := F75.b_l1 c113 c56 c114 c115 c116 c117 c54 c21 (fun x2 x5 x30 x31 x32 => F75.M_l1 c113 c56 c114 c115 c116 c117 c54 c21 k n (F75.fr_l1 x2 x5 x30 x31 x32)) x2 x5 x30 x31 x32) (by kernel_rfl) ?_
    simp only [ih]
    rfl
end
section
variable (x2 : LO) (x5 : Int × (LB × (Int × (LI × (LI × (LLB × (LV × (LV × X_acceptRange))))))))
def F75.b_g15 (c113 : F113.E) (c56 : F56.E) (c114 : F114.E) (c115 : F115.E) (c116 : F116.E) (c117 : F117.E) (c54 : F54.E) (c21 : F21.E) (x2 : LO) (x5 : Int × (LB × (Int × (LI × (LI × (LLB × (LV × (LV × X_acceptRange)))))))) : Option Bool :=
 if 0 ≤ (0 : Int) ∧ (0 : Int) < ((List.length x5.2.2.2.2.2.2.1) : Int) then
 (c56 (x2, (List.getD x5.2.2.2.2.2.2.1 (Int.toNat (0 : Int)) Z_Value))).bind fun y2 =>
 some y2
 else none
def F75.c_g15 (c113 : F113.E) (c56 : F56.E) (c114 : F114.E) (c115 : F115.E) (c116 : F116.E) (c117 : F117.E) (c54 : F54.E) (c21 : F21.E) (x2 : LO) (x5 : Int × (LB × (Int × (LI × (LI × (LLB × (LV × (LV × X_acceptRange)))))))) : Option Bool :=
 if (0 : Int) < ((List.length x5.2.2.2.2.2.2.1) : Int) then
 (c56 (x2, (List.getD x5.2.2.2.2.2.2.1 0 Z_Value))).bind fun y2 =>
 some y2
 else none
theorem F75.q_g15 : F75.b_g15 c113 c56 c114 c115 c116 c117 c54 c21 x2 x5 = F75.c_g15 c113 c56 c114 c115 c116 c117 c54 c21 x2 x5 := by
  simp only [F75.b_g15, F75.c_g15, qq]
def F75.g15 : Option Bool := gate k (F75.b_g15 c113 c56 c114 c115 c116 c117 c54 c21 x2 x5)
theorem F75.e_g15 : F75.M_g15 c113 c56 c114 c115 c116 c117 c54 c21 k (F75.fr_g15 x2 x5) = F75.g15 c113 c56 c114 c115 c116 c117 c54 c21 k x2 x5 := by
  kernel_rfl
end
section
variable (n_l3 : Int → LO → X_Object → LI → Int → Int → Option Bool) (x1 : Int) (x2 : LO) (x5 : Int × (LB × (Int × (LI × (LI × (LLB × (LV × (LV × X_acceptRange)))))))) (x64 : LI) (x65 x66 : Int)
def F75.b_l3 (c113 : F113.E) (c56 : F56.E) (c114 : F114.E) (c115 : F115.E) (c116 : F116.E) (c117 : F117.E) (c54 : F54.E) (c21 : F21.E) (n_l3 : Int → LO → X_Object → LI → Int → Int → Option Bool) (x1 : Int) (x2 : LO) (x5 : Int × (LB × (Int × (LI × (LI × (LLB × (LV × (LV × X_acceptRange)))))))) (x64 : LI) (x65 : Int) (x66 : Int) : Option Bool :=
 bif (decide (x66 < x65)) then
 if 0 ≤ x66 ∧ x66 < ((List.length x64) : Int) then
 bif (decide ((List.getD x64 (Int.toNat x66) (0 : Int)) ≥ x1)) then
 some false
 else
 (c114 (x2, (List.getD x64 (Int.toNat x66) (0 : Int)))).bind fun y3 =>
 bif (!y3) then
 some false
 else
 (c115 (List.getD x64 (Int.toNat x66) (0 : Int))).bind fun y4 =>
 bif (!y4) then
 some false
 else
 n_l3 x1 x2 x5 x64 x65 (IntKind.i64.wrap (x66 + (1 : Int)))
 else none
 else
 bif (decide (((List.length x5.2.2.2.1) : Int) ≥ (1 : Int))) then
 some (decide (((List.length x5.2.2.2.1) : Int) ≤ (8 : Int)))
 else
 some false
def F75.l3 (k : Nat) : Nat → Int → LO → X_Object → LI → Int → Int → Option Bool
  | 0, _, _, _, _, _, _ => none
  | n + 1, x1, x2, x5, x64, x65, x66 => F75.b_l3 c113 c56 c114 c115 c116 c117 c54 c21 (fun x1 x2 x5 x64 x65 x66 => F75.l3 k n x1 x2 x5 x64 x65 x66) x1 x2 x5 x64 x65 x66
theorem F75.e_l3 : F75.M_l3 c113 c56 c114 c115 c116 c117 c54 c21 k n (F75.fr_l3 x1 x2 x5 x64 x65 x66) = F75.l3 c113 c56 c114 c115 c116 c117 c54 c21 k n x1 x2 x5 x64 x65 x66 := by
  induction n generalizing x1 x2 x5 x64 x65 x66 with
  | zero => exact lpAt0
  | succ n ih =>
    refine Eq.trans (b := F75.b_l3 c113 c56 c114 c115 c116 c117 c54 c21 (fun x1 x2 x5 x64 x65 x66 => F75.M_l3 c113 c56 c114 c115 c116 c117 c54 c21 k n (F75.fr_l3 x1 x2 x5 x64 x65 x66)) x1 x2 x5 x64 x65 x66) (by kernel_rfl) ?_
    simp only [ih]
    rfl
end
section
variable (x1 : Int) (x2 : LO) (x5 : Int × (LB × (Int × (LI × (LI × (LLB × (LV × (LV × X_acceptRange))))))))
def F75.b_g25 (c113 : F113.E) (c56 : F56.E) (c114 : F114.E) (c115 : F115.E) (c116 : F116.E) (c117 : F117.E) (c54 : F54.E) (c21 : F21.E) (x1 : Int) (x2 : LO) (x5 : Int × (LB × (Int × (LI × (LI × (LLB × (LV × (LV × X_acceptRange)))))))) : Option Bool :=
 (c114 (x2, x5.2.2.1)).bind fun y5 =>
 bif y5 then
 (c115 x5.2.2.1).bind fun y6 =>
 bif y6 then
 if 0 ≤ x5.2.2.1 ∧ x5.2.2.1 < ((List.length x2) : Int) then
 (c116 ((((((List.getD x2 (Int.toNat x5.2.2.1) Z_Object).2).2).2).2).1, (28 : Int))).bind fun y7 =>
 bif (!y7) then
 some true
 else
 (c117 (x2, x1)).bind fun y8 =>
 some y8
 else none
 else
 some false
 else
 some false
def F75.g25 : Option Bool := gate k (F75.b_g25 c113 c56 c114 c115 c116 c117 c54 c21 x1 x2 x5)
theorem F75.e_g25 : F75.M_g25 c113 c56 c114 c115 c116 c117 c54 c21 k (F75.fr_g25 x1 x2 x5) = F75.g25 c113 c56 c114 c115 c116 c117 c54 c21 k x1 x2 x5 := by
  kernel_rfl
end
section
variable (x2 : LO) (x10 : Int × (X_Int × (X_Int × X_errorAddressString))) (x12 : Int)
def F75.b_g35 (c113 : F113.E) (c56 : F56.E) (c114 : F114.E) (c115 : F115.E) (c116 : F116.E) (c117 : F117.E) (c54 : F54.E) (c21 : F21.E) (x2 : LO) (x10 : Int × (X_Int × (X_Int × X_errorAddressString))) (x12 : Int) : Option Bool :=
 (c54 (x2, x10)).bind fun y10 =>
 bif (y10.1 == (9 : Int)) then
 (c21 (x2, x12)).bind fun y11 =>
 bif y11 then
 if 0 ≤ x12 ∧ x12 < ((List.length x2) : Int) then
 (c116 ((((((List.getD x2 (Int.toNat x12) Z_Object).2).2).2).2).1, x10.2.2.2.2)).bind fun y12 =>
 some y12
 else none
 else
 some false
 else
 some false
def F75.g35 : Option Bool := gate k (F75.b_g35 c113 c56 c114 c115 c116 c117 c54 c21 x2 x10 x12)
theorem F75.e_g35 : F75.M_g35 c113 c56 c114 c115 c116 c117 c54 c21 k (F75.fr_g35 x2 x10 x12) = F75.g35 c113 c56 c114 c115 c116 c117 c54 c21 k x2 x10 x12 := by
  kernel_rfl
end
section
variable (r_g35 : LO → X_Value → Int → Option Bool) (x2 : LO) (x5 : Int × (LB × (Int × (LI × (LI × (LLB × (LV × (LV × X_acceptRange))))))))
def F75.b_g27 (c113 : F113.E) (c56 : F56.E) (c114 : F114.E) (c115 : F115.E) (c116 : F116.E) (c117 : F117.E) (c54 : F54.E) (c21 : F21.E) (r_g35 : LO → X_Value → Int → Option Bool) (x2 : LO) (x5 : Int × (LB × (Int × (LI × (LI × (LLB × (LV × (LV × X_acceptRange)))))))) : Option Bool :=
 if 0 ≤ (0 : Int) ∧ (0 : Int) < ((List.length x5.2.2.2.2.2.2.1) : Int) then
 if 0 ≤ (1 : Int) ∧ (1 : Int) < ((List.length x5.2.2.2.2.2.2.1) : Int) then
 (c54 (x2, (List.getD x5.2.2.2.2.2.2.1 (Int.toNat (1 : Int)) Z_Value))).bind fun y9 =>
 bif (y9.1 == (10 : Int)) then
 r_g35 x2 (List.getD x5.2.2.2.2.2.2.1 (Int.toNat (0 : Int)) Z_Value) y9.2.2.1
 else
 bif (y9.1 == (9 : Int)) then
 r_g35 x2 (List.getD x5.2.2.2.2.2.2.1 (Int.toNat (0 : Int)) Z_Value) (((((List.getD x5.2.2.2.2.2.2.1 (Int.toNat (1 : Int)) Z_Value).2).2).2).2)
 else
 some false
 else none
 else none
def F75.c_g27 (c113 : F113.E) (c56 : F56.E) (c114 : F114.E) (c115 : F115.E) (c116 : F116.E) (c117 : F117.E) (c54 : F54.E) (c21 : F21.E) (r_g35 : LO → X_Value → Int → Option Bool) (x2 : LO) (x5 : Int × (LB × (Int × (LI × (LI × (LLB × (LV × (LV × X_acceptRange)))))))) : Option Bool :=
 if (0 : Int) < ((List.length x5.2.2.2.2.2.2.1) : Int) then
 if (1 : Int) < ((List.length x5.2.2.2.2.2.2.1) : Int) then
 (c54 (x2, (List.getD x5.2.2.2.2.2.2.1 (Int.toNat (1 : Int)) Z_Value))).bind fun y9 =>
 bif (y9.1 == (10 : Int)) then
 r_g35 x2 (List.getD x5.2.2.2.2.2.2.1 0 Z_Value) y9.2.2.1
 else
 bif (y9.1 == (9 : Int)) then
 r_g35 x2 (List.getD x5.2.2.2.2.2.2.1 0 Z_Value) (((((List.getD x5.2.2.2.2.2.2.1 (Int.toNat (1 : Int)) Z_Value).2).2).2).2)
 else
 some false
 else none
 else none
theorem F75.q_g27 : F75.b_g27 c113 c56 c114 c115 c116 c117 c54 c21 r_g35 x2 x5 = F75.c_g27 c113 c56 c114 c115 c116 c117 c54 c21 r_g35 x2 x5 := by
  simp only [F75.b_g27, F75.c_g27, qq]
def F75.g27 : Option Bool := gate k (F75.b_g27 c113 c56 c114 c115 c116 c117 c54 c21 (F75.g35 c113 c56 c114 c115 c116 c117 c54 c21 k) x2 x5)
theorem F75.e_g27 : F75.M_g27 c113 c56 c114 c115 c116 c117 c54 c21 k (F75.fr_g27 x2 x5) = F75.g27 c113 c56 c114 c115 c116 c117 c54 c21 k x2 x5 := by
  refine Eq.trans (b := gate k (F75.b_g27 c113 c56 c114 c115 c116 c117 c54 c21 (fun x2 x10 x12 => F75.M_g35 c113 c56 c114 c115 c116 c117 c54 c21 k (F75.fr_g35 x2 x10 x12)) x2 x5)) (by kernel_rfl) ?_
  simp only [F75.e_g35]
  rfl
end
section
variable (x5 : Int × (LB × (Int × (LI × (LI × (LLB × (LV × (LV × X_acceptRange))))))))
def F75.b_g42 (c113 : F113.E) (c56 : F56.E) (c114 : F114.E) (c115 : F115.E) (c116 : F116.E) (c117 : F117.E) (c54 : F54.E) (c21 : F21.E) (x5 : Int × (LB × (Int × (LI × (LI × (LLB × (LV × (LV × X_acceptRange)))))))) : Option Bool :=
 if 0 ≤ (1 : Int) ∧ (1 : Int) < ((List.length x5.2.2.2.2.2.2.1) : Int) then
 bif (((List.getD x5.2.2.2.2.2.2.1 (Int.toNat (1 : Int)) Z_Value).1) == (2 : Int)) then
 if 0 ≤ (1 : Int) ∧ (1 : Int) < ((List.length x5.2.2.2.2.2.2.1) : Int) then
 some (!((((List.getD x5.2.2.2.2.2.2.1 (Int.toNat (1 : Int)) Z_Value).2).1).1))
 else none
 else
 some false
 else none
def F75.c_g42 (c113 : F113.E) (c56 : F56.E) (c114 : F114.E) (c115 : F115.E) (c116 : F116.E) (c117 : F117.E) (c54 : F54.E) (c21 : F21.E) (x5 : Int × (LB × (Int × (LI × (LI × (LLB × (LV × (LV × X_acceptRange)))))))) : Option Bool :=
 if (1 : Int) < ((List.length x5.2.2.2.2.2.2.1) : Int) then
 bif (((List.getD x5.2.2.2.2.2.2.1 (Int.toNat (1 : Int)) Z_Value).1) == (2 : Int)) then
 if (1 : Int) < ((List.length x5.2.2.2.2.2.2.1) : Int) then
 some (! ((((List.getD x5.2.2.2.2.2.2.1 (Int.toNat (1 : Int)) Z_Value).2).1).1))
 else none
 else
 some false
 else none
theorem F75.q_g42 : F75.b_g42 c113 c56 c114 c115 c116 c117 c54 c21 x5 = F75.c_g42 c113 c56 c114 c115 c116 c117 c54 c21 x5 := by
  simp only [F75.b_g42, F75.c_g42, qq]
def F75.g42 : Option Bool := gate k (F75.b_g42 c113 c56 c114 c115 c116 c117 c54 c21 x5)
theorem F75.e_g42 : F75.M_g42 c113 c56 c114 c115 c116 c117 c54 c21 k (F75.fr_g42 x5) = F75.g42 c113 c56 c114 c115 c116 c117 c54 c21 k x5 := by
  kernel_rfl
end
section
variable (x5 : Int × (LB × (Int × (LI × (LI × (LLB × (LV × (LV × X_acceptRange))))))))
def F75.b_g44 (c113 : F113.E) (c56 : F56.E) (c114 : F114.E) (c115 : F115.E) (c116 : F116.E) (c117 : F117.E) (c54 : F54.E) (c21 : F21.E) (x5 : Int × (LB × (Int × (LI × (LI × (LLB × (LV × (LV × X_acceptRange)))))))) : Option Bool :=
 if 0 ≤ (0 : Int) ∧ (0 : Int) < ((List.length x5.2.2.2.2.2.2.1) : Int) then
 bif (((List.getD x5.2.2.2.2.2.2.1 (Int.toNat (0 : Int)) Z_Value).1) == (4 : Int)) then
 if 0 ≤ (1 : Int) ∧ (1 : Int) < ((List.length x5.2.2.2.2.2.2.1) : Int) then
 some (((List.getD x5.2.2.2.2.2.2.1 (Int.toNat (1 : Int)) Z_Value).1) == (0 : Int))
 else none
 else
 if 0 ≤ (0 : Int) ∧ (0 : Int) < ((List.length x5.2.2.2.2.2.2.1) : Int) then
 bif (((List.getD x5.2.2.2.2.2.2.1 (Int.toNat (0 : Int)) Z_Value).1) == (5 : Int)) then
 if 0 ≤ (1 : Int) ∧ (1 : Int) < ((List.length x5.2.2.2.2.2.2.1) : Int) then
 some (((List.getD x5.2.2.2.2.2.2.1 (Int.toNat (1 : Int)) Z_Value).1) == (0 : Int))
 else none
 else
 some false
 else none
 else none
def F75.c_g44 (c113 : F113.E) (c56 : F56.E) (c114 : F114.E) (c115 : F115.E) (c116 : F116.E) (c117 : F117.E) (c54 : F54.E) (c21 : F21.E) (x5 : Int × (LB × (Int × (LI × (LI × (LLB × (LV × (LV × X_acceptRange)))))))) : Option Bool :=
 if (0 : Int) < ((List.length x5.2.2.2.2.2.2.1) : Int) then
 bif (((List.getD x5.2.2.2.2.2.2.1 0 Z_Value).1) == (4 : Int)) then
 if (1 : Int) < ((List.length x5.2.2.2.2.2.2.1) : Int) then
 some (((List.getD x5.2.2.2.2.2.2.1 (Int.toNat (1 : Int)) Z_Value).1) == (0 : Int))
 else none
 else
 if (0 : Int) < ((List.length x5.2.2.2.2.2.2.1) : Int) then
 bif (((List.getD x5.2.2.2.2.2.2.1 0 Z_Value).1) == (5 : Int)) then
 if (1 : Int) < ((List.length x5.2.2.2.2.2.2.1) : Int) then
 some (((List.getD x5.2.2.2.2.2.2.1 (Int.toNat (1 : Int)) Z_Value).1) == (0 : Int))
 else none
 else
 some false
 else none
 else none
theorem F75.q_g44 : F75.b_g44 c113 c56 c114 c115 c116 c117 c54 c21 x5 = F75.c_g44 c113 c56 c114 c115 c116 c117 c54 c21 x5 := by
  simp only [F75.b_g44, F75.c_g44, qq]
def F75.g44 : Option Bool := gate k (F75.b_g44 c113 c56 c114 c115 c116 c117 c54 c21 x5)
theorem F75.e_g44 : F75.M_g44 c113 c56 c114 c115 c116 c117 c54 c21 k (F75.fr_g44 x5) = F75.g44 c113 c56 c114 c115 c116 c117 c54 c21 k x5 := by
  kernel_rfl
end
section
variable (x5 x14 : Int × (LB × (Int × (LI × (LI × (LLB × (LV × (LV × X_acceptRange))))))))
def F75.b_g39 (c113 : F113.E) (c56 : F56.E) (c114 : F114.E) (c115 : F115.E) (c116 : F116.E) (c117 : F117.E) (c54 : F54.E) (c21 : F21.E) (x5 : Int × (LB × (Int × (LI × (LI × (LLB × (LV × (LV × X_acceptRange)))))))) (x14 : Int × (LB × (Int × (LI × (LI × (LLB × (LV × (LV × X_acceptRange)))))))) : Option Bool :=
 bif (x14.1 == (1 : Int)) then
 if 0 ≤ (1 : Int) ∧ (1 : Int) < ((List.length x5.2.2.2.2.2.2.1) : Int) then
 some (((List.getD x5.2.2.2.2.2.2.1 (Int.toNat (1 : Int)) Z_Value).1) == (0 : Int))
 else none
 else
 bif (x14.1 == (2 : Int)) then
 if 0 ≤ (1 : Int) ∧ (1 : Int) < ((List.length x5.2.2.2.2.2.2.1) : Int) then
 some (((List.getD x5.2.2.2.2.2.2.1 (Int.toNat (1 : Int)) Z_Value).1) == (0 : Int))
 else none
 else
 bif (x14.1 == (5 : Int)) then
 if 0 ≤ (1 : Int) ∧ (1 : Int) < ((List.length x5.2.2.2.2.2.2.1) : Int) then
 some (((List.getD x5.2.2.2.2.2.2.1 (Int.toNat (1 : Int)) Z_Value).1) == (0 : Int))
 else none
 else
 some false
def F75.c_g39 (c113 : F113.E) (c56 : F56.E) (c114 : F114.E) (c115 : F115.E) (c116 : F116.E) (c117 : F117.E) (c54 : F54.E) (c21 : F21.E) (x5 : Int × (LB × (Int × (LI × (LI × (LLB × (LV × (LV × X_acceptRange)))))))) (x14 : Int × (LB × (Int × (LI × (LI × (LLB × (LV × (LV × X_acceptRange)))))))) : Option Bool :=
 bif (x14.1 == (1 : Int)) then
 if (1 : Int) < ((List.length x5.2.2.2.2.2.2.1) : Int) then
 some (((List.getD x5.2.2.2.2.2.2.1 (Int.toNat (1 : Int)) Z_Value).1) == (0 : Int))
 else none
 else
 bif (x14.1 == (2 : Int)) then
 if (1 : Int) < ((List.length x5.2.2.2.2.2.2.1) : Int) then
 some (((List.getD x5.2.2.2.2.2.2.1 (Int.toNat (1 : Int)) Z_Value).1) == (0 : Int))
 else none
 else
 bif (x14.1 == (5 : Int)) then
 if (1 : Int) < ((List.length x5.2.2.2.2.2.2.1) : Int) then
 some (((List.getD x5.2.2.2.2.2.2.1 (Int.toNat (1 : Int)) Z_Value).1) == (0 : Int))
 else none
 else
 some false
theorem F75.q_g39 : F75.b_g39 c113 c56 c114 c115 c116 c117 c54 c21 x5 x14 = F75.c_g39 c113 c56 c114 c115 c116 c117 c54 c21 x5 x14 := by
  simp only [F75.b_g39, F75.c_g39, qq]
def F75.g39 : Option Bool := gate k (F75.b_g39 c113 c56 c114 c115 c116 c117 c54 c21 x5 x14)
theorem F75.e_g39 : F75.M_g39 c113 c56 c114 c115 c116 c117 c54 c21 k (F75.fr_g39 x5 x14) = F75.g39 c113 c56 c114 c115 c116 c117 c54 c21 k x5 x14 := by
  kernel_rfl
end
section
variable (r_g42 r_g44 : X_Object → Option Bool) (r_g39 : X_Object → X_Object → Option Bool) (x2 : LO) (x5 : Int × (LB × (Int × (LI × (LI × (LLB × (LV × (LV × X_acceptRange))))))))
def F75.b_g37 (c113 : F113.E) (c56 : F56.E) (c114 : F114.E) (c115 : F115.E) (c116 : F116.E) (c117 : F117.E) (c54 : F54.E) (c21 : F21.E) (r_g42 : X_Object → Option Bool) (r_g44 : X_Object → Option Bool) (r_g39 : X_Object → X_Object → Option Bool) (x2 : LO) (x5 : Int × (LB × (Int × (LI × (LI × (LLB × (LV × (LV × X_acceptRange)))))))) : Option Bool :=
 if 0 ≤ (0 : Int) ∧ (0 : Int) < ((List.length x5.2.2.2.2.2.2.1) : Int) then
 (c54 (x2, (List.getD x5.2.2.2.2.2.2.1 (Int.toNat (0 : Int)) Z_Value))).bind fun y13 =>
 bif (y13.1 == (3 : Int)) then
 bif (y13.1 == (3 : Int)) then
 r_g42 x5
 else
 bif (y13.1 == (0 : Int)) then
 r_g44 x5
 else
 r_g39 x5 y13
 else
 bif (y13.1 == (4 : Int)) then
 r_g42 x5
 else
 bif (y13.1 == (0 : Int)) then
 r_g44 x5
 else
 r_g39 x5 y13
 else none
def F75.c_g37 (c113 : F113.E) (c56 : F56.E) (c114 : F114.E) (c115 : F115.E) (c116 : F116.E) (c117 : F117.E) (c54 : F54.E) (c21 : F21.E) (r_g42 : X_Object → Option Bool) (r_g44 : X_Object → Option Bool) (r_g39 : X_Object → X_Object → Option Bool) (x2 : LO) (x5 : Int × (LB × (Int × (LI × (LI × (LLB × (LV × (LV × X_acceptRange)))))))) : Option Bool :=
 if (0 : Int) < ((List.length x5.2.2.2.2.2.2.1) : Int) then
 (c54 (x2, (List.getD x5.2.2.2.2.2.2.1 0 Z_Value))).bind fun y13 =>
 bif (y13.1 == (3 : Int)) then
 bif (y13.1 == (3 : Int)) then
 r_g42 x5
 else
 bif (y13.1 == (0 : Int)) then
 r_g44 x5
 else
 r_g39 x5 y13
 else
 bif (y13.1 == (4 : Int)) then
 r_g42 x5
 else
 bif (y13.1 == (0 : Int)) then
 r_g44 x5
 else
 r_g39 x5 y13
 else none
theorem F75.q_g37 : F75.b_g37 c113 c56 c114 c115 c116 c117 c54 c21 r_g42 r_g44 r_g39 x2 x5 = F75.c_g37 c113 c56 c114 c115 c116 c117 c54 c21 r_g42 r_g44 r_g39 x2 x5 := by
  simp only [F75.b_g37, F75.c_g37, qq]
def F75.g37 : Option Bool := gate k (F75.b_g37 c113 c56 c114 c115 c116 c117 c54 c21 (F75.g42 c113 c56 c114 c115 c116 c117 c54 c21 k) (F75.g44 c113 c56 c114 c115 c116 c117 c54 c21 k) (F75.g39 c113 c56 c114 c115 c116 c117 c54 c21 k) x2 x5)
theorem F75.e_g37 : F75.M_g37 c113 c56 c114 c115 c116 c117 c54 c21 k (F75.fr_g37 x2 x5) = F75.g37 c113 c56 c114 c115 c116 c117 c54 c21 k x2 x5 := by
  refine Eq.trans (b := gate k (F75.b_g37 c113 c56 c114 c115 c116 c117 c54 c21 (fun x5 => F75.M_g42 c113 c56 c114 c115 c116 c117 c54 c21 k (F75.fr_g42 x5)) (fun x5 => F75.M_g44 c113 c56 c114 c115 c116 c117 c54 c21 k (F75.fr_g44 x5)) (fun x5 x14 => F75.M_g39 c113 c56 c114 c115 c116 c117 c54 c21 k (F75.fr_g39 x5 x14)) x2 x5)) (by kernel_rfl) ?_
  simp only [F75.e_g39, F75.e_g42, F75.e_g44]
  rfl
end
section
variable (x2 : LO) (x5 : Int × (LB × (Int × (LI × (LI × (LLB × (LV × (LV × X_acceptRange))))))))
def F75.b_g47 (c113 : F113.E) (c56 : F56.E) (c114 : F114.E) (c115 : F115.E) (c116 : F116.E) (c117 : F117.E) (c54 : F54.E) (c21 : F21.E) (x2 : LO) (x5 : Int × (LB × (Int × (LI × (LI × (LLB × (LV × (LV × X_acceptRange)))))))) : Option Bool :=
 if 0 ≤ (IntKind.i64.wrap (x5.2.2.2.2.2.2.2.2.2 - (1 : Int))) ∧ (IntKind.i64.wrap (x5.2.2.2.2.2.2.2.2.2 - (1 : Int))) < ((List.length x2) : Int) then
 bif (((List.getD x2 (Int.toNat (IntKind.i64.wrap (x5.2.2.2.2.2.2.2.2.2 - (1 : Int)))) Z_Object).1) == (10 : Int)) then
 some (decide (((((List.getD x2 (Int.toNat (IntKind.i64.wrap (x5.2.2.2.2.2.2.2.2.2 - (1 : Int)))) Z_Object).2).2).1) ≥ (49 : Int)))
 else
 some false
 else none
def F75.g47 : Option Bool := gate k (F75.b_g47 c113 c56 c114 c115 c116 c117 c54 c21 x2 x5)
theorem F75.e_g47 : F75.M_g47 c113 c56 c114 c115 c116 c117 c54 c21 k (F75.fr_g47 x2 x5) = F75.g47 c113 c56 c114 c115 c116 c117 c54 c21 k x2 x5 := by
  kernel_rfl
end
section
variable (x2 : LO) (x5 : Int × (LB × (Int × (LI × (LI × (LLB × (LV × (LV × X_acceptRange))))))))
def F75.b_g50 (c113 : F113.E) (c56 : F56.E) (c114 : F114.E) (c115 : F115.E) (c116 : F116.E) (c117 : F117.E) (c54 : F54.E) (c21 : F21.E) (x2 : LO) (x5 : Int × (LB × (Int × (LI × (LI × (LLB × (LV × (LV × X_acceptRange)))))))) : Option Bool :=
 if 0 ≤ (0 : Int) ∧ (0 : Int) < ((List.length x5.2.2.2.2.2.2.1) : Int) then
 (c54 (x2, (List.getD x5.2.2.2.2.2.2.1 (Int.toNat (0 : Int)) Z_Value))).bind fun y14 =>
 some (y14.1 == (17 : Int))
 else none
def F75.c_g50 (c113 : F113.E) (c56 : F56.E) (c114 : F114.E) (c115 : F115.E) (c116 : F116.E) (c117 : F117.E) (c54 : F54.E) (c21 : F21.E) (x2 : LO) (x5 : Int × (LB × (Int × (LI × (LI × (LLB × (LV × (LV × X_acceptRange)))))))) : Option Bool :=
 if (0 : Int) < ((List.length x5.2.2.2.2.2.2.1) : Int) then
 (c54 (x2, (List.getD x5.2.2.2.2.2.2.1 0 Z_Value))).bind fun y14 =>
 some (y14.1 == (17 : Int))
 else none
theorem F75.q_g50 : F75.b_g50 c113 c56 c114 c115 c116 c117 c54 c21 x2 x5 = F75.c_g50 c113 c56 c114 c115 c116 c117 c54 c21 x2 x5 := by
  simp only [F75.b_g50, F75.c_g50, qq]
def F75.g50 : Option Bool := gate k (F75.b_g50 c113 c56 c114 c115 c116 c117 c54 c21 x2 x5)
theorem F75.e_g50 : F75.M_g50 c113 c56 c114 c115 c116 c117 c54 c21 k (F75.fr_g50 x2 x5) = F75.g50 c113 c56 c114 c115 c116 c117 c54 c21 k x2 x5 := by
  kernel_rfl
end
section
variable (x5 : Int × (LB × (Int × (LI × (LI × (LLB × (LV × (LV × X_acceptRange))))))))
def F75.b_g52 (c113 : F113.E) (c56 : F56.E) (c114 : F114.E) (c115 : F115.E) (c116 : F116.E) (c117 : F117.E) (c54 : F54.E) (c21 : F21.E) (x5 : Int × (LB × (Int × (LI × (LI × (LLB × (LV × (LV × X_acceptRange)))))))) : Option Bool :=
 if 0 ≤ (0 : Int) ∧ (0 : Int) < ((List.length x5.2.2.2.2.2.2.1) : Int) then
 bif (((List.getD x5.2.2.2.2.2.2.1 (Int.toNat (0 : Int)) Z_Value).1) == (2 : Int)) then
 if 0 ≤ (0 : Int) ∧ (0 : Int) < ((List.length x5.2.2.2.2.2.2.1) : Int) then
 some (!((((List.getD x5.2.2.2.2.2.2.1 (Int.toNat (0 : Int)) Z_Value).2).1).1))
 else none
 else
 some false
 else none
def F75.c_g52 (c113 : F113.E) (c56 : F56.E) (c114 : F114.E) (c115 : F115.E) (c116 : F116.E) (c117 : F117.E) (c54 : F54.E) (c21 : F21.E) (x5 : Int × (LB × (Int × (LI × (LI × (LLB × (LV × (LV × X_acceptRange)))))))) : Option Bool :=
 if (0 : Int) < ((List.length x5.2.2.2.2.2.2.1) : Int) then
 bif (((List.getD x5.2.2.2.2.2.2.1 0 Z_Value).1) == (2 : Int)) then
 if (0 : Int) < ((List.length x5.2.2.2.2.2.2.1) : Int) then
 some (! ((((List.getD x5.2.2.2.2.2.2.1 0 Z_Value).2).1).1))
 else none
 else
 some false
 else none
theorem F75.q_g52 : F75.b_g52 c113 c56 c114 c115 c116 c117 c54 c21 x5 = F75.c_g52 c113 c56 c114 c115 c116 c117 c54 c21 x5 := by
  simp only [F75.b_g52, F75.c_g52, qq]
def F75.g52 : Option Bool := gate k (F75.b_g52 c113 c56 c114 c115 c116 c117 c54 c21 x5)
theorem F75.e_g52 : F75.M_g52 c113 c56 c114 c115 c116 c117 c54 c21 k (F75.fr_g52 x5) = F75.g52 c113 c56 c114 c115 c116 c117 c54 c21 k x5 := by
  kernel_rfl
end
variable (r_l1 : LO → X_Object → LI → Int → Int → Option Bool) (r_g15 : LO → X_Object → Option Bool) (r_l3 : Int → LO → X_Object → LI → Int → Int → Option Bool) (r_g25 : Int → LO → X_Object → Option Bool) (r_g27 r_g37 r_g47 r_g50 : LO → X_Object → Option Bool) (r_g52 : X_Object → Option Bool) (a0 : LO) (a1 : Int)
def F75.b (c56 : F56.E) (c114 : F114.E) (c115 : F115.E) (c116 : F116.E) (c117 : F117.E) (c54 : F54.E) (c21 : F21.E) (r_l1 : LO → X_Object → LI → Int → Int → Option Bool) (r_g15 : LO → X_Object → Option Bool) (r_l3 : Int → LO → X_Object → LI → Int → Int → Option Bool) (r_g25 : Int → LO → X_Object → Option Bool) (r_g27 : LO → X_Object → Option Bool) (r_g37 : LO → X_Object → Option Bool) (r_g47 : LO → X_Object → Option Bool) (r_g50 : LO → X_Object → Option Bool) (r_g52 : X_Object → Option Bool) (a0 : LO) (a1 : Int) : Option Bool :=
 if 0 ≤ a1 ∧ a1 < ((List.length a0) : Int) then
 bif (((List.getD a0 (Int.toNat a1) Z_Object).1) == (5 : Int)) then
 (c113 (List.getD a0 (Int.toNat a1) Z_Object)).bind fun y1 =>
 some y1
 else
 bif (((List.getD a0 (Int.toNat a1) Z_Object).1) == (7 : Int)) then
 r_l1 a0 (List.getD a0 (Int.toNat a1) Z_Object) (((((List.getD a0 (Int.toNat a1) Z_Object).2).2).2).1) ((List.length (((((List.getD a0 (Int.toNat a1) Z_Object).2).2).2).1)) : Int) (0 : Int)
 else
 bif (((List.getD a0 (Int.toNat a1) Z_Object).1) == (8 : Int)) then
 bif (((List.getD a0 (Int.toNat a1) Z_Object).1) == (8 : Int)) then
 r_g15 a0 (List.getD a0 (Int.toNat a1) Z_Object)
 else
 bif (((List.getD a0 (Int.toNat a1) Z_Object).1) == (9 : Int)) then
 r_l3 a1 a0 (List.getD a0 (Int.toNat a1) Z_Object) (((((List.getD a0 (Int.toNat a1) Z_Object).2).2).2).1) ((List.length (((((List.getD a0 (Int.toNat a1) Z_Object).2).2).2).1)) : Int) (0 : Int)
 else
 bif (((List.getD a0 (Int.toNat a1) Z_Object).1) == (10 : Int)) then
 r_g25 a1 a0 (List.getD a0 (Int.toNat a1) Z_Object)
 else
 bif (((List.getD a0 (Int.toNat a1) Z_Object).1) == (15 : Int)) then
 r_g27 a0 (List.getD a0 (Int.toNat a1) Z_Object)
 else
 bif (((List.getD a0 (Int.toNat a1) Z_Object).1) == (16 : Int)) then
 r_g37 a0 (List.getD a0 (Int.toNat a1) Z_Object)
 else
 bif (((List.getD a0 (Int.toNat a1) Z_Object).1) == (18 : Int)) then
 bif (decide (((((((((((List.getD a0 (Int.toNat a1) Z_Object).2).2).2).2).2).2).2).2).2) > (0 : Int))) then
 r_g47 a0 (List.getD a0 (Int.toNat a1) Z_Object)
 else
 some true
 else
 bif (((List.getD a0 (Int.toNat a1) Z_Object).1) == (19 : Int)) then
 r_g50 a0 (List.getD a0 (Int.toNat a1) Z_Object)
 else
 bif (((List.getD a0 (Int.toNat a1) Z_Object).1) == (20 : Int)) then
 r_g52 (List.getD a0 (Int.toNat a1) Z_Object)
 else
 some true
 else
 bif (((List.getD a0 (Int.toNat a1) Z_Object).1) == (14 : Int)) then
 r_g15 a0 (List.getD a0 (Int.toNat a1) Z_Object)
 else
 bif (((List.getD a0 (Int.toNat a1) Z_Object).1) == (9 : Int)) then
 r_l3 a1 a0 (List.getD a0 (Int.toNat a1) Z_Object) (((((List.getD a0 (Int.toNat a1) Z_Object).2).2).2).1) ((List.length (((((List.getD a0 (Int.toNat a1) Z_Object).2).2).2).1)) : Int) (0 : Int)
 else
 bif (((List.getD a0 (Int.toNat a1) Z_Object).1) == (10 : Int)) then
 r_g25 a1 a0 (List.getD a0 (Int.toNat a1) Z_Object)
 else
 bif (((List.getD a0 (Int.toNat a1) Z_Object).1) == (15 : Int)) then
 r_g27 a0 (List.getD a0 (Int.toNat a1) Z_Object)
 else
 bif (((List.getD a0 (Int.toNat a1) Z_Object).1) == (16 : Int)) then
 r_g37 a0 (List.getD a0 (Int.toNat a1) Z_Object)
 else
 bif (((List.getD a0 (Int.toNat a1) Z_Object).1) == (18 : Int)) then
 bif (decide (((((((((((List.getD a0 (Int.toNat a1) Z_Object).2).2).2).2).2).2).2).2).2) > (0 : Int))) then
 r_g47 a0 (List.getD a0 (Int.toNat a1) Z_Object)
 else
 some true
 else
 bif (((List.getD a0 (Int.toNat a1) Z_Object).1) == (19 : Int)) then
 r_g50 a0 (List.getD a0 (Int.toNat a1) Z_Object)
 else
 bif (((List.getD a0 (Int.toNat a1) Z_Object).1) == (20 : Int)) then
 r_g52 (List.getD a0 (Int.toNat a1) Z_Object)
 else
 some true
 else none
def F75.f : Option Bool := F75.b c113 c56 c114 c115 c116 c117 c54 c21 (F75.l1 c113 c56 c114 c115 c116 c117 c54 c21 k k) (F75.g15 c113 c56 c114 c115 c116 c117 c54 c21 k) (F75.l3 c113 c56 c114 c115 c116 c117 c54 c21 k k) (F75.g25 c113 c56 c114 c115 c116 c117 c54 c21 k) (F75.g27 c113 c56 c114 c115 c116 c117 c54 c21 k) (F75.g37 c113 c56 c114 c115 c116 c117 c54 c21 k) (F75.g47 c113 c56 c114 c115 c116 c117 c54 c21 k) (F75.g50 c113 c56 c114 c115 c116 c117 c54 c21 k) (F75.g52 c113 c56 c114 c115 c116 c117 c54 c21 k) a0 a1
theorem F75.e : fn (F75.C c113 c56 c114 c115 c116 c117 c54 c21) k Tryz.f75 F75.A F75.R (a0, a1) = F75.f c113 c56 c114 c115 c116 c117 c54 c21 k a0 a1 := by
  refine Eq.trans (b := F75.b c113 c56 c114 c115 c116 c117 c54 c21 (fun x2 x5 x30 x31 x32 => F75.M_l1 c113 c56 c114 c115 c116 c117 c54 c21 k k (F75.fr_l1 x2 x5 x30 x31 x32)) (fun x2 x5 => F75.M_g15 c113 c56 c114 c115 c116 c117 c54 c21 k (F75.fr_g15 x2 x5)) (fun x1 x2 x5 x64 x65 x66 => F75.M_l3 c113 c56 c114 c115 c116 c117 c54 c21 k k (F75.fr_l3 x1 x2 x5 x64 x65 x66)) (fun x1 x2 x5 => F75.M_g25 c113 c56 c114 c115 c116 c117 c54 c21 k (F75.fr_g25 x1 x2 x5)) (fun x2 x5 => F75.M_g27 c113 c56 c114 c115 c116 c117 c54 c21 k (F75.fr_g27 x2 x5)) (fun x2 x5 => F75.M_g37 c113 c56 c114 c115 c116 c117 c54 c21 k (F75.fr_g37 x2 x5)) (fun x2 x5 => F75.M_g47 c113 c56 c114 c115 c116 c117 c54 c21 k (F75.fr_g47 x2 x5)) (fun x2 x5 => F75.M_g50 c113 c56 c114 c115 c116 c117 c54 c21 k (F75.fr_g50 x2 x5)) (fun x5 => F75.M_g52 c113 c56 c114 c115 c116 c117 c54 c21 k (F75.fr_g52 x5)) a0 a1) (by kernel_rfl) ?_
  simp only [F75.e_g15, F75.e_g25, F75.e_g27, F75.e_g37, F75.e_g47, F75.e_g50, F75.e_g52, F75.e_l1, F75.e_l3]
  rfl
end
def F75.u (k : Nat) : F75.E := fun y => F75.f (F113.u k) (F56.u k) (F114.u k) (F115.u k) (F116.u k) (F117.u k) (F54.u k) (F21.u k) k y.1 y.2
theorem F75.sound (k : Nat) : Sound Tryz.prog ⟨75, F75.A, F75.R, F75.u k⟩ := sn gr Tryz.func75 (fun y => F75.e (F113.u k) (F56.u k) (F114.u k) (F115.u k) (F116.u k) (F117.u k) (F54.u k) (F21.u k) k y.1 y.2) (al (F113.sound k) (al (F56.sound k) (al (F114.sound k) (al (F115.sound k) (al (F116.sound k) (al (F117.sound k) (al (F54.sound k) (al (F21.sound k) al0))))))))
end
end Go.Ab
