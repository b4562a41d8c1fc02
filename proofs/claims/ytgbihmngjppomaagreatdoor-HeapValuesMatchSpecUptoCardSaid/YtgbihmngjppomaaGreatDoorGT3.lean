/- A part of the proof: GT3. -/
import Derived.Test.YtgbihmngjppomaaGreatDoorFTy
import Derived.Test.YtgbihmngjppomaaGreatDoorGC2
import Derived.Test.YtgbihmngjppomaaGreatDoorGT1
import Derived.Test.YtgbihmngjppomaaGreatDoorGT2
namespace Go.Ab
set_option linter.unusedVariables false
set_option linter.unusedSimpArgs false
set_option maxRecDepth 100000
noncomputable section
open Go.Proofs
/-! ### brindlewood/brindlewoodref7.PartsOf: f113 -/
abbrev F113.A : List Sh := [(.d Y_Heap), (.d Y_Value), (.d (.int .i64))]
abbrev F113.R : List Sh := [(.d (.sl 29 Y_Value)), (.d .bool)]
abbrev F113.E : Type := ((List X_Object) × (X_Value × (Int))) → Option ((List X_Value) × (Bool))
def F113.C (c34 : F34.E) (c72 : F72.E) : Ctx := { ty := [(3, (.int .i64)), (24, Y_Heap), (29, Y_Value), (34, (.sl 29 Y_Value)), (36, Y_Object)], nf := [(29, 5), (36, 10)], by_ := [(29, 96)], env := [⟨34, F34.A, F34.R, c34⟩, ⟨72, F72.A, F72.R, c72⟩], spec := [(0, [.d 2 (.int .i64), .bx 3 600003 (.d Y_Heap), .o 8 500008 29 Y_Value, .d 9 (.sl 29 Y_Value)])] }
noncomputable def F113.code : Code := Func.code Tryz.f113
noncomputable def F113.fin (c34 : F34.E) (c72 : F72.E) := kfin (F113.C c34 c72) Tryz.f113 F113.A F113.R
def F113.b (c34 : F34.E) (c72 : F72.E) (r_l0 : (Int) → (List X_Object) → (List X_Value) → (List X_Value) → Option ((List X_Value) × (Bool))) (a0 : List X_Object) (a1 : X_Value) (a2 : Int) : Option ((List X_Value) × (Bool)) :=
 r_l0 a2 a0 ([] : List X_Value) (List.take 1 ([a1] : List X_Value))
def F113.b_l0 (c34 : F34.E) (c72 : F72.E) (n_l0 : (Int) → (List X_Object) → (List X_Value) → (List X_Value) → Option ((List X_Value) × (Bool))) (x2 : Int) (x3 : List X_Object) (x8 : List X_Value) (x9 : List X_Value) : Option ((List X_Value) × (Bool)) :=
 bif (decide (((List.length x9) : Int) > (0 : Int))) then
 bif (decide ((((List.length x8) : Nat) : Int) ≤ x2)) then
 if 0 ≤ (0 : Int) ∧ (0 : Int) < ((List.length x9) : Int) then
 if 0 ≤ (1 : Int) ∧ (1 : Int) ≤ ((List.length x9) : Int) ∧ ((List.length x9) : Int) ≤ ((List.length x9) : Int) then
 if (List.length x8) ≤ (List.length x8) ∧ ((List.length x8) + (List.length (List.take 1 ([(List.getD x9 (Int.toNat (0 : Int)) Z_Value)] : List X_Value)))) * 96 ≤ LIM then
 (c34 (x3, (List.getD x9 (Int.toNat (0 : Int)) Z_Value))).bind fun y1 =>
 bif (((List.getD x9 (Int.toNat (0 : Int)) Z_Value).1) == (9 : Int)) then
 some ((List.take (List.length (List.append (List.take (List.length x8) x8) (List.take 1 ([(List.getD x9 (Int.toNat (0 : Int)) Z_Value)] : List X_Value)))) (List.append (List.take (List.length x8) x8) (List.take 1 ([(List.getD x9 (Int.toNat (0 : Int)) Z_Value)] : List X_Value)))), false)
 else
 bif (y1.1 == (2 : Int)) then
 some ((List.take (List.length (List.append (List.take (List.length x8) x8) (List.take 1 ([(List.getD x9 (Int.toNat (0 : Int)) Z_Value)] : List X_Value)))) (List.append (List.take (List.length x8) x8) (List.take 1 ([(List.getD x9 (Int.toNat (0 : Int)) Z_Value)] : List X_Value)))), false)
 else
 bif (y1.1 == (3 : Int)) then
 some ((List.take (List.length (List.append (List.take (List.length x8) x8) (List.take 1 ([(List.getD x9 (Int.toNat (0 : Int)) Z_Value)] : List X_Value)))) (List.append (List.take (List.length x8) x8) (List.take 1 ([(List.getD x9 (Int.toNat (0 : Int)) Z_Value)] : List X_Value)))), false)
 else
 bif (y1.1 == (4 : Int)) then
 some ((List.take (List.length (List.append (List.take (List.length x8) x8) (List.take 1 ([(List.getD x9 (Int.toNat (0 : Int)) Z_Value)] : List X_Value)))) (List.append (List.take (List.length x8) x8) (List.take 1 ([(List.getD x9 (Int.toNat (0 : Int)) Z_Value)] : List X_Value)))), false)
 else
 bif (y1.1 == (5 : Int)) then
 some ((List.take (List.length (List.append (List.take (List.length x8) x8) (List.take 1 ([(List.getD x9 (Int.toNat (0 : Int)) Z_Value)] : List X_Value)))) (List.append (List.take (List.length x8) x8) (List.take 1 ([(List.getD x9 (Int.toNat (0 : Int)) Z_Value)] : List X_Value)))), false)
 else
 bif (y1.1 == (1 : Int)) then
 if 0 ≤ (0 : Int) ∧ (0 : Int) ≤ (if (IntKind.i64.wrap (x2 + (1 : Int))) < ((List.length y1.2.2.2.2.2.2.1) : Int) then (IntKind.i64.wrap (x2 + (1 : Int))) else ((List.length y1.2.2.2.2.2.2.1) : Int)) ∧ (if (IntKind.i64.wrap (x2 + (1 : Int))) < ((List.length y1.2.2.2.2.2.2.1) : Int) then (IntKind.i64.wrap (x2 + (1 : Int))) else ((List.length y1.2.2.2.2.2.2.1) : Int)) ≤ ((List.length y1.2.2.2.2.2.2.1) : Int) then
 (c72 (List.drop (Int.toNat (0 : Int)) (List.take (Int.toNat (if (IntKind.i64.wrap (x2 + (1 : Int))) < ((List.length y1.2.2.2.2.2.2.1) : Int) then (IntKind.i64.wrap (x2 + (1 : Int))) else ((List.length y1.2.2.2.2.2.2.1) : Int))) y1.2.2.2.2.2.2.1))).bind fun y2 =>
 if (List.length y2) ≤ (List.length y2) ∧ ((List.length y2) + (List.length (List.drop (Int.toNat (1 : Int)) (List.take (Int.toNat ((List.length x9) : Int)) x9)))) * 96 ≤ LIM then
 n_l0 x2 x3 (List.take (List.length (List.append (List.take (List.length x8) x8) (List.take 1 ([(List.getD x9 (Int.toNat (0 : Int)) Z_Value)] : List X_Value)))) (List.append (List.take (List.length x8) x8) (List.take 1 ([(List.getD x9 (Int.toNat (0 : Int)) Z_Value)] : List X_Value)))) (List.take (List.length (List.append (List.take (List.length y2) y2) (List.drop (Int.toNat (1 : Int)) (List.take (Int.toNat ((List.length x9) : Int)) x9)))) (List.append (List.take (List.length y2) y2) (List.drop (Int.toNat (1 : Int)) (List.take (Int.toNat ((List.length x9) : Int)) x9))))
 else none
 else none
 else
 n_l0 x2 x3 (List.take (List.length (List.append (List.take (List.length x8) x8) (List.take 1 ([(List.getD x9 (Int.toNat (0 : Int)) Z_Value)] : List X_Value)))) (List.append (List.take (List.length x8) x8) (List.take 1 ([(List.getD x9 (Int.toNat (0 : Int)) Z_Value)] : List X_Value)))) (List.drop (Int.toNat (1 : Int)) (List.take (Int.toNat ((List.length x9) : Int)) x9))
 else none
 else none
 else none
 else
 some ((List.take (List.length x8) x8), true)
 else
 some ((List.take (List.length x8) x8), true)
def F113.c (c34 : F34.E) (c72 : F72.E) (r_l0 : (Int) → (List X_Object) → (List X_Value) → (List X_Value) → Option ((List X_Value) × (Bool))) (a0 : List X_Object) (a1 : X_Value) (a2 : Int) : Option ((List X_Value) × (Bool)) :=
 r_l0 a2 a0 ([] : List X_Value) ([a1] : List X_Value)
theorem F113.q (c34 : F34.E) (c72 : F72.E) (r_l0 : (Int) → (List X_Object) → (List X_Value) → (List X_Value) → Option ((List X_Value) × (Bool))) (a0 : List X_Object) (a1 : X_Value) (a2 : Int) : F113.b c34 c72 r_l0 a0 a1 a2 = F113.c c34 c72 r_l0 a0 a1 a2 := by
  simp only [F113.b, F113.c, List.take_length, take_one, Nat.zero_add, Int.toNat_natCast, Int.toNat_zero, List.drop_zero, List.append_eq, Nat.le_refl, Int.le_refl, true_and, and_true, zero_le_one, if_true, prod_eta, Int.natCast_zero]
def F113.c_l0 (c34 : F34.E) (c72 : F72.E) (n_l0 : (Int) → (List X_Object) → (List X_Value) → (List X_Value) → Option ((List X_Value) × (Bool))) (x2 : Int) (x3 : List X_Object) (x8 : List X_Value) (x9 : List X_Value) : Option ((List X_Value) × (Bool)) :=
 bif (decide (((List.length x9) : Int) > (0 : Int))) then
 bif (decide (((List.length x8) : Int) ≤ x2)) then
 if (0 : Int) < ((List.length x9) : Int) then
 if (1 : Int) ≤ ((List.length x9) : Int) then
 if ((List.length x8) + (List.length ([(List.getD x9 0 Z_Value)] : List X_Value))) * 96 ≤ LIM then
 (c34 (x3, (List.getD x9 0 Z_Value))).bind fun y1 =>
 bif (((List.getD x9 0 Z_Value).1) == (9 : Int)) then
 some ((x8 ++ ([(List.getD x9 0 Z_Value)] : List X_Value)), false)
 else
 bif (y1.1 == (2 : Int)) then
 some ((x8 ++ ([(List.getD x9 0 Z_Value)] : List X_Value)), false)
 else
 bif (y1.1 == (3 : Int)) then
 some ((x8 ++ ([(List.getD x9 0 Z_Value)] : List X_Value)), false)
 else
 bif (y1.1 == (4 : Int)) then
 some ((x8 ++ ([(List.getD x9 0 Z_Value)] : List X_Value)), false)
 else
 bif (y1.1 == (5 : Int)) then
 some ((x8 ++ ([(List.getD x9 0 Z_Value)] : List X_Value)), false)
 else
 bif (y1.1 == (1 : Int)) then
 if (0 : Int) ≤ (if (IntKind.i64.wrap (x2 + (1 : Int))) < ((List.length y1.2.2.2.2.2.2.1) : Int) then (IntKind.i64.wrap (x2 + (1 : Int))) else ((List.length y1.2.2.2.2.2.2.1) : Int)) ∧ (if (IntKind.i64.wrap (x2 + (1 : Int))) < ((List.length y1.2.2.2.2.2.2.1) : Int) then (IntKind.i64.wrap (x2 + (1 : Int))) else ((List.length y1.2.2.2.2.2.2.1) : Int)) ≤ ((List.length y1.2.2.2.2.2.2.1) : Int) then
 (c72 (List.take (Int.toNat (if (IntKind.i64.wrap (x2 + (1 : Int))) < ((List.length y1.2.2.2.2.2.2.1) : Int) then (IntKind.i64.wrap (x2 + (1 : Int))) else ((List.length y1.2.2.2.2.2.2.1) : Int))) y1.2.2.2.2.2.2.1)).bind fun y2 =>
 if ((List.length y2) + (List.length (List.drop (Int.toNat (1 : Int)) x9))) * 96 ≤ LIM then
 n_l0 x2 x3 (x8 ++ ([(List.getD x9 0 Z_Value)] : List X_Value)) (y2 ++ (List.drop (Int.toNat (1 : Int)) x9))
 else none
 else none
 else
 n_l0 x2 x3 (x8 ++ ([(List.getD x9 0 Z_Value)] : List X_Value)) (List.drop (Int.toNat (1 : Int)) x9)
 else none
 else none
 else none
 else
 some (x8, true)
 else
 some (x8, true)
theorem F113.q_l0 (c34 : F34.E) (c72 : F72.E) (n_l0 : (Int) → (List X_Object) → (List X_Value) → (List X_Value) → Option ((List X_Value) × (Bool))) (x2 : Int) (x3 : List X_Object) (x8 : List X_Value) (x9 : List X_Value) : F113.b_l0 c34 c72 n_l0 x2 x3 x8 x9 = F113.c_l0 c34 c72 n_l0 x2 x3 x8 x9 := by
  simp only [F113.b_l0, F113.c_l0, List.take_length, take_one, Nat.zero_add, Int.toNat_natCast, Int.toNat_zero, List.drop_zero, List.append_eq, Nat.le_refl, Int.le_refl, true_and, and_true, zero_le_one, if_true, prod_eta, Int.natCast_zero]
def F113.l0 (c34 : F34.E) (c72 : F72.E) (k : Nat)  : Nat → (Int) → (List X_Object) → (List X_Value) → (List X_Value) → Option ((List X_Value) × (Bool))
  | 0, _, _, _, _ => none
  | n + 1, x2, x3, x8, x9 => F113.b_l0 c34 c72 (fun x2 x3 x8 x9 => F113.l0 c34 c72 k  n x2 x3 x8 x9) x2 x3 x8 x9
def F113.f (c34 : F34.E) (c72 : F72.E) (k : Nat) (a0 : List X_Object) (a1 : X_Value) (a2 : Int) : Option ((List X_Value) × (Bool)) := F113.b c34 c72 (F113.l0 c34 c72 k k) a0 a1 a2
noncomputable def F113.M_l0 (c34 : F34.E) (c72 : F72.E) (k n : Nat)  (s : St) : Option ((List X_Value) × (Bool)) := atLoop (F113.C c34 c72) k n [1, 1, 1, 0, 0] [] F113.code (F113.fin c34 c72) s
noncomputable def F113.fr_l0 (x2 : Int) (x3 : List X_Object) (x8 : List X_Value) (x9 : List X_Value) : St := ⟨(((((List.replicate 77 V.un).set 2 (V.dat (.int .i64) x2)).set 3 (V.bp 600003 0 [])).set 8 (V.ref 500008 0 0 (List.length x8))).set 9 (V.dat (.sl 29 Y_Value) x9)), [⟨500008, 0, .arr 29 Y_Value x8⟩, ⟨600003, 0, .box (V.dat Y_Heap x3)⟩]⟩
theorem F113.r (c34 : F34.E) (c72 : F72.E) (k : Nat) (a0 : List X_Object) (a1 : X_Value) (a2 : Int) : fn (F113.C c34 c72) k Tryz.f113 F113.A F113.R (a0, (a1, a2)) = F113.b c34 c72 (fun x2 x3 x8 x9 => F113.M_l0 c34 c72 k k  (F113.fr_l0 x2 x3 x8 x9)) a0 a1 a2 := by kernel_rfl
theorem F113.z_l0 (c34 : F34.E) (c72 : F72.E) (k : Nat)  (s : St) : F113.M_l0 c34 c72 k 0  s = none := by kernel_rfl
theorem F113.r_l0 (c34 : F34.E) (c72 : F72.E) (k n : Nat)  (x2 : Int) (x3 : List X_Object) (x8 : List X_Value) (x9 : List X_Value) : F113.M_l0 c34 c72 k (n + 1)  (F113.fr_l0 x2 x3 x8 x9) = F113.b_l0 c34 c72 (fun x2 x3 x8 x9 => F113.M_l0 c34 c72 k n  (F113.fr_l0 x2 x3 x8 x9)) x2 x3 x8 x9 := by kernel_rfl
theorem F113.e_l0 (c34 : F34.E) (c72 : F72.E) (k n : Nat)  (x2 : Int) (x3 : List X_Object) (x8 : List X_Value) (x9 : List X_Value) : F113.M_l0 c34 c72 k n  (F113.fr_l0 x2 x3 x8 x9) = F113.l0 c34 c72 k  n x2 x3 x8 x9 := by
  induction n generalizing x2 x3 x8 x9 with
  | zero => rw [F113.z_l0]; rfl
  | succ n ih =>
    rw [F113.r_l0]
    simp only [ih]
    rfl
theorem F113.e (c34 : F34.E) (c72 : F72.E) (k : Nat) (a0 : List X_Object) (a1 : X_Value) (a2 : Int) : fn (F113.C c34 c72) k Tryz.f113 F113.A F113.R (a0, (a1, a2)) = F113.f c34 c72 k a0 a1 a2 := by
  rw [F113.r]
  simp only [F113.e_l0]
  rfl
theorem F113.ty (c34 : F34.E) (c72 : F72.E) : TyOk Tryz.prog (F113.C c34 c72) := tyOk_of (by kernel_rfl)
def F113.u (k : Nat) : F113.E := fun y => F113.f (F34.u k) (F72.u k) k y.1 y.2.1 y.2.2
theorem F113.sound (k : Nat) : Sound Tryz.prog ⟨113, F113.A, F113.R, F113.u k⟩ := by
  have h := fn_sound (k := k) («as» := F113.A) (rs := F113.R) (F113.ty (F34.u k) (F72.u k)) (fun E h => by
    simp only [F113.C, List.mem_cons, List.not_mem_nil, or_false] at h
    rcases h with rfl | rfl
    · exact F34.sound k
    · exact F72.sound k) mixed Tryz.func113 (by kernel_rfl) (by kernel_rfl)
  have e : fn (F113.C (F34.u k) (F72.u k)) k Tryz.f113 F113.A F113.R = F113.u k := by
    funext y
    exact F113.e (F34.u k) (F72.u k) k y.1 y.2.1 y.2.2
  rw [e] at h
  exact h
/-! ### brindlewood/brindlewoodref7.Keyed: f96 -/
abbrev F96.A : List Sh := [(.d Y_Heap), (.d Y_Value)]
abbrev F96.R : List Sh := [(.d .bool)]
abbrev F96.E : Type := ((List X_Object) × X_Value) → Option (Bool)
def F96.C (c113 : F113.E) : Ctx := { ty := [(3, (.int .i64)), (24, Y_Heap), (29, Y_Value), (34, (.sl 29 Y_Value))], nf := [], by_ := [(29, 96)], env := [⟨113, F113.A, F113.R, c113⟩], spec := [] }
noncomputable def F96.code : Code := Func.code Tryz.f96
noncomputable def F96.fin (c113 : F113.E) := kfin (F96.C c113) Tryz.f96 F96.A F96.R
def F96.b (c113 : F113.E)  (a0 : List X_Object) (a1 : X_Value) : Option (Bool) :=
 (c113 (a0, (a1, (1000 : Int)))).bind fun y1 =>
 bif y1.2 then
 some (decide (((List.length y1.1) : Int) ≤ (1000 : Int)))
 else
 some false
def F96.f (c113 : F113.E) (k : Nat) (a0 : List X_Object) (a1 : X_Value) : Option (Bool) := F96.b c113  a0 a1
theorem F96.r (c113 : F113.E) (k : Nat) (a0 : List X_Object) (a1 : X_Value) : fn (F96.C c113) k Tryz.f96 F96.A F96.R (a0, a1) = F96.b c113  a0 a1 := by kernel_rfl
theorem F96.e (c113 : F113.E) (k : Nat) (a0 : List X_Object) (a1 : X_Value) : fn (F96.C c113) k Tryz.f96 F96.A F96.R (a0, a1) = F96.f c113 k a0 a1 := by
  rw [F96.r]
  rfl
theorem F96.ty (c113 : F113.E) : TyOk Tryz.prog (F96.C c113) := tyOk_of (by kernel_rfl)
def F96.u (k : Nat) : F96.E := fun y => F96.f (F113.u k) k y.1 y.2
theorem F96.sound (k : Nat) : Sound Tryz.prog ⟨96, F96.A, F96.R, F96.u k⟩ := by
  have h := fn_sound (k := k) («as» := F96.A) (rs := F96.R) (F96.ty (F113.u k)) (fun E h => by
    simp only [F96.C, List.mem_cons, List.not_mem_nil, or_false] at h
    rcases h with rfl
    · exact F113.sound k) mixed Tryz.func96 (by kernel_rfl) (by kernel_rfl)
  have e : fn (F96.C (F113.u k)) k Tryz.f96 F96.A F96.R = F96.u k := by
    funext y
    exact F96.e (F113.u k) k y.1 y.2
  rw [e] at h
  exact h
/-! ### brindlewood/brindlewoodref7.SameKey: f114 -/
abbrev F114.A : List Sh := [(.d Y_Heap), (.d Y_Value), (.d Y_Value)]
abbrev F114.R : List Sh := [(.d .bool)]
abbrev F114.E : Type := ((List X_Object) × X_parts) → Option (Bool)
def F114.C (c34 : F34.E) (c14 : F14.E) (c114 : F114.E) : Ctx := { ty := [(3, (.int .i64)), (24, Y_Heap), (29, Y_Value), (34, (.sl 29 Y_Value)), (36, Y_Object)], nf := [(36, 10)], by_ := [(29, 96)], env := [⟨34, F34.A, F34.R, c34⟩, ⟨14, F14.A, F14.R, c14⟩, ⟨114, F114.A, F114.R, c114⟩], spec := [(0, [.bx 3 600003 (.d Y_Heap), .bx 7 600007 (.d Y_Object), .bx 8 600008 (.d Y_Object), .d 36 (.int .i64), .d 37 (.int .i64)])] }
noncomputable def F114.code : Code := Func.code Tryz.f114
noncomputable def F114.fin (c34 : F34.E) (c14 : F14.E) (c114 : F114.E) := kfin (F114.C c34 c14 c114) Tryz.f114 F114.A F114.R
def F114.b (c34 : F34.E) (c14 : F14.E) (c114 : F114.E) (r_l0 : (List X_Object) → X_Object → X_Object → (Int) → (Int) → Option (Bool)) (a0 : List X_Object) (a1 : X_Value) (a2 : X_Value) : Option (Bool) :=
 (c34 (a0, a1)).bind fun y1 =>
 (c34 (a0, a2)).bind fun y2 =>
 bif (y1.1 != (1 : Int)) then
 (c14 (a1, a2)).bind fun y3 =>
 some y3
 else
 bif (y2.1 != (1 : Int)) then
 (c14 (a1, a2)).bind fun y4 =>
 some y4
 else
 bif (((List.length y1.2.2.2.2.2.2.1) : Int) != ((List.length y2.2.2.2.2.2.2.1) : Int)) then
 some false
 else
 r_l0 a0 y1 y2 ((List.length y1.2.2.2.2.2.2.1) : Int) (0 : Int)
def F114.b_l0 (c34 : F34.E) (c14 : F14.E) (c114 : F114.E) (n_l0 : (List X_Object) → X_Object → X_Object → (Int) → (Int) → Option (Bool)) (x3 : List X_Object) (x7 : X_Object) (x8 : X_Object) (x36 : Int) (x37 : Int) : Option (Bool) :=
 bif (decide (x37 < x36)) then
 if 0 ≤ x37 ∧ x37 < ((List.length x7.2.2.2.2.2.2.1) : Int) then
 if 0 ≤ x37 ∧ x37 < ((List.length x8.2.2.2.2.2.2.1) : Int) then
 (c114 (x3, ((List.getD x7.2.2.2.2.2.2.1 (Int.toNat x37) Z_Value), (List.getD x8.2.2.2.2.2.2.1 (Int.toNat x37) Z_Value)))).bind fun y5 =>
 bif (!y5) then
 some false
 else
 n_l0 x3 x7 x8 x36 (IntKind.i64.wrap (x37 + (1 : Int)))
 else none
 else none
 else
 some true
def F114.c_l0 (c34 : F34.E) (c14 : F14.E) (c114 : F114.E) (n_l0 : (List X_Object) → X_Object → X_Object → (Int) → (Int) → Option (Bool)) (x3 : List X_Object) (x7 : X_Object) (x8 : X_Object) (x36 : Int) (x37 : Int) : Option (Bool) :=
 bif (decide (x37 < x36)) then
 if 0 ≤ x37 ∧ x37 < ((List.length x7.2.2.2.2.2.2.1) : Int) then
 if 0 ≤ x37 ∧ x37 < ((List.length x8.2.2.2.2.2.2.1) : Int) then
 (c114 (x3, ((List.getD x7.2.2.2.2.2.2.1 (Int.toNat x37) Z_Value), (List.getD x8.2.2.2.2.2.2.1 (Int.toNat x37) Z_Value)))).bind fun y5 =>
 bif !y5 then
 some false
 else
 n_l0 x3 x7 x8 x36 (IntKind.i64.wrap (x37 + (1 : Int)))
 else none
 else none
 else
 some true
theorem F114.q_l0 (c34 : F34.E) (c14 : F14.E) (c114 : F114.E) (n_l0 : (List X_Object) → X_Object → X_Object → (Int) → (Int) → Option (Bool)) (x3 : List X_Object) (x7 : X_Object) (x8 : X_Object) (x36 : Int) (x37 : Int) : F114.b_l0 c34 c14 c114 n_l0 x3 x7 x8 x36 x37 = F114.c_l0 c34 c14 c114 n_l0 x3 x7 x8 x36 x37 := by
  simp only [F114.b_l0, F114.c_l0, List.take_length, take_one, Nat.zero_add, Int.toNat_natCast, Int.toNat_zero, List.drop_zero, List.append_eq, Nat.le_refl, Int.le_refl, true_and, and_true, zero_le_one, if_true, prod_eta, Int.natCast_zero]
def F114.l0 (c34 : F34.E) (c14 : F14.E) (c114 : F114.E) (k : Nat)  : Nat → (List X_Object) → X_Object → X_Object → (Int) → (Int) → Option (Bool)
  | 0, _, _, _, _, _ => none
  | n + 1, x3, x7, x8, x36, x37 => F114.b_l0 c34 c14 c114 (fun x3 x7 x8 x36 x37 => F114.l0 c34 c14 c114 k  n x3 x7 x8 x36 x37) x3 x7 x8 x36 x37
def F114.f (c34 : F34.E) (c14 : F14.E) (c114 : F114.E) (k : Nat) (a0 : List X_Object) (a1 : X_Value) (a2 : X_Value) : Option (Bool) := F114.b c34 c14 c114 (F114.l0 c34 c14 c114 k k) a0 a1 a2
noncomputable def F114.M_l0 (c34 : F34.E) (c14 : F14.E) (c114 : F114.E) (k n : Nat)  (s : St) : Option (Bool) := atLoop (F114.C c34 c14 c114) k n [1, 1, 1, 1, 0, 1, 0] [] F114.code (F114.fin c34 c14 c114) s
noncomputable def F114.fr_l0 (x3 : List X_Object) (x7 : X_Object) (x8 : X_Object) (x36 : Int) (x37 : Int) : St := ⟨((((((List.replicate 54 V.un).set 3 (V.bp 600003 0 [])).set 7 (V.bp 600007 0 [])).set 8 (V.bp 600008 0 [])).set 36 (V.dat (.int .i64) x36)).set 37 (V.dat (.int .i64) x37)), [⟨600008, 0, .box (V.dat Y_Object x8)⟩, ⟨600007, 0, .box (V.dat Y_Object x7)⟩, ⟨600003, 0, .box (V.dat Y_Heap x3)⟩]⟩
theorem F114.r (c34 : F34.E) (c14 : F14.E) (c114 : F114.E) (k : Nat) (a0 : List X_Object) (a1 : X_Value) (a2 : X_Value) : fn (F114.C c34 c14 c114) k Tryz.f114 F114.A F114.R (a0, (a1, a2)) = F114.b c34 c14 c114 (fun x3 x7 x8 x36 x37 => F114.M_l0 c34 c14 c114 k k  (F114.fr_l0 x3 x7 x8 x36 x37)) a0 a1 a2 := by kernel_rfl
theorem F114.z_l0 (c34 : F34.E) (c14 : F14.E) (c114 : F114.E) (k : Nat)  (s : St) : F114.M_l0 c34 c14 c114 k 0  s = none := by kernel_rfl
theorem F114.r_l0 (c34 : F34.E) (c14 : F14.E) (c114 : F114.E) (k n : Nat)  (x3 : List X_Object) (x7 : X_Object) (x8 : X_Object) (x36 : Int) (x37 : Int) : F114.M_l0 c34 c14 c114 k (n + 1)  (F114.fr_l0 x3 x7 x8 x36 x37) = F114.b_l0 c34 c14 c114 (fun x3 x7 x8 x36 x37 => F114.M_l0 c34 c14 c114 k n  (F114.fr_l0 x3 x7 x8 x36 x37)) x3 x7 x8 x36 x37 := by kernel_rfl
theorem F114.e_l0 (c34 : F34.E) (c14 : F14.E) (c114 : F114.E) (k n : Nat)  (x3 : List X_Object) (x7 : X_Object) (x8 : X_Object) (x36 : Int) (x37 : Int) : F114.M_l0 c34 c14 c114 k n  (F114.fr_l0 x3 x7 x8 x36 x37) = F114.l0 c34 c14 c114 k  n x3 x7 x8 x36 x37 := by
  induction n generalizing x3 x7 x8 x36 x37 with
  | zero => rw [F114.z_l0]; rfl
  | succ n ih =>
    rw [F114.r_l0]
    simp only [ih]
    rfl
theorem F114.e (c34 : F34.E) (c14 : F14.E) (c114 : F114.E) (k : Nat) (a0 : List X_Object) (a1 : X_Value) (a2 : X_Value) : fn (F114.C c34 c14 c114) k Tryz.f114 F114.A F114.R (a0, (a1, a2)) = F114.f c34 c14 c114 k a0 a1 a2 := by
  rw [F114.r]
  simp only [F114.e_l0]
  rfl
theorem F114.ty (c34 : F34.E) (c14 : F14.E) (c114 : F114.E) : TyOk Tryz.prog (F114.C c34 c14 c114) := tyOk_of (by kernel_rfl)
def F114.ur (k : Nat) (g : F114.E) : F114.E := fun y => F114.f (F34.u k) (F14.u k) g k y.1 y.2.1 y.2.2
theorem F114.sound_r (k : Nat) (g : F114.E) (hg : Sound Tryz.prog ⟨114, F114.A, F114.R, g⟩) : Sound Tryz.prog ⟨114, F114.A, F114.R, F114.ur k g⟩ := by
  have h := fn_sound (k := k) («as» := F114.A) (rs := F114.R) (F114.ty (F34.u k) (F14.u k) g) (fun E h => by
    simp only [F114.C, List.mem_cons, List.not_mem_nil, or_false] at h
    rcases h with rfl | rfl | rfl
    · exact F34.sound k
    · exact F14.sound k
    · exact hg) mixed Tryz.func114 (by kernel_rfl) (by kernel_rfl)
  have e : fn (F114.C (F34.u k) (F14.u k) g) k Tryz.f114 F114.A F114.R = F114.ur k g := by
    funext y
    exact F114.e (F34.u k) (F14.u k) g k y.1 y.2.1 y.2.2
  rw [e] at h
  exact h
def F114.u : Nat → F114.E
  | 0 => fun _ => none
  | k + 1 => F114.ur (k + 1) (F114.u k)
theorem F114.sound : ∀ k : Nat, Sound Tryz.prog ⟨114, F114.A, F114.R, F114.u k⟩
  | 0 => ⟨enters_of Tryz.func114 (c := Func.code Tryz.f114) (by kernel_rfl) (by kernel_rfl), fun x y h => by cases h⟩
  | k + 1 => F114.sound_r (k + 1) (F114.u k) (F114.sound k)
/-! ### brindlewood/brindlewoodref7.Place: f97 -/
abbrev F97.A : List Sh := [(.d Y_Heap), (.d (.sl 29 Y_Value)), (.d Y_Value)]
abbrev F97.R : List Sh := [(.d (.int .i64))]
abbrev F97.E : Type := ((List X_Object) × ((List X_Value) × X_Value)) → Option (Int)
def F97.C (c114 : F114.E) : Ctx := { ty := [(3, (.int .i64)), (24, Y_Heap), (29, Y_Value), (34, (.sl 29 Y_Value))], nf := [], by_ := [(29, 96)], env := [⟨114, F114.A, F114.R, c114⟩], spec := [(0, [.d 1 (.sl 29 Y_Value), .bx 3 600003 (.d Y_Heap), .bx 5 600005 (.d Y_Value), .d 9 (.int .i64), .d 10 (.int .i64)])] }
noncomputable def F97.code : Code := Func.code Tryz.f97
noncomputable def F97.fin (c114 : F114.E) := kfin (F97.C c114) Tryz.f97 F97.A F97.R
def F97.b (c114 : F114.E) (r_l0 : (List X_Value) → (List X_Object) → X_Value → (Int) → (Int) → Option (Int)) (a0 : List X_Object) (a1 : List X_Value) (a2 : X_Value) : Option (Int) :=
 r_l0 a1 a0 a2 ((List.length a1) : Int) (0 : Int)
def F97.b_l0 (c114 : F114.E) (n_l0 : (List X_Value) → (List X_Object) → X_Value → (Int) → (Int) → Option (Int)) (x1 : List X_Value) (x3 : List X_Object) (x5 : X_Value) (x9 : Int) (x10 : Int) : Option (Int) :=
 bif (decide (x10 < x9)) then
 if 0 ≤ x10 ∧ x10 < ((List.length x1) : Int) then
 (c114 (x3, ((List.getD x1 (Int.toNat x10) Z_Value), x5))).bind fun y1 =>
 bif y1 then
 some x10
 else
 n_l0 x1 x3 x5 x9 (IntKind.i64.wrap (x10 + (1 : Int)))
 else none
 else
 some (-1 : Int)
def F97.c_l0 (c114 : F114.E) (n_l0 : (List X_Value) → (List X_Object) → X_Value → (Int) → (Int) → Option (Int)) (x1 : List X_Value) (x3 : List X_Object) (x5 : X_Value) (x9 : Int) (x10 : Int) : Option (Int) :=
 bif (decide (x10 < x9)) then
 if 0 ≤ x10 ∧ x10 < ((List.length x1) : Int) then
 (c114 (x3, ((List.getD x1 (Int.toNat x10) Z_Value), x5))).bind fun y1 =>
 bif y1 then
 some x10
 else
 n_l0 x1 x3 x5 x9 (IntKind.i64.wrap (x10 + (1 : Int)))
 else none
 else
 some (-1 : Int)
theorem F97.q_l0 (c114 : F114.E) (n_l0 : (List X_Value) → (List X_Object) → X_Value → (Int) → (Int) → Option (Int)) (x1 : List X_Value) (x3 : List X_Object) (x5 : X_Value) (x9 : Int) (x10 : Int) : F97.b_l0 c114 n_l0 x1 x3 x5 x9 x10 = F97.c_l0 c114 n_l0 x1 x3 x5 x9 x10 := by
  simp only [F97.b_l0, F97.c_l0, List.take_length, take_one, Nat.zero_add, Int.toNat_natCast, Int.toNat_zero, List.drop_zero, List.append_eq, Nat.le_refl, Int.le_refl, true_and, and_true, zero_le_one, if_true, prod_eta, Int.natCast_zero]
def F97.l0 (c114 : F114.E) (k : Nat)  : Nat → (List X_Value) → (List X_Object) → X_Value → (Int) → (Int) → Option (Int)
  | 0, _, _, _, _, _ => none
  | n + 1, x1, x3, x5, x9, x10 => F97.b_l0 c114 (fun x1 x3 x5 x9 x10 => F97.l0 c114 k  n x1 x3 x5 x9 x10) x1 x3 x5 x9 x10
def F97.f (c114 : F114.E) (k : Nat) (a0 : List X_Object) (a1 : List X_Value) (a2 : X_Value) : Option (Int) := F97.b c114 (F97.l0 c114 k k) a0 a1 a2
noncomputable def F97.M_l0 (c114 : F114.E) (k n : Nat)  (s : St) : Option (Int) := atLoop (F97.C c114) k n [1, 0, 1, 0] [] F97.code (F97.fin c114) s
noncomputable def F97.fr_l0 (x1 : List X_Value) (x3 : List X_Object) (x5 : X_Value) (x9 : Int) (x10 : Int) : St := ⟨((((((List.replicate 22 V.un).set 1 (V.dat (.sl 29 Y_Value) x1)).set 3 (V.bp 600003 0 [])).set 5 (V.bp 600005 0 [])).set 9 (V.dat (.int .i64) x9)).set 10 (V.dat (.int .i64) x10)), [⟨600005, 0, .box (V.dat Y_Value x5)⟩, ⟨600003, 0, .box (V.dat Y_Heap x3)⟩]⟩
theorem F97.r (c114 : F114.E) (k : Nat) (a0 : List X_Object) (a1 : List X_Value) (a2 : X_Value) : fn (F97.C c114) k Tryz.f97 F97.A F97.R (a0, (a1, a2)) = F97.b c114 (fun x1 x3 x5 x9 x10 => F97.M_l0 c114 k k  (F97.fr_l0 x1 x3 x5 x9 x10)) a0 a1 a2 := by kernel_rfl
theorem F97.z_l0 (c114 : F114.E) (k : Nat)  (s : St) : F97.M_l0 c114 k 0  s = none := by kernel_rfl
theorem F97.r_l0 (c114 : F114.E) (k n : Nat)  (x1 : List X_Value) (x3 : List X_Object) (x5 : X_Value) (x9 : Int) (x10 : Int) : F97.M_l0 c114 k (n + 1)  (F97.fr_l0 x1 x3 x5 x9 x10) = F97.b_l0 c114 (fun x1 x3 x5 x9 x10 => F97.M_l0 c114 k n  (F97.fr_l0 x1 x3 x5 x9 x10)) x1 x3 x5 x9 x10 := by kernel_rfl
theorem F97.e_l0 (c114 : F114.E) (k n : Nat)  (x1 : List X_Value) (x3 : List X_Object) (x5 : X_Value) (x9 : Int) (x10 : Int) : F97.M_l0 c114 k n  (F97.fr_l0 x1 x3 x5 x9 x10) = F97.l0 c114 k  n x1 x3 x5 x9 x10 := by
  induction n generalizing x1 x3 x5 x9 x10 with
  | zero => rw [F97.z_l0]; rfl
  | succ n ih =>
    rw [F97.r_l0]
    simp only [ih]
    rfl
theorem F97.e (c114 : F114.E) (k : Nat) (a0 : List X_Object) (a1 : List X_Value) (a2 : X_Value) : fn (F97.C c114) k Tryz.f97 F97.A F97.R (a0, (a1, a2)) = F97.f c114 k a0 a1 a2 := by
  rw [F97.r]
  simp only [F97.e_l0]
  rfl
theorem F97.ty (c114 : F114.E) : TyOk Tryz.prog (F97.C c114) := tyOk_of (by kernel_rfl)
def F97.u (k : Nat) : F97.E := fun y => F97.f (F114.u k) k y.1 y.2.1 y.2.2
theorem F97.sound (k : Nat) : Sound Tryz.prog ⟨97, F97.A, F97.R, F97.u k⟩ := by
  have h := fn_sound (k := k) («as» := F97.A) (rs := F97.R) (F97.ty (F114.u k)) (fun E h => by
    simp only [F97.C, List.mem_cons, List.not_mem_nil, or_false] at h
    rcases h with rfl
    · exact F114.sound k) mixed Tryz.func97 (by kernel_rfl) (by kernel_rfl)
  have e : fn (F97.C (F114.u k)) k Tryz.f97 F97.A F97.R = F97.u k := by
    funext y
    exact F97.e (F114.u k) k y.1 y.2.1 y.2.2
  rw [e] at h
  exact h
/-! ### brindlewood/brindlewoodref7.keyRule: f70 -/
abbrev F70.A : List Sh := [(.d Y_Heap), (.d (.int .i64))]
abbrev F70.R : List Sh := [(.d (.int .i64))]
abbrev F70.E : Type := ((List X_Object) × (Int)) → Option (Int)
def F70.C (c96 : F96.E) (c97 : F97.E) : Ctx := { ty := [(3, (.int .i64)), (22, (.sl 36 Y_Object)), (24, Y_Heap), (29, Y_Value), (34, (.sl 29 Y_Value)), (36, Y_Object)], nf := [(24, 1), (36, 10)], by_ := [(29, 96), (36, 168)], env := [⟨96, F96.A, F96.R, c96⟩, ⟨97, F97.A, F97.R, c97⟩], spec := [(0, [.bx 2 600002 (.d Y_Heap), .d 5 (.sl 29 Y_Value), .d 14 (.sl 29 Y_Value), .d 15 (.int .i64), .d 16 (.int .i64)])] }
noncomputable def F70.code : Code := Func.code Tryz.f70
noncomputable def F70.fin (c96 : F96.E) (c97 : F97.E) := kfin (F70.C c96 c97) Tryz.f70 F70.A F70.R
def F70.b (c96 : F96.E) (c97 : F97.E) (r_l0 : (List X_Object) → (List X_Value) → (List X_Value) → (Int) → (Int) → Option (Int)) (a0 : List X_Object) (a1 : Int) : Option (Int) :=
 if 0 ≤ a1 ∧ a1 < ((List.length a0) : Int) then
 r_l0 a0 (((((((((List.getD a0 (Int.toNat a1) Z_Object).2).2).2).2).2).2).2).1) (((((((((List.getD a0 (Int.toNat a1) Z_Object).2).2).2).2).2).2).2).1) ((List.length (((((((((List.getD a0 (Int.toNat a1) Z_Object).2).2).2).2).2).2).2).1)) : Int) (0 : Int)
 else none
def F70.b_l0 (c96 : F96.E) (c97 : F97.E) (n_l0 : (List X_Object) → (List X_Value) → (List X_Value) → (Int) → (Int) → Option (Int)) (x2 : List X_Object) (x5 : List X_Value) (x14 : List X_Value) (x15 : Int) (x16 : Int) : Option (Int) :=
 bif (decide (x16 < x15)) then
 if 0 ≤ x16 ∧ x16 < ((List.length x14) : Int) then
 (c96 (x2, (List.getD x14 (Int.toNat x16) Z_Value))).bind fun y1 =>
 bif (!y1) then
 some (27 : Int)
 else
 if 0 ≤ (0 : Int) ∧ (0 : Int) ≤ x16 ∧ x16 ≤ ((List.length x5) : Int) then
 (c97 (x2, ((List.drop (Int.toNat (0 : Int)) (List.take (Int.toNat x16) x5)), (List.getD x14 (Int.toNat x16) Z_Value)))).bind fun y2 =>
 bif (decide (y2 ≥ (0 : Int))) then
 some (8 : Int)
 else
 n_l0 x2 x5 x14 x15 (IntKind.i64.wrap (x16 + (1 : Int)))
 else none
 else none
 else
 some (0 : Int)
def F70.c (c96 : F96.E) (c97 : F97.E) (r_l0 : (List X_Object) → (List X_Value) → (List X_Value) → (Int) → (Int) → Option (Int)) (a0 : List X_Object) (a1 : Int) : Option (Int) :=
 if 0 ≤ a1 ∧ a1 < ((List.length a0) : Int) then
 r_l0 a0 (((((((((List.getD a0 (Int.toNat a1) Z_Object).2).2).2).2).2).2).2).1) (((((((((List.getD a0 (Int.toNat a1) Z_Object).2).2).2).2).2).2).2).1) ((List.length (((((((((List.getD a0 (Int.toNat a1) Z_Object).2).2).2).2).2).2).2).1)) : Int) (0 : Int)
 else none
theorem F70.q (c96 : F96.E) (c97 : F97.E) (r_l0 : (List X_Object) → (List X_Value) → (List X_Value) → (Int) → (Int) → Option (Int)) (a0 : List X_Object) (a1 : Int) : F70.b c96 c97 r_l0 a0 a1 = F70.c c96 c97 r_l0 a0 a1 := by
  simp only [F70.b, F70.c, List.take_length, take_one, Nat.zero_add, Int.toNat_natCast, Int.toNat_zero, List.drop_zero, List.append_eq, Nat.le_refl, Int.le_refl, true_and, and_true, zero_le_one, if_true, prod_eta, Int.natCast_zero]
def F70.c_l0 (c96 : F96.E) (c97 : F97.E) (n_l0 : (List X_Object) → (List X_Value) → (List X_Value) → (Int) → (Int) → Option (Int)) (x2 : List X_Object) (x5 : List X_Value) (x14 : List X_Value) (x15 : Int) (x16 : Int) : Option (Int) :=
 bif (decide (x16 < x15)) then
 if 0 ≤ x16 ∧ x16 < ((List.length x14) : Int) then
 (c96 (x2, (List.getD x14 (Int.toNat x16) Z_Value))).bind fun y1 =>
 bif !y1 then
 some (27 : Int)
 else
 if (0 : Int) ≤ x16 ∧ x16 ≤ ((List.length x5) : Int) then
 (c97 (x2, ((List.take (Int.toNat x16) x5), (List.getD x14 (Int.toNat x16) Z_Value)))).bind fun y2 =>
 bif (decide (y2 ≥ (0 : Int))) then
 some (8 : Int)
 else
 n_l0 x2 x5 x14 x15 (IntKind.i64.wrap (x16 + (1 : Int)))
 else none
 else none
 else
 some (0 : Int)
theorem F70.q_l0 (c96 : F96.E) (c97 : F97.E) (n_l0 : (List X_Object) → (List X_Value) → (List X_Value) → (Int) → (Int) → Option (Int)) (x2 : List X_Object) (x5 : List X_Value) (x14 : List X_Value) (x15 : Int) (x16 : Int) : F70.b_l0 c96 c97 n_l0 x2 x5 x14 x15 x16 = F70.c_l0 c96 c97 n_l0 x2 x5 x14 x15 x16 := by
  simp only [F70.b_l0, F70.c_l0, List.take_length, take_one, Nat.zero_add, Int.toNat_natCast, Int.toNat_zero, List.drop_zero, List.append_eq, Nat.le_refl, Int.le_refl, true_and, and_true, zero_le_one, if_true, prod_eta, Int.natCast_zero]
def F70.l0 (c96 : F96.E) (c97 : F97.E) (k : Nat)  : Nat → (List X_Object) → (List X_Value) → (List X_Value) → (Int) → (Int) → Option (Int)
  | 0, _, _, _, _, _ => none
  | n + 1, x2, x5, x14, x15, x16 => F70.b_l0 c96 c97 (fun x2 x5 x14 x15 x16 => F70.l0 c96 c97 k  n x2 x5 x14 x15 x16) x2 x5 x14 x15 x16
def F70.f (c96 : F96.E) (c97 : F97.E) (k : Nat) (a0 : List X_Object) (a1 : Int) : Option (Int) := F70.b c96 c97 (F70.l0 c96 c97 k k) a0 a1
noncomputable def F70.M_l0 (c96 : F96.E) (c97 : F97.E) (k n : Nat)  (s : St) : Option (Int) := atLoop (F70.C c96 c97) k n [1, 1, 0, 1, 0] [] F70.code (F70.fin c96 c97) s
noncomputable def F70.fr_l0 (x2 : List X_Object) (x5 : List X_Value) (x14 : List X_Value) (x15 : Int) (x16 : Int) : St := ⟨((((((List.replicate 33 V.un).set 2 (V.bp 600002 0 [])).set 5 (V.dat (.sl 29 Y_Value) x5)).set 14 (V.dat (.sl 29 Y_Value) x14)).set 15 (V.dat (.int .i64) x15)).set 16 (V.dat (.int .i64) x16)), [⟨600002, 0, .box (V.dat Y_Heap x2)⟩]⟩
theorem F70.r (c96 : F96.E) (c97 : F97.E) (k : Nat) (a0 : List X_Object) (a1 : Int) : fn (F70.C c96 c97) k Tryz.f70 F70.A F70.R (a0, a1) = F70.b c96 c97 (fun x2 x5 x14 x15 x16 => F70.M_l0 c96 c97 k k  (F70.fr_l0 x2 x5 x14 x15 x16)) a0 a1 := by kernel_rfl
theorem F70.z_l0 (c96 : F96.E) (c97 : F97.E) (k : Nat)  (s : St) : F70.M_l0 c96 c97 k 0  s = none := by kernel_rfl
theorem F70.r_l0 (c96 : F96.E) (c97 : F97.E) (k n : Nat)  (x2 : List X_Object) (x5 : List X_Value) (x14 : List X_Value) (x15 : Int) (x16 : Int) : F70.M_l0 c96 c97 k (n + 1)  (F70.fr_l0 x2 x5 x14 x15 x16) = F70.b_l0 c96 c97 (fun x2 x5 x14 x15 x16 => F70.M_l0 c96 c97 k n  (F70.fr_l0 x2 x5 x14 x15 x16)) x2 x5 x14 x15 x16 := by kernel_rfl
theorem F70.e_l0 (c96 : F96.E) (c97 : F97.E) (k n : Nat)  (x2 : List X_Object) (x5 : List X_Value) (x14 : List X_Value) (x15 : Int) (x16 : Int) : F70.M_l0 c96 c97 k n  (F70.fr_l0 x2 x5 x14 x15 x16) = F70.l0 c96 c97 k  n x2 x5 x14 x15 x16 := by
  induction n generalizing x2 x5 x14 x15 x16 with
  | zero => rw [F70.z_l0]; rfl
  | succ n ih =>
    rw [F70.r_l0]
    simp only [ih]
    rfl
theorem F70.e (c96 : F96.E) (c97 : F97.E) (k : Nat) (a0 : List X_Object) (a1 : Int) : fn (F70.C c96 c97) k Tryz.f70 F70.A F70.R (a0, a1) = F70.f c96 c97 k a0 a1 := by
  rw [F70.r]
  simp only [F70.e_l0]
  rfl
theorem F70.ty (c96 : F96.E) (c97 : F97.E) : TyOk Tryz.prog (F70.C c96 c97) := tyOk_of (by kernel_rfl)
def F70.u (k : Nat) : F70.E := fun y => F70.f (F96.u k) (F97.u k) k y.1 y.2
theorem F70.sound (k : Nat) : Sound Tryz.prog ⟨70, F70.A, F70.R, F70.u k⟩ := by
  have h := fn_sound (k := k) («as» := F70.A) (rs := F70.R) (F70.ty (F96.u k) (F97.u k)) (fun E h => by
    simp only [F70.C, List.mem_cons, List.not_mem_nil, or_false] at h
    rcases h with rfl | rfl
    · exact F96.sound k
    · exact F97.sound k) mixed Tryz.func70 (by kernel_rfl) (by kernel_rfl)
  have e : fn (F70.C (F96.u k) (F97.u k)) k Tryz.f70 F70.A F70.R = F70.u k := by
    funext y
    exact F70.e (F96.u k) (F97.u k) k y.1 y.2
  rw [e] at h
  exact h
/-! ### brindlewood/brindlewoodref7.HasInt: f131 -/
abbrev F131.A : List Sh := [(.d (.sl 3 (.int .i64))), (.d (.int .i64))]
abbrev F131.R : List Sh := [(.d .bool)]
abbrev F131.E : Type := ((List (Int)) × (Int)) → Option (Bool)
def F131.C (c41 : F41.E) : Ctx := { ty := [], nf := [], by_ := [], env := [⟨41, F41.A, F41.R, c41⟩], spec := [] }
noncomputable def F131.code : Code := Func.code Tryz.f131
noncomputable def F131.fin (c41 : F41.E) := kfin (F131.C c41) Tryz.f131 F131.A F131.R
def F131.b (c41 : F41.E)  (a0 : List (Int)) (a1 : Int) : Option (Bool) :=
 (c41 (a0, a1)).bind fun y1 =>
 some y1
def F131.f (c41 : F41.E) (k : Nat) (a0 : List (Int)) (a1 : Int) : Option (Bool) := F131.b c41  a0 a1
theorem F131.r (c41 : F41.E) (k : Nat) (a0 : List (Int)) (a1 : Int) : fn (F131.C c41) k Tryz.f131 F131.A F131.R (a0, a1) = F131.b c41  a0 a1 := by kernel_rfl
theorem F131.e (c41 : F41.E) (k : Nat) (a0 : List (Int)) (a1 : Int) : fn (F131.C c41) k Tryz.f131 F131.A F131.R (a0, a1) = F131.f c41 k a0 a1 := by
  rw [F131.r]
  rfl
theorem F131.ty (c41 : F41.E) : TyOk Tryz.prog (F131.C c41) := tyOk_of (by kernel_rfl)
def F131.u (k : Nat) : F131.E := fun y => F131.f (F41.u k) k y.1 y.2
theorem F131.sound (k : Nat) : Sound Tryz.prog ⟨131, F131.A, F131.R, F131.u k⟩ := by
  have h := fn_sound (k := k) («as» := F131.A) (rs := F131.R) (F131.ty (F41.u k)) (fun E h => by
    simp only [F131.C, List.mem_cons, List.not_mem_nil, or_false] at h
    rcases h with rfl
    · exact F41.sound k) mixed Tryz.func131 (by kernel_rfl) (by kernel_rfl)
  have e : fn (F131.C (F41.u k)) k Tryz.f131 F131.A F131.R = F131.u k := by
    funext y
    exact F131.e (F41.u k) k y.1 y.2
  rw [e] at h
  exact h
/-! ### brindlewood/brindlewoodref7.OrdersFault: f115 -/
abbrev F115.A : List Sh := [(.d (.sl 32 (.sl 3 (.int .i64))))]
abbrev F115.R : List Sh := [(.d Y_Fault)]
abbrev F115.E : Type := (List (List (Int))) → Option X_acceptRange
def F115.C (c64 : F64.E) (c131 : F131.E) : Ctx := { ty := [(3, (.int .i64)), (32, (.sl 3 (.int .i64))), (64, Y_Fault), (120, (.sl 32 (.sl 3 (.int .i64))))], nf := [(64, 2)], by_ := [(3, 8), (32, 24)], env := [⟨64, F64.A, F64.R, c64⟩, ⟨131, F131.A, F131.R, c131⟩], spec := [(0, [.bx 2 600002 (.d Y_Fault), .o 3 500003 3 (.int .i64), .d 14 (.sl 32 (.sl 3 (.int .i64))), .d 15 (.int .i64), .d 16 (.int .i64)]), (2, [.bx 2 600002 (.d Y_Fault), .o 3 500003 3 (.int .i64), .d 4 (.int .i64), .d 5 (.sl 3 (.int .i64)), .d 6 .bool, .d 7 (.int .i64), .d 14 (.sl 32 (.sl 3 (.int .i64))), .d 15 (.int .i64), .d 16 (.int .i64), .d 21 (.sl 3 (.int .i64)), .d 22 (.int .i64), .d 23 (.int .i64)])] }
noncomputable def F115.code : Code := Func.code Tryz.f115
noncomputable def F115.fin (c64 : F64.E) (c131 : F131.E) := kfin (F115.C c64 c131) Tryz.f115 F115.A F115.R
def F115.b (c64 : F64.E) (c131 : F131.E) (r_l0 : X_acceptRange → (List (Int)) → (List (List (Int))) → (Int) → (Int) → Option X_acceptRange) (a0 : List (List (Int))) : Option X_acceptRange :=
 bif (decide (((List.length a0) : Int) > (8 : Int))) then
 (c64 ((2 : Int), (-1 : Int))).bind fun y1 =>
 some y1
 else
 r_l0 ((0 : Int), (0 : Int)) ([] : List (Int)) a0 ((List.length a0) : Int) (0 : Int)
def F115.b_l0 (c64 : F64.E) (c131 : F131.E) (r_l2 : X_acceptRange → (List (Int)) → (Int) → (List (Int)) → (Bool) → (Int) → (List (List (Int))) → (Int) → (Int) → (List (Int)) → (Int) → (Int) → Option X_acceptRange) (x2 : (Int) × (Int)) (x3 : List (Int)) (x14 : List (List (Int))) (x15 : Int) (x16 : Int) : Option X_acceptRange :=
 bif (decide (x16 < x15)) then
 if 0 ≤ x16 ∧ x16 < ((List.length x14) : Int) then
 r_l2 x2 (List.take (List.length x3) x3) x16 (List.getD x14 (Int.toNat x16) []) false (0 : Int) x14 x15 x16 (List.getD x14 (Int.toNat x16) []) ((List.length (List.getD x14 (Int.toNat x16) [])) : Int) (0 : Int)
 else none
 else
 some ((0 : Int), (0 : Int))
def F115.b_l2 (c64 : F64.E) (c131 : F131.E) (n_l2 : X_acceptRange → (List (Int)) → (Int) → (List (Int)) → (Bool) → (Int) → (List (List (Int))) → (Int) → (Int) → (List (Int)) → (Int) → (Int) → Option X_acceptRange) (n_l0 : X_acceptRange → (List (Int)) → (List (List (Int))) → (Int) → (Int) → Option X_acceptRange) (x2 : (Int) × (Int)) (x3 : List (Int)) (x4 : Int) (x5 : List (Int)) (x6 : Bool) (x7 : Int) (x14 : List (List (Int))) (x15 : Int) (x16 : Int) (x21 : List (Int)) (x22 : Int) (x23 : Int) : Option X_acceptRange :=
 bif (decide (x23 < x22)) then
 if 0 ≤ x23 ∧ x23 < ((List.length x21) : Int) then
 bif x6 then
 n_l2 x2 (List.take (List.length x3) x3) x4 x5 true (if (List.getD x21 (Int.toNat x23) (0 : Int)) < x7 then (List.getD x21 (Int.toNat x23) (0 : Int)) else x7) x14 x15 x16 x21 x22 (IntKind.i64.wrap (x23 + (1 : Int)))
 else
 if 0 ≤ (0 : Int) ∧ (0 : Int) ≤ x23 ∧ x23 ≤ ((List.length x5) : Int) then
 (c131 ((List.drop (Int.toNat (0 : Int)) (List.take (Int.toNat x23) x5)), (List.getD x21 (Int.toNat x23) (0 : Int)))).bind fun y2 =>
 n_l2 x2 (List.take (List.length x3) x3) x4 x5 y2 (if (List.getD x21 (Int.toNat x23) (0 : Int)) < x7 then (List.getD x21 (Int.toNat x23) (0 : Int)) else x7) x14 x15 x16 x21 x22 (IntKind.i64.wrap (x23 + (1 : Int)))
 else none
 else none
 else
 bif (((List.length x5) : Int) == (0 : Int)) then
 (c64 ((10 : Int), x4)).bind fun y3 =>
 some y3
 else
 bif (decide (((List.length x5) : Int) > (40 : Int))) then
 (c64 ((2 : Int), x4)).bind fun y4 =>
 some y4
 else
 bif (decide (x7 < (0 : Int))) then
 (c64 ((4 : Int), x4)).bind fun y5 =>
 some y5
 else
 bif x6 then
 (c64 ((8 : Int), x4)).bind fun y6 =>
 some y6
 else
 if 0 ≤ (0 : Int) ∧ (0 : Int) < ((List.length x5) : Int) then
 (c131 ((List.take (List.length x3) x3), (List.getD x5 (Int.toNat (0 : Int)) (0 : Int)))).bind fun y7 =>
 bif y7 then
 (c64 ((8 : Int), x4)).bind fun y8 =>
 some y8
 else
 if 0 ≤ (0 : Int) ∧ (0 : Int) < ((List.length x5) : Int) then
 if (List.length x3) ≤ (List.length x3) ∧ ((List.length x3) + (List.length (List.take 1 ([(List.getD x5 (Int.toNat (0 : Int)) (0 : Int))] : List (Int))))) * 8 ≤ LIM then
 n_l0 x2 (List.take (List.length (List.append (List.take (List.length x3) x3) (List.take 1 ([(List.getD x5 (Int.toNat (0 : Int)) (0 : Int))] : List (Int))))) (List.append (List.take (List.length x3) x3) (List.take 1 ([(List.getD x5 (Int.toNat (0 : Int)) (0 : Int))] : List (Int))))) x14 x15 (IntKind.i64.wrap (x16 + (1 : Int)))
 else none
 else none
 else none
def F115.c (c64 : F64.E) (c131 : F131.E) (r_l0 : X_acceptRange → (List (Int)) → (List (List (Int))) → (Int) → (Int) → Option X_acceptRange) (a0 : List (List (Int))) : Option X_acceptRange :=
 bif (decide (((List.length a0) : Int) > (8 : Int))) then
 (c64 ((2 : Int), (-1 : Int))).bind fun y1 =>
 some y1
 else
 r_l0 ((0 : Int), (0 : Int)) ([] : List Int) a0 ((List.length a0) : Int) (0 : Int)
theorem F115.q (c64 : F64.E) (c131 : F131.E) (r_l0 : X_acceptRange → (List (Int)) → (List (List (Int))) → (Int) → (Int) → Option X_acceptRange) (a0 : List (List (Int))) : F115.b c64 c131 r_l0 a0 = F115.c c64 c131 r_l0 a0 := by
  simp only [F115.b, F115.c, List.take_length, take_one, Nat.zero_add, Int.toNat_natCast, Int.toNat_zero, List.drop_zero, List.append_eq, Nat.le_refl, Int.le_refl, true_and, and_true, zero_le_one, if_true, prod_eta, Int.natCast_zero]
def F115.l2 (c64 : F64.E) (c131 : F131.E) (k : Nat) (n_l0 : X_acceptRange → (List (Int)) → (List (List (Int))) → (Int) → (Int) → Option X_acceptRange) : Nat → X_acceptRange → (List (Int)) → (Int) → (List (Int)) → (Bool) → (Int) → (List (List (Int))) → (Int) → (Int) → (List (Int)) → (Int) → (Int) → Option X_acceptRange
  | 0, _, _, _, _, _, _, _, _, _, _, _, _ => none
  | n + 1, x2, x3, x4, x5, x6, x7, x14, x15, x16, x21, x22, x23 => F115.b_l2 c64 c131 (fun x2 x3 x4 x5 x6 x7 x14 x15 x16 x21 x22 x23 => F115.l2 c64 c131 k n_l0 n x2 x3 x4 x5 x6 x7 x14 x15 x16 x21 x22 x23) n_l0 x2 x3 x4 x5 x6 x7 x14 x15 x16 x21 x22 x23
def F115.l0 (c64 : F64.E) (c131 : F131.E) (k : Nat)  : Nat → X_acceptRange → (List (Int)) → (List (List (Int))) → (Int) → (Int) → Option X_acceptRange
  | 0, _, _, _, _, _ => none
  | n + 1, x2, x3, x14, x15, x16 => F115.b_l0 c64 c131 (F115.l2 c64 c131 k (fun x2 x3 x14 x15 x16 => F115.l0 c64 c131 k  n x2 x3 x14 x15 x16) k) x2 x3 x14 x15 x16
def F115.f (c64 : F64.E) (c131 : F131.E) (k : Nat) (a0 : List (List (Int))) : Option X_acceptRange := F115.b c64 c131 (F115.l0 c64 c131 k k) a0
noncomputable def F115.M_l0 (c64 : F64.E) (c131 : F131.E) (k n : Nat)  (s : St) : Option X_acceptRange := atLoop (F115.C c64 c131) k n [1, 1, 1, 0, 1, 0] [] F115.code (F115.fin c64 c131) s
noncomputable def F115.fr_l0 (x2 : (Int) × (Int)) (x3 : List (Int)) (x14 : List (List (Int))) (x15 : Int) (x16 : Int) : St := ⟨((((((List.replicate 76 V.un).set 2 (V.bp 600002 0 [])).set 3 (V.ref 500003 0 0 (List.length x3))).set 14 (V.dat (.sl 32 (.sl 3 (.int .i64))) x14)).set 15 (V.dat (.int .i64) x15)).set 16 (V.dat (.int .i64) x16)), [⟨500003, 0, .arr 3 (.int .i64) x3⟩, ⟨600002, 0, .box (V.dat Y_Fault x2)⟩]⟩
noncomputable def F115.M_l2 (c64 : F64.E) (c131 : F131.E) (k n : Nat) (m0 : Nat) (s : St) : Option X_acceptRange := atLoop (F115.C c64 c131) k n [1, 1, 1, 0, 1, 0, 0, 1, 1, 0, 0, 1, 1, 0, 1, 0] [m0] F115.code (F115.fin c64 c131) s
noncomputable def F115.fr_l2 (x2 : (Int) × (Int)) (x3 : List (Int)) (x4 : Int) (x5 : List (Int)) (x6 : Bool) (x7 : Int) (x14 : List (List (Int))) (x15 : Int) (x16 : Int) (x21 : List (Int)) (x22 : Int) (x23 : Int) : St := ⟨(((((((((((((List.replicate 76 V.un).set 2 (V.bp 600002 0 [])).set 3 (V.ref 500003 0 0 (List.length x3))).set 4 (V.dat (.int .i64) x4)).set 5 (V.dat (.sl 3 (.int .i64)) x5)).set 6 (V.dat .bool x6)).set 7 (V.dat (.int .i64) x7)).set 14 (V.dat (.sl 32 (.sl 3 (.int .i64))) x14)).set 15 (V.dat (.int .i64) x15)).set 16 (V.dat (.int .i64) x16)).set 21 (V.dat (.sl 3 (.int .i64)) x21)).set 22 (V.dat (.int .i64) x22)).set 23 (V.dat (.int .i64) x23)), [⟨500003, 0, .arr 3 (.int .i64) x3⟩, ⟨600002, 0, .box (V.dat Y_Fault x2)⟩]⟩
theorem F115.r (c64 : F64.E) (c131 : F131.E) (k : Nat) (a0 : List (List (Int))) : fn (F115.C c64 c131) k Tryz.f115 F115.A F115.R a0 = F115.b c64 c131 (fun x2 x3 x14 x15 x16 => F115.M_l0 c64 c131 k k  (F115.fr_l0 x2 x3 x14 x15 x16)) a0 := by kernel_rfl
theorem F115.z_l0 (c64 : F64.E) (c131 : F131.E) (k : Nat)  (s : St) : F115.M_l0 c64 c131 k 0  s = none := by kernel_rfl
theorem F115.r_l0 (c64 : F64.E) (c131 : F131.E) (k n : Nat)  (x2 : (Int) × (Int)) (x3 : List (Int)) (x14 : List (List (Int))) (x15 : Int) (x16 : Int) : F115.M_l0 c64 c131 k (n + 1)  (F115.fr_l0 x2 x3 x14 x15 x16) = F115.b_l0 c64 c131 (fun x2 x3 x4 x5 x6 x7 x14 x15 x16 x21 x22 x23 => F115.M_l2 c64 c131 k k n (F115.fr_l2 x2 x3 x4 x5 x6 x7 x14 x15 x16 x21 x22 x23)) x2 x3 x14 x15 x16 := by kernel_rfl
theorem F115.z_l2 (c64 : F64.E) (c131 : F131.E) (k : Nat) (m0 : Nat) (s : St) : F115.M_l2 c64 c131 k 0 m0 s = none := by kernel_rfl
theorem F115.r_l2 (c64 : F64.E) (c131 : F131.E) (k n : Nat) (m0 : Nat) (x2 : (Int) × (Int)) (x3 : List (Int)) (x4 : Int) (x5 : List (Int)) (x6 : Bool) (x7 : Int) (x14 : List (List (Int))) (x15 : Int) (x16 : Int) (x21 : List (Int)) (x22 : Int) (x23 : Int) : F115.M_l2 c64 c131 k (n + 1) m0 (F115.fr_l2 x2 x3 x4 x5 x6 x7 x14 x15 x16 x21 x22 x23) = F115.b_l2 c64 c131 (fun x2 x3 x4 x5 x6 x7 x14 x15 x16 x21 x22 x23 => F115.M_l2 c64 c131 k n m0 (F115.fr_l2 x2 x3 x4 x5 x6 x7 x14 x15 x16 x21 x22 x23)) (fun x2 x3 x14 x15 x16 => F115.M_l0 c64 c131 k m0  (F115.fr_l0 x2 x3 x14 x15 x16)) x2 x3 x4 x5 x6 x7 x14 x15 x16 x21 x22 x23 := by kernel_rfl
theorem F115.e_l2 (c64 : F64.E) (c131 : F131.E) (k n : Nat) (m0 : Nat) (x2 : (Int) × (Int)) (x3 : List (Int)) (x4 : Int) (x5 : List (Int)) (x6 : Bool) (x7 : Int) (x14 : List (List (Int))) (x15 : Int) (x16 : Int) (x21 : List (Int)) (x22 : Int) (x23 : Int) : F115.M_l2 c64 c131 k n m0 (F115.fr_l2 x2 x3 x4 x5 x6 x7 x14 x15 x16 x21 x22 x23) = F115.l2 c64 c131 k (fun x2 x3 x14 x15 x16 => F115.M_l0 c64 c131 k m0  (F115.fr_l0 x2 x3 x14 x15 x16)) n x2 x3 x4 x5 x6 x7 x14 x15 x16 x21 x22 x23 := by
  induction n generalizing x2 x3 x4 x5 x6 x7 x14 x15 x16 x21 x22 x23 with
  | zero => rw [F115.z_l2]; rfl
  | succ n ih =>
    rw [F115.r_l2]
    simp only [ih]
    rfl
theorem F115.e_l0 (c64 : F64.E) (c131 : F131.E) (k n : Nat)  (x2 : (Int) × (Int)) (x3 : List (Int)) (x14 : List (List (Int))) (x15 : Int) (x16 : Int) : F115.M_l0 c64 c131 k n  (F115.fr_l0 x2 x3 x14 x15 x16) = F115.l0 c64 c131 k  n x2 x3 x14 x15 x16 := by
  induction n generalizing x2 x3 x14 x15 x16 with
  | zero => rw [F115.z_l0]; rfl
  | succ n ih =>
    rw [F115.r_l0]
    simp only [F115.e_l2, ih]
    rfl
theorem F115.e (c64 : F64.E) (c131 : F131.E) (k : Nat) (a0 : List (List (Int))) : fn (F115.C c64 c131) k Tryz.f115 F115.A F115.R a0 = F115.f c64 c131 k a0 := by
  rw [F115.r]
  simp only [F115.e_l0]
  rfl
theorem F115.ty (c64 : F64.E) (c131 : F131.E) : TyOk Tryz.prog (F115.C c64 c131) := tyOk_of (by kernel_rfl)
def F115.u (k : Nat) : F115.E := fun y => F115.f (F64.u k) (F131.u k) k y
theorem F115.sound (k : Nat) : Sound Tryz.prog ⟨115, F115.A, F115.R, F115.u k⟩ := by
  have h := fn_sound (k := k) («as» := F115.A) (rs := F115.R) (F115.ty (F64.u k) (F131.u k)) (fun E h => by
    simp only [F115.C, List.mem_cons, List.not_mem_nil, or_false] at h
    rcases h with rfl | rfl
    · exact F64.sound k
    · exact F131.sound k) mixed Tryz.func115 (by kernel_rfl) (by kernel_rfl)
  have e : fn (F115.C (F64.u k) (F131.u k)) k Tryz.f115 F115.A F115.R = F115.u k := by
    funext y
    exact F115.e (F64.u k) (F131.u k) k y
  rw [e] at h
  exact h
/-! ### brindlewood/brindlewoodref7.inTail: f132 -/
abbrev F132.A : List Sh := [(.d (.sl 32 (.sl 3 (.int .i64)))), (.d (.int .i64))]
abbrev F132.R : List Sh := [(.d .bool)]
abbrev F132.E : Type := ((List (List (Int))) × (Int)) → Option (Bool)
def F132.C (c131 : F131.E) : Ctx := { ty := [(3, (.int .i64)), (32, (.sl 3 (.int .i64))), (120, (.sl 32 (.sl 3 (.int .i64))))], nf := [], by_ := [(3, 8), (32, 24)], env := [⟨131, F131.A, F131.R, c131⟩], spec := [(0, [.d 1 (.int .i64), .d 7 (.sl 32 (.sl 3 (.int .i64))), .d 8 (.int .i64), .d 9 (.int .i64)])] }
noncomputable def F132.code : Code := Func.code Tryz.f132
noncomputable def F132.fin (c131 : F131.E) := kfin (F132.C c131) Tryz.f132 F132.A F132.R
def F132.b (c131 : F131.E) (r_l0 : (Int) → (List (List (Int))) → (Int) → (Int) → Option (Bool)) (a0 : List (List (Int))) (a1 : Int) : Option (Bool) :=
 r_l0 a1 a0 ((List.length a0) : Int) (0 : Int)
def F132.b_l0 (c131 : F131.E) (n_l0 : (Int) → (List (List (Int))) → (Int) → (Int) → Option (Bool)) (x1 : Int) (x7 : List (List (Int))) (x8 : Int) (x9 : Int) : Option (Bool) :=
 bif (decide (x9 < x8)) then
 if 0 ≤ x9 ∧ x9 < ((List.length x7) : Int) then
 if 0 ≤ (1 : Int) ∧ (1 : Int) ≤ ((List.length (List.getD x7 (Int.toNat x9) [])) : Int) ∧ ((List.length (List.getD x7 (Int.toNat x9) [])) : Int) ≤ ((List.length (List.getD x7 (Int.toNat x9) [])) : Int) then
 (c131 ((List.drop (Int.toNat (1 : Int)) (List.take (Int.toNat ((List.length (List.getD x7 (Int.toNat x9) [])) : Int)) (List.getD x7 (Int.toNat x9) []))), x1)).bind fun y1 =>
 bif y1 then
 some true
 else
 n_l0 x1 x7 x8 (IntKind.i64.wrap (x9 + (1 : Int)))
 else none
 else none
 else
 some false
def F132.l0 (c131 : F131.E) (k : Nat)  : Nat → (Int) → (List (List (Int))) → (Int) → (Int) → Option (Bool)
  | 0, _, _, _, _ => none
  | n + 1, x1, x7, x8, x9 => F132.b_l0 c131 (fun x1 x7 x8 x9 => F132.l0 c131 k  n x1 x7 x8 x9) x1 x7 x8 x9
def F132.f (c131 : F131.E) (k : Nat) (a0 : List (List (Int))) (a1 : Int) : Option (Bool) := F132.b c131 (F132.l0 c131 k k) a0 a1
noncomputable def F132.M_l0 (c131 : F131.E) (k n : Nat)  (s : St) : Option (Bool) := atLoop (F132.C c131) k n [1, 0, 1, 0] [] F132.code (F132.fin c131) s
noncomputable def F132.fr_l0 (x1 : Int) (x7 : List (List (Int))) (x8 : Int) (x9 : Int) : St := ⟨(((((List.replicate 18 V.un).set 1 (V.dat (.int .i64) x1)).set 7 (V.dat (.sl 32 (.sl 3 (.int .i64))) x7)).set 8 (V.dat (.int .i64) x8)).set 9 (V.dat (.int .i64) x9)), []⟩
theorem F132.r (c131 : F131.E) (k : Nat) (a0 : List (List (Int))) (a1 : Int) : fn (F132.C c131) k Tryz.f132 F132.A F132.R (a0, a1) = F132.b c131 (fun x1 x7 x8 x9 => F132.M_l0 c131 k k  (F132.fr_l0 x1 x7 x8 x9)) a0 a1 := by kernel_rfl
theorem F132.z_l0 (c131 : F131.E) (k : Nat)  (s : St) : F132.M_l0 c131 k 0  s = none := by kernel_rfl
theorem F132.r_l0 (c131 : F131.E) (k n : Nat)  (x1 : Int) (x7 : List (List (Int))) (x8 : Int) (x9 : Int) : F132.M_l0 c131 k (n + 1)  (F132.fr_l0 x1 x7 x8 x9) = F132.b_l0 c131 (fun x1 x7 x8 x9 => F132.M_l0 c131 k n  (F132.fr_l0 x1 x7 x8 x9)) x1 x7 x8 x9 := by kernel_rfl
theorem F132.e_l0 (c131 : F131.E) (k n : Nat)  (x1 : Int) (x7 : List (List (Int))) (x8 : Int) (x9 : Int) : F132.M_l0 c131 k n  (F132.fr_l0 x1 x7 x8 x9) = F132.l0 c131 k  n x1 x7 x8 x9 := by
  induction n generalizing x1 x7 x8 x9 with
  | zero => rw [F132.z_l0]; rfl
  | succ n ih =>
    rw [F132.r_l0]
    simp only [ih]
    rfl
theorem F132.e (c131 : F131.E) (k : Nat) (a0 : List (List (Int))) (a1 : Int) : fn (F132.C c131) k Tryz.f132 F132.A F132.R (a0, a1) = F132.f c131 k a0 a1 := by
  rw [F132.r]
  simp only [F132.e_l0]
  rfl
theorem F132.ty (c131 : F131.E) : TyOk Tryz.prog (F132.C c131) := tyOk_of (by kernel_rfl)
def F132.u (k : Nat) : F132.E := fun y => F132.f (F131.u k) k y.1 y.2
theorem F132.sound (k : Nat) : Sound Tryz.prog ⟨132, F132.A, F132.R, F132.u k⟩ := by
  have h := fn_sound (k := k) («as» := F132.A) (rs := F132.R) (F132.ty (F131.u k)) (fun E h => by
    simp only [F132.C, List.mem_cons, List.not_mem_nil, or_false] at h
    rcases h with rfl
    · exact F131.sound k) mixed Tryz.func132 (by kernel_rfl) (by kernel_rfl)
  have e : fn (F132.C (F131.u k)) k Tryz.f132 F132.A F132.R = F132.u k := by
    funext y
    exact F132.e (F131.u k) k y.1 y.2
  rw [e] at h
  exact h
/-! ### brindlewood/brindlewoodref7.Merged: f116 -/
abbrev F116.A : List Sh := [(.d (.sl 32 (.sl 3 (.int .i64))))]
abbrev F116.R : List Sh := [(.d (.sl 3 (.int .i64))), (.d (.sl 32 (.sl 3 (.int .i64))))]
abbrev F116.E : Type := (List (List (Int))) → Option ((List (Int)) × (List (List (Int))))
def F116.C (c132 : F132.E) : Ctx := { ty := [(3, (.int .i64)), (32, (.sl 3 (.int .i64))), (120, (.sl 32 (.sl 3 (.int .i64))))], nf := [], by_ := [(3, 8), (32, 24)], env := [⟨132, F132.A, F132.R, c132⟩], spec := [(0, [.o 2 500002 3 (.int .i64), .o 3 500003 32 (.sl 3 (.int .i64)), .o 4 500004 3 (.int .i64), .d 14 (.sl 32 (.sl 3 (.int .i64))), .d 15 (.int .i64), .d 16 (.int .i64)]), (2, [.o 2 500002 3 (.int .i64), .o 3 500003 32 (.sl 3 (.int .i64))]), (4, [.o 2 500002 3 (.int .i64), .o 3 500003 32 (.sl 3 (.int .i64)), .d 7 (.int .i64), .d 8 .bool, .al 41 3, .d 42 (.int .i64), .d 43 (.int .i64)]), (6, [.o 2 500002 3 (.int .i64), .d 7 (.int .i64), .o 11 500011 32 (.sl 3 (.int .i64)), .o 69 500069 32 (.sl 3 (.int .i64)), .d 70 (.int .i64), .d 71 (.int .i64)]), (100027, [.o 2 500002 3 (.int .i64), .d 7 (.int .i64), .o 11 500011 32 (.sl 3 (.int .i64)), .d 13 (.sl 3 (.int .i64)), .o 69 500069 32 (.sl 3 (.int .i64)), .d 70 (.int .i64), .d 71 (.int .i64)])] }
noncomputable def F116.code : Code := Func.code Tryz.f116
noncomputable def F116.fin (c132 : F132.E) := kfin (F116.C c132) Tryz.f116 F116.A F116.R
def F116.b (c132 : F132.E) (r_l0 : (List (Int)) → (List (List (Int))) → (List (Int)) → (List (List (Int))) → (Int) → (Int) → Option ((List (Int)) × (List (List (Int))))) (a0 : List (List (Int))) : Option ((List (Int)) × (List (List (Int)))) :=
 r_l0 ([] : List (Int)) ([] : List (List (Int))) ([] : List (Int)) a0 ((List.length a0) : Int) (0 : Int)
def F116.b_l0 (c132 : F132.E) (n_l0 : (List (Int)) → (List (List (Int))) → (List (Int)) → (List (List (Int))) → (Int) → (Int) → Option ((List (Int)) × (List (List (Int))))) (r_l2 : (List (Int)) → (List (List (Int))) → Option ((List (Int)) × (List (List (Int))))) (x2 : List (Int)) (x3 : List (List (Int))) (x4 : List (Int)) (x14 : List (List (Int))) (x15 : Int) (x16 : Int) : Option ((List (Int)) × (List (List (Int)))) :=
 bif (decide (x16 < x15)) then
 if 0 ≤ x16 ∧ x16 < ((List.length x14) : Int) then
 if (List.length x3) ≤ (List.length x3) ∧ ((List.length x3) + (List.length (List.take 1 ([(List.getD x14 (Int.toNat x16) [])] : List (List (Int)))))) * 24 ≤ LIM then
 if 0 ≤ (0 : Int) ∧ (0 : Int) < ((List.length (List.getD x14 (Int.toNat x16) [])) : Int) then
 if (List.length x4) ≤ (List.length x4) ∧ ((List.length x4) + (List.length (List.take 1 ([(List.getD (List.getD x14 (Int.toNat x16) []) (Int.toNat (0 : Int)) (0 : Int))] : List (Int))))) * 8 ≤ LIM then
 n_l0 (List.take (List.length x2) x2) (List.take (List.length (List.append (List.take (List.length x3) x3) (List.take 1 ([(List.getD x14 (Int.toNat x16) [])] : List (List (Int)))))) (List.append (List.take (List.length x3) x3) (List.take 1 ([(List.getD x14 (Int.toNat x16) [])] : List (List (Int)))))) (List.take (List.length (List.append (List.take (List.length x4) x4) (List.take 1 ([(List.getD (List.getD x14 (Int.toNat x16) []) (Int.toNat (0 : Int)) (0 : Int))] : List (Int))))) (List.append (List.take (List.length x4) x4) (List.take 1 ([(List.getD (List.getD x14 (Int.toNat x16) []) (Int.toNat (0 : Int)) (0 : Int))] : List (Int))))) x14 x15 (IntKind.i64.wrap (x16 + (1 : Int)))
 else none
 else none
 else none
 else none
 else
 bif (decide ((((List.length x4) : Nat) : Int) > (0 : Int))) then
 if (List.length x3) ≤ (List.length x3) ∧ ((List.length x3) + (List.length (List.take 1 ([(List.take (List.length x4) x4)] : List (List (Int)))))) * 24 ≤ LIM then
 r_l2 (List.take (List.length x2) x2) (List.take (List.length (List.append (List.take (List.length x3) x3) (List.take 1 ([(List.take (List.length x4) x4)] : List (List (Int)))))) (List.append (List.take (List.length x3) x3) (List.take 1 ([(List.take (List.length x4) x4)] : List (List (Int))))))
 else none
 else
 r_l2 (List.take (List.length x2) x2) (List.take (List.length x3) x3)
def F116.b_l2 (c132 : F132.E) (r_l4 : (List (Int)) → (List (List (Int))) → (Int) → (Bool) → (Int) → (Int) → Option ((List (Int)) × (List (List (Int))))) (x2 : List (Int)) (x3 : List (List (Int))) : Option ((List (Int)) × (List (List (Int)))) :=
 bif (decide ((((List.length x3) : Nat) : Int) > (0 : Int))) then
 if (List.length x3) = (List.length x3) then
 r_l4 (List.take (List.length x2) x2) (List.take (List.length x3) x3) (0 : Int) false (((List.length x3) : Nat) : Int) (0 : Int)
 else none
 else
 some ((List.take (List.length x2) x2), ([] : List (List (Int))))
def F116.b_l4 (c132 : F132.E) (n_l4 : (List (Int)) → (List (List (Int))) → (Int) → (Bool) → (Int) → (Int) → Option ((List (Int)) × (List (List (Int))))) (r_l6 : (List (Int)) → (Int) → (List (List (Int))) → (List (List (Int))) → (Int) → (Int) → Option ((List (Int)) × (List (List (Int))))) (x2 : List (Int)) (x3 : List (List (Int))) (x7 : Int) (x8 : Bool) (x42 : Int) (x43 : Int) : Option ((List (Int)) × (List (List (Int)))) :=
 bif (decide (x43 < x42)) then
 if 0 ≤ x43 ∧ x43 < (((List.length x3) : Nat) : Int) then
 bif (!x8) then
 if 0 ≤ (0 : Int) ∧ (0 : Int) < ((List.length (List.getD x3 (0 + Int.toNat x43) [])) : Int) then
 (c132 ((List.take (List.length x3) x3), (List.getD (List.getD x3 (0 + Int.toNat x43) []) (Int.toNat (0 : Int)) (0 : Int)))).bind fun y1 =>
 bif (!y1) then
 if 0 ≤ (0 : Int) ∧ (0 : Int) < ((List.length (List.getD x3 (0 + Int.toNat x43) [])) : Int) then
 if (List.length x3) = (List.length x3) then
 n_l4 (List.take (List.length x2) x2) (List.take (List.length x3) x3) (List.getD (List.getD x3 (0 + Int.toNat x43) []) (Int.toNat (0 : Int)) (0 : Int)) true x42 (IntKind.i64.wrap (x43 + (1 : Int)))
 else none
 else none
 else
 if (List.length x3) = (List.length x3) then
 n_l4 (List.take (List.length x2) x2) (List.take (List.length x3) x3) x7 x8 x42 (IntKind.i64.wrap (x43 + (1 : Int)))
 else none
 else none
 else
 if (List.length x3) = (List.length x3) then
 n_l4 (List.take (List.length x2) x2) (List.take (List.length x3) x3) x7 x8 x42 (IntKind.i64.wrap (x43 + (1 : Int)))
 else none
 else none
 else
 bif (!x8) then
 some ((List.take (List.length x2) x2), (List.take (List.length x3) x3))
 else
 if (List.length x2) ≤ (List.length x2) ∧ ((List.length x2) + (List.length (List.take 1 ([x7] : List (Int))))) * 8 ≤ LIM then
 r_l6 (List.take (List.length (List.append (List.take (List.length x2) x2) (List.take 1 ([x7] : List (Int))))) (List.append (List.take (List.length x2) x2) (List.take 1 ([x7] : List (Int))))) x7 ([] : List (List (Int))) (List.take (List.length x3) x3) (((List.length x3) : Nat) : Int) (0 : Int)
 else none
def F116.b_l6 (c132 : F132.E) (r_g27 : (List (Int)) → (Int) → (List (List (Int))) → (List (Int)) → (List (List (Int))) → (Int) → (Int) → Option ((List (Int)) × (List (List (Int))))) (n_l6 : (List (Int)) → (Int) → (List (List (Int))) → (List (List (Int))) → (Int) → (Int) → Option ((List (Int)) × (List (List (Int))))) (n_l2 : (List (Int)) → (List (List (Int))) → Option ((List (Int)) × (List (List (Int))))) (x2 : List (Int)) (x7 : Int) (x11 : List (List (Int))) (x69 : List (List (Int))) (x70 : Int) (x71 : Int) : Option ((List (Int)) × (List (List (Int)))) :=
 bif (decide (x71 < x70)) then
 if 0 ≤ x71 ∧ x71 < (((List.length x69) : Nat) : Int) then
 if 0 ≤ (0 : Int) ∧ (0 : Int) < ((List.length (List.getD x69 (0 + Int.toNat x71) [])) : Int) then
 bif ((List.getD (List.getD x69 (0 + Int.toNat x71) []) (Int.toNat (0 : Int)) (0 : Int)) == x7) then
 if 0 ≤ (1 : Int) ∧ (1 : Int) ≤ ((List.length (List.getD x69 (0 + Int.toNat x71) [])) : Int) ∧ ((List.length (List.getD x69 (0 + Int.toNat x71) [])) : Int) ≤ ((List.length (List.getD x69 (0 + Int.toNat x71) [])) : Int) then
 bif (decide (((List.length (List.drop (Int.toNat (1 : Int)) (List.take (Int.toNat ((List.length (List.getD x69 (0 + Int.toNat x71) [])) : Int)) (List.getD x69 (0 + Int.toNat x71) [])))) : Int) > (0 : Int))) then
 r_g27 (List.take (List.length x2) x2) x7 (List.take (List.length x11) x11) (List.drop (Int.toNat (1 : Int)) (List.take (Int.toNat ((List.length (List.getD x69 (0 + Int.toNat x71) [])) : Int)) (List.getD x69 (0 + Int.toNat x71) []))) (List.take (List.length x69) x69) x70 x71
 else
 n_l6 (List.take (List.length x2) x2) x7 (List.take (List.length x11) x11) (List.take (List.length x69) x69) x70 (IntKind.i64.wrap (x71 + (1 : Int)))
 else none
 else
 bif (decide (((List.length (List.getD x69 (0 + Int.toNat x71) [])) : Int) > (0 : Int))) then
 r_g27 (List.take (List.length x2) x2) x7 (List.take (List.length x11) x11) (List.getD x69 (0 + Int.toNat x71) []) (List.take (List.length x69) x69) x70 x71
 else
 n_l6 (List.take (List.length x2) x2) x7 (List.take (List.length x11) x11) (List.take (List.length x69) x69) x70 (IntKind.i64.wrap (x71 + (1 : Int)))
 else none
 else none
 else
 n_l2 (List.take (List.length x2) x2) (List.take (List.length x11) x11)
def F116.b_g27 (c132 : F132.E) (n_l6 : (List (Int)) → (Int) → (List (List (Int))) → (List (List (Int))) → (Int) → (Int) → Option ((List (Int)) × (List (List (Int))))) (x2 : List (Int)) (x7 : Int) (x11 : List (List (Int))) (x13 : List (Int)) (x69 : List (List (Int))) (x70 : Int) (x71 : Int) : Option ((List (Int)) × (List (List (Int)))) :=
 if (List.length x11) ≤ (List.length x11) ∧ ((List.length x11) + (List.length (List.take 1 ([x13] : List (List (Int)))))) * 24 ≤ LIM then
 n_l6 (List.take (List.length x2) x2) x7 (List.take (List.length (List.append (List.take (List.length x11) x11) (List.take 1 ([x13] : List (List (Int)))))) (List.append (List.take (List.length x11) x11) (List.take 1 ([x13] : List (List (Int)))))) (List.take (List.length x69) x69) x70 (IntKind.i64.wrap (x71 + (1 : Int)))
 else none
def F116.g27 (c132 : F132.E) (k : Nat) (n_l2 : (List (Int)) → (List (List (Int))) → Option ((List (Int)) × (List (List (Int))))) (n_l6 : (List (Int)) → (Int) → (List (List (Int))) → (List (List (Int))) → (Int) → (Int) → Option ((List (Int)) × (List (List (Int))))) (x2 : List (Int)) (x7 : Int) (x11 : List (List (Int))) (x13 : List (Int)) (x69 : List (List (Int))) (x70 : Int) (x71 : Int) : Option ((List (Int)) × (List (List (Int)))) := gate k (F116.b_g27 c132 n_l6 x2 x7 x11 x13 x69 x70 x71)
def F116.l6 (c132 : F132.E) (k : Nat) (n_l2 : (List (Int)) → (List (List (Int))) → Option ((List (Int)) × (List (List (Int))))) : Nat → (List (Int)) → (Int) → (List (List (Int))) → (List (List (Int))) → (Int) → (Int) → Option ((List (Int)) × (List (List (Int))))
  | 0, _, _, _, _, _, _ => none
  | n + 1, x2, x7, x11, x69, x70, x71 => F116.b_l6 c132 (F116.g27 c132 k n_l2 (fun x2 x7 x11 x69 x70 x71 => F116.l6 c132 k n_l2 n x2 x7 x11 x69 x70 x71)) (fun x2 x7 x11 x69 x70 x71 => F116.l6 c132 k n_l2 n x2 x7 x11 x69 x70 x71) n_l2 x2 x7 x11 x69 x70 x71
def F116.l4 (c132 : F132.E) (k : Nat) (n_l2 : (List (Int)) → (List (List (Int))) → Option ((List (Int)) × (List (List (Int))))) : Nat → (List (Int)) → (List (List (Int))) → (Int) → (Bool) → (Int) → (Int) → Option ((List (Int)) × (List (List (Int))))
  | 0, _, _, _, _, _, _ => none
  | n + 1, x2, x3, x7, x8, x42, x43 => F116.b_l4 c132 (fun x2 x3 x7 x8 x42 x43 => F116.l4 c132 k n_l2 n x2 x3 x7 x8 x42 x43) (F116.l6 c132 k n_l2 k) x2 x3 x7 x8 x42 x43
def F116.l2 (c132 : F132.E) (k : Nat)  : Nat → (List (Int)) → (List (List (Int))) → Option ((List (Int)) × (List (List (Int))))
  | 0, _, _ => none
  | n + 1, x2, x3 => F116.b_l2 c132 (F116.l4 c132 k (fun x2 x3 => F116.l2 c132 k  n x2 x3) k) x2 x3
def F116.l0 (c132 : F132.E) (k : Nat)  : Nat → (List (Int)) → (List (List (Int))) → (List (Int)) → (List (List (Int))) → (Int) → (Int) → Option ((List (Int)) × (List (List (Int))))
  | 0, _, _, _, _, _, _ => none
  | n + 1, x2, x3, x4, x14, x15, x16 => F116.b_l0 c132 (fun x2 x3 x4 x14 x15 x16 => F116.l0 c132 k  n x2 x3 x4 x14 x15 x16) (F116.l2 c132 k  k) x2 x3 x4 x14 x15 x16
def F116.f (c132 : F132.E) (k : Nat) (a0 : List (List (Int))) : Option ((List (Int)) × (List (List (Int)))) := F116.b c132 (F116.l0 c132 k k) a0
noncomputable def F116.M_l0 (c132 : F132.E) (k n : Nat)  (s : St) : Option ((List (Int)) × (List (List (Int)))) := atLoop (F116.C c132) k n [1, 1, 0, 1, 0] [] F116.code (F116.fin c132) s
noncomputable def F116.fr_l0 (x2 : List (Int)) (x3 : List (List (Int))) (x4 : List (Int)) (x14 : List (List (Int))) (x15 : Int) (x16 : Int) : St := ⟨(((((((List.replicate 92 V.un).set 2 (V.ref 500002 0 0 (List.length x2))).set 3 (V.ref 500003 0 0 (List.length x3))).set 4 (V.ref 500004 0 0 (List.length x4))).set 14 (V.dat (.sl 32 (.sl 3 (.int .i64))) x14)).set 15 (V.dat (.int .i64) x15)).set 16 (V.dat (.int .i64) x16)), [⟨500004, 0, .arr 3 (.int .i64) x4⟩, ⟨500003, 0, .arr 32 (.sl 3 (.int .i64)) x3⟩, ⟨500002, 0, .arr 3 (.int .i64) x2⟩]⟩
noncomputable def F116.M_l2 (c132 : F132.E) (k n : Nat)  (s : St) : Option ((List (Int)) × (List (List (Int)))) := atLoop (F116.C c132) k n [1, 1, 1, 1, 0, 0] [] F116.code (F116.fin c132) s
noncomputable def F116.fr_l2 (x2 : List (Int)) (x3 : List (List (Int))) : St := ⟨(((List.replicate 92 V.un).set 2 (V.ref 500002 0 0 (List.length x2))).set 3 (V.ref 500003 0 0 (List.length x3))), [⟨500003, 0, .arr 32 (.sl 3 (.int .i64)) x3⟩, ⟨500002, 0, .arr 3 (.int .i64) x2⟩]⟩
noncomputable def F116.M_l4 (c132 : F132.E) (k n : Nat) (m0 : Nat) (s : St) : Option ((List (Int)) × (List (List (Int)))) := atLoop (F116.C c132) k n [1, 1, 1, 1, 0, 0, 0, 1, 0, 1, 0, 1, 0] [m0] F116.code (F116.fin c132) s
noncomputable def F116.fr_l4 (x2 : List (Int)) (x3 : List (List (Int))) (x7 : Int) (x8 : Bool) (x42 : Int) (x43 : Int) : St := ⟨((((((((List.replicate 92 V.un).set 2 (V.ref 500002 0 0 (List.length x2))).set 3 (V.ref 500003 0 0 (List.length x3))).set 7 (V.dat (.int .i64) x7)).set 8 (V.dat .bool x8)).set 41 (V.ref 500003 0 0 (List.length x3))).set 42 (V.dat (.int .i64) x42)).set 43 (V.dat (.int .i64) x43)), [⟨500003, 0, .arr 32 (.sl 3 (.int .i64)) x3⟩, ⟨500002, 0, .arr 3 (.int .i64) x2⟩]⟩
noncomputable def F116.M_l6 (c132 : F132.E) (k n : Nat) (m0 : Nat) (s : St) : Option ((List (Int)) × (List (List (Int)))) := atLoop (F116.C c132) k n [1, 1, 1, 1, 0, 0, 0, 1, 0, 1, 1, 1, 1, 1, 0, 1, 0] [m0] F116.code (F116.fin c132) s
noncomputable def F116.fr_l6 (x2 : List (Int)) (x7 : Int) (x11 : List (List (Int))) (x69 : List (List (Int))) (x70 : Int) (x71 : Int) : St := ⟨(((((((List.replicate 92 V.un).set 2 (V.ref 500002 0 0 (List.length x2))).set 7 (V.dat (.int .i64) x7)).set 11 (V.ref 500011 0 0 (List.length x11))).set 69 (V.ref 500069 0 0 (List.length x69))).set 70 (V.dat (.int .i64) x70)).set 71 (V.dat (.int .i64) x71)), [⟨500069, 0, .arr 32 (.sl 3 (.int .i64)) x69⟩, ⟨500011, 0, .arr 32 (.sl 3 (.int .i64)) x11⟩, ⟨500002, 0, .arr 3 (.int .i64) x2⟩]⟩
noncomputable def F116.M_g27 (c132 : F132.E) (k : Nat) (m0 : Nat) (m1 : Nat) (s : St) : Option ((List (Int)) × (List (List (Int)))) := atGate (F116.C c132) k [1, 1, 1, 1, 0, 0, 0, 1, 0, 1, 1, 1, 1, 1, 0, 1, 0, 0, 1, 1, 0, 0, 1, 1, 1, 0] [m0, m1] F116.code (F116.fin c132) s
noncomputable def F116.fr_g27 (x2 : List (Int)) (x7 : Int) (x11 : List (List (Int))) (x13 : List (Int)) (x69 : List (List (Int))) (x70 : Int) (x71 : Int) : St := ⟨((((((((List.replicate 92 V.un).set 2 (V.ref 500002 0 0 (List.length x2))).set 7 (V.dat (.int .i64) x7)).set 11 (V.ref 500011 0 0 (List.length x11))).set 13 (V.dat (.sl 3 (.int .i64)) x13)).set 69 (V.ref 500069 0 0 (List.length x69))).set 70 (V.dat (.int .i64) x70)).set 71 (V.dat (.int .i64) x71)), [⟨500069, 0, .arr 32 (.sl 3 (.int .i64)) x69⟩, ⟨500011, 0, .arr 32 (.sl 3 (.int .i64)) x11⟩, ⟨500002, 0, .arr 3 (.int .i64) x2⟩]⟩
theorem F116.r (c132 : F132.E) (k : Nat) (a0 : List (List (Int))) : fn (F116.C c132) k Tryz.f116 F116.A F116.R a0 = F116.b c132 (fun x2 x3 x4 x14 x15 x16 => F116.M_l0 c132 k k  (F116.fr_l0 x2 x3 x4 x14 x15 x16)) a0 := by kernel_rfl
theorem F116.z_l0 (c132 : F132.E) (k : Nat)  (s : St) : F116.M_l0 c132 k 0  s = none := by kernel_rfl
theorem F116.r_l0 (c132 : F132.E) (k n : Nat)  (x2 : List (Int)) (x3 : List (List (Int))) (x4 : List (Int)) (x14 : List (List (Int))) (x15 : Int) (x16 : Int) : F116.M_l0 c132 k (n + 1)  (F116.fr_l0 x2 x3 x4 x14 x15 x16) = F116.b_l0 c132 (fun x2 x3 x4 x14 x15 x16 => F116.M_l0 c132 k n  (F116.fr_l0 x2 x3 x4 x14 x15 x16)) (fun x2 x3 => F116.M_l2 c132 k k  (F116.fr_l2 x2 x3)) x2 x3 x4 x14 x15 x16 := by kernel_rfl
theorem F116.z_l2 (c132 : F132.E) (k : Nat)  (s : St) : F116.M_l2 c132 k 0  s = none := by kernel_rfl
theorem F116.r_l2 (c132 : F132.E) (k n : Nat)  (x2 : List (Int)) (x3 : List (List (Int))) : F116.M_l2 c132 k (n + 1)  (F116.fr_l2 x2 x3) = F116.b_l2 c132 (fun x2 x3 x7 x8 x42 x43 => F116.M_l4 c132 k k n (F116.fr_l4 x2 x3 x7 x8 x42 x43)) x2 x3 := by kernel_rfl
theorem F116.z_l4 (c132 : F132.E) (k : Nat) (m0 : Nat) (s : St) : F116.M_l4 c132 k 0 m0 s = none := by kernel_rfl
theorem F116.r_l4 (c132 : F132.E) (k n : Nat) (m0 : Nat) (x2 : List (Int)) (x3 : List (List (Int))) (x7 : Int) (x8 : Bool) (x42 : Int) (x43 : Int) : F116.M_l4 c132 k (n + 1) m0 (F116.fr_l4 x2 x3 x7 x8 x42 x43) = F116.b_l4 c132 (fun x2 x3 x7 x8 x42 x43 => F116.M_l4 c132 k n m0 (F116.fr_l4 x2 x3 x7 x8 x42 x43)) (fun x2 x7 x11 x69 x70 x71 => F116.M_l6 c132 k k m0 (F116.fr_l6 x2 x7 x11 x69 x70 x71)) x2 x3 x7 x8 x42 x43 := by kernel_rfl
theorem F116.z_l6 (c132 : F132.E) (k : Nat) (m0 : Nat) (s : St) : F116.M_l6 c132 k 0 m0 s = none := by kernel_rfl
theorem F116.r_l6 (c132 : F132.E) (k n : Nat) (m0 : Nat) (x2 : List (Int)) (x7 : Int) (x11 : List (List (Int))) (x69 : List (List (Int))) (x70 : Int) (x71 : Int) : F116.M_l6 c132 k (n + 1) m0 (F116.fr_l6 x2 x7 x11 x69 x70 x71) = F116.b_l6 c132 (fun x2 x7 x11 x13 x69 x70 x71 => F116.M_g27 c132 k  m0 n (F116.fr_g27 x2 x7 x11 x13 x69 x70 x71)) (fun x2 x7 x11 x69 x70 x71 => F116.M_l6 c132 k n m0 (F116.fr_l6 x2 x7 x11 x69 x70 x71)) (fun x2 x3 => F116.M_l2 c132 k m0  (F116.fr_l2 x2 x3)) x2 x7 x11 x69 x70 x71 := by kernel_rfl
theorem F116.r_g27 (c132 : F132.E) (k : Nat) (m0 : Nat) (m1 : Nat) (x2 : List (Int)) (x7 : Int) (x11 : List (List (Int))) (x13 : List (Int)) (x69 : List (List (Int))) (x70 : Int) (x71 : Int) : F116.M_g27 c132 k m0 m1 (F116.fr_g27 x2 x7 x11 x13 x69 x70 x71) = gate k (F116.b_g27 c132 (fun x2 x7 x11 x69 x70 x71 => F116.M_l6 c132 k m1 m0 (F116.fr_l6 x2 x7 x11 x69 x70 x71)) x2 x7 x11 x13 x69 x70 x71) := by kernel_rfl
theorem F116.e_g27 (c132 : F132.E) (k : Nat) (m0 : Nat) (m1 : Nat) (x2 : List (Int)) (x7 : Int) (x11 : List (List (Int))) (x13 : List (Int)) (x69 : List (List (Int))) (x70 : Int) (x71 : Int) : F116.M_g27 c132 k m0 m1 (F116.fr_g27 x2 x7 x11 x13 x69 x70 x71) = F116.g27 c132 k (fun x2 x3 => F116.M_l2 c132 k m0  (F116.fr_l2 x2 x3)) (fun x2 x7 x11 x69 x70 x71 => F116.M_l6 c132 k m1 m0 (F116.fr_l6 x2 x7 x11 x69 x70 x71)) x2 x7 x11 x13 x69 x70 x71 := by
  rw [F116.r_g27]
  rfl
theorem F116.e_l6 (c132 : F132.E) (k n : Nat) (m0 : Nat) (x2 : List (Int)) (x7 : Int) (x11 : List (List (Int))) (x69 : List (List (Int))) (x70 : Int) (x71 : Int) : F116.M_l6 c132 k n m0 (F116.fr_l6 x2 x7 x11 x69 x70 x71) = F116.l6 c132 k (fun x2 x3 => F116.M_l2 c132 k m0  (F116.fr_l2 x2 x3)) n x2 x7 x11 x69 x70 x71 := by
  induction n generalizing x2 x7 x11 x69 x70 x71 with
  | zero => rw [F116.z_l6]; rfl
  | succ n ih =>
    rw [F116.r_l6]
    simp only [F116.e_g27, ih]
    rfl
theorem F116.e_l4 (c132 : F132.E) (k n : Nat) (m0 : Nat) (x2 : List (Int)) (x3 : List (List (Int))) (x7 : Int) (x8 : Bool) (x42 : Int) (x43 : Int) : F116.M_l4 c132 k n m0 (F116.fr_l4 x2 x3 x7 x8 x42 x43) = F116.l4 c132 k (fun x2 x3 => F116.M_l2 c132 k m0  (F116.fr_l2 x2 x3)) n x2 x3 x7 x8 x42 x43 := by
  induction n generalizing x2 x3 x7 x8 x42 x43 with
  | zero => rw [F116.z_l4]; rfl
  | succ n ih =>
    rw [F116.r_l4]
    simp only [F116.e_l6, ih]
    rfl
theorem F116.e_l2 (c132 : F132.E) (k n : Nat)  (x2 : List (Int)) (x3 : List (List (Int))) : F116.M_l2 c132 k n  (F116.fr_l2 x2 x3) = F116.l2 c132 k  n x2 x3 := by
  induction n generalizing x2 x3 with
  | zero => rw [F116.z_l2]; rfl
  | succ n ih =>
    rw [F116.r_l2]
    simp only [F116.e_l4, ih]
    rfl
theorem F116.e_l0 (c132 : F132.E) (k n : Nat)  (x2 : List (Int)) (x3 : List (List (Int))) (x4 : List (Int)) (x14 : List (List (Int))) (x15 : Int) (x16 : Int) : F116.M_l0 c132 k n  (F116.fr_l0 x2 x3 x4 x14 x15 x16) = F116.l0 c132 k  n x2 x3 x4 x14 x15 x16 := by
  induction n generalizing x2 x3 x4 x14 x15 x16 with
  | zero => rw [F116.z_l0]; rfl
  | succ n ih =>
    rw [F116.r_l0]
    simp only [F116.e_l2, ih]
    rfl
theorem F116.e (c132 : F132.E) (k : Nat) (a0 : List (List (Int))) : fn (F116.C c132) k Tryz.f116 F116.A F116.R a0 = F116.f c132 k a0 := by
  rw [F116.r]
  simp only [F116.e_l0]
  rfl
theorem F116.ty (c132 : F132.E) : TyOk Tryz.prog (F116.C c132) := tyOk_of (by kernel_rfl)
def F116.u (k : Nat) : F116.E := fun y => F116.f (F132.u k) k y
theorem F116.sound (k : Nat) : Sound Tryz.prog ⟨116, F116.A, F116.R, F116.u k⟩ := by
  have h := fn_sound (k := k) («as» := F116.A) (rs := F116.R) (F116.ty (F132.u k)) (fun E h => by
    simp only [F116.C, List.mem_cons, List.not_mem_nil, or_false] at h
    rcases h with rfl
    · exact F132.sound k) mixed Tryz.func116 (by kernel_rfl) (by kernel_rfl)
  have e : fn (F116.C (F132.u k)) k Tryz.f116 F116.A F116.R = F116.u k := by
    funext y
    exact F116.e (F132.u k) k y
  rw [e] at h
  exact h
/-! ### brindlewood/brindlewoodref7.Order: f98 -/
abbrev F98.A : List Sh := [(.d (.sl 32 (.sl 3 (.int .i64))))]
abbrev F98.R : List Sh := [(.d (.sl 3 (.int .i64))), (.d Y_Fault)]
abbrev F98.E : Type := (List (List (Int))) → Option ((List (Int)) × X_acceptRange)
def F98.C (c115 : F115.E) (c116 : F116.E) (c64 : F64.E) : Ctx := { ty := [(3, (.int .i64)), (32, (.sl 3 (.int .i64))), (64, Y_Fault), (120, (.sl 32 (.sl 3 (.int .i64))))], nf := [(64, 2)], by_ := [(3, 8), (32, 24)], env := [⟨115, F115.A, F115.R, c115⟩, ⟨116, F116.A, F116.R, c116⟩, ⟨64, F64.A, F64.R, c64⟩], spec := [] }
noncomputable def F98.code : Code := Func.code Tryz.f98
noncomputable def F98.fin (c115 : F115.E) (c116 : F116.E) (c64 : F64.E) := kfin (F98.C c115 c116 c64) Tryz.f98 F98.A F98.R
def F98.b (c115 : F115.E) (c116 : F116.E) (c64 : F64.E)  (a0 : List (List (Int))) : Option ((List (Int)) × X_acceptRange) :=
 (c115 a0).bind fun y1 =>
 bif (y1.1 != (0 : Int)) then
 some (([] : List (Int)), y1)
 else
 (c116 a0).bind fun y2 =>
 bif (decide (((List.length y2.2) : Int) > (0 : Int))) then
 (c64 ((19 : Int), (-1 : Int))).bind fun y3 =>
 some (([] : List (Int)), y3)
 else
 bif (decide (((List.length y2.1) : Int) ≥ (40 : Int))) then
 (c64 ((14 : Int), (-1 : Int))).bind fun y4 =>
 some (([] : List (Int)), y4)
 else
 some (y2.1, ((0 : Int), (0 : Int)))
def F98.c (c115 : F115.E) (c116 : F116.E) (c64 : F64.E)  (a0 : List (List (Int))) : Option ((List (Int)) × X_acceptRange) :=
 (c115 a0).bind fun y1 =>
 bif (y1.1 != (0 : Int)) then
 some (([] : List Int), y1)
 else
 (c116 a0).bind fun y2 =>
 bif (decide (((List.length y2.2) : Int) > (0 : Int))) then
 (c64 ((19 : Int), (-1 : Int))).bind fun y3 =>
 some (([] : List Int), y3)
 else
 bif (decide (((List.length y2.1) : Int) ≥ (40 : Int))) then
 (c64 ((14 : Int), (-1 : Int))).bind fun y4 =>
 some (([] : List Int), y4)
 else
 some (y2.1, ((0 : Int), (0 : Int)))
theorem F98.q (c115 : F115.E) (c116 : F116.E) (c64 : F64.E)  (a0 : List (List (Int))) : F98.b c115 c116 c64 a0 = F98.c c115 c116 c64 a0 := by
  simp only [F98.b, F98.c, List.take_length, take_one, Nat.zero_add, Int.toNat_natCast, Int.toNat_zero, List.drop_zero, List.append_eq, Nat.le_refl, Int.le_refl, true_and, and_true, zero_le_one, if_true, prod_eta, Int.natCast_zero]
def F98.f (c115 : F115.E) (c116 : F116.E) (c64 : F64.E) (k : Nat) (a0 : List (List (Int))) : Option ((List (Int)) × X_acceptRange) := F98.b c115 c116 c64  a0
theorem F98.r (c115 : F115.E) (c116 : F116.E) (c64 : F64.E) (k : Nat) (a0 : List (List (Int))) : fn (F98.C c115 c116 c64) k Tryz.f98 F98.A F98.R a0 = F98.b c115 c116 c64  a0 := by kernel_rfl
theorem F98.e (c115 : F115.E) (c116 : F116.E) (c64 : F64.E) (k : Nat) (a0 : List (List (Int))) : fn (F98.C c115 c116 c64) k Tryz.f98 F98.A F98.R a0 = F98.f c115 c116 c64 k a0 := by
  rw [F98.r]
  rfl
theorem F98.ty (c115 : F115.E) (c116 : F116.E) (c64 : F64.E) : TyOk Tryz.prog (F98.C c115 c116 c64) := tyOk_of (by kernel_rfl)
def F98.u (k : Nat) : F98.E := fun y => F98.f (F115.u k) (F116.u k) (F64.u k) k y
theorem F98.sound (k : Nat) : Sound Tryz.prog ⟨98, F98.A, F98.R, F98.u k⟩ := by
  have h := fn_sound (k := k) («as» := F98.A) (rs := F98.R) (F98.ty (F115.u k) (F116.u k) (F64.u k)) (fun E h => by
    simp only [F98.C, List.mem_cons, List.not_mem_nil, or_false] at h
    rcases h with rfl | rfl | rfl
    · exact F115.sound k
    · exact F116.sound k
    · exact F64.sound k) mixed Tryz.func98 (by kernel_rfl) (by kernel_rfl)
  have e : fn (F98.C (F115.u k) (F116.u k) (F64.u k)) k Tryz.f98 F98.A F98.R = F98.u k := by
    funext y
    exact F98.e (F115.u k) (F116.u k) (F64.u k) k y
  rw [e] at h
  exact h
/-! ### brindlewood/brindlewoodref7.orderOk: f71 -/
abbrev F71.A : List Sh := [(.d Y_Heap), (.d (.int .i64))]
abbrev F71.R : List Sh := [(.d .bool)]
abbrev F71.E : Type := ((List X_Object) × (Int)) → Option (Bool)
def F71.C (c98 : F98.E) (c78 : F78.E) : Ctx := { ty := [(3, (.int .i64)), (22, (.sl 36 Y_Object)), (24, Y_Heap), (32, (.sl 3 (.int .i64))), (36, Y_Object), (64, Y_Fault), (120, (.sl 32 (.sl 3 (.int .i64))))], nf := [(24, 1), (36, 10), (64, 2)], by_ := [(3, 8), (32, 24), (36, 168)], env := [⟨98, F98.A, F98.R, c98⟩, ⟨78, F78.A, F78.R, c78⟩], spec := [(0, [.d 1 (.int .i64), .bx 2 600002 (.d Y_Heap), .bx 5 600005 (.d Y_Object), .o 6 500006 32 (.sl 3 (.int .i64)), .d 20 (.sl 3 (.int .i64)), .d 21 (.int .i64), .d 22 (.int .i64)])] }
noncomputable def F71.code : Code := Func.code Tryz.f71
noncomputable def F71.fin (c98 : F98.E) (c78 : F78.E) := kfin (F71.C c98 c78) Tryz.f71 F71.A F71.R
def F71.b (c98 : F98.E) (c78 : F78.E) (r_l0 : (Int) → (List X_Object) → X_Object → (List (List (Int))) → (List (Int)) → (Int) → (Int) → Option (Bool)) (a0 : List X_Object) (a1 : Int) : Option (Bool) :=
 if 0 ≤ a1 ∧ a1 < ((List.length a0) : Int) then
 bif (((List.getD a0 (Int.toNat a1) Z_Object).1) != (9 : Int)) then
 some true
 else
 r_l0 a1 a0 (List.getD a0 (Int.toNat a1) Z_Object) ([] : List (List (Int))) (((((List.getD a0 (Int.toNat a1) Z_Object).2).2).2).1) ((List.length (((((List.getD a0 (Int.toNat a1) Z_Object).2).2).2).1)) : Int) (0 : Int)
 else none
def F71.b_l0 (c98 : F98.E) (c78 : F78.E) (n_l0 : (Int) → (List X_Object) → X_Object → (List (List (Int))) → (List (Int)) → (Int) → (Int) → Option (Bool)) (x1 : Int) (x2 : List X_Object) (x5 : X_Object) (x6 : List (List (Int))) (x20 : List (Int)) (x21 : Int) (x22 : Int) : Option (Bool) :=
 bif (decide (x22 < x21)) then
 if 0 ≤ x22 ∧ x22 < ((List.length x20) : Int) then
 if 0 ≤ (List.getD x20 (Int.toNat x22) (0 : Int)) ∧ (List.getD x20 (Int.toNat x22) (0 : Int)) < ((List.length x2) : Int) then
 if (List.length x6) ≤ (List.length x6) ∧ ((List.length x6) + (List.length (List.take 1 ([(((((List.getD x2 (Int.toNat (List.getD x20 (Int.toNat x22) (0 : Int))) Z_Object).2).2).2).2).1] : List (List (Int)))))) * 24 ≤ LIM then
 n_l0 x1 x2 x5 (List.take (List.length (List.append (List.take (List.length x6) x6) (List.take 1 ([(((((List.getD x2 (Int.toNat (List.getD x20 (Int.toNat x22) (0 : Int))) Z_Object).2).2).2).2).1] : List (List (Int)))))) (List.append (List.take (List.length x6) x6) (List.take 1 ([(((((List.getD x2 (Int.toNat (List.getD x20 (Int.toNat x22) (0 : Int))) Z_Object).2).2).2).2).1] : List (List (Int)))))) x20 x21 (IntKind.i64.wrap (x22 + (1 : Int)))
 else none
 else none
 else none
 else
 (c98 (List.take (List.length x6) x6)).bind fun y1 =>
 bif (y1.2.1 == (0 : Int)) then
 if 1 ≤ (List.length ([x1] : List (Int))) ∧ (1 + (List.length y1.1)) * 8 ≤ LIM then
 (c78 (x5.2.2.2.2.1, (List.take (List.length (List.append (List.take 1 ([x1] : List (Int))) y1.1)) (List.append (List.take 1 ([x1] : List (Int))) y1.1)))).bind fun y2 =>
 some y2
 else none
 else
 some false
def F71.c (c98 : F98.E) (c78 : F78.E) (r_l0 : (Int) → (List X_Object) → X_Object → (List (List (Int))) → (List (Int)) → (Int) → (Int) → Option (Bool)) (a0 : List X_Object) (a1 : Int) : Option (Bool) :=
 if 0 ≤ a1 ∧ a1 < ((List.length a0) : Int) then
 bif (((List.getD a0 (Int.toNat a1) Z_Object).1) != (9 : Int)) then
 some true
 else
 r_l0 a1 a0 (List.getD a0 (Int.toNat a1) Z_Object) ([] : List (List Int)) (((((List.getD a0 (Int.toNat a1) Z_Object).2).2).2).1) ((List.length (((((List.getD a0 (Int.toNat a1) Z_Object).2).2).2).1)) : Int) (0 : Int)
 else none
theorem F71.q (c98 : F98.E) (c78 : F78.E) (r_l0 : (Int) → (List X_Object) → X_Object → (List (List (Int))) → (List (Int)) → (Int) → (Int) → Option (Bool)) (a0 : List X_Object) (a1 : Int) : F71.b c98 c78 r_l0 a0 a1 = F71.c c98 c78 r_l0 a0 a1 := by
  simp only [F71.b, F71.c, List.take_length, take_one, Nat.zero_add, Int.toNat_natCast, Int.toNat_zero, List.drop_zero, List.append_eq, Nat.le_refl, Int.le_refl, true_and, and_true, zero_le_one, if_true, prod_eta, Int.natCast_zero]
def F71.c_l0 (c98 : F98.E) (c78 : F78.E) (n_l0 : (Int) → (List X_Object) → X_Object → (List (List (Int))) → (List (Int)) → (Int) → (Int) → Option (Bool)) (x1 : Int) (x2 : List X_Object) (x5 : X_Object) (x6 : List (List (Int))) (x20 : List (Int)) (x21 : Int) (x22 : Int) : Option (Bool) :=
 bif (decide (x22 < x21)) then
 if 0 ≤ x22 ∧ x22 < ((List.length x20) : Int) then
 if 0 ≤ (List.getD x20 (Int.toNat x22) (0 : Int)) ∧ (List.getD x20 (Int.toNat x22) (0 : Int)) < ((List.length x2) : Int) then
 if ((List.length x6) + (List.length ([(((((List.getD x2 (Int.toNat (List.getD x20 (Int.toNat x22) (0 : Int))) Z_Object).2).2).2).2).1] : List (List Int)))) * 24 ≤ LIM then
 n_l0 x1 x2 x5 (x6 ++ ([(((((List.getD x2 (Int.toNat (List.getD x20 (Int.toNat x22) (0 : Int))) Z_Object).2).2).2).2).1] : List (List Int))) x20 x21 (IntKind.i64.wrap (x22 + (1 : Int)))
 else none
 else none
 else none
 else
 (c98 x6).bind fun y1 =>
 bif (y1.2.1 == (0 : Int)) then
 if 1 ≤ (List.length ([x1] : List Int)) ∧ (1 + (List.length y1.1)) * 8 ≤ LIM then
 (c78 (x5.2.2.2.2.1, (([x1] : List Int) ++ y1.1))).bind fun y2 =>
 some y2
 else none
 else
 some false
theorem F71.q_l0 (c98 : F98.E) (c78 : F78.E) (n_l0 : (Int) → (List X_Object) → X_Object → (List (List (Int))) → (List (Int)) → (Int) → (Int) → Option (Bool)) (x1 : Int) (x2 : List X_Object) (x5 : X_Object) (x6 : List (List (Int))) (x20 : List (Int)) (x21 : Int) (x22 : Int) : F71.b_l0 c98 c78 n_l0 x1 x2 x5 x6 x20 x21 x22 = F71.c_l0 c98 c78 n_l0 x1 x2 x5 x6 x20 x21 x22 := by
  simp only [F71.b_l0, F71.c_l0, List.take_length, take_one, Nat.zero_add, Int.toNat_natCast, Int.toNat_zero, List.drop_zero, List.append_eq, Nat.le_refl, Int.le_refl, true_and, and_true, zero_le_one, if_true, prod_eta, Int.natCast_zero]
def F71.l0 (c98 : F98.E) (c78 : F78.E) (k : Nat)  : Nat → (Int) → (List X_Object) → X_Object → (List (List (Int))) → (List (Int)) → (Int) → (Int) → Option (Bool)
  | 0, _, _, _, _, _, _, _ => none
  | n + 1, x1, x2, x5, x6, x20, x21, x22 => F71.b_l0 c98 c78 (fun x1 x2 x5 x6 x20 x21 x22 => F71.l0 c98 c78 k  n x1 x2 x5 x6 x20 x21 x22) x1 x2 x5 x6 x20 x21 x22
def F71.f (c98 : F98.E) (c78 : F78.E) (k : Nat) (a0 : List X_Object) (a1 : Int) : Option (Bool) := F71.b c98 c78 (F71.l0 c98 c78 k k) a0 a1
noncomputable def F71.M_l0 (c98 : F98.E) (c78 : F78.E) (k n : Nat)  (s : St) : Option (Bool) := atLoop (F71.C c98 c78) k n [1, 1, 1, 1, 0, 1, 0] [] F71.code (F71.fin c98 c78) s
noncomputable def F71.fr_l0 (x1 : Int) (x2 : List X_Object) (x5 : X_Object) (x6 : List (List (Int))) (x20 : List (Int)) (x21 : Int) (x22 : Int) : St := ⟨((((((((List.replicate 53 V.un).set 1 (V.dat (.int .i64) x1)).set 2 (V.bp 600002 0 [])).set 5 (V.bp 600005 0 [])).set 6 (V.ref 500006 0 0 (List.length x6))).set 20 (V.dat (.sl 3 (.int .i64)) x20)).set 21 (V.dat (.int .i64) x21)).set 22 (V.dat (.int .i64) x22)), [⟨500006, 0, .arr 32 (.sl 3 (.int .i64)) x6⟩, ⟨600005, 0, .box (V.dat Y_Object x5)⟩, ⟨600002, 0, .box (V.dat Y_Heap x2)⟩]⟩
theorem F71.r (c98 : F98.E) (c78 : F78.E) (k : Nat) (a0 : List X_Object) (a1 : Int) : fn (F71.C c98 c78) k Tryz.f71 F71.A F71.R (a0, a1) = F71.b c98 c78 (fun x1 x2 x5 x6 x20 x21 x22 => F71.M_l0 c98 c78 k k  (F71.fr_l0 x1 x2 x5 x6 x20 x21 x22)) a0 a1 := by kernel_rfl
theorem F71.z_l0 (c98 : F98.E) (c78 : F78.E) (k : Nat)  (s : St) : F71.M_l0 c98 c78 k 0  s = none := by kernel_rfl
theorem F71.r_l0 (c98 : F98.E) (c78 : F78.E) (k n : Nat)  (x1 : Int) (x2 : List X_Object) (x5 : X_Object) (x6 : List (List (Int))) (x20 : List (Int)) (x21 : Int) (x22 : Int) : F71.M_l0 c98 c78 k (n + 1)  (F71.fr_l0 x1 x2 x5 x6 x20 x21 x22) = F71.b_l0 c98 c78 (fun x1 x2 x5 x6 x20 x21 x22 => F71.M_l0 c98 c78 k n  (F71.fr_l0 x1 x2 x5 x6 x20 x21 x22)) x1 x2 x5 x6 x20 x21 x22 := by kernel_rfl
theorem F71.e_l0 (c98 : F98.E) (c78 : F78.E) (k n : Nat)  (x1 : Int) (x2 : List X_Object) (x5 : X_Object) (x6 : List (List (Int))) (x20 : List (Int)) (x21 : Int) (x22 : Int) : F71.M_l0 c98 c78 k n  (F71.fr_l0 x1 x2 x5 x6 x20 x21 x22) = F71.l0 c98 c78 k  n x1 x2 x5 x6 x20 x21 x22 := by
  induction n generalizing x1 x2 x5 x6 x20 x21 x22 with
  | zero => rw [F71.z_l0]; rfl
  | succ n ih =>
    rw [F71.r_l0]
    simp only [ih]
    rfl
theorem F71.e (c98 : F98.E) (c78 : F78.E) (k : Nat) (a0 : List X_Object) (a1 : Int) : fn (F71.C c98 c78) k Tryz.f71 F71.A F71.R (a0, a1) = F71.f c98 c78 k a0 a1 := by
  rw [F71.r]
  simp only [F71.e_l0]
  rfl
theorem F71.ty (c98 : F98.E) (c78 : F78.E) : TyOk Tryz.prog (F71.C c98 c78) := tyOk_of (by kernel_rfl)
def F71.u (k : Nat) : F71.E := fun y => F71.f (F98.u k) (F78.u k) k y.1 y.2
theorem F71.sound (k : Nat) : Sound Tryz.prog ⟨71, F71.A, F71.R, F71.u k⟩ := by
  have h := fn_sound (k := k) («as» := F71.A) (rs := F71.R) (F71.ty (F98.u k) (F78.u k)) (fun E h => by
    simp only [F71.C, List.mem_cons, List.not_mem_nil, or_false] at h
    rcases h with rfl | rfl
    · exact F98.sound k
    · exact F78.sound k) mixed Tryz.func71 (by kernel_rfl) (by kernel_rfl)
  have e : fn (F71.C (F98.u k) (F78.u k)) k Tryz.f71 F71.A F71.R = F71.u k := by
    funext y
    exact F71.e (F98.u k) (F78.u k) k y.1 y.2
  rw [e] at h
  exact h
end
end Go.Ab
