/- A part of the proof: GT3. -/
import Derived.Test.YtgbihmngjppomaaGreatDoorFTy
import Derived.Test.YtgbihmngjppomaaGreatDoorGC2
import Derived.Test.YtgbihmngjppomaaGreatDoorGT1
import Derived.Test.YtgbihmngjppomaaGreatDoorGT2
namespace Go.Ab
set_option linter.unusedVariables false
set_option linter.unusedSimpArgs false
set_option maxRecDepth 100000
noncomputable section
open Go.Proofs
/-! ### brindlewood/brindlewoodref7.PartsOf: f113 -/
abbrev r7_PartsOf.A : List Sh := [(.d Y_Heap), (.d Y_Value), (.d (.int .i64))]
abbrev r7_PartsOf.R : List Sh := [(.d (.sl 29 Y_Value)), (.d .bool)]
abbrev r7_PartsOf.E : Type := ((List X_Object) × (X_Value × (Int))) → Option ((List X_Value) × (Bool))
def r7_PartsOf.C (c34 : r7_Obj.E) (c72 : sl_Clone_Value.E) : Ctx := { ty := [(3, (.int .i64)), (24, Y_Heap), (29, Y_Value), (34, (.sl 29 Y_Value)), (36, Y_Object)], nf := [(29, 5), (36, 10)], by_ := [(29, 96)], env := [⟨34, r7_Obj.A, r7_Obj.R, c34⟩, ⟨72, sl_Clone_Value.A, sl_Clone_Value.R, c72⟩], spec := [(0, [.d 2 (.int .i64), .bx 3 600003 (.d Y_Heap), .o 8 500008 29 Y_Value, .d 9 (.sl 29 Y_Value)])] }
noncomputable def r7_PartsOf.code : Code := Func.code Tryz.f113
noncomputable def r7_PartsOf.fin (c34 : r7_Obj.E) (c72 : sl_Clone_Value.E) := kfin (r7_PartsOf.C c34 c72) Tryz.f113 r7_PartsOf.A r7_PartsOf.R
def r7_PartsOf.b (c34 : r7_Obj.E) (c72 : sl_Clone_Value.E) (r_l0 : (Int) → (List X_Object) → (List X_Value) → (List X_Value) → Option ((List X_Value) × (Bool))) (a0 : List X_Object) (a1 : X_Value) (a2 : Int) : Option ((List X_Value) × (Bool)) :=
  r_l0 a2 a0 ([] : List X_Value) (List.take 1 ([a1] : List X_Value))
def r7_PartsOf.b_l0 (c34 : r7_Obj.E) (c72 : sl_Clone_Value.E) (n_l0 : (Int) → (List X_Object) → (List X_Value) → (List X_Value) → Option ((List X_Value) × (Bool))) (x2 : Int) (x3 : List X_Object) (x8 : List X_Value) (x9 : List X_Value) : Option ((List X_Value) × (Bool)) :=
  bif (decide (((List.length x9) : Int) > (0 : Int))) then
    bif (decide ((((List.length x8) : Nat) : Int) ≤ x2)) then
      if 0 ≤ (0 : Int) ∧ (0 : Int) < ((List.length x9) : Int) then
        if 0 ≤ (1 : Int) ∧ (1 : Int) ≤ ((List.length x9) : Int) ∧ ((List.length x9) : Int) ≤ ((List.length x9) : Int) then
          if (List.length x8) ≤ (List.length x8) ∧ ((List.length x8) + (List.length (List.take 1 ([(List.getD x9 (Int.toNat (0 : Int)) Z_Value)] : List X_Value)))) * 96 ≤ LIM then
            (c34 (x3, (List.getD x9 (Int.toNat (0 : Int)) Z_Value))).bind fun y1 =>
              bif (((List.getD x9 (Int.toNat (0 : Int)) Z_Value).1) == (9 : Int)) then
                some ((List.take (List.length (List.append (List.take (List.length x8) x8) (List.take 1 ([(List.getD x9 (Int.toNat (0 : Int)) Z_Value)] : List X_Value)))) (List.append (List.take (List.length x8) x8) (List.take 1 ([(List.getD x9 (Int.toNat (0 : Int)) Z_Value)] : List X_Value)))), false)
              else
                bif (y1.1 == (2 : Int)) then
                  some ((List.take (List.length (List.append (List.take (List.length x8) x8) (List.take 1 ([(List.getD x9 (Int.toNat (0 : Int)) Z_Value)] : List X_Value)))) (List.append (List.take (List.length x8) x8) (List.take 1 ([(List.getD x9 (Int.toNat (0 : Int)) Z_Value)] : List X_Value)))), false)
                else
                  bif (y1.1 == (3 : Int)) then
                    some ((List.take (List.length (List.append (List.take (List.length x8) x8) (List.take 1 ([(List.getD x9 (Int.toNat (0 : Int)) Z_Value)] : List X_Value)))) (List.append (List.take (List.length x8) x8) (List.take 1 ([(List.getD x9 (Int.toNat (0 : Int)) Z_Value)] : List X_Value)))), false)
                  else
                    bif (y1.1 == (4 : Int)) then
                      some ((List.take (List.length (List.append (List.take (List.length x8) x8) (List.take 1 ([(List.getD x9 (Int.toNat (0 : Int)) Z_Value)] : List X_Value)))) (List.append (List.take (List.length x8) x8) (List.take 1 ([(List.getD x9 (Int.toNat (0 : Int)) Z_Value)] : List X_Value)))), false)
                    else
                      bif (y1.1 == (5 : Int)) then
                        some ((List.take (List.length (List.append (List.take (List.length x8) x8) (List.take 1 ([(List.getD x9 (Int.toNat (0 : Int)) Z_Value)] : List X_Value)))) (List.append (List.take (List.length x8) x8) (List.take 1 ([(List.getD x9 (Int.toNat (0 : Int)) Z_Value)] : List X_Value)))), false)
                      else
                        bif (y1.1 == (1 : Int)) then
                          if 0 ≤ (0 : Int) ∧ (0 : Int) ≤ (if (IntKind.i64.wrap (x2 + (1 : Int))) < ((List.length y1.2.2.2.2.2.2.1) : Int) then (IntKind.i64.wrap (x2 + (1 : Int))) else ((List.length y1.2.2.2.2.2.2.1) : Int)) ∧ (if (IntKind.i64.wrap (x2 + (1 : Int))) < ((List.length y1.2.2.2.2.2.2.1) : Int) then (IntKind.i64.wrap (x2 + (1 : Int))) else ((List.length y1.2.2.2.2.2.2.1) : Int)) ≤ ((List.length y1.2.2.2.2.2.2.1) : Int) then
                            (c72 (List.drop (Int.toNat (0 : Int)) (List.take (Int.toNat (if (IntKind.i64.wrap (x2 + (1 : Int))) < ((List.length y1.2.2.2.2.2.2.1) : Int) then (IntKind.i64.wrap (x2 + (1 : Int))) else ((List.length y1.2.2.2.2.2.2.1) : Int))) y1.2.2.2.2.2.2.1))).bind fun y2 =>
                              if (List.length y2) ≤ (List.length y2) ∧ ((List.length y2) + (List.length (List.drop (Int.toNat (1 : Int)) (List.take (Int.toNat ((List.length x9) : Int)) x9)))) * 96 ≤ LIM then
                                n_l0 x2 x3 (List.take (List.length (List.append (List.take (List.length x8) x8) (List.take 1 ([(List.getD x9 (Int.toNat (0 : Int)) Z_Value)] : List X_Value)))) (List.append (List.take (List.length x8) x8) (List.take 1 ([(List.getD x9 (Int.toNat (0 : Int)) Z_Value)] : List X_Value)))) (List.take (List.length (List.append (List.take (List.length y2) y2) (List.drop (Int.toNat (1 : Int)) (List.take (Int.toNat ((List.length x9) : Int)) x9)))) (List.append (List.take (List.length y2) y2) (List.drop (Int.toNat (1 : Int)) (List.take (Int.toNat ((List.length x9) : Int)) x9))))
                              else none
                          else none
                        else
                          n_l0 x2 x3 (List.take (List.length (List.append (List.take (List.length x8) x8) (List.take 1 ([(List.getD x9 (Int.toNat (0 : Int)) Z_Value)] : List X_Value)))) (List.append (List.take (List.length x8) x8) (List.take 1 ([(List.getD x9 (Int.toNat (0 : Int)) Z_Value)] : List X_Value)))) (List.drop (Int.toNat (1 : Int)) (List.take (Int.toNat ((List.length x9) : Int)) x9))
          else none
        else none
      else none
    else
      some ((List.take (List.length x8) x8), true)
  else
    some ((List.take (List.length x8) x8), true)
def r7_PartsOf.c (c34 : r7_Obj.E) (c72 : sl_Clone_Value.E) (r_l0 : (Int) → (List X_Object) → (List X_Value) → (List X_Value) → Option ((List X_Value) × (Bool))) (a0 : List X_Object) (a1 : X_Value) (a2 : Int) : Option ((List X_Value) × (Bool)) :=
  r_l0 a2 a0 ([] : List X_Value) ([a1] : List X_Value)
theorem r7_PartsOf.q (c34 : r7_Obj.E) (c72 : sl_Clone_Value.E) (r_l0 : (Int) → (List X_Object) → (List X_Value) → (List X_Value) → Option ((List X_Value) × (Bool))) (a0 : List X_Object) (a1 : X_Value) (a2 : Int) : r7_PartsOf.b c34 c72 r_l0 a0 a1 a2 = r7_PartsOf.c c34 c72 r_l0 a0 a1 a2 := by
  simp only [r7_PartsOf.b, r7_PartsOf.c, List.take_length, take_one, Nat.zero_add, Int.toNat_natCast, Int.toNat_zero, List.drop_zero, List.append_eq, Nat.le_refl, Int.le_refl, true_and, and_true, zero_le_one, if_true, prod_eta, Int.natCast_zero]
def r7_PartsOf.c_l0 (c34 : r7_Obj.E) (c72 : sl_Clone_Value.E) (n_l0 : (Int) → (List X_Object) → (List X_Value) → (List X_Value) → Option ((List X_Value) × (Bool))) (x2 : Int) (x3 : List X_Object) (x8 : List X_Value) (x9 : List X_Value) : Option ((List X_Value) × (Bool)) :=
  bif (decide (((List.length x9) : Int) > (0 : Int))) then
    bif (decide (((List.length x8) : Int) ≤ x2)) then
      if (0 : Int) < ((List.length x9) : Int) then
        if (1 : Int) ≤ ((List.length x9) : Int) then
          if ((List.length x8) + (List.length ([(List.getD x9 0 Z_Value)] : List X_Value))) * 96 ≤ LIM then
            (c34 (x3, (List.getD x9 0 Z_Value))).bind fun y1 =>
              bif (((List.getD x9 0 Z_Value).1) == (9 : Int)) then
                some ((x8 ++ ([(List.getD x9 0 Z_Value)] : List X_Value)), false)
              else
                bif (y1.1 == (2 : Int)) then
                  some ((x8 ++ ([(List.getD x9 0 Z_Value)] : List X_Value)), false)
                else
                  bif (y1.1 == (3 : Int)) then
                    some ((x8 ++ ([(List.getD x9 0 Z_Value)] : List X_Value)), false)
                  else
                    bif (y1.1 == (4 : Int)) then
                      some ((x8 ++ ([(List.getD x9 0 Z_Value)] : List X_Value)), false)
                    else
                      bif (y1.1 == (5 : Int)) then
                        some ((x8 ++ ([(List.getD x9 0 Z_Value)] : List X_Value)), false)
                      else
                        bif (y1.1 == (1 : Int)) then
                          if (0 : Int) ≤ (if (IntKind.i64.wrap (x2 + (1 : Int))) < ((List.length y1.2.2.2.2.2.2.1) : Int) then (IntKind.i64.wrap (x2 + (1 : Int))) else ((List.length y1.2.2.2.2.2.2.1) : Int)) ∧ (if (IntKind.i64.wrap (x2 + (1 : Int))) < ((List.length y1.2.2.2.2.2.2.1) : Int) then (IntKind.i64.wrap (x2 + (1 : Int))) else ((List.length y1.2.2.2.2.2.2.1) : Int)) ≤ ((List.length y1.2.2.2.2.2.2.1) : Int) then
                            (c72 (List.take (Int.toNat (if (IntKind.i64.wrap (x2 + (1 : Int))) < ((List.length y1.2.2.2.2.2.2.1) : Int) then (IntKind.i64.wrap (x2 + (1 : Int))) else ((List.length y1.2.2.2.2.2.2.1) : Int))) y1.2.2.2.2.2.2.1)).bind fun y2 =>
                              if ((List.length y2) + (List.length (List.drop (Int.toNat (1 : Int)) x9))) * 96 ≤ LIM then
                                n_l0 x2 x3 (x8 ++ ([(List.getD x9 0 Z_Value)] : List X_Value)) (y2 ++ (List.drop (Int.toNat (1 : Int)) x9))
                              else none
                          else none
                        else
                          n_l0 x2 x3 (x8 ++ ([(List.getD x9 0 Z_Value)] : List X_Value)) (List.drop (Int.toNat (1 : Int)) x9)
          else none
        else none
      else none
    else
      some (x8, true)
  else
    some (x8, true)
theorem r7_PartsOf.q_l0 (c34 : r7_Obj.E) (c72 : sl_Clone_Value.E) (n_l0 : (Int) → (List X_Object) → (List X_Value) → (List X_Value) → Option ((List X_Value) × (Bool))) (x2 : Int) (x3 : List X_Object) (x8 : List X_Value) (x9 : List X_Value) : r7_PartsOf.b_l0 c34 c72 n_l0 x2 x3 x8 x9 = r7_PartsOf.c_l0 c34 c72 n_l0 x2 x3 x8 x9 := by
  simp only [r7_PartsOf.b_l0, r7_PartsOf.c_l0, List.take_length, take_one, Nat.zero_add, Int.toNat_natCast, Int.toNat_zero, List.drop_zero, List.append_eq, Nat.le_refl, Int.le_refl, true_and, and_true, zero_le_one, if_true, prod_eta, Int.natCast_zero]
def r7_PartsOf.l0 (c34 : r7_Obj.E) (c72 : sl_Clone_Value.E) (k : Nat)  : Nat → (Int) → (List X_Object) → (List X_Value) → (List X_Value) → Option ((List X_Value) × (Bool))
  | 0, _, _, _, _ => none
  | n + 1, x2, x3, x8, x9 => r7_PartsOf.b_l0 c34 c72 (fun x2 x3 x8 x9 => r7_PartsOf.l0 c34 c72 k  n x2 x3 x8 x9) x2 x3 x8 x9
def r7_PartsOf.f (c34 : r7_Obj.E) (c72 : sl_Clone_Value.E) (k : Nat) (a0 : List X_Object) (a1 : X_Value) (a2 : Int) : Option ((List X_Value) × (Bool)) := r7_PartsOf.b c34 c72 (r7_PartsOf.l0 c34 c72 k k) a0 a1 a2
noncomputable def r7_PartsOf.M_l0 (c34 : r7_Obj.E) (c72 : sl_Clone_Value.E) (k n : Nat)  (s : St) : Option ((List X_Value) × (Bool)) := atLoop (r7_PartsOf.C c34 c72) k n [1, 1, 1, 0, 0] [] r7_PartsOf.code (r7_PartsOf.fin c34 c72) s
noncomputable def r7_PartsOf.fr_l0 (x2 : Int) (x3 : List X_Object) (x8 : List X_Value) (x9 : List X_Value) : St := ⟨(((((List.replicate 77 V.un).set 2 (V.dat (.int .i64) x2)).set 3 (V.bp 600003 0 [])).set 8 (V.ref 500008 0 0 (List.length x8))).set 9 (V.dat (.sl 29 Y_Value) x9)), [⟨500008, 0, .arr 29 Y_Value x8⟩, ⟨600003, 0, .box (V.dat Y_Heap x3)⟩]⟩
theorem r7_PartsOf.r (c34 : r7_Obj.E) (c72 : sl_Clone_Value.E) (k : Nat) (a0 : List X_Object) (a1 : X_Value) (a2 : Int) : fn (r7_PartsOf.C c34 c72) k Tryz.f113 r7_PartsOf.A r7_PartsOf.R (a0, (a1, a2)) = r7_PartsOf.b c34 c72 (fun x2 x3 x8 x9 => r7_PartsOf.M_l0 c34 c72 k k  (r7_PartsOf.fr_l0 x2 x3 x8 x9)) a0 a1 a2 := by kernel_rfl
theorem r7_PartsOf.z_l0 (c34 : r7_Obj.E) (c72 : sl_Clone_Value.E) (k : Nat)  (s : St) : r7_PartsOf.M_l0 c34 c72 k 0  s = none := by kernel_rfl
theorem r7_PartsOf.r_l0 (c34 : r7_Obj.E) (c72 : sl_Clone_Value.E) (k n : Nat)  (x2 : Int) (x3 : List X_Object) (x8 : List X_Value) (x9 : List X_Value) : r7_PartsOf.M_l0 c34 c72 k (n + 1)  (r7_PartsOf.fr_l0 x2 x3 x8 x9) = r7_PartsOf.b_l0 c34 c72 (fun x2 x3 x8 x9 => r7_PartsOf.M_l0 c34 c72 k n  (r7_PartsOf.fr_l0 x2 x3 x8 x9)) x2 x3 x8 x9 := by kernel_rfl
theorem r7_PartsOf.e_l0 (c34 : r7_Obj.E) (c72 : sl_Clone_Value.E) (k n : Nat)  (x2 : Int) (x3 : List X_Object) (x8 : List X_Value) (x9 : List X_Value) : r7_PartsOf.M_l0 c34 c72 k n  (r7_PartsOf.fr_l0 x2 x3 x8 x9) = r7_PartsOf.l0 c34 c72 k  n x2 x3 x8 x9 := by
  induction n generalizing x2 x3 x8 x9 with
  | zero => rw [r7_PartsOf.z_l0]; rfl
  | succ n ih =>
    rw [r7_PartsOf.r_l0]
    simp only [ih]
    rfl
theorem r7_PartsOf.e (c34 : r7_Obj.E) (c72 : sl_Clone_Value.E) (k : Nat) (a0 : List X_Object) (a1 : X_Value) (a2 : Int) : fn (r7_PartsOf.C c34 c72) k Tryz.f113 r7_PartsOf.A r7_PartsOf.R (a0, (a1, a2)) = r7_PartsOf.f c34 c72 k a0 a1 a2 := by
  rw [r7_PartsOf.r]
  simp only [r7_PartsOf.e_l0]
  rfl
theorem r7_PartsOf.ty (c34 : r7_Obj.E) (c72 : sl_Clone_Value.E) : TyOk Tryz.prog (r7_PartsOf.C c34 c72) := tyOk_of (by kernel_rfl)
def r7_PartsOf.u (k : Nat) : r7_PartsOf.E := fun y => r7_PartsOf.f (r7_Obj.u k) (sl_Clone_Value.u k) k y.1 y.2.1 y.2.2
theorem r7_PartsOf.sound (k : Nat) : Sound Tryz.prog ⟨113, r7_PartsOf.A, r7_PartsOf.R, r7_PartsOf.u k⟩ := by
  have h := fn_sound (k := k) («as» := r7_PartsOf.A) (rs := r7_PartsOf.R) (r7_PartsOf.ty (r7_Obj.u k) (sl_Clone_Value.u k)) (fun E h => by
    simp only [r7_PartsOf.C, List.mem_cons, List.not_mem_nil, or_false] at h
    rcases h with rfl | rfl
    · exact r7_Obj.sound k
    · exact sl_Clone_Value.sound k) mixed Tryz.func113 (by kernel_rfl) (by kernel_rfl)
  have e : fn (r7_PartsOf.C (r7_Obj.u k) (sl_Clone_Value.u k)) k Tryz.f113 r7_PartsOf.A r7_PartsOf.R = r7_PartsOf.u k := by
    funext y
    exact r7_PartsOf.e (r7_Obj.u k) (sl_Clone_Value.u k) k y.1 y.2.1 y.2.2
  rw [e] at h
  exact h
/-! ### brindlewood/brindlewoodref7.Keyed: f96 -/
abbrev r7_Keyed.A : List Sh := [(.d Y_Heap), (.d Y_Value)]
abbrev r7_Keyed.R : List Sh := [(.d .bool)]
abbrev r7_Keyed.E : Type := ((List X_Object) × X_Value) → Option (Bool)
def r7_Keyed.C (c113 : r7_PartsOf.E) : Ctx := { ty := [(3, (.int .i64)), (24, Y_Heap), (29, Y_Value), (34, (.sl 29 Y_Value))], nf := [], by_ := [(29, 96)], env := [⟨113, r7_PartsOf.A, r7_PartsOf.R, c113⟩], spec := [] }
noncomputable def r7_Keyed.code : Code := Func.code Tryz.f96
noncomputable def r7_Keyed.fin (c113 : r7_PartsOf.E) := kfin (r7_Keyed.C c113) Tryz.f96 r7_Keyed.A r7_Keyed.R
def r7_Keyed.b (c113 : r7_PartsOf.E)  (a0 : List X_Object) (a1 : X_Value) : Option (Bool) :=
  (c113 (a0, (a1, (1000 : Int)))).bind fun y1 =>
    bif y1.2 then
      some (decide (((List.length y1.1) : Int) ≤ (1000 : Int)))
    else
      some false
def r7_Keyed.f (c113 : r7_PartsOf.E) (k : Nat) (a0 : List X_Object) (a1 : X_Value) : Option (Bool) := r7_Keyed.b c113  a0 a1
theorem r7_Keyed.r (c113 : r7_PartsOf.E) (k : Nat) (a0 : List X_Object) (a1 : X_Value) : fn (r7_Keyed.C c113) k Tryz.f96 r7_Keyed.A r7_Keyed.R (a0, a1) = r7_Keyed.b c113  a0 a1 := by kernel_rfl
theorem r7_Keyed.e (c113 : r7_PartsOf.E) (k : Nat) (a0 : List X_Object) (a1 : X_Value) : fn (r7_Keyed.C c113) k Tryz.f96 r7_Keyed.A r7_Keyed.R (a0, a1) = r7_Keyed.f c113 k a0 a1 := by
  rw [r7_Keyed.r]
  rfl
theorem r7_Keyed.ty (c113 : r7_PartsOf.E) : TyOk Tryz.prog (r7_Keyed.C c113) := tyOk_of (by kernel_rfl)
def r7_Keyed.u (k : Nat) : r7_Keyed.E := fun y => r7_Keyed.f (r7_PartsOf.u k) k y.1 y.2
theorem r7_Keyed.sound (k : Nat) : Sound Tryz.prog ⟨96, r7_Keyed.A, r7_Keyed.R, r7_Keyed.u k⟩ := by
  have h := fn_sound (k := k) («as» := r7_Keyed.A) (rs := r7_Keyed.R) (r7_Keyed.ty (r7_PartsOf.u k)) (fun E h => by
    simp only [r7_Keyed.C, List.mem_cons, List.not_mem_nil, or_false] at h
    rcases h with rfl
    · exact r7_PartsOf.sound k) mixed Tryz.func96 (by kernel_rfl) (by kernel_rfl)
  have e : fn (r7_Keyed.C (r7_PartsOf.u k)) k Tryz.f96 r7_Keyed.A r7_Keyed.R = r7_Keyed.u k := by
    funext y
    exact r7_Keyed.e (r7_PartsOf.u k) k y.1 y.2
  rw [e] at h
  exact h
/-! ### brindlewood/brindlewoodref7.SameKey: f114 -/
abbrev r7_SameKey.A : List Sh := [(.d Y_Heap), (.d Y_Value), (.d Y_Value)]
abbrev r7_SameKey.R : List Sh := [(.d .bool)]
abbrev r7_SameKey.E : Type := ((List X_Object) × X_parts) → Option (Bool)
def r7_SameKey.C (c34 : r7_Obj.E) (c14 : r7_SameValue.E) (c114 : r7_SameKey.E) : Ctx := { ty := [(3, (.int .i64)), (24, Y_Heap), (29, Y_Value), (34, (.sl 29 Y_Value)), (36, Y_Object)], nf := [(36, 10)], by_ := [(29, 96)], env := [⟨34, r7_Obj.A, r7_Obj.R, c34⟩, ⟨14, r7_SameValue.A, r7_SameValue.R, c14⟩, ⟨114, r7_SameKey.A, r7_SameKey.R, c114⟩], spec := [(0, [.bx 3 600003 (.d Y_Heap), .bx 7 600007 (.d Y_Object), .bx 8 600008 (.d Y_Object), .d 36 (.int .i64), .d 37 (.int .i64)])] }
noncomputable def r7_SameKey.code : Code := Func.code Tryz.f114
noncomputable def r7_SameKey.fin (c34 : r7_Obj.E) (c14 : r7_SameValue.E) (c114 : r7_SameKey.E) := kfin (r7_SameKey.C c34 c14 c114) Tryz.f114 r7_SameKey.A r7_SameKey.R
def r7_SameKey.b (c34 : r7_Obj.E) (c14 : r7_SameValue.E) (c114 : r7_SameKey.E) (r_l0 : (List X_Object) → X_Object → X_Object → (Int) → (Int) → Option (Bool)) (a0 : List X_Object) (a1 : X_Value) (a2 : X_Value) : Option (Bool) :=
  (c34 (a0, a1)).bind fun y1 =>
    (c34 (a0, a2)).bind fun y2 =>
      bif (y1.1 != (1 : Int)) then
        (c14 (a1, a2)).bind fun y3 =>
          some y3
      else
        bif (y2.1 != (1 : Int)) then
          (c14 (a1, a2)).bind fun y4 =>
            some y4
        else
          bif (((List.length y1.2.2.2.2.2.2.1) : Int) != ((List.length y2.2.2.2.2.2.2.1) : Int)) then
            some false
          else
            r_l0 a0 y1 y2 ((List.length y1.2.2.2.2.2.2.1) : Int) (0 : Int)
def r7_SameKey.b_l0 (c34 : r7_Obj.E) (c14 : r7_SameValue.E) (c114 : r7_SameKey.E) (n_l0 : (List X_Object) → X_Object → X_Object → (Int) → (Int) → Option (Bool)) (x3 : List X_Object) (x7 : X_Object) (x8 : X_Object) (x36 : Int) (x37 : Int) : Option (Bool) :=
  bif (decide (x37 < x36)) then
    if 0 ≤ x37 ∧ x37 < ((List.length x7.2.2.2.2.2.2.1) : Int) then
      if 0 ≤ x37 ∧ x37 < ((List.length x8.2.2.2.2.2.2.1) : Int) then
        (c114 (x3, ((List.getD x7.2.2.2.2.2.2.1 (Int.toNat x37) Z_Value), (List.getD x8.2.2.2.2.2.2.1 (Int.toNat x37) Z_Value)))).bind fun y5 =>
          bif (!y5) then
            some false
          else
            n_l0 x3 x7 x8 x36 (IntKind.i64.wrap (x37 + (1 : Int)))
      else none
    else none
  else
    some true
def r7_SameKey.c_l0 (c34 : r7_Obj.E) (c14 : r7_SameValue.E) (c114 : r7_SameKey.E) (n_l0 : (List X_Object) → X_Object → X_Object → (Int) → (Int) → Option (Bool)) (x3 : List X_Object) (x7 : X_Object) (x8 : X_Object) (x36 : Int) (x37 : Int) : Option (Bool) :=
  bif (decide (x37 < x36)) then
    if 0 ≤ x37 ∧ x37 < ((List.length x7.2.2.2.2.2.2.1) : Int) then
      if 0 ≤ x37 ∧ x37 < ((List.length x8.2.2.2.2.2.2.1) : Int) then
        (c114 (x3, ((List.getD x7.2.2.2.2.2.2.1 (Int.toNat x37) Z_Value), (List.getD x8.2.2.2.2.2.2.1 (Int.toNat x37) Z_Value)))).bind fun y5 =>
          bif !y5 then
            some false
          else
            n_l0 x3 x7 x8 x36 (IntKind.i64.wrap (x37 + (1 : Int)))
      else none
    else none
  else
    some true
theorem r7_SameKey.q_l0 (c34 : r7_Obj.E) (c14 : r7_SameValue.E) (c114 : r7_SameKey.E) (n_l0 : (List X_Object) → X_Object → X_Object → (Int) → (Int) → Option (Bool)) (x3 : List X_Object) (x7 : X_Object) (x8 : X_Object) (x36 : Int) (x37 : Int) : r7_SameKey.b_l0 c34 c14 c114 n_l0 x3 x7 x8 x36 x37 = r7_SameKey.c_l0 c34 c14 c114 n_l0 x3 x7 x8 x36 x37 := by
  simp only [r7_SameKey.b_l0, r7_SameKey.c_l0, List.take_length, take_one, Nat.zero_add, Int.toNat_natCast, Int.toNat_zero, List.drop_zero, List.append_eq, Nat.le_refl, Int.le_refl, true_and, and_true, zero_le_one, if_true, prod_eta, Int.natCast_zero]
def r7_SameKey.l0 (c34 : r7_Obj.E) (c14 : r7_SameValue.E) (c114 : r7_SameKey.E) (k : Nat)  : Nat → (List X_Object) → X_Object → X_Object → (Int) → (Int) → Option (Bool)
  | 0, _, _, _, _, _ => none
  | n + 1, x3, x7, x8, x36, x37 => r7_SameKey.b_l0 c34 c14 c114 (fun x3 x7 x8 x36 x37 => r7_SameKey.l0 c34 c14 c114 k  n x3 x7 x8 x36 x37) x3 x7 x8 x36 x37
def r7_SameKey.f (c34 : r7_Obj.E) (c14 : r7_SameValue.E) (c114 : r7_SameKey.E) (k : Nat) (a0 : List X_Object) (a1 : X_Value) (a2 : X_Value) : Option (Bool) := r7_SameKey.b c34 c14 c114 (r7_SameKey.l0 c34 c14 c114 k k) a0 a1 a2
noncomputable def r7_SameKey.M_l0 (c34 : r7_Obj.E) (c14 : r7_SameValue.E) (c114 : r7_SameKey.E) (k n : Nat)  (s : St) : Option (Bool) := atLoop (r7_SameKey.C c34 c14 c114) k n [1, 1, 1, 1, 0, 1, 0] [] r7_SameKey.code (r7_SameKey.fin c34 c14 c114) s
noncomputable def r7_SameKey.fr_l0 (x3 : List X_Object) (x7 : X_Object) (x8 : X_Object) (x36 : Int) (x37 : Int) : St := ⟨((((((List.replicate 54 V.un).set 3 (V.bp 600003 0 [])).set 7 (V.bp 600007 0 [])).set 8 (V.bp 600008 0 [])).set 36 (V.dat (.int .i64) x36)).set 37 (V.dat (.int .i64) x37)), [⟨600008, 0, .box (V.dat Y_Object x8)⟩, ⟨600007, 0, .box (V.dat Y_Object x7)⟩, ⟨600003, 0, .box (V.dat Y_Heap x3)⟩]⟩
theorem r7_SameKey.r (c34 : r7_Obj.E) (c14 : r7_SameValue.E) (c114 : r7_SameKey.E) (k : Nat) (a0 : List X_Object) (a1 : X_Value) (a2 : X_Value) : fn (r7_SameKey.C c34 c14 c114) k Tryz.f114 r7_SameKey.A r7_SameKey.R (a0, (a1, a2)) = r7_SameKey.b c34 c14 c114 (fun x3 x7 x8 x36 x37 => r7_SameKey.M_l0 c34 c14 c114 k k  (r7_SameKey.fr_l0 x3 x7 x8 x36 x37)) a0 a1 a2 := by kernel_rfl
theorem r7_SameKey.z_l0 (c34 : r7_Obj.E) (c14 : r7_SameValue.E) (c114 : r7_SameKey.E) (k : Nat)  (s : St) : r7_SameKey.M_l0 c34 c14 c114 k 0  s = none := by kernel_rfl
theorem r7_SameKey.r_l0 (c34 : r7_Obj.E) (c14 : r7_SameValue.E) (c114 : r7_SameKey.E) (k n : Nat)  (x3 : List X_Object) (x7 : X_Object) (x8 : X_Object) (x36 : Int) (x37 : Int) : r7_SameKey.M_l0 c34 c14 c114 k (n + 1)  (r7_SameKey.fr_l0 x3 x7 x8 x36 x37) = r7_SameKey.b_l0 c34 c14 c114 (fun x3 x7 x8 x36 x37 => r7_SameKey.M_l0 c34 c14 c114 k n  (r7_SameKey.fr_l0 x3 x7 x8 x36 x37)) x3 x7 x8 x36 x37 := by kernel_rfl
theorem r7_SameKey.e_l0 (c34 : r7_Obj.E) (c14 : r7_SameValue.E) (c114 : r7_SameKey.E) (k n : Nat)  (x3 : List X_Object) (x7 : X_Object) (x8 : X_Object) (x36 : Int) (x37 : Int) : r7_SameKey.M_l0 c34 c14 c114 k n  (r7_SameKey.fr_l0 x3 x7 x8 x36 x37) = r7_SameKey.l0 c34 c14 c114 k  n x3 x7 x8 x36 x37 := by
  induction n generalizing x3 x7 x8 x36 x37 with
  | zero => rw [r7_SameKey.z_l0]; rfl
  | succ n ih =>
    rw [r7_SameKey.r_l0]
    simp only [ih]
    rfl
theorem r7_SameKey.e (c34 : r7_Obj.E) (c14 : r7_SameValue.E) (c114 : r7_SameKey.E) (k : Nat) (a0 : List X_Object) (a1 : X_Value) (a2 : X_Value) : fn (r7_SameKey.C c34 c14 c114) k Tryz.f114 r7_SameKey.A r7_SameKey.R (a0, (a1, a2)) = r7_SameKey.f c34 c14 c114 k a0 a1 a2 := by
  rw [r7_SameKey.r]
  simp only [r7_SameKey.e_l0]
  rfl
theorem r7_SameKey.ty (c34 : r7_Obj.E) (c14 : r7_SameValue.E) (c114 : r7_SameKey.E) : TyOk Tryz.prog (r7_SameKey.C c34 c14 c114) := tyOk_of (by kernel_rfl)
def r7_SameKey.ur (k : Nat) (g : r7_SameKey.E) : r7_SameKey.E := fun y => r7_SameKey.f (r7_Obj.u k) (r7_SameValue.u k) g k y.1 y.2.1 y.2.2
theorem r7_SameKey.sound_r (k : Nat) (g : r7_SameKey.E) (hg : Sound Tryz.prog ⟨114, r7_SameKey.A, r7_SameKey.R, g⟩) : Sound Tryz.prog ⟨114, r7_SameKey.A, r7_SameKey.R, r7_SameKey.ur k g⟩ := by
  have h := fn_sound (k := k) («as» := r7_SameKey.A) (rs := r7_SameKey.R) (r7_SameKey.ty (r7_Obj.u k) (r7_SameValue.u k) g) (fun E h => by
    simp only [r7_SameKey.C, List.mem_cons, List.not_mem_nil, or_false] at h
    rcases h with rfl | rfl | rfl
    · exact r7_Obj.sound k
    · exact r7_SameValue.sound k
    · exact hg) mixed Tryz.func114 (by kernel_rfl) (by kernel_rfl)
  have e : fn (r7_SameKey.C (r7_Obj.u k) (r7_SameValue.u k) g) k Tryz.f114 r7_SameKey.A r7_SameKey.R = r7_SameKey.ur k g := by
    funext y
    exact r7_SameKey.e (r7_Obj.u k) (r7_SameValue.u k) g k y.1 y.2.1 y.2.2
  rw [e] at h
  exact h
def r7_SameKey.u : Nat → r7_SameKey.E
  | 0 => fun _ => none
  | k + 1 => r7_SameKey.ur (k + 1) (r7_SameKey.u k)
theorem r7_SameKey.sound : ∀ k : Nat, Sound Tryz.prog ⟨114, r7_SameKey.A, r7_SameKey.R, r7_SameKey.u k⟩
  | 0 => ⟨enters_of Tryz.func114 (c := Func.code Tryz.f114) (by kernel_rfl) (by kernel_rfl), fun x y h => by cases h⟩
  | k + 1 => r7_SameKey.sound_r (k + 1) (r7_SameKey.u k) (r7_SameKey.sound k)
/-! ### brindlewood/brindlewoodref7.Place: f97 -/
abbrev r7_Place.A : List Sh := [(.d Y_Heap), (.d (.sl 29 Y_Value)), (.d Y_Value)]
abbrev r7_Place.R : List Sh := [(.d (.int .i64))]
abbrev r7_Place.E : Type := ((List X_Object) × ((List X_Value) × X_Value)) → Option (Int)
def r7_Place.C (c114 : r7_SameKey.E) : Ctx := { ty := [(3, (.int .i64)), (24, Y_Heap), (29, Y_Value), (34, (.sl 29 Y_Value))], nf := [], by_ := [(29, 96)], env := [⟨114, r7_SameKey.A, r7_SameKey.R, c114⟩], spec := [(0, [.d 1 (.sl 29 Y_Value), .bx 3 600003 (.d Y_Heap), .bx 5 600005 (.d Y_Value), .d 9 (.int .i64), .d 10 (.int .i64)])] }
noncomputable def r7_Place.code : Code := Func.code Tryz.f97
noncomputable def r7_Place.fin (c114 : r7_SameKey.E) := kfin (r7_Place.C c114) Tryz.f97 r7_Place.A r7_Place.R
def r7_Place.b (c114 : r7_SameKey.E) (r_l0 : (List X_Value) → (List X_Object) → X_Value → (Int) → (Int) → Option (Int)) (a0 : List X_Object) (a1 : List X_Value) (a2 : X_Value) : Option (Int) :=
  r_l0 a1 a0 a2 ((List.length a1) : Int) (0 : Int)
def r7_Place.b_l0 (c114 : r7_SameKey.E) (n_l0 : (List X_Value) → (List X_Object) → X_Value → (Int) → (Int) → Option (Int)) (x1 : List X_Value) (x3 : List X_Object) (x5 : X_Value) (x9 : Int) (x10 : Int) : Option (Int) :=
  bif (decide (x10 < x9)) then
    if 0 ≤ x10 ∧ x10 < ((List.length x1) : Int) then
      (c114 (x3, ((List.getD x1 (Int.toNat x10) Z_Value), x5))).bind fun y1 =>
        bif y1 then
          some x10
        else
          n_l0 x1 x3 x5 x9 (IntKind.i64.wrap (x10 + (1 : Int)))
    else none
  else
    some (-1 : Int)
def r7_Place.c_l0 (c114 : r7_SameKey.E) (n_l0 : (List X_Value) → (List X_Object) → X_Value → (Int) → (Int) → Option (Int)) (x1 : List X_Value) (x3 : List X_Object) (x5 : X_Value) (x9 : Int) (x10 : Int) : Option (Int) :=
  bif (decide (x10 < x9)) then
    if 0 ≤ x10 ∧ x10 < ((List.length x1) : Int) then
      (c114 (x3, ((List.getD x1 (Int.toNat x10) Z_Value), x5))).bind fun y1 =>
        bif y1 then
          some x10
        else
          n_l0 x1 x3 x5 x9 (IntKind.i64.wrap (x10 + (1 : Int)))
    else none
  else
    some (-1 : Int)
theorem r7_Place.q_l0 (c114 : r7_SameKey.E) (n_l0 : (List X_Value) → (List X_Object) → X_Value → (Int) → (Int) → Option (Int)) (x1 : List X_Value) (x3 : List X_Object) (x5 : X_Value) (x9 : Int) (x10 : Int) : r7_Place.b_l0 c114 n_l0 x1 x3 x5 x9 x10 = r7_Place.c_l0 c114 n_l0 x1 x3 x5 x9 x10 := by
  simp only [r7_Place.b_l0, r7_Place.c_l0, List.take_length, take_one, Nat.zero_add, Int.toNat_natCast, Int.toNat_zero, List.drop_zero, List.append_eq, Nat.le_refl, Int.le_refl, true_and, and_true, zero_le_one, if_true, prod_eta, Int.natCast_zero]
def r7_Place.l0 (c114 : r7_SameKey.E) (k : Nat)  : Nat → (List X_Value) → (List X_Object) → X_Value → (Int) → (Int) → Option (Int)
  | 0, _, _, _, _, _ => none
  | n + 1, x1, x3, x5, x9, x10 => r7_Place.b_l0 c114 (fun x1 x3 x5 x9 x10 => r7_Place.l0 c114 k  n x1 x3 x5 x9 x10) x1 x3 x5 x9 x10
def r7_Place.f (c114 : r7_SameKey.E) (k : Nat) (a0 : List X_Object) (a1 : List X_Value) (a2 : X_Value) : Option (Int) := r7_Place.b c114 (r7_Place.l0 c114 k k) a0 a1 a2
noncomputable def r7_Place.M_l0 (c114 : r7_SameKey.E) (k n : Nat)  (s : St) : Option (Int) := atLoop (r7_Place.C c114) k n [1, 0, 1, 0] [] r7_Place.code (r7_Place.fin c114) s
noncomputable def r7_Place.fr_l0 (x1 : List X_Value) (x3 : List X_Object) (x5 : X_Value) (x9 : Int) (x10 : Int) : St := ⟨((((((List.replicate 22 V.un).set 1 (V.dat (.sl 29 Y_Value) x1)).set 3 (V.bp 600003 0 [])).set 5 (V.bp 600005 0 [])).set 9 (V.dat (.int .i64) x9)).set 10 (V.dat (.int .i64) x10)), [⟨600005, 0, .box (V.dat Y_Value x5)⟩, ⟨600003, 0, .box (V.dat Y_Heap x3)⟩]⟩
theorem r7_Place.r (c114 : r7_SameKey.E) (k : Nat) (a0 : List X_Object) (a1 : List X_Value) (a2 : X_Value) : fn (r7_Place.C c114) k Tryz.f97 r7_Place.A r7_Place.R (a0, (a1, a2)) = r7_Place.b c114 (fun x1 x3 x5 x9 x10 => r7_Place.M_l0 c114 k k  (r7_Place.fr_l0 x1 x3 x5 x9 x10)) a0 a1 a2 := by kernel_rfl
theorem r7_Place.z_l0 (c114 : r7_SameKey.E) (k : Nat)  (s : St) : r7_Place.M_l0 c114 k 0  s = none := by kernel_rfl
theorem r7_Place.r_l0 (c114 : r7_SameKey.E) (k n : Nat)  (x1 : List X_Value) (x3 : List X_Object) (x5 : X_Value) (x9 : Int) (x10 : Int) : r7_Place.M_l0 c114 k (n + 1)  (r7_Place.fr_l0 x1 x3 x5 x9 x10) = r7_Place.b_l0 c114 (fun x1 x3 x5 x9 x10 => r7_Place.M_l0 c114 k n  (r7_Place.fr_l0 x1 x3 x5 x9 x10)) x1 x3 x5 x9 x10 := by kernel_rfl
theorem r7_Place.e_l0 (c114 : r7_SameKey.E) (k n : Nat)  (x1 : List X_Value) (x3 : List X_Object) (x5 : X_Value) (x9 : Int) (x10 : Int) : r7_Place.M_l0 c114 k n  (r7_Place.fr_l0 x1 x3 x5 x9 x10) = r7_Place.l0 c114 k  n x1 x3 x5 x9 x10 := by
  induction n generalizing x1 x3 x5 x9 x10 with
  | zero => rw [r7_Place.z_l0]; rfl
  | succ n ih =>
    rw [r7_Place.r_l0]
    simp only [ih]
    rfl
theorem r7_Place.e (c114 : r7_SameKey.E) (k : Nat) (a0 : List X_Object) (a1 : List X_Value) (a2 : X_Value) : fn (r7_Place.C c114) k Tryz.f97 r7_Place.A r7_Place.R (a0, (a1, a2)) = r7_Place.f c114 k a0 a1 a2 := by
  rw [r7_Place.r]
  simp only [r7_Place.e_l0]
  rfl
theorem r7_Place.ty (c114 : r7_SameKey.E) : TyOk Tryz.prog (r7_Place.C c114) := tyOk_of (by kernel_rfl)
def r7_Place.u (k : Nat) : r7_Place.E := fun y => r7_Place.f (r7_SameKey.u k) k y.1 y.2.1 y.2.2
theorem r7_Place.sound (k : Nat) : Sound Tryz.prog ⟨97, r7_Place.A, r7_Place.R, r7_Place.u k⟩ := by
  have h := fn_sound (k := k) («as» := r7_Place.A) (rs := r7_Place.R) (r7_Place.ty (r7_SameKey.u k)) (fun E h => by
    simp only [r7_Place.C, List.mem_cons, List.not_mem_nil, or_false] at h
    rcases h with rfl
    · exact r7_SameKey.sound k) mixed Tryz.func97 (by kernel_rfl) (by kernel_rfl)
  have e : fn (r7_Place.C (r7_SameKey.u k)) k Tryz.f97 r7_Place.A r7_Place.R = r7_Place.u k := by
    funext y
    exact r7_Place.e (r7_SameKey.u k) k y.1 y.2.1 y.2.2
  rw [e] at h
  exact h
/-! ### brindlewood/brindlewoodref7.keyRule: f70 -/
abbrev r7_keyRule.A : List Sh := [(.d Y_Heap), (.d (.int .i64))]
abbrev r7_keyRule.R : List Sh := [(.d (.int .i64))]
abbrev r7_keyRule.E : Type := ((List X_Object) × (Int)) → Option (Int)
def r7_keyRule.C (c96 : r7_Keyed.E) (c97 : r7_Place.E) : Ctx := { ty := [(3, (.int .i64)), (22, (.sl 36 Y_Object)), (24, Y_Heap), (29, Y_Value), (34, (.sl 29 Y_Value)), (36, Y_Object)], nf := [(24, 1), (36, 10)], by_ := [(29, 96), (36, 168)], env := [⟨96, r7_Keyed.A, r7_Keyed.R, c96⟩, ⟨97, r7_Place.A, r7_Place.R, c97⟩], spec := [(0, [.bx 2 600002 (.d Y_Heap), .d 5 (.sl 29 Y_Value), .d 14 (.sl 29 Y_Value), .d 15 (.int .i64), .d 16 (.int .i64)])] }
noncomputable def r7_keyRule.code : Code := Func.code Tryz.f70
noncomputable def r7_keyRule.fin (c96 : r7_Keyed.E) (c97 : r7_Place.E) := kfin (r7_keyRule.C c96 c97) Tryz.f70 r7_keyRule.A r7_keyRule.R
def r7_keyRule.b (c96 : r7_Keyed.E) (c97 : r7_Place.E) (r_l0 : (List X_Object) → (List X_Value) → (List X_Value) → (Int) → (Int) → Option (Int)) (a0 : List X_Object) (a1 : Int) : Option (Int) :=
  if 0 ≤ a1 ∧ a1 < ((List.length a0) : Int) then
    r_l0 a0 (((((((((List.getD a0 (Int.toNat a1) Z_Object).2).2).2).2).2).2).2).1) (((((((((List.getD a0 (Int.toNat a1) Z_Object).2).2).2).2).2).2).2).1) ((List.length (((((((((List.getD a0 (Int.toNat a1) Z_Object).2).2).2).2).2).2).2).1)) : Int) (0 : Int)
  else none
def r7_keyRule.b_l0 (c96 : r7_Keyed.E) (c97 : r7_Place.E) (n_l0 : (List X_Object) → (List X_Value) → (List X_Value) → (Int) → (Int) → Option (Int)) (x2 : List X_Object) (x5 : List X_Value) (x14 : List X_Value) (x15 : Int) (x16 : Int) : Option (Int) :=
  bif (decide (x16 < x15)) then
    if 0 ≤ x16 ∧ x16 < ((List.length x14) : Int) then
      (c96 (x2, (List.getD x14 (Int.toNat x16) Z_Value))).bind fun y1 =>
        bif (!y1) then
          some (27 : Int)
        else
          if 0 ≤ (0 : Int) ∧ (0 : Int) ≤ x16 ∧ x16 ≤ ((List.length x5) : Int) then
            (c97 (x2, ((List.drop (Int.toNat (0 : Int)) (List.take (Int.toNat x16) x5)), (List.getD x14 (Int.toNat x16) Z_Value)))).bind fun y2 =>
              bif (decide (y2 ≥ (0 : Int))) then
                some (8 : Int)
              else
                n_l0 x2 x5 x14 x15 (IntKind.i64.wrap (x16 + (1 : Int)))
          else none
    else none
  else
    some (0 : Int)
def r7_keyRule.c (c96 : r7_Keyed.E) (c97 : r7_Place.E) (r_l0 : (List X_Object) → (List X_Value) → (List X_Value) → (Int) → (Int) → Option (Int)) (a0 : List X_Object) (a1 : Int) : Option (Int) :=
  if 0 ≤ a1 ∧ a1 < ((List.length a0) : Int) then
    r_l0 a0 (((((((((List.getD a0 (Int.toNat a1) Z_Object).2).2).2).2).2).2).2).1) (((((((((List.getD a0 (Int.toNat a1) Z_Object).2).2).2).2).2).2).2).1) ((List.length (((((((((List.getD a0 (Int.toNat a1) Z_Object).2).2).2).2).2).2).2).1)) : Int) (0 : Int)
  else none
theorem r7_keyRule.q (c96 : r7_Keyed.E) (c97 : r7_Place.E) (r_l0 : (List X_Object) → (List X_Value) → (List X_Value) → (Int) → (Int) → Option (Int)) (a0 : List X_Object) (a1 : Int) : r7_keyRule.b c96 c97 r_l0 a0 a1 = r7_keyRule.c c96 c97 r_l0 a0 a1 := by
  simp only [r7_keyRule.b, r7_keyRule.c, List.take_length, take_one, Nat.zero_add, Int.toNat_natCast, Int.toNat_zero, List.drop_zero, List.append_eq, Nat.le_refl, Int.le_refl, true_and, and_true, zero_le_one, if_true, prod_eta, Int.natCast_zero]
def r7_keyRule.c_l0 (c96 : r7_Keyed.E) (c97 : r7_Place.E) (n_l0 : (List X_Object) → (List X_Value) → (List X_Value) → (Int) → (Int) → Option (Int)) (x2 : List X_Object) (x5 : List X_Value) (x14 : List X_Value) (x15 : Int) (x16 : Int) : Option (Int) :=
  bif (decide (x16 < x15)) then
    if 0 ≤ x16 ∧ x16 < ((List.length x14) : Int) then
      (c96 (x2, (List.getD x14 (Int.toNat x16) Z_Value))).bind fun y1 =>
        bif !y1 then
          some (27 : Int)
        else
          if (0 : Int) ≤ x16 ∧ x16 ≤ ((List.length x5) : Int) then
            (c97 (x2, ((List.take (Int.toNat x16) x5), (List.getD x14 (Int.toNat x16) Z_Value)))).bind fun y2 =>
              bif (decide (y2 ≥ (0 : Int))) then
                some (8 : Int)
              else
                n_l0 x2 x5 x14 x15 (IntKind.i64.wrap (x16 + (1 : Int)))
          else none
    else none
  else
    some (0 : Int)
theorem r7_keyRule.q_l0 (c96 : r7_Keyed.E) (c97 : r7_Place.E) (n_l0 : (List X_Object) → (List X_Value) → (List X_Value) → (Int) → (Int) → Option (Int)) (x2 : List X_Object) (x5 : List X_Value) (x14 : List X_Value) (x15 : Int) (x16 : Int) : r7_keyRule.b_l0 c96 c97 n_l0 x2 x5 x14 x15 x16 = r7_keyRule.c_l0 c96 c97 n_l0 x2 x5 x14 x15 x16 := by
  simp only [r7_keyRule.b_l0, r7_keyRule.c_l0, List.take_length, take_one, Nat.zero_add, Int.toNat_natCast, Int.toNat_zero, List.drop_zero, List.append_eq, Nat.le_refl, Int.le_refl, true_and, and_true, zero_le_one, if_true, prod_eta, Int.natCast_zero]
def r7_keyRule.l0 (c96 : r7_Keyed.E) (c97 : r7_Place.E) (k : Nat)  : Nat → (List X_Object) → (List X_Value) → (List X_Value) → (Int) → (Int) → Option (Int)
  | 0, _, _, _, _, _ => none
  | n + 1, x2, x5, x14, x15, x16 => r7_keyRule.b_l0 c96 c97 (fun x2 x5 x14 x15 x16 => r7_keyRule.l0 c96 c97 k  n x2 x5 x14 x15 x16) x2 x5 x14 x15 x16
def r7_keyRule.f (c96 : r7_Keyed.E) (c97 : r7_Place.E) (k : Nat) (a0 : List X_Object) (a1 : Int) : Option (Int) := r7_keyRule.b c96 c97 (r7_keyRule.l0 c96 c97 k k) a0 a1
noncomputable def r7_keyRule.M_l0 (c96 : r7_Keyed.E) (c97 : r7_Place.E) (k n : Nat)  (s : St) : Option (Int) := atLoop (r7_keyRule.C c96 c97) k n [1, 1, 0, 1, 0] [] r7_keyRule.code (r7_keyRule.fin c96 c97) s
noncomputable def r7_keyRule.fr_l0 (x2 : List X_Object) (x5 : List X_Value) (x14 : List X_Value) (x15 : Int) (x16 : Int) : St := ⟨((((((List.replicate 33 V.un).set 2 (V.bp 600002 0 [])).set 5 (V.dat (.sl 29 Y_Value) x5)).set 14 (V.dat (.sl 29 Y_Value) x14)).set 15 (V.dat (.int .i64) x15)).set 16 (V.dat (.int .i64) x16)), [⟨600002, 0, .box (V.dat Y_Heap x2)⟩]⟩
theorem r7_keyRule.r (c96 : r7_Keyed.E) (c97 : r7_Place.E) (k : Nat) (a0 : List X_Object) (a1 : Int) : fn (r7_keyRule.C c96 c97) k Tryz.f70 r7_keyRule.A r7_keyRule.R (a0, a1) = r7_keyRule.b c96 c97 (fun x2 x5 x14 x15 x16 => r7_keyRule.M_l0 c96 c97 k k  (r7_keyRule.fr_l0 x2 x5 x14 x15 x16)) a0 a1 := by kernel_rfl
theorem r7_keyRule.z_l0 (c96 : r7_Keyed.E) (c97 : r7_Place.E) (k : Nat)  (s : St) : r7_keyRule.M_l0 c96 c97 k 0  s = none := by kernel_rfl
theorem r7_keyRule.r_l0 (c96 : r7_Keyed.E) (c97 : r7_Place.E) (k n : Nat)  (x2 : List X_Object) (x5 : List X_Value) (x14 : List X_Value) (x15 : Int) (x16 : Int) : r7_keyRule.M_l0 c96 c97 k (n + 1)  (r7_keyRule.fr_l0 x2 x5 x14 x15 x16) = r7_keyRule.b_l0 c96 c97 (fun x2 x5 x14 x15 x16 => r7_keyRule.M_l0 c96 c97 k n  (r7_keyRule.fr_l0 x2 x5 x14 x15 x16)) x2 x5 x14 x15 x16 := by kernel_rfl
theorem r7_keyRule.e_l0 (c96 : r7_Keyed.E) (c97 : r7_Place.E) (k n : Nat)  (x2 : List X_Object) (x5 : List X_Value) (x14 : List X_Value) (x15 : Int) (x16 : Int) : r7_keyRule.M_l0 c96 c97 k n  (r7_keyRule.fr_l0 x2 x5 x14 x15 x16) = r7_keyRule.l0 c96 c97 k  n x2 x5 x14 x15 x16 := by
  induction n generalizing x2 x5 x14 x15 x16 with
  | zero => rw [r7_keyRule.z_l0]; rfl
  | succ n ih =>
    rw [r7_keyRule.r_l0]
    simp only [ih]
    rfl
theorem r7_keyRule.e (c96 : r7_Keyed.E) (c97 : r7_Place.E) (k : Nat) (a0 : List X_Object) (a1 : Int) : fn (r7_keyRule.C c96 c97) k Tryz.f70 r7_keyRule.A r7_keyRule.R (a0, a1) = r7_keyRule.f c96 c97 k a0 a1 := by
  rw [r7_keyRule.r]
  simp only [r7_keyRule.e_l0]
  rfl
theorem r7_keyRule.ty (c96 : r7_Keyed.E) (c97 : r7_Place.E) : TyOk Tryz.prog (r7_keyRule.C c96 c97) := tyOk_of (by kernel_rfl)
def r7_keyRule.u (k : Nat) : r7_keyRule.E := fun y => r7_keyRule.f (r7_Keyed.u k) (r7_Place.u k) k y.1 y.2
theorem r7_keyRule.sound (k : Nat) : Sound Tryz.prog ⟨70, r7_keyRule.A, r7_keyRule.R, r7_keyRule.u k⟩ := by
  have h := fn_sound (k := k) («as» := r7_keyRule.A) (rs := r7_keyRule.R) (r7_keyRule.ty (r7_Keyed.u k) (r7_Place.u k)) (fun E h => by
    simp only [r7_keyRule.C, List.mem_cons, List.not_mem_nil, or_false] at h
    rcases h with rfl | rfl
    · exact r7_Keyed.sound k
    · exact r7_Place.sound k) mixed Tryz.func70 (by kernel_rfl) (by kernel_rfl)
  have e : fn (r7_keyRule.C (r7_Keyed.u k) (r7_Place.u k)) k Tryz.f70 r7_keyRule.A r7_keyRule.R = r7_keyRule.u k := by
    funext y
    exact r7_keyRule.e (r7_Keyed.u k) (r7_Place.u k) k y.1 y.2
  rw [e] at h
  exact h
/-! ### brindlewood/brindlewoodref7.HasInt: f131 -/
abbrev r7_HasInt.A : List Sh := [(.d (.sl 3 (.int .i64))), (.d (.int .i64))]
abbrev r7_HasInt.R : List Sh := [(.d .bool)]
abbrev r7_HasInt.E : Type := ((List (Int)) × (Int)) → Option (Bool)
def r7_HasInt.C (c41 : sl_Contains_int.E) : Ctx := { ty := [], nf := [], by_ := [], env := [⟨41, sl_Contains_int.A, sl_Contains_int.R, c41⟩], spec := [] }
noncomputable def r7_HasInt.code : Code := Func.code Tryz.f131
noncomputable def r7_HasInt.fin (c41 : sl_Contains_int.E) := kfin (r7_HasInt.C c41) Tryz.f131 r7_HasInt.A r7_HasInt.R
def r7_HasInt.b (c41 : sl_Contains_int.E)  (a0 : List (Int)) (a1 : Int) : Option (Bool) :=
  (c41 (a0, a1)).bind fun y1 =>
    some y1
def r7_HasInt.f (c41 : sl_Contains_int.E) (k : Nat) (a0 : List (Int)) (a1 : Int) : Option (Bool) := r7_HasInt.b c41  a0 a1
theorem r7_HasInt.r (c41 : sl_Contains_int.E) (k : Nat) (a0 : List (Int)) (a1 : Int) : fn (r7_HasInt.C c41) k Tryz.f131 r7_HasInt.A r7_HasInt.R (a0, a1) = r7_HasInt.b c41  a0 a1 := by kernel_rfl
theorem r7_HasInt.e (c41 : sl_Contains_int.E) (k : Nat) (a0 : List (Int)) (a1 : Int) : fn (r7_HasInt.C c41) k Tryz.f131 r7_HasInt.A r7_HasInt.R (a0, a1) = r7_HasInt.f c41 k a0 a1 := by
  rw [r7_HasInt.r]
  rfl
theorem r7_HasInt.ty (c41 : sl_Contains_int.E) : TyOk Tryz.prog (r7_HasInt.C c41) := tyOk_of (by kernel_rfl)
def r7_HasInt.u (k : Nat) : r7_HasInt.E := fun y => r7_HasInt.f (sl_Contains_int.u k) k y.1 y.2
theorem r7_HasInt.sound (k : Nat) : Sound Tryz.prog ⟨131, r7_HasInt.A, r7_HasInt.R, r7_HasInt.u k⟩ := by
  have h := fn_sound (k := k) («as» := r7_HasInt.A) (rs := r7_HasInt.R) (r7_HasInt.ty (sl_Contains_int.u k)) (fun E h => by
    simp only [r7_HasInt.C, List.mem_cons, List.not_mem_nil, or_false] at h
    rcases h with rfl
    · exact sl_Contains_int.sound k) mixed Tryz.func131 (by kernel_rfl) (by kernel_rfl)
  have e : fn (r7_HasInt.C (sl_Contains_int.u k)) k Tryz.f131 r7_HasInt.A r7_HasInt.R = r7_HasInt.u k := by
    funext y
    exact r7_HasInt.e (sl_Contains_int.u k) k y.1 y.2
  rw [e] at h
  exact h
/-! ### brindlewood/brindlewoodref7.OrdersFault: f115 -/
abbrev r7_OrdersFault.A : List Sh := [(.d (.sl 32 (.sl 3 (.int .i64))))]
abbrev r7_OrdersFault.R : List Sh := [(.d Y_Fault)]
abbrev r7_OrdersFault.E : Type := (List (List (Int))) → Option X_acceptRange
def r7_OrdersFault.C (c64 : r7_At.E) (c131 : r7_HasInt.E) : Ctx := { ty := [(3, (.int .i64)), (32, (.sl 3 (.int .i64))), (64, Y_Fault), (120, (.sl 32 (.sl 3 (.int .i64))))], nf := [(64, 2)], by_ := [(3, 8), (32, 24)], env := [⟨64, r7_At.A, r7_At.R, c64⟩, ⟨131, r7_HasInt.A, r7_HasInt.R, c131⟩], spec := [(0, [.bx 2 600002 (.d Y_Fault), .o 3 500003 3 (.int .i64), .d 14 (.sl 32 (.sl 3 (.int .i64))), .d 15 (.int .i64), .d 16 (.int .i64)]), (2, [.bx 2 600002 (.d Y_Fault), .o 3 500003 3 (.int .i64), .d 4 (.int .i64), .d 5 (.sl 3 (.int .i64)), .d 6 .bool, .d 7 (.int .i64), .d 14 (.sl 32 (.sl 3 (.int .i64))), .d 15 (.int .i64), .d 16 (.int .i64), .d 21 (.sl 3 (.int .i64)), .d 22 (.int .i64), .d 23 (.int .i64)])] }
noncomputable def r7_OrdersFault.code : Code := Func.code Tryz.f115
noncomputable def r7_OrdersFault.fin (c64 : r7_At.E) (c131 : r7_HasInt.E) := kfin (r7_OrdersFault.C c64 c131) Tryz.f115 r7_OrdersFault.A r7_OrdersFault.R
def r7_OrdersFault.b (c64 : r7_At.E) (c131 : r7_HasInt.E) (r_l0 : X_acceptRange → (List (Int)) → (List (List (Int))) → (Int) → (Int) → Option X_acceptRange) (a0 : List (List (Int))) : Option X_acceptRange :=
  bif (decide (((List.length a0) : Int) > (8 : Int))) then
    (c64 ((2 : Int), (-1 : Int))).bind fun y1 =>
      some y1
  else
    r_l0 ((0 : Int), (0 : Int)) ([] : List (Int)) a0 ((List.length a0) : Int) (0 : Int)
def r7_OrdersFault.b_l0 (c64 : r7_At.E) (c131 : r7_HasInt.E) (r_l2 : X_acceptRange → (List (Int)) → (Int) → (List (Int)) → (Bool) → (Int) → (List (List (Int))) → (Int) → (Int) → (List (Int)) → (Int) → (Int) → Option X_acceptRange) (x2 : (Int) × (Int)) (x3 : List (Int)) (x14 : List (List (Int))) (x15 : Int) (x16 : Int) : Option X_acceptRange :=
  bif (decide (x16 < x15)) then
    if 0 ≤ x16 ∧ x16 < ((List.length x14) : Int) then
      r_l2 x2 (List.take (List.length x3) x3) x16 (List.getD x14 (Int.toNat x16) []) false (0 : Int) x14 x15 x16 (List.getD x14 (Int.toNat x16) []) ((List.length (List.getD x14 (Int.toNat x16) [])) : Int) (0 : Int)
    else none
  else
    some ((0 : Int), (0 : Int))
def r7_OrdersFault.b_l2 (c64 : r7_At.E) (c131 : r7_HasInt.E) (n_l2 : X_acceptRange → (List (Int)) → (Int) → (List (Int)) → (Bool) → (Int) → (List (List (Int))) → (Int) → (Int) → (List (Int)) → (Int) → (Int) → Option X_acceptRange) (n_l0 : X_acceptRange → (List (Int)) → (List (List (Int))) → (Int) → (Int) → Option X_acceptRange) (x2 : (Int) × (Int)) (x3 : List (Int)) (x4 : Int) (x5 : List (Int)) (x6 : Bool) (x7 : Int) (x14 : List (List (Int))) (x15 : Int) (x16 : Int) (x21 : List (Int)) (x22 : Int) (x23 : Int) : Option X_acceptRange :=
  bif (decide (x23 < x22)) then
    if 0 ≤ x23 ∧ x23 < ((List.length x21) : Int) then
      bif x6 then
        n_l2 x2 (List.take (List.length x3) x3) x4 x5 true (if (List.getD x21 (Int.toNat x23) (0 : Int)) < x7 then (List.getD x21 (Int.toNat x23) (0 : Int)) else x7) x14 x15 x16 x21 x22 (IntKind.i64.wrap (x23 + (1 : Int)))
      else
        if 0 ≤ (0 : Int) ∧ (0 : Int) ≤ x23 ∧ x23 ≤ ((List.length x5) : Int) then
          (c131 ((List.drop (Int.toNat (0 : Int)) (List.take (Int.toNat x23) x5)), (List.getD x21 (Int.toNat x23) (0 : Int)))).bind fun y2 =>
            n_l2 x2 (List.take (List.length x3) x3) x4 x5 y2 (if (List.getD x21 (Int.toNat x23) (0 : Int)) < x7 then (List.getD x21 (Int.toNat x23) (0 : Int)) else x7) x14 x15 x16 x21 x22 (IntKind.i64.wrap (x23 + (1 : Int)))
        else none
    else none
  else
    bif (((List.length x5) : Int) == (0 : Int)) then
      (c64 ((10 : Int), x4)).bind fun y3 =>
        some y3
    else
      bif (decide (((List.length x5) : Int) > (40 : Int))) then
        (c64 ((2 : Int), x4)).bind fun y4 =>
          some y4
      else
        bif (decide (x7 < (0 : Int))) then
          (c64 ((4 : Int), x4)).bind fun y5 =>
            some y5
        else
          bif x6 then
            (c64 ((8 : Int), x4)).bind fun y6 =>
              some y6
          else
            if 0 ≤ (0 : Int) ∧ (0 : Int) < ((List.length x5) : Int) then
              (c131 ((List.take (List.length x3) x3), (List.getD x5 (Int.toNat (0 : Int)) (0 : Int)))).bind fun y7 =>
                bif y7 then
                  (c64 ((8 : Int), x4)).bind fun y8 =>
                    some y8
                else
                  if 0 ≤ (0 : Int) ∧ (0 : Int) < ((List.length x5) : Int) then
                    if (List.length x3) ≤ (List.length x3) ∧ ((List.length x3) + (List.length (List.take 1 ([(List.getD x5 (Int.toNat (0 : Int)) (0 : Int))] : List (Int))))) * 8 ≤ LIM then
                      n_l0 x2 (List.take (List.length (List.append (List.take (List.length x3) x3) (List.take 1 ([(List.getD x5 (Int.toNat (0 : Int)) (0 : Int))] : List (Int))))) (List.append (List.take (List.length x3) x3) (List.take 1 ([(List.getD x5 (Int.toNat (0 : Int)) (0 : Int))] : List (Int))))) x14 x15 (IntKind.i64.wrap (x16 + (1 : Int)))
                    else none
                  else none
            else none
def r7_OrdersFault.c (c64 : r7_At.E) (c131 : r7_HasInt.E) (r_l0 : X_acceptRange → (List (Int)) → (List (List (Int))) → (Int) → (Int) → Option X_acceptRange) (a0 : List (List (Int))) : Option X_acceptRange :=
  bif (decide (((List.length a0) : Int) > (8 : Int))) then
    (c64 ((2 : Int), (-1 : Int))).bind fun y1 =>
      some y1
  else
    r_l0 ((0 : Int), (0 : Int)) ([] : List Int) a0 ((List.length a0) : Int) (0 : Int)
theorem r7_OrdersFault.q (c64 : r7_At.E) (c131 : r7_HasInt.E) (r_l0 : X_acceptRange → (List (Int)) → (List (List (Int))) → (Int) → (Int) → Option X_acceptRange) (a0 : List (List (Int))) : r7_OrdersFault.b c64 c131 r_l0 a0 = r7_OrdersFault.c c64 c131 r_l0 a0 := by
  simp only [r7_OrdersFault.b, r7_OrdersFault.c, List.take_length, take_one, Nat.zero_add, Int.toNat_natCast, Int.toNat_zero, List.drop_zero, List.append_eq, Nat.le_refl, Int.le_refl, true_and, and_true, zero_le_one, if_true, prod_eta, Int.natCast_zero]
def r7_OrdersFault.l2 (c64 : r7_At.E) (c131 : r7_HasInt.E) (k : Nat) (n_l0 : X_acceptRange → (List (Int)) → (List (List (Int))) → (Int) → (Int) → Option X_acceptRange) : Nat → X_acceptRange → (List (Int)) → (Int) → (List (Int)) → (Bool) → (Int) → (List (List (Int))) → (Int) → (Int) → (List (Int)) → (Int) → (Int) → Option X_acceptRange
  | 0, _, _, _, _, _, _, _, _, _, _, _, _ => none
  | n + 1, x2, x3, x4, x5, x6, x7, x14, x15, x16, x21, x22, x23 => r7_OrdersFault.b_l2 c64 c131 (fun x2 x3 x4 x5 x6 x7 x14 x15 x16 x21 x22 x23 => r7_OrdersFault.l2 c64 c131 k n_l0 n x2 x3 x4 x5 x6 x7 x14 x15 x16 x21 x22 x23) n_l0 x2 x3 x4 x5 x6 x7 x14 x15 x16 x21 x22 x23
def r7_OrdersFault.l0 (c64 : r7_At.E) (c131 : r7_HasInt.E) (k : Nat)  : Nat → X_acceptRange → (List (Int)) → (List (List (Int))) → (Int) → (Int) → Option X_acceptRange
  | 0, _, _, _, _, _ => none
  | n + 1, x2, x3, x14, x15, x16 => r7_OrdersFault.b_l0 c64 c131 (r7_OrdersFault.l2 c64 c131 k (fun x2 x3 x14 x15 x16 => r7_OrdersFault.l0 c64 c131 k  n x2 x3 x14 x15 x16) k) x2 x3 x14 x15 x16
def r7_OrdersFault.f (c64 : r7_At.E) (c131 : r7_HasInt.E) (k : Nat) (a0 : List (List (Int))) : Option X_acceptRange := r7_OrdersFault.b c64 c131 (r7_OrdersFault.l0 c64 c131 k k) a0
noncomputable def r7_OrdersFault.M_l0 (c64 : r7_At.E) (c131 : r7_HasInt.E) (k n : Nat)  (s : St) : Option X_acceptRange := atLoop (r7_OrdersFault.C c64 c131) k n [1, 1, 1, 0, 1, 0] [] r7_OrdersFault.code (r7_OrdersFault.fin c64 c131) s
noncomputable def r7_OrdersFault.fr_l0 (x2 : (Int) × (Int)) (x3 : List (Int)) (x14 : List (List (Int))) (x15 : Int) (x16 : Int) : St := ⟨((((((List.replicate 76 V.un).set 2 (V.bp 600002 0 [])).set 3 (V.ref 500003 0 0 (List.length x3))).set 14 (V.dat (.sl 32 (.sl 3 (.int .i64))) x14)).set 15 (V.dat (.int .i64) x15)).set 16 (V.dat (.int .i64) x16)), [⟨500003, 0, .arr 3 (.int .i64) x3⟩, ⟨600002, 0, .box (V.dat Y_Fault x2)⟩]⟩
noncomputable def r7_OrdersFault.M_l2 (c64 : r7_At.E) (c131 : r7_HasInt.E) (k n : Nat) (m0 : Nat) (s : St) : Option X_acceptRange := atLoop (r7_OrdersFault.C c64 c131) k n [1, 1, 1, 0, 1, 0, 0, 1, 1, 0, 0, 1, 1, 0, 1, 0] [m0] r7_OrdersFault.code (r7_OrdersFault.fin c64 c131) s
noncomputable def r7_OrdersFault.fr_l2 (x2 : (Int) × (Int)) (x3 : List (Int)) (x4 : Int) (x5 : List (Int)) (x6 : Bool) (x7 : Int) (x14 : List (List (Int))) (x15 : Int) (x16 : Int) (x21 : List (Int)) (x22 : Int) (x23 : Int) : St := ⟨(((((((((((((List.replicate 76 V.un).set 2 (V.bp 600002 0 [])).set 3 (V.ref 500003 0 0 (List.length x3))).set 4 (V.dat (.int .i64) x4)).set 5 (V.dat (.sl 3 (.int .i64)) x5)).set 6 (V.dat .bool x6)).set 7 (V.dat (.int .i64) x7)).set 14 (V.dat (.sl 32 (.sl 3 (.int .i64))) x14)).set 15 (V.dat (.int .i64) x15)).set 16 (V.dat (.int .i64) x16)).set 21 (V.dat (.sl 3 (.int .i64)) x21)).set 22 (V.dat (.int .i64) x22)).set 23 (V.dat (.int .i64) x23)), [⟨500003, 0, .arr 3 (.int .i64) x3⟩, ⟨600002, 0, .box (V.dat Y_Fault x2)⟩]⟩
theorem r7_OrdersFault.r (c64 : r7_At.E) (c131 : r7_HasInt.E) (k : Nat) (a0 : List (List (Int))) : fn (r7_OrdersFault.C c64 c131) k Tryz.f115 r7_OrdersFault.A r7_OrdersFault.R a0 = r7_OrdersFault.b c64 c131 (fun x2 x3 x14 x15 x16 => r7_OrdersFault.M_l0 c64 c131 k k  (r7_OrdersFault.fr_l0 x2 x3 x14 x15 x16)) a0 := by kernel_rfl
theorem r7_OrdersFault.z_l0 (c64 : r7_At.E) (c131 : r7_HasInt.E) (k : Nat)  (s : St) : r7_OrdersFault.M_l0 c64 c131 k 0  s = none := by kernel_rfl
theorem r7_OrdersFault.r_l0 (c64 : r7_At.E) (c131 : r7_HasInt.E) (k n : Nat)  (x2 : (Int) × (Int)) (x3 : List (Int)) (x14 : List (List (Int))) (x15 : Int) (x16 : Int) : r7_OrdersFault.M_l0 c64 c131 k (n + 1)  (r7_OrdersFault.fr_l0 x2 x3 x14 x15 x16) = r7_OrdersFault.b_l0 c64 c131 (fun x2 x3 x4 x5 x6 x7 x14 x15 x16 x21 x22 x23 => r7_OrdersFault.M_l2 c64 c131 k k n (r7_OrdersFault.fr_l2 x2 x3 x4 x5 x6 x7 x14 x15 x16 x21 x22 x23)) x2 x3 x14 x15 x16 := by kernel_rfl
theorem r7_OrdersFault.z_l2 (c64 : r7_At.E) (c131 : r7_HasInt.E) (k : Nat) (m0 : Nat) (s : St) : r7_OrdersFault.M_l2 c64 c131 k 0 m0 s = none := by kernel_rfl
theorem r7_OrdersFault.r_l2 (c64 : r7_At.E) (c131 : r7_HasInt.E) (k n : Nat) (m0 : Nat) (x2 : (Int) × (Int)) (x3 : List (Int)) (x4 : Int) (x5 : List (Int)) (x6 : Bool) (x7 : Int) (x14 : List (List (Int))) (x15 : Int) (x16 : Int) (x21 : List (Int)) (x22 : Int) (x23 : Int) : r7_OrdersFault.M_l2 c64 c131 k (n + 1) m0 (r7_OrdersFault.fr_l2 x2 x3 x4 x5 x6 x7 x14 x15 x16 x21 x22 x23) = r7_OrdersFault.b_l2 c64 c131 (fun x2 x3 x4 x5 x6 x7 x14 x15 x16 x21 x22 x23 => r7_OrdersFault.M_l2 c64 c131 k n m0 (r7_OrdersFault.fr_l2 x2 x3 x4 x5 x6 x7 x14 x15 x16 x21 x22 x23)) (fun x2 x3 x14 x15 x16 => r7_OrdersFault.M_l0 c64 c131 k m0  (r7_OrdersFault.fr_l0 x2 x3 x14 x15 x16)) x2 x3 x4 x5 x6 x7 x14 x15 x16 x21 x22 x23 := by kernel_rfl
theorem r7_OrdersFault.e_l2 (c64 : r7_At.E) (c131 : r7_HasInt.E) (k n : Nat) (m0 : Nat) (x2 : (Int) × (Int)) (x3 : List (Int)) (x4 : Int) (x5 : List (Int)) (x6 : Bool) (x7 : Int) (x14 : List (List (Int))) (x15 : Int) (x16 : Int) (x21 : List (Int)) (x22 : Int) (x23 : Int) : r7_OrdersFault.M_l2 c64 c131 k n m0 (r7_OrdersFault.fr_l2 x2 x3 x4 x5 x6 x7 x14 x15 x16 x21 x22 x23) = r7_OrdersFault.l2 c64 c131 k (fun x2 x3 x14 x15 x16 => r7_OrdersFault.M_l0 c64 c131 k m0  (r7_OrdersFault.fr_l0 x2 x3 x14 x15 x16)) n x2 x3 x4 x5 x6 x7 x14 x15 x16 x21 x22 x23 := by
  induction n generalizing x2 x3 x4 x5 x6 x7 x14 x15 x16 x21 x22 x23 with
  | zero => rw [r7_OrdersFault.z_l2]; rfl
  | succ n ih =>
    rw [r7_OrdersFault.r_l2]
    simp only [ih]
    rfl
theorem r7_OrdersFault.e_l0 (c64 : r7_At.E) (c131 : r7_HasInt.E) (k n : Nat)  (x2 : (Int) × (Int)) (x3 : List (Int)) (x14 : List (List (Int))) (x15 : Int) (x16 : Int) : r7_OrdersFault.M_l0 c64 c131 k n  (r7_OrdersFault.fr_l0 x2 x3 x14 x15 x16) = r7_OrdersFault.l0 c64 c131 k  n x2 x3 x14 x15 x16 := by
  induction n generalizing x2 x3 x14 x15 x16 with
  | zero => rw [r7_OrdersFault.z_l0]; rfl
  | succ n ih =>
    rw [r7_OrdersFault.r_l0]
    simp only [r7_OrdersFault.e_l2, ih]
    rfl
theorem r7_OrdersFault.e (c64 : r7_At.E) (c131 : r7_HasInt.E) (k : Nat) (a0 : List (List (Int))) : fn (r7_OrdersFault.C c64 c131) k Tryz.f115 r7_OrdersFault.A r7_OrdersFault.R a0 = r7_OrdersFault.f c64 c131 k a0 := by
  rw [r7_OrdersFault.r]
  simp only [r7_OrdersFault.e_l0]
  rfl
theorem r7_OrdersFault.ty (c64 : r7_At.E) (c131 : r7_HasInt.E) : TyOk Tryz.prog (r7_OrdersFault.C c64 c131) := tyOk_of (by kernel_rfl)
def r7_OrdersFault.u (k : Nat) : r7_OrdersFault.E := fun y => r7_OrdersFault.f (r7_At.u k) (r7_HasInt.u k) k y
theorem r7_OrdersFault.sound (k : Nat) : Sound Tryz.prog ⟨115, r7_OrdersFault.A, r7_OrdersFault.R, r7_OrdersFault.u k⟩ := by
  have h := fn_sound (k := k) («as» := r7_OrdersFault.A) (rs := r7_OrdersFault.R) (r7_OrdersFault.ty (r7_At.u k) (r7_HasInt.u k)) (fun E h => by
    simp only [r7_OrdersFault.C, List.mem_cons, List.not_mem_nil, or_false] at h
    rcases h with rfl | rfl
    · exact r7_At.sound k
    · exact r7_HasInt.sound k) mixed Tryz.func115 (by kernel_rfl) (by kernel_rfl)
  have e : fn (r7_OrdersFault.C (r7_At.u k) (r7_HasInt.u k)) k Tryz.f115 r7_OrdersFault.A r7_OrdersFault.R = r7_OrdersFault.u k := by
    funext y
    exact r7_OrdersFault.e (r7_At.u k) (r7_HasInt.u k) k y
  rw [e] at h
  exact h
/-! ### brindlewood/brindlewoodref7.inTail: f132 -/
abbrev r7_inTail.A : List Sh := [(.d (.sl 32 (.sl 3 (.int .i64)))), (.d (.int .i64))]
abbrev r7_inTail.R : List Sh := [(.d .bool)]
abbrev r7_inTail.E : Type := ((List (List (Int))) × (Int)) → Option (Bool)
def r7_inTail.C (c131 : r7_HasInt.E) : Ctx := { ty := [(3, (.int .i64)), (32, (.sl 3 (.int .i64))), (120, (.sl 32 (.sl 3 (.int .i64))))], nf := [], by_ := [(3, 8), (32, 24)], env := [⟨131, r7_HasInt.A, r7_HasInt.R, c131⟩], spec := [(0, [.d 1 (.int .i64), .d 7 (.sl 32 (.sl 3 (.int .i64))), .d 8 (.int .i64), .d 9 (.int .i64)])] }
noncomputable def r7_inTail.code : Code := Func.code Tryz.f132
noncomputable def r7_inTail.fin (c131 : r7_HasInt.E) := kfin (r7_inTail.C c131) Tryz.f132 r7_inTail.A r7_inTail.R
def r7_inTail.b (c131 : r7_HasInt.E) (r_l0 : (Int) → (List (List (Int))) → (Int) → (Int) → Option (Bool)) (a0 : List (List (Int))) (a1 : Int) : Option (Bool) :=
  r_l0 a1 a0 ((List.length a0) : Int) (0 : Int)
def r7_inTail.b_l0 (c131 : r7_HasInt.E) (n_l0 : (Int) → (List (List (Int))) → (Int) → (Int) → Option (Bool)) (x1 : Int) (x7 : List (List (Int))) (x8 : Int) (x9 : Int) : Option (Bool) :=
  bif (decide (x9 < x8)) then
    if 0 ≤ x9 ∧ x9 < ((List.length x7) : Int) then
      if 0 ≤ (1 : Int) ∧ (1 : Int) ≤ ((List.length (List.getD x7 (Int.toNat x9) [])) : Int) ∧ ((List.length (List.getD x7 (Int.toNat x9) [])) : Int) ≤ ((List.length (List.getD x7 (Int.toNat x9) [])) : Int) then
        (c131 ((List.drop (Int.toNat (1 : Int)) (List.take (Int.toNat ((List.length (List.getD x7 (Int.toNat x9) [])) : Int)) (List.getD x7 (Int.toNat x9) []))), x1)).bind fun y1 =>
          bif y1 then
            some true
          else
            n_l0 x1 x7 x8 (IntKind.i64.wrap (x9 + (1 : Int)))
      else none
    else none
  else
    some false
def r7_inTail.l0 (c131 : r7_HasInt.E) (k : Nat)  : Nat → (Int) → (List (List (Int))) → (Int) → (Int) → Option (Bool)
  | 0, _, _, _, _ => none
  | n + 1, x1, x7, x8, x9 => r7_inTail.b_l0 c131 (fun x1 x7 x8 x9 => r7_inTail.l0 c131 k  n x1 x7 x8 x9) x1 x7 x8 x9
def r7_inTail.f (c131 : r7_HasInt.E) (k : Nat) (a0 : List (List (Int))) (a1 : Int) : Option (Bool) := r7_inTail.b c131 (r7_inTail.l0 c131 k k) a0 a1
noncomputable def r7_inTail.M_l0 (c131 : r7_HasInt.E) (k n : Nat)  (s : St) : Option (Bool) := atLoop (r7_inTail.C c131) k n [1, 0, 1, 0] [] r7_inTail.code (r7_inTail.fin c131) s
noncomputable def r7_inTail.fr_l0 (x1 : Int) (x7 : List (List (Int))) (x8 : Int) (x9 : Int) : St := ⟨(((((List.replicate 18 V.un).set 1 (V.dat (.int .i64) x1)).set 7 (V.dat (.sl 32 (.sl 3 (.int .i64))) x7)).set 8 (V.dat (.int .i64) x8)).set 9 (V.dat (.int .i64) x9)), []⟩
theorem r7_inTail.r (c131 : r7_HasInt.E) (k : Nat) (a0 : List (List (Int))) (a1 : Int) : fn (r7_inTail.C c131) k Tryz.f132 r7_inTail.A r7_inTail.R (a0, a1) = r7_inTail.b c131 (fun x1 x7 x8 x9 => r7_inTail.M_l0 c131 k k  (r7_inTail.fr_l0 x1 x7 x8 x9)) a0 a1 := by kernel_rfl
theorem r7_inTail.z_l0 (c131 : r7_HasInt.E) (k : Nat)  (s : St) : r7_inTail.M_l0 c131 k 0  s = none := by kernel_rfl
theorem r7_inTail.r_l0 (c131 : r7_HasInt.E) (k n : Nat)  (x1 : Int) (x7 : List (List (Int))) (x8 : Int) (x9 : Int) : r7_inTail.M_l0 c131 k (n + 1)  (r7_inTail.fr_l0 x1 x7 x8 x9) = r7_inTail.b_l0 c131 (fun x1 x7 x8 x9 => r7_inTail.M_l0 c131 k n  (r7_inTail.fr_l0 x1 x7 x8 x9)) x1 x7 x8 x9 := by kernel_rfl
theorem r7_inTail.e_l0 (c131 : r7_HasInt.E) (k n : Nat)  (x1 : Int) (x7 : List (List (Int))) (x8 : Int) (x9 : Int) : r7_inTail.M_l0 c131 k n  (r7_inTail.fr_l0 x1 x7 x8 x9) = r7_inTail.l0 c131 k  n x1 x7 x8 x9 := by
  induction n generalizing x1 x7 x8 x9 with
  | zero => rw [r7_inTail.z_l0]; rfl
  | succ n ih =>
    rw [r7_inTail.r_l0]
    simp only [ih]
    rfl
theorem r7_inTail.e (c131 : r7_HasInt.E) (k : Nat) (a0 : List (List (Int))) (a1 : Int) : fn (r7_inTail.C c131) k Tryz.f132 r7_inTail.A r7_inTail.R (a0, a1) = r7_inTail.f c131 k a0 a1 := by
  rw [r7_inTail.r]
  simp only [r7_inTail.e_l0]
  rfl
theorem r7_inTail.ty (c131 : r7_HasInt.E) : TyOk Tryz.prog (r7_inTail.C c131) := tyOk_of (by kernel_rfl)
def r7_inTail.u (k : Nat) : r7_inTail.E := fun y => r7_inTail.f (r7_HasInt.u k) k y.1 y.2
theorem r7_inTail.sound (k : Nat) : Sound Tryz.prog ⟨132, r7_inTail.A, r7_inTail.R, r7_inTail.u k⟩ := by
  have h := fn_sound (k := k) («as» := r7_inTail.A) (rs := r7_inTail.R) (r7_inTail.ty (r7_HasInt.u k)) (fun E h => by
    simp only [r7_inTail.C, List.mem_cons, List.not_mem_nil, or_false] at h
    rcases h with rfl
    · exact r7_HasInt.sound k) mixed Tryz.func132 (by kernel_rfl) (by kernel_rfl)
  have e : fn (r7_inTail.C (r7_HasInt.u k)) k Tryz.f132 r7_inTail.A r7_inTail.R = r7_inTail.u k := by
    funext y
    exact r7_inTail.e (r7_HasInt.u k) k y.1 y.2
  rw [e] at h
  exact h
/-! ### brindlewood/brindlewoodref7.Merged: f116 -/
abbrev r7_Merged.A : List Sh := [(.d (.sl 32 (.sl 3 (.int .i64))))]
abbrev r7_Merged.R : List Sh := [(.d (.sl 3 (.int .i64))), (.d (.sl 32 (.sl 3 (.int .i64))))]
abbrev r7_Merged.E : Type := (List (List (Int))) → Option ((List (Int)) × (List (List (Int))))
def r7_Merged.C (c132 : r7_inTail.E) : Ctx := { ty := [(3, (.int .i64)), (32, (.sl 3 (.int .i64))), (120, (.sl 32 (.sl 3 (.int .i64))))], nf := [], by_ := [(3, 8), (32, 24)], env := [⟨132, r7_inTail.A, r7_inTail.R, c132⟩], spec := [(0, [.o 2 500002 3 (.int .i64), .o 3 500003 32 (.sl 3 (.int .i64)), .o 4 500004 3 (.int .i64), .d 14 (.sl 32 (.sl 3 (.int .i64))), .d 15 (.int .i64), .d 16 (.int .i64)]), (2, [.o 2 500002 3 (.int .i64), .o 3 500003 32 (.sl 3 (.int .i64))]), (4, [.o 2 500002 3 (.int .i64), .o 3 500003 32 (.sl 3 (.int .i64)), .d 7 (.int .i64), .d 8 .bool, .al 41 3, .d 42 (.int .i64), .d 43 (.int .i64)]), (6, [.o 2 500002 3 (.int .i64), .d 7 (.int .i64), .o 11 500011 32 (.sl 3 (.int .i64)), .o 69 500069 32 (.sl 3 (.int .i64)), .d 70 (.int .i64), .d 71 (.int .i64)]), (100027, [.o 2 500002 3 (.int .i64), .d 7 (.int .i64), .o 11 500011 32 (.sl 3 (.int .i64)), .d 13 (.sl 3 (.int .i64)), .o 69 500069 32 (.sl 3 (.int .i64)), .d 70 (.int .i64), .d 71 (.int .i64)])] }
noncomputable def r7_Merged.code : Code := Func.code Tryz.f116
noncomputable def r7_Merged.fin (c132 : r7_inTail.E) := kfin (r7_Merged.C c132) Tryz.f116 r7_Merged.A r7_Merged.R
def r7_Merged.b (c132 : r7_inTail.E) (r_l0 : (List (Int)) → (List (List (Int))) → (List (Int)) → (List (List (Int))) → (Int) → (Int) → Option ((List (Int)) × (List (List (Int))))) (a0 : List (List (Int))) : Option ((List (Int)) × (List (List (Int)))) :=
  r_l0 ([] : List (Int)) ([] : List (List (Int))) ([] : List (Int)) a0 ((List.length a0) : Int) (0 : Int)
def r7_Merged.b_l0 (c132 : r7_inTail.E) (n_l0 : (List (Int)) → (List (List (Int))) → (List (Int)) → (List (List (Int))) → (Int) → (Int) → Option ((List (Int)) × (List (List (Int))))) (r_l2 : (List (Int)) → (List (List (Int))) → Option ((List (Int)) × (List (List (Int))))) (x2 : List (Int)) (x3 : List (List (Int))) (x4 : List (Int)) (x14 : List (List (Int))) (x15 : Int) (x16 : Int) : Option ((List (Int)) × (List (List (Int)))) :=
  bif (decide (x16 < x15)) then
    if 0 ≤ x16 ∧ x16 < ((List.length x14) : Int) then
      if (List.length x3) ≤ (List.length x3) ∧ ((List.length x3) + (List.length (List.take 1 ([(List.getD x14 (Int.toNat x16) [])] : List (List (Int)))))) * 24 ≤ LIM then
        if 0 ≤ (0 : Int) ∧ (0 : Int) < ((List.length (List.getD x14 (Int.toNat x16) [])) : Int) then
          if (List.length x4) ≤ (List.length x4) ∧ ((List.length x4) + (List.length (List.take 1 ([(List.getD (List.getD x14 (Int.toNat x16) []) (Int.toNat (0 : Int)) (0 : Int))] : List (Int))))) * 8 ≤ LIM then
            n_l0 (List.take (List.length x2) x2) (List.take (List.length (List.append (List.take (List.length x3) x3) (List.take 1 ([(List.getD x14 (Int.toNat x16) [])] : List (List (Int)))))) (List.append (List.take (List.length x3) x3) (List.take 1 ([(List.getD x14 (Int.toNat x16) [])] : List (List (Int)))))) (List.take (List.length (List.append (List.take (List.length x4) x4) (List.take 1 ([(List.getD (List.getD x14 (Int.toNat x16) []) (Int.toNat (0 : Int)) (0 : Int))] : List (Int))))) (List.append (List.take (List.length x4) x4) (List.take 1 ([(List.getD (List.getD x14 (Int.toNat x16) []) (Int.toNat (0 : Int)) (0 : Int))] : List (Int))))) x14 x15 (IntKind.i64.wrap (x16 + (1 : Int)))
          else none
        else none
      else none
    else none
  else
    bif (decide ((((List.length x4) : Nat) : Int) > (0 : Int))) then
      if (List.length x3) ≤ (List.length x3) ∧ ((List.length x3) + (List.length (List.take 1 ([(List.take (List.length x4) x4)] : List (List (Int)))))) * 24 ≤ LIM then
        r_l2 (List.take (List.length x2) x2) (List.take (List.length (List.append (List.take (List.length x3) x3) (List.take 1 ([(List.take (List.length x4) x4)] : List (List (Int)))))) (List.append (List.take (List.length x3) x3) (List.take 1 ([(List.take (List.length x4) x4)] : List (List (Int))))))
      else none
    else
      r_l2 (List.take (List.length x2) x2) (List.take (List.length x3) x3)
def r7_Merged.b_l2 (c132 : r7_inTail.E) (r_l4 : (List (Int)) → (List (List (Int))) → (Int) → (Bool) → (Int) → (Int) → Option ((List (Int)) × (List (List (Int))))) (x2 : List (Int)) (x3 : List (List (Int))) : Option ((List (Int)) × (List (List (Int)))) :=
  bif (decide ((((List.length x3) : Nat) : Int) > (0 : Int))) then
    if (List.length x3) = (List.length x3) then
      r_l4 (List.take (List.length x2) x2) (List.take (List.length x3) x3) (0 : Int) false (((List.length x3) : Nat) : Int) (0 : Int)
    else none
  else
    some ((List.take (List.length x2) x2), ([] : List (List (Int))))
def r7_Merged.b_l4 (c132 : r7_inTail.E) (n_l4 : (List (Int)) → (List (List (Int))) → (Int) → (Bool) → (Int) → (Int) → Option ((List (Int)) × (List (List (Int))))) (r_l6 : (List (Int)) → (Int) → (List (List (Int))) → (List (List (Int))) → (Int) → (Int) → Option ((List (Int)) × (List (List (Int))))) (x2 : List (Int)) (x3 : List (List (Int))) (x7 : Int) (x8 : Bool) (x42 : Int) (x43 : Int) : Option ((List (Int)) × (List (List (Int)))) :=
  bif (decide (x43 < x42)) then
    if 0 ≤ x43 ∧ x43 < (((List.length x3) : Nat) : Int) then
      bif (!x8) then
        if 0 ≤ (0 : Int) ∧ (0 : Int) < ((List.length (List.getD x3 (0 + Int.toNat x43) [])) : Int) then
          (c132 ((List.take (List.length x3) x3), (List.getD (List.getD x3 (0 + Int.toNat x43) []) (Int.toNat (0 : Int)) (0 : Int)))).bind fun y1 =>
            bif (!y1) then
              if 0 ≤ (0 : Int) ∧ (0 : Int) < ((List.length (List.getD x3 (0 + Int.toNat x43) [])) : Int) then
                if (List.length x3) = (List.length x3) then
                  n_l4 (List.take (List.length x2) x2) (List.take (List.length x3) x3) (List.getD (List.getD x3 (0 + Int.toNat x43) []) (Int.toNat (0 : Int)) (0 : Int)) true x42 (IntKind.i64.wrap (x43 + (1 : Int)))
                else none
              else none
            else
              if (List.length x3) = (List.length x3) then
                n_l4 (List.take (List.length x2) x2) (List.take (List.length x3) x3) x7 x8 x42 (IntKind.i64.wrap (x43 + (1 : Int)))
              else none
        else none
      else
        if (List.length x3) = (List.length x3) then
          n_l4 (List.take (List.length x2) x2) (List.take (List.length x3) x3) x7 x8 x42 (IntKind.i64.wrap (x43 + (1 : Int)))
        else none
    else none
  else
    bif (!x8) then
      some ((List.take (List.length x2) x2), (List.take (List.length x3) x3))
    else
      if (List.length x2) ≤ (List.length x2) ∧ ((List.length x2) + (List.length (List.take 1 ([x7] : List (Int))))) * 8 ≤ LIM then
        r_l6 (List.take (List.length (List.append (List.take (List.length x2) x2) (List.take 1 ([x7] : List (Int))))) (List.append (List.take (List.length x2) x2) (List.take 1 ([x7] : List (Int))))) x7 ([] : List (List (Int))) (List.take (List.length x3) x3) (((List.length x3) : Nat) : Int) (0 : Int)
      else none
def r7_Merged.b_l6 (c132 : r7_inTail.E) (r_g27 : (List (Int)) → (Int) → (List (List (Int))) → (List (Int)) → (List (List (Int))) → (Int) → (Int) → Option ((List (Int)) × (List (List (Int))))) (n_l6 : (List (Int)) → (Int) → (List (List (Int))) → (List (List (Int))) → (Int) → (Int) → Option ((List (Int)) × (List (List (Int))))) (n_l2 : (List (Int)) → (List (List (Int))) → Option ((List (Int)) × (List (List (Int))))) (x2 : List (Int)) (x7 : Int) (x11 : List (List (Int))) (x69 : List (List (Int))) (x70 : Int) (x71 : Int) : Option ((List (Int)) × (List (List (Int)))) :=
  bif (decide (x71 < x70)) then
    if 0 ≤ x71 ∧ x71 < (((List.length x69) : Nat) : Int) then
      if 0 ≤ (0 : Int) ∧ (0 : Int) < ((List.length (List.getD x69 (0 + Int.toNat x71) [])) : Int) then
        bif ((List.getD (List.getD x69 (0 + Int.toNat x71) []) (Int.toNat (0 : Int)) (0 : Int)) == x7) then
          if 0 ≤ (1 : Int) ∧ (1 : Int) ≤ ((List.length (List.getD x69 (0 + Int.toNat x71) [])) : Int) ∧ ((List.length (List.getD x69 (0 + Int.toNat x71) [])) : Int) ≤ ((List.length (List.getD x69 (0 + Int.toNat x71) [])) : Int) then
            bif (decide (((List.length (List.drop (Int.toNat (1 : Int)) (List.take (Int.toNat ((List.length (List.getD x69 (0 + Int.toNat x71) [])) : Int)) (List.getD x69 (0 + Int.toNat x71) [])))) : Int) > (0 : Int))) then
              r_g27 (List.take (List.length x2) x2) x7 (List.take (List.length x11) x11) (List.drop (Int.toNat (1 : Int)) (List.take (Int.toNat ((List.length (List.getD x69 (0 + Int.toNat x71) [])) : Int)) (List.getD x69 (0 + Int.toNat x71) []))) (List.take (List.length x69) x69) x70 x71
            else
              n_l6 (List.take (List.length x2) x2) x7 (List.take (List.length x11) x11) (List.take (List.length x69) x69) x70 (IntKind.i64.wrap (x71 + (1 : Int)))
          else none
        else
          bif (decide (((List.length (List.getD x69 (0 + Int.toNat x71) [])) : Int) > (0 : Int))) then
            r_g27 (List.take (List.length x2) x2) x7 (List.take (List.length x11) x11) (List.getD x69 (0 + Int.toNat x71) []) (List.take (List.length x69) x69) x70 x71
          else
            n_l6 (List.take (List.length x2) x2) x7 (List.take (List.length x11) x11) (List.take (List.length x69) x69) x70 (IntKind.i64.wrap (x71 + (1 : Int)))
      else none
    else none
  else
    n_l2 (List.take (List.length x2) x2) (List.take (List.length x11) x11)
def r7_Merged.b_g27 (c132 : r7_inTail.E) (n_l6 : (List (Int)) → (Int) → (List (List (Int))) → (List (List (Int))) → (Int) → (Int) → Option ((List (Int)) × (List (List (Int))))) (x2 : List (Int)) (x7 : Int) (x11 : List (List (Int))) (x13 : List (Int)) (x69 : List (List (Int))) (x70 : Int) (x71 : Int) : Option ((List (Int)) × (List (List (Int)))) :=
  if (List.length x11) ≤ (List.length x11) ∧ ((List.length x11) + (List.length (List.take 1 ([x13] : List (List (Int)))))) * 24 ≤ LIM then
    n_l6 (List.take (List.length x2) x2) x7 (List.take (List.length (List.append (List.take (List.length x11) x11) (List.take 1 ([x13] : List (List (Int)))))) (List.append (List.take (List.length x11) x11) (List.take 1 ([x13] : List (List (Int)))))) (List.take (List.length x69) x69) x70 (IntKind.i64.wrap (x71 + (1 : Int)))
  else none
def r7_Merged.g27 (c132 : r7_inTail.E) (k : Nat) (n_l2 : (List (Int)) → (List (List (Int))) → Option ((List (Int)) × (List (List (Int))))) (n_l6 : (List (Int)) → (Int) → (List (List (Int))) → (List (List (Int))) → (Int) → (Int) → Option ((List (Int)) × (List (List (Int))))) (x2 : List (Int)) (x7 : Int) (x11 : List (List (Int))) (x13 : List (Int)) (x69 : List (List (Int))) (x70 : Int) (x71 : Int) : Option ((List (Int)) × (List (List (Int)))) := gate k (r7_Merged.b_g27 c132 n_l6 x2 x7 x11 x13 x69 x70 x71)
def r7_Merged.l6 (c132 : r7_inTail.E) (k : Nat) (n_l2 : (List (Int)) → (List (List (Int))) → Option ((List (Int)) × (List (List (Int))))) : Nat → (List (Int)) → (Int) → (List (List (Int))) → (List (List (Int))) → (Int) → (Int) → Option ((List (Int)) × (List (List (Int))))
  | 0, _, _, _, _, _, _ => none
  | n + 1, x2, x7, x11, x69, x70, x71 => r7_Merged.b_l6 c132 (r7_Merged.g27 c132 k n_l2 (fun x2 x7 x11 x69 x70 x71 => r7_Merged.l6 c132 k n_l2 n x2 x7 x11 x69 x70 x71)) (fun x2 x7 x11 x69 x70 x71 => r7_Merged.l6 c132 k n_l2 n x2 x7 x11 x69 x70 x71) n_l2 x2 x7 x11 x69 x70 x71
def r7_Merged.l4 (c132 : r7_inTail.E) (k : Nat) (n_l2 : (List (Int)) → (List (List (Int))) → Option ((List (Int)) × (List (List (Int))))) : Nat → (List (Int)) → (List (List (Int))) → (Int) → (Bool) → (Int) → (Int) → Option ((List (Int)) × (List (List (Int))))
  | 0, _, _, _, _, _, _ => none
  | n + 1, x2, x3, x7, x8, x42, x43 => r7_Merged.b_l4 c132 (fun x2 x3 x7 x8 x42 x43 => r7_Merged.l4 c132 k n_l2 n x2 x3 x7 x8 x42 x43) (r7_Merged.l6 c132 k n_l2 k) x2 x3 x7 x8 x42 x43
def r7_Merged.l2 (c132 : r7_inTail.E) (k : Nat)  : Nat → (List (Int)) → (List (List (Int))) → Option ((List (Int)) × (List (List (Int))))
  | 0, _, _ => none
  | n + 1, x2, x3 => r7_Merged.b_l2 c132 (r7_Merged.l4 c132 k (fun x2 x3 => r7_Merged.l2 c132 k  n x2 x3) k) x2 x3
def r7_Merged.l0 (c132 : r7_inTail.E) (k : Nat)  : Nat → (List (Int)) → (List (List (Int))) → (List (Int)) → (List (List (Int))) → (Int) → (Int) → Option ((List (Int)) × (List (List (Int))))
  | 0, _, _, _, _, _, _ => none
  | n + 1, x2, x3, x4, x14, x15, x16 => r7_Merged.b_l0 c132 (fun x2 x3 x4 x14 x15 x16 => r7_Merged.l0 c132 k  n x2 x3 x4 x14 x15 x16) (r7_Merged.l2 c132 k  k) x2 x3 x4 x14 x15 x16
def r7_Merged.f (c132 : r7_inTail.E) (k : Nat) (a0 : List (List (Int))) : Option ((List (Int)) × (List (List (Int)))) := r7_Merged.b c132 (r7_Merged.l0 c132 k k) a0
noncomputable def r7_Merged.M_l0 (c132 : r7_inTail.E) (k n : Nat)  (s : St) : Option ((List (Int)) × (List (List (Int)))) := atLoop (r7_Merged.C c132) k n [1, 1, 0, 1, 0] [] r7_Merged.code (r7_Merged.fin c132) s
noncomputable def r7_Merged.fr_l0 (x2 : List (Int)) (x3 : List (List (Int))) (x4 : List (Int)) (x14 : List (List (Int))) (x15 : Int) (x16 : Int) : St := ⟨(((((((List.replicate 92 V.un).set 2 (V.ref 500002 0 0 (List.length x2))).set 3 (V.ref 500003 0 0 (List.length x3))).set 4 (V.ref 500004 0 0 (List.length x4))).set 14 (V.dat (.sl 32 (.sl 3 (.int .i64))) x14)).set 15 (V.dat (.int .i64) x15)).set 16 (V.dat (.int .i64) x16)), [⟨500004, 0, .arr 3 (.int .i64) x4⟩, ⟨500003, 0, .arr 32 (.sl 3 (.int .i64)) x3⟩, ⟨500002, 0, .arr 3 (.int .i64) x2⟩]⟩
noncomputable def r7_Merged.M_l2 (c132 : r7_inTail.E) (k n : Nat)  (s : St) : Option ((List (Int)) × (List (List (Int)))) := atLoop (r7_Merged.C c132) k n [1, 1, 1, 1, 0, 0] [] r7_Merged.code (r7_Merged.fin c132) s
noncomputable def r7_Merged.fr_l2 (x2 : List (Int)) (x3 : List (List (Int))) : St := ⟨(((List.replicate 92 V.un).set 2 (V.ref 500002 0 0 (List.length x2))).set 3 (V.ref 500003 0 0 (List.length x3))), [⟨500003, 0, .arr 32 (.sl 3 (.int .i64)) x3⟩, ⟨500002, 0, .arr 3 (.int .i64) x2⟩]⟩
noncomputable def r7_Merged.M_l4 (c132 : r7_inTail.E) (k n : Nat) (m0 : Nat) (s : St) : Option ((List (Int)) × (List (List (Int)))) := atLoop (r7_Merged.C c132) k n [1, 1, 1, 1, 0, 0, 0, 1, 0, 1, 0, 1, 0] [m0] r7_Merged.code (r7_Merged.fin c132) s
noncomputable def r7_Merged.fr_l4 (x2 : List (Int)) (x3 : List (List (Int))) (x7 : Int) (x8 : Bool) (x42 : Int) (x43 : Int) : St := ⟨((((((((List.replicate 92 V.un).set 2 (V.ref 500002 0 0 (List.length x2))).set 3 (V.ref 500003 0 0 (List.length x3))).set 7 (V.dat (.int .i64) x7)).set 8 (V.dat .bool x8)).set 41 (V.ref 500003 0 0 (List.length x3))).set 42 (V.dat (.int .i64) x42)).set 43 (V.dat (.int .i64) x43)), [⟨500003, 0, .arr 32 (.sl 3 (.int .i64)) x3⟩, ⟨500002, 0, .arr 3 (.int .i64) x2⟩]⟩
noncomputable def r7_Merged.M_l6 (c132 : r7_inTail.E) (k n : Nat) (m0 : Nat) (s : St) : Option ((List (Int)) × (List (List (Int)))) := atLoop (r7_Merged.C c132) k n [1, 1, 1, 1, 0, 0, 0, 1, 0, 1, 1, 1, 1, 1, 0, 1, 0] [m0] r7_Merged.code (r7_Merged.fin c132) s
noncomputable def r7_Merged.fr_l6 (x2 : List (Int)) (x7 : Int) (x11 : List (List (Int))) (x69 : List (List (Int))) (x70 : Int) (x71 : Int) : St := ⟨(((((((List.replicate 92 V.un).set 2 (V.ref 500002 0 0 (List.length x2))).set 7 (V.dat (.int .i64) x7)).set 11 (V.ref 500011 0 0 (List.length x11))).set 69 (V.ref 500069 0 0 (List.length x69))).set 70 (V.dat (.int .i64) x70)).set 71 (V.dat (.int .i64) x71)), [⟨500069, 0, .arr 32 (.sl 3 (.int .i64)) x69⟩, ⟨500011, 0, .arr 32 (.sl 3 (.int .i64)) x11⟩, ⟨500002, 0, .arr 3 (.int .i64) x2⟩]⟩
noncomputable def r7_Merged.M_g27 (c132 : r7_inTail.E) (k : Nat) (m0 : Nat) (m1 : Nat) (s : St) : Option ((List (Int)) × (List (List (Int)))) := atGate (r7_Merged.C c132) k [1, 1, 1, 1, 0, 0, 0, 1, 0, 1, 1, 1, 1, 1, 0, 1, 0, 0, 1, 1, 0, 0, 1, 1, 1, 0] [m0, m1] r7_Merged.code (r7_Merged.fin c132) s
noncomputable def r7_Merged.fr_g27 (x2 : List (Int)) (x7 : Int) (x11 : List (List (Int))) (x13 : List (Int)) (x69 : List (List (Int))) (x70 : Int) (x71 : Int) : St := ⟨((((((((List.replicate 92 V.un).set 2 (V.ref 500002 0 0 (List.length x2))).set 7 (V.dat (.int .i64) x7)).set 11 (V.ref 500011 0 0 (List.length x11))).set 13 (V.dat (.sl 3 (.int .i64)) x13)).set 69 (V.ref 500069 0 0 (List.length x69))).set 70 (V.dat (.int .i64) x70)).set 71 (V.dat (.int .i64) x71)), [⟨500069, 0, .arr 32 (.sl 3 (.int .i64)) x69⟩, ⟨500011, 0, .arr 32 (.sl 3 (.int .i64)) x11⟩, ⟨500002, 0, .arr 3 (.int .i64) x2⟩]⟩
theorem r7_Merged.r (c132 : r7_inTail.E) (k : Nat) (a0 : List (List (Int))) : fn (r7_Merged.C c132) k Tryz.f116 r7_Merged.A r7_Merged.R a0 = r7_Merged.b c132 (fun x2 x3 x4 x14 x15 x16 => r7_Merged.M_l0 c132 k k  (r7_Merged.fr_l0 x2 x3 x4 x14 x15 x16)) a0 := by kernel_rfl
theorem r7_Merged.z_l0 (c132 : r7_inTail.E) (k : Nat)  (s : St) : r7_Merged.M_l0 c132 k 0  s = none := by kernel_rfl
theorem r7_Merged.r_l0 (c132 : r7_inTail.E) (k n : Nat)  (x2 : List (Int)) (x3 : List (List (Int))) (x4 : List (Int)) (x14 : List (List (Int))) (x15 : Int) (x16 : Int) : r7_Merged.M_l0 c132 k (n + 1)  (r7_Merged.fr_l0 x2 x3 x4 x14 x15 x16) = r7_Merged.b_l0 c132 (fun x2 x3 x4 x14 x15 x16 => r7_Merged.M_l0 c132 k n  (r7_Merged.fr_l0 x2 x3 x4 x14 x15 x16)) (fun x2 x3 => r7_Merged.M_l2 c132 k k  (r7_Merged.fr_l2 x2 x3)) x2 x3 x4 x14 x15 x16 := by kernel_rfl
theorem r7_Merged.z_l2 (c132 : r7_inTail.E) (k : Nat)  (s : St) : r7_Merged.M_l2 c132 k 0  s = none := by kernel_rfl
theorem r7_Merged.r_l2 (c132 : r7_inTail.E) (k n : Nat)  (x2 : List (Int)) (x3 : List (List (Int))) : r7_Merged.M_l2 c132 k (n + 1)  (r7_Merged.fr_l2 x2 x3) = r7_Merged.b_l2 c132 (fun x2 x3 x7 x8 x42 x43 => r7_Merged.M_l4 c132 k k n (r7_Merged.fr_l4 x2 x3 x7 x8 x42 x43)) x2 x3 := by kernel_rfl
theorem r7_Merged.z_l4 (c132 : r7_inTail.E) (k : Nat) (m0 : Nat) (s : St) : r7_Merged.M_l4 c132 k 0 m0 s = none := by kernel_rfl
theorem r7_Merged.r_l4 (c132 : r7_inTail.E) (k n : Nat) (m0 : Nat) (x2 : List (Int)) (x3 : List (List (Int))) (x7 : Int) (x8 : Bool) (x42 : Int) (x43 : Int) : r7_Merged.M_l4 c132 k (n + 1) m0 (r7_Merged.fr_l4 x2 x3 x7 x8 x42 x43) = r7_Merged.b_l4 c132 (fun x2 x3 x7 x8 x42 x43 => r7_Merged.M_l4 c132 k n m0 (r7_Merged.fr_l4 x2 x3 x7 x8 x42 x43)) (fun x2 x7 x11 x69 x70 x71 => r7_Merged.M_l6 c132 k k m0 (r7_Merged.fr_l6 x2 x7 x11 x69 x70 x71)) x2 x3 x7 x8 x42 x43 := by kernel_rfl
theorem r7_Merged.z_l6 (c132 : r7_inTail.E) (k : Nat) (m0 : Nat) (s : St) : r7_Merged.M_l6 c132 k 0 m0 s = none := by kernel_rfl
theorem r7_Merged.r_l6 (c132 : r7_inTail.E) (k n : Nat) (m0 : Nat) (x2 : List (Int)) (x7 : Int) (x11 : List (List (Int))) (x69 : List (List (Int))) (x70 : Int) (x71 : Int) : r7_Merged.M_l6 c132 k (n + 1) m0 (r7_Merged.fr_l6 x2 x7 x11 x69 x70 x71) = r7_Merged.b_l6 c132 (fun x2 x7 x11 x13 x69 x70 x71 => r7_Merged.M_g27 c132 k  m0 n (r7_Merged.fr_g27 x2 x7 x11 x13 x69 x70 x71)) (fun x2 x7 x11 x69 x70 x71 => r7_Merged.M_l6 c132 k n m0 (r7_Merged.fr_l6 x2 x7 x11 x69 x70 x71)) (fun x2 x3 => r7_Merged.M_l2 c132 k m0  (r7_Merged.fr_l2 x2 x3)) x2 x7 x11 x69 x70 x71 := by kernel_rfl
theorem r7_Merged.r_g27 (c132 : r7_inTail.E) (k : Nat) (m0 : Nat) (m1 : Nat) (x2 : List (Int)) (x7 : Int) (x11 : List (List (Int))) (x13 : List (Int)) (x69 : List (List (Int))) (x70 : Int) (x71 : Int) : r7_Merged.M_g27 c132 k m0 m1 (r7_Merged.fr_g27 x2 x7 x11 x13 x69 x70 x71) = gate k (r7_Merged.b_g27 c132 (fun x2 x7 x11 x69 x70 x71 => r7_Merged.M_l6 c132 k m1 m0 (r7_Merged.fr_l6 x2 x7 x11 x69 x70 x71)) x2 x7 x11 x13 x69 x70 x71) := by kernel_rfl
theorem r7_Merged.e_g27 (c132 : r7_inTail.E) (k : Nat) (m0 : Nat) (m1 : Nat) (x2 : List (Int)) (x7 : Int) (x11 : List (List (Int))) (x13 : List (Int)) (x69 : List (List (Int))) (x70 : Int) (x71 : Int) : r7_Merged.M_g27 c132 k m0 m1 (r7_Merged.fr_g27 x2 x7 x11 x13 x69 x70 x71) = r7_Merged.g27 c132 k (fun x2 x3 => r7_Merged.M_l2 c132 k m0  (r7_Merged.fr_l2 x2 x3)) (fun x2 x7 x11 x69 x70 x71 => r7_Merged.M_l6 c132 k m1 m0 (r7_Merged.fr_l6 x2 x7 x11 x69 x70 x71)) x2 x7 x11 x13 x69 x70 x71 := by
  rw [r7_Merged.r_g27]
  rfl
theorem r7_Merged.e_l6 (c132 : r7_inTail.E) (k n : Nat) (m0 : Nat) (x2 : List (Int)) (x7 : Int) (x11 : List (List (Int))) (x69 : List (List (Int))) (x70 : Int) (x71 : Int) : r7_Merged.M_l6 c132 k n m0 (r7_Merged.fr_l6 x2 x7 x11 x69 x70 x71) = r7_Merged.l6 c132 k (fun x2 x3 => r7_Merged.M_l2 c132 k m0  (r7_Merged.fr_l2 x2 x3)) n x2 x7 x11 x69 x70 x71 := by
  induction n generalizing x2 x7 x11 x69 x70 x71 with
  | zero => rw [r7_Merged.z_l6]; rfl
  | succ n ih =>
    rw [r7_Merged.r_l6]
    simp only [r7_Merged.e_g27, ih]
    rfl
theorem r7_Merged.e_l4 (c132 : r7_inTail.E) (k n : Nat) (m0 : Nat) (x2 : List (Int)) (x3 : List (List (Int))) (x7 : Int) (x8 : Bool) (x42 : Int) (x43 : Int) : r7_Merged.M_l4 c132 k n m0 (r7_Merged.fr_l4 x2 x3 x7 x8 x42 x43) = r7_Merged.l4 c132 k (fun x2 x3 => r7_Merged.M_l2 c132 k m0  (r7_Merged.fr_l2 x2 x3)) n x2 x3 x7 x8 x42 x43 := by
  induction n generalizing x2 x3 x7 x8 x42 x43 with
  | zero => rw [r7_Merged.z_l4]; rfl
  | succ n ih =>
    rw [r7_Merged.r_l4]
    simp only [r7_Merged.e_l6, ih]
    rfl
theorem r7_Merged.e_l2 (c132 : r7_inTail.E) (k n : Nat)  (x2 : List (Int)) (x3 : List (List (Int))) : r7_Merged.M_l2 c132 k n  (r7_Merged.fr_l2 x2 x3) = r7_Merged.l2 c132 k  n x2 x3 := by
  induction n generalizing x2 x3 with
  | zero => rw [r7_Merged.z_l2]; rfl
  | succ n ih =>
    rw [r7_Merged.r_l2]
    simp only [r7_Merged.e_l4, ih]
    rfl
theorem r7_Merged.e_l0 (c132 : r7_inTail.E) (k n : Nat)  (x2 : List (Int)) (x3 : List (List (Int))) (x4 : List (Int)) (x14 : List (List (Int))) (x15 : Int) (x16 : Int) : r7_Merged.M_l0 c132 k n  (r7_Merged.fr_l0 x2 x3 x4 x14 x15 x16) = r7_Merged.l0 c132 k  n x2 x3 x4 x14 x15 x16 := by
  induction n generalizing x2 x3 x4 x14 x15 x16 with
  | zero => rw [r7_Merged.z_l0]; rfl
  | succ n ih =>
    rw [r7_Merged.r_l0]
    simp only [r7_Merged.e_l2, ih]
    rfl
theorem r7_Merged.e (c132 : r7_inTail.E) (k : Nat) (a0 : List (List (Int))) : fn (r7_Merged.C c132) k Tryz.f116 r7_Merged.A r7_Merged.R a0 = r7_Merged.f c132 k a0 := by
  rw [r7_Merged.r]
  simp only [r7_Merged.e_l0]
  rfl
theorem r7_Merged.ty (c132 : r7_inTail.E) : TyOk Tryz.prog (r7_Merged.C c132) := tyOk_of (by kernel_rfl)
def r7_Merged.u (k : Nat) : r7_Merged.E := fun y => r7_Merged.f (r7_inTail.u k) k y
theorem r7_Merged.sound (k : Nat) : Sound Tryz.prog ⟨116, r7_Merged.A, r7_Merged.R, r7_Merged.u k⟩ := by
  have h := fn_sound (k := k) («as» := r7_Merged.A) (rs := r7_Merged.R) (r7_Merged.ty (r7_inTail.u k)) (fun E h => by
    simp only [r7_Merged.C, List.mem_cons, List.not_mem_nil, or_false] at h
    rcases h with rfl
    · exact r7_inTail.sound k) mixed Tryz.func116 (by kernel_rfl) (by kernel_rfl)
  have e : fn (r7_Merged.C (r7_inTail.u k)) k Tryz.f116 r7_Merged.A r7_Merged.R = r7_Merged.u k := by
    funext y
    exact r7_Merged.e (r7_inTail.u k) k y
  rw [e] at h
  exact h
/-! ### brindlewood/brindlewoodref7.Order: f98 -/
abbrev r7_Order.A : List Sh := [(.d (.sl 32 (.sl 3 (.int .i64))))]
abbrev r7_Order.R : List Sh := [(.d (.sl 3 (.int .i64))), (.d Y_Fault)]
abbrev r7_Order.E : Type := (List (List (Int))) → Option ((List (Int)) × X_acceptRange)
def r7_Order.C (c115 : r7_OrdersFault.E) (c116 : r7_Merged.E) (c64 : r7_At.E) : Ctx := { ty := [(3, (.int .i64)), (32, (.sl 3 (.int .i64))), (64, Y_Fault), (120, (.sl 32 (.sl 3 (.int .i64))))], nf := [(64, 2)], by_ := [(3, 8), (32, 24)], env := [⟨115, r7_OrdersFault.A, r7_OrdersFault.R, c115⟩, ⟨116, r7_Merged.A, r7_Merged.R, c116⟩, ⟨64, r7_At.A, r7_At.R, c64⟩], spec := [] }
noncomputable def r7_Order.code : Code := Func.code Tryz.f98
noncomputable def r7_Order.fin (c115 : r7_OrdersFault.E) (c116 : r7_Merged.E) (c64 : r7_At.E) := kfin (r7_Order.C c115 c116 c64) Tryz.f98 r7_Order.A r7_Order.R
def r7_Order.b (c115 : r7_OrdersFault.E) (c116 : r7_Merged.E) (c64 : r7_At.E)  (a0 : List (List (Int))) : Option ((List (Int)) × X_acceptRange) :=
  (c115 a0).bind fun y1 =>
    bif (y1.1 != (0 : Int)) then
      some (([] : List (Int)), y1)
    else
      (c116 a0).bind fun y2 =>
        bif (decide (((List.length y2.2) : Int) > (0 : Int))) then
          (c64 ((19 : Int), (-1 : Int))).bind fun y3 =>
            some (([] : List (Int)), y3)
        else
          bif (decide (((List.length y2.1) : Int) ≥ (40 : Int))) then
            (c64 ((14 : Int), (-1 : Int))).bind fun y4 =>
              some (([] : List (Int)), y4)
          else
            some (y2.1, ((0 : Int), (0 : Int)))
def r7_Order.c (c115 : r7_OrdersFault.E) (c116 : r7_Merged.E) (c64 : r7_At.E)  (a0 : List (List (Int))) : Option ((List (Int)) × X_acceptRange) :=
  (c115 a0).bind fun y1 =>
    bif (y1.1 != (0 : Int)) then
      some (([] : List Int), y1)
    else
      (c116 a0).bind fun y2 =>
        bif (decide (((List.length y2.2) : Int) > (0 : Int))) then
          (c64 ((19 : Int), (-1 : Int))).bind fun y3 =>
            some (([] : List Int), y3)
        else
          bif (decide (((List.length y2.1) : Int) ≥ (40 : Int))) then
            (c64 ((14 : Int), (-1 : Int))).bind fun y4 =>
              some (([] : List Int), y4)
          else
            some (y2.1, ((0 : Int), (0 : Int)))
theorem r7_Order.q (c115 : r7_OrdersFault.E) (c116 : r7_Merged.E) (c64 : r7_At.E)  (a0 : List (List (Int))) : r7_Order.b c115 c116 c64 a0 = r7_Order.c c115 c116 c64 a0 := by
  simp only [r7_Order.b, r7_Order.c, List.take_length, take_one, Nat.zero_add, Int.toNat_natCast, Int.toNat_zero, List.drop_zero, List.append_eq, Nat.le_refl, Int.le_refl, true_and, and_true, zero_le_one, if_true, prod_eta, Int.natCast_zero]
def r7_Order.f (c115 : r7_OrdersFault.E) (c116 : r7_Merged.E) (c64 : r7_At.E) (k : Nat) (a0 : List (List (Int))) : Option ((List (Int)) × X_acceptRange) := r7_Order.b c115 c116 c64  a0
theorem r7_Order.r (c115 : r7_OrdersFault.E) (c116 : r7_Merged.E) (c64 : r7_At.E) (k : Nat) (a0 : List (List (Int))) : fn (r7_Order.C c115 c116 c64) k Tryz.f98 r7_Order.A r7_Order.R a0 = r7_Order.b c115 c116 c64  a0 := by kernel_rfl
theorem r7_Order.e (c115 : r7_OrdersFault.E) (c116 : r7_Merged.E) (c64 : r7_At.E) (k : Nat) (a0 : List (List (Int))) : fn (r7_Order.C c115 c116 c64) k Tryz.f98 r7_Order.A r7_Order.R a0 = r7_Order.f c115 c116 c64 k a0 := by
  rw [r7_Order.r]
  rfl
theorem r7_Order.ty (c115 : r7_OrdersFault.E) (c116 : r7_Merged.E) (c64 : r7_At.E) : TyOk Tryz.prog (r7_Order.C c115 c116 c64) := tyOk_of (by kernel_rfl)
def r7_Order.u (k : Nat) : r7_Order.E := fun y => r7_Order.f (r7_OrdersFault.u k) (r7_Merged.u k) (r7_At.u k) k y
theorem r7_Order.sound (k : Nat) : Sound Tryz.prog ⟨98, r7_Order.A, r7_Order.R, r7_Order.u k⟩ := by
  have h := fn_sound (k := k) («as» := r7_Order.A) (rs := r7_Order.R) (r7_Order.ty (r7_OrdersFault.u k) (r7_Merged.u k) (r7_At.u k)) (fun E h => by
    simp only [r7_Order.C, List.mem_cons, List.not_mem_nil, or_false] at h
    rcases h with rfl | rfl | rfl
    · exact r7_OrdersFault.sound k
    · exact r7_Merged.sound k
    · exact r7_At.sound k) mixed Tryz.func98 (by kernel_rfl) (by kernel_rfl)
  have e : fn (r7_Order.C (r7_OrdersFault.u k) (r7_Merged.u k) (r7_At.u k)) k Tryz.f98 r7_Order.A r7_Order.R = r7_Order.u k := by
    funext y
    exact r7_Order.e (r7_OrdersFault.u k) (r7_Merged.u k) (r7_At.u k) k y
  rw [e] at h
  exact h
/-! ### brindlewood/brindlewoodref7.orderOk: f71 -/
abbrev r7_orderOk.A : List Sh := [(.d Y_Heap), (.d (.int .i64))]
abbrev r7_orderOk.R : List Sh := [(.d .bool)]
abbrev r7_orderOk.E : Type := ((List X_Object) × (Int)) → Option (Bool)
def r7_orderOk.C (c98 : r7_Order.E) (c78 : r7_Ints.E) : Ctx := { ty := [(3, (.int .i64)), (22, (.sl 36 Y_Object)), (24, Y_Heap), (32, (.sl 3 (.int .i64))), (36, Y_Object), (64, Y_Fault), (120, (.sl 32 (.sl 3 (.int .i64))))], nf := [(24, 1), (36, 10), (64, 2)], by_ := [(3, 8), (32, 24), (36, 168)], env := [⟨98, r7_Order.A, r7_Order.R, c98⟩, ⟨78, r7_Ints.A, r7_Ints.R, c78⟩], spec := [(0, [.d 1 (.int .i64), .bx 2 600002 (.d Y_Heap), .bx 5 600005 (.d Y_Object), .o 6 500006 32 (.sl 3 (.int .i64)), .d 20 (.sl 3 (.int .i64)), .d 21 (.int .i64), .d 22 (.int .i64)])] }
noncomputable def r7_orderOk.code : Code := Func.code Tryz.f71
noncomputable def r7_orderOk.fin (c98 : r7_Order.E) (c78 : r7_Ints.E) := kfin (r7_orderOk.C c98 c78) Tryz.f71 r7_orderOk.A r7_orderOk.R
def r7_orderOk.b (c98 : r7_Order.E) (c78 : r7_Ints.E) (r_l0 : (Int) → (List X_Object) → X_Object → (List (List (Int))) → (List (Int)) → (Int) → (Int) → Option (Bool)) (a0 : List X_Object) (a1 : Int) : Option (Bool) :=
  if 0 ≤ a1 ∧ a1 < ((List.length a0) : Int) then
    bif (((List.getD a0 (Int.toNat a1) Z_Object).1) != (9 : Int)) then
      some true
    else
      r_l0 a1 a0 (List.getD a0 (Int.toNat a1) Z_Object) ([] : List (List (Int))) (((((List.getD a0 (Int.toNat a1) Z_Object).2).2).2).1) ((List.length (((((List.getD a0 (Int.toNat a1) Z_Object).2).2).2).1)) : Int) (0 : Int)
  else none
def r7_orderOk.b_l0 (c98 : r7_Order.E) (c78 : r7_Ints.E) (n_l0 : (Int) → (List X_Object) → X_Object → (List (List (Int))) → (List (Int)) → (Int) → (Int) → Option (Bool)) (x1 : Int) (x2 : List X_Object) (x5 : X_Object) (x6 : List (List (Int))) (x20 : List (Int)) (x21 : Int) (x22 : Int) : Option (Bool) :=
  bif (decide (x22 < x21)) then
    if 0 ≤ x22 ∧ x22 < ((List.length x20) : Int) then
      if 0 ≤ (List.getD x20 (Int.toNat x22) (0 : Int)) ∧ (List.getD x20 (Int.toNat x22) (0 : Int)) < ((List.length x2) : Int) then
        if (List.length x6) ≤ (List.length x6) ∧ ((List.length x6) + (List.length (List.take 1 ([(((((List.getD x2 (Int.toNat (List.getD x20 (Int.toNat x22) (0 : Int))) Z_Object).2).2).2).2).1] : List (List (Int)))))) * 24 ≤ LIM then
          n_l0 x1 x2 x5 (List.take (List.length (List.append (List.take (List.length x6) x6) (List.take 1 ([(((((List.getD x2 (Int.toNat (List.getD x20 (Int.toNat x22) (0 : Int))) Z_Object).2).2).2).2).1] : List (List (Int)))))) (List.append (List.take (List.length x6) x6) (List.take 1 ([(((((List.getD x2 (Int.toNat (List.getD x20 (Int.toNat x22) (0 : Int))) Z_Object).2).2).2).2).1] : List (List (Int)))))) x20 x21 (IntKind.i64.wrap (x22 + (1 : Int)))
        else none
      else none
    else none
  else
    (c98 (List.take (List.length x6) x6)).bind fun y1 =>
      bif (y1.2.1 == (0 : Int)) then
        if 1 ≤ (List.length ([x1] : List (Int))) ∧ (1 + (List.length y1.1)) * 8 ≤ LIM then
          (c78 (x5.2.2.2.2.1, (List.take (List.length (List.append (List.take 1 ([x1] : List (Int))) y1.1)) (List.append (List.take 1 ([x1] : List (Int))) y1.1)))).bind fun y2 =>
            some y2
        else none
      else
        some false
def r7_orderOk.c (c98 : r7_Order.E) (c78 : r7_Ints.E) (r_l0 : (Int) → (List X_Object) → X_Object → (List (List (Int))) → (List (Int)) → (Int) → (Int) → Option (Bool)) (a0 : List X_Object) (a1 : Int) : Option (Bool) :=
  if 0 ≤ a1 ∧ a1 < ((List.length a0) : Int) then
    bif (((List.getD a0 (Int.toNat a1) Z_Object).1) != (9 : Int)) then
      some true
    else
      r_l0 a1 a0 (List.getD a0 (Int.toNat a1) Z_Object) ([] : List (List Int)) (((((List.getD a0 (Int.toNat a1) Z_Object).2).2).2).1) ((List.length (((((List.getD a0 (Int.toNat a1) Z_Object).2).2).2).1)) : Int) (0 : Int)
  else none
theorem r7_orderOk.q (c98 : r7_Order.E) (c78 : r7_Ints.E) (r_l0 : (Int) → (List X_Object) → X_Object → (List (List (Int))) → (List (Int)) → (Int) → (Int) → Option (Bool)) (a0 : List X_Object) (a1 : Int) : r7_orderOk.b c98 c78 r_l0 a0 a1 = r7_orderOk.c c98 c78 r_l0 a0 a1 := by
  simp only [r7_orderOk.b, r7_orderOk.c, List.take_length, take_one, Nat.zero_add, Int.toNat_natCast, Int.toNat_zero, List.drop_zero, List.append_eq, Nat.le_refl, Int.le_refl, true_and, and_true, zero_le_one, if_true, prod_eta, Int.natCast_zero]
def r7_orderOk.c_l0 (c98 : r7_Order.E) (c78 : r7_Ints.E) (n_l0 : (Int) → (List X_Object) → X_Object → (List (List (Int))) → (List (Int)) → (Int) → (Int) → Option (Bool)) (x1 : Int) (x2 : List X_Object) (x5 : X_Object) (x6 : List (List (Int))) (x20 : List (Int)) (x21 : Int) (x22 : Int) : Option (Bool) :=
  bif (decide (x22 < x21)) then
    if 0 ≤ x22 ∧ x22 < ((List.length x20) : Int) then
      if 0 ≤ (List.getD x20 (Int.toNat x22) (0 : Int)) ∧ (List.getD x20 (Int.toNat x22) (0 : Int)) < ((List.length x2) : Int) then
        if ((List.length x6) + (List.length ([(((((List.getD x2 (Int.toNat (List.getD x20 (Int.toNat x22) (0 : Int))) Z_Object).2).2).2).2).1] : List (List Int)))) * 24 ≤ LIM then
          n_l0 x1 x2 x5 (x6 ++ ([(((((List.getD x2 (Int.toNat (List.getD x20 (Int.toNat x22) (0 : Int))) Z_Object).2).2).2).2).1] : List (List Int))) x20 x21 (IntKind.i64.wrap (x22 + (1 : Int)))
        else none
      else none
    else none
  else
    (c98 x6).bind fun y1 =>
      bif (y1.2.1 == (0 : Int)) then
        if 1 ≤ (List.length ([x1] : List Int)) ∧ (1 + (List.length y1.1)) * 8 ≤ LIM then
          (c78 (x5.2.2.2.2.1, (([x1] : List Int) ++ y1.1))).bind fun y2 =>
            some y2
        else none
      else
        some false
theorem r7_orderOk.q_l0 (c98 : r7_Order.E) (c78 : r7_Ints.E) (n_l0 : (Int) → (List X_Object) → X_Object → (List (List (Int))) → (List (Int)) → (Int) → (Int) → Option (Bool)) (x1 : Int) (x2 : List X_Object) (x5 : X_Object) (x6 : List (List (Int))) (x20 : List (Int)) (x21 : Int) (x22 : Int) : r7_orderOk.b_l0 c98 c78 n_l0 x1 x2 x5 x6 x20 x21 x22 = r7_orderOk.c_l0 c98 c78 n_l0 x1 x2 x5 x6 x20 x21 x22 := by
  simp only [r7_orderOk.b_l0, r7_orderOk.c_l0, List.take_length, take_one, Nat.zero_add, Int.toNat_natCast, Int.toNat_zero, List.drop_zero, List.append_eq, Nat.le_refl, Int.le_refl, true_and, and_true, zero_le_one, if_true, prod_eta, Int.natCast_zero]
def r7_orderOk.l0 (c98 : r7_Order.E) (c78 : r7_Ints.E) (k : Nat)  : Nat → (Int) → (List X_Object) → X_Object → (List (List (Int))) → (List (Int)) → (Int) → (Int) → Option (Bool)
  | 0, _, _, _, _, _, _, _ => none
  | n + 1, x1, x2, x5, x6, x20, x21, x22 => r7_orderOk.b_l0 c98 c78 (fun x1 x2 x5 x6 x20 x21 x22 => r7_orderOk.l0 c98 c78 k  n x1 x2 x5 x6 x20 x21 x22) x1 x2 x5 x6 x20 x21 x22
def r7_orderOk.f (c98 : r7_Order.E) (c78 : r7_Ints.E) (k : Nat) (a0 : List X_Object) (a1 : Int) : Option (Bool) := r7_orderOk.b c98 c78 (r7_orderOk.l0 c98 c78 k k) a0 a1
noncomputable def r7_orderOk.M_l0 (c98 : r7_Order.E) (c78 : r7_Ints.E) (k n : Nat)  (s : St) : Option (Bool) := atLoop (r7_orderOk.C c98 c78) k n [1, 1, 1, 1, 0, 1, 0] [] r7_orderOk.code (r7_orderOk.fin c98 c78) s
noncomputable def r7_orderOk.fr_l0 (x1 : Int) (x2 : List X_Object) (x5 : X_Object) (x6 : List (List (Int))) (x20 : List (Int)) (x21 : Int) (x22 : Int) : St := ⟨((((((((List.replicate 53 V.un).set 1 (V.dat (.int .i64) x1)).set 2 (V.bp 600002 0 [])).set 5 (V.bp 600005 0 [])).set 6 (V.ref 500006 0 0 (List.length x6))).set 20 (V.dat (.sl 3 (.int .i64)) x20)).set 21 (V.dat (.int .i64) x21)).set 22 (V.dat (.int .i64) x22)), [⟨500006, 0, .arr 32 (.sl 3 (.int .i64)) x6⟩, ⟨600005, 0, .box (V.dat Y_Object x5)⟩, ⟨600002, 0, .box (V.dat Y_Heap x2)⟩]⟩
theorem r7_orderOk.r (c98 : r7_Order.E) (c78 : r7_Ints.E) (k : Nat) (a0 : List X_Object) (a1 : Int) : fn (r7_orderOk.C c98 c78) k Tryz.f71 r7_orderOk.A r7_orderOk.R (a0, a1) = r7_orderOk.b c98 c78 (fun x1 x2 x5 x6 x20 x21 x22 => r7_orderOk.M_l0 c98 c78 k k  (r7_orderOk.fr_l0 x1 x2 x5 x6 x20 x21 x22)) a0 a1 := by kernel_rfl
theorem r7_orderOk.z_l0 (c98 : r7_Order.E) (c78 : r7_Ints.E) (k : Nat)  (s : St) : r7_orderOk.M_l0 c98 c78 k 0  s = none := by kernel_rfl
theorem r7_orderOk.r_l0 (c98 : r7_Order.E) (c78 : r7_Ints.E) (k n : Nat)  (x1 : Int) (x2 : List X_Object) (x5 : X_Object) (x6 : List (List (Int))) (x20 : List (Int)) (x21 : Int) (x22 : Int) : r7_orderOk.M_l0 c98 c78 k (n + 1)  (r7_orderOk.fr_l0 x1 x2 x5 x6 x20 x21 x22) = r7_orderOk.b_l0 c98 c78 (fun x1 x2 x5 x6 x20 x21 x22 => r7_orderOk.M_l0 c98 c78 k n  (r7_orderOk.fr_l0 x1 x2 x5 x6 x20 x21 x22)) x1 x2 x5 x6 x20 x21 x22 := by kernel_rfl
theorem r7_orderOk.e_l0 (c98 : r7_Order.E) (c78 : r7_Ints.E) (k n : Nat)  (x1 : Int) (x2 : List X_Object) (x5 : X_Object) (x6 : List (List (Int))) (x20 : List (Int)) (x21 : Int) (x22 : Int) : r7_orderOk.M_l0 c98 c78 k n  (r7_orderOk.fr_l0 x1 x2 x5 x6 x20 x21 x22) = r7_orderOk.l0 c98 c78 k  n x1 x2 x5 x6 x20 x21 x22 := by
  induction n generalizing x1 x2 x5 x6 x20 x21 x22 with
  | zero => rw [r7_orderOk.z_l0]; rfl
  | succ n ih =>
    rw [r7_orderOk.r_l0]
    simp only [ih]
    rfl
theorem r7_orderOk.e (c98 : r7_Order.E) (c78 : r7_Ints.E) (k : Nat) (a0 : List X_Object) (a1 : Int) : fn (r7_orderOk.C c98 c78) k Tryz.f71 r7_orderOk.A r7_orderOk.R (a0, a1) = r7_orderOk.f c98 c78 k a0 a1 := by
  rw [r7_orderOk.r]
  simp only [r7_orderOk.e_l0]
  rfl
theorem r7_orderOk.ty (c98 : r7_Order.E) (c78 : r7_Ints.E) : TyOk Tryz.prog (r7_orderOk.C c98 c78) := tyOk_of (by kernel_rfl)
def r7_orderOk.u (k : Nat) : r7_orderOk.E := fun y => r7_orderOk.f (r7_Order.u k) (r7_Ints.u k) k y.1 y.2
theorem r7_orderOk.sound (k : Nat) : Sound Tryz.prog ⟨71, r7_orderOk.A, r7_orderOk.R, r7_orderOk.u k⟩ := by
  have h := fn_sound (k := k) («as» := r7_orderOk.A) (rs := r7_orderOk.R) (r7_orderOk.ty (r7_Order.u k) (r7_Ints.u k)) (fun E h => by
    simp only [r7_orderOk.C, List.mem_cons, List.not_mem_nil, or_false] at h
    rcases h with rfl | rfl
    · exact r7_Order.sound k
    · exact r7_Ints.sound k) mixed Tryz.func71 (by kernel_rfl) (by kernel_rfl)
  have e : fn (r7_orderOk.C (r7_Order.u k) (r7_Ints.u k)) k Tryz.f71 r7_orderOk.A r7_orderOk.R = r7_orderOk.u k := by
    funext y
    exact r7_orderOk.e (r7_Order.u k) (r7_Ints.u k) k y.1 y.2
  rw [e] at h
  exact h
end
end Go.Ab
