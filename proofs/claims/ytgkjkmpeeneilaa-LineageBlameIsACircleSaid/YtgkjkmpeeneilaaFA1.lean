/- A part of the proof: FA1. -/
import Derived.Test.YtgkjkmpeeneilaaFTy
namespace Go.Ab
set_option linter.unusedVariables false
set_option linter.unusedSimpArgs false
set_option maxRecDepth 100000
noncomputable section
open Go.Proofs
/-! ### brindlewood/arguments.fault: f30 -/
abbrev f_arguments_fault.A : List Sh := [(.d (.int .i64)), (.d (.int .i64))]
abbrev f_arguments_fault.R : List Sh := [(.d Y_Fault)]
abbrev f_arguments_fault.E : Type := X_Fault → Option X_Fault
def f_arguments_fault.C  : Ctx := { ty := [(27, Y_Fault)], nf := [(27, 2)], by_ := [], env := [], spec := [] }
noncomputable def f_arguments_fault.code : Code := Func.code Try.f30
noncomputable def f_arguments_fault.fin  := kfin (f_arguments_fault.C ) Try.f30 f_arguments_fault.A f_arguments_fault.R
def f_arguments_fault.b   (a0 : Int) (a1 : Int) : Option X_Fault :=
  some (a0, a1)
def f_arguments_fault.f  (k : Nat) (a0 : Int) (a1 : Int) : Option X_Fault := f_arguments_fault.b   a0 a1
theorem f_arguments_fault.r  (k : Nat) (a0 : Int) (a1 : Int) : fn (f_arguments_fault.C ) k Try.f30 f_arguments_fault.A f_arguments_fault.R (a0, a1) = f_arguments_fault.b   a0 a1 := by kernel_rfl
theorem f_arguments_fault.e  (k : Nat) (a0 : Int) (a1 : Int) : fn (f_arguments_fault.C ) k Try.f30 f_arguments_fault.A f_arguments_fault.R (a0, a1) = f_arguments_fault.f  k a0 a1 := by
  rw [f_arguments_fault.r]
  rfl
def f_arguments_fault.u (k : Nat) : f_arguments_fault.E := fun y => f_arguments_fault.f  k y.1 y.2
theorem f_arguments_fault.ty  : TyOk Try.prog (f_arguments_fault.C ) := tyOk_of (by kernel_rfl)
theorem f_arguments_fault.sound (k : Nat) : Sound Try.prog ⟨30, f_arguments_fault.A, f_arguments_fault.R, f_arguments_fault.u k⟩ := by
  have h := fn_sound (k := k) («as» := f_arguments_fault.A) (rs := f_arguments_fault.R) (f_arguments_fault.ty ) (fun E h => by cases h) mixed Try.func30 (by kernel_rfl) (by kernel_rfl)
  have e : fn (f_arguments_fault.C ) k Try.f30 f_arguments_fault.A f_arguments_fault.R = f_arguments_fault.u k := by
    funext y
    exact f_arguments_fault.e  k y.1 y.2
  rw [e] at h
  exact h
/-! ### slices.IndexFunc[[]byte,byte]: f81 -/
abbrev f_slices_IndexFunc_byte.A : List Sh := [(.d (.sl 5 (.int .u8))), (.fn (.pair (.int .u8) .unit) .bool)]
abbrev f_slices_IndexFunc_byte.R : List Sh := [(.d (.int .i64))]
abbrev f_slices_IndexFunc_byte.E : Type := ((List (Int)) × (((Int) × (Unit)) → Option (Bool))) → Option (Int)
def f_slices_IndexFunc_byte.C  : Ctx := { ty := [(3, (.int .i64)), (5, (.int .u8)), (93, (.sl 5 (.int .u8)))], nf := [], by_ := [(5, 1)], env := [], spec := [(0, [.d 0 (.sl 5 (.int .u8)), .cp 1, .d 7 (.int .i64), .d 8 (.int .i64)])] }
noncomputable def f_slices_IndexFunc_byte.code : Code := Func.code Try.f81
noncomputable def f_slices_IndexFunc_byte.fin  := kfin (f_slices_IndexFunc_byte.C ) Try.f81 f_slices_IndexFunc_byte.A f_slices_IndexFunc_byte.R
def f_slices_IndexFunc_byte.b  (r_l0 : (List (Int)) → (((Int) × (Unit)) → Option (Bool)) → (Int) → (Int) → Option (Int)) (a0 : List (Int)) (a1 : ((Int) × (Unit)) → Option (Bool)) : Option (Int) :=
  r_l0 a0 a1 ((List.length a0) : Int) (0 : Int)
def f_slices_IndexFunc_byte.b_l0  (n_l0 : (List (Int)) → (((Int) × (Unit)) → Option (Bool)) → (Int) → (Int) → Option (Int)) (x0 : List (Int)) (x1 : ((Int) × (Unit)) → Option (Bool)) (x7 : Int) (x8 : Int) : Option (Int) :=
  bif (decide (x8 < x7)) then
    if 0 ≤ x8 ∧ x8 < ((List.length x0) : Int) then
      (x1 ((List.getD x0 (Int.toNat x8) (0 : Int)), ())).bind fun y1 =>
        bif y1 then
          some x8
        else
          n_l0 x0 x1 x7 (IntKind.i64.wrap (x8 + (1 : Int)))
    else none
  else
    some (-1 : Int)
def f_slices_IndexFunc_byte.l0  (k : Nat)  : Nat → (List (Int)) → (((Int) × (Unit)) → Option (Bool)) → (Int) → (Int) → Option (Int)
  | 0, _, _, _, _ => none
  | n + 1, x0, x1, x7, x8 => f_slices_IndexFunc_byte.b_l0  (fun x0 x1 x7 x8 => f_slices_IndexFunc_byte.l0  k  n x0 x1 x7 x8) x0 x1 x7 x8
def f_slices_IndexFunc_byte.f  (k : Nat) (a0 : List (Int)) (a1 : ((Int) × (Unit)) → Option (Bool)) : Option (Int) := f_slices_IndexFunc_byte.b  (f_slices_IndexFunc_byte.l0  k k) a0 a1
noncomputable def f_slices_IndexFunc_byte.M_l0  (k n : Nat)  (s : St) : Option (Int) := atLoop (f_slices_IndexFunc_byte.C ) k n [1, 0, 1, 0] [] f_slices_IndexFunc_byte.code (f_slices_IndexFunc_byte.fin ) s
noncomputable def f_slices_IndexFunc_byte.fr_l0 (x0 : List (Int)) (x1 : ((Int) × (Unit)) → Option (Bool)) (x7 : Int) (x8 : Int) : St := ⟨(((((List.replicate 19 V.un).set 0 (V.dat (.sl 5 (.int .u8)) x0)).set 1 (V.fnv (.pair (.int .u8) .unit) .bool x1)).set 7 (V.dat (.int .i64) x7)).set 8 (V.dat (.int .i64) x8)), []⟩
theorem f_slices_IndexFunc_byte.r  (k : Nat) (a0 : List (Int)) (a1 : ((Int) × (Unit)) → Option (Bool)) : fn (f_slices_IndexFunc_byte.C ) k Try.f81 f_slices_IndexFunc_byte.A f_slices_IndexFunc_byte.R (a0, a1) = f_slices_IndexFunc_byte.b  (fun x0 x1 x7 x8 => f_slices_IndexFunc_byte.M_l0  k k  (f_slices_IndexFunc_byte.fr_l0 x0 x1 x7 x8)) a0 a1 := by kernel_rfl
theorem f_slices_IndexFunc_byte.z_l0  (k : Nat)  (s : St) : f_slices_IndexFunc_byte.M_l0  k 0  s = none := by kernel_rfl
theorem f_slices_IndexFunc_byte.r_l0  (k n : Nat)  (x0 : List (Int)) (x1 : ((Int) × (Unit)) → Option (Bool)) (x7 : Int) (x8 : Int) : f_slices_IndexFunc_byte.M_l0  k (n + 1)  (f_slices_IndexFunc_byte.fr_l0 x0 x1 x7 x8) = f_slices_IndexFunc_byte.b_l0  (fun x0 x1 x7 x8 => f_slices_IndexFunc_byte.M_l0  k n  (f_slices_IndexFunc_byte.fr_l0 x0 x1 x7 x8)) x0 x1 x7 x8 := by kernel_rfl
theorem f_slices_IndexFunc_byte.e_l0  (k n : Nat)  (x0 : List (Int)) (x1 : ((Int) × (Unit)) → Option (Bool)) (x7 : Int) (x8 : Int) : f_slices_IndexFunc_byte.M_l0  k n  (f_slices_IndexFunc_byte.fr_l0 x0 x1 x7 x8) = f_slices_IndexFunc_byte.l0  k  n x0 x1 x7 x8 := by
  induction n generalizing x0 x1 x7 x8 with
  | zero => rw [f_slices_IndexFunc_byte.z_l0]; rfl
  | succ n ih =>
    rw [f_slices_IndexFunc_byte.r_l0]
    simp only [ih]
    rfl
theorem f_slices_IndexFunc_byte.e  (k : Nat) (a0 : List (Int)) (a1 : ((Int) × (Unit)) → Option (Bool)) : fn (f_slices_IndexFunc_byte.C ) k Try.f81 f_slices_IndexFunc_byte.A f_slices_IndexFunc_byte.R (a0, a1) = f_slices_IndexFunc_byte.f  k a0 a1 := by
  rw [f_slices_IndexFunc_byte.r]
  simp only [f_slices_IndexFunc_byte.e_l0]
  rfl
def f_slices_IndexFunc_byte.u (k : Nat) : f_slices_IndexFunc_byte.E := fun y => f_slices_IndexFunc_byte.f  k y.1 y.2
theorem f_slices_IndexFunc_byte.ty  : TyOk Try.prog (f_slices_IndexFunc_byte.C ) := tyOk_of (by kernel_rfl)
theorem f_slices_IndexFunc_byte.sound (k : Nat) : Sound Try.prog ⟨81, f_slices_IndexFunc_byte.A, f_slices_IndexFunc_byte.R, f_slices_IndexFunc_byte.u k⟩ := by
  have h := fn_sound (k := k) («as» := f_slices_IndexFunc_byte.A) (rs := f_slices_IndexFunc_byte.R) (f_slices_IndexFunc_byte.ty ) (fun E h => by cases h) mixed Try.func81 (by kernel_rfl) (by kernel_rfl)
  have e : fn (f_slices_IndexFunc_byte.C ) k Try.f81 f_slices_IndexFunc_byte.A f_slices_IndexFunc_byte.R = f_slices_IndexFunc_byte.u k := by
    funext y
    exact f_slices_IndexFunc_byte.e  k y.1 y.2
  rw [e] at h
  exact h
/-! ### slices.ContainsFunc[[]byte,byte]: f61 -/
abbrev f_slices_ContainsFunc_byte.A : List Sh := [(.d (.sl 5 (.int .u8))), (.fn (.pair (.int .u8) .unit) .bool)]
abbrev f_slices_ContainsFunc_byte.R : List Sh := [(.d .bool)]
abbrev f_slices_ContainsFunc_byte.E : Type := ((List (Int)) × (((Int) × (Unit)) → Option (Bool))) → Option (Bool)
def f_slices_ContainsFunc_byte.C (c81 : f_slices_IndexFunc_byte.E) : Ctx := { ty := [(3, (.int .i64))], nf := [], by_ := [], env := [⟨81, f_slices_IndexFunc_byte.A, f_slices_IndexFunc_byte.R, c81⟩], spec := [] }
noncomputable def f_slices_ContainsFunc_byte.code : Code := Func.code Try.f61
noncomputable def f_slices_ContainsFunc_byte.fin (c81 : f_slices_IndexFunc_byte.E) := kfin (f_slices_ContainsFunc_byte.C c81) Try.f61 f_slices_ContainsFunc_byte.A f_slices_ContainsFunc_byte.R
def f_slices_ContainsFunc_byte.b (c81 : f_slices_IndexFunc_byte.E)  (a0 : List (Int)) (a1 : ((Int) × (Unit)) → Option (Bool)) : Option (Bool) :=
  (c81 (a0, a1)).bind fun y1 =>
    some (decide (y1 ≥ (0 : Int)))
def f_slices_ContainsFunc_byte.f (c81 : f_slices_IndexFunc_byte.E) (k : Nat) (a0 : List (Int)) (a1 : ((Int) × (Unit)) → Option (Bool)) : Option (Bool) := f_slices_ContainsFunc_byte.b c81  a0 a1
theorem f_slices_ContainsFunc_byte.r (c81 : f_slices_IndexFunc_byte.E) (k : Nat) (a0 : List (Int)) (a1 : ((Int) × (Unit)) → Option (Bool)) : fn (f_slices_ContainsFunc_byte.C c81) k Try.f61 f_slices_ContainsFunc_byte.A f_slices_ContainsFunc_byte.R (a0, a1) = f_slices_ContainsFunc_byte.b c81  a0 a1 := by kernel_rfl
theorem f_slices_ContainsFunc_byte.e (c81 : f_slices_IndexFunc_byte.E) (k : Nat) (a0 : List (Int)) (a1 : ((Int) × (Unit)) → Option (Bool)) : fn (f_slices_ContainsFunc_byte.C c81) k Try.f61 f_slices_ContainsFunc_byte.A f_slices_ContainsFunc_byte.R (a0, a1) = f_slices_ContainsFunc_byte.f c81 k a0 a1 := by
  rw [f_slices_ContainsFunc_byte.r]
  rfl
def f_slices_ContainsFunc_byte.u (k : Nat) : f_slices_ContainsFunc_byte.E := fun y => f_slices_ContainsFunc_byte.f (f_slices_IndexFunc_byte.u k) k y.1 y.2
theorem f_slices_ContainsFunc_byte.ty (c81 : f_slices_IndexFunc_byte.E) : TyOk Try.prog (f_slices_ContainsFunc_byte.C c81) := tyOk_of (by kernel_rfl)
theorem f_slices_ContainsFunc_byte.sound (k : Nat) : Sound Try.prog ⟨61, f_slices_ContainsFunc_byte.A, f_slices_ContainsFunc_byte.R, f_slices_ContainsFunc_byte.u k⟩ := by
  have h := fn_sound (k := k) («as» := f_slices_ContainsFunc_byte.A) (rs := f_slices_ContainsFunc_byte.R) (f_slices_ContainsFunc_byte.ty (f_slices_IndexFunc_byte.u k)) (fun E h => by
    simp only [f_slices_ContainsFunc_byte.C, List.mem_cons, List.not_mem_nil, or_false] at h
    rcases h with rfl
    · exact f_slices_IndexFunc_byte.sound k) mixed Try.func61 (by kernel_rfl) (by kernel_rfl)
  have e : fn (f_slices_ContainsFunc_byte.C (f_slices_IndexFunc_byte.u k)) k Try.f61 f_slices_ContainsFunc_byte.A f_slices_ContainsFunc_byte.R = f_slices_ContainsFunc_byte.u k := by
    funext y
    exact f_slices_ContainsFunc_byte.e (f_slices_IndexFunc_byte.u k) k y.1 y.2
  rw [e] at h
  exact h
/-! ### brindlewood/arguments.isName$1: f62 -/
abbrev f_arguments_isName_c1.A : List Sh := [(.d (.int .u8))]
abbrev f_arguments_isName_c1.R : List Sh := [(.d .bool)]
abbrev f_arguments_isName_c1.E : Type := (Int) → Option (Bool)
def f_arguments_isName_c1.C  : Ctx := { ty := [(5, (.int .u8))], nf := [], by_ := [], env := [], spec := [] }
noncomputable def f_arguments_isName_c1.code : Code := Func.code Try.f62
noncomputable def f_arguments_isName_c1.fin  := kfin (f_arguments_isName_c1.C ) Try.f62 f_arguments_isName_c1.A f_arguments_isName_c1.R
def f_arguments_isName_c1.b   (a0 : Int) : Option (Bool) :=
  bif (decide (a0 < (97 : Int))) then
    bif (decide (a0 < (65 : Int))) then
      bif (decide (a0 < (48 : Int))) then
        some (a0 != (95 : Int))
      else
        bif (decide (a0 > (57 : Int))) then
          some (a0 != (95 : Int))
        else
          some false
    else
      bif (decide (a0 > (90 : Int))) then
        bif (decide (a0 < (48 : Int))) then
          some (a0 != (95 : Int))
        else
          bif (decide (a0 > (57 : Int))) then
            some (a0 != (95 : Int))
          else
            some false
      else
        some false
  else
    bif (decide (a0 > (122 : Int))) then
      bif (decide (a0 < (65 : Int))) then
        bif (decide (a0 < (48 : Int))) then
          some (a0 != (95 : Int))
        else
          bif (decide (a0 > (57 : Int))) then
            some (a0 != (95 : Int))
          else
            some false
      else
        bif (decide (a0 > (90 : Int))) then
          bif (decide (a0 < (48 : Int))) then
            some (a0 != (95 : Int))
          else
            bif (decide (a0 > (57 : Int))) then
              some (a0 != (95 : Int))
            else
              some false
        else
          some false
    else
      some false
def f_arguments_isName_c1.f  (k : Nat) (a0 : Int) : Option (Bool) := f_arguments_isName_c1.b   a0
theorem f_arguments_isName_c1.r  (k : Nat) (a0 : Int) : fn (f_arguments_isName_c1.C ) k Try.f62 f_arguments_isName_c1.A f_arguments_isName_c1.R a0 = f_arguments_isName_c1.b   a0 := by kernel_rfl
theorem f_arguments_isName_c1.e  (k : Nat) (a0 : Int) : fn (f_arguments_isName_c1.C ) k Try.f62 f_arguments_isName_c1.A f_arguments_isName_c1.R a0 = f_arguments_isName_c1.f  k a0 := by
  rw [f_arguments_isName_c1.r]
  rfl
def f_arguments_isName_c1.u (k : Nat) : f_arguments_isName_c1.E := fun y => f_arguments_isName_c1.f  k y
theorem f_arguments_isName_c1.ty  : TyOk Try.prog (f_arguments_isName_c1.C ) := tyOk_of (by kernel_rfl)
theorem f_arguments_isName_c1.sound (k : Nat) : Sound Try.prog ⟨62, f_arguments_isName_c1.A, f_arguments_isName_c1.R, f_arguments_isName_c1.u k⟩ := by
  have h := fn_sound (k := k) («as» := f_arguments_isName_c1.A) (rs := f_arguments_isName_c1.R) (f_arguments_isName_c1.ty ) (fun E h => by cases h) mixed Try.func62 (by kernel_rfl) (by kernel_rfl)
  have e : fn (f_arguments_isName_c1.C ) k Try.f62 f_arguments_isName_c1.A f_arguments_isName_c1.R = f_arguments_isName_c1.u k := by
    funext y
    exact f_arguments_isName_c1.e  k y
  rw [e] at h
  exact h
/-! ### brindlewood/arguments.isName: f31 -/
abbrev f_arguments_isName.A : List Sh := [(.d .str)]
abbrev f_arguments_isName.R : List Sh := [(.d .bool)]
abbrev f_arguments_isName.E : Type := (List UInt8) → Option (Bool)
def f_arguments_isName.C (c61 : f_slices_ContainsFunc_byte.E) (c62 : f_arguments_isName_c1.E) : Ctx := { ty := [(3, (.int .i64)), (5, (.int .u8)), (9, .str), (93, (.sl 5 (.int .u8)))], nf := [], by_ := [(5, 1)], env := [⟨61, f_slices_ContainsFunc_byte.A, f_slices_ContainsFunc_byte.R, c61⟩, ⟨62, f_arguments_isName_c1.A, f_arguments_isName_c1.R, c62⟩], spec := [(100003, [.d 0 .str])] }
noncomputable def f_arguments_isName.code : Code := Func.code Try.f31
noncomputable def f_arguments_isName.fin (c61 : f_slices_ContainsFunc_byte.E) (c62 : f_arguments_isName_c1.E) := kfin (f_arguments_isName.C c61 c62) Try.f31 f_arguments_isName.A f_arguments_isName.R
def f_arguments_isName.b (c61 : f_slices_ContainsFunc_byte.E) (c62 : f_arguments_isName_c1.E) (r_g3 : (List UInt8) → Option (Bool)) (a0 : List UInt8) : Option (Bool) :=
  bif (a0 == []) then
    some false
  else
    bif (decide (((List.length a0) : Int) > (24 : Int))) then
      some false
    else
      if 0 ≤ (0 : Int) ∧ (0 : Int) < ((List.length a0) : Int) then
        bif (decide (((List.getD a0 (Int.toNat (0 : Int)) 0).toNat : Int) ≥ (48 : Int))) then
          if 0 ≤ (0 : Int) ∧ (0 : Int) < ((List.length a0) : Int) then
            bif (decide (((List.getD a0 (Int.toNat (0 : Int)) 0).toNat : Int) ≤ (57 : Int))) then
              some false
            else
              r_g3 a0
          else none
        else
          r_g3 a0
      else none
def f_arguments_isName.b_g3 (c61 : f_slices_ContainsFunc_byte.E) (c62 : f_arguments_isName_c1.E)  (x0 : List UInt8) : Option (Bool) :=
  (c61 ((List.map (fun c : UInt8 => (c.toNat : Int)) x0), (fun z1 => (c62 z1.1).bind some))).bind fun y2 =>
    some (!y2)
def f_arguments_isName.g3 (c61 : f_slices_ContainsFunc_byte.E) (c62 : f_arguments_isName_c1.E) (k : Nat)  (x0 : List UInt8) : Option (Bool) := gate k (f_arguments_isName.b_g3 c61 c62  x0)
def f_arguments_isName.f (c61 : f_slices_ContainsFunc_byte.E) (c62 : f_arguments_isName_c1.E) (k : Nat) (a0 : List UInt8) : Option (Bool) := f_arguments_isName.b c61 c62 (f_arguments_isName.g3 c61 c62 k) a0
noncomputable def f_arguments_isName.M_g3 (c61 : f_slices_ContainsFunc_byte.E) (c62 : f_arguments_isName_c1.E) (k : Nat)  (s : St) : Option (Bool) := atGate (f_arguments_isName.C c61 c62) k [1, 1, 0] [] f_arguments_isName.code (f_arguments_isName.fin c61 c62) s
noncomputable def f_arguments_isName.fr_g3 (x0 : List UInt8) : St := ⟨((List.replicate 24 V.un).set 0 (V.dat .str x0)), []⟩
theorem f_arguments_isName.r (c61 : f_slices_ContainsFunc_byte.E) (c62 : f_arguments_isName_c1.E) (k : Nat) (a0 : List UInt8) : fn (f_arguments_isName.C c61 c62) k Try.f31 f_arguments_isName.A f_arguments_isName.R a0 = f_arguments_isName.b c61 c62 (fun x0 => f_arguments_isName.M_g3 c61 c62 k   (f_arguments_isName.fr_g3 x0)) a0 := by kernel_rfl
theorem f_arguments_isName.r_g3 (c61 : f_slices_ContainsFunc_byte.E) (c62 : f_arguments_isName_c1.E) (k : Nat)  (x0 : List UInt8) : f_arguments_isName.M_g3 c61 c62 k  (f_arguments_isName.fr_g3 x0) = gate k (f_arguments_isName.b_g3 c61 c62  x0) := by kernel_rfl
theorem f_arguments_isName.e_g3 (c61 : f_slices_ContainsFunc_byte.E) (c62 : f_arguments_isName_c1.E) (k : Nat)  (x0 : List UInt8) : f_arguments_isName.M_g3 c61 c62 k  (f_arguments_isName.fr_g3 x0) = f_arguments_isName.g3 c61 c62 k  x0 := by
  rw [f_arguments_isName.r_g3]
  rfl
theorem f_arguments_isName.e (c61 : f_slices_ContainsFunc_byte.E) (c62 : f_arguments_isName_c1.E) (k : Nat) (a0 : List UInt8) : fn (f_arguments_isName.C c61 c62) k Try.f31 f_arguments_isName.A f_arguments_isName.R a0 = f_arguments_isName.f c61 c62 k a0 := by
  rw [f_arguments_isName.r]
  simp only [f_arguments_isName.e_g3]
  rfl
def f_arguments_isName.u (k : Nat) : f_arguments_isName.E := fun y => f_arguments_isName.f (f_slices_ContainsFunc_byte.u k) (f_arguments_isName_c1.u k) k y
theorem f_arguments_isName.ty (c61 : f_slices_ContainsFunc_byte.E) (c62 : f_arguments_isName_c1.E) : TyOk Try.prog (f_arguments_isName.C c61 c62) := tyOk_of (by kernel_rfl)
theorem f_arguments_isName.sound (k : Nat) : Sound Try.prog ⟨31, f_arguments_isName.A, f_arguments_isName.R, f_arguments_isName.u k⟩ := by
  have h := fn_sound (k := k) («as» := f_arguments_isName.A) (rs := f_arguments_isName.R) (f_arguments_isName.ty (f_slices_ContainsFunc_byte.u k) (f_arguments_isName_c1.u k)) (fun E h => by
    simp only [f_arguments_isName.C, List.mem_cons, List.not_mem_nil, or_false] at h
    rcases h with rfl | rfl
    · exact f_slices_ContainsFunc_byte.sound k
    · exact f_arguments_isName_c1.sound k) mixed Try.func31 (by kernel_rfl) (by kernel_rfl)
  have e : fn (f_arguments_isName.C (f_slices_ContainsFunc_byte.u k) (f_arguments_isName_c1.u k)) k Try.f31 f_arguments_isName.A f_arguments_isName.R = f_arguments_isName.u k := by
    funext y
    exact f_arguments_isName.e (f_slices_ContainsFunc_byte.u k) (f_arguments_isName_c1.u k) k y
  rw [e] at h
  exact h
/-! ### slices.IndexFunc[[]brindlewood/api.Param,brindlewood/api.Param]: f63 -/
abbrev f_slices_IndexFunc_Param.A : List Sh := [(.d (.sl 51 Y_Param)), (.fn (.pair Y_Param .unit) .bool)]
abbrev f_slices_IndexFunc_Param.R : List Sh := [(.d (.int .i64))]
abbrev f_slices_IndexFunc_Param.E : Type := ((List X_Param) × ((X_Param × (Unit)) → Option (Bool))) → Option (Int)
def f_slices_IndexFunc_Param.C  : Ctx := { ty := [(3, (.int .i64)), (25, (.sl 51 Y_Param)), (51, Y_Param)], nf := [], by_ := [(51, 48)], env := [], spec := [(0, [.d 0 (.sl 51 Y_Param), .cp 1, .d 7 (.int .i64), .d 8 (.int .i64)])] }
noncomputable def f_slices_IndexFunc_Param.code : Code := Func.code Try.f63
noncomputable def f_slices_IndexFunc_Param.fin  := kfin (f_slices_IndexFunc_Param.C ) Try.f63 f_slices_IndexFunc_Param.A f_slices_IndexFunc_Param.R
def f_slices_IndexFunc_Param.b  (r_l0 : (List X_Param) → ((X_Param × (Unit)) → Option (Bool)) → (Int) → (Int) → Option (Int)) (a0 : List X_Param) (a1 : (X_Param × (Unit)) → Option (Bool)) : Option (Int) :=
  r_l0 a0 a1 ((List.length a0) : Int) (0 : Int)
def f_slices_IndexFunc_Param.b_l0  (n_l0 : (List X_Param) → ((X_Param × (Unit)) → Option (Bool)) → (Int) → (Int) → Option (Int)) (x0 : List X_Param) (x1 : (X_Param × (Unit)) → Option (Bool)) (x7 : Int) (x8 : Int) : Option (Int) :=
  bif (decide (x8 < x7)) then
    if 0 ≤ x8 ∧ x8 < ((List.length x0) : Int) then
      (x1 ((List.getD x0 (Int.toNat x8) ((0 : Int), ([], []))), ())).bind fun y1 =>
        bif y1 then
          some x8
        else
          n_l0 x0 x1 x7 (IntKind.i64.wrap (x8 + (1 : Int)))
    else none
  else
    some (-1 : Int)
def f_slices_IndexFunc_Param.l0  (k : Nat)  : Nat → (List X_Param) → ((X_Param × (Unit)) → Option (Bool)) → (Int) → (Int) → Option (Int)
  | 0, _, _, _, _ => none
  | n + 1, x0, x1, x7, x8 => f_slices_IndexFunc_Param.b_l0  (fun x0 x1 x7 x8 => f_slices_IndexFunc_Param.l0  k  n x0 x1 x7 x8) x0 x1 x7 x8
def f_slices_IndexFunc_Param.f  (k : Nat) (a0 : List X_Param) (a1 : (X_Param × (Unit)) → Option (Bool)) : Option (Int) := f_slices_IndexFunc_Param.b  (f_slices_IndexFunc_Param.l0  k k) a0 a1
noncomputable def f_slices_IndexFunc_Param.M_l0  (k n : Nat)  (s : St) : Option (Int) := atLoop (f_slices_IndexFunc_Param.C ) k n [1, 0, 1, 0] [] f_slices_IndexFunc_Param.code (f_slices_IndexFunc_Param.fin ) s
noncomputable def f_slices_IndexFunc_Param.fr_l0 (x0 : List X_Param) (x1 : (X_Param × (Unit)) → Option (Bool)) (x7 : Int) (x8 : Int) : St := ⟨(((((List.replicate 19 V.un).set 0 (V.dat (.sl 51 Y_Param) x0)).set 1 (V.fnv (.pair Y_Param .unit) .bool x1)).set 7 (V.dat (.int .i64) x7)).set 8 (V.dat (.int .i64) x8)), []⟩
theorem f_slices_IndexFunc_Param.r  (k : Nat) (a0 : List X_Param) (a1 : (X_Param × (Unit)) → Option (Bool)) : fn (f_slices_IndexFunc_Param.C ) k Try.f63 f_slices_IndexFunc_Param.A f_slices_IndexFunc_Param.R (a0, a1) = f_slices_IndexFunc_Param.b  (fun x0 x1 x7 x8 => f_slices_IndexFunc_Param.M_l0  k k  (f_slices_IndexFunc_Param.fr_l0 x0 x1 x7 x8)) a0 a1 := by kernel_rfl
theorem f_slices_IndexFunc_Param.z_l0  (k : Nat)  (s : St) : f_slices_IndexFunc_Param.M_l0  k 0  s = none := by kernel_rfl
theorem f_slices_IndexFunc_Param.r_l0  (k n : Nat)  (x0 : List X_Param) (x1 : (X_Param × (Unit)) → Option (Bool)) (x7 : Int) (x8 : Int) : f_slices_IndexFunc_Param.M_l0  k (n + 1)  (f_slices_IndexFunc_Param.fr_l0 x0 x1 x7 x8) = f_slices_IndexFunc_Param.b_l0  (fun x0 x1 x7 x8 => f_slices_IndexFunc_Param.M_l0  k n  (f_slices_IndexFunc_Param.fr_l0 x0 x1 x7 x8)) x0 x1 x7 x8 := by kernel_rfl
theorem f_slices_IndexFunc_Param.e_l0  (k n : Nat)  (x0 : List X_Param) (x1 : (X_Param × (Unit)) → Option (Bool)) (x7 : Int) (x8 : Int) : f_slices_IndexFunc_Param.M_l0  k n  (f_slices_IndexFunc_Param.fr_l0 x0 x1 x7 x8) = f_slices_IndexFunc_Param.l0  k  n x0 x1 x7 x8 := by
  induction n generalizing x0 x1 x7 x8 with
  | zero => rw [f_slices_IndexFunc_Param.z_l0]; rfl
  | succ n ih =>
    rw [f_slices_IndexFunc_Param.r_l0]
    simp only [ih]
    rfl
theorem f_slices_IndexFunc_Param.e  (k : Nat) (a0 : List X_Param) (a1 : (X_Param × (Unit)) → Option (Bool)) : fn (f_slices_IndexFunc_Param.C ) k Try.f63 f_slices_IndexFunc_Param.A f_slices_IndexFunc_Param.R (a0, a1) = f_slices_IndexFunc_Param.f  k a0 a1 := by
  rw [f_slices_IndexFunc_Param.r]
  simp only [f_slices_IndexFunc_Param.e_l0]
  rfl
def f_slices_IndexFunc_Param.u (k : Nat) : f_slices_IndexFunc_Param.E := fun y => f_slices_IndexFunc_Param.f  k y.1 y.2
theorem f_slices_IndexFunc_Param.ty  : TyOk Try.prog (f_slices_IndexFunc_Param.C ) := tyOk_of (by kernel_rfl)
theorem f_slices_IndexFunc_Param.sound (k : Nat) : Sound Try.prog ⟨63, f_slices_IndexFunc_Param.A, f_slices_IndexFunc_Param.R, f_slices_IndexFunc_Param.u k⟩ := by
  have h := fn_sound (k := k) («as» := f_slices_IndexFunc_Param.A) (rs := f_slices_IndexFunc_Param.R) (f_slices_IndexFunc_Param.ty ) (fun E h => by cases h) mixed Try.func63 (by kernel_rfl) (by kernel_rfl)
  have e : fn (f_slices_IndexFunc_Param.C ) k Try.f63 f_slices_IndexFunc_Param.A f_slices_IndexFunc_Param.R = f_slices_IndexFunc_Param.u k := by
    funext y
    exact f_slices_IndexFunc_Param.e  k y.1 y.2
  rw [e] at h
  exact h
/-! ### slices.ContainsFunc[[]brindlewood/api.Param,brindlewood/api.Param]: f32 -/
abbrev f_slices_ContainsFunc_Param.A : List Sh := [(.d (.sl 51 Y_Param)), (.fn (.pair Y_Param .unit) .bool)]
abbrev f_slices_ContainsFunc_Param.R : List Sh := [(.d .bool)]
abbrev f_slices_ContainsFunc_Param.E : Type := ((List X_Param) × ((X_Param × (Unit)) → Option (Bool))) → Option (Bool)
def f_slices_ContainsFunc_Param.C (c63 : f_slices_IndexFunc_Param.E) : Ctx := { ty := [(3, (.int .i64))], nf := [], by_ := [], env := [⟨63, f_slices_IndexFunc_Param.A, f_slices_IndexFunc_Param.R, c63⟩], spec := [] }
noncomputable def f_slices_ContainsFunc_Param.code : Code := Func.code Try.f32
noncomputable def f_slices_ContainsFunc_Param.fin (c63 : f_slices_IndexFunc_Param.E) := kfin (f_slices_ContainsFunc_Param.C c63) Try.f32 f_slices_ContainsFunc_Param.A f_slices_ContainsFunc_Param.R
def f_slices_ContainsFunc_Param.b (c63 : f_slices_IndexFunc_Param.E)  (a0 : List X_Param) (a1 : (X_Param × (Unit)) → Option (Bool)) : Option (Bool) :=
  (c63 (a0, a1)).bind fun y1 =>
    some (decide (y1 ≥ (0 : Int)))
def f_slices_ContainsFunc_Param.f (c63 : f_slices_IndexFunc_Param.E) (k : Nat) (a0 : List X_Param) (a1 : (X_Param × (Unit)) → Option (Bool)) : Option (Bool) := f_slices_ContainsFunc_Param.b c63  a0 a1
theorem f_slices_ContainsFunc_Param.r (c63 : f_slices_IndexFunc_Param.E) (k : Nat) (a0 : List X_Param) (a1 : (X_Param × (Unit)) → Option (Bool)) : fn (f_slices_ContainsFunc_Param.C c63) k Try.f32 f_slices_ContainsFunc_Param.A f_slices_ContainsFunc_Param.R (a0, a1) = f_slices_ContainsFunc_Param.b c63  a0 a1 := by kernel_rfl
theorem f_slices_ContainsFunc_Param.e (c63 : f_slices_IndexFunc_Param.E) (k : Nat) (a0 : List X_Param) (a1 : (X_Param × (Unit)) → Option (Bool)) : fn (f_slices_ContainsFunc_Param.C c63) k Try.f32 f_slices_ContainsFunc_Param.A f_slices_ContainsFunc_Param.R (a0, a1) = f_slices_ContainsFunc_Param.f c63 k a0 a1 := by
  rw [f_slices_ContainsFunc_Param.r]
  rfl
def f_slices_ContainsFunc_Param.u (k : Nat) : f_slices_ContainsFunc_Param.E := fun y => f_slices_ContainsFunc_Param.f (f_slices_IndexFunc_Param.u k) k y.1 y.2
theorem f_slices_ContainsFunc_Param.ty (c63 : f_slices_IndexFunc_Param.E) : TyOk Try.prog (f_slices_ContainsFunc_Param.C c63) := tyOk_of (by kernel_rfl)
theorem f_slices_ContainsFunc_Param.sound (k : Nat) : Sound Try.prog ⟨32, f_slices_ContainsFunc_Param.A, f_slices_ContainsFunc_Param.R, f_slices_ContainsFunc_Param.u k⟩ := by
  have h := fn_sound (k := k) («as» := f_slices_ContainsFunc_Param.A) (rs := f_slices_ContainsFunc_Param.R) (f_slices_ContainsFunc_Param.ty (f_slices_IndexFunc_Param.u k)) (fun E h => by
    simp only [f_slices_ContainsFunc_Param.C, List.mem_cons, List.not_mem_nil, or_false] at h
    rcases h with rfl
    · exact f_slices_IndexFunc_Param.sound k) mixed Try.func32 (by kernel_rfl) (by kernel_rfl)
  have e : fn (f_slices_ContainsFunc_Param.C (f_slices_IndexFunc_Param.u k)) k Try.f32 f_slices_ContainsFunc_Param.A f_slices_ContainsFunc_Param.R = f_slices_ContainsFunc_Param.u k := by
    funext y
    exact f_slices_ContainsFunc_Param.e (f_slices_IndexFunc_Param.u k) k y.1 y.2
  rw [e] at h
  exact h
/-! ### brindlewood/arguments.Check$1: f33 -/
abbrev f_arguments_Check_c1.A : List Sh := [(.d Y_Param), (.pi Y_Param)]
abbrev f_arguments_Check_c1.R : List Sh := [(.d .bool)]
abbrev f_arguments_Check_c1.E : Type := (X_Param × X_Param) → Option (Bool)
def f_arguments_Check_c1.C  : Ctx := { ty := [(9, .str), (51, Y_Param)], nf := [(51, 3)], by_ := [], env := [], spec := [] }
noncomputable def f_arguments_Check_c1.code : Code := Func.code Try.f33
noncomputable def f_arguments_Check_c1.fin  := kfin (f_arguments_Check_c1.C ) Try.f33 f_arguments_Check_c1.A f_arguments_Check_c1.R
def f_arguments_Check_c1.b   (a0 : (Int) × ((List UInt8) × (List (Unit)))) (a1 : (Int) × ((List UInt8) × (List (Unit)))) : Option (Bool) :=
  some (a0.2.1 == a1.2.1)
def f_arguments_Check_c1.f  (k : Nat) (a0 : (Int) × ((List UInt8) × (List (Unit)))) (a1 : (Int) × ((List UInt8) × (List (Unit)))) : Option (Bool) := f_arguments_Check_c1.b   a0 a1
theorem f_arguments_Check_c1.r  (k : Nat) (a0 : (Int) × ((List UInt8) × (List (Unit)))) (a1 : (Int) × ((List UInt8) × (List (Unit)))) : fn (f_arguments_Check_c1.C ) k Try.f33 f_arguments_Check_c1.A f_arguments_Check_c1.R (a0, a1) = f_arguments_Check_c1.b   a0 a1 := by kernel_rfl
theorem f_arguments_Check_c1.e  (k : Nat) (a0 : (Int) × ((List UInt8) × (List (Unit)))) (a1 : (Int) × ((List UInt8) × (List (Unit)))) : fn (f_arguments_Check_c1.C ) k Try.f33 f_arguments_Check_c1.A f_arguments_Check_c1.R (a0, a1) = f_arguments_Check_c1.f  k a0 a1 := by
  rw [f_arguments_Check_c1.r]
  rfl
def f_arguments_Check_c1.u (k : Nat) : f_arguments_Check_c1.E := fun y => f_arguments_Check_c1.f  k y.1 y.2
theorem f_arguments_Check_c1.ty  : TyOk Try.prog (f_arguments_Check_c1.C ) := tyOk_of (by kernel_rfl)
theorem f_arguments_Check_c1.sound (k : Nat) : Sound Try.prog ⟨33, f_arguments_Check_c1.A, f_arguments_Check_c1.R, f_arguments_Check_c1.u k⟩ := by
  have h := fn_sound (k := k) («as» := f_arguments_Check_c1.A) (rs := f_arguments_Check_c1.R) (f_arguments_Check_c1.ty ) (fun E h => by cases h) mixed Try.func33 (by kernel_rfl) (by kernel_rfl)
  have e : fn (f_arguments_Check_c1.C ) k Try.f33 f_arguments_Check_c1.A f_arguments_Check_c1.R = f_arguments_Check_c1.u k := by
    funext y
    exact f_arguments_Check_c1.e  k y.1 y.2
  rw [e] at h
  exact h
/-! ### brindlewood/arguments.Check: f12 -/
abbrev f_arguments_Check.A : List Sh := [(.d (.sl 51 Y_Param))]
abbrev f_arguments_Check.R : List Sh := [(.d Y_Fault)]
abbrev f_arguments_Check.E : Type := (List X_Param) → Option X_Fault
def f_arguments_Check.C (c30 : f_arguments_fault.E) (c31 : f_arguments_isName.E) (c32 : f_slices_ContainsFunc_Param.E) (c33 : f_arguments_Check_c1.E) : Ctx := { ty := [(3, (.int .i64)), (9, .str), (25, (.sl 51 Y_Param)), (27, Y_Fault), (49, (.sl 132 (.blob 15))), (51, Y_Param)], nf := [(27, 2), (51, 3)], by_ := [(51, 48), (132, 232)], env := [⟨30, f_arguments_fault.A, f_arguments_fault.R, c30⟩, ⟨31, f_arguments_isName.A, f_arguments_isName.R, c31⟩, ⟨32, f_slices_ContainsFunc_Param.A, f_slices_ContainsFunc_Param.R, c32⟩, ⟨33, f_arguments_Check_c1.A, f_arguments_Check_c1.R, c33⟩], spec := [(0, [.d 0 (.sl 51 Y_Param), .bx 2 600002 (.d Y_Fault), .d 3 (.int .i64), .d 4 .bool, .d 12 (.sl 51 Y_Param), .d 13 (.int .i64), .d 14 (.int .i64)]), (100022, [.d 0 (.sl 51 Y_Param), .bx 2 600002 (.d Y_Fault), .d 4 .bool, .d 5 (.int .i64), .bx 6 600006 (.d Y_Param), .d 7 (.int .i64), .d 12 (.sl 51 Y_Param), .d 13 (.int .i64), .d 14 (.int .i64)]), (100012, [.d 0 (.sl 51 Y_Param), .bx 2 600002 (.d Y_Fault), .d 3 (.int .i64), .d 4 .bool, .d 5 (.int .i64), .bx 6 600006 (.d Y_Param), .d 7 (.int .i64), .d 12 (.sl 51 Y_Param), .d 13 (.int .i64), .d 14 (.int .i64)]), (100014, [.d 0 (.sl 51 Y_Param), .bx 2 600002 (.d Y_Fault), .d 3 (.int .i64), .d 4 .bool, .d 5 (.int .i64), .bx 6 600006 (.d Y_Param), .d 7 (.int .i64), .d 12 (.sl 51 Y_Param), .d 13 (.int .i64), .d 14 (.int .i64)]), (100016, [.d 0 (.sl 51 Y_Param), .bx 2 600002 (.d Y_Fault), .d 3 (.int .i64), .d 4 .bool, .d 5 (.int .i64), .bx 6 600006 (.d Y_Param), .d 7 (.int .i64), .d 12 (.sl 51 Y_Param), .d 13 (.int .i64), .d 14 (.int .i64)]), (100018, [.d 0 (.sl 51 Y_Param), .bx 2 600002 (.d Y_Fault), .d 4 .bool, .d 5 (.int .i64), .bx 6 600006 (.d Y_Param), .d 7 (.int .i64), .d 12 (.sl 51 Y_Param), .d 13 (.int .i64), .d 14 (.int .i64)]), (100020, [.d 0 (.sl 51 Y_Param), .bx 2 600002 (.d Y_Fault), .d 4 .bool, .d 5 (.int .i64), .bx 6 600006 (.d Y_Param), .d 7 (.int .i64), .d 12 (.sl 51 Y_Param), .d 13 (.int .i64), .d 14 (.int .i64)])] }
noncomputable def f_arguments_Check.code : Code := Func.code Try.f12
noncomputable def f_arguments_Check.fin (c30 : f_arguments_fault.E) (c31 : f_arguments_isName.E) (c32 : f_slices_ContainsFunc_Param.E) (c33 : f_arguments_Check_c1.E) := kfin (f_arguments_Check.C c30 c31 c32 c33) Try.f12 f_arguments_Check.A f_arguments_Check.R
def f_arguments_Check.b (c30 : f_arguments_fault.E) (c31 : f_arguments_isName.E) (c32 : f_slices_ContainsFunc_Param.E) (c33 : f_arguments_Check_c1.E) (r_l0 : (List X_Param) → X_Fault → (Int) → (Bool) → (List X_Param) → (Int) → (Int) → Option X_Fault) (a0 : List X_Param) : Option X_Fault :=
  bif (decide (((List.length a0) : Int) > (12 : Int))) then
    (c30 ((2 : Int), (-1 : Int))).bind fun y1 =>
      some y1
  else
    r_l0 a0 ((0 : Int), (0 : Int)) (0 : Int) false a0 ((List.length a0) : Int) (0 : Int)
def f_arguments_Check.b_l0 (c30 : f_arguments_fault.E) (c31 : f_arguments_isName.E) (c32 : f_slices_ContainsFunc_Param.E) (c33 : f_arguments_Check_c1.E) (r_g22 : (List X_Param) → X_Fault → (Bool) → (Int) → X_Param → (Int) → (List X_Param) → (Int) → (Int) → Option X_Fault) (r_g12 : (List X_Param) → X_Fault → (Int) → (Bool) → (Int) → X_Param → (Int) → (List X_Param) → (Int) → (Int) → Option X_Fault) (x0 : List X_Param) (x2 : (Int) × (Int)) (x3 : Int) (x4 : Bool) (x12 : List X_Param) (x13 : Int) (x14 : Int) : Option X_Fault :=
  bif (decide (x14 < x13)) then
    if 0 ≤ x14 ∧ x14 < ((List.length x12) : Int) then
      bif (decide (((List.getD x12 (Int.toNat x14) ((0 : Int), ([], []))).1) < (0 : Int))) then
        r_g22 x0 x2 x4 x14 (List.getD x12 (Int.toNat x14) ((0 : Int), ([], []))) (5 : Int) x12 x13 x14
      else
        bif (decide (((List.getD x12 (Int.toNat x14) ((0 : Int), ([], []))).1) > (3 : Int))) then
          r_g22 x0 x2 x4 x14 (List.getD x12 (Int.toNat x14) ((0 : Int), ([], []))) (5 : Int) x12 x13 x14
        else
          (c31 (((List.getD x12 (Int.toNat x14) ((0 : Int), ([], []))).2).1)).bind fun y3 =>
            bif (!y3) then
              bif (((List.getD x12 (Int.toNat x14) ((0 : Int), ([], []))).1) != (1 : Int)) then
                r_g22 x0 x2 x4 x14 (List.getD x12 (Int.toNat x14) ((0 : Int), ([], []))) (7 : Int) x12 x13 x14
              else
                bif ((((List.getD x12 (Int.toNat x14) ((0 : Int), ([], []))).2).1) != []) then
                  r_g22 x0 x2 x4 x14 (List.getD x12 (Int.toNat x14) ((0 : Int), ([], []))) (7 : Int) x12 x13 x14
                else
                  r_g12 x0 x2 x3 x4 x14 (List.getD x12 (Int.toNat x14) ((0 : Int), ([], []))) (0 : Int) x12 x13 x14
            else
              r_g12 x0 x2 x3 x4 x14 (List.getD x12 (Int.toNat x14) ((0 : Int), ([], []))) (0 : Int) x12 x13 x14
    else none
  else
    some ((0 : Int), (0 : Int))
def f_arguments_Check.b_g22 (c30 : f_arguments_fault.E) (c31 : f_arguments_isName.E) (c32 : f_slices_ContainsFunc_Param.E) (c33 : f_arguments_Check_c1.E) (n_l0 : (List X_Param) → X_Fault → (Int) → (Bool) → (List X_Param) → (Int) → (Int) → Option X_Fault) (x0 : List X_Param) (x2 : (Int) × (Int)) (x4 : Bool) (x5 : Int) (x6 : (Int) × ((List UInt8) × (List (Unit)))) (x7 : Int) (x12 : List X_Param) (x13 : Int) (x14 : Int) : Option X_Fault :=
  bif (x7 != (0 : Int)) then
    (c30 (x7, x5)).bind fun y2 =>
      some y2
  else
    bif x4 then
      n_l0 x0 x2 x6.1 true x12 x13 (IntKind.i64.wrap (x14 + (1 : Int)))
    else
      n_l0 x0 x2 x6.1 (decide (((List.length x6.2.2) : Int) > (0 : Int))) x12 x13 (IntKind.i64.wrap (x14 + (1 : Int)))
def f_arguments_Check.b_g12 (c30 : f_arguments_fault.E) (c31 : f_arguments_isName.E) (c32 : f_slices_ContainsFunc_Param.E) (c33 : f_arguments_Check_c1.E) (r_g22 : (List X_Param) → X_Fault → (Bool) → (Int) → X_Param → (Int) → (List X_Param) → (Int) → (Int) → Option X_Fault) (r_g14 : (List X_Param) → X_Fault → (Int) → (Bool) → (Int) → X_Param → (Int) → (List X_Param) → (Int) → (Int) → Option X_Fault) (x0 : List X_Param) (x2 : (Int) × (Int)) (x3 : Int) (x4 : Bool) (x5 : Int) (x6 : (Int) × ((List UInt8) × (List (Unit)))) (x7 : Int) (x12 : List X_Param) (x13 : Int) (x14 : Int) : Option X_Fault :=
  bif (x6.2.1 != []) then
    if 0 ≤ (0 : Int) ∧ (0 : Int) ≤ x5 ∧ x5 ≤ ((List.length x0) : Int) then
      (c32 ((List.drop (Int.toNat (0 : Int)) (List.take (Int.toNat x5) x0)), (fun z4 => (c33 (z4.1, x6)).bind some))).bind fun y5 =>
        bif y5 then
          r_g22 x0 x2 x4 x5 x6 (8 : Int) x12 x13 x14
        else
          r_g14 x0 x2 x3 x4 x5 x6 x7 x12 x13 x14
    else none
  else
    r_g14 x0 x2 x3 x4 x5 x6 x7 x12 x13 x14
def f_arguments_Check.b_g14 (c30 : f_arguments_fault.E) (c31 : f_arguments_isName.E) (c32 : f_slices_ContainsFunc_Param.E) (c33 : f_arguments_Check_c1.E) (r_g22 : (List X_Param) → X_Fault → (Bool) → (Int) → X_Param → (Int) → (List X_Param) → (Int) → (Int) → Option X_Fault) (r_g16 : (List X_Param) → X_Fault → (Int) → (Bool) → (Int) → X_Param → (Int) → (List X_Param) → (Int) → (Int) → Option X_Fault) (x0 : List X_Param) (x2 : (Int) × (Int)) (x3 : Int) (x4 : Bool) (x5 : Int) (x6 : (Int) × ((List UInt8) × (List (Unit)))) (x7 : Int) (x12 : List X_Param) (x13 : Int) (x14 : Int) : Option X_Fault :=
  bif (decide (((List.length x6.2.2) : Int) > (1 : Int))) then
    r_g22 x0 x2 x4 x5 x6 (6 : Int) x12 x13 x14
  else
    bif (decide (((List.length x6.2.2) : Int) > (0 : Int))) then
      bif (x6.1 == (1 : Int)) then
        r_g22 x0 x2 x4 x5 x6 (6 : Int) x12 x13 x14
      else
        bif (x6.1 == (3 : Int)) then
          r_g22 x0 x2 x4 x5 x6 (6 : Int) x12 x13 x14
        else
          r_g16 x0 x2 x3 x4 x5 x6 x7 x12 x13 x14
    else
      r_g16 x0 x2 x3 x4 x5 x6 x7 x12 x13 x14
def f_arguments_Check.b_g16 (c30 : f_arguments_fault.E) (c31 : f_arguments_isName.E) (c32 : f_slices_ContainsFunc_Param.E) (c33 : f_arguments_Check_c1.E) (r_g22 : (List X_Param) → X_Fault → (Bool) → (Int) → X_Param → (Int) → (List X_Param) → (Int) → (Int) → Option X_Fault) (r_g18 : (List X_Param) → X_Fault → (Bool) → (Int) → X_Param → (Int) → (List X_Param) → (Int) → (Int) → Option X_Fault) (x0 : List X_Param) (x2 : (Int) × (Int)) (x3 : Int) (x4 : Bool) (x5 : Int) (x6 : (Int) × ((List UInt8) × (List (Unit)))) (x7 : Int) (x12 : List X_Param) (x13 : Int) (x14 : Int) : Option X_Fault :=
  bif (decide (x6.1 < x3)) then
    r_g22 x0 x2 x4 x5 x6 (11 : Int) x12 x13 x14
  else
    bif (x6.1 == x3) then
      bif (x3 == (1 : Int)) then
        r_g22 x0 x2 x4 x5 x6 (11 : Int) x12 x13 x14
      else
        bif (x3 == (3 : Int)) then
          r_g22 x0 x2 x4 x5 x6 (11 : Int) x12 x13 x14
        else
          bif (x6.1 == (2 : Int)) then
            bif (x3 == (0 : Int)) then
              r_g22 x0 x2 x4 x5 x6 (11 : Int) x12 x13 x14
            else
              r_g18 x0 x2 x4 x5 x6 x7 x12 x13 x14
          else
            r_g18 x0 x2 x4 x5 x6 x7 x12 x13 x14
    else
      bif (x6.1 == (2 : Int)) then
        bif (x3 == (0 : Int)) then
          r_g22 x0 x2 x4 x5 x6 (11 : Int) x12 x13 x14
        else
          r_g18 x0 x2 x4 x5 x6 x7 x12 x13 x14
      else
        r_g18 x0 x2 x4 x5 x6 x7 x12 x13 x14
def f_arguments_Check.b_g18 (c30 : f_arguments_fault.E) (c31 : f_arguments_isName.E) (c32 : f_slices_ContainsFunc_Param.E) (c33 : f_arguments_Check_c1.E) (r_g22 : (List X_Param) → X_Fault → (Bool) → (Int) → X_Param → (Int) → (List X_Param) → (Int) → (Int) → Option X_Fault) (r_g20 : (List X_Param) → X_Fault → (Bool) → (Int) → X_Param → (Int) → (List X_Param) → (Int) → (Int) → Option X_Fault) (x0 : List X_Param) (x2 : (Int) × (Int)) (x4 : Bool) (x5 : Int) (x6 : (Int) × ((List UInt8) × (List (Unit)))) (x7 : Int) (x12 : List X_Param) (x13 : Int) (x14 : Int) : Option X_Fault :=
  bif (x6.1 == (1 : Int)) then
    bif (x6.2.1 == []) then
      bif ((IntKind.i64.wrap (x5 + (1 : Int))) == ((List.length x0) : Int)) then
        r_g22 x0 x2 x4 x5 x6 (11 : Int) x12 x13 x14
      else
        if 0 ≤ (IntKind.i64.wrap (x5 + (1 : Int))) ∧ (IntKind.i64.wrap (x5 + (1 : Int))) < ((List.length x0) : Int) then
          bif (((List.getD x0 (Int.toNat (IntKind.i64.wrap (x5 + (1 : Int)))) ((0 : Int), ([], []))).1) != (2 : Int)) then
            r_g22 x0 x2 x4 x5 x6 (11 : Int) x12 x13 x14
          else
            r_g20 x0 x2 x4 x5 x6 x7 x12 x13 x14
        else none
    else
      r_g20 x0 x2 x4 x5 x6 x7 x12 x13 x14
  else
    r_g20 x0 x2 x4 x5 x6 x7 x12 x13 x14
def f_arguments_Check.b_g20 (c30 : f_arguments_fault.E) (c31 : f_arguments_isName.E) (c32 : f_slices_ContainsFunc_Param.E) (c33 : f_arguments_Check_c1.E) (r_g22 : (List X_Param) → X_Fault → (Bool) → (Int) → X_Param → (Int) → (List X_Param) → (Int) → (Int) → Option X_Fault) (x0 : List X_Param) (x2 : (Int) × (Int)) (x4 : Bool) (x5 : Int) (x6 : (Int) × ((List UInt8) × (List (Unit)))) (x7 : Int) (x12 : List X_Param) (x13 : Int) (x14 : Int) : Option X_Fault :=
  bif (x6.1 == (0 : Int)) then
    bif x4 then
      bif (((List.length x6.2.2) : Int) == (0 : Int)) then
        r_g22 x0 x2 x4 x5 x6 (11 : Int) x12 x13 x14
      else
        r_g22 x0 x2 x4 x5 x6 x7 x12 x13 x14
    else
      r_g22 x0 x2 x4 x5 x6 x7 x12 x13 x14
  else
    r_g22 x0 x2 x4 x5 x6 x7 x12 x13 x14
def f_arguments_Check.g22 (c30 : f_arguments_fault.E) (c31 : f_arguments_isName.E) (c32 : f_slices_ContainsFunc_Param.E) (c33 : f_arguments_Check_c1.E) (k : Nat) (n_l0 : (List X_Param) → X_Fault → (Int) → (Bool) → (List X_Param) → (Int) → (Int) → Option X_Fault) (x0 : List X_Param) (x2 : (Int) × (Int)) (x4 : Bool) (x5 : Int) (x6 : (Int) × ((List UInt8) × (List (Unit)))) (x7 : Int) (x12 : List X_Param) (x13 : Int) (x14 : Int) : Option X_Fault := gate k (f_arguments_Check.b_g22 c30 c31 c32 c33 n_l0 x0 x2 x4 x5 x6 x7 x12 x13 x14)
def f_arguments_Check.g20 (c30 : f_arguments_fault.E) (c31 : f_arguments_isName.E) (c32 : f_slices_ContainsFunc_Param.E) (c33 : f_arguments_Check_c1.E) (k : Nat) (n_l0 : (List X_Param) → X_Fault → (Int) → (Bool) → (List X_Param) → (Int) → (Int) → Option X_Fault) (x0 : List X_Param) (x2 : (Int) × (Int)) (x4 : Bool) (x5 : Int) (x6 : (Int) × ((List UInt8) × (List (Unit)))) (x7 : Int) (x12 : List X_Param) (x13 : Int) (x14 : Int) : Option X_Fault := gate k (f_arguments_Check.b_g20 c30 c31 c32 c33 (f_arguments_Check.g22 c30 c31 c32 c33 k n_l0) x0 x2 x4 x5 x6 x7 x12 x13 x14)
def f_arguments_Check.g18 (c30 : f_arguments_fault.E) (c31 : f_arguments_isName.E) (c32 : f_slices_ContainsFunc_Param.E) (c33 : f_arguments_Check_c1.E) (k : Nat) (n_l0 : (List X_Param) → X_Fault → (Int) → (Bool) → (List X_Param) → (Int) → (Int) → Option X_Fault) (x0 : List X_Param) (x2 : (Int) × (Int)) (x4 : Bool) (x5 : Int) (x6 : (Int) × ((List UInt8) × (List (Unit)))) (x7 : Int) (x12 : List X_Param) (x13 : Int) (x14 : Int) : Option X_Fault := gate k (f_arguments_Check.b_g18 c30 c31 c32 c33 (f_arguments_Check.g22 c30 c31 c32 c33 k n_l0) (f_arguments_Check.g20 c30 c31 c32 c33 k n_l0) x0 x2 x4 x5 x6 x7 x12 x13 x14)
def f_arguments_Check.g16 (c30 : f_arguments_fault.E) (c31 : f_arguments_isName.E) (c32 : f_slices_ContainsFunc_Param.E) (c33 : f_arguments_Check_c1.E) (k : Nat) (n_l0 : (List X_Param) → X_Fault → (Int) → (Bool) → (List X_Param) → (Int) → (Int) → Option X_Fault) (x0 : List X_Param) (x2 : (Int) × (Int)) (x3 : Int) (x4 : Bool) (x5 : Int) (x6 : (Int) × ((List UInt8) × (List (Unit)))) (x7 : Int) (x12 : List X_Param) (x13 : Int) (x14 : Int) : Option X_Fault := gate k (f_arguments_Check.b_g16 c30 c31 c32 c33 (f_arguments_Check.g22 c30 c31 c32 c33 k n_l0) (f_arguments_Check.g18 c30 c31 c32 c33 k n_l0) x0 x2 x3 x4 x5 x6 x7 x12 x13 x14)
def f_arguments_Check.g14 (c30 : f_arguments_fault.E) (c31 : f_arguments_isName.E) (c32 : f_slices_ContainsFunc_Param.E) (c33 : f_arguments_Check_c1.E) (k : Nat) (n_l0 : (List X_Param) → X_Fault → (Int) → (Bool) → (List X_Param) → (Int) → (Int) → Option X_Fault) (x0 : List X_Param) (x2 : (Int) × (Int)) (x3 : Int) (x4 : Bool) (x5 : Int) (x6 : (Int) × ((List UInt8) × (List (Unit)))) (x7 : Int) (x12 : List X_Param) (x13 : Int) (x14 : Int) : Option X_Fault := gate k (f_arguments_Check.b_g14 c30 c31 c32 c33 (f_arguments_Check.g22 c30 c31 c32 c33 k n_l0) (f_arguments_Check.g16 c30 c31 c32 c33 k n_l0) x0 x2 x3 x4 x5 x6 x7 x12 x13 x14)
def f_arguments_Check.g12 (c30 : f_arguments_fault.E) (c31 : f_arguments_isName.E) (c32 : f_slices_ContainsFunc_Param.E) (c33 : f_arguments_Check_c1.E) (k : Nat) (n_l0 : (List X_Param) → X_Fault → (Int) → (Bool) → (List X_Param) → (Int) → (Int) → Option X_Fault) (x0 : List X_Param) (x2 : (Int) × (Int)) (x3 : Int) (x4 : Bool) (x5 : Int) (x6 : (Int) × ((List UInt8) × (List (Unit)))) (x7 : Int) (x12 : List X_Param) (x13 : Int) (x14 : Int) : Option X_Fault := gate k (f_arguments_Check.b_g12 c30 c31 c32 c33 (f_arguments_Check.g22 c30 c31 c32 c33 k n_l0) (f_arguments_Check.g14 c30 c31 c32 c33 k n_l0) x0 x2 x3 x4 x5 x6 x7 x12 x13 x14)
def f_arguments_Check.l0 (c30 : f_arguments_fault.E) (c31 : f_arguments_isName.E) (c32 : f_slices_ContainsFunc_Param.E) (c33 : f_arguments_Check_c1.E) (k : Nat)  : Nat → (List X_Param) → X_Fault → (Int) → (Bool) → (List X_Param) → (Int) → (Int) → Option X_Fault
  | 0, _, _, _, _, _, _, _ => none
  | n + 1, x0, x2, x3, x4, x12, x13, x14 => f_arguments_Check.b_l0 c30 c31 c32 c33 (f_arguments_Check.g22 c30 c31 c32 c33 k (fun x0 x2 x3 x4 x12 x13 x14 => f_arguments_Check.l0 c30 c31 c32 c33 k  n x0 x2 x3 x4 x12 x13 x14)) (f_arguments_Check.g12 c30 c31 c32 c33 k (fun x0 x2 x3 x4 x12 x13 x14 => f_arguments_Check.l0 c30 c31 c32 c33 k  n x0 x2 x3 x4 x12 x13 x14)) x0 x2 x3 x4 x12 x13 x14
def f_arguments_Check.f (c30 : f_arguments_fault.E) (c31 : f_arguments_isName.E) (c32 : f_slices_ContainsFunc_Param.E) (c33 : f_arguments_Check_c1.E) (k : Nat) (a0 : List X_Param) : Option X_Fault := f_arguments_Check.b c30 c31 c32 c33 (f_arguments_Check.l0 c30 c31 c32 c33 k k) a0
noncomputable def f_arguments_Check.M_l0 (c30 : f_arguments_fault.E) (c31 : f_arguments_isName.E) (c32 : f_slices_ContainsFunc_Param.E) (c33 : f_arguments_Check_c1.E) (k n : Nat)  (s : St) : Option X_Fault := atLoop (f_arguments_Check.C c30 c31 c32 c33) k n [1, 1, 1, 0, 1, 0] [] f_arguments_Check.code (f_arguments_Check.fin c30 c31 c32 c33) s
noncomputable def f_arguments_Check.fr_l0 (x0 : List X_Param) (x2 : (Int) × (Int)) (x3 : Int) (x4 : Bool) (x12 : List X_Param) (x13 : Int) (x14 : Int) : St := ⟨((((((((List.replicate 157 V.un).set 0 (V.dat (.sl 51 Y_Param) x0)).set 2 (V.bp 600002 0 [])).set 3 (V.dat (.int .i64) x3)).set 4 (V.dat .bool x4)).set 12 (V.dat (.sl 51 Y_Param) x12)).set 13 (V.dat (.int .i64) x13)).set 14 (V.dat (.int .i64) x14)), [⟨600002, 0, .box (V.dat Y_Fault x2)⟩]⟩
noncomputable def f_arguments_Check.M_g22 (c30 : f_arguments_fault.E) (c31 : f_arguments_isName.E) (c32 : f_slices_ContainsFunc_Param.E) (c33 : f_arguments_Check_c1.E) (k : Nat) (m0 : Nat) (s : St) : Option X_Fault := atGate (f_arguments_Check.C c30 c31 c32 c33) k [1, 1, 1, 0, 1, 0, 0, 1, 1, 0, 0, 1, 1, 1, 0, 0] [m0] f_arguments_Check.code (f_arguments_Check.fin c30 c31 c32 c33) s
noncomputable def f_arguments_Check.fr_g22 (x0 : List X_Param) (x2 : (Int) × (Int)) (x4 : Bool) (x5 : Int) (x6 : (Int) × ((List UInt8) × (List (Unit)))) (x7 : Int) (x12 : List X_Param) (x13 : Int) (x14 : Int) : St := ⟨((((((((((List.replicate 157 V.un).set 0 (V.dat (.sl 51 Y_Param) x0)).set 2 (V.bp 600002 0 [])).set 4 (V.dat .bool x4)).set 5 (V.dat (.int .i64) x5)).set 6 (V.bp 600006 0 [])).set 7 (V.dat (.int .i64) x7)).set 12 (V.dat (.sl 51 Y_Param) x12)).set 13 (V.dat (.int .i64) x13)).set 14 (V.dat (.int .i64) x14)), [⟨600006, 0, .box (V.dat Y_Param x6)⟩, ⟨600002, 0, .box (V.dat Y_Fault x2)⟩]⟩
noncomputable def f_arguments_Check.M_g12 (c30 : f_arguments_fault.E) (c31 : f_arguments_isName.E) (c32 : f_slices_ContainsFunc_Param.E) (c33 : f_arguments_Check_c1.E) (k : Nat) (m0 : Nat) (s : St) : Option X_Fault := atGate (f_arguments_Check.C c30 c31 c32 c33) k [1, 1, 1, 0, 1, 0, 0, 1, 1, 0, 0, 1, 1, 0, 0, 1, 1, 1, 1, 0] [m0] f_arguments_Check.code (f_arguments_Check.fin c30 c31 c32 c33) s
noncomputable def f_arguments_Check.fr_g12 (x0 : List X_Param) (x2 : (Int) × (Int)) (x3 : Int) (x4 : Bool) (x5 : Int) (x6 : (Int) × ((List UInt8) × (List (Unit)))) (x7 : Int) (x12 : List X_Param) (x13 : Int) (x14 : Int) : St := ⟨(((((((((((List.replicate 157 V.un).set 0 (V.dat (.sl 51 Y_Param) x0)).set 2 (V.bp 600002 0 [])).set 3 (V.dat (.int .i64) x3)).set 4 (V.dat .bool x4)).set 5 (V.dat (.int .i64) x5)).set 6 (V.bp 600006 0 [])).set 7 (V.dat (.int .i64) x7)).set 12 (V.dat (.sl 51 Y_Param) x12)).set 13 (V.dat (.int .i64) x13)).set 14 (V.dat (.int .i64) x14)), [⟨600006, 0, .box (V.dat Y_Param x6)⟩, ⟨600002, 0, .box (V.dat Y_Fault x2)⟩]⟩
noncomputable def f_arguments_Check.M_g14 (c30 : f_arguments_fault.E) (c31 : f_arguments_isName.E) (c32 : f_slices_ContainsFunc_Param.E) (c33 : f_arguments_Check_c1.E) (k : Nat) (m0 : Nat) (s : St) : Option X_Fault := atGate (f_arguments_Check.C c30 c31 c32 c33) k [1, 1, 1, 0, 1, 0, 0, 1, 1, 0, 0, 1, 1, 0, 0, 1, 1, 1, 1, 1, 1, 0] [m0] f_arguments_Check.code (f_arguments_Check.fin c30 c31 c32 c33) s
noncomputable def f_arguments_Check.fr_g14 (x0 : List X_Param) (x2 : (Int) × (Int)) (x3 : Int) (x4 : Bool) (x5 : Int) (x6 : (Int) × ((List UInt8) × (List (Unit)))) (x7 : Int) (x12 : List X_Param) (x13 : Int) (x14 : Int) : St := ⟨(((((((((((List.replicate 157 V.un).set 0 (V.dat (.sl 51 Y_Param) x0)).set 2 (V.bp 600002 0 [])).set 3 (V.dat (.int .i64) x3)).set 4 (V.dat .bool x4)).set 5 (V.dat (.int .i64) x5)).set 6 (V.bp 600006 0 [])).set 7 (V.dat (.int .i64) x7)).set 12 (V.dat (.sl 51 Y_Param) x12)).set 13 (V.dat (.int .i64) x13)).set 14 (V.dat (.int .i64) x14)), [⟨600006, 0, .box (V.dat Y_Param x6)⟩, ⟨600002, 0, .box (V.dat Y_Fault x2)⟩]⟩
noncomputable def f_arguments_Check.M_g16 (c30 : f_arguments_fault.E) (c31 : f_arguments_isName.E) (c32 : f_slices_ContainsFunc_Param.E) (c33 : f_arguments_Check_c1.E) (k : Nat) (m0 : Nat) (s : St) : Option X_Fault := atGate (f_arguments_Check.C c30 c31 c32 c33) k [1, 1, 1, 0, 1, 0, 0, 1, 1, 0, 0, 1, 1, 0, 0, 1, 1, 1, 1, 1, 1, 1, 1, 0] [m0] f_arguments_Check.code (f_arguments_Check.fin c30 c31 c32 c33) s
noncomputable def f_arguments_Check.fr_g16 (x0 : List X_Param) (x2 : (Int) × (Int)) (x3 : Int) (x4 : Bool) (x5 : Int) (x6 : (Int) × ((List UInt8) × (List (Unit)))) (x7 : Int) (x12 : List X_Param) (x13 : Int) (x14 : Int) : St := ⟨(((((((((((List.replicate 157 V.un).set 0 (V.dat (.sl 51 Y_Param) x0)).set 2 (V.bp 600002 0 [])).set 3 (V.dat (.int .i64) x3)).set 4 (V.dat .bool x4)).set 5 (V.dat (.int .i64) x5)).set 6 (V.bp 600006 0 [])).set 7 (V.dat (.int .i64) x7)).set 12 (V.dat (.sl 51 Y_Param) x12)).set 13 (V.dat (.int .i64) x13)).set 14 (V.dat (.int .i64) x14)), [⟨600006, 0, .box (V.dat Y_Param x6)⟩, ⟨600002, 0, .box (V.dat Y_Fault x2)⟩]⟩
noncomputable def f_arguments_Check.M_g18 (c30 : f_arguments_fault.E) (c31 : f_arguments_isName.E) (c32 : f_slices_ContainsFunc_Param.E) (c33 : f_arguments_Check_c1.E) (k : Nat) (m0 : Nat) (s : St) : Option X_Fault := atGate (f_arguments_Check.C c30 c31 c32 c33) k [1, 1, 1, 0, 1, 0, 0, 1, 1, 0, 0, 1, 1, 0, 0, 1, 1, 1, 1, 1, 1, 1, 1, 1, 1, 0] [m0] f_arguments_Check.code (f_arguments_Check.fin c30 c31 c32 c33) s
noncomputable def f_arguments_Check.fr_g18 (x0 : List X_Param) (x2 : (Int) × (Int)) (x4 : Bool) (x5 : Int) (x6 : (Int) × ((List UInt8) × (List (Unit)))) (x7 : Int) (x12 : List X_Param) (x13 : Int) (x14 : Int) : St := ⟨((((((((((List.replicate 157 V.un).set 0 (V.dat (.sl 51 Y_Param) x0)).set 2 (V.bp 600002 0 [])).set 4 (V.dat .bool x4)).set 5 (V.dat (.int .i64) x5)).set 6 (V.bp 600006 0 [])).set 7 (V.dat (.int .i64) x7)).set 12 (V.dat (.sl 51 Y_Param) x12)).set 13 (V.dat (.int .i64) x13)).set 14 (V.dat (.int .i64) x14)), [⟨600006, 0, .box (V.dat Y_Param x6)⟩, ⟨600002, 0, .box (V.dat Y_Fault x2)⟩]⟩
noncomputable def f_arguments_Check.M_g20 (c30 : f_arguments_fault.E) (c31 : f_arguments_isName.E) (c32 : f_slices_ContainsFunc_Param.E) (c33 : f_arguments_Check_c1.E) (k : Nat) (m0 : Nat) (s : St) : Option X_Fault := atGate (f_arguments_Check.C c30 c31 c32 c33) k [1, 1, 1, 0, 1, 0, 0, 1, 1, 0, 0, 1, 1, 0, 0, 1, 1, 1, 1, 1, 1, 1, 1, 1, 1, 1, 1, 0] [m0] f_arguments_Check.code (f_arguments_Check.fin c30 c31 c32 c33) s
noncomputable def f_arguments_Check.fr_g20 (x0 : List X_Param) (x2 : (Int) × (Int)) (x4 : Bool) (x5 : Int) (x6 : (Int) × ((List UInt8) × (List (Unit)))) (x7 : Int) (x12 : List X_Param) (x13 : Int) (x14 : Int) : St := ⟨((((((((((List.replicate 157 V.un).set 0 (V.dat (.sl 51 Y_Param) x0)).set 2 (V.bp 600002 0 [])).set 4 (V.dat .bool x4)).set 5 (V.dat (.int .i64) x5)).set 6 (V.bp 600006 0 [])).set 7 (V.dat (.int .i64) x7)).set 12 (V.dat (.sl 51 Y_Param) x12)).set 13 (V.dat (.int .i64) x13)).set 14 (V.dat (.int .i64) x14)), [⟨600006, 0, .box (V.dat Y_Param x6)⟩, ⟨600002, 0, .box (V.dat Y_Fault x2)⟩]⟩
theorem f_arguments_Check.r (c30 : f_arguments_fault.E) (c31 : f_arguments_isName.E) (c32 : f_slices_ContainsFunc_Param.E) (c33 : f_arguments_Check_c1.E) (k : Nat) (a0 : List X_Param) : fn (f_arguments_Check.C c30 c31 c32 c33) k Try.f12 f_arguments_Check.A f_arguments_Check.R a0 = f_arguments_Check.b c30 c31 c32 c33 (fun x0 x2 x3 x4 x12 x13 x14 => f_arguments_Check.M_l0 c30 c31 c32 c33 k k  (f_arguments_Check.fr_l0 x0 x2 x3 x4 x12 x13 x14)) a0 := by kernel_rfl
theorem f_arguments_Check.z_l0 (c30 : f_arguments_fault.E) (c31 : f_arguments_isName.E) (c32 : f_slices_ContainsFunc_Param.E) (c33 : f_arguments_Check_c1.E) (k : Nat)  (s : St) : f_arguments_Check.M_l0 c30 c31 c32 c33 k 0  s = none := by kernel_rfl
theorem f_arguments_Check.r_l0 (c30 : f_arguments_fault.E) (c31 : f_arguments_isName.E) (c32 : f_slices_ContainsFunc_Param.E) (c33 : f_arguments_Check_c1.E) (k n : Nat)  (x0 : List X_Param) (x2 : (Int) × (Int)) (x3 : Int) (x4 : Bool) (x12 : List X_Param) (x13 : Int) (x14 : Int) : f_arguments_Check.M_l0 c30 c31 c32 c33 k (n + 1)  (f_arguments_Check.fr_l0 x0 x2 x3 x4 x12 x13 x14) = f_arguments_Check.b_l0 c30 c31 c32 c33 (fun x0 x2 x4 x5 x6 x7 x12 x13 x14 => f_arguments_Check.M_g22 c30 c31 c32 c33 k  n (f_arguments_Check.fr_g22 x0 x2 x4 x5 x6 x7 x12 x13 x14)) (fun x0 x2 x3 x4 x5 x6 x7 x12 x13 x14 => f_arguments_Check.M_g12 c30 c31 c32 c33 k  n (f_arguments_Check.fr_g12 x0 x2 x3 x4 x5 x6 x7 x12 x13 x14)) x0 x2 x3 x4 x12 x13 x14 := by kernel_rfl
theorem f_arguments_Check.r_g22 (c30 : f_arguments_fault.E) (c31 : f_arguments_isName.E) (c32 : f_slices_ContainsFunc_Param.E) (c33 : f_arguments_Check_c1.E) (k : Nat) (m0 : Nat) (x0 : List X_Param) (x2 : (Int) × (Int)) (x4 : Bool) (x5 : Int) (x6 : (Int) × ((List UInt8) × (List (Unit)))) (x7 : Int) (x12 : List X_Param) (x13 : Int) (x14 : Int) : f_arguments_Check.M_g22 c30 c31 c32 c33 k m0 (f_arguments_Check.fr_g22 x0 x2 x4 x5 x6 x7 x12 x13 x14) = gate k (f_arguments_Check.b_g22 c30 c31 c32 c33 (fun x0 x2 x3 x4 x12 x13 x14 => f_arguments_Check.M_l0 c30 c31 c32 c33 k m0  (f_arguments_Check.fr_l0 x0 x2 x3 x4 x12 x13 x14)) x0 x2 x4 x5 x6 x7 x12 x13 x14) := by kernel_rfl
theorem f_arguments_Check.r_g12 (c30 : f_arguments_fault.E) (c31 : f_arguments_isName.E) (c32 : f_slices_ContainsFunc_Param.E) (c33 : f_arguments_Check_c1.E) (k : Nat) (m0 : Nat) (x0 : List X_Param) (x2 : (Int) × (Int)) (x3 : Int) (x4 : Bool) (x5 : Int) (x6 : (Int) × ((List UInt8) × (List (Unit)))) (x7 : Int) (x12 : List X_Param) (x13 : Int) (x14 : Int) : f_arguments_Check.M_g12 c30 c31 c32 c33 k m0 (f_arguments_Check.fr_g12 x0 x2 x3 x4 x5 x6 x7 x12 x13 x14) = gate k (f_arguments_Check.b_g12 c30 c31 c32 c33 (fun x0 x2 x4 x5 x6 x7 x12 x13 x14 => f_arguments_Check.M_g22 c30 c31 c32 c33 k  m0 (f_arguments_Check.fr_g22 x0 x2 x4 x5 x6 x7 x12 x13 x14)) (fun x0 x2 x3 x4 x5 x6 x7 x12 x13 x14 => f_arguments_Check.M_g14 c30 c31 c32 c33 k  m0 (f_arguments_Check.fr_g14 x0 x2 x3 x4 x5 x6 x7 x12 x13 x14)) x0 x2 x3 x4 x5 x6 x7 x12 x13 x14) := by kernel_rfl
theorem f_arguments_Check.r_g14 (c30 : f_arguments_fault.E) (c31 : f_arguments_isName.E) (c32 : f_slices_ContainsFunc_Param.E) (c33 : f_arguments_Check_c1.E) (k : Nat) (m0 : Nat) (x0 : List X_Param) (x2 : (Int) × (Int)) (x3 : Int) (x4 : Bool) (x5 : Int) (x6 : (Int) × ((List UInt8) × (List (Unit)))) (x7 : Int) (x12 : List X_Param) (x13 : Int) (x14 : Int) : f_arguments_Check.M_g14 c30 c31 c32 c33 k m0 (f_arguments_Check.fr_g14 x0 x2 x3 x4 x5 x6 x7 x12 x13 x14) = gate k (f_arguments_Check.b_g14 c30 c31 c32 c33 (fun x0 x2 x4 x5 x6 x7 x12 x13 x14 => f_arguments_Check.M_g22 c30 c31 c32 c33 k  m0 (f_arguments_Check.fr_g22 x0 x2 x4 x5 x6 x7 x12 x13 x14)) (fun x0 x2 x3 x4 x5 x6 x7 x12 x13 x14 => f_arguments_Check.M_g16 c30 c31 c32 c33 k  m0 (f_arguments_Check.fr_g16 x0 x2 x3 x4 x5 x6 x7 x12 x13 x14)) x0 x2 x3 x4 x5 x6 x7 x12 x13 x14) := by kernel_rfl
theorem f_arguments_Check.r_g16 (c30 : f_arguments_fault.E) (c31 : f_arguments_isName.E) (c32 : f_slices_ContainsFunc_Param.E) (c33 : f_arguments_Check_c1.E) (k : Nat) (m0 : Nat) (x0 : List X_Param) (x2 : (Int) × (Int)) (x3 : Int) (x4 : Bool) (x5 : Int) (x6 : (Int) × ((List UInt8) × (List (Unit)))) (x7 : Int) (x12 : List X_Param) (x13 : Int) (x14 : Int) : f_arguments_Check.M_g16 c30 c31 c32 c33 k m0 (f_arguments_Check.fr_g16 x0 x2 x3 x4 x5 x6 x7 x12 x13 x14) = gate k (f_arguments_Check.b_g16 c30 c31 c32 c33 (fun x0 x2 x4 x5 x6 x7 x12 x13 x14 => f_arguments_Check.M_g22 c30 c31 c32 c33 k  m0 (f_arguments_Check.fr_g22 x0 x2 x4 x5 x6 x7 x12 x13 x14)) (fun x0 x2 x4 x5 x6 x7 x12 x13 x14 => f_arguments_Check.M_g18 c30 c31 c32 c33 k  m0 (f_arguments_Check.fr_g18 x0 x2 x4 x5 x6 x7 x12 x13 x14)) x0 x2 x3 x4 x5 x6 x7 x12 x13 x14) := by kernel_rfl
theorem f_arguments_Check.r_g18 (c30 : f_arguments_fault.E) (c31 : f_arguments_isName.E) (c32 : f_slices_ContainsFunc_Param.E) (c33 : f_arguments_Check_c1.E) (k : Nat) (m0 : Nat) (x0 : List X_Param) (x2 : (Int) × (Int)) (x4 : Bool) (x5 : Int) (x6 : (Int) × ((List UInt8) × (List (Unit)))) (x7 : Int) (x12 : List X_Param) (x13 : Int) (x14 : Int) : f_arguments_Check.M_g18 c30 c31 c32 c33 k m0 (f_arguments_Check.fr_g18 x0 x2 x4 x5 x6 x7 x12 x13 x14) = gate k (f_arguments_Check.b_g18 c30 c31 c32 c33 (fun x0 x2 x4 x5 x6 x7 x12 x13 x14 => f_arguments_Check.M_g22 c30 c31 c32 c33 k  m0 (f_arguments_Check.fr_g22 x0 x2 x4 x5 x6 x7 x12 x13 x14)) (fun x0 x2 x4 x5 x6 x7 x12 x13 x14 => f_arguments_Check.M_g20 c30 c31 c32 c33 k  m0 (f_arguments_Check.fr_g20 x0 x2 x4 x5 x6 x7 x12 x13 x14)) x0 x2 x4 x5 x6 x7 x12 x13 x14) := by kernel_rfl
theorem f_arguments_Check.r_g20 (c30 : f_arguments_fault.E) (c31 : f_arguments_isName.E) (c32 : f_slices_ContainsFunc_Param.E) (c33 : f_arguments_Check_c1.E) (k : Nat) (m0 : Nat) (x0 : List X_Param) (x2 : (Int) × (Int)) (x4 : Bool) (x5 : Int) (x6 : (Int) × ((List UInt8) × (List (Unit)))) (x7 : Int) (x12 : List X_Param) (x13 : Int) (x14 : Int) : f_arguments_Check.M_g20 c30 c31 c32 c33 k m0 (f_arguments_Check.fr_g20 x0 x2 x4 x5 x6 x7 x12 x13 x14) = gate k (f_arguments_Check.b_g20 c30 c31 c32 c33 (fun x0 x2 x4 x5 x6 x7 x12 x13 x14 => f_arguments_Check.M_g22 c30 c31 c32 c33 k  m0 (f_arguments_Check.fr_g22 x0 x2 x4 x5 x6 x7 x12 x13 x14)) x0 x2 x4 x5 x6 x7 x12 x13 x14) := by kernel_rfl
theorem f_arguments_Check.e_g22 (c30 : f_arguments_fault.E) (c31 : f_arguments_isName.E) (c32 : f_slices_ContainsFunc_Param.E) (c33 : f_arguments_Check_c1.E) (k : Nat) (m0 : Nat) (x0 : List X_Param) (x2 : (Int) × (Int)) (x4 : Bool) (x5 : Int) (x6 : (Int) × ((List UInt8) × (List (Unit)))) (x7 : Int) (x12 : List X_Param) (x13 : Int) (x14 : Int) : f_arguments_Check.M_g22 c30 c31 c32 c33 k m0 (f_arguments_Check.fr_g22 x0 x2 x4 x5 x6 x7 x12 x13 x14) = f_arguments_Check.g22 c30 c31 c32 c33 k (fun x0 x2 x3 x4 x12 x13 x14 => f_arguments_Check.M_l0 c30 c31 c32 c33 k m0  (f_arguments_Check.fr_l0 x0 x2 x3 x4 x12 x13 x14)) x0 x2 x4 x5 x6 x7 x12 x13 x14 := by
  rw [f_arguments_Check.r_g22]
  rfl
theorem f_arguments_Check.e_g20 (c30 : f_arguments_fault.E) (c31 : f_arguments_isName.E) (c32 : f_slices_ContainsFunc_Param.E) (c33 : f_arguments_Check_c1.E) (k : Nat) (m0 : Nat) (x0 : List X_Param) (x2 : (Int) × (Int)) (x4 : Bool) (x5 : Int) (x6 : (Int) × ((List UInt8) × (List (Unit)))) (x7 : Int) (x12 : List X_Param) (x13 : Int) (x14 : Int) : f_arguments_Check.M_g20 c30 c31 c32 c33 k m0 (f_arguments_Check.fr_g20 x0 x2 x4 x5 x6 x7 x12 x13 x14) = f_arguments_Check.g20 c30 c31 c32 c33 k (fun x0 x2 x3 x4 x12 x13 x14 => f_arguments_Check.M_l0 c30 c31 c32 c33 k m0  (f_arguments_Check.fr_l0 x0 x2 x3 x4 x12 x13 x14)) x0 x2 x4 x5 x6 x7 x12 x13 x14 := by
  rw [f_arguments_Check.r_g20]
  simp only [f_arguments_Check.e_g22]
  rfl
theorem f_arguments_Check.e_g18 (c30 : f_arguments_fault.E) (c31 : f_arguments_isName.E) (c32 : f_slices_ContainsFunc_Param.E) (c33 : f_arguments_Check_c1.E) (k : Nat) (m0 : Nat) (x0 : List X_Param) (x2 : (Int) × (Int)) (x4 : Bool) (x5 : Int) (x6 : (Int) × ((List UInt8) × (List (Unit)))) (x7 : Int) (x12 : List X_Param) (x13 : Int) (x14 : Int) : f_arguments_Check.M_g18 c30 c31 c32 c33 k m0 (f_arguments_Check.fr_g18 x0 x2 x4 x5 x6 x7 x12 x13 x14) = f_arguments_Check.g18 c30 c31 c32 c33 k (fun x0 x2 x3 x4 x12 x13 x14 => f_arguments_Check.M_l0 c30 c31 c32 c33 k m0  (f_arguments_Check.fr_l0 x0 x2 x3 x4 x12 x13 x14)) x0 x2 x4 x5 x6 x7 x12 x13 x14 := by
  rw [f_arguments_Check.r_g18]
  simp only [f_arguments_Check.e_g20, f_arguments_Check.e_g22]
  rfl
theorem f_arguments_Check.e_g16 (c30 : f_arguments_fault.E) (c31 : f_arguments_isName.E) (c32 : f_slices_ContainsFunc_Param.E) (c33 : f_arguments_Check_c1.E) (k : Nat) (m0 : Nat) (x0 : List X_Param) (x2 : (Int) × (Int)) (x3 : Int) (x4 : Bool) (x5 : Int) (x6 : (Int) × ((List UInt8) × (List (Unit)))) (x7 : Int) (x12 : List X_Param) (x13 : Int) (x14 : Int) : f_arguments_Check.M_g16 c30 c31 c32 c33 k m0 (f_arguments_Check.fr_g16 x0 x2 x3 x4 x5 x6 x7 x12 x13 x14) = f_arguments_Check.g16 c30 c31 c32 c33 k (fun x0 x2 x3 x4 x12 x13 x14 => f_arguments_Check.M_l0 c30 c31 c32 c33 k m0  (f_arguments_Check.fr_l0 x0 x2 x3 x4 x12 x13 x14)) x0 x2 x3 x4 x5 x6 x7 x12 x13 x14 := by
  rw [f_arguments_Check.r_g16]
  simp only [f_arguments_Check.e_g18, f_arguments_Check.e_g22]
  rfl
theorem f_arguments_Check.e_g14 (c30 : f_arguments_fault.E) (c31 : f_arguments_isName.E) (c32 : f_slices_ContainsFunc_Param.E) (c33 : f_arguments_Check_c1.E) (k : Nat) (m0 : Nat) (x0 : List X_Param) (x2 : (Int) × (Int)) (x3 : Int) (x4 : Bool) (x5 : Int) (x6 : (Int) × ((List UInt8) × (List (Unit)))) (x7 : Int) (x12 : List X_Param) (x13 : Int) (x14 : Int) : f_arguments_Check.M_g14 c30 c31 c32 c33 k m0 (f_arguments_Check.fr_g14 x0 x2 x3 x4 x5 x6 x7 x12 x13 x14) = f_arguments_Check.g14 c30 c31 c32 c33 k (fun x0 x2 x3 x4 x12 x13 x14 => f_arguments_Check.M_l0 c30 c31 c32 c33 k m0  (f_arguments_Check.fr_l0 x0 x2 x3 x4 x12 x13 x14)) x0 x2 x3 x4 x5 x6 x7 x12 x13 x14 := by
  rw [f_arguments_Check.r_g14]
  simp only [f_arguments_Check.e_g16, f_arguments_Check.e_g22]
  rfl
theorem f_arguments_Check.e_g12 (c30 : f_arguments_fault.E) (c31 : f_arguments_isName.E) (c32 : f_slices_ContainsFunc_Param.E) (c33 : f_arguments_Check_c1.E) (k : Nat) (m0 : Nat) (x0 : List X_Param) (x2 : (Int) × (Int)) (x3 : Int) (x4 : Bool) (x5 : Int) (x6 : (Int) × ((List UInt8) × (List (Unit)))) (x7 : Int) (x12 : List X_Param) (x13 : Int) (x14 : Int) : f_arguments_Check.M_g12 c30 c31 c32 c33 k m0 (f_arguments_Check.fr_g12 x0 x2 x3 x4 x5 x6 x7 x12 x13 x14) = f_arguments_Check.g12 c30 c31 c32 c33 k (fun x0 x2 x3 x4 x12 x13 x14 => f_arguments_Check.M_l0 c30 c31 c32 c33 k m0  (f_arguments_Check.fr_l0 x0 x2 x3 x4 x12 x13 x14)) x0 x2 x3 x4 x5 x6 x7 x12 x13 x14 := by
  rw [f_arguments_Check.r_g12]
  simp only [f_arguments_Check.e_g14, f_arguments_Check.e_g22]
  rfl
theorem f_arguments_Check.e_l0 (c30 : f_arguments_fault.E) (c31 : f_arguments_isName.E) (c32 : f_slices_ContainsFunc_Param.E) (c33 : f_arguments_Check_c1.E) (k n : Nat)  (x0 : List X_Param) (x2 : (Int) × (Int)) (x3 : Int) (x4 : Bool) (x12 : List X_Param) (x13 : Int) (x14 : Int) : f_arguments_Check.M_l0 c30 c31 c32 c33 k n  (f_arguments_Check.fr_l0 x0 x2 x3 x4 x12 x13 x14) = f_arguments_Check.l0 c30 c31 c32 c33 k  n x0 x2 x3 x4 x12 x13 x14 := by
  induction n generalizing x0 x2 x3 x4 x12 x13 x14 with
  | zero => rw [f_arguments_Check.z_l0]; rfl
  | succ n ih =>
    rw [f_arguments_Check.r_l0]
    simp only [f_arguments_Check.e_g12, f_arguments_Check.e_g22, ih]
    rfl
theorem f_arguments_Check.e (c30 : f_arguments_fault.E) (c31 : f_arguments_isName.E) (c32 : f_slices_ContainsFunc_Param.E) (c33 : f_arguments_Check_c1.E) (k : Nat) (a0 : List X_Param) : fn (f_arguments_Check.C c30 c31 c32 c33) k Try.f12 f_arguments_Check.A f_arguments_Check.R a0 = f_arguments_Check.f c30 c31 c32 c33 k a0 := by
  rw [f_arguments_Check.r]
  simp only [f_arguments_Check.e_l0]
  rfl
def f_arguments_Check.u (k : Nat) : f_arguments_Check.E := fun y => f_arguments_Check.f (f_arguments_fault.u k) (f_arguments_isName.u k) (f_slices_ContainsFunc_Param.u k) (f_arguments_Check_c1.u k) k y
theorem f_arguments_Check.ty (c30 : f_arguments_fault.E) (c31 : f_arguments_isName.E) (c32 : f_slices_ContainsFunc_Param.E) (c33 : f_arguments_Check_c1.E) : TyOk Try.prog (f_arguments_Check.C c30 c31 c32 c33) := tyOk_of (by kernel_rfl)
theorem f_arguments_Check.sound (k : Nat) : Sound Try.prog ⟨12, f_arguments_Check.A, f_arguments_Check.R, f_arguments_Check.u k⟩ := by
  have h := fn_sound (k := k) («as» := f_arguments_Check.A) (rs := f_arguments_Check.R) (f_arguments_Check.ty (f_arguments_fault.u k) (f_arguments_isName.u k) (f_slices_ContainsFunc_Param.u k) (f_arguments_Check_c1.u k)) (fun E h => by
    simp only [f_arguments_Check.C, List.mem_cons, List.not_mem_nil, or_false] at h
    rcases h with rfl | rfl | rfl | rfl
    · exact f_arguments_fault.sound k
    · exact f_arguments_isName.sound k
    · exact f_slices_ContainsFunc_Param.sound k
    · exact f_arguments_Check_c1.sound k) mixed Try.func12 (by kernel_rfl) (by kernel_rfl)
  have e : fn (f_arguments_Check.C (f_arguments_fault.u k) (f_arguments_isName.u k) (f_slices_ContainsFunc_Param.u k) (f_arguments_Check_c1.u k)) k Try.f12 f_arguments_Check.A f_arguments_Check.R = f_arguments_Check.u k := by
    funext y
    exact f_arguments_Check.e (f_arguments_fault.u k) (f_arguments_isName.u k) (f_slices_ContainsFunc_Param.u k) (f_arguments_Check_c1.u k) k y
  rw [e] at h
  exact h
/-! ### brindlewood/brindlewoodref7.At: f34 -/
abbrev f_ref7_At.A : List Sh := [(.d (.int .i64)), (.d (.int .i64))]
abbrev f_ref7_At.R : List Sh := [(.d Y_Fault)]
abbrev f_ref7_At.E : Type := X_Fault → Option X_Fault
def f_ref7_At.C  : Ctx := { ty := [(27, Y_Fault)], nf := [(27, 2)], by_ := [], env := [], spec := [] }
noncomputable def f_ref7_At.code : Code := Func.code Try.f34
noncomputable def f_ref7_At.fin  := kfin (f_ref7_At.C ) Try.f34 f_ref7_At.A f_ref7_At.R
def f_ref7_At.b   (a0 : Int) (a1 : Int) : Option X_Fault :=
  some (a0, a1)
def f_ref7_At.f  (k : Nat) (a0 : Int) (a1 : Int) : Option X_Fault := f_ref7_At.b   a0 a1
theorem f_ref7_At.r  (k : Nat) (a0 : Int) (a1 : Int) : fn (f_ref7_At.C ) k Try.f34 f_ref7_At.A f_ref7_At.R (a0, a1) = f_ref7_At.b   a0 a1 := by kernel_rfl
theorem f_ref7_At.e  (k : Nat) (a0 : Int) (a1 : Int) : fn (f_ref7_At.C ) k Try.f34 f_ref7_At.A f_ref7_At.R (a0, a1) = f_ref7_At.f  k a0 a1 := by
  rw [f_ref7_At.r]
  rfl
def f_ref7_At.u (k : Nat) : f_ref7_At.E := fun y => f_ref7_At.f  k y.1 y.2
theorem f_ref7_At.ty  : TyOk Try.prog (f_ref7_At.C ) := tyOk_of (by kernel_rfl)
theorem f_ref7_At.sound (k : Nat) : Sound Try.prog ⟨34, f_ref7_At.A, f_ref7_At.R, f_ref7_At.u k⟩ := by
  have h := fn_sound (k := k) («as» := f_ref7_At.A) (rs := f_ref7_At.R) (f_ref7_At.ty ) (fun E h => by cases h) mixed Try.func34 (by kernel_rfl) (by kernel_rfl)
  have e : fn (f_ref7_At.C ) k Try.f34 f_ref7_At.A f_ref7_At.R = f_ref7_At.u k := by
    funext y
    exact f_ref7_At.e  k y.1 y.2
  rw [e] at h
  exact h
/-! ### brindlewood/brindlewoodref7.NameOk: f35 -/
abbrev f_ref7_NameOk.A : List Sh := [(.d .str)]
abbrev f_ref7_NameOk.R : List Sh := [(.d .bool)]
abbrev f_ref7_NameOk.E : Type := (List UInt8) → Option (Bool)
def f_ref7_NameOk.C  : Ctx := { ty := [(3, (.int .i64)), (5, (.int .u8)), (9, .str)], nf := [], by_ := [], env := [], spec := [(0, [.d 0 .str, .d 3 (.int .i64)]), (100008, [.d 0 .str, .d 3 (.int .i64), .d 4 (.int .u8), .d 5 .bool])] }
noncomputable def f_ref7_NameOk.code : Code := Func.code Try.f35
noncomputable def f_ref7_NameOk.fin  := kfin (f_ref7_NameOk.C ) Try.f35 f_ref7_NameOk.A f_ref7_NameOk.R
def f_ref7_NameOk.b  (r_l0 : (List UInt8) → (Int) → Option (Bool)) (a0 : List UInt8) : Option (Bool) :=
  bif (decide (((List.length a0) : Int) < (1 : Int))) then
    some false
  else
    bif (decide (((List.length a0) : Int) > (24 : Int))) then
      some false
    else
      r_l0 a0 (0 : Int)
def f_ref7_NameOk.b_l0  (r_g8 : (List UInt8) → (Int) → (Int) → (Bool) → Option (Bool)) (x0 : List UInt8) (x3 : Int) : Option (Bool) :=
  bif (decide (x3 < ((List.length x0) : Int))) then
    if 0 ≤ x3 ∧ x3 < ((List.length x0) : Int) then
      bif (((List.getD x0 (Int.toNat x3) 0).toNat : Int) == (95 : Int)) then
        r_g8 x0 x3 ((List.getD x0 (Int.toNat x3) 0).toNat : Int) true
      else
        bif (decide ((97 : Int) ≤ ((List.getD x0 (Int.toNat x3) 0).toNat : Int))) then
          bif (decide (((List.getD x0 (Int.toNat x3) 0).toNat : Int) ≤ (122 : Int))) then
            r_g8 x0 x3 ((List.getD x0 (Int.toNat x3) 0).toNat : Int) true
          else
            bif (decide ((65 : Int) ≤ ((List.getD x0 (Int.toNat x3) 0).toNat : Int))) then
              r_g8 x0 x3 ((List.getD x0 (Int.toNat x3) 0).toNat : Int) (decide (((List.getD x0 (Int.toNat x3) 0).toNat : Int) ≤ (90 : Int)))
            else
              r_g8 x0 x3 ((List.getD x0 (Int.toNat x3) 0).toNat : Int) false
        else
          bif (decide ((65 : Int) ≤ ((List.getD x0 (Int.toNat x3) 0).toNat : Int))) then
            r_g8 x0 x3 ((List.getD x0 (Int.toNat x3) 0).toNat : Int) (decide (((List.getD x0 (Int.toNat x3) 0).toNat : Int) ≤ (90 : Int)))
          else
            r_g8 x0 x3 ((List.getD x0 (Int.toNat x3) 0).toNat : Int) false
    else none
  else
    some true
def f_ref7_NameOk.b_g8  (n_l0 : (List UInt8) → (Int) → Option (Bool)) (x0 : List UInt8) (x3 : Int) (x4 : Int) (x5 : Bool) : Option (Bool) :=
  bif (!x5) then
    bif (x3 == (0 : Int)) then
      some false
    else
      bif (decide (x4 < (48 : Int))) then
        some false
      else
        bif (decide (x4 > (57 : Int))) then
          some false
        else
          n_l0 x0 (IntKind.i64.wrap (x3 + (1 : Int)))
  else
    n_l0 x0 (IntKind.i64.wrap (x3 + (1 : Int)))
def f_ref7_NameOk.g8  (k : Nat) (n_l0 : (List UInt8) → (Int) → Option (Bool)) (x0 : List UInt8) (x3 : Int) (x4 : Int) (x5 : Bool) : Option (Bool) := gate k (f_ref7_NameOk.b_g8  n_l0 x0 x3 x4 x5)
def f_ref7_NameOk.l0  (k : Nat)  : Nat → (List UInt8) → (Int) → Option (Bool)
  | 0, _, _ => none
  | n + 1, x0, x3 => f_ref7_NameOk.b_l0  (f_ref7_NameOk.g8  k (fun x0 x3 => f_ref7_NameOk.l0  k  n x0 x3)) x0 x3
def f_ref7_NameOk.f  (k : Nat) (a0 : List UInt8) : Option (Bool) := f_ref7_NameOk.b  (f_ref7_NameOk.l0  k k) a0
noncomputable def f_ref7_NameOk.M_l0  (k n : Nat)  (s : St) : Option (Bool) := atLoop (f_ref7_NameOk.C ) k n [1, 1, 0, 1, 0] [] f_ref7_NameOk.code (f_ref7_NameOk.fin ) s
noncomputable def f_ref7_NameOk.fr_l0 (x0 : List UInt8) (x3 : Int) : St := ⟨(((List.replicate 55 V.un).set 0 (V.dat .str x0)).set 3 (V.dat (.int .i64) x3)), []⟩
noncomputable def f_ref7_NameOk.M_g8  (k : Nat) (m0 : Nat) (s : St) : Option (Bool) := atGate (f_ref7_NameOk.C ) k [1, 1, 0, 1, 0, 0, 1, 0, 0, 1, 1, 0] [m0] f_ref7_NameOk.code (f_ref7_NameOk.fin ) s
noncomputable def f_ref7_NameOk.fr_g8 (x0 : List UInt8) (x3 : Int) (x4 : Int) (x5 : Bool) : St := ⟨(((((List.replicate 55 V.un).set 0 (V.dat .str x0)).set 3 (V.dat (.int .i64) x3)).set 4 (V.dat (.int .u8) x4)).set 5 (V.dat .bool x5)), []⟩
theorem f_ref7_NameOk.r  (k : Nat) (a0 : List UInt8) : fn (f_ref7_NameOk.C ) k Try.f35 f_ref7_NameOk.A f_ref7_NameOk.R a0 = f_ref7_NameOk.b  (fun x0 x3 => f_ref7_NameOk.M_l0  k k  (f_ref7_NameOk.fr_l0 x0 x3)) a0 := by kernel_rfl
theorem f_ref7_NameOk.z_l0  (k : Nat)  (s : St) : f_ref7_NameOk.M_l0  k 0  s = none := by kernel_rfl
theorem f_ref7_NameOk.r_l0  (k n : Nat)  (x0 : List UInt8) (x3 : Int) : f_ref7_NameOk.M_l0  k (n + 1)  (f_ref7_NameOk.fr_l0 x0 x3) = f_ref7_NameOk.b_l0  (fun x0 x3 x4 x5 => f_ref7_NameOk.M_g8  k  n (f_ref7_NameOk.fr_g8 x0 x3 x4 x5)) x0 x3 := by kernel_rfl
theorem f_ref7_NameOk.r_g8  (k : Nat) (m0 : Nat) (x0 : List UInt8) (x3 : Int) (x4 : Int) (x5 : Bool) : f_ref7_NameOk.M_g8  k m0 (f_ref7_NameOk.fr_g8 x0 x3 x4 x5) = gate k (f_ref7_NameOk.b_g8  (fun x0 x3 => f_ref7_NameOk.M_l0  k m0  (f_ref7_NameOk.fr_l0 x0 x3)) x0 x3 x4 x5) := by kernel_rfl
theorem f_ref7_NameOk.e_g8  (k : Nat) (m0 : Nat) (x0 : List UInt8) (x3 : Int) (x4 : Int) (x5 : Bool) : f_ref7_NameOk.M_g8  k m0 (f_ref7_NameOk.fr_g8 x0 x3 x4 x5) = f_ref7_NameOk.g8  k (fun x0 x3 => f_ref7_NameOk.M_l0  k m0  (f_ref7_NameOk.fr_l0 x0 x3)) x0 x3 x4 x5 := by
  rw [f_ref7_NameOk.r_g8]
  rfl
theorem f_ref7_NameOk.e_l0  (k n : Nat)  (x0 : List UInt8) (x3 : Int) : f_ref7_NameOk.M_l0  k n  (f_ref7_NameOk.fr_l0 x0 x3) = f_ref7_NameOk.l0  k  n x0 x3 := by
  induction n generalizing x0 x3 with
  | zero => rw [f_ref7_NameOk.z_l0]; rfl
  | succ n ih =>
    rw [f_ref7_NameOk.r_l0]
    simp only [f_ref7_NameOk.e_g8, ih]
    rfl
theorem f_ref7_NameOk.e  (k : Nat) (a0 : List UInt8) : fn (f_ref7_NameOk.C ) k Try.f35 f_ref7_NameOk.A f_ref7_NameOk.R a0 = f_ref7_NameOk.f  k a0 := by
  rw [f_ref7_NameOk.r]
  simp only [f_ref7_NameOk.e_l0]
  rfl
def f_ref7_NameOk.u (k : Nat) : f_ref7_NameOk.E := fun y => f_ref7_NameOk.f  k y
theorem f_ref7_NameOk.ty  : TyOk Try.prog (f_ref7_NameOk.C ) := tyOk_of (by kernel_rfl)
theorem f_ref7_NameOk.sound (k : Nat) : Sound Try.prog ⟨35, f_ref7_NameOk.A, f_ref7_NameOk.R, f_ref7_NameOk.u k⟩ := by
  have h := fn_sound (k := k) («as» := f_ref7_NameOk.A) (rs := f_ref7_NameOk.R) (f_ref7_NameOk.ty ) (fun E h => by cases h) mixed Try.func35 (by kernel_rfl) (by kernel_rfl)
  have e : fn (f_ref7_NameOk.C ) k Try.f35 f_ref7_NameOk.A f_ref7_NameOk.R = f_ref7_NameOk.u k := by
    funext y
    exact f_ref7_NameOk.e  k y
  rw [e] at h
  exact h
/-! ### brindlewood/brindlewoodref7.ParamsFault: f13 -/
abbrev f_ref7_ParamsFault.A : List Sh := [(.d (.sl 51 Y_Param))]
abbrev f_ref7_ParamsFault.R : List Sh := [(.d Y_Fault)]
abbrev f_ref7_ParamsFault.E : Type := (List X_Param) → Option X_Fault
def f_ref7_ParamsFault.C (c34 : f_ref7_At.E) (c35 : f_ref7_NameOk.E) : Ctx := { ty := [(3, (.int .i64)), (9, .str), (25, (.sl 51 Y_Param)), (27, Y_Fault), (49, (.sl 132 (.blob 15))), (51, Y_Param)], nf := [(27, 2), (51, 3)], by_ := [(51, 48), (132, 232)], env := [⟨34, f_ref7_At.A, f_ref7_At.R, c34⟩, ⟨35, f_ref7_NameOk.A, f_ref7_NameOk.R, c35⟩], spec := [(0, [.d 0 (.sl 51 Y_Param), .bx 2 600002 (.d Y_Fault), .d 18 (.sl 51 Y_Param), .d 19 (.int .i64), .d 20 (.int .i64)]), (2, [.d 0 (.sl 51 Y_Param), .bx 2 600002 (.d Y_Fault), .d 3 (.int .i64), .bx 4 600004 (.d Y_Param), .d 5 .bool, .d 6 .bool, .d 18 (.sl 51 Y_Param), .d 19 (.int .i64), .d 20 (.int .i64), .d 27 (.sl 51 Y_Param), .d 28 (.int .i64), .d 29 (.int .i64)]), (100011, [.d 0 (.sl 51 Y_Param), .bx 2 600002 (.d Y_Fault), .d 3 (.int .i64), .bx 4 600004 (.d Y_Param), .d 5 .bool, .d 6 .bool, .bx 8 600008 (.d Y_Param), .d 18 (.sl 51 Y_Param), .d 19 (.int .i64), .d 20 (.int .i64), .d 27 (.sl 51 Y_Param), .d 28 (.int .i64), .d 29 (.int .i64)]), (100016, [.d 0 (.sl 51 Y_Param), .bx 2 600002 (.d Y_Fault), .d 3 (.int .i64), .bx 4 600004 (.d Y_Param), .d 5 .bool, .d 6 .bool, .d 9 (.int .i64), .d 18 (.sl 51 Y_Param), .d 19 (.int .i64), .d 20 (.int .i64)]), (100018, [.d 0 (.sl 51 Y_Param), .bx 2 600002 (.d Y_Fault), .d 3 (.int .i64), .bx 4 600004 (.d Y_Param), .d 5 .bool, .d 6 .bool, .d 9 (.int .i64), .d 10 .bool, .d 11 .bool, .d 12 .bool, .d 18 (.sl 51 Y_Param), .d 19 (.int .i64), .d 20 (.int .i64)]), (100019, [.d 0 (.sl 51 Y_Param), .bx 2 600002 (.d Y_Fault), .d 3 (.int .i64), .bx 4 600004 (.d Y_Param), .d 5 .bool, .d 6 .bool, .d 9 (.int .i64), .d 10 .bool, .d 11 .bool, .d 12 .bool, .d 13 .bool, .d 18 (.sl 51 Y_Param), .d 19 (.int .i64), .d 20 (.int .i64)]), (100021, [.d 0 (.sl 51 Y_Param), .bx 2 600002 (.d Y_Fault), .d 3 (.int .i64), .bx 4 600004 (.d Y_Param), .d 5 .bool, .d 6 .bool, .d 9 (.int .i64), .d 10 .bool, .d 11 .bool, .d 12 .bool, .d 13 .bool, .d 18 (.sl 51 Y_Param), .d 19 (.int .i64), .d 20 (.int .i64)]), (100025, [.d 0 (.sl 51 Y_Param), .bx 2 600002 (.d Y_Fault), .d 3 (.int .i64), .bx 4 600004 (.d Y_Param), .d 6 .bool, .d 9 (.int .i64), .d 10 .bool, .d 11 .bool, .d 12 .bool, .d 13 .bool, .d 18 (.sl 51 Y_Param), .d 19 (.int .i64), .d 20 (.int .i64)]), (100027, [.d 0 (.sl 51 Y_Param), .bx 2 600002 (.d Y_Fault), .d 3 (.int .i64), .bx 4 600004 (.d Y_Param), .d 6 .bool, .d 9 (.int .i64), .d 10 .bool, .d 11 .bool, .d 12 .bool, .d 13 .bool, .d 18 (.sl 51 Y_Param), .d 19 (.int .i64), .d 20 (.int .i64)]), (100029, [.d 0 (.sl 51 Y_Param), .bx 2 600002 (.d Y_Fault), .d 3 (.int .i64), .bx 4 600004 (.d Y_Param), .d 6 .bool, .d 9 (.int .i64), .d 12 .bool, .d 13 .bool, .d 18 (.sl 51 Y_Param), .d 19 (.int .i64), .d 20 (.int .i64)]), (100030, [.d 0 (.sl 51 Y_Param), .bx 2 600002 (.d Y_Fault), .d 3 (.int .i64), .bx 4 600004 (.d Y_Param), .d 6 .bool, .d 12 .bool, .d 13 .bool, .d 18 (.sl 51 Y_Param), .d 19 (.int .i64), .d 20 (.int .i64)]), (100031, [.d 0 (.sl 51 Y_Param), .bx 2 600002 (.d Y_Fault), .d 3 (.int .i64), .bx 4 600004 (.d Y_Param), .d 6 .bool, .d 18 (.sl 51 Y_Param), .d 19 (.int .i64), .d 20 (.int .i64)])] }
noncomputable def f_ref7_ParamsFault.code : Code := Func.code Try.f13
noncomputable def f_ref7_ParamsFault.fin (c34 : f_ref7_At.E) (c35 : f_ref7_NameOk.E) := kfin (f_ref7_ParamsFault.C c34 c35) Try.f13 f_ref7_ParamsFault.A f_ref7_ParamsFault.R
def f_ref7_ParamsFault.b (c34 : f_ref7_At.E) (c35 : f_ref7_NameOk.E) (r_l0 : (List X_Param) → X_Fault → (List X_Param) → (Int) → (Int) → Option X_Fault) (a0 : List X_Param) : Option X_Fault :=
  bif (decide (((List.length a0) : Int) > (12 : Int))) then
    (c34 ((2 : Int), (-1 : Int))).bind fun y1 =>
      some y1
  else
    r_l0 a0 ((0 : Int), (0 : Int)) a0 ((List.length a0) : Int) (0 : Int)
def f_ref7_ParamsFault.b_l0 (c34 : f_ref7_At.E) (c35 : f_ref7_NameOk.E) (r_l2 : (List X_Param) → X_Fault → (Int) → X_Param → (Bool) → (Bool) → (List X_Param) → (Int) → (Int) → (List X_Param) → (Int) → (Int) → Option X_Fault) (x0 : List X_Param) (x2 : (Int) × (Int)) (x18 : List X_Param) (x19 : Int) (x20 : Int) : Option X_Fault :=
  bif (decide (x20 < x19)) then
    if 0 ≤ x20 ∧ x20 < ((List.length x18) : Int) then
      if 0 ≤ (0 : Int) ∧ (0 : Int) ≤ x20 ∧ x20 ≤ ((List.length x0) : Int) then
        r_l2 x0 x2 x20 (List.getD x18 (Int.toNat x20) ((0 : Int), ([], []))) false false x18 x19 x20 (List.drop (Int.toNat (0 : Int)) (List.take (Int.toNat x20) x0)) ((List.length (List.drop (Int.toNat (0 : Int)) (List.take (Int.toNat x20) x0))) : Int) (0 : Int)
      else none
    else none
  else
    some ((0 : Int), (0 : Int))
def f_ref7_ParamsFault.b_l2 (c34 : f_ref7_At.E) (c35 : f_ref7_NameOk.E) (r_g11 : (List X_Param) → X_Fault → (Int) → X_Param → (Bool) → (Bool) → X_Param → (List X_Param) → (Int) → (Int) → (List X_Param) → (Int) → (Int) → Option X_Fault) (r_g16 : (List X_Param) → X_Fault → (Int) → X_Param → (Bool) → (Bool) → (Int) → (List X_Param) → (Int) → (Int) → Option X_Fault) (x0 : List X_Param) (x2 : (Int) × (Int)) (x3 : Int) (x4 : (Int) × ((List UInt8) × (List (Unit)))) (x5 : Bool) (x6 : Bool) (x18 : List X_Param) (x19 : Int) (x20 : Int) (x27 : List X_Param) (x28 : Int) (x29 : Int) : Option X_Fault :=
  bif (decide (x29 < x28)) then
    if 0 ≤ x29 ∧ x29 < ((List.length x27) : Int) then
      bif x5 then
        r_g11 x0 x2 x3 x4 true x6 (List.getD x27 (Int.toNat x29) ((0 : Int), ([], []))) x18 x19 x20 x27 x28 x29
      else
        bif ((((List.getD x27 (Int.toNat x29) ((0 : Int), ([], []))).2).1) == x4.2.1) then
          r_g11 x0 x2 x3 x4 (x4.2.1 != []) x6 (List.getD x27 (Int.toNat x29) ((0 : Int), ([], []))) x18 x19 x20 x27 x28 x29
        else
          r_g11 x0 x2 x3 x4 false x6 (List.getD x27 (Int.toNat x29) ((0 : Int), ([], []))) x18 x19 x20 x27 x28 x29
    else none
  else
    bif (decide (x3 > (0 : Int))) then
      if 0 ≤ (IntKind.i64.wrap (x3 - (1 : Int))) ∧ (IntKind.i64.wrap (x3 - (1 : Int))) < ((List.length x0) : Int) then
        r_g16 x0 x2 x3 x4 x5 x6 ((List.getD x0 (Int.toNat (IntKind.i64.wrap (x3 - (1 : Int)))) ((0 : Int), ([], []))).1) x18 x19 x20
      else none
    else
      r_g16 x0 x2 x3 x4 x5 x6 (-1 : Int) x18 x19 x20
def f_ref7_ParamsFault.b_g11 (c34 : f_ref7_At.E) (c35 : f_ref7_NameOk.E) (n_l2 : (List X_Param) → X_Fault → (Int) → X_Param → (Bool) → (Bool) → (List X_Param) → (Int) → (Int) → (List X_Param) → (Int) → (Int) → Option X_Fault) (x0 : List X_Param) (x2 : (Int) × (Int)) (x3 : Int) (x4 : (Int) × ((List UInt8) × (List (Unit)))) (x5 : Bool) (x6 : Bool) (x8 : (Int) × ((List UInt8) × (List (Unit)))) (x18 : List X_Param) (x19 : Int) (x20 : Int) (x27 : List X_Param) (x28 : Int) (x29 : Int) : Option X_Fault :=
  bif x6 then
    n_l2 x0 x2 x3 x4 x5 true x18 x19 x20 x27 x28 (IntKind.i64.wrap (x29 + (1 : Int)))
  else
    n_l2 x0 x2 x3 x4 x5 (decide (((List.length x8.2.2) : Int) > (0 : Int))) x18 x19 x20 x27 x28 (IntKind.i64.wrap (x29 + (1 : Int)))
def f_ref7_ParamsFault.b_g16 (c34 : f_ref7_At.E) (c35 : f_ref7_NameOk.E) (r_g18 : (List X_Param) → X_Fault → (Int) → X_Param → (Bool) → (Bool) → (Int) → (Bool) → (Bool) → (Bool) → (List X_Param) → (Int) → (Int) → Option X_Fault) (x0 : List X_Param) (x2 : (Int) × (Int)) (x3 : Int) (x4 : (Int) × ((List UInt8) × (List (Unit)))) (x5 : Bool) (x6 : Bool) (x9 : Int) (x18 : List X_Param) (x19 : Int) (x20 : Int) : Option X_Fault :=
  bif (x4.1 == (1 : Int)) then
    r_g18 x0 x2 x3 x4 x5 x6 x9 (x4.1 == (1 : Int)) (x4.1 == (3 : Int)) (x4.2.1 == []) x18 x19 x20
  else
    r_g18 x0 x2 x3 x4 x5 x6 x9 (x4.1 == (1 : Int)) (x4.1 == (3 : Int)) false x18 x19 x20
def f_ref7_ParamsFault.b_g18 (c34 : f_ref7_At.E) (c35 : f_ref7_NameOk.E) (r_g19 : (List X_Param) → X_Fault → (Int) → X_Param → (Bool) → (Bool) → (Int) → (Bool) → (Bool) → (Bool) → (Bool) → (List X_Param) → (Int) → (Int) → Option X_Fault) (x0 : List X_Param) (x2 : (Int) × (Int)) (x3 : Int) (x4 : (Int) × ((List UInt8) × (List (Unit)))) (x5 : Bool) (x6 : Bool) (x9 : Int) (x10 : Bool) (x11 : Bool) (x12 : Bool) (x18 : List X_Param) (x19 : Int) (x20 : Int) : Option X_Fault :=
  bif (decide ((IntKind.i64.wrap (x3 + (1 : Int))) < ((List.length x0) : Int))) then
    if 0 ≤ (IntKind.i64.wrap (x3 + (1 : Int))) ∧ (IntKind.i64.wrap (x3 + (1 : Int))) < ((List.length x0) : Int) then
      r_g19 x0 x2 x3 x4 x5 x6 x9 x10 x11 x12 (((List.getD x0 (Int.toNat (IntKind.i64.wrap (x3 + (1 : Int)))) ((0 : Int), ([], []))).1) == (2 : Int)) x18 x19 x20
    else none
  else
    r_g19 x0 x2 x3 x4 x5 x6 x9 x10 x11 x12 false x18 x19 x20
def f_ref7_ParamsFault.b_g19 (c34 : f_ref7_At.E) (c35 : f_ref7_NameOk.E) (r_g21 : (List X_Param) → X_Fault → (Int) → X_Param → (Bool) → (Bool) → (Int) → (Bool) → (Bool) → (Bool) → (Bool) → (List X_Param) → (Int) → (Int) → Option X_Fault) (x0 : List X_Param) (x2 : (Int) × (Int)) (x3 : Int) (x4 : (Int) × ((List UInt8) × (List (Unit)))) (x5 : Bool) (x6 : Bool) (x9 : Int) (x10 : Bool) (x11 : Bool) (x12 : Bool) (x13 : Bool) (x18 : List X_Param) (x19 : Int) (x20 : Int) : Option X_Fault :=
  bif (x4.1 != (0 : Int)) then
    bif (x4.1 != (2 : Int)) then
      bif (!x10) then
        bif (!x11) then
          (c34 ((5 : Int), x3)).bind fun y2 =>
            some y2
        else
          r_g21 x0 x2 x3 x4 x5 x6 x9 x10 x11 x12 x13 x18 x19 x20
      else
        r_g21 x0 x2 x3 x4 x5 x6 x9 x10 x11 x12 x13 x18 x19 x20
    else
      r_g21 x0 x2 x3 x4 x5 x6 x9 x10 x11 x12 x13 x18 x19 x20
  else
    r_g21 x0 x2 x3 x4 x5 x6 x9 x10 x11 x12 x13 x18 x19 x20
def f_ref7_ParamsFault.b_g21 (c34 : f_ref7_At.E) (c35 : f_ref7_NameOk.E) (r_g25 : (List X_Param) → X_Fault → (Int) → X_Param → (Bool) → (Int) → (Bool) → (Bool) → (Bool) → (Bool) → (List X_Param) → (Int) → (Int) → Option X_Fault) (x0 : List X_Param) (x2 : (Int) × (Int)) (x3 : Int) (x4 : (Int) × ((List UInt8) × (List (Unit)))) (x5 : Bool) (x6 : Bool) (x9 : Int) (x10 : Bool) (x11 : Bool) (x12 : Bool) (x13 : Bool) (x18 : List X_Param) (x19 : Int) (x20 : Int) : Option X_Fault :=
  bif (!x12) then
    (c35 x4.2.1).bind fun y3 =>
      bif (!y3) then
        (c34 ((7 : Int), x3)).bind fun y4 =>
          some y4
      else
        bif x5 then
          (c34 ((8 : Int), x3)).bind fun y5 =>
            some y5
        else
          r_g25 x0 x2 x3 x4 x6 x9 x10 x11 x12 x13 x18 x19 x20
  else
    bif x5 then
      (c34 ((8 : Int), x3)).bind fun y15 =>
        some y15
    else
      r_g25 x0 x2 x3 x4 x6 x9 x10 x11 x12 x13 x18 x19 x20
def f_ref7_ParamsFault.b_g25 (c34 : f_ref7_At.E) (c35 : f_ref7_NameOk.E) (r_g27 : (List X_Param) → X_Fault → (Int) → X_Param → (Bool) → (Int) → (Bool) → (Bool) → (Bool) → (Bool) → (List X_Param) → (Int) → (Int) → Option X_Fault) (x0 : List X_Param) (x2 : (Int) × (Int)) (x3 : Int) (x4 : (Int) × ((List UInt8) × (List (Unit)))) (x6 : Bool) (x9 : Int) (x10 : Bool) (x11 : Bool) (x12 : Bool) (x13 : Bool) (x18 : List X_Param) (x19 : Int) (x20 : Int) : Option X_Fault :=
  bif (decide (((List.length x4.2.2) : Int) > (1 : Int))) then
    (c34 ((6 : Int), x3)).bind fun y6 =>
      some y6
  else
    bif (((List.length x4.2.2) : Int) == (1 : Int)) then
      bif x10 then
        (c34 ((6 : Int), x3)).bind fun y7 =>
          some y7
      else
        bif x11 then
          (c34 ((6 : Int), x3)).bind fun y8 =>
            some y8
        else
          r_g27 x0 x2 x3 x4 x6 x9 x10 x11 x12 x13 x18 x19 x20
    else
      r_g27 x0 x2 x3 x4 x6 x9 x10 x11 x12 x13 x18 x19 x20
def f_ref7_ParamsFault.b_g27 (c34 : f_ref7_At.E) (c35 : f_ref7_NameOk.E) (n_l0 : (List X_Param) → X_Fault → (List X_Param) → (Int) → (Int) → Option X_Fault) (r_g29 : (List X_Param) → X_Fault → (Int) → X_Param → (Bool) → (Int) → (Bool) → (Bool) → (List X_Param) → (Int) → (Int) → Option X_Fault) (x0 : List X_Param) (x2 : (Int) × (Int)) (x3 : Int) (x4 : (Int) × ((List UInt8) × (List (Unit)))) (x6 : Bool) (x9 : Int) (x10 : Bool) (x11 : Bool) (x12 : Bool) (x13 : Bool) (x18 : List X_Param) (x19 : Int) (x20 : Int) : Option X_Fault :=
  bif (decide (x4.1 < x9)) then
    bif (decide (x4.1 < x9)) then
      (c34 ((11 : Int), x3)).bind fun y9 =>
        some y9
    else
      n_l0 x0 x2 x18 x19 (IntKind.i64.wrap (x20 + (1 : Int)))
  else
    bif x10 then
      bif (x4.1 == x9) then
        bif (x4.1 == x9) then
          (c34 ((11 : Int), x3)).bind fun y10 =>
            some y10
        else
          n_l0 x0 x2 x18 x19 (IntKind.i64.wrap (x20 + (1 : Int)))
      else
        r_g29 x0 x2 x3 x4 x6 x9 x12 x13 x18 x19 x20
    else
      bif x11 then
        bif (x4.1 == x9) then
          bif (x4.1 == x9) then
            (c34 ((11 : Int), x3)).bind fun y14 =>
              some y14
          else
            n_l0 x0 x2 x18 x19 (IntKind.i64.wrap (x20 + (1 : Int)))
        else
          r_g29 x0 x2 x3 x4 x6 x9 x12 x13 x18 x19 x20
      else
        r_g29 x0 x2 x3 x4 x6 x9 x12 x13 x18 x19 x20
def f_ref7_ParamsFault.b_g29 (c34 : f_ref7_At.E) (c35 : f_ref7_NameOk.E) (n_l0 : (List X_Param) → X_Fault → (List X_Param) → (Int) → (Int) → Option X_Fault) (r_g30 : (List X_Param) → X_Fault → (Int) → X_Param → (Bool) → (Bool) → (Bool) → (List X_Param) → (Int) → (Int) → Option X_Fault) (x0 : List X_Param) (x2 : (Int) × (Int)) (x3 : Int) (x4 : (Int) × ((List UInt8) × (List (Unit)))) (x6 : Bool) (x9 : Int) (x12 : Bool) (x13 : Bool) (x18 : List X_Param) (x19 : Int) (x20 : Int) : Option X_Fault :=
  bif (x4.1 == (2 : Int)) then
    bif (decide (x9 ≤ (0 : Int))) then
      bif (decide (x9 ≤ (0 : Int))) then
        (c34 ((11 : Int), x3)).bind fun y11 =>
          some y11
      else
        n_l0 x0 x2 x18 x19 (IntKind.i64.wrap (x20 + (1 : Int)))
    else
      r_g30 x0 x2 x3 x4 x6 x12 x13 x18 x19 x20
  else
    r_g30 x0 x2 x3 x4 x6 x12 x13 x18 x19 x20
def f_ref7_ParamsFault.b_g30 (c34 : f_ref7_At.E) (c35 : f_ref7_NameOk.E) (n_l0 : (List X_Param) → X_Fault → (List X_Param) → (Int) → (Int) → Option X_Fault) (r_g31 : (List X_Param) → X_Fault → (Int) → X_Param → (Bool) → (List X_Param) → (Int) → (Int) → Option X_Fault) (x0 : List X_Param) (x2 : (Int) × (Int)) (x3 : Int) (x4 : (Int) × ((List UInt8) × (List (Unit)))) (x6 : Bool) (x12 : Bool) (x13 : Bool) (x18 : List X_Param) (x19 : Int) (x20 : Int) : Option X_Fault :=
  bif x12 then
    bif (!x13) then
      bif (!x13) then
        (c34 ((11 : Int), x3)).bind fun y12 =>
          some y12
      else
        n_l0 x0 x2 x18 x19 (IntKind.i64.wrap (x20 + (1 : Int)))
    else
      r_g31 x0 x2 x3 x4 x6 x18 x19 x20
  else
    r_g31 x0 x2 x3 x4 x6 x18 x19 x20
def f_ref7_ParamsFault.b_g31 (c34 : f_ref7_At.E) (c35 : f_ref7_NameOk.E) (n_l0 : (List X_Param) → X_Fault → (List X_Param) → (Int) → (Int) → Option X_Fault) (x0 : List X_Param) (x2 : (Int) × (Int)) (x3 : Int) (x4 : (Int) × ((List UInt8) × (List (Unit)))) (x6 : Bool) (x18 : List X_Param) (x19 : Int) (x20 : Int) : Option X_Fault :=
  bif (x4.1 == (0 : Int)) then
    bif x6 then
      bif (((List.length x4.2.2) : Int) == (0 : Int)) then
        (c34 ((11 : Int), x3)).bind fun y13 =>
          some y13
      else
        n_l0 x0 x2 x18 x19 (IntKind.i64.wrap (x20 + (1 : Int)))
    else
      n_l0 x0 x2 x18 x19 (IntKind.i64.wrap (x20 + (1 : Int)))
  else
    n_l0 x0 x2 x18 x19 (IntKind.i64.wrap (x20 + (1 : Int)))
def f_ref7_ParamsFault.g11 (c34 : f_ref7_At.E) (c35 : f_ref7_NameOk.E) (k : Nat) (n_l0 : (List X_Param) → X_Fault → (List X_Param) → (Int) → (Int) → Option X_Fault) (n_l2 : (List X_Param) → X_Fault → (Int) → X_Param → (Bool) → (Bool) → (List X_Param) → (Int) → (Int) → (List X_Param) → (Int) → (Int) → Option X_Fault) (x0 : List X_Param) (x2 : (Int) × (Int)) (x3 : Int) (x4 : (Int) × ((List UInt8) × (List (Unit)))) (x5 : Bool) (x6 : Bool) (x8 : (Int) × ((List UInt8) × (List (Unit)))) (x18 : List X_Param) (x19 : Int) (x20 : Int) (x27 : List X_Param) (x28 : Int) (x29 : Int) : Option X_Fault := gate k (f_ref7_ParamsFault.b_g11 c34 c35 n_l2 x0 x2 x3 x4 x5 x6 x8 x18 x19 x20 x27 x28 x29)
def f_ref7_ParamsFault.g31 (c34 : f_ref7_At.E) (c35 : f_ref7_NameOk.E) (k : Nat) (n_l0 : (List X_Param) → X_Fault → (List X_Param) → (Int) → (Int) → Option X_Fault) (x0 : List X_Param) (x2 : (Int) × (Int)) (x3 : Int) (x4 : (Int) × ((List UInt8) × (List (Unit)))) (x6 : Bool) (x18 : List X_Param) (x19 : Int) (x20 : Int) : Option X_Fault := gate k (f_ref7_ParamsFault.b_g31 c34 c35 n_l0 x0 x2 x3 x4 x6 x18 x19 x20)
def f_ref7_ParamsFault.g30 (c34 : f_ref7_At.E) (c35 : f_ref7_NameOk.E) (k : Nat) (n_l0 : (List X_Param) → X_Fault → (List X_Param) → (Int) → (Int) → Option X_Fault) (x0 : List X_Param) (x2 : (Int) × (Int)) (x3 : Int) (x4 : (Int) × ((List UInt8) × (List (Unit)))) (x6 : Bool) (x12 : Bool) (x13 : Bool) (x18 : List X_Param) (x19 : Int) (x20 : Int) : Option X_Fault := gate k (f_ref7_ParamsFault.b_g30 c34 c35 n_l0 (f_ref7_ParamsFault.g31 c34 c35 k n_l0) x0 x2 x3 x4 x6 x12 x13 x18 x19 x20)
def f_ref7_ParamsFault.g29 (c34 : f_ref7_At.E) (c35 : f_ref7_NameOk.E) (k : Nat) (n_l0 : (List X_Param) → X_Fault → (List X_Param) → (Int) → (Int) → Option X_Fault) (x0 : List X_Param) (x2 : (Int) × (Int)) (x3 : Int) (x4 : (Int) × ((List UInt8) × (List (Unit)))) (x6 : Bool) (x9 : Int) (x12 : Bool) (x13 : Bool) (x18 : List X_Param) (x19 : Int) (x20 : Int) : Option X_Fault := gate k (f_ref7_ParamsFault.b_g29 c34 c35 n_l0 (f_ref7_ParamsFault.g30 c34 c35 k n_l0) x0 x2 x3 x4 x6 x9 x12 x13 x18 x19 x20)
def f_ref7_ParamsFault.g27 (c34 : f_ref7_At.E) (c35 : f_ref7_NameOk.E) (k : Nat) (n_l0 : (List X_Param) → X_Fault → (List X_Param) → (Int) → (Int) → Option X_Fault) (x0 : List X_Param) (x2 : (Int) × (Int)) (x3 : Int) (x4 : (Int) × ((List UInt8) × (List (Unit)))) (x6 : Bool) (x9 : Int) (x10 : Bool) (x11 : Bool) (x12 : Bool) (x13 : Bool) (x18 : List X_Param) (x19 : Int) (x20 : Int) : Option X_Fault := gate k (f_ref7_ParamsFault.b_g27 c34 c35 n_l0 (f_ref7_ParamsFault.g29 c34 c35 k n_l0) x0 x2 x3 x4 x6 x9 x10 x11 x12 x13 x18 x19 x20)
def f_ref7_ParamsFault.g25 (c34 : f_ref7_At.E) (c35 : f_ref7_NameOk.E) (k : Nat) (n_l0 : (List X_Param) → X_Fault → (List X_Param) → (Int) → (Int) → Option X_Fault) (x0 : List X_Param) (x2 : (Int) × (Int)) (x3 : Int) (x4 : (Int) × ((List UInt8) × (List (Unit)))) (x6 : Bool) (x9 : Int) (x10 : Bool) (x11 : Bool) (x12 : Bool) (x13 : Bool) (x18 : List X_Param) (x19 : Int) (x20 : Int) : Option X_Fault := gate k (f_ref7_ParamsFault.b_g25 c34 c35 (f_ref7_ParamsFault.g27 c34 c35 k n_l0) x0 x2 x3 x4 x6 x9 x10 x11 x12 x13 x18 x19 x20)
def f_ref7_ParamsFault.g21 (c34 : f_ref7_At.E) (c35 : f_ref7_NameOk.E) (k : Nat) (n_l0 : (List X_Param) → X_Fault → (List X_Param) → (Int) → (Int) → Option X_Fault) (x0 : List X_Param) (x2 : (Int) × (Int)) (x3 : Int) (x4 : (Int) × ((List UInt8) × (List (Unit)))) (x5 : Bool) (x6 : Bool) (x9 : Int) (x10 : Bool) (x11 : Bool) (x12 : Bool) (x13 : Bool) (x18 : List X_Param) (x19 : Int) (x20 : Int) : Option X_Fault := gate k (f_ref7_ParamsFault.b_g21 c34 c35 (f_ref7_ParamsFault.g25 c34 c35 k n_l0) x0 x2 x3 x4 x5 x6 x9 x10 x11 x12 x13 x18 x19 x20)
def f_ref7_ParamsFault.g19 (c34 : f_ref7_At.E) (c35 : f_ref7_NameOk.E) (k : Nat) (n_l0 : (List X_Param) → X_Fault → (List X_Param) → (Int) → (Int) → Option X_Fault) (x0 : List X_Param) (x2 : (Int) × (Int)) (x3 : Int) (x4 : (Int) × ((List UInt8) × (List (Unit)))) (x5 : Bool) (x6 : Bool) (x9 : Int) (x10 : Bool) (x11 : Bool) (x12 : Bool) (x13 : Bool) (x18 : List X_Param) (x19 : Int) (x20 : Int) : Option X_Fault := gate k (f_ref7_ParamsFault.b_g19 c34 c35 (f_ref7_ParamsFault.g21 c34 c35 k n_l0) x0 x2 x3 x4 x5 x6 x9 x10 x11 x12 x13 x18 x19 x20)
def f_ref7_ParamsFault.g18 (c34 : f_ref7_At.E) (c35 : f_ref7_NameOk.E) (k : Nat) (n_l0 : (List X_Param) → X_Fault → (List X_Param) → (Int) → (Int) → Option X_Fault) (x0 : List X_Param) (x2 : (Int) × (Int)) (x3 : Int) (x4 : (Int) × ((List UInt8) × (List (Unit)))) (x5 : Bool) (x6 : Bool) (x9 : Int) (x10 : Bool) (x11 : Bool) (x12 : Bool) (x18 : List X_Param) (x19 : Int) (x20 : Int) : Option X_Fault := gate k (f_ref7_ParamsFault.b_g18 c34 c35 (f_ref7_ParamsFault.g19 c34 c35 k n_l0) x0 x2 x3 x4 x5 x6 x9 x10 x11 x12 x18 x19 x20)
def f_ref7_ParamsFault.g16 (c34 : f_ref7_At.E) (c35 : f_ref7_NameOk.E) (k : Nat) (n_l0 : (List X_Param) → X_Fault → (List X_Param) → (Int) → (Int) → Option X_Fault) (x0 : List X_Param) (x2 : (Int) × (Int)) (x3 : Int) (x4 : (Int) × ((List UInt8) × (List (Unit)))) (x5 : Bool) (x6 : Bool) (x9 : Int) (x18 : List X_Param) (x19 : Int) (x20 : Int) : Option X_Fault := gate k (f_ref7_ParamsFault.b_g16 c34 c35 (f_ref7_ParamsFault.g18 c34 c35 k n_l0) x0 x2 x3 x4 x5 x6 x9 x18 x19 x20)
def f_ref7_ParamsFault.l2 (c34 : f_ref7_At.E) (c35 : f_ref7_NameOk.E) (k : Nat) (n_l0 : (List X_Param) → X_Fault → (List X_Param) → (Int) → (Int) → Option X_Fault) : Nat → (List X_Param) → X_Fault → (Int) → X_Param → (Bool) → (Bool) → (List X_Param) → (Int) → (Int) → (List X_Param) → (Int) → (Int) → Option X_Fault
  | 0, _, _, _, _, _, _, _, _, _, _, _, _ => none
  | n + 1, x0, x2, x3, x4, x5, x6, x18, x19, x20, x27, x28, x29 => f_ref7_ParamsFault.b_l2 c34 c35 (f_ref7_ParamsFault.g11 c34 c35 k n_l0 (fun x0 x2 x3 x4 x5 x6 x18 x19 x20 x27 x28 x29 => f_ref7_ParamsFault.l2 c34 c35 k n_l0 n x0 x2 x3 x4 x5 x6 x18 x19 x20 x27 x28 x29)) (f_ref7_ParamsFault.g16 c34 c35 k n_l0) x0 x2 x3 x4 x5 x6 x18 x19 x20 x27 x28 x29
def f_ref7_ParamsFault.l0 (c34 : f_ref7_At.E) (c35 : f_ref7_NameOk.E) (k : Nat)  : Nat → (List X_Param) → X_Fault → (List X_Param) → (Int) → (Int) → Option X_Fault
  | 0, _, _, _, _, _ => none
  | n + 1, x0, x2, x18, x19, x20 => f_ref7_ParamsFault.b_l0 c34 c35 (f_ref7_ParamsFault.l2 c34 c35 k (fun x0 x2 x18 x19 x20 => f_ref7_ParamsFault.l0 c34 c35 k  n x0 x2 x18 x19 x20) k) x0 x2 x18 x19 x20
def f_ref7_ParamsFault.f (c34 : f_ref7_At.E) (c35 : f_ref7_NameOk.E) (k : Nat) (a0 : List X_Param) : Option X_Fault := f_ref7_ParamsFault.b c34 c35 (f_ref7_ParamsFault.l0 c34 c35 k k) a0
noncomputable def f_ref7_ParamsFault.M_l0 (c34 : f_ref7_At.E) (c35 : f_ref7_NameOk.E) (k n : Nat)  (s : St) : Option X_Fault := atLoop (f_ref7_ParamsFault.C c34 c35) k n [1, 1, 0, 1, 0] [] f_ref7_ParamsFault.code (f_ref7_ParamsFault.fin c34 c35) s
noncomputable def f_ref7_ParamsFault.fr_l0 (x0 : List X_Param) (x2 : (Int) × (Int)) (x18 : List X_Param) (x19 : Int) (x20 : Int) : St := ⟨((((((List.replicate 184 V.un).set 0 (V.dat (.sl 51 Y_Param) x0)).set 2 (V.bp 600002 0 [])).set 18 (V.dat (.sl 51 Y_Param) x18)).set 19 (V.dat (.int .i64) x19)).set 20 (V.dat (.int .i64) x20)), [⟨600002, 0, .box (V.dat Y_Fault x2)⟩]⟩
noncomputable def f_ref7_ParamsFault.M_l2 (c34 : f_ref7_At.E) (c35 : f_ref7_NameOk.E) (k n : Nat) (m0 : Nat) (s : St) : Option X_Fault := atLoop (f_ref7_ParamsFault.C c34 c35) k n [1, 1, 0, 1, 0, 0, 1, 1, 0, 0, 1, 1, 0, 1, 0] [m0] f_ref7_ParamsFault.code (f_ref7_ParamsFault.fin c34 c35) s
noncomputable def f_ref7_ParamsFault.fr_l2 (x0 : List X_Param) (x2 : (Int) × (Int)) (x3 : Int) (x4 : (Int) × ((List UInt8) × (List (Unit)))) (x5 : Bool) (x6 : Bool) (x18 : List X_Param) (x19 : Int) (x20 : Int) (x27 : List X_Param) (x28 : Int) (x29 : Int) : St := ⟨(((((((((((((List.replicate 184 V.un).set 0 (V.dat (.sl 51 Y_Param) x0)).set 2 (V.bp 600002 0 [])).set 3 (V.dat (.int .i64) x3)).set 4 (V.bp 600004 0 [])).set 5 (V.dat .bool x5)).set 6 (V.dat .bool x6)).set 18 (V.dat (.sl 51 Y_Param) x18)).set 19 (V.dat (.int .i64) x19)).set 20 (V.dat (.int .i64) x20)).set 27 (V.dat (.sl 51 Y_Param) x27)).set 28 (V.dat (.int .i64) x28)).set 29 (V.dat (.int .i64) x29)), [⟨600004, 0, .box (V.dat Y_Param x4)⟩, ⟨600002, 0, .box (V.dat Y_Fault x2)⟩]⟩
noncomputable def f_ref7_ParamsFault.M_g11 (c34 : f_ref7_At.E) (c35 : f_ref7_NameOk.E) (k : Nat) (m0 : Nat) (m1 : Nat) (s : St) : Option X_Fault := atGate (f_ref7_ParamsFault.C c34 c35) k [1, 1, 0, 1, 0, 0, 1, 1, 0, 0, 1, 1, 0, 1, 0, 0, 1, 1, 0, 0, 1, 1] [m0, m1] f_ref7_ParamsFault.code (f_ref7_ParamsFault.fin c34 c35) s
noncomputable def f_ref7_ParamsFault.fr_g11 (x0 : List X_Param) (x2 : (Int) × (Int)) (x3 : Int) (x4 : (Int) × ((List UInt8) × (List (Unit)))) (x5 : Bool) (x6 : Bool) (x8 : (Int) × ((List UInt8) × (List (Unit)))) (x18 : List X_Param) (x19 : Int) (x20 : Int) (x27 : List X_Param) (x28 : Int) (x29 : Int) : St := ⟨((((((((((((((List.replicate 184 V.un).set 0 (V.dat (.sl 51 Y_Param) x0)).set 2 (V.bp 600002 0 [])).set 3 (V.dat (.int .i64) x3)).set 4 (V.bp 600004 0 [])).set 5 (V.dat .bool x5)).set 6 (V.dat .bool x6)).set 8 (V.bp 600008 0 [])).set 18 (V.dat (.sl 51 Y_Param) x18)).set 19 (V.dat (.int .i64) x19)).set 20 (V.dat (.int .i64) x20)).set 27 (V.dat (.sl 51 Y_Param) x27)).set 28 (V.dat (.int .i64) x28)).set 29 (V.dat (.int .i64) x29)), [⟨600008, 0, .box (V.dat Y_Param x8)⟩, ⟨600004, 0, .box (V.dat Y_Param x4)⟩, ⟨600002, 0, .box (V.dat Y_Fault x2)⟩]⟩
noncomputable def f_ref7_ParamsFault.M_g16 (c34 : f_ref7_At.E) (c35 : f_ref7_NameOk.E) (k : Nat) (m0 : Nat) (s : St) : Option X_Fault := atGate (f_ref7_ParamsFault.C c34 c35) k [1, 1, 0, 1, 0, 0, 1, 1, 0, 0, 1, 1, 1, 1, 1, 0] [m0] f_ref7_ParamsFault.code (f_ref7_ParamsFault.fin c34 c35) s
noncomputable def f_ref7_ParamsFault.fr_g16 (x0 : List X_Param) (x2 : (Int) × (Int)) (x3 : Int) (x4 : (Int) × ((List UInt8) × (List (Unit)))) (x5 : Bool) (x6 : Bool) (x9 : Int) (x18 : List X_Param) (x19 : Int) (x20 : Int) : St := ⟨(((((((((((List.replicate 184 V.un).set 0 (V.dat (.sl 51 Y_Param) x0)).set 2 (V.bp 600002 0 [])).set 3 (V.dat (.int .i64) x3)).set 4 (V.bp 600004 0 [])).set 5 (V.dat .bool x5)).set 6 (V.dat .bool x6)).set 9 (V.dat (.int .i64) x9)).set 18 (V.dat (.sl 51 Y_Param) x18)).set 19 (V.dat (.int .i64) x19)).set 20 (V.dat (.int .i64) x20)), [⟨600004, 0, .box (V.dat Y_Param x4)⟩, ⟨600002, 0, .box (V.dat Y_Fault x2)⟩]⟩
noncomputable def f_ref7_ParamsFault.M_g18 (c34 : f_ref7_At.E) (c35 : f_ref7_NameOk.E) (k : Nat) (m0 : Nat) (s : St) : Option X_Fault := atGate (f_ref7_ParamsFault.C c34 c35) k [1, 1, 0, 1, 0, 0, 1, 1, 0, 0, 1, 1, 1, 1, 1, 1, 1, 0] [m0] f_ref7_ParamsFault.code (f_ref7_ParamsFault.fin c34 c35) s
noncomputable def f_ref7_ParamsFault.fr_g18 (x0 : List X_Param) (x2 : (Int) × (Int)) (x3 : Int) (x4 : (Int) × ((List UInt8) × (List (Unit)))) (x5 : Bool) (x6 : Bool) (x9 : Int) (x10 : Bool) (x11 : Bool) (x12 : Bool) (x18 : List X_Param) (x19 : Int) (x20 : Int) : St := ⟨((((((((((((((List.replicate 184 V.un).set 0 (V.dat (.sl 51 Y_Param) x0)).set 2 (V.bp 600002 0 [])).set 3 (V.dat (.int .i64) x3)).set 4 (V.bp 600004 0 [])).set 5 (V.dat .bool x5)).set 6 (V.dat .bool x6)).set 9 (V.dat (.int .i64) x9)).set 10 (V.dat .bool x10)).set 11 (V.dat .bool x11)).set 12 (V.dat .bool x12)).set 18 (V.dat (.sl 51 Y_Param) x18)).set 19 (V.dat (.int .i64) x19)).set 20 (V.dat (.int .i64) x20)), [⟨600004, 0, .box (V.dat Y_Param x4)⟩, ⟨600002, 0, .box (V.dat Y_Fault x2)⟩]⟩
noncomputable def f_ref7_ParamsFault.M_g19 (c34 : f_ref7_At.E) (c35 : f_ref7_NameOk.E) (k : Nat) (m0 : Nat) (s : St) : Option X_Fault := atGate (f_ref7_ParamsFault.C c34 c35) k [1, 1, 0, 1, 0, 0, 1, 1, 0, 0, 1, 1, 1, 1, 1, 1, 1, 1, 0, 0] [m0] f_ref7_ParamsFault.code (f_ref7_ParamsFault.fin c34 c35) s
noncomputable def f_ref7_ParamsFault.fr_g19 (x0 : List X_Param) (x2 : (Int) × (Int)) (x3 : Int) (x4 : (Int) × ((List UInt8) × (List (Unit)))) (x5 : Bool) (x6 : Bool) (x9 : Int) (x10 : Bool) (x11 : Bool) (x12 : Bool) (x13 : Bool) (x18 : List X_Param) (x19 : Int) (x20 : Int) : St := ⟨(((((((((((((((List.replicate 184 V.un).set 0 (V.dat (.sl 51 Y_Param) x0)).set 2 (V.bp 600002 0 [])).set 3 (V.dat (.int .i64) x3)).set 4 (V.bp 600004 0 [])).set 5 (V.dat .bool x5)).set 6 (V.dat .bool x6)).set 9 (V.dat (.int .i64) x9)).set 10 (V.dat .bool x10)).set 11 (V.dat .bool x11)).set 12 (V.dat .bool x12)).set 13 (V.dat .bool x13)).set 18 (V.dat (.sl 51 Y_Param) x18)).set 19 (V.dat (.int .i64) x19)).set 20 (V.dat (.int .i64) x20)), [⟨600004, 0, .box (V.dat Y_Param x4)⟩, ⟨600002, 0, .box (V.dat Y_Fault x2)⟩]⟩
noncomputable def f_ref7_ParamsFault.M_g21 (c34 : f_ref7_At.E) (c35 : f_ref7_NameOk.E) (k : Nat) (m0 : Nat) (s : St) : Option X_Fault := atGate (f_ref7_ParamsFault.C c34 c35) k [1, 1, 0, 1, 0, 0, 1, 1, 0, 0, 1, 1, 1, 1, 1, 1, 1, 1, 0, 1, 1, 0] [m0] f_ref7_ParamsFault.code (f_ref7_ParamsFault.fin c34 c35) s
noncomputable def f_ref7_ParamsFault.fr_g21 (x0 : List X_Param) (x2 : (Int) × (Int)) (x3 : Int) (x4 : (Int) × ((List UInt8) × (List (Unit)))) (x5 : Bool) (x6 : Bool) (x9 : Int) (x10 : Bool) (x11 : Bool) (x12 : Bool) (x13 : Bool) (x18 : List X_Param) (x19 : Int) (x20 : Int) : St := ⟨(((((((((((((((List.replicate 184 V.un).set 0 (V.dat (.sl 51 Y_Param) x0)).set 2 (V.bp 600002 0 [])).set 3 (V.dat (.int .i64) x3)).set 4 (V.bp 600004 0 [])).set 5 (V.dat .bool x5)).set 6 (V.dat .bool x6)).set 9 (V.dat (.int .i64) x9)).set 10 (V.dat .bool x10)).set 11 (V.dat .bool x11)).set 12 (V.dat .bool x12)).set 13 (V.dat .bool x13)).set 18 (V.dat (.sl 51 Y_Param) x18)).set 19 (V.dat (.int .i64) x19)).set 20 (V.dat (.int .i64) x20)), [⟨600004, 0, .box (V.dat Y_Param x4)⟩, ⟨600002, 0, .box (V.dat Y_Fault x2)⟩]⟩
noncomputable def f_ref7_ParamsFault.M_g25 (c34 : f_ref7_At.E) (c35 : f_ref7_NameOk.E) (k : Nat) (m0 : Nat) (s : St) : Option X_Fault := atGate (f_ref7_ParamsFault.C c34 c35) k [1, 1, 0, 1, 0, 0, 1, 1, 0, 0, 1, 1, 1, 1, 1, 1, 1, 1, 0, 1, 1, 1, 1, 1, 1, 0] [m0] f_ref7_ParamsFault.code (f_ref7_ParamsFault.fin c34 c35) s
noncomputable def f_ref7_ParamsFault.fr_g25 (x0 : List X_Param) (x2 : (Int) × (Int)) (x3 : Int) (x4 : (Int) × ((List UInt8) × (List (Unit)))) (x6 : Bool) (x9 : Int) (x10 : Bool) (x11 : Bool) (x12 : Bool) (x13 : Bool) (x18 : List X_Param) (x19 : Int) (x20 : Int) : St := ⟨((((((((((((((List.replicate 184 V.un).set 0 (V.dat (.sl 51 Y_Param) x0)).set 2 (V.bp 600002 0 [])).set 3 (V.dat (.int .i64) x3)).set 4 (V.bp 600004 0 [])).set 6 (V.dat .bool x6)).set 9 (V.dat (.int .i64) x9)).set 10 (V.dat .bool x10)).set 11 (V.dat .bool x11)).set 12 (V.dat .bool x12)).set 13 (V.dat .bool x13)).set 18 (V.dat (.sl 51 Y_Param) x18)).set 19 (V.dat (.int .i64) x19)).set 20 (V.dat (.int .i64) x20)), [⟨600004, 0, .box (V.dat Y_Param x4)⟩, ⟨600002, 0, .box (V.dat Y_Fault x2)⟩]⟩
noncomputable def f_ref7_ParamsFault.M_g27 (c34 : f_ref7_At.E) (c35 : f_ref7_NameOk.E) (k : Nat) (m0 : Nat) (s : St) : Option X_Fault := atGate (f_ref7_ParamsFault.C c34 c35) k [1, 1, 0, 1, 0, 0, 1, 1, 0, 0, 1, 1, 1, 1, 1, 1, 1, 1, 0, 1, 1, 1, 1, 1, 1, 1, 1, 0, 0] [m0] f_ref7_ParamsFault.code (f_ref7_ParamsFault.fin c34 c35) s
noncomputable def f_ref7_ParamsFault.fr_g27 (x0 : List X_Param) (x2 : (Int) × (Int)) (x3 : Int) (x4 : (Int) × ((List UInt8) × (List (Unit)))) (x6 : Bool) (x9 : Int) (x10 : Bool) (x11 : Bool) (x12 : Bool) (x13 : Bool) (x18 : List X_Param) (x19 : Int) (x20 : Int) : St := ⟨((((((((((((((List.replicate 184 V.un).set 0 (V.dat (.sl 51 Y_Param) x0)).set 2 (V.bp 600002 0 [])).set 3 (V.dat (.int .i64) x3)).set 4 (V.bp 600004 0 [])).set 6 (V.dat .bool x6)).set 9 (V.dat (.int .i64) x9)).set 10 (V.dat .bool x10)).set 11 (V.dat .bool x11)).set 12 (V.dat .bool x12)).set 13 (V.dat .bool x13)).set 18 (V.dat (.sl 51 Y_Param) x18)).set 19 (V.dat (.int .i64) x19)).set 20 (V.dat (.int .i64) x20)), [⟨600004, 0, .box (V.dat Y_Param x4)⟩, ⟨600002, 0, .box (V.dat Y_Fault x2)⟩]⟩
noncomputable def f_ref7_ParamsFault.M_g29 (c34 : f_ref7_At.E) (c35 : f_ref7_NameOk.E) (k : Nat) (m0 : Nat) (s : St) : Option X_Fault := atGate (f_ref7_ParamsFault.C c34 c35) k [1, 1, 0, 1, 0, 0, 1, 1, 0, 0, 1, 1, 1, 1, 1, 1, 1, 1, 0, 1, 1, 1, 1, 1, 1, 1, 1, 0, 1, 1, 1, 1, 0] [m0] f_ref7_ParamsFault.code (f_ref7_ParamsFault.fin c34 c35) s
noncomputable def f_ref7_ParamsFault.fr_g29 (x0 : List X_Param) (x2 : (Int) × (Int)) (x3 : Int) (x4 : (Int) × ((List UInt8) × (List (Unit)))) (x6 : Bool) (x9 : Int) (x12 : Bool) (x13 : Bool) (x18 : List X_Param) (x19 : Int) (x20 : Int) : St := ⟨((((((((((((List.replicate 184 V.un).set 0 (V.dat (.sl 51 Y_Param) x0)).set 2 (V.bp 600002 0 [])).set 3 (V.dat (.int .i64) x3)).set 4 (V.bp 600004 0 [])).set 6 (V.dat .bool x6)).set 9 (V.dat (.int .i64) x9)).set 12 (V.dat .bool x12)).set 13 (V.dat .bool x13)).set 18 (V.dat (.sl 51 Y_Param) x18)).set 19 (V.dat (.int .i64) x19)).set 20 (V.dat (.int .i64) x20)), [⟨600004, 0, .box (V.dat Y_Param x4)⟩, ⟨600002, 0, .box (V.dat Y_Fault x2)⟩]⟩
noncomputable def f_ref7_ParamsFault.M_g30 (c34 : f_ref7_At.E) (c35 : f_ref7_NameOk.E) (k : Nat) (m0 : Nat) (s : St) : Option X_Fault := atGate (f_ref7_ParamsFault.C c34 c35) k [1, 1, 0, 1, 0, 0, 1, 1, 0, 0, 1, 1, 1, 1, 1, 1, 1, 1, 0, 1, 1, 1, 1, 1, 1, 1, 1, 0, 1, 1, 1, 1, 1, 1, 0] [m0] f_ref7_ParamsFault.code (f_ref7_ParamsFault.fin c34 c35) s
noncomputable def f_ref7_ParamsFault.fr_g30 (x0 : List X_Param) (x2 : (Int) × (Int)) (x3 : Int) (x4 : (Int) × ((List UInt8) × (List (Unit)))) (x6 : Bool) (x12 : Bool) (x13 : Bool) (x18 : List X_Param) (x19 : Int) (x20 : Int) : St := ⟨(((((((((((List.replicate 184 V.un).set 0 (V.dat (.sl 51 Y_Param) x0)).set 2 (V.bp 600002 0 [])).set 3 (V.dat (.int .i64) x3)).set 4 (V.bp 600004 0 [])).set 6 (V.dat .bool x6)).set 12 (V.dat .bool x12)).set 13 (V.dat .bool x13)).set 18 (V.dat (.sl 51 Y_Param) x18)).set 19 (V.dat (.int .i64) x19)).set 20 (V.dat (.int .i64) x20)), [⟨600004, 0, .box (V.dat Y_Param x4)⟩, ⟨600002, 0, .box (V.dat Y_Fault x2)⟩]⟩
noncomputable def f_ref7_ParamsFault.M_g31 (c34 : f_ref7_At.E) (c35 : f_ref7_NameOk.E) (k : Nat) (m0 : Nat) (s : St) : Option X_Fault := atGate (f_ref7_ParamsFault.C c34 c35) k [1, 1, 0, 1, 0, 0, 1, 1, 0, 0, 1, 1, 1, 1, 1, 1, 1, 1, 0, 1, 1, 1, 1, 1, 1, 1, 1, 0, 1, 1, 1, 1, 1, 1, 1, 1] [m0] f_ref7_ParamsFault.code (f_ref7_ParamsFault.fin c34 c35) s
noncomputable def f_ref7_ParamsFault.fr_g31 (x0 : List X_Param) (x2 : (Int) × (Int)) (x3 : Int) (x4 : (Int) × ((List UInt8) × (List (Unit)))) (x6 : Bool) (x18 : List X_Param) (x19 : Int) (x20 : Int) : St := ⟨(((((((((List.replicate 184 V.un).set 0 (V.dat (.sl 51 Y_Param) x0)).set 2 (V.bp 600002 0 [])).set 3 (V.dat (.int .i64) x3)).set 4 (V.bp 600004 0 [])).set 6 (V.dat .bool x6)).set 18 (V.dat (.sl 51 Y_Param) x18)).set 19 (V.dat (.int .i64) x19)).set 20 (V.dat (.int .i64) x20)), [⟨600004, 0, .box (V.dat Y_Param x4)⟩, ⟨600002, 0, .box (V.dat Y_Fault x2)⟩]⟩
theorem f_ref7_ParamsFault.r (c34 : f_ref7_At.E) (c35 : f_ref7_NameOk.E) (k : Nat) (a0 : List X_Param) : fn (f_ref7_ParamsFault.C c34 c35) k Try.f13 f_ref7_ParamsFault.A f_ref7_ParamsFault.R a0 = f_ref7_ParamsFault.b c34 c35 (fun x0 x2 x18 x19 x20 => f_ref7_ParamsFault.M_l0 c34 c35 k k  (f_ref7_ParamsFault.fr_l0 x0 x2 x18 x19 x20)) a0 := by kernel_rfl
theorem f_ref7_ParamsFault.z_l0 (c34 : f_ref7_At.E) (c35 : f_ref7_NameOk.E) (k : Nat)  (s : St) : f_ref7_ParamsFault.M_l0 c34 c35 k 0  s = none := by kernel_rfl
theorem f_ref7_ParamsFault.r_l0 (c34 : f_ref7_At.E) (c35 : f_ref7_NameOk.E) (k n : Nat)  (x0 : List X_Param) (x2 : (Int) × (Int)) (x18 : List X_Param) (x19 : Int) (x20 : Int) : f_ref7_ParamsFault.M_l0 c34 c35 k (n + 1)  (f_ref7_ParamsFault.fr_l0 x0 x2 x18 x19 x20) = f_ref7_ParamsFault.b_l0 c34 c35 (fun x0 x2 x3 x4 x5 x6 x18 x19 x20 x27 x28 x29 => f_ref7_ParamsFault.M_l2 c34 c35 k k n (f_ref7_ParamsFault.fr_l2 x0 x2 x3 x4 x5 x6 x18 x19 x20 x27 x28 x29)) x0 x2 x18 x19 x20 := by kernel_rfl
theorem f_ref7_ParamsFault.z_l2 (c34 : f_ref7_At.E) (c35 : f_ref7_NameOk.E) (k : Nat) (m0 : Nat) (s : St) : f_ref7_ParamsFault.M_l2 c34 c35 k 0 m0 s = none := by kernel_rfl
theorem f_ref7_ParamsFault.r_l2 (c34 : f_ref7_At.E) (c35 : f_ref7_NameOk.E) (k n : Nat) (m0 : Nat) (x0 : List X_Param) (x2 : (Int) × (Int)) (x3 : Int) (x4 : (Int) × ((List UInt8) × (List (Unit)))) (x5 : Bool) (x6 : Bool) (x18 : List X_Param) (x19 : Int) (x20 : Int) (x27 : List X_Param) (x28 : Int) (x29 : Int) : f_ref7_ParamsFault.M_l2 c34 c35 k (n + 1) m0 (f_ref7_ParamsFault.fr_l2 x0 x2 x3 x4 x5 x6 x18 x19 x20 x27 x28 x29) = f_ref7_ParamsFault.b_l2 c34 c35 (fun x0 x2 x3 x4 x5 x6 x8 x18 x19 x20 x27 x28 x29 => f_ref7_ParamsFault.M_g11 c34 c35 k  m0 n (f_ref7_ParamsFault.fr_g11 x0 x2 x3 x4 x5 x6 x8 x18 x19 x20 x27 x28 x29)) (fun x0 x2 x3 x4 x5 x6 x9 x18 x19 x20 => f_ref7_ParamsFault.M_g16 c34 c35 k  m0 (f_ref7_ParamsFault.fr_g16 x0 x2 x3 x4 x5 x6 x9 x18 x19 x20)) x0 x2 x3 x4 x5 x6 x18 x19 x20 x27 x28 x29 := by kernel_rfl
theorem f_ref7_ParamsFault.r_g11 (c34 : f_ref7_At.E) (c35 : f_ref7_NameOk.E) (k : Nat) (m0 : Nat) (m1 : Nat) (x0 : List X_Param) (x2 : (Int) × (Int)) (x3 : Int) (x4 : (Int) × ((List UInt8) × (List (Unit)))) (x5 : Bool) (x6 : Bool) (x8 : (Int) × ((List UInt8) × (List (Unit)))) (x18 : List X_Param) (x19 : Int) (x20 : Int) (x27 : List X_Param) (x28 : Int) (x29 : Int) : f_ref7_ParamsFault.M_g11 c34 c35 k m0 m1 (f_ref7_ParamsFault.fr_g11 x0 x2 x3 x4 x5 x6 x8 x18 x19 x20 x27 x28 x29) = gate k (f_ref7_ParamsFault.b_g11 c34 c35 (fun x0 x2 x3 x4 x5 x6 x18 x19 x20 x27 x28 x29 => f_ref7_ParamsFault.M_l2 c34 c35 k m1 m0 (f_ref7_ParamsFault.fr_l2 x0 x2 x3 x4 x5 x6 x18 x19 x20 x27 x28 x29)) x0 x2 x3 x4 x5 x6 x8 x18 x19 x20 x27 x28 x29) := by kernel_rfl
theorem f_ref7_ParamsFault.r_g16 (c34 : f_ref7_At.E) (c35 : f_ref7_NameOk.E) (k : Nat) (m0 : Nat) (x0 : List X_Param) (x2 : (Int) × (Int)) (x3 : Int) (x4 : (Int) × ((List UInt8) × (List (Unit)))) (x5 : Bool) (x6 : Bool) (x9 : Int) (x18 : List X_Param) (x19 : Int) (x20 : Int) : f_ref7_ParamsFault.M_g16 c34 c35 k m0 (f_ref7_ParamsFault.fr_g16 x0 x2 x3 x4 x5 x6 x9 x18 x19 x20) = gate k (f_ref7_ParamsFault.b_g16 c34 c35 (fun x0 x2 x3 x4 x5 x6 x9 x10 x11 x12 x18 x19 x20 => f_ref7_ParamsFault.M_g18 c34 c35 k  m0 (f_ref7_ParamsFault.fr_g18 x0 x2 x3 x4 x5 x6 x9 x10 x11 x12 x18 x19 x20)) x0 x2 x3 x4 x5 x6 x9 x18 x19 x20) := by kernel_rfl
theorem f_ref7_ParamsFault.r_g18 (c34 : f_ref7_At.E) (c35 : f_ref7_NameOk.E) (k : Nat) (m0 : Nat) (x0 : List X_Param) (x2 : (Int) × (Int)) (x3 : Int) (x4 : (Int) × ((List UInt8) × (List (Unit)))) (x5 : Bool) (x6 : Bool) (x9 : Int) (x10 : Bool) (x11 : Bool) (x12 : Bool) (x18 : List X_Param) (x19 : Int) (x20 : Int) : f_ref7_ParamsFault.M_g18 c34 c35 k m0 (f_ref7_ParamsFault.fr_g18 x0 x2 x3 x4 x5 x6 x9 x10 x11 x12 x18 x19 x20) = gate k (f_ref7_ParamsFault.b_g18 c34 c35 (fun x0 x2 x3 x4 x5 x6 x9 x10 x11 x12 x13 x18 x19 x20 => f_ref7_ParamsFault.M_g19 c34 c35 k  m0 (f_ref7_ParamsFault.fr_g19 x0 x2 x3 x4 x5 x6 x9 x10 x11 x12 x13 x18 x19 x20)) x0 x2 x3 x4 x5 x6 x9 x10 x11 x12 x18 x19 x20) := by kernel_rfl
theorem f_ref7_ParamsFault.r_g19 (c34 : f_ref7_At.E) (c35 : f_ref7_NameOk.E) (k : Nat) (m0 : Nat) (x0 : List X_Param) (x2 : (Int) × (Int)) (x3 : Int) (x4 : (Int) × ((List UInt8) × (List (Unit)))) (x5 : Bool) (x6 : Bool) (x9 : Int) (x10 : Bool) (x11 : Bool) (x12 : Bool) (x13 : Bool) (x18 : List X_Param) (x19 : Int) (x20 : Int) : f_ref7_ParamsFault.M_g19 c34 c35 k m0 (f_ref7_ParamsFault.fr_g19 x0 x2 x3 x4 x5 x6 x9 x10 x11 x12 x13 x18 x19 x20) = gate k (f_ref7_ParamsFault.b_g19 c34 c35 (fun x0 x2 x3 x4 x5 x6 x9 x10 x11 x12 x13 x18 x19 x20 => f_ref7_ParamsFault.M_g21 c34 c35 k  m0 (f_ref7_ParamsFault.fr_g21 x0 x2 x3 x4 x5 x6 x9 x10 x11 x12 x13 x18 x19 x20)) x0 x2 x3 x4 x5 x6 x9 x10 x11 x12 x13 x18 x19 x20) := by kernel_rfl
theorem f_ref7_ParamsFault.r_g21 (c34 : f_ref7_At.E) (c35 : f_ref7_NameOk.E) (k : Nat) (m0 : Nat) (x0 : List X_Param) (x2 : (Int) × (Int)) (x3 : Int) (x4 : (Int) × ((List UInt8) × (List (Unit)))) (x5 : Bool) (x6 : Bool) (x9 : Int) (x10 : Bool) (x11 : Bool) (x12 : Bool) (x13 : Bool) (x18 : List X_Param) (x19 : Int) (x20 : Int) : f_ref7_ParamsFault.M_g21 c34 c35 k m0 (f_ref7_ParamsFault.fr_g21 x0 x2 x3 x4 x5 x6 x9 x10 x11 x12 x13 x18 x19 x20) = gate k (f_ref7_ParamsFault.b_g21 c34 c35 (fun x0 x2 x3 x4 x6 x9 x10 x11 x12 x13 x18 x19 x20 => f_ref7_ParamsFault.M_g25 c34 c35 k  m0 (f_ref7_ParamsFault.fr_g25 x0 x2 x3 x4 x6 x9 x10 x11 x12 x13 x18 x19 x20)) x0 x2 x3 x4 x5 x6 x9 x10 x11 x12 x13 x18 x19 x20) := by kernel_rfl
theorem f_ref7_ParamsFault.r_g25 (c34 : f_ref7_At.E) (c35 : f_ref7_NameOk.E) (k : Nat) (m0 : Nat) (x0 : List X_Param) (x2 : (Int) × (Int)) (x3 : Int) (x4 : (Int) × ((List UInt8) × (List (Unit)))) (x6 : Bool) (x9 : Int) (x10 : Bool) (x11 : Bool) (x12 : Bool) (x13 : Bool) (x18 : List X_Param) (x19 : Int) (x20 : Int) : f_ref7_ParamsFault.M_g25 c34 c35 k m0 (f_ref7_ParamsFault.fr_g25 x0 x2 x3 x4 x6 x9 x10 x11 x12 x13 x18 x19 x20) = gate k (f_ref7_ParamsFault.b_g25 c34 c35 (fun x0 x2 x3 x4 x6 x9 x10 x11 x12 x13 x18 x19 x20 => f_ref7_ParamsFault.M_g27 c34 c35 k  m0 (f_ref7_ParamsFault.fr_g27 x0 x2 x3 x4 x6 x9 x10 x11 x12 x13 x18 x19 x20)) x0 x2 x3 x4 x6 x9 x10 x11 x12 x13 x18 x19 x20) := by kernel_rfl
theorem f_ref7_ParamsFault.r_g27 (c34 : f_ref7_At.E) (c35 : f_ref7_NameOk.E) (k : Nat) (m0 : Nat) (x0 : List X_Param) (x2 : (Int) × (Int)) (x3 : Int) (x4 : (Int) × ((List UInt8) × (List (Unit)))) (x6 : Bool) (x9 : Int) (x10 : Bool) (x11 : Bool) (x12 : Bool) (x13 : Bool) (x18 : List X_Param) (x19 : Int) (x20 : Int) : f_ref7_ParamsFault.M_g27 c34 c35 k m0 (f_ref7_ParamsFault.fr_g27 x0 x2 x3 x4 x6 x9 x10 x11 x12 x13 x18 x19 x20) = gate k (f_ref7_ParamsFault.b_g27 c34 c35 (fun x0 x2 x18 x19 x20 => f_ref7_ParamsFault.M_l0 c34 c35 k m0  (f_ref7_ParamsFault.fr_l0 x0 x2 x18 x19 x20)) (fun x0 x2 x3 x4 x6 x9 x12 x13 x18 x19 x20 => f_ref7_ParamsFault.M_g29 c34 c35 k  m0 (f_ref7_ParamsFault.fr_g29 x0 x2 x3 x4 x6 x9 x12 x13 x18 x19 x20)) x0 x2 x3 x4 x6 x9 x10 x11 x12 x13 x18 x19 x20) := by kernel_rfl
theorem f_ref7_ParamsFault.r_g29 (c34 : f_ref7_At.E) (c35 : f_ref7_NameOk.E) (k : Nat) (m0 : Nat) (x0 : List X_Param) (x2 : (Int) × (Int)) (x3 : Int) (x4 : (Int) × ((List UInt8) × (List (Unit)))) (x6 : Bool) (x9 : Int) (x12 : Bool) (x13 : Bool) (x18 : List X_Param) (x19 : Int) (x20 : Int) : f_ref7_ParamsFault.M_g29 c34 c35 k m0 (f_ref7_ParamsFault.fr_g29 x0 x2 x3 x4 x6 x9 x12 x13 x18 x19 x20) = gate k (f_ref7_ParamsFault.b_g29 c34 c35 (fun x0 x2 x18 x19 x20 => f_ref7_ParamsFault.M_l0 c34 c35 k m0  (f_ref7_ParamsFault.fr_l0 x0 x2 x18 x19 x20)) (fun x0 x2 x3 x4 x6 x12 x13 x18 x19 x20 => f_ref7_ParamsFault.M_g30 c34 c35 k  m0 (f_ref7_ParamsFault.fr_g30 x0 x2 x3 x4 x6 x12 x13 x18 x19 x20)) x0 x2 x3 x4 x6 x9 x12 x13 x18 x19 x20) := by kernel_rfl
theorem f_ref7_ParamsFault.r_g30 (c34 : f_ref7_At.E) (c35 : f_ref7_NameOk.E) (k : Nat) (m0 : Nat) (x0 : List X_Param) (x2 : (Int) × (Int)) (x3 : Int) (x4 : (Int) × ((List UInt8) × (List (Unit)))) (x6 : Bool) (x12 : Bool) (x13 : Bool) (x18 : List X_Param) (x19 : Int) (x20 : Int) : f_ref7_ParamsFault.M_g30 c34 c35 k m0 (f_ref7_ParamsFault.fr_g30 x0 x2 x3 x4 x6 x12 x13 x18 x19 x20) = gate k (f_ref7_ParamsFault.b_g30 c34 c35 (fun x0 x2 x18 x19 x20 => f_ref7_ParamsFault.M_l0 c34 c35 k m0  (f_ref7_ParamsFault.fr_l0 x0 x2 x18 x19 x20)) (fun x0 x2 x3 x4 x6 x18 x19 x20 => f_ref7_ParamsFault.M_g31 c34 c35 k  m0 (f_ref7_ParamsFault.fr_g31 x0 x2 x3 x4 x6 x18 x19 x20)) x0 x2 x3 x4 x6 x12 x13 x18 x19 x20) := by kernel_rfl
theorem f_ref7_ParamsFault.r_g31 (c34 : f_ref7_At.E) (c35 : f_ref7_NameOk.E) (k : Nat) (m0 : Nat) (x0 : List X_Param) (x2 : (Int) × (Int)) (x3 : Int) (x4 : (Int) × ((List UInt8) × (List (Unit)))) (x6 : Bool) (x18 : List X_Param) (x19 : Int) (x20 : Int) : f_ref7_ParamsFault.M_g31 c34 c35 k m0 (f_ref7_ParamsFault.fr_g31 x0 x2 x3 x4 x6 x18 x19 x20) = gate k (f_ref7_ParamsFault.b_g31 c34 c35 (fun x0 x2 x18 x19 x20 => f_ref7_ParamsFault.M_l0 c34 c35 k m0  (f_ref7_ParamsFault.fr_l0 x0 x2 x18 x19 x20)) x0 x2 x3 x4 x6 x18 x19 x20) := by kernel_rfl
theorem f_ref7_ParamsFault.e_g11 (c34 : f_ref7_At.E) (c35 : f_ref7_NameOk.E) (k : Nat) (m0 : Nat) (m1 : Nat) (x0 : List X_Param) (x2 : (Int) × (Int)) (x3 : Int) (x4 : (Int) × ((List UInt8) × (List (Unit)))) (x5 : Bool) (x6 : Bool) (x8 : (Int) × ((List UInt8) × (List (Unit)))) (x18 : List X_Param) (x19 : Int) (x20 : Int) (x27 : List X_Param) (x28 : Int) (x29 : Int) : f_ref7_ParamsFault.M_g11 c34 c35 k m0 m1 (f_ref7_ParamsFault.fr_g11 x0 x2 x3 x4 x5 x6 x8 x18 x19 x20 x27 x28 x29) = f_ref7_ParamsFault.g11 c34 c35 k (fun x0 x2 x18 x19 x20 => f_ref7_ParamsFault.M_l0 c34 c35 k m0  (f_ref7_ParamsFault.fr_l0 x0 x2 x18 x19 x20)) (fun x0 x2 x3 x4 x5 x6 x18 x19 x20 x27 x28 x29 => f_ref7_ParamsFault.M_l2 c34 c35 k m1 m0 (f_ref7_ParamsFault.fr_l2 x0 x2 x3 x4 x5 x6 x18 x19 x20 x27 x28 x29)) x0 x2 x3 x4 x5 x6 x8 x18 x19 x20 x27 x28 x29 := by
  rw [f_ref7_ParamsFault.r_g11]
  rfl
theorem f_ref7_ParamsFault.e_g31 (c34 : f_ref7_At.E) (c35 : f_ref7_NameOk.E) (k : Nat) (m0 : Nat) (x0 : List X_Param) (x2 : (Int) × (Int)) (x3 : Int) (x4 : (Int) × ((List UInt8) × (List (Unit)))) (x6 : Bool) (x18 : List X_Param) (x19 : Int) (x20 : Int) : f_ref7_ParamsFault.M_g31 c34 c35 k m0 (f_ref7_ParamsFault.fr_g31 x0 x2 x3 x4 x6 x18 x19 x20) = f_ref7_ParamsFault.g31 c34 c35 k (fun x0 x2 x18 x19 x20 => f_ref7_ParamsFault.M_l0 c34 c35 k m0  (f_ref7_ParamsFault.fr_l0 x0 x2 x18 x19 x20)) x0 x2 x3 x4 x6 x18 x19 x20 := by
  rw [f_ref7_ParamsFault.r_g31]
  rfl
theorem f_ref7_ParamsFault.e_g30 (c34 : f_ref7_At.E) (c35 : f_ref7_NameOk.E) (k : Nat) (m0 : Nat) (x0 : List X_Param) (x2 : (Int) × (Int)) (x3 : Int) (x4 : (Int) × ((List UInt8) × (List (Unit)))) (x6 : Bool) (x12 : Bool) (x13 : Bool) (x18 : List X_Param) (x19 : Int) (x20 : Int) : f_ref7_ParamsFault.M_g30 c34 c35 k m0 (f_ref7_ParamsFault.fr_g30 x0 x2 x3 x4 x6 x12 x13 x18 x19 x20) = f_ref7_ParamsFault.g30 c34 c35 k (fun x0 x2 x18 x19 x20 => f_ref7_ParamsFault.M_l0 c34 c35 k m0  (f_ref7_ParamsFault.fr_l0 x0 x2 x18 x19 x20)) x0 x2 x3 x4 x6 x12 x13 x18 x19 x20 := by
  rw [f_ref7_ParamsFault.r_g30]
  simp only [f_ref7_ParamsFault.e_g31]
  rfl
theorem f_ref7_ParamsFault.e_g29 (c34 : f_ref7_At.E) (c35 : f_ref7_NameOk.E) (k : Nat) (m0 : Nat) (x0 : List X_Param) (x2 : (Int) × (Int)) (x3 : Int) (x4 : (Int) × ((List UInt8) × (List (Unit)))) (x6 : Bool) (x9 : Int) (x12 : Bool) (x13 : Bool) (x18 : List X_Param) (x19 : Int) (x20 : Int) : f_ref7_ParamsFault.M_g29 c34 c35 k m0 (f_ref7_ParamsFault.fr_g29 x0 x2 x3 x4 x6 x9 x12 x13 x18 x19 x20) = f_ref7_ParamsFault.g29 c34 c35 k (fun x0 x2 x18 x19 x20 => f_ref7_ParamsFault.M_l0 c34 c35 k m0  (f_ref7_ParamsFault.fr_l0 x0 x2 x18 x19 x20)) x0 x2 x3 x4 x6 x9 x12 x13 x18 x19 x20 := by
  rw [f_ref7_ParamsFault.r_g29]
  simp only [f_ref7_ParamsFault.e_g30]
  rfl
theorem f_ref7_ParamsFault.e_g27 (c34 : f_ref7_At.E) (c35 : f_ref7_NameOk.E) (k : Nat) (m0 : Nat) (x0 : List X_Param) (x2 : (Int) × (Int)) (x3 : Int) (x4 : (Int) × ((List UInt8) × (List (Unit)))) (x6 : Bool) (x9 : Int) (x10 : Bool) (x11 : Bool) (x12 : Bool) (x13 : Bool) (x18 : List X_Param) (x19 : Int) (x20 : Int) : f_ref7_ParamsFault.M_g27 c34 c35 k m0 (f_ref7_ParamsFault.fr_g27 x0 x2 x3 x4 x6 x9 x10 x11 x12 x13 x18 x19 x20) = f_ref7_ParamsFault.g27 c34 c35 k (fun x0 x2 x18 x19 x20 => f_ref7_ParamsFault.M_l0 c34 c35 k m0  (f_ref7_ParamsFault.fr_l0 x0 x2 x18 x19 x20)) x0 x2 x3 x4 x6 x9 x10 x11 x12 x13 x18 x19 x20 := by
  rw [f_ref7_ParamsFault.r_g27]
  simp only [f_ref7_ParamsFault.e_g29]
  rfl
theorem f_ref7_ParamsFault.e_g25 (c34 : f_ref7_At.E) (c35 : f_ref7_NameOk.E) (k : Nat) (m0 : Nat) (x0 : List X_Param) (x2 : (Int) × (Int)) (x3 : Int) (x4 : (Int) × ((List UInt8) × (List (Unit)))) (x6 : Bool) (x9 : Int) (x10 : Bool) (x11 : Bool) (x12 : Bool) (x13 : Bool) (x18 : List X_Param) (x19 : Int) (x20 : Int) : f_ref7_ParamsFault.M_g25 c34 c35 k m0 (f_ref7_ParamsFault.fr_g25 x0 x2 x3 x4 x6 x9 x10 x11 x12 x13 x18 x19 x20) = f_ref7_ParamsFault.g25 c34 c35 k (fun x0 x2 x18 x19 x20 => f_ref7_ParamsFault.M_l0 c34 c35 k m0  (f_ref7_ParamsFault.fr_l0 x0 x2 x18 x19 x20)) x0 x2 x3 x4 x6 x9 x10 x11 x12 x13 x18 x19 x20 := by
  rw [f_ref7_ParamsFault.r_g25]
  simp only [f_ref7_ParamsFault.e_g27]
  rfl
theorem f_ref7_ParamsFault.e_g21 (c34 : f_ref7_At.E) (c35 : f_ref7_NameOk.E) (k : Nat) (m0 : Nat) (x0 : List X_Param) (x2 : (Int) × (Int)) (x3 : Int) (x4 : (Int) × ((List UInt8) × (List (Unit)))) (x5 : Bool) (x6 : Bool) (x9 : Int) (x10 : Bool) (x11 : Bool) (x12 : Bool) (x13 : Bool) (x18 : List X_Param) (x19 : Int) (x20 : Int) : f_ref7_ParamsFault.M_g21 c34 c35 k m0 (f_ref7_ParamsFault.fr_g21 x0 x2 x3 x4 x5 x6 x9 x10 x11 x12 x13 x18 x19 x20) = f_ref7_ParamsFault.g21 c34 c35 k (fun x0 x2 x18 x19 x20 => f_ref7_ParamsFault.M_l0 c34 c35 k m0  (f_ref7_ParamsFault.fr_l0 x0 x2 x18 x19 x20)) x0 x2 x3 x4 x5 x6 x9 x10 x11 x12 x13 x18 x19 x20 := by
  rw [f_ref7_ParamsFault.r_g21]
  simp only [f_ref7_ParamsFault.e_g25]
  rfl
theorem f_ref7_ParamsFault.e_g19 (c34 : f_ref7_At.E) (c35 : f_ref7_NameOk.E) (k : Nat) (m0 : Nat) (x0 : List X_Param) (x2 : (Int) × (Int)) (x3 : Int) (x4 : (Int) × ((List UInt8) × (List (Unit)))) (x5 : Bool) (x6 : Bool) (x9 : Int) (x10 : Bool) (x11 : Bool) (x12 : Bool) (x13 : Bool) (x18 : List X_Param) (x19 : Int) (x20 : Int) : f_ref7_ParamsFault.M_g19 c34 c35 k m0 (f_ref7_ParamsFault.fr_g19 x0 x2 x3 x4 x5 x6 x9 x10 x11 x12 x13 x18 x19 x20) = f_ref7_ParamsFault.g19 c34 c35 k (fun x0 x2 x18 x19 x20 => f_ref7_ParamsFault.M_l0 c34 c35 k m0  (f_ref7_ParamsFault.fr_l0 x0 x2 x18 x19 x20)) x0 x2 x3 x4 x5 x6 x9 x10 x11 x12 x13 x18 x19 x20 := by
  rw [f_ref7_ParamsFault.r_g19]
  simp only [f_ref7_ParamsFault.e_g21]
  rfl
theorem f_ref7_ParamsFault.e_g18 (c34 : f_ref7_At.E) (c35 : f_ref7_NameOk.E) (k : Nat) (m0 : Nat) (x0 : List X_Param) (x2 : (Int) × (Int)) (x3 : Int) (x4 : (Int) × ((List UInt8) × (List (Unit)))) (x5 : Bool) (x6 : Bool) (x9 : Int) (x10 : Bool) (x11 : Bool) (x12 : Bool) (x18 : List X_Param) (x19 : Int) (x20 : Int) : f_ref7_ParamsFault.M_g18 c34 c35 k m0 (f_ref7_ParamsFault.fr_g18 x0 x2 x3 x4 x5 x6 x9 x10 x11 x12 x18 x19 x20) = f_ref7_ParamsFault.g18 c34 c35 k (fun x0 x2 x18 x19 x20 => f_ref7_ParamsFault.M_l0 c34 c35 k m0  (f_ref7_ParamsFault.fr_l0 x0 x2 x18 x19 x20)) x0 x2 x3 x4 x5 x6 x9 x10 x11 x12 x18 x19 x20 := by
  rw [f_ref7_ParamsFault.r_g18]
  simp only [f_ref7_ParamsFault.e_g19]
  rfl
theorem f_ref7_ParamsFault.e_g16 (c34 : f_ref7_At.E) (c35 : f_ref7_NameOk.E) (k : Nat) (m0 : Nat) (x0 : List X_Param) (x2 : (Int) × (Int)) (x3 : Int) (x4 : (Int) × ((List UInt8) × (List (Unit)))) (x5 : Bool) (x6 : Bool) (x9 : Int) (x18 : List X_Param) (x19 : Int) (x20 : Int) : f_ref7_ParamsFault.M_g16 c34 c35 k m0 (f_ref7_ParamsFault.fr_g16 x0 x2 x3 x4 x5 x6 x9 x18 x19 x20) = f_ref7_ParamsFault.g16 c34 c35 k (fun x0 x2 x18 x19 x20 => f_ref7_ParamsFault.M_l0 c34 c35 k m0  (f_ref7_ParamsFault.fr_l0 x0 x2 x18 x19 x20)) x0 x2 x3 x4 x5 x6 x9 x18 x19 x20 := by
  rw [f_ref7_ParamsFault.r_g16]
  simp only [f_ref7_ParamsFault.e_g18]
  rfl
theorem f_ref7_ParamsFault.e_l2 (c34 : f_ref7_At.E) (c35 : f_ref7_NameOk.E) (k n : Nat) (m0 : Nat) (x0 : List X_Param) (x2 : (Int) × (Int)) (x3 : Int) (x4 : (Int) × ((List UInt8) × (List (Unit)))) (x5 : Bool) (x6 : Bool) (x18 : List X_Param) (x19 : Int) (x20 : Int) (x27 : List X_Param) (x28 : Int) (x29 : Int) : f_ref7_ParamsFault.M_l2 c34 c35 k n m0 (f_ref7_ParamsFault.fr_l2 x0 x2 x3 x4 x5 x6 x18 x19 x20 x27 x28 x29) = f_ref7_ParamsFault.l2 c34 c35 k (fun x0 x2 x18 x19 x20 => f_ref7_ParamsFault.M_l0 c34 c35 k m0  (f_ref7_ParamsFault.fr_l0 x0 x2 x18 x19 x20)) n x0 x2 x3 x4 x5 x6 x18 x19 x20 x27 x28 x29 := by
  induction n generalizing x0 x2 x3 x4 x5 x6 x18 x19 x20 x27 x28 x29 with
  | zero => rw [f_ref7_ParamsFault.z_l2]; rfl
  | succ n ih =>
    rw [f_ref7_ParamsFault.r_l2]
    simp only [f_ref7_ParamsFault.e_g11, f_ref7_ParamsFault.e_g16, ih]
    rfl
theorem f_ref7_ParamsFault.e_l0 (c34 : f_ref7_At.E) (c35 : f_ref7_NameOk.E) (k n : Nat)  (x0 : List X_Param) (x2 : (Int) × (Int)) (x18 : List X_Param) (x19 : Int) (x20 : Int) : f_ref7_ParamsFault.M_l0 c34 c35 k n  (f_ref7_ParamsFault.fr_l0 x0 x2 x18 x19 x20) = f_ref7_ParamsFault.l0 c34 c35 k  n x0 x2 x18 x19 x20 := by
  induction n generalizing x0 x2 x18 x19 x20 with
  | zero => rw [f_ref7_ParamsFault.z_l0]; rfl
  | succ n ih =>
    rw [f_ref7_ParamsFault.r_l0]
    simp only [f_ref7_ParamsFault.e_l2, ih]
    rfl
theorem f_ref7_ParamsFault.e (c34 : f_ref7_At.E) (c35 : f_ref7_NameOk.E) (k : Nat) (a0 : List X_Param) : fn (f_ref7_ParamsFault.C c34 c35) k Try.f13 f_ref7_ParamsFault.A f_ref7_ParamsFault.R a0 = f_ref7_ParamsFault.f c34 c35 k a0 := by
  rw [f_ref7_ParamsFault.r]
  simp only [f_ref7_ParamsFault.e_l0]
  rfl
def f_ref7_ParamsFault.u (k : Nat) : f_ref7_ParamsFault.E := fun y => f_ref7_ParamsFault.f (f_ref7_At.u k) (f_ref7_NameOk.u k) k y
theorem f_ref7_ParamsFault.ty (c34 : f_ref7_At.E) (c35 : f_ref7_NameOk.E) : TyOk Try.prog (f_ref7_ParamsFault.C c34 c35) := tyOk_of (by kernel_rfl)
theorem f_ref7_ParamsFault.sound (k : Nat) : Sound Try.prog ⟨13, f_ref7_ParamsFault.A, f_ref7_ParamsFault.R, f_ref7_ParamsFault.u k⟩ := by
  have h := fn_sound (k := k) («as» := f_ref7_ParamsFault.A) (rs := f_ref7_ParamsFault.R) (f_ref7_ParamsFault.ty (f_ref7_At.u k) (f_ref7_NameOk.u k)) (fun E h => by
    simp only [f_ref7_ParamsFault.C, List.mem_cons, List.not_mem_nil, or_false] at h
    rcases h with rfl | rfl
    · exact f_ref7_At.sound k
    · exact f_ref7_NameOk.sound k) mixed Try.func13 (by kernel_rfl) (by kernel_rfl)
  have e : fn (f_ref7_ParamsFault.C (f_ref7_At.u k) (f_ref7_NameOk.u k)) k Try.f13 f_ref7_ParamsFault.A f_ref7_ParamsFault.R = f_ref7_ParamsFault.u k := by
    funext y
    exact f_ref7_ParamsFault.e (f_ref7_At.u k) (f_ref7_NameOk.u k) k y
  rw [e] at h
  exact h
/-! ### brindlewood/brindlewoodlaw7.ArgumentsCheckMatchesSpec: f4 -/
abbrev f_law7_ArgumentsCheckMatchesSpec.A : List Sh := [(.d (.sl 51 Y_Param))]
abbrev f_law7_ArgumentsCheckMatchesSpec.R : List Sh := [(.d .bool)]
abbrev f_law7_ArgumentsCheckMatchesSpec.E : Type := (List X_Param) → Option (Bool)
def f_law7_ArgumentsCheckMatchesSpec.C (c12 : f_arguments_Check.E) (c13 : f_ref7_ParamsFault.E) : Ctx := { ty := [(27, Y_Fault)], nf := [], by_ := [], env := [⟨12, f_arguments_Check.A, f_arguments_Check.R, c12⟩, ⟨13, f_ref7_ParamsFault.A, f_ref7_ParamsFault.R, c13⟩], spec := [] }
noncomputable def f_law7_ArgumentsCheckMatchesSpec.code : Code := Func.code Try.f4
noncomputable def f_law7_ArgumentsCheckMatchesSpec.fin (c12 : f_arguments_Check.E) (c13 : f_ref7_ParamsFault.E) := kfin (f_law7_ArgumentsCheckMatchesSpec.C c12 c13) Try.f4 f_law7_ArgumentsCheckMatchesSpec.A f_law7_ArgumentsCheckMatchesSpec.R
def f_law7_ArgumentsCheckMatchesSpec.b (c12 : f_arguments_Check.E) (c13 : f_ref7_ParamsFault.E)  (a0 : List X_Param) : Option (Bool) :=
  (c12 a0).bind fun y1 =>
    (c13 a0).bind fun y2 =>
      some (Ty.eqT Y_Fault y1 y2)
def f_law7_ArgumentsCheckMatchesSpec.f (c12 : f_arguments_Check.E) (c13 : f_ref7_ParamsFault.E) (k : Nat) (a0 : List X_Param) : Option (Bool) := f_law7_ArgumentsCheckMatchesSpec.b c12 c13  a0
theorem f_law7_ArgumentsCheckMatchesSpec.r (c12 : f_arguments_Check.E) (c13 : f_ref7_ParamsFault.E) (k : Nat) (a0 : List X_Param) : fn (f_law7_ArgumentsCheckMatchesSpec.C c12 c13) k Try.f4 f_law7_ArgumentsCheckMatchesSpec.A f_law7_ArgumentsCheckMatchesSpec.R a0 = f_law7_ArgumentsCheckMatchesSpec.b c12 c13  a0 := by kernel_rfl
theorem f_law7_ArgumentsCheckMatchesSpec.e (c12 : f_arguments_Check.E) (c13 : f_ref7_ParamsFault.E) (k : Nat) (a0 : List X_Param) : fn (f_law7_ArgumentsCheckMatchesSpec.C c12 c13) k Try.f4 f_law7_ArgumentsCheckMatchesSpec.A f_law7_ArgumentsCheckMatchesSpec.R a0 = f_law7_ArgumentsCheckMatchesSpec.f c12 c13 k a0 := by
  rw [f_law7_ArgumentsCheckMatchesSpec.r]
  rfl
def f_law7_ArgumentsCheckMatchesSpec.u (k : Nat) : f_law7_ArgumentsCheckMatchesSpec.E := fun y => f_law7_ArgumentsCheckMatchesSpec.f (f_arguments_Check.u k) (f_ref7_ParamsFault.u k) k y
theorem f_law7_ArgumentsCheckMatchesSpec.ty (c12 : f_arguments_Check.E) (c13 : f_ref7_ParamsFault.E) : TyOk Try.prog (f_law7_ArgumentsCheckMatchesSpec.C c12 c13) := tyOk_of (by kernel_rfl)
theorem f_law7_ArgumentsCheckMatchesSpec.sound (k : Nat) : Sound Try.prog ⟨4, f_law7_ArgumentsCheckMatchesSpec.A, f_law7_ArgumentsCheckMatchesSpec.R, f_law7_ArgumentsCheckMatchesSpec.u k⟩ := by
  have h := fn_sound (k := k) («as» := f_law7_ArgumentsCheckMatchesSpec.A) (rs := f_law7_ArgumentsCheckMatchesSpec.R) (f_law7_ArgumentsCheckMatchesSpec.ty (f_arguments_Check.u k) (f_ref7_ParamsFault.u k)) (fun E h => by
    simp only [f_law7_ArgumentsCheckMatchesSpec.C, List.mem_cons, List.not_mem_nil, or_false] at h
    rcases h with rfl | rfl
    · exact f_arguments_Check.sound k
    · exact f_ref7_ParamsFault.sound k) mixed Try.func4 (by kernel_rfl) (by kernel_rfl)
  have e : fn (f_law7_ArgumentsCheckMatchesSpec.C (f_arguments_Check.u k) (f_ref7_ParamsFault.u k)) k Try.f4 f_law7_ArgumentsCheckMatchesSpec.A f_law7_ArgumentsCheckMatchesSpec.R = f_law7_ArgumentsCheckMatchesSpec.u k := by
    funext y
    exact f_law7_ArgumentsCheckMatchesSpec.e (f_arguments_Check.u k) (f_ref7_ParamsFault.u k) k y
  rw [e] at h
  exact h
end
end Go.Ab
