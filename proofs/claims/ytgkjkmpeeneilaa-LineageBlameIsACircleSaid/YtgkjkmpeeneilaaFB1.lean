/- A part of the proof: FB1. -/
import Derived.Test.YtgkjkmpeeneilaaFTy
import Derived.Test.YtgkjkmpeeneilaaFA1
import Derived.Test.YtgkjkmpeeneilaaHRep
namespace Go.Ab
set_option linter.unusedVariables false
set_option linter.unusedSimpArgs false
set_option maxRecDepth 100000
noncomputable section
open Go.Proofs
/-! ### brindlewood/lineage.fault: f39 -/
abbrev f_lineage_fault.A : List Sh := [(.d (.int .i64)), (.d (.int .i64))]
abbrev f_lineage_fault.R : List Sh := [(.d Y_Fault)]
abbrev f_lineage_fault.E : Type := X_Fault → Option X_Fault
def f_lineage_fault.C  : Ctx := { ty := [(27, Y_Fault)], nf := [(27, 2)], by_ := [], env := [], spec := [] }
noncomputable def f_lineage_fault.code : Code := Func.code Try.f39
noncomputable def f_lineage_fault.fin  := kfin (f_lineage_fault.C ) Try.f39 f_lineage_fault.A f_lineage_fault.R
def f_lineage_fault.b   (a0 : Int) (a1 : Int) : Option X_Fault :=
  some (a0, a1)
def f_lineage_fault.f  (k : Nat) (a0 : Int) (a1 : Int) : Option X_Fault := f_lineage_fault.b   a0 a1
theorem f_lineage_fault.r  (k : Nat) (a0 : Int) (a1 : Int) : fn (f_lineage_fault.C ) k Try.f39 f_lineage_fault.A f_lineage_fault.R (a0, a1) = f_lineage_fault.b   a0 a1 := by kernel_rfl
theorem f_lineage_fault.e  (k : Nat) (a0 : Int) (a1 : Int) : fn (f_lineage_fault.C ) k Try.f39 f_lineage_fault.A f_lineage_fault.R (a0, a1) = f_lineage_fault.f  k a0 a1 := by
  rw [f_lineage_fault.r]
  rfl
def f_lineage_fault.u (k : Nat) : f_lineage_fault.E := fun y => f_lineage_fault.f  k y.1 y.2
theorem f_lineage_fault.ty  : TyOk Try.prog (f_lineage_fault.C ) := tyOk_of (by kernel_rfl)
theorem f_lineage_fault.sound (k : Nat) : Sound Try.prog ⟨39, f_lineage_fault.A, f_lineage_fault.R, f_lineage_fault.u k⟩ := by
  have h := fn_sound (k := k) («as» := f_lineage_fault.A) (rs := f_lineage_fault.R) (f_lineage_fault.ty ) (fun E h => by cases h) mixed Try.func39 (by kernel_rfl) (by kernel_rfl)
  have e : fn (f_lineage_fault.C ) k Try.f39 f_lineage_fault.A f_lineage_fault.R = f_lineage_fault.u k := by
    funext y
    exact f_lineage_fault.e  k y.1 y.2
  rw [e] at h
  exact h
/-! ### slices.IndexFunc[[]int,int]: f82 -/
abbrev f_slices_IndexFunc_int.A : List Sh := [(.d (.sl 3 (.int .i64))), (.fn (.pair (.int .i64) .unit) .bool)]
abbrev f_slices_IndexFunc_int.R : List Sh := [(.d (.int .i64))]
abbrev f_slices_IndexFunc_int.E : Type := ((List (Int)) × (((Int) × (Unit)) → Option (Bool))) → Option (Int)
def f_slices_IndexFunc_int.C  : Ctx := { ty := [(3, (.int .i64)), (22, (.sl 3 (.int .i64)))], nf := [], by_ := [(3, 8)], env := [], spec := [(0, [.d 0 (.sl 3 (.int .i64)), .cp 1, .d 7 (.int .i64), .d 8 (.int .i64)])] }
noncomputable def f_slices_IndexFunc_int.code : Code := Func.code Try.f82
noncomputable def f_slices_IndexFunc_int.fin  := kfin (f_slices_IndexFunc_int.C ) Try.f82 f_slices_IndexFunc_int.A f_slices_IndexFunc_int.R
def f_slices_IndexFunc_int.b  (r_l0 : (List (Int)) → (((Int) × (Unit)) → Option (Bool)) → (Int) → (Int) → Option (Int)) (a0 : List (Int)) (a1 : ((Int) × (Unit)) → Option (Bool)) : Option (Int) :=
  r_l0 a0 a1 ((List.length a0) : Int) (0 : Int)
def f_slices_IndexFunc_int.b_l0  (n_l0 : (List (Int)) → (((Int) × (Unit)) → Option (Bool)) → (Int) → (Int) → Option (Int)) (x0 : List (Int)) (x1 : ((Int) × (Unit)) → Option (Bool)) (x7 : Int) (x8 : Int) : Option (Int) :=
  bif (decide (x8 < x7)) then
    if 0 ≤ x8 ∧ x8 < ((List.length x0) : Int) then
      (x1 ((List.getD x0 (Int.toNat x8) (0 : Int)), ())).bind fun y1 =>
        bif y1 then
          some x8
        else
          n_l0 x0 x1 x7 (IntKind.i64.wrap (x8 + (1 : Int)))
    else none
  else
    some (-1 : Int)
def f_slices_IndexFunc_int.l0  (k : Nat)  : Nat → (List (Int)) → (((Int) × (Unit)) → Option (Bool)) → (Int) → (Int) → Option (Int)
  | 0, _, _, _, _ => none
  | n + 1, x0, x1, x7, x8 => f_slices_IndexFunc_int.b_l0  (fun x0 x1 x7 x8 => f_slices_IndexFunc_int.l0  k  n x0 x1 x7 x8) x0 x1 x7 x8
def f_slices_IndexFunc_int.f  (k : Nat) (a0 : List (Int)) (a1 : ((Int) × (Unit)) → Option (Bool)) : Option (Int) := f_slices_IndexFunc_int.b  (f_slices_IndexFunc_int.l0  k k) a0 a1
noncomputable def f_slices_IndexFunc_int.M_l0  (k n : Nat)  (s : St) : Option (Int) := atLoop (f_slices_IndexFunc_int.C ) k n [1, 0, 1, 0] [] f_slices_IndexFunc_int.code (f_slices_IndexFunc_int.fin ) s
noncomputable def f_slices_IndexFunc_int.fr_l0 (x0 : List (Int)) (x1 : ((Int) × (Unit)) → Option (Bool)) (x7 : Int) (x8 : Int) : St := ⟨(((((List.replicate 19 V.un).set 0 (V.dat (.sl 3 (.int .i64)) x0)).set 1 (V.fnv (.pair (.int .i64) .unit) .bool x1)).set 7 (V.dat (.int .i64) x7)).set 8 (V.dat (.int .i64) x8)), []⟩
theorem f_slices_IndexFunc_int.r  (k : Nat) (a0 : List (Int)) (a1 : ((Int) × (Unit)) → Option (Bool)) : fn (f_slices_IndexFunc_int.C ) k Try.f82 f_slices_IndexFunc_int.A f_slices_IndexFunc_int.R (a0, a1) = f_slices_IndexFunc_int.b  (fun x0 x1 x7 x8 => f_slices_IndexFunc_int.M_l0  k k  (f_slices_IndexFunc_int.fr_l0 x0 x1 x7 x8)) a0 a1 := by kernel_rfl
theorem f_slices_IndexFunc_int.z_l0  (k : Nat)  (s : St) : f_slices_IndexFunc_int.M_l0  k 0  s = none := by kernel_rfl
theorem f_slices_IndexFunc_int.r_l0  (k n : Nat)  (x0 : List (Int)) (x1 : ((Int) × (Unit)) → Option (Bool)) (x7 : Int) (x8 : Int) : f_slices_IndexFunc_int.M_l0  k (n + 1)  (f_slices_IndexFunc_int.fr_l0 x0 x1 x7 x8) = f_slices_IndexFunc_int.b_l0  (fun x0 x1 x7 x8 => f_slices_IndexFunc_int.M_l0  k n  (f_slices_IndexFunc_int.fr_l0 x0 x1 x7 x8)) x0 x1 x7 x8 := by kernel_rfl
theorem f_slices_IndexFunc_int.e_l0  (k n : Nat)  (x0 : List (Int)) (x1 : ((Int) × (Unit)) → Option (Bool)) (x7 : Int) (x8 : Int) : f_slices_IndexFunc_int.M_l0  k n  (f_slices_IndexFunc_int.fr_l0 x0 x1 x7 x8) = f_slices_IndexFunc_int.l0  k  n x0 x1 x7 x8 := by
  induction n generalizing x0 x1 x7 x8 with
  | zero => rw [f_slices_IndexFunc_int.z_l0]; rfl
  | succ n ih =>
    rw [f_slices_IndexFunc_int.r_l0]
    simp only [ih]
    rfl
theorem f_slices_IndexFunc_int.e  (k : Nat) (a0 : List (Int)) (a1 : ((Int) × (Unit)) → Option (Bool)) : fn (f_slices_IndexFunc_int.C ) k Try.f82 f_slices_IndexFunc_int.A f_slices_IndexFunc_int.R (a0, a1) = f_slices_IndexFunc_int.f  k a0 a1 := by
  rw [f_slices_IndexFunc_int.r]
  simp only [f_slices_IndexFunc_int.e_l0]
  rfl
def f_slices_IndexFunc_int.u (k : Nat) : f_slices_IndexFunc_int.E := fun y => f_slices_IndexFunc_int.f  k y.1 y.2
theorem f_slices_IndexFunc_int.ty  : TyOk Try.prog (f_slices_IndexFunc_int.C ) := tyOk_of (by kernel_rfl)
theorem f_slices_IndexFunc_int.sound (k : Nat) : Sound Try.prog ⟨82, f_slices_IndexFunc_int.A, f_slices_IndexFunc_int.R, f_slices_IndexFunc_int.u k⟩ := by
  have h := fn_sound (k := k) («as» := f_slices_IndexFunc_int.A) (rs := f_slices_IndexFunc_int.R) (f_slices_IndexFunc_int.ty ) (fun E h => by cases h) mixed Try.func82 (by kernel_rfl) (by kernel_rfl)
  have e : fn (f_slices_IndexFunc_int.C ) k Try.f82 f_slices_IndexFunc_int.A f_slices_IndexFunc_int.R = f_slices_IndexFunc_int.u k := by
    funext y
    exact f_slices_IndexFunc_int.e  k y.1 y.2
  rw [e] at h
  exact h
/-! ### slices.ContainsFunc[[]int,int]: f64 -/
abbrev f_slices_ContainsFunc_int.A : List Sh := [(.d (.sl 3 (.int .i64))), (.fn (.pair (.int .i64) .unit) .bool)]
abbrev f_slices_ContainsFunc_int.R : List Sh := [(.d .bool)]
abbrev f_slices_ContainsFunc_int.E : Type := ((List (Int)) × (((Int) × (Unit)) → Option (Bool))) → Option (Bool)
def f_slices_ContainsFunc_int.C (c82 : f_slices_IndexFunc_int.E) : Ctx := { ty := [(3, (.int .i64))], nf := [], by_ := [], env := [⟨82, f_slices_IndexFunc_int.A, f_slices_IndexFunc_int.R, c82⟩], spec := [] }
noncomputable def f_slices_ContainsFunc_int.code : Code := Func.code Try.f64
noncomputable def f_slices_ContainsFunc_int.fin (c82 : f_slices_IndexFunc_int.E) := kfin (f_slices_ContainsFunc_int.C c82) Try.f64 f_slices_ContainsFunc_int.A f_slices_ContainsFunc_int.R
def f_slices_ContainsFunc_int.b (c82 : f_slices_IndexFunc_int.E)  (a0 : List (Int)) (a1 : ((Int) × (Unit)) → Option (Bool)) : Option (Bool) :=
  (c82 (a0, a1)).bind fun y1 =>
    some (decide (y1 ≥ (0 : Int)))
def f_slices_ContainsFunc_int.f (c82 : f_slices_IndexFunc_int.E) (k : Nat) (a0 : List (Int)) (a1 : ((Int) × (Unit)) → Option (Bool)) : Option (Bool) := f_slices_ContainsFunc_int.b c82  a0 a1
theorem f_slices_ContainsFunc_int.r (c82 : f_slices_IndexFunc_int.E) (k : Nat) (a0 : List (Int)) (a1 : ((Int) × (Unit)) → Option (Bool)) : fn (f_slices_ContainsFunc_int.C c82) k Try.f64 f_slices_ContainsFunc_int.A f_slices_ContainsFunc_int.R (a0, a1) = f_slices_ContainsFunc_int.b c82  a0 a1 := by kernel_rfl
theorem f_slices_ContainsFunc_int.e (c82 : f_slices_IndexFunc_int.E) (k : Nat) (a0 : List (Int)) (a1 : ((Int) × (Unit)) → Option (Bool)) : fn (f_slices_ContainsFunc_int.C c82) k Try.f64 f_slices_ContainsFunc_int.A f_slices_ContainsFunc_int.R (a0, a1) = f_slices_ContainsFunc_int.f c82 k a0 a1 := by
  rw [f_slices_ContainsFunc_int.r]
  rfl
def f_slices_ContainsFunc_int.u (k : Nat) : f_slices_ContainsFunc_int.E := fun y => f_slices_ContainsFunc_int.f (f_slices_IndexFunc_int.u k) k y.1 y.2
theorem f_slices_ContainsFunc_int.ty (c82 : f_slices_IndexFunc_int.E) : TyOk Try.prog (f_slices_ContainsFunc_int.C c82) := tyOk_of (by kernel_rfl)
theorem f_slices_ContainsFunc_int.sound (k : Nat) : Sound Try.prog ⟨64, f_slices_ContainsFunc_int.A, f_slices_ContainsFunc_int.R, f_slices_ContainsFunc_int.u k⟩ := by
  have h := fn_sound (k := k) («as» := f_slices_ContainsFunc_int.A) (rs := f_slices_ContainsFunc_int.R) (f_slices_ContainsFunc_int.ty (f_slices_IndexFunc_int.u k)) (fun E h => by
    simp only [f_slices_ContainsFunc_int.C, List.mem_cons, List.not_mem_nil, or_false] at h
    rcases h with rfl
    · exact f_slices_IndexFunc_int.sound k) mixed Try.func64 (by kernel_rfl) (by kernel_rfl)
  have e : fn (f_slices_ContainsFunc_int.C (f_slices_IndexFunc_int.u k)) k Try.f64 f_slices_ContainsFunc_int.A f_slices_ContainsFunc_int.R = f_slices_ContainsFunc_int.u k := by
    funext y
    exact f_slices_ContainsFunc_int.e (f_slices_IndexFunc_int.u k) k y.1 y.2
  rw [e] at h
  exact h
/-! ### brindlewood/lineage.check$1: f65 -/
abbrev f_lineage_check_c1.A : List Sh := [(.d (.int .i64))]
abbrev f_lineage_check_c1.R : List Sh := [(.d .bool)]
abbrev f_lineage_check_c1.E : Type := (Int) → Option (Bool)
def f_lineage_check_c1.C  : Ctx := { ty := [(3, (.int .i64))], nf := [], by_ := [], env := [], spec := [] }
noncomputable def f_lineage_check_c1.code : Code := Func.code Try.f65
noncomputable def f_lineage_check_c1.fin  := kfin (f_lineage_check_c1.C ) Try.f65 f_lineage_check_c1.A f_lineage_check_c1.R
def f_lineage_check_c1.b   (a0 : Int) : Option (Bool) :=
  some (decide (a0 < (0 : Int)))
def f_lineage_check_c1.f  (k : Nat) (a0 : Int) : Option (Bool) := f_lineage_check_c1.b   a0
theorem f_lineage_check_c1.r  (k : Nat) (a0 : Int) : fn (f_lineage_check_c1.C ) k Try.f65 f_lineage_check_c1.A f_lineage_check_c1.R a0 = f_lineage_check_c1.b   a0 := by kernel_rfl
theorem f_lineage_check_c1.e  (k : Nat) (a0 : Int) : fn (f_lineage_check_c1.C ) k Try.f65 f_lineage_check_c1.A f_lineage_check_c1.R a0 = f_lineage_check_c1.f  k a0 := by
  rw [f_lineage_check_c1.r]
  rfl
def f_lineage_check_c1.u (k : Nat) : f_lineage_check_c1.E := fun y => f_lineage_check_c1.f  k y
theorem f_lineage_check_c1.ty  : TyOk Try.prog (f_lineage_check_c1.C ) := tyOk_of (by kernel_rfl)
theorem f_lineage_check_c1.sound (k : Nat) : Sound Try.prog ⟨65, f_lineage_check_c1.A, f_lineage_check_c1.R, f_lineage_check_c1.u k⟩ := by
  have h := fn_sound (k := k) («as» := f_lineage_check_c1.A) (rs := f_lineage_check_c1.R) (f_lineage_check_c1.ty ) (fun E h => by cases h) mixed Try.func65 (by kernel_rfl) (by kernel_rfl)
  have e : fn (f_lineage_check_c1.C ) k Try.f65 f_lineage_check_c1.A f_lineage_check_c1.R = f_lineage_check_c1.u k := by
    funext y
    exact f_lineage_check_c1.e  k y
  rw [e] at h
  exact h
/-! ### slices.IndexFunc[[][]int,[]int]: f58 -/
abbrev f_slices_IndexFunc_Lint.A : List Sh := [(.d (.sl 22 (.sl 3 (.int .i64)))), (.fn (.pair (.sl 3 (.int .i64)) .unit) .bool)]
abbrev f_slices_IndexFunc_Lint.R : List Sh := [(.d (.int .i64))]
abbrev f_slices_IndexFunc_Lint.E : Type := ((List (List (Int))) × (((List (Int)) × (Unit)) → Option (Bool))) → Option (Int)
def f_slices_IndexFunc_Lint.C  : Ctx := { ty := [(3, (.int .i64)), (22, (.sl 3 (.int .i64))), (30, (.sl 22 (.sl 3 (.int .i64))))], nf := [], by_ := [(3, 8), (22, 24)], env := [], spec := [(0, [.d 0 (.sl 22 (.sl 3 (.int .i64))), .cp 1, .d 7 (.int .i64), .d 8 (.int .i64)])] }
noncomputable def f_slices_IndexFunc_Lint.code : Code := Func.code Try.f58
noncomputable def f_slices_IndexFunc_Lint.fin  := kfin (f_slices_IndexFunc_Lint.C ) Try.f58 f_slices_IndexFunc_Lint.A f_slices_IndexFunc_Lint.R
def f_slices_IndexFunc_Lint.b  (r_l0 : (List (List (Int))) → (((List (Int)) × (Unit)) → Option (Bool)) → (Int) → (Int) → Option (Int)) (a0 : List (List (Int))) (a1 : ((List (Int)) × (Unit)) → Option (Bool)) : Option (Int) :=
  r_l0 a0 a1 ((List.length a0) : Int) (0 : Int)
def f_slices_IndexFunc_Lint.b_l0  (n_l0 : (List (List (Int))) → (((List (Int)) × (Unit)) → Option (Bool)) → (Int) → (Int) → Option (Int)) (x0 : List (List (Int))) (x1 : ((List (Int)) × (Unit)) → Option (Bool)) (x7 : Int) (x8 : Int) : Option (Int) :=
  bif (decide (x8 < x7)) then
    if 0 ≤ x8 ∧ x8 < ((List.length x0) : Int) then
      (x1 ((List.getD x0 (Int.toNat x8) []), ())).bind fun y1 =>
        bif y1 then
          some x8
        else
          n_l0 x0 x1 x7 (IntKind.i64.wrap (x8 + (1 : Int)))
    else none
  else
    some (-1 : Int)
def f_slices_IndexFunc_Lint.l0  (k : Nat)  : Nat → (List (List (Int))) → (((List (Int)) × (Unit)) → Option (Bool)) → (Int) → (Int) → Option (Int)
  | 0, _, _, _, _ => none
  | n + 1, x0, x1, x7, x8 => f_slices_IndexFunc_Lint.b_l0  (fun x0 x1 x7 x8 => f_slices_IndexFunc_Lint.l0  k  n x0 x1 x7 x8) x0 x1 x7 x8
def f_slices_IndexFunc_Lint.f  (k : Nat) (a0 : List (List (Int))) (a1 : ((List (Int)) × (Unit)) → Option (Bool)) : Option (Int) := f_slices_IndexFunc_Lint.b  (f_slices_IndexFunc_Lint.l0  k k) a0 a1
noncomputable def f_slices_IndexFunc_Lint.M_l0  (k n : Nat)  (s : St) : Option (Int) := atLoop (f_slices_IndexFunc_Lint.C ) k n [1, 0, 1, 0] [] f_slices_IndexFunc_Lint.code (f_slices_IndexFunc_Lint.fin ) s
noncomputable def f_slices_IndexFunc_Lint.fr_l0 (x0 : List (List (Int))) (x1 : ((List (Int)) × (Unit)) → Option (Bool)) (x7 : Int) (x8 : Int) : St := ⟨(((((List.replicate 19 V.un).set 0 (V.dat (.sl 22 (.sl 3 (.int .i64))) x0)).set 1 (V.fnv (.pair (.sl 3 (.int .i64)) .unit) .bool x1)).set 7 (V.dat (.int .i64) x7)).set 8 (V.dat (.int .i64) x8)), []⟩
theorem f_slices_IndexFunc_Lint.r  (k : Nat) (a0 : List (List (Int))) (a1 : ((List (Int)) × (Unit)) → Option (Bool)) : fn (f_slices_IndexFunc_Lint.C ) k Try.f58 f_slices_IndexFunc_Lint.A f_slices_IndexFunc_Lint.R (a0, a1) = f_slices_IndexFunc_Lint.b  (fun x0 x1 x7 x8 => f_slices_IndexFunc_Lint.M_l0  k k  (f_slices_IndexFunc_Lint.fr_l0 x0 x1 x7 x8)) a0 a1 := by kernel_rfl
theorem f_slices_IndexFunc_Lint.z_l0  (k : Nat)  (s : St) : f_slices_IndexFunc_Lint.M_l0  k 0  s = none := by kernel_rfl
theorem f_slices_IndexFunc_Lint.r_l0  (k n : Nat)  (x0 : List (List (Int))) (x1 : ((List (Int)) × (Unit)) → Option (Bool)) (x7 : Int) (x8 : Int) : f_slices_IndexFunc_Lint.M_l0  k (n + 1)  (f_slices_IndexFunc_Lint.fr_l0 x0 x1 x7 x8) = f_slices_IndexFunc_Lint.b_l0  (fun x0 x1 x7 x8 => f_slices_IndexFunc_Lint.M_l0  k n  (f_slices_IndexFunc_Lint.fr_l0 x0 x1 x7 x8)) x0 x1 x7 x8 := by kernel_rfl
theorem f_slices_IndexFunc_Lint.e_l0  (k n : Nat)  (x0 : List (List (Int))) (x1 : ((List (Int)) × (Unit)) → Option (Bool)) (x7 : Int) (x8 : Int) : f_slices_IndexFunc_Lint.M_l0  k n  (f_slices_IndexFunc_Lint.fr_l0 x0 x1 x7 x8) = f_slices_IndexFunc_Lint.l0  k  n x0 x1 x7 x8 := by
  induction n generalizing x0 x1 x7 x8 with
  | zero => rw [f_slices_IndexFunc_Lint.z_l0]; rfl
  | succ n ih =>
    rw [f_slices_IndexFunc_Lint.r_l0]
    simp only [ih]
    rfl
theorem f_slices_IndexFunc_Lint.e  (k : Nat) (a0 : List (List (Int))) (a1 : ((List (Int)) × (Unit)) → Option (Bool)) : fn (f_slices_IndexFunc_Lint.C ) k Try.f58 f_slices_IndexFunc_Lint.A f_slices_IndexFunc_Lint.R (a0, a1) = f_slices_IndexFunc_Lint.f  k a0 a1 := by
  rw [f_slices_IndexFunc_Lint.r]
  simp only [f_slices_IndexFunc_Lint.e_l0]
  rfl
def f_slices_IndexFunc_Lint.u (k : Nat) : f_slices_IndexFunc_Lint.E := fun y => f_slices_IndexFunc_Lint.f  k y.1 y.2
theorem f_slices_IndexFunc_Lint.ty  : TyOk Try.prog (f_slices_IndexFunc_Lint.C ) := tyOk_of (by kernel_rfl)
theorem f_slices_IndexFunc_Lint.sound (k : Nat) : Sound Try.prog ⟨58, f_slices_IndexFunc_Lint.A, f_slices_IndexFunc_Lint.R, f_slices_IndexFunc_Lint.u k⟩ := by
  have h := fn_sound (k := k) («as» := f_slices_IndexFunc_Lint.A) (rs := f_slices_IndexFunc_Lint.R) (f_slices_IndexFunc_Lint.ty ) (fun E h => by cases h) mixed Try.func58 (by kernel_rfl) (by kernel_rfl)
  have e : fn (f_slices_IndexFunc_Lint.C ) k Try.f58 f_slices_IndexFunc_Lint.A f_slices_IndexFunc_Lint.R = f_slices_IndexFunc_Lint.u k := by
    funext y
    exact f_slices_IndexFunc_Lint.e  k y.1 y.2
  rw [e] at h
  exact h
/-! ### slices.ContainsFunc[[][]int,[]int]: f67 -/
abbrev f_slices_ContainsFunc_Lint.A : List Sh := [(.d (.sl 22 (.sl 3 (.int .i64)))), (.fn (.pair (.sl 3 (.int .i64)) .unit) .bool)]
abbrev f_slices_ContainsFunc_Lint.R : List Sh := [(.d .bool)]
abbrev f_slices_ContainsFunc_Lint.E : Type := ((List (List (Int))) × (((List (Int)) × (Unit)) → Option (Bool))) → Option (Bool)
def f_slices_ContainsFunc_Lint.C (c58 : f_slices_IndexFunc_Lint.E) : Ctx := { ty := [(3, (.int .i64))], nf := [], by_ := [], env := [⟨58, f_slices_IndexFunc_Lint.A, f_slices_IndexFunc_Lint.R, c58⟩], spec := [] }
noncomputable def f_slices_ContainsFunc_Lint.code : Code := Func.code Try.f67
noncomputable def f_slices_ContainsFunc_Lint.fin (c58 : f_slices_IndexFunc_Lint.E) := kfin (f_slices_ContainsFunc_Lint.C c58) Try.f67 f_slices_ContainsFunc_Lint.A f_slices_ContainsFunc_Lint.R
def f_slices_ContainsFunc_Lint.b (c58 : f_slices_IndexFunc_Lint.E)  (a0 : List (List (Int))) (a1 : ((List (Int)) × (Unit)) → Option (Bool)) : Option (Bool) :=
  (c58 (a0, a1)).bind fun y1 =>
    some (decide (y1 ≥ (0 : Int)))
def f_slices_ContainsFunc_Lint.f (c58 : f_slices_IndexFunc_Lint.E) (k : Nat) (a0 : List (List (Int))) (a1 : ((List (Int)) × (Unit)) → Option (Bool)) : Option (Bool) := f_slices_ContainsFunc_Lint.b c58  a0 a1
theorem f_slices_ContainsFunc_Lint.r (c58 : f_slices_IndexFunc_Lint.E) (k : Nat) (a0 : List (List (Int))) (a1 : ((List (Int)) × (Unit)) → Option (Bool)) : fn (f_slices_ContainsFunc_Lint.C c58) k Try.f67 f_slices_ContainsFunc_Lint.A f_slices_ContainsFunc_Lint.R (a0, a1) = f_slices_ContainsFunc_Lint.b c58  a0 a1 := by kernel_rfl
theorem f_slices_ContainsFunc_Lint.e (c58 : f_slices_IndexFunc_Lint.E) (k : Nat) (a0 : List (List (Int))) (a1 : ((List (Int)) × (Unit)) → Option (Bool)) : fn (f_slices_ContainsFunc_Lint.C c58) k Try.f67 f_slices_ContainsFunc_Lint.A f_slices_ContainsFunc_Lint.R (a0, a1) = f_slices_ContainsFunc_Lint.f c58 k a0 a1 := by
  rw [f_slices_ContainsFunc_Lint.r]
  rfl
def f_slices_ContainsFunc_Lint.u (k : Nat) : f_slices_ContainsFunc_Lint.E := fun y => f_slices_ContainsFunc_Lint.f (f_slices_IndexFunc_Lint.u k) k y.1 y.2
theorem f_slices_ContainsFunc_Lint.ty (c58 : f_slices_IndexFunc_Lint.E) : TyOk Try.prog (f_slices_ContainsFunc_Lint.C c58) := tyOk_of (by kernel_rfl)
theorem f_slices_ContainsFunc_Lint.sound (k : Nat) : Sound Try.prog ⟨67, f_slices_ContainsFunc_Lint.A, f_slices_ContainsFunc_Lint.R, f_slices_ContainsFunc_Lint.u k⟩ := by
  have h := fn_sound (k := k) («as» := f_slices_ContainsFunc_Lint.A) (rs := f_slices_ContainsFunc_Lint.R) (f_slices_ContainsFunc_Lint.ty (f_slices_IndexFunc_Lint.u k)) (fun E h => by
    simp only [f_slices_ContainsFunc_Lint.C, List.mem_cons, List.not_mem_nil, or_false] at h
    rcases h with rfl
    · exact f_slices_IndexFunc_Lint.sound k) mixed Try.func67 (by kernel_rfl) (by kernel_rfl)
  have e : fn (f_slices_ContainsFunc_Lint.C (f_slices_IndexFunc_Lint.u k)) k Try.f67 f_slices_ContainsFunc_Lint.A f_slices_ContainsFunc_Lint.R = f_slices_ContainsFunc_Lint.u k := by
    funext y
    exact f_slices_ContainsFunc_Lint.e (f_slices_IndexFunc_Lint.u k) k y.1 y.2
  rw [e] at h
  exact h
/-! ### brindlewood/lineage.check$2: f68 -/
abbrev f_lineage_check_c2.A : List Sh := [(.d (.sl 3 (.int .i64))), (.pi (.sl 3 (.int .i64)))]
abbrev f_lineage_check_c2.R : List Sh := [(.d .bool)]
abbrev f_lineage_check_c2.E : Type := ((List (Int)) × (List (Int))) → Option (Bool)
def f_lineage_check_c2.C  : Ctx := { ty := [(3, (.int .i64)), (22, (.sl 3 (.int .i64)))], nf := [], by_ := [(3, 8)], env := [], spec := [] }
noncomputable def f_lineage_check_c2.code : Code := Func.code Try.f68
noncomputable def f_lineage_check_c2.fin  := kfin (f_lineage_check_c2.C ) Try.f68 f_lineage_check_c2.A f_lineage_check_c2.R
def f_lineage_check_c2.b   (a0 : List (Int)) (a1 : List (Int)) : Option (Bool) :=
  if 0 ≤ (0 : Int) ∧ (0 : Int) < ((List.length a0) : Int) then
    if 0 ≤ (0 : Int) ∧ (0 : Int) < ((List.length a1) : Int) then
      some ((List.getD a0 (Int.toNat (0 : Int)) (0 : Int)) == (List.getD a1 (Int.toNat (0 : Int)) (0 : Int)))
    else none
  else none
def f_lineage_check_c2.f  (k : Nat) (a0 : List (Int)) (a1 : List (Int)) : Option (Bool) := f_lineage_check_c2.b   a0 a1
theorem f_lineage_check_c2.r  (k : Nat) (a0 : List (Int)) (a1 : List (Int)) : fn (f_lineage_check_c2.C ) k Try.f68 f_lineage_check_c2.A f_lineage_check_c2.R (a0, a1) = f_lineage_check_c2.b   a0 a1 := by kernel_rfl
theorem f_lineage_check_c2.e  (k : Nat) (a0 : List (Int)) (a1 : List (Int)) : fn (f_lineage_check_c2.C ) k Try.f68 f_lineage_check_c2.A f_lineage_check_c2.R (a0, a1) = f_lineage_check_c2.f  k a0 a1 := by
  rw [f_lineage_check_c2.r]
  rfl
def f_lineage_check_c2.u (k : Nat) : f_lineage_check_c2.E := fun y => f_lineage_check_c2.f  k y.1 y.2
theorem f_lineage_check_c2.ty  : TyOk Try.prog (f_lineage_check_c2.C ) := tyOk_of (by kernel_rfl)
theorem f_lineage_check_c2.sound (k : Nat) : Sound Try.prog ⟨68, f_lineage_check_c2.A, f_lineage_check_c2.R, f_lineage_check_c2.u k⟩ := by
  have h := fn_sound (k := k) («as» := f_lineage_check_c2.A) (rs := f_lineage_check_c2.R) (f_lineage_check_c2.ty ) (fun E h => by cases h) mixed Try.func68 (by kernel_rfl) (by kernel_rfl)
  have e : fn (f_lineage_check_c2.C ) k Try.f68 f_lineage_check_c2.A f_lineage_check_c2.R = f_lineage_check_c2.u k := by
    funext y
    exact f_lineage_check_c2.e  k y.1 y.2
  rw [e] at h
  exact h
/-! ### brindlewood/lineage.check: f36 -/
abbrev f_lineage_check.A : List Sh := [(.d (.sl 22 (.sl 3 (.int .i64))))]
abbrev f_lineage_check.R : List Sh := [(.d Y_Fault)]
abbrev f_lineage_check.E : Type := (List (List (Int))) → Option X_Fault
def f_lineage_check.C (c39 : f_lineage_fault.E) (c64 : f_slices_ContainsFunc_int.E) (c65 : f_lineage_check_c1.E) (c66 : f_lineage_repeats.E) (c67 : f_slices_ContainsFunc_Lint.E) (c68 : f_lineage_check_c2.E) : Ctx := { ty := [(3, (.int .i64)), (22, (.sl 3 (.int .i64))), (27, Y_Fault), (30, (.sl 22 (.sl 3 (.int .i64))))], nf := [(27, 2)], by_ := [(3, 8), (22, 24)], env := [⟨39, f_lineage_fault.A, f_lineage_fault.R, c39⟩, ⟨64, f_slices_ContainsFunc_int.A, f_slices_ContainsFunc_int.R, c64⟩, ⟨65, f_lineage_check_c1.A, f_lineage_check_c1.R, c65⟩, ⟨66, f_lineage_repeats.A, f_lineage_repeats.R, c66⟩, ⟨67, f_slices_ContainsFunc_Lint.A, f_slices_ContainsFunc_Lint.R, c67⟩, ⟨68, f_lineage_check_c2.A, f_lineage_check_c2.R, c68⟩], spec := [(0, [.d 0 (.sl 22 (.sl 3 (.int .i64))), .bx 2 600002 (.d Y_Fault), .d 9 (.sl 22 (.sl 3 (.int .i64))), .d 10 (.int .i64), .d 11 (.int .i64)])] }
noncomputable def f_lineage_check.code : Code := Func.code Try.f36
noncomputable def f_lineage_check.fin (c39 : f_lineage_fault.E) (c64 : f_slices_ContainsFunc_int.E) (c65 : f_lineage_check_c1.E) (c66 : f_lineage_repeats.E) (c67 : f_slices_ContainsFunc_Lint.E) (c68 : f_lineage_check_c2.E) := kfin (f_lineage_check.C c39 c64 c65 c66 c67 c68) Try.f36 f_lineage_check.A f_lineage_check.R
def f_lineage_check.b (c39 : f_lineage_fault.E) (c64 : f_slices_ContainsFunc_int.E) (c65 : f_lineage_check_c1.E) (c66 : f_lineage_repeats.E) (c67 : f_slices_ContainsFunc_Lint.E) (c68 : f_lineage_check_c2.E) (r_l0 : (List (List (Int))) → X_Fault → (List (List (Int))) → (Int) → (Int) → Option X_Fault) (a0 : List (List (Int))) : Option X_Fault :=
  bif (decide (((List.length a0) : Int) > (8 : Int))) then
    (c39 ((2 : Int), (-1 : Int))).bind fun y1 =>
      some y1
  else
    r_l0 a0 ((0 : Int), (0 : Int)) a0 ((List.length a0) : Int) (0 : Int)
def f_lineage_check.b_l0 (c39 : f_lineage_fault.E) (c64 : f_slices_ContainsFunc_int.E) (c65 : f_lineage_check_c1.E) (c66 : f_lineage_repeats.E) (c67 : f_slices_ContainsFunc_Lint.E) (c68 : f_lineage_check_c2.E) (n_l0 : (List (List (Int))) → X_Fault → (List (List (Int))) → (Int) → (Int) → Option X_Fault) (x0 : List (List (Int))) (x2 : (Int) × (Int)) (x9 : List (List (Int))) (x10 : Int) (x11 : Int) : Option X_Fault :=
  bif (decide (x11 < x10)) then
    if 0 ≤ x11 ∧ x11 < ((List.length x9) : Int) then
      bif (((List.length (List.getD x9 (Int.toNat x11) [])) : Int) == (0 : Int)) then
        (c39 ((10 : Int), x11)).bind fun y2 =>
          some y2
      else
        bif (decide (((List.length (List.getD x9 (Int.toNat x11) [])) : Int) > (40 : Int))) then
          (c39 ((2 : Int), x11)).bind fun y3 =>
            some y3
        else
          (c64 ((List.getD x9 (Int.toNat x11) []), (fun z4 => (c65 z4.1).bind some))).bind fun y5 =>
            bif y5 then
              (c39 ((4 : Int), x11)).bind fun y6 =>
                some y6
            else
              (c66 (List.getD x9 (Int.toNat x11) [])).bind fun y7 =>
                bif y7 then
                  (c39 ((8 : Int), x11)).bind fun y8 =>
                    some y8
                else
                  if 0 ≤ (0 : Int) ∧ (0 : Int) ≤ x11 ∧ x11 ≤ ((List.length x0) : Int) then
                    (c67 ((List.drop (Int.toNat (0 : Int)) (List.take (Int.toNat x11) x0)), (fun z9 => (c68 (z9.1, (List.getD x9 (Int.toNat x11) []))).bind some))).bind fun y10 =>
                      bif y10 then
                        (c39 ((8 : Int), x11)).bind fun y11 =>
                          some y11
                      else
                        n_l0 x0 x2 x9 x10 (IntKind.i64.wrap (x11 + (1 : Int)))
                  else none
    else none
  else
    some ((0 : Int), (0 : Int))
def f_lineage_check.l0 (c39 : f_lineage_fault.E) (c64 : f_slices_ContainsFunc_int.E) (c65 : f_lineage_check_c1.E) (c66 : f_lineage_repeats.E) (c67 : f_slices_ContainsFunc_Lint.E) (c68 : f_lineage_check_c2.E) (k : Nat)  : Nat → (List (List (Int))) → X_Fault → (List (List (Int))) → (Int) → (Int) → Option X_Fault
  | 0, _, _, _, _, _ => none
  | n + 1, x0, x2, x9, x10, x11 => f_lineage_check.b_l0 c39 c64 c65 c66 c67 c68 (fun x0 x2 x9 x10 x11 => f_lineage_check.l0 c39 c64 c65 c66 c67 c68 k  n x0 x2 x9 x10 x11) x0 x2 x9 x10 x11
def f_lineage_check.f (c39 : f_lineage_fault.E) (c64 : f_slices_ContainsFunc_int.E) (c65 : f_lineage_check_c1.E) (c66 : f_lineage_repeats.E) (c67 : f_slices_ContainsFunc_Lint.E) (c68 : f_lineage_check_c2.E) (k : Nat) (a0 : List (List (Int))) : Option X_Fault := f_lineage_check.b c39 c64 c65 c66 c67 c68 (f_lineage_check.l0 c39 c64 c65 c66 c67 c68 k k) a0
noncomputable def f_lineage_check.M_l0 (c39 : f_lineage_fault.E) (c64 : f_slices_ContainsFunc_int.E) (c65 : f_lineage_check_c1.E) (c66 : f_lineage_repeats.E) (c67 : f_slices_ContainsFunc_Lint.E) (c68 : f_lineage_check_c2.E) (k n : Nat)  (s : St) : Option X_Fault := atLoop (f_lineage_check.C c39 c64 c65 c66 c67 c68) k n [1, 1, 0, 1, 0] [] f_lineage_check.code (f_lineage_check.fin c39 c64 c65 c66 c67 c68) s
noncomputable def f_lineage_check.fr_l0 (x0 : List (List (Int))) (x2 : (Int) × (Int)) (x9 : List (List (Int))) (x10 : Int) (x11 : Int) : St := ⟨((((((List.replicate 47 V.un).set 0 (V.dat (.sl 22 (.sl 3 (.int .i64))) x0)).set 2 (V.bp 600002 0 [])).set 9 (V.dat (.sl 22 (.sl 3 (.int .i64))) x9)).set 10 (V.dat (.int .i64) x10)).set 11 (V.dat (.int .i64) x11)), [⟨600002, 0, .box (V.dat Y_Fault x2)⟩]⟩
theorem f_lineage_check.r (c39 : f_lineage_fault.E) (c64 : f_slices_ContainsFunc_int.E) (c65 : f_lineage_check_c1.E) (c66 : f_lineage_repeats.E) (c67 : f_slices_ContainsFunc_Lint.E) (c68 : f_lineage_check_c2.E) (k : Nat) (a0 : List (List (Int))) : fn (f_lineage_check.C c39 c64 c65 c66 c67 c68) k Try.f36 f_lineage_check.A f_lineage_check.R a0 = f_lineage_check.b c39 c64 c65 c66 c67 c68 (fun x0 x2 x9 x10 x11 => f_lineage_check.M_l0 c39 c64 c65 c66 c67 c68 k k  (f_lineage_check.fr_l0 x0 x2 x9 x10 x11)) a0 := by kernel_rfl
theorem f_lineage_check.z_l0 (c39 : f_lineage_fault.E) (c64 : f_slices_ContainsFunc_int.E) (c65 : f_lineage_check_c1.E) (c66 : f_lineage_repeats.E) (c67 : f_slices_ContainsFunc_Lint.E) (c68 : f_lineage_check_c2.E) (k : Nat)  (s : St) : f_lineage_check.M_l0 c39 c64 c65 c66 c67 c68 k 0  s = none := by kernel_rfl
theorem f_lineage_check.r_l0 (c39 : f_lineage_fault.E) (c64 : f_slices_ContainsFunc_int.E) (c65 : f_lineage_check_c1.E) (c66 : f_lineage_repeats.E) (c67 : f_slices_ContainsFunc_Lint.E) (c68 : f_lineage_check_c2.E) (k n : Nat)  (x0 : List (List (Int))) (x2 : (Int) × (Int)) (x9 : List (List (Int))) (x10 : Int) (x11 : Int) : f_lineage_check.M_l0 c39 c64 c65 c66 c67 c68 k (n + 1)  (f_lineage_check.fr_l0 x0 x2 x9 x10 x11) = f_lineage_check.b_l0 c39 c64 c65 c66 c67 c68 (fun x0 x2 x9 x10 x11 => f_lineage_check.M_l0 c39 c64 c65 c66 c67 c68 k n  (f_lineage_check.fr_l0 x0 x2 x9 x10 x11)) x0 x2 x9 x10 x11 := by kernel_rfl
theorem f_lineage_check.e_l0 (c39 : f_lineage_fault.E) (c64 : f_slices_ContainsFunc_int.E) (c65 : f_lineage_check_c1.E) (c66 : f_lineage_repeats.E) (c67 : f_slices_ContainsFunc_Lint.E) (c68 : f_lineage_check_c2.E) (k n : Nat)  (x0 : List (List (Int))) (x2 : (Int) × (Int)) (x9 : List (List (Int))) (x10 : Int) (x11 : Int) : f_lineage_check.M_l0 c39 c64 c65 c66 c67 c68 k n  (f_lineage_check.fr_l0 x0 x2 x9 x10 x11) = f_lineage_check.l0 c39 c64 c65 c66 c67 c68 k  n x0 x2 x9 x10 x11 := by
  induction n generalizing x0 x2 x9 x10 x11 with
  | zero => rw [f_lineage_check.z_l0]; rfl
  | succ n ih =>
    rw [f_lineage_check.r_l0]
    simp only [ih]
    rfl
theorem f_lineage_check.e (c39 : f_lineage_fault.E) (c64 : f_slices_ContainsFunc_int.E) (c65 : f_lineage_check_c1.E) (c66 : f_lineage_repeats.E) (c67 : f_slices_ContainsFunc_Lint.E) (c68 : f_lineage_check_c2.E) (k : Nat) (a0 : List (List (Int))) : fn (f_lineage_check.C c39 c64 c65 c66 c67 c68) k Try.f36 f_lineage_check.A f_lineage_check.R a0 = f_lineage_check.f c39 c64 c65 c66 c67 c68 k a0 := by
  rw [f_lineage_check.r]
  simp only [f_lineage_check.e_l0]
  rfl
def f_lineage_check.u (k : Nat) : f_lineage_check.E := fun y => f_lineage_check.f (f_lineage_fault.u k) (f_slices_ContainsFunc_int.u k) (f_lineage_check_c1.u k) (f_lineage_repeats.u k) (f_slices_ContainsFunc_Lint.u k) (f_lineage_check_c2.u k) k y
theorem f_lineage_check.ty (c39 : f_lineage_fault.E) (c64 : f_slices_ContainsFunc_int.E) (c65 : f_lineage_check_c1.E) (c66 : f_lineage_repeats.E) (c67 : f_slices_ContainsFunc_Lint.E) (c68 : f_lineage_check_c2.E) : TyOk Try.prog (f_lineage_check.C c39 c64 c65 c66 c67 c68) := tyOk_of (by kernel_rfl)
theorem f_lineage_check.sound (k : Nat) : Sound Try.prog ⟨36, f_lineage_check.A, f_lineage_check.R, f_lineage_check.u k⟩ := by
  have h := fn_sound (k := k) («as» := f_lineage_check.A) (rs := f_lineage_check.R) (f_lineage_check.ty (f_lineage_fault.u k) (f_slices_ContainsFunc_int.u k) (f_lineage_check_c1.u k) (f_lineage_repeats.u k) (f_slices_ContainsFunc_Lint.u k) (f_lineage_check_c2.u k)) (fun E h => by
    simp only [f_lineage_check.C, List.mem_cons, List.not_mem_nil, or_false] at h
    rcases h with rfl | rfl | rfl | rfl | rfl | rfl
    · exact f_lineage_fault.sound k
    · exact f_slices_ContainsFunc_int.sound k
    · exact f_lineage_check_c1.sound k
    · exact f_lineage_repeats.sound k
    · exact f_slices_ContainsFunc_Lint.sound k
    · exact f_lineage_check_c2.sound k) mixed Try.func36 (by kernel_rfl) (by kernel_rfl)
  have e : fn (f_lineage_check.C (f_lineage_fault.u k) (f_slices_ContainsFunc_int.u k) (f_lineage_check_c1.u k) (f_lineage_repeats.u k) (f_slices_ContainsFunc_Lint.u k) (f_lineage_check_c2.u k)) k Try.f36 f_lineage_check.A f_lineage_check.R = f_lineage_check.u k := by
    funext y
    exact f_lineage_check.e (f_lineage_fault.u k) (f_slices_ContainsFunc_int.u k) (f_lineage_check_c1.u k) (f_lineage_repeats.u k) (f_slices_ContainsFunc_Lint.u k) (f_lineage_check_c2.u k) k y
  rw [e] at h
  exact h
/-! ### slices.Clone[[][]int,[]int]: f72 -/
abbrev f_slices_Clone_Lint.A : List Sh := [(.d (.sl 22 (.sl 3 (.int .i64))))]
abbrev f_slices_Clone_Lint.R : List Sh := [(.o 22 (.sl 3 (.int .i64)))]
abbrev f_slices_Clone_Lint.E : Type := (List (List (Int))) → Option (List (List (Int)))
def f_slices_Clone_Lint.C  : Ctx := { ty := [(30, (.sl 22 (.sl 3 (.int .i64))))], nf := [], by_ := [(22, 24)], env := [], spec := [] }
noncomputable def f_slices_Clone_Lint.code : Code := Func.code Try.f72
noncomputable def f_slices_Clone_Lint.fin  := kfin (f_slices_Clone_Lint.C ) Try.f72 f_slices_Clone_Lint.A f_slices_Clone_Lint.R
def f_slices_Clone_Lint.b   (a0 : List (List (Int))) : Option (List (List (Int))) :=
  if 0 < (List.length a0) then
    if 0 ≤ (List.length ([] : List (List (Int)))) ∧ (0 + (List.length a0)) * 24 ≤ LIM then
      some (List.take (List.length (List.append (List.take 0 ([] : List (List (Int)))) a0)) (List.append (List.take 0 ([] : List (List (Int)))) a0))
    else none
  else
    agree
      (some ([] : List (List (Int))))
      (if 0 ≤ (List.length ([] : List (List (Int)))) ∧ (0 + (List.length a0)) * 24 ≤ LIM then
          some (List.take (List.length (List.append (List.take 0 ([] : List (List (Int)))) a0)) (List.append (List.take 0 ([] : List (List (Int)))) a0))
        else none)
def f_slices_Clone_Lint.f  (k : Nat) (a0 : List (List (Int))) : Option (List (List (Int))) := f_slices_Clone_Lint.b   a0
theorem f_slices_Clone_Lint.r  (k : Nat) (a0 : List (List (Int))) : fn (f_slices_Clone_Lint.C ) k Try.f72 f_slices_Clone_Lint.A f_slices_Clone_Lint.R a0 = f_slices_Clone_Lint.b   a0 := by kernel_rfl
theorem f_slices_Clone_Lint.e  (k : Nat) (a0 : List (List (Int))) : fn (f_slices_Clone_Lint.C ) k Try.f72 f_slices_Clone_Lint.A f_slices_Clone_Lint.R a0 = f_slices_Clone_Lint.f  k a0 := by
  rw [f_slices_Clone_Lint.r]
  rfl
def f_slices_Clone_Lint.u (k : Nat) : f_slices_Clone_Lint.E := fun y => f_slices_Clone_Lint.f  k y
theorem f_slices_Clone_Lint.ty  : TyOk Try.prog (f_slices_Clone_Lint.C ) := tyOk_of (by kernel_rfl)
theorem f_slices_Clone_Lint.sound (k : Nat) : Sound Try.prog ⟨72, f_slices_Clone_Lint.A, f_slices_Clone_Lint.R, f_slices_Clone_Lint.u k⟩ := by
  have h := fn_sound (k := k) («as» := f_slices_Clone_Lint.A) (rs := f_slices_Clone_Lint.R) (f_slices_Clone_Lint.ty ) (fun E h => by cases h) mixed Try.func72 (by kernel_rfl) (by kernel_rfl)
  have e : fn (f_slices_Clone_Lint.C ) k Try.f72 f_slices_Clone_Lint.A f_slices_Clone_Lint.R = f_slices_Clone_Lint.u k := by
    funext y
    exact f_slices_Clone_Lint.e  k y
  rw [e] at h
  exact h
/-! ### brindlewood/lineage.lists: f38 -/
abbrev f_lineage_lists.A : List Sh := [(.d (.sl 22 (.sl 3 (.int .i64))))]
abbrev f_lineage_lists.R : List Sh := [(.o 22 (.sl 3 (.int .i64)))]
abbrev f_lineage_lists.E : Type := (List (List (Int))) → Option (List (List (Int)))
def f_lineage_lists.C (c72 : f_slices_Clone_Lint.E) : Ctx := { ty := [(3, (.int .i64)), (22, (.sl 3 (.int .i64))), (30, (.sl 22 (.sl 3 (.int .i64))))], nf := [], by_ := [(3, 8), (22, 24)], env := [⟨72, f_slices_Clone_Lint.A, f_slices_Clone_Lint.R, c72⟩], spec := [(0, [.o 3 500003 22 (.sl 3 (.int .i64)), .o 4 500004 3 (.int .i64), .d 9 (.sl 22 (.sl 3 (.int .i64))), .d 10 (.int .i64), .d 11 (.int .i64)])] }
noncomputable def f_lineage_lists.code : Code := Func.code Try.f38
noncomputable def f_lineage_lists.fin (c72 : f_slices_Clone_Lint.E) := kfin (f_lineage_lists.C c72) Try.f38 f_lineage_lists.A f_lineage_lists.R
def f_lineage_lists.b (c72 : f_slices_Clone_Lint.E) (r_l0 : (List (List (Int))) → (List (Int)) → (List (List (Int))) → (Int) → (Int) → Option (List (List (Int)))) (a0 : List (List (Int))) : Option (List (List (Int))) :=
  (c72 a0).bind fun y1 =>
    r_l0 (List.take (List.length y1) y1) ([] : List (Int)) a0 ((List.length a0) : Int) (0 : Int)
def f_lineage_lists.b_l0 (c72 : f_slices_Clone_Lint.E) (n_l0 : (List (List (Int))) → (List (Int)) → (List (List (Int))) → (Int) → (Int) → Option (List (List (Int)))) (x3 : List (List (Int))) (x4 : List (Int)) (x9 : List (List (Int))) (x10 : Int) (x11 : Int) : Option (List (List (Int))) :=
  bif (decide (x11 < x10)) then
    if 0 ≤ x11 ∧ x11 < ((List.length x9) : Int) then
      if 0 ≤ (0 : Int) ∧ (0 : Int) < ((List.length (List.getD x9 (Int.toNat x11) [])) : Int) then
        if (List.length x4) ≤ (List.length x4) ∧ ((List.length x4) + (List.length (List.take 1 [(List.getD (List.getD x9 (Int.toNat x11) []) (Int.toNat (0 : Int)) (0 : Int))]))) * 8 ≤ LIM then
          n_l0 (List.take (List.length x3) x3) (List.take (List.length (List.append (List.take (List.length x4) x4) (List.take 1 [(List.getD (List.getD x9 (Int.toNat x11) []) (Int.toNat (0 : Int)) (0 : Int))]))) (List.append (List.take (List.length x4) x4) (List.take 1 [(List.getD (List.getD x9 (Int.toNat x11) []) (Int.toNat (0 : Int)) (0 : Int))]))) x9 x10 (IntKind.i64.wrap (x11 + (1 : Int)))
        else none
      else none
    else none
  else
    if (List.length x3) ≤ (List.length x3) ∧ ((List.length x3) + (List.length (List.take 1 [(List.take (List.length x4) x4)]))) * 24 ≤ LIM then
      some (List.take (List.length (List.append (List.take (List.length x3) x3) (List.take 1 [(List.take (List.length x4) x4)]))) (List.append (List.take (List.length x3) x3) (List.take 1 [(List.take (List.length x4) x4)])))
    else none
def f_lineage_lists.l0 (c72 : f_slices_Clone_Lint.E) (k : Nat)  : Nat → (List (List (Int))) → (List (Int)) → (List (List (Int))) → (Int) → (Int) → Option (List (List (Int)))
  | 0, _, _, _, _, _ => none
  | n + 1, x3, x4, x9, x10, x11 => f_lineage_lists.b_l0 c72 (fun x3 x4 x9 x10 x11 => f_lineage_lists.l0 c72 k  n x3 x4 x9 x10 x11) x3 x4 x9 x10 x11
def f_lineage_lists.f (c72 : f_slices_Clone_Lint.E) (k : Nat) (a0 : List (List (Int))) : Option (List (List (Int))) := f_lineage_lists.b c72 (f_lineage_lists.l0 c72 k k) a0
noncomputable def f_lineage_lists.M_l0 (c72 : f_slices_Clone_Lint.E) (k n : Nat)  (s : St) : Option (List (List (Int))) := atLoop (f_lineage_lists.C c72) k n [1, 1, 1, 0, 1, 0] [] f_lineage_lists.code (f_lineage_lists.fin c72) s
noncomputable def f_lineage_lists.fr_l0 (x3 : List (List (Int))) (x4 : List (Int)) (x9 : List (List (Int))) (x10 : Int) (x11 : Int) : St := ⟨((((((List.replicate 26 V.un).set 3 (V.ref 500003 0 0 (List.length x3))).set 4 (V.ref 500004 0 0 (List.length x4))).set 9 (V.dat (.sl 22 (.sl 3 (.int .i64))) x9)).set 10 (V.dat (.int .i64) x10)).set 11 (V.dat (.int .i64) x11)), [⟨500004, 0, .arr 3 (.int .i64) x4⟩, ⟨500003, 0, .arr 22 (.sl 3 (.int .i64)) x3⟩]⟩
theorem f_lineage_lists.r (c72 : f_slices_Clone_Lint.E) (k : Nat) (a0 : List (List (Int))) : fn (f_lineage_lists.C c72) k Try.f38 f_lineage_lists.A f_lineage_lists.R a0 = f_lineage_lists.b c72 (fun x3 x4 x9 x10 x11 => f_lineage_lists.M_l0 c72 k k  (f_lineage_lists.fr_l0 x3 x4 x9 x10 x11)) a0 := by kernel_rfl
theorem f_lineage_lists.z_l0 (c72 : f_slices_Clone_Lint.E) (k : Nat)  (s : St) : f_lineage_lists.M_l0 c72 k 0  s = none := by kernel_rfl
theorem f_lineage_lists.r_l0 (c72 : f_slices_Clone_Lint.E) (k n : Nat)  (x3 : List (List (Int))) (x4 : List (Int)) (x9 : List (List (Int))) (x10 : Int) (x11 : Int) : f_lineage_lists.M_l0 c72 k (n + 1)  (f_lineage_lists.fr_l0 x3 x4 x9 x10 x11) = f_lineage_lists.b_l0 c72 (fun x3 x4 x9 x10 x11 => f_lineage_lists.M_l0 c72 k n  (f_lineage_lists.fr_l0 x3 x4 x9 x10 x11)) x3 x4 x9 x10 x11 := by kernel_rfl
theorem f_lineage_lists.e_l0 (c72 : f_slices_Clone_Lint.E) (k n : Nat)  (x3 : List (List (Int))) (x4 : List (Int)) (x9 : List (List (Int))) (x10 : Int) (x11 : Int) : f_lineage_lists.M_l0 c72 k n  (f_lineage_lists.fr_l0 x3 x4 x9 x10 x11) = f_lineage_lists.l0 c72 k  n x3 x4 x9 x10 x11 := by
  induction n generalizing x3 x4 x9 x10 x11 with
  | zero => rw [f_lineage_lists.z_l0]; rfl
  | succ n ih =>
    rw [f_lineage_lists.r_l0]
    simp only [ih]
    rfl
theorem f_lineage_lists.e (c72 : f_slices_Clone_Lint.E) (k : Nat) (a0 : List (List (Int))) : fn (f_lineage_lists.C c72) k Try.f38 f_lineage_lists.A f_lineage_lists.R a0 = f_lineage_lists.f c72 k a0 := by
  rw [f_lineage_lists.r]
  simp only [f_lineage_lists.e_l0]
  rfl
def f_lineage_lists.u (k : Nat) : f_lineage_lists.E := fun y => f_lineage_lists.f (f_slices_Clone_Lint.u k) k y
theorem f_lineage_lists.ty (c72 : f_slices_Clone_Lint.E) : TyOk Try.prog (f_lineage_lists.C c72) := tyOk_of (by kernel_rfl)
theorem f_lineage_lists.sound (k : Nat) : Sound Try.prog ⟨38, f_lineage_lists.A, f_lineage_lists.R, f_lineage_lists.u k⟩ := by
  have h := fn_sound (k := k) («as» := f_lineage_lists.A) (rs := f_lineage_lists.R) (f_lineage_lists.ty (f_slices_Clone_Lint.u k)) (fun E h => by
    simp only [f_lineage_lists.C, List.mem_cons, List.not_mem_nil, or_false] at h
    rcases h with rfl
    · exact f_slices_Clone_Lint.sound k) mixed Try.func38 (by kernel_rfl) (by kernel_rfl)
  have e : fn (f_lineage_lists.C (f_slices_Clone_Lint.u k)) k Try.f38 f_lineage_lists.A f_lineage_lists.R = f_lineage_lists.u k := by
    funext y
    exact f_lineage_lists.e (f_slices_Clone_Lint.u k) k y
  rw [e] at h
  exact h
/-! ### slices.DeleteFunc[[][]int,[]int]: f69 -/
abbrev f_slices_DeleteFunc_Lint.A : List Sh := [(.o 22 (.sl 3 (.int .i64))), (.fn (.pair (.sl 3 (.int .i64)) .unit) .bool)]
abbrev f_slices_DeleteFunc_Lint.R : List Sh := [(.o 22 (.sl 3 (.int .i64)))]
abbrev f_slices_DeleteFunc_Lint.E : Type := ((List (List (Int))) × (((List (Int)) × (Unit)) → Option (Bool))) → Option (List (List (Int)))
def f_slices_DeleteFunc_Lint.C (c58 : f_slices_IndexFunc_Lint.E) : Ctx := { ty := [(3, (.int .i64)), (22, (.sl 3 (.int .i64))), (30, (.sl 22 (.sl 3 (.int .i64))))], nf := [], by_ := [(3, 8), (22, 24)], env := [⟨58, f_slices_IndexFunc_Lint.A, f_slices_IndexFunc_Lint.R, c58⟩], spec := [(0, [.o 0 500000 22 (.sl 3 (.int .i64)), .cp 1, .d 5 (.int .i64), .d 6 (.int .i64)])] }
noncomputable def f_slices_DeleteFunc_Lint.code : Code := Func.code Try.f69
noncomputable def f_slices_DeleteFunc_Lint.fin (c58 : f_slices_IndexFunc_Lint.E) := kfin (f_slices_DeleteFunc_Lint.C c58) Try.f69 f_slices_DeleteFunc_Lint.A f_slices_DeleteFunc_Lint.R
def f_slices_DeleteFunc_Lint.b (c58 : f_slices_IndexFunc_Lint.E) (r_l0 : (List (List (Int))) → (((List (Int)) × (Unit)) → Option (Bool)) → (Int) → (Int) → Option (List (List (Int)))) (a0 : List (List (Int))) (a1 : ((List (Int)) × (Unit)) → Option (Bool)) : Option (List (List (Int))) :=
  (c58 ((List.take (List.length a0) a0), a1)).bind fun y1 =>
    bif (y1 == (-1 : Int)) then
      some (List.take (List.length a0) a0)
    else
      r_l0 (List.take (List.length a0) a0) a1 y1 (IntKind.i64.wrap (y1 + (1 : Int)))
def f_slices_DeleteFunc_Lint.b_l0 (c58 : f_slices_IndexFunc_Lint.E) (n_l0 : (List (List (Int))) → (((List (Int)) × (Unit)) → Option (Bool)) → (Int) → (Int) → Option (List (List (Int)))) (x0 : List (List (Int))) (x1 : ((List (Int)) × (Unit)) → Option (Bool)) (x5 : Int) (x6 : Int) : Option (List (List (Int))) :=
  bif (decide (x6 < (((List.length x0) : Nat) : Int))) then
    if 0 ≤ x6 ∧ x6 < (((List.length x0) : Nat) : Int) then
      (x1 ((List.getD x0 (0 + Int.toNat x6) []), ())).bind fun y2 =>
        bif (!y2) then
          if 0 ≤ x5 ∧ x5 < (((List.length x0) : Nat) : Int) then
            n_l0 (List.take (List.length x0) (List.set x0 (0 + Int.toNat x5) (List.getD x0 (0 + Int.toNat x6) []))) x1 (IntKind.i64.wrap (x5 + (1 : Int))) (IntKind.i64.wrap (x6 + (1 : Int)))
          else none
        else
          n_l0 (List.take (List.length x0) x0) x1 x5 (IntKind.i64.wrap (x6 + (1 : Int)))
    else none
  else
    if 0 ≤ x5 ∧ x5 ≤ (((List.length x0) : Nat) : Int) ∧ (((List.length x0) : Nat) : Int) ≤ (((List.length x0) : Nat) : Int) then
      if (0 + Int.toNat x5) + (Int.toNat ((((List.length x0) : Nat) : Int) - x5)) ≤ (List.length x0) then
        if 0 ≤ (0 : Int) ∧ (0 : Int) ≤ x5 ∧ x5 ≤ (((List.length x0) : Nat) : Int) then
          some (List.take (Int.toNat (x5 - (0 : Int))) (List.take (0 + Int.toNat x5) x0 ++ List.replicate (Int.toNat ((((List.length x0) : Nat) : Int) - x5)) [] ++ List.drop ((0 + Int.toNat x5) + (Int.toNat ((((List.length x0) : Nat) : Int) - x5))) x0))
        else none
      else none
    else none
def f_slices_DeleteFunc_Lint.l0 (c58 : f_slices_IndexFunc_Lint.E) (k : Nat)  : Nat → (List (List (Int))) → (((List (Int)) × (Unit)) → Option (Bool)) → (Int) → (Int) → Option (List (List (Int)))
  | 0, _, _, _, _ => none
  | n + 1, x0, x1, x5, x6 => f_slices_DeleteFunc_Lint.b_l0 c58 (fun x0 x1 x5 x6 => f_slices_DeleteFunc_Lint.l0 c58 k  n x0 x1 x5 x6) x0 x1 x5 x6
def f_slices_DeleteFunc_Lint.f (c58 : f_slices_IndexFunc_Lint.E) (k : Nat) (a0 : List (List (Int))) (a1 : ((List (Int)) × (Unit)) → Option (Bool)) : Option (List (List (Int))) := f_slices_DeleteFunc_Lint.b c58 (f_slices_DeleteFunc_Lint.l0 c58 k k) a0 a1
noncomputable def f_slices_DeleteFunc_Lint.M_l0 (c58 : f_slices_IndexFunc_Lint.E) (k n : Nat)  (s : St) : Option (List (List (Int))) := atLoop (f_slices_DeleteFunc_Lint.C c58) k n [1, 1, 1, 0, 1, 0] [] f_slices_DeleteFunc_Lint.code (f_slices_DeleteFunc_Lint.fin c58) s
noncomputable def f_slices_DeleteFunc_Lint.fr_l0 (x0 : List (List (Int))) (x1 : ((List (Int)) × (Unit)) → Option (Bool)) (x5 : Int) (x6 : Int) : St := ⟨(((((List.replicate 42 V.un).set 0 (V.ref 500000 0 0 (List.length x0))).set 1 (V.fnv (.pair (.sl 3 (.int .i64)) .unit) .bool x1)).set 5 (V.dat (.int .i64) x5)).set 6 (V.dat (.int .i64) x6)), [⟨500000, 0, .arr 22 (.sl 3 (.int .i64)) x0⟩]⟩
theorem f_slices_DeleteFunc_Lint.r (c58 : f_slices_IndexFunc_Lint.E) (k : Nat) (a0 : List (List (Int))) (a1 : ((List (Int)) × (Unit)) → Option (Bool)) : fn (f_slices_DeleteFunc_Lint.C c58) k Try.f69 f_slices_DeleteFunc_Lint.A f_slices_DeleteFunc_Lint.R (a0, a1) = f_slices_DeleteFunc_Lint.b c58 (fun x0 x1 x5 x6 => f_slices_DeleteFunc_Lint.M_l0 c58 k k  (f_slices_DeleteFunc_Lint.fr_l0 x0 x1 x5 x6)) a0 a1 := by kernel_rfl
theorem f_slices_DeleteFunc_Lint.z_l0 (c58 : f_slices_IndexFunc_Lint.E) (k : Nat)  (s : St) : f_slices_DeleteFunc_Lint.M_l0 c58 k 0  s = none := by kernel_rfl
theorem f_slices_DeleteFunc_Lint.r_l0 (c58 : f_slices_IndexFunc_Lint.E) (k n : Nat)  (x0 : List (List (Int))) (x1 : ((List (Int)) × (Unit)) → Option (Bool)) (x5 : Int) (x6 : Int) : f_slices_DeleteFunc_Lint.M_l0 c58 k (n + 1)  (f_slices_DeleteFunc_Lint.fr_l0 x0 x1 x5 x6) = f_slices_DeleteFunc_Lint.b_l0 c58 (fun x0 x1 x5 x6 => f_slices_DeleteFunc_Lint.M_l0 c58 k n  (f_slices_DeleteFunc_Lint.fr_l0 x0 x1 x5 x6)) x0 x1 x5 x6 := by kernel_rfl
theorem f_slices_DeleteFunc_Lint.e_l0 (c58 : f_slices_IndexFunc_Lint.E) (k n : Nat)  (x0 : List (List (Int))) (x1 : ((List (Int)) × (Unit)) → Option (Bool)) (x5 : Int) (x6 : Int) : f_slices_DeleteFunc_Lint.M_l0 c58 k n  (f_slices_DeleteFunc_Lint.fr_l0 x0 x1 x5 x6) = f_slices_DeleteFunc_Lint.l0 c58 k  n x0 x1 x5 x6 := by
  induction n generalizing x0 x1 x5 x6 with
  | zero => rw [f_slices_DeleteFunc_Lint.z_l0]; rfl
  | succ n ih =>
    rw [f_slices_DeleteFunc_Lint.r_l0]
    simp only [ih]
    rfl
theorem f_slices_DeleteFunc_Lint.e (c58 : f_slices_IndexFunc_Lint.E) (k : Nat) (a0 : List (List (Int))) (a1 : ((List (Int)) × (Unit)) → Option (Bool)) : fn (f_slices_DeleteFunc_Lint.C c58) k Try.f69 f_slices_DeleteFunc_Lint.A f_slices_DeleteFunc_Lint.R (a0, a1) = f_slices_DeleteFunc_Lint.f c58 k a0 a1 := by
  rw [f_slices_DeleteFunc_Lint.r]
  simp only [f_slices_DeleteFunc_Lint.e_l0]
  rfl
def f_slices_DeleteFunc_Lint.u (k : Nat) : f_slices_DeleteFunc_Lint.E := fun y => f_slices_DeleteFunc_Lint.f (f_slices_IndexFunc_Lint.u k) k y.1 y.2
theorem f_slices_DeleteFunc_Lint.ty (c58 : f_slices_IndexFunc_Lint.E) : TyOk Try.prog (f_slices_DeleteFunc_Lint.C c58) := tyOk_of (by kernel_rfl)
theorem f_slices_DeleteFunc_Lint.sound (k : Nat) : Sound Try.prog ⟨69, f_slices_DeleteFunc_Lint.A, f_slices_DeleteFunc_Lint.R, f_slices_DeleteFunc_Lint.u k⟩ := by
  have h := fn_sound (k := k) («as» := f_slices_DeleteFunc_Lint.A) (rs := f_slices_DeleteFunc_Lint.R) (f_slices_DeleteFunc_Lint.ty (f_slices_IndexFunc_Lint.u k)) (fun E h => by
    simp only [f_slices_DeleteFunc_Lint.C, List.mem_cons, List.not_mem_nil, or_false] at h
    rcases h with rfl
    · exact f_slices_IndexFunc_Lint.sound k) mixed Try.func69 (by kernel_rfl) (by kernel_rfl)
  have e : fn (f_slices_DeleteFunc_Lint.C (f_slices_IndexFunc_Lint.u k)) k Try.f69 f_slices_DeleteFunc_Lint.A f_slices_DeleteFunc_Lint.R = f_slices_DeleteFunc_Lint.u k := by
    funext y
    exact f_slices_DeleteFunc_Lint.e (f_slices_IndexFunc_Lint.u k) k y.1 y.2
  rw [e] at h
  exact h
/-! ### brindlewood/lineage.merge$1: f70 -/
abbrev f_lineage_merge_c1.A : List Sh := [(.d (.sl 3 (.int .i64)))]
abbrev f_lineage_merge_c1.R : List Sh := [(.d .bool)]
abbrev f_lineage_merge_c1.E : Type := (List (Int)) → Option (Bool)
def f_lineage_merge_c1.C  : Ctx := { ty := [(3, (.int .i64)), (22, (.sl 3 (.int .i64)))], nf := [], by_ := [(3, 8)], env := [], spec := [] }
noncomputable def f_lineage_merge_c1.code : Code := Func.code Try.f70
noncomputable def f_lineage_merge_c1.fin  := kfin (f_lineage_merge_c1.C ) Try.f70 f_lineage_merge_c1.A f_lineage_merge_c1.R
def f_lineage_merge_c1.b   (a0 : List (Int)) : Option (Bool) :=
  some (((List.length a0) : Int) == (0 : Int))
def f_lineage_merge_c1.f  (k : Nat) (a0 : List (Int)) : Option (Bool) := f_lineage_merge_c1.b   a0
theorem f_lineage_merge_c1.r  (k : Nat) (a0 : List (Int)) : fn (f_lineage_merge_c1.C ) k Try.f70 f_lineage_merge_c1.A f_lineage_merge_c1.R a0 = f_lineage_merge_c1.b   a0 := by kernel_rfl
theorem f_lineage_merge_c1.e  (k : Nat) (a0 : List (Int)) : fn (f_lineage_merge_c1.C ) k Try.f70 f_lineage_merge_c1.A f_lineage_merge_c1.R a0 = f_lineage_merge_c1.f  k a0 := by
  rw [f_lineage_merge_c1.r]
  rfl
def f_lineage_merge_c1.u (k : Nat) : f_lineage_merge_c1.E := fun y => f_lineage_merge_c1.f  k y
theorem f_lineage_merge_c1.ty  : TyOk Try.prog (f_lineage_merge_c1.C ) := tyOk_of (by kernel_rfl)
theorem f_lineage_merge_c1.sound (k : Nat) : Sound Try.prog ⟨70, f_lineage_merge_c1.A, f_lineage_merge_c1.R, f_lineage_merge_c1.u k⟩ := by
  have h := fn_sound (k := k) («as» := f_lineage_merge_c1.A) (rs := f_lineage_merge_c1.R) (f_lineage_merge_c1.ty ) (fun E h => by cases h) mixed Try.func70 (by kernel_rfl) (by kernel_rfl)
  have e : fn (f_lineage_merge_c1.C ) k Try.f70 f_lineage_merge_c1.A f_lineage_merge_c1.R = f_lineage_merge_c1.u k := by
    funext y
    exact f_lineage_merge_c1.e  k y
  rw [e] at h
  exact h
/-! ### slices.Index[[]int,int]: f10 -/
abbrev f_slices_Index_int.A : List Sh := [(.d (.sl 3 (.int .i64))), (.d (.int .i64))]
abbrev f_slices_Index_int.R : List Sh := [(.d (.int .i64))]
abbrev f_slices_Index_int.E : Type := ((List (Int)) × (Int)) → Option (Int)
def f_slices_Index_int.C  : Ctx := { ty := [(3, (.int .i64)), (22, (.sl 3 (.int .i64)))], nf := [], by_ := [(3, 8)], env := [], spec := [(0, [.d 0 (.sl 3 (.int .i64)), .d 1 (.int .i64), .d 7 (.int .i64), .d 8 (.int .i64)])] }
noncomputable def f_slices_Index_int.code : Code := Func.code Try.f10
noncomputable def f_slices_Index_int.fin  := kfin (f_slices_Index_int.C ) Try.f10 f_slices_Index_int.A f_slices_Index_int.R
def f_slices_Index_int.b  (r_l0 : (List (Int)) → (Int) → (Int) → (Int) → Option (Int)) (a0 : List (Int)) (a1 : Int) : Option (Int) :=
  r_l0 a0 a1 ((List.length a0) : Int) (0 : Int)
def f_slices_Index_int.b_l0  (n_l0 : (List (Int)) → (Int) → (Int) → (Int) → Option (Int)) (x0 : List (Int)) (x1 : Int) (x7 : Int) (x8 : Int) : Option (Int) :=
  bif (decide (x8 < x7)) then
    if 0 ≤ x8 ∧ x8 < ((List.length x0) : Int) then
      bif (x1 == (List.getD x0 (Int.toNat x8) (0 : Int))) then
        some x8
      else
        n_l0 x0 x1 x7 (IntKind.i64.wrap (x8 + (1 : Int)))
    else none
  else
    some (-1 : Int)
def f_slices_Index_int.l0  (k : Nat)  : Nat → (List (Int)) → (Int) → (Int) → (Int) → Option (Int)
  | 0, _, _, _, _ => none
  | n + 1, x0, x1, x7, x8 => f_slices_Index_int.b_l0  (fun x0 x1 x7 x8 => f_slices_Index_int.l0  k  n x0 x1 x7 x8) x0 x1 x7 x8
def f_slices_Index_int.f  (k : Nat) (a0 : List (Int)) (a1 : Int) : Option (Int) := f_slices_Index_int.b  (f_slices_Index_int.l0  k k) a0 a1
noncomputable def f_slices_Index_int.M_l0  (k n : Nat)  (s : St) : Option (Int) := atLoop (f_slices_Index_int.C ) k n [1, 0, 1, 0] [] f_slices_Index_int.code (f_slices_Index_int.fin ) s
noncomputable def f_slices_Index_int.fr_l0 (x0 : List (Int)) (x1 : Int) (x7 : Int) (x8 : Int) : St := ⟨(((((List.replicate 19 V.un).set 0 (V.dat (.sl 3 (.int .i64)) x0)).set 1 (V.dat (.int .i64) x1)).set 7 (V.dat (.int .i64) x7)).set 8 (V.dat (.int .i64) x8)), []⟩
theorem f_slices_Index_int.r  (k : Nat) (a0 : List (Int)) (a1 : Int) : fn (f_slices_Index_int.C ) k Try.f10 f_slices_Index_int.A f_slices_Index_int.R (a0, a1) = f_slices_Index_int.b  (fun x0 x1 x7 x8 => f_slices_Index_int.M_l0  k k  (f_slices_Index_int.fr_l0 x0 x1 x7 x8)) a0 a1 := by kernel_rfl
theorem f_slices_Index_int.z_l0  (k : Nat)  (s : St) : f_slices_Index_int.M_l0  k 0  s = none := by kernel_rfl
theorem f_slices_Index_int.r_l0  (k n : Nat)  (x0 : List (Int)) (x1 : Int) (x7 : Int) (x8 : Int) : f_slices_Index_int.M_l0  k (n + 1)  (f_slices_Index_int.fr_l0 x0 x1 x7 x8) = f_slices_Index_int.b_l0  (fun x0 x1 x7 x8 => f_slices_Index_int.M_l0  k n  (f_slices_Index_int.fr_l0 x0 x1 x7 x8)) x0 x1 x7 x8 := by kernel_rfl
theorem f_slices_Index_int.e_l0  (k n : Nat)  (x0 : List (Int)) (x1 : Int) (x7 : Int) (x8 : Int) : f_slices_Index_int.M_l0  k n  (f_slices_Index_int.fr_l0 x0 x1 x7 x8) = f_slices_Index_int.l0  k  n x0 x1 x7 x8 := by
  induction n generalizing x0 x1 x7 x8 with
  | zero => rw [f_slices_Index_int.z_l0]; rfl
  | succ n ih =>
    rw [f_slices_Index_int.r_l0]
    simp only [ih]
    rfl
theorem f_slices_Index_int.e  (k : Nat) (a0 : List (Int)) (a1 : Int) : fn (f_slices_Index_int.C ) k Try.f10 f_slices_Index_int.A f_slices_Index_int.R (a0, a1) = f_slices_Index_int.f  k a0 a1 := by
  rw [f_slices_Index_int.r]
  simp only [f_slices_Index_int.e_l0]
  rfl
def f_slices_Index_int.u (k : Nat) : f_slices_Index_int.E := fun y => f_slices_Index_int.f  k y.1 y.2
theorem f_slices_Index_int.ty  : TyOk Try.prog (f_slices_Index_int.C ) := tyOk_of (by kernel_rfl)
theorem f_slices_Index_int.sound (k : Nat) : Sound Try.prog ⟨10, f_slices_Index_int.A, f_slices_Index_int.R, f_slices_Index_int.u k⟩ := by
  have h := fn_sound (k := k) («as» := f_slices_Index_int.A) (rs := f_slices_Index_int.R) (f_slices_Index_int.ty ) (fun E h => by cases h) mixed Try.func10 (by kernel_rfl) (by kernel_rfl)
  have e : fn (f_slices_Index_int.C ) k Try.f10 f_slices_Index_int.A f_slices_Index_int.R = f_slices_Index_int.u k := by
    funext y
    exact f_slices_Index_int.e  k y.1 y.2
  rw [e] at h
  exact h
/-! ### slices.Contains[[]int,int]: f43 -/
abbrev f_slices_Contains_int.A : List Sh := [(.d (.sl 3 (.int .i64))), (.d (.int .i64))]
abbrev f_slices_Contains_int.R : List Sh := [(.d .bool)]
abbrev f_slices_Contains_int.E : Type := ((List (Int)) × (Int)) → Option (Bool)
def f_slices_Contains_int.C (c10 : f_slices_Index_int.E) : Ctx := { ty := [(3, (.int .i64))], nf := [], by_ := [], env := [⟨10, f_slices_Index_int.A, f_slices_Index_int.R, c10⟩], spec := [] }
noncomputable def f_slices_Contains_int.code : Code := Func.code Try.f43
noncomputable def f_slices_Contains_int.fin (c10 : f_slices_Index_int.E) := kfin (f_slices_Contains_int.C c10) Try.f43 f_slices_Contains_int.A f_slices_Contains_int.R
def f_slices_Contains_int.b (c10 : f_slices_Index_int.E)  (a0 : List (Int)) (a1 : Int) : Option (Bool) :=
  (c10 (a0, a1)).bind fun y1 =>
    some (decide (y1 ≥ (0 : Int)))
def f_slices_Contains_int.f (c10 : f_slices_Index_int.E) (k : Nat) (a0 : List (Int)) (a1 : Int) : Option (Bool) := f_slices_Contains_int.b c10  a0 a1
theorem f_slices_Contains_int.r (c10 : f_slices_Index_int.E) (k : Nat) (a0 : List (Int)) (a1 : Int) : fn (f_slices_Contains_int.C c10) k Try.f43 f_slices_Contains_int.A f_slices_Contains_int.R (a0, a1) = f_slices_Contains_int.b c10  a0 a1 := by kernel_rfl
theorem f_slices_Contains_int.e (c10 : f_slices_Index_int.E) (k : Nat) (a0 : List (Int)) (a1 : Int) : fn (f_slices_Contains_int.C c10) k Try.f43 f_slices_Contains_int.A f_slices_Contains_int.R (a0, a1) = f_slices_Contains_int.f c10 k a0 a1 := by
  rw [f_slices_Contains_int.r]
  rfl
def f_slices_Contains_int.u (k : Nat) : f_slices_Contains_int.E := fun y => f_slices_Contains_int.f (f_slices_Index_int.u k) k y.1 y.2
theorem f_slices_Contains_int.ty (c10 : f_slices_Index_int.E) : TyOk Try.prog (f_slices_Contains_int.C c10) := tyOk_of (by kernel_rfl)
theorem f_slices_Contains_int.sound (k : Nat) : Sound Try.prog ⟨43, f_slices_Contains_int.A, f_slices_Contains_int.R, f_slices_Contains_int.u k⟩ := by
  have h := fn_sound (k := k) («as» := f_slices_Contains_int.A) (rs := f_slices_Contains_int.R) (f_slices_Contains_int.ty (f_slices_Index_int.u k)) (fun E h => by
    simp only [f_slices_Contains_int.C, List.mem_cons, List.not_mem_nil, or_false] at h
    rcases h with rfl
    · exact f_slices_Index_int.sound k) mixed Try.func43 (by kernel_rfl) (by kernel_rfl)
  have e : fn (f_slices_Contains_int.C (f_slices_Index_int.u k)) k Try.f43 f_slices_Contains_int.A f_slices_Contains_int.R = f_slices_Contains_int.u k := by
    funext y
    exact f_slices_Contains_int.e (f_slices_Index_int.u k) k y.1 y.2
  rw [e] at h
  exact h
/-! ### brindlewood/lineage.candidate: f71 -/
abbrev f_lineage_candidate.A : List Sh := [(.d (.sl 22 (.sl 3 (.int .i64))))]
abbrev f_lineage_candidate.R : List Sh := [(.d (.int .i64)), (.d .bool)]
abbrev f_lineage_candidate.E : Type := (List (List (Int))) → Option ((Int) × (Bool))
def f_lineage_candidate.C (c43 : f_slices_Contains_int.E) : Ctx := { ty := [(3, (.int .i64)), (22, (.sl 3 (.int .i64))), (30, (.sl 22 (.sl 3 (.int .i64))))], nf := [], by_ := [(3, 8), (22, 24)], env := [⟨43, f_slices_Contains_int.A, f_slices_Contains_int.R, c43⟩], spec := [(0, [.d 0 (.sl 22 (.sl 3 (.int .i64))), .d 8 (.sl 22 (.sl 3 (.int .i64))), .d 9 (.int .i64), .d 10 (.int .i64)]), (2, [.d 0 (.sl 22 (.sl 3 (.int .i64))), .d 5 (.sl 3 (.int .i64)), .d 8 (.sl 22 (.sl 3 (.int .i64))), .d 9 (.int .i64), .d 10 (.int .i64), .d 14 (.sl 22 (.sl 3 (.int .i64))), .d 15 (.int .i64), .d 16 (.int .i64)])] }
noncomputable def f_lineage_candidate.code : Code := Func.code Try.f71
noncomputable def f_lineage_candidate.fin (c43 : f_slices_Contains_int.E) := kfin (f_lineage_candidate.C c43) Try.f71 f_lineage_candidate.A f_lineage_candidate.R
def f_lineage_candidate.b (c43 : f_slices_Contains_int.E) (r_l0 : (List (List (Int))) → (List (List (Int))) → (Int) → (Int) → Option ((Int) × (Bool))) (a0 : List (List (Int))) : Option ((Int) × (Bool)) :=
  r_l0 a0 a0 ((List.length a0) : Int) (0 : Int)
def f_lineage_candidate.b_l0 (c43 : f_slices_Contains_int.E) (r_l2 : (List (List (Int))) → (List (Int)) → (List (List (Int))) → (Int) → (Int) → (List (List (Int))) → (Int) → (Int) → Option ((Int) × (Bool))) (x0 : List (List (Int))) (x8 : List (List (Int))) (x9 : Int) (x10 : Int) : Option ((Int) × (Bool)) :=
  bif (decide (x10 < x9)) then
    if 0 ≤ x10 ∧ x10 < ((List.length x8) : Int) then
      r_l2 x0 (List.getD x8 (Int.toNat x10) []) x8 x9 x10 x0 ((List.length x0) : Int) (0 : Int)
    else none
  else
    some ((0 : Int), false)
def f_lineage_candidate.b_l2 (c43 : f_slices_Contains_int.E) (n_l0 : (List (List (Int))) → (List (List (Int))) → (Int) → (Int) → Option ((Int) × (Bool))) (n_l2 : (List (List (Int))) → (List (Int)) → (List (List (Int))) → (Int) → (Int) → (List (List (Int))) → (Int) → (Int) → Option ((Int) × (Bool))) (x0 : List (List (Int))) (x5 : List (Int)) (x8 : List (List (Int))) (x9 : Int) (x10 : Int) (x14 : List (List (Int))) (x15 : Int) (x16 : Int) : Option ((Int) × (Bool)) :=
  bif (decide (x16 < x15)) then
    if 0 ≤ x16 ∧ x16 < ((List.length x14) : Int) then
      if 0 ≤ (1 : Int) ∧ (1 : Int) ≤ ((List.length (List.getD x14 (Int.toNat x16) [])) : Int) ∧ ((List.length (List.getD x14 (Int.toNat x16) [])) : Int) ≤ ((List.length (List.getD x14 (Int.toNat x16) [])) : Int) then
        if 0 ≤ (0 : Int) ∧ (0 : Int) < ((List.length x5) : Int) then
          (c43 ((List.drop (Int.toNat (1 : Int)) (List.take (Int.toNat ((List.length (List.getD x14 (Int.toNat x16) [])) : Int)) (List.getD x14 (Int.toNat x16) []))), (List.getD x5 (Int.toNat (0 : Int)) (0 : Int)))).bind fun y1 =>
            bif y1 then
              n_l0 x0 x8 x9 (IntKind.i64.wrap (x10 + (1 : Int)))
            else
              n_l2 x0 x5 x8 x9 x10 x14 x15 (IntKind.i64.wrap (x16 + (1 : Int)))
        else none
      else none
    else none
  else
    if 0 ≤ (0 : Int) ∧ (0 : Int) < ((List.length x5) : Int) then
      some ((List.getD x5 (Int.toNat (0 : Int)) (0 : Int)), true)
    else none
def f_lineage_candidate.l2 (c43 : f_slices_Contains_int.E) (k : Nat) (n_l0 : (List (List (Int))) → (List (List (Int))) → (Int) → (Int) → Option ((Int) × (Bool))) : Nat → (List (List (Int))) → (List (Int)) → (List (List (Int))) → (Int) → (Int) → (List (List (Int))) → (Int) → (Int) → Option ((Int) × (Bool))
  | 0, _, _, _, _, _, _, _, _ => none
  | n + 1, x0, x5, x8, x9, x10, x14, x15, x16 => f_lineage_candidate.b_l2 c43 n_l0 (fun x0 x5 x8 x9 x10 x14 x15 x16 => f_lineage_candidate.l2 c43 k n_l0 n x0 x5 x8 x9 x10 x14 x15 x16) x0 x5 x8 x9 x10 x14 x15 x16
def f_lineage_candidate.l0 (c43 : f_slices_Contains_int.E) (k : Nat)  : Nat → (List (List (Int))) → (List (List (Int))) → (Int) → (Int) → Option ((Int) × (Bool))
  | 0, _, _, _, _ => none
  | n + 1, x0, x8, x9, x10 => f_lineage_candidate.b_l0 c43 (f_lineage_candidate.l2 c43 k (fun x0 x8 x9 x10 => f_lineage_candidate.l0 c43 k  n x0 x8 x9 x10) k) x0 x8 x9 x10
def f_lineage_candidate.f (c43 : f_slices_Contains_int.E) (k : Nat) (a0 : List (List (Int))) : Option ((Int) × (Bool)) := f_lineage_candidate.b c43 (f_lineage_candidate.l0 c43 k k) a0
noncomputable def f_lineage_candidate.M_l0 (c43 : f_slices_Contains_int.E) (k n : Nat)  (s : St) : Option ((Int) × (Bool)) := atLoop (f_lineage_candidate.C c43) k n [1, 0, 1, 0, 1, 0] [] f_lineage_candidate.code (f_lineage_candidate.fin c43) s
noncomputable def f_lineage_candidate.fr_l0 (x0 : List (List (Int))) (x8 : List (List (Int))) (x9 : Int) (x10 : Int) : St := ⟨(((((List.replicate 31 V.un).set 0 (V.dat (.sl 22 (.sl 3 (.int .i64))) x0)).set 8 (V.dat (.sl 22 (.sl 3 (.int .i64))) x8)).set 9 (V.dat (.int .i64) x9)).set 10 (V.dat (.int .i64) x10)), []⟩
noncomputable def f_lineage_candidate.M_l2 (c43 : f_slices_Contains_int.E) (k n : Nat) (m0 : Nat) (s : St) : Option ((Int) × (Bool)) := atLoop (f_lineage_candidate.C c43) k n [1, 0, 1, 0, 1, 0, 0, 1, 1, 0, 0, 1, 0, 1, 0] [m0] f_lineage_candidate.code (f_lineage_candidate.fin c43) s
noncomputable def f_lineage_candidate.fr_l2 (x0 : List (List (Int))) (x5 : List (Int)) (x8 : List (List (Int))) (x9 : Int) (x10 : Int) (x14 : List (List (Int))) (x15 : Int) (x16 : Int) : St := ⟨(((((((((List.replicate 31 V.un).set 0 (V.dat (.sl 22 (.sl 3 (.int .i64))) x0)).set 5 (V.dat (.sl 3 (.int .i64)) x5)).set 8 (V.dat (.sl 22 (.sl 3 (.int .i64))) x8)).set 9 (V.dat (.int .i64) x9)).set 10 (V.dat (.int .i64) x10)).set 14 (V.dat (.sl 22 (.sl 3 (.int .i64))) x14)).set 15 (V.dat (.int .i64) x15)).set 16 (V.dat (.int .i64) x16)), []⟩
theorem f_lineage_candidate.r (c43 : f_slices_Contains_int.E) (k : Nat) (a0 : List (List (Int))) : fn (f_lineage_candidate.C c43) k Try.f71 f_lineage_candidate.A f_lineage_candidate.R a0 = f_lineage_candidate.b c43 (fun x0 x8 x9 x10 => f_lineage_candidate.M_l0 c43 k k  (f_lineage_candidate.fr_l0 x0 x8 x9 x10)) a0 := by kernel_rfl
theorem f_lineage_candidate.z_l0 (c43 : f_slices_Contains_int.E) (k : Nat)  (s : St) : f_lineage_candidate.M_l0 c43 k 0  s = none := by kernel_rfl
theorem f_lineage_candidate.r_l0 (c43 : f_slices_Contains_int.E) (k n : Nat)  (x0 : List (List (Int))) (x8 : List (List (Int))) (x9 : Int) (x10 : Int) : f_lineage_candidate.M_l0 c43 k (n + 1)  (f_lineage_candidate.fr_l0 x0 x8 x9 x10) = f_lineage_candidate.b_l0 c43 (fun x0 x5 x8 x9 x10 x14 x15 x16 => f_lineage_candidate.M_l2 c43 k k n (f_lineage_candidate.fr_l2 x0 x5 x8 x9 x10 x14 x15 x16)) x0 x8 x9 x10 := by kernel_rfl
theorem f_lineage_candidate.z_l2 (c43 : f_slices_Contains_int.E) (k : Nat) (m0 : Nat) (s : St) : f_lineage_candidate.M_l2 c43 k 0 m0 s = none := by kernel_rfl
theorem f_lineage_candidate.r_l2 (c43 : f_slices_Contains_int.E) (k n : Nat) (m0 : Nat) (x0 : List (List (Int))) (x5 : List (Int)) (x8 : List (List (Int))) (x9 : Int) (x10 : Int) (x14 : List (List (Int))) (x15 : Int) (x16 : Int) : f_lineage_candidate.M_l2 c43 k (n + 1) m0 (f_lineage_candidate.fr_l2 x0 x5 x8 x9 x10 x14 x15 x16) = f_lineage_candidate.b_l2 c43 (fun x0 x8 x9 x10 => f_lineage_candidate.M_l0 c43 k m0  (f_lineage_candidate.fr_l0 x0 x8 x9 x10)) (fun x0 x5 x8 x9 x10 x14 x15 x16 => f_lineage_candidate.M_l2 c43 k n m0 (f_lineage_candidate.fr_l2 x0 x5 x8 x9 x10 x14 x15 x16)) x0 x5 x8 x9 x10 x14 x15 x16 := by kernel_rfl
theorem f_lineage_candidate.e_l2 (c43 : f_slices_Contains_int.E) (k n : Nat) (m0 : Nat) (x0 : List (List (Int))) (x5 : List (Int)) (x8 : List (List (Int))) (x9 : Int) (x10 : Int) (x14 : List (List (Int))) (x15 : Int) (x16 : Int) : f_lineage_candidate.M_l2 c43 k n m0 (f_lineage_candidate.fr_l2 x0 x5 x8 x9 x10 x14 x15 x16) = f_lineage_candidate.l2 c43 k (fun x0 x8 x9 x10 => f_lineage_candidate.M_l0 c43 k m0  (f_lineage_candidate.fr_l0 x0 x8 x9 x10)) n x0 x5 x8 x9 x10 x14 x15 x16 := by
  induction n generalizing x0 x5 x8 x9 x10 x14 x15 x16 with
  | zero => rw [f_lineage_candidate.z_l2]; rfl
  | succ n ih =>
    rw [f_lineage_candidate.r_l2]
    simp only [ih]
    rfl
theorem f_lineage_candidate.e_l0 (c43 : f_slices_Contains_int.E) (k n : Nat)  (x0 : List (List (Int))) (x8 : List (List (Int))) (x9 : Int) (x10 : Int) : f_lineage_candidate.M_l0 c43 k n  (f_lineage_candidate.fr_l0 x0 x8 x9 x10) = f_lineage_candidate.l0 c43 k  n x0 x8 x9 x10 := by
  induction n generalizing x0 x8 x9 x10 with
  | zero => rw [f_lineage_candidate.z_l0]; rfl
  | succ n ih =>
    rw [f_lineage_candidate.r_l0]
    simp only [f_lineage_candidate.e_l2, ih]
    rfl
theorem f_lineage_candidate.e (c43 : f_slices_Contains_int.E) (k : Nat) (a0 : List (List (Int))) : fn (f_lineage_candidate.C c43) k Try.f71 f_lineage_candidate.A f_lineage_candidate.R a0 = f_lineage_candidate.f c43 k a0 := by
  rw [f_lineage_candidate.r]
  simp only [f_lineage_candidate.e_l0]
  rfl
def f_lineage_candidate.u (k : Nat) : f_lineage_candidate.E := fun y => f_lineage_candidate.f (f_slices_Contains_int.u k) k y
theorem f_lineage_candidate.ty (c43 : f_slices_Contains_int.E) : TyOk Try.prog (f_lineage_candidate.C c43) := tyOk_of (by kernel_rfl)
theorem f_lineage_candidate.sound (k : Nat) : Sound Try.prog ⟨71, f_lineage_candidate.A, f_lineage_candidate.R, f_lineage_candidate.u k⟩ := by
  have h := fn_sound (k := k) («as» := f_lineage_candidate.A) (rs := f_lineage_candidate.R) (f_lineage_candidate.ty (f_slices_Contains_int.u k)) (fun E h => by
    simp only [f_lineage_candidate.C, List.mem_cons, List.not_mem_nil, or_false] at h
    rcases h with rfl
    · exact f_slices_Contains_int.sound k) mixed Try.func71 (by kernel_rfl) (by kernel_rfl)
  have e : fn (f_lineage_candidate.C (f_slices_Contains_int.u k)) k Try.f71 f_lineage_candidate.A f_lineage_candidate.R = f_lineage_candidate.u k := by
    funext y
    exact f_lineage_candidate.e (f_slices_Contains_int.u k) k y
  rw [e] at h
  exact h
/-! ### brindlewood/lineage.merge: f37 -/
abbrev f_lineage_merge.A : List Sh := [(.o 22 (.sl 3 (.int .i64)))]
abbrev f_lineage_merge.R : List Sh := [(.d (.sl 3 (.int .i64))), (.d (.sl 22 (.sl 3 (.int .i64))))]
abbrev f_lineage_merge.E : Type := (List (List (Int))) → Option ((List (Int)) × (List (List (Int))))
def f_lineage_merge.C (c69 : f_slices_DeleteFunc_Lint.E) (c70 : f_lineage_merge_c1.E) (c71 : f_lineage_candidate.E) : Ctx := { ty := [(3, (.int .i64)), (22, (.sl 3 (.int .i64))), (30, (.sl 22 (.sl 3 (.int .i64))))], nf := [], by_ := [(3, 8), (22, 24)], env := [⟨69, f_slices_DeleteFunc_Lint.A, f_slices_DeleteFunc_Lint.R, c69⟩, ⟨70, f_lineage_merge_c1.A, f_lineage_merge_c1.R, c70⟩, ⟨71, f_lineage_candidate.A, f_lineage_candidate.R, c71⟩], spec := [(0, [.o 0 500000 22 (.sl 3 (.int .i64)), .o 4 500004 3 (.int .i64)]), (2, [.o 0 500000 22 (.sl 3 (.int .i64)), .o 4 500004 3 (.int .i64), .d 5 (.int .i64), .al 24 0, .d 25 (.int .i64), .d 26 (.int .i64)])] }
noncomputable def f_lineage_merge.code : Code := Func.code Try.f37
noncomputable def f_lineage_merge.fin (c69 : f_slices_DeleteFunc_Lint.E) (c70 : f_lineage_merge_c1.E) (c71 : f_lineage_candidate.E) := kfin (f_lineage_merge.C c69 c70 c71) Try.f37 f_lineage_merge.A f_lineage_merge.R
def f_lineage_merge.b (c69 : f_slices_DeleteFunc_Lint.E) (c70 : f_lineage_merge_c1.E) (c71 : f_lineage_candidate.E) (r_l0 : (List (List (Int))) → (List (Int)) → Option ((List (Int)) × (List (List (Int))))) (a0 : List (List (Int))) : Option ((List (Int)) × (List (List (Int)))) :=
  r_l0 (List.take (List.length a0) a0) ([] : List (Int))
def f_lineage_merge.b_l0 (c69 : f_slices_DeleteFunc_Lint.E) (c70 : f_lineage_merge_c1.E) (c71 : f_lineage_candidate.E) (r_l2 : (List (List (Int))) → (List (Int)) → (Int) → (Int) → (Int) → Option ((List (Int)) × (List (List (Int))))) (x0 : List (List (Int))) (x4 : List (Int)) : Option ((List (Int)) × (List (List (Int)))) :=
  (c69 ((List.take (List.length x0) x0), (fun z1 => (c70 z1.1).bind some))).bind fun y2 =>
    (c71 (List.take (List.length y2) y2)).bind fun y3 =>
      bif (!y3.2) then
        some ((List.take (List.length x4) x4), (List.take (List.length y2) y2))
      else
        if (List.length x4) ≤ (List.length x4) ∧ ((List.length x4) + (List.length (List.take 1 [y3.1]))) * 8 ≤ LIM then
          if (List.length y2) = (List.length y2) then
            r_l2 (List.take (List.length y2) y2) (List.take (List.length (List.append (List.take (List.length x4) x4) (List.take 1 [y3.1]))) (List.append (List.take (List.length x4) x4) (List.take 1 [y3.1]))) y3.1 (((List.length y2) : Nat) : Int) (0 : Int)
          else none
        else none
def f_lineage_merge.b_l2 (c69 : f_slices_DeleteFunc_Lint.E) (c70 : f_lineage_merge_c1.E) (c71 : f_lineage_candidate.E) (n_l2 : (List (List (Int))) → (List (Int)) → (Int) → (Int) → (Int) → Option ((List (Int)) × (List (List (Int))))) (n_l0 : (List (List (Int))) → (List (Int)) → Option ((List (Int)) × (List (List (Int))))) (x0 : List (List (Int))) (x4 : List (Int)) (x5 : Int) (x25 : Int) (x26 : Int) : Option ((List (Int)) × (List (List (Int)))) :=
  bif (decide (x26 < x25)) then
    if 0 ≤ x26 ∧ x26 < (((List.length x0) : Nat) : Int) then
      if 0 ≤ (0 : Int) ∧ (0 : Int) < ((List.length (List.getD x0 (0 + Int.toNat x26) [])) : Int) then
        bif ((List.getD (List.getD x0 (0 + Int.toNat x26) []) (Int.toNat (0 : Int)) (0 : Int)) == x5) then
          if 0 ≤ (1 : Int) ∧ (1 : Int) ≤ ((List.length (List.getD x0 (0 + Int.toNat x26) [])) : Int) ∧ ((List.length (List.getD x0 (0 + Int.toNat x26) [])) : Int) ≤ ((List.length (List.getD x0 (0 + Int.toNat x26) [])) : Int) then
            if 0 ≤ x26 ∧ x26 < (((List.length x0) : Nat) : Int) then
              if (List.length x0) = (List.length x0) then
                n_l2 (List.take (List.length x0) (List.set x0 (0 + Int.toNat x26) (List.drop (Int.toNat (1 : Int)) (List.take (Int.toNat ((List.length (List.getD x0 (0 + Int.toNat x26) [])) : Int)) (List.getD x0 (0 + Int.toNat x26) []))))) (List.take (List.length x4) x4) x5 x25 (IntKind.i64.wrap (x26 + (1 : Int)))
              else none
            else none
          else none
        else
          if (List.length x0) = (List.length x0) then
            n_l2 (List.take (List.length x0) x0) (List.take (List.length x4) x4) x5 x25 (IntKind.i64.wrap (x26 + (1 : Int)))
          else none
      else none
    else none
  else
    n_l0 (List.take (List.length x0) x0) (List.take (List.length x4) x4)
def f_lineage_merge.l2 (c69 : f_slices_DeleteFunc_Lint.E) (c70 : f_lineage_merge_c1.E) (c71 : f_lineage_candidate.E) (k : Nat) (n_l0 : (List (List (Int))) → (List (Int)) → Option ((List (Int)) × (List (List (Int))))) : Nat → (List (List (Int))) → (List (Int)) → (Int) → (Int) → (Int) → Option ((List (Int)) × (List (List (Int))))
  | 0, _, _, _, _, _ => none
  | n + 1, x0, x4, x5, x25, x26 => f_lineage_merge.b_l2 c69 c70 c71 (fun x0 x4 x5 x25 x26 => f_lineage_merge.l2 c69 c70 c71 k n_l0 n x0 x4 x5 x25 x26) n_l0 x0 x4 x5 x25 x26
def f_lineage_merge.l0 (c69 : f_slices_DeleteFunc_Lint.E) (c70 : f_lineage_merge_c1.E) (c71 : f_lineage_candidate.E) (k : Nat)  : Nat → (List (List (Int))) → (List (Int)) → Option ((List (Int)) × (List (List (Int))))
  | 0, _, _ => none
  | n + 1, x0, x4 => f_lineage_merge.b_l0 c69 c70 c71 (f_lineage_merge.l2 c69 c70 c71 k (fun x0 x4 => f_lineage_merge.l0 c69 c70 c71 k  n x0 x4) k) x0 x4
def f_lineage_merge.f (c69 : f_slices_DeleteFunc_Lint.E) (c70 : f_lineage_merge_c1.E) (c71 : f_lineage_candidate.E) (k : Nat) (a0 : List (List (Int))) : Option ((List (Int)) × (List (List (Int)))) := f_lineage_merge.b c69 c70 c71 (f_lineage_merge.l0 c69 c70 c71 k k) a0
noncomputable def f_lineage_merge.M_l0 (c69 : f_slices_DeleteFunc_Lint.E) (c70 : f_lineage_merge_c1.E) (c71 : f_lineage_candidate.E) (k n : Nat)  (s : St) : Option ((List (Int)) × (List (List (Int)))) := atLoop (f_lineage_merge.C c69 c70 c71) k n [1, 1, 0] [] f_lineage_merge.code (f_lineage_merge.fin c69 c70 c71) s
noncomputable def f_lineage_merge.fr_l0 (x0 : List (List (Int))) (x4 : List (Int)) : St := ⟨(((List.replicate 42 V.un).set 0 (V.ref 500000 0 0 (List.length x0))).set 4 (V.ref 500004 0 0 (List.length x4))), [⟨500004, 0, .arr 3 (.int .i64) x4⟩, ⟨500000, 0, .arr 22 (.sl 3 (.int .i64)) x0⟩]⟩
noncomputable def f_lineage_merge.M_l2 (c69 : f_slices_DeleteFunc_Lint.E) (c70 : f_lineage_merge_c1.E) (c71 : f_lineage_candidate.E) (k n : Nat) (m0 : Nat) (s : St) : Option ((List (Int)) × (List (List (Int)))) := atLoop (f_lineage_merge.C c69 c70 c71) k n [1, 1, 0, 0, 0, 1, 1, 1, 1, 1, 0] [m0] f_lineage_merge.code (f_lineage_merge.fin c69 c70 c71) s
noncomputable def f_lineage_merge.fr_l2 (x0 : List (List (Int))) (x4 : List (Int)) (x5 : Int) (x25 : Int) (x26 : Int) : St := ⟨(((((((List.replicate 42 V.un).set 0 (V.ref 500000 0 0 (List.length x0))).set 4 (V.ref 500004 0 0 (List.length x4))).set 5 (V.dat (.int .i64) x5)).set 24 (V.ref 500000 0 0 (List.length x0))).set 25 (V.dat (.int .i64) x25)).set 26 (V.dat (.int .i64) x26)), [⟨500004, 0, .arr 3 (.int .i64) x4⟩, ⟨500000, 0, .arr 22 (.sl 3 (.int .i64)) x0⟩]⟩
theorem f_lineage_merge.r (c69 : f_slices_DeleteFunc_Lint.E) (c70 : f_lineage_merge_c1.E) (c71 : f_lineage_candidate.E) (k : Nat) (a0 : List (List (Int))) : fn (f_lineage_merge.C c69 c70 c71) k Try.f37 f_lineage_merge.A f_lineage_merge.R a0 = f_lineage_merge.b c69 c70 c71 (fun x0 x4 => f_lineage_merge.M_l0 c69 c70 c71 k k  (f_lineage_merge.fr_l0 x0 x4)) a0 := by kernel_rfl
theorem f_lineage_merge.z_l0 (c69 : f_slices_DeleteFunc_Lint.E) (c70 : f_lineage_merge_c1.E) (c71 : f_lineage_candidate.E) (k : Nat)  (s : St) : f_lineage_merge.M_l0 c69 c70 c71 k 0  s = none := by kernel_rfl
theorem f_lineage_merge.r_l0 (c69 : f_slices_DeleteFunc_Lint.E) (c70 : f_lineage_merge_c1.E) (c71 : f_lineage_candidate.E) (k n : Nat)  (x0 : List (List (Int))) (x4 : List (Int)) : f_lineage_merge.M_l0 c69 c70 c71 k (n + 1)  (f_lineage_merge.fr_l0 x0 x4) = f_lineage_merge.b_l0 c69 c70 c71 (fun x0 x4 x5 x25 x26 => f_lineage_merge.M_l2 c69 c70 c71 k k n (f_lineage_merge.fr_l2 x0 x4 x5 x25 x26)) x0 x4 := by kernel_rfl
theorem f_lineage_merge.z_l2 (c69 : f_slices_DeleteFunc_Lint.E) (c70 : f_lineage_merge_c1.E) (c71 : f_lineage_candidate.E) (k : Nat) (m0 : Nat) (s : St) : f_lineage_merge.M_l2 c69 c70 c71 k 0 m0 s = none := by kernel_rfl
theorem f_lineage_merge.r_l2 (c69 : f_slices_DeleteFunc_Lint.E) (c70 : f_lineage_merge_c1.E) (c71 : f_lineage_candidate.E) (k n : Nat) (m0 : Nat) (x0 : List (List (Int))) (x4 : List (Int)) (x5 : Int) (x25 : Int) (x26 : Int) : f_lineage_merge.M_l2 c69 c70 c71 k (n + 1) m0 (f_lineage_merge.fr_l2 x0 x4 x5 x25 x26) = f_lineage_merge.b_l2 c69 c70 c71 (fun x0 x4 x5 x25 x26 => f_lineage_merge.M_l2 c69 c70 c71 k n m0 (f_lineage_merge.fr_l2 x0 x4 x5 x25 x26)) (fun x0 x4 => f_lineage_merge.M_l0 c69 c70 c71 k m0  (f_lineage_merge.fr_l0 x0 x4)) x0 x4 x5 x25 x26 := by kernel_rfl
theorem f_lineage_merge.e_l2 (c69 : f_slices_DeleteFunc_Lint.E) (c70 : f_lineage_merge_c1.E) (c71 : f_lineage_candidate.E) (k n : Nat) (m0 : Nat) (x0 : List (List (Int))) (x4 : List (Int)) (x5 : Int) (x25 : Int) (x26 : Int) : f_lineage_merge.M_l2 c69 c70 c71 k n m0 (f_lineage_merge.fr_l2 x0 x4 x5 x25 x26) = f_lineage_merge.l2 c69 c70 c71 k (fun x0 x4 => f_lineage_merge.M_l0 c69 c70 c71 k m0  (f_lineage_merge.fr_l0 x0 x4)) n x0 x4 x5 x25 x26 := by
  induction n generalizing x0 x4 x5 x25 x26 with
  | zero => rw [f_lineage_merge.z_l2]; rfl
  | succ n ih =>
    rw [f_lineage_merge.r_l2]
    simp only [ih]
    rfl
theorem f_lineage_merge.e_l0 (c69 : f_slices_DeleteFunc_Lint.E) (c70 : f_lineage_merge_c1.E) (c71 : f_lineage_candidate.E) (k n : Nat)  (x0 : List (List (Int))) (x4 : List (Int)) : f_lineage_merge.M_l0 c69 c70 c71 k n  (f_lineage_merge.fr_l0 x0 x4) = f_lineage_merge.l0 c69 c70 c71 k  n x0 x4 := by
  induction n generalizing x0 x4 with
  | zero => rw [f_lineage_merge.z_l0]; rfl
  | succ n ih =>
    rw [f_lineage_merge.r_l0]
    simp only [f_lineage_merge.e_l2, ih]
    rfl
theorem f_lineage_merge.e (c69 : f_slices_DeleteFunc_Lint.E) (c70 : f_lineage_merge_c1.E) (c71 : f_lineage_candidate.E) (k : Nat) (a0 : List (List (Int))) : fn (f_lineage_merge.C c69 c70 c71) k Try.f37 f_lineage_merge.A f_lineage_merge.R a0 = f_lineage_merge.f c69 c70 c71 k a0 := by
  rw [f_lineage_merge.r]
  simp only [f_lineage_merge.e_l0]
  rfl
def f_lineage_merge.u (k : Nat) : f_lineage_merge.E := fun y => f_lineage_merge.f (f_slices_DeleteFunc_Lint.u k) (f_lineage_merge_c1.u k) (f_lineage_candidate.u k) k y
theorem f_lineage_merge.ty (c69 : f_slices_DeleteFunc_Lint.E) (c70 : f_lineage_merge_c1.E) (c71 : f_lineage_candidate.E) : TyOk Try.prog (f_lineage_merge.C c69 c70 c71) := tyOk_of (by kernel_rfl)
theorem f_lineage_merge.sound (k : Nat) : Sound Try.prog ⟨37, f_lineage_merge.A, f_lineage_merge.R, f_lineage_merge.u k⟩ := by
  have h := fn_sound (k := k) («as» := f_lineage_merge.A) (rs := f_lineage_merge.R) (f_lineage_merge.ty (f_slices_DeleteFunc_Lint.u k) (f_lineage_merge_c1.u k) (f_lineage_candidate.u k)) (fun E h => by
    simp only [f_lineage_merge.C, List.mem_cons, List.not_mem_nil, or_false] at h
    rcases h with rfl | rfl | rfl
    · exact f_slices_DeleteFunc_Lint.sound k
    · exact f_lineage_merge_c1.sound k
    · exact f_lineage_candidate.sound k) mixed Try.func37 (by kernel_rfl) (by kernel_rfl)
  have e : fn (f_lineage_merge.C (f_slices_DeleteFunc_Lint.u k) (f_lineage_merge_c1.u k) (f_lineage_candidate.u k)) k Try.f37 f_lineage_merge.A f_lineage_merge.R = f_lineage_merge.u k := by
    funext y
    exact f_lineage_merge.e (f_slices_DeleteFunc_Lint.u k) (f_lineage_merge_c1.u k) (f_lineage_candidate.u k) k y
  rw [e] at h
  exact h
/-! ### brindlewood/lineage.Order: f14 -/
abbrev f_lineage_Order.A : List Sh := [(.d (.sl 22 (.sl 3 (.int .i64))))]
abbrev f_lineage_Order.R : List Sh := [(.d (.sl 3 (.int .i64))), (.d Y_Fault)]
abbrev f_lineage_Order.E : Type := (List (List (Int))) → Option ((List (Int)) × X_Fault)
def f_lineage_Order.C (c36 : f_lineage_check.E) (c38 : f_lineage_lists.E) (c37 : f_lineage_merge.E) (c39 : f_lineage_fault.E) : Ctx := { ty := [(3, (.int .i64)), (22, (.sl 3 (.int .i64))), (27, Y_Fault), (30, (.sl 22 (.sl 3 (.int .i64))))], nf := [(27, 2)], by_ := [(3, 8), (22, 24)], env := [⟨36, f_lineage_check.A, f_lineage_check.R, c36⟩, ⟨38, f_lineage_lists.A, f_lineage_lists.R, c38⟩, ⟨37, f_lineage_merge.A, f_lineage_merge.R, c37⟩, ⟨39, f_lineage_fault.A, f_lineage_fault.R, c39⟩], spec := [] }
noncomputable def f_lineage_Order.code : Code := Func.code Try.f14
noncomputable def f_lineage_Order.fin (c36 : f_lineage_check.E) (c38 : f_lineage_lists.E) (c37 : f_lineage_merge.E) (c39 : f_lineage_fault.E) := kfin (f_lineage_Order.C c36 c38 c37 c39) Try.f14 f_lineage_Order.A f_lineage_Order.R
def f_lineage_Order.b (c36 : f_lineage_check.E) (c38 : f_lineage_lists.E) (c37 : f_lineage_merge.E) (c39 : f_lineage_fault.E)  (a0 : List (List (Int))) : Option ((List (Int)) × X_Fault) :=
  (c36 a0).bind fun y1 =>
    bif (y1.1 != (0 : Int)) then
      some (([] : List (Int)), y1)
    else
      (c38 a0).bind fun y2 =>
        (c37 (List.take (List.length y2) y2)).bind fun y3 =>
          bif (decide (((List.length y3.2) : Int) > (0 : Int))) then
            (c39 ((19 : Int), (-1 : Int))).bind fun y4 =>
              some (([] : List (Int)), y4)
          else
            bif (decide (((List.length y3.1) : Int) ≥ (40 : Int))) then
              (c39 ((14 : Int), (-1 : Int))).bind fun y5 =>
                some (([] : List (Int)), y5)
            else
              some (y3.1, ((0 : Int), (0 : Int)))
def f_lineage_Order.f (c36 : f_lineage_check.E) (c38 : f_lineage_lists.E) (c37 : f_lineage_merge.E) (c39 : f_lineage_fault.E) (k : Nat) (a0 : List (List (Int))) : Option ((List (Int)) × X_Fault) := f_lineage_Order.b c36 c38 c37 c39  a0
theorem f_lineage_Order.r (c36 : f_lineage_check.E) (c38 : f_lineage_lists.E) (c37 : f_lineage_merge.E) (c39 : f_lineage_fault.E) (k : Nat) (a0 : List (List (Int))) : fn (f_lineage_Order.C c36 c38 c37 c39) k Try.f14 f_lineage_Order.A f_lineage_Order.R a0 = f_lineage_Order.b c36 c38 c37 c39  a0 := by kernel_rfl
theorem f_lineage_Order.e (c36 : f_lineage_check.E) (c38 : f_lineage_lists.E) (c37 : f_lineage_merge.E) (c39 : f_lineage_fault.E) (k : Nat) (a0 : List (List (Int))) : fn (f_lineage_Order.C c36 c38 c37 c39) k Try.f14 f_lineage_Order.A f_lineage_Order.R a0 = f_lineage_Order.f c36 c38 c37 c39 k a0 := by
  rw [f_lineage_Order.r]
  rfl
def f_lineage_Order.u (k : Nat) : f_lineage_Order.E := fun y => f_lineage_Order.f (f_lineage_check.u k) (f_lineage_lists.u k) (f_lineage_merge.u k) (f_lineage_fault.u k) k y
theorem f_lineage_Order.ty (c36 : f_lineage_check.E) (c38 : f_lineage_lists.E) (c37 : f_lineage_merge.E) (c39 : f_lineage_fault.E) : TyOk Try.prog (f_lineage_Order.C c36 c38 c37 c39) := tyOk_of (by kernel_rfl)
theorem f_lineage_Order.sound (k : Nat) : Sound Try.prog ⟨14, f_lineage_Order.A, f_lineage_Order.R, f_lineage_Order.u k⟩ := by
  have h := fn_sound (k := k) («as» := f_lineage_Order.A) (rs := f_lineage_Order.R) (f_lineage_Order.ty (f_lineage_check.u k) (f_lineage_lists.u k) (f_lineage_merge.u k) (f_lineage_fault.u k)) (fun E h => by
    simp only [f_lineage_Order.C, List.mem_cons, List.not_mem_nil, or_false] at h
    rcases h with rfl | rfl | rfl | rfl
    · exact f_lineage_check.sound k
    · exact f_lineage_lists.sound k
    · exact f_lineage_merge.sound k
    · exact f_lineage_fault.sound k) mixed Try.func14 (by kernel_rfl) (by kernel_rfl)
  have e : fn (f_lineage_Order.C (f_lineage_check.u k) (f_lineage_lists.u k) (f_lineage_merge.u k) (f_lineage_fault.u k)) k Try.f14 f_lineage_Order.A f_lineage_Order.R = f_lineage_Order.u k := by
    funext y
    exact f_lineage_Order.e (f_lineage_check.u k) (f_lineage_lists.u k) (f_lineage_merge.u k) (f_lineage_fault.u k) k y
  rw [e] at h
  exact h
/-! ### brindlewood/brindlewoodref7.HasInt: f17 -/
abbrev f_ref7_HasInt.A : List Sh := [(.d (.sl 3 (.int .i64))), (.d (.int .i64))]
abbrev f_ref7_HasInt.R : List Sh := [(.d .bool)]
abbrev f_ref7_HasInt.E : Type := ((List (Int)) × (Int)) → Option (Bool)
def f_ref7_HasInt.C (c43 : f_slices_Contains_int.E) : Ctx := { ty := [], nf := [], by_ := [], env := [⟨43, f_slices_Contains_int.A, f_slices_Contains_int.R, c43⟩], spec := [] }
noncomputable def f_ref7_HasInt.code : Code := Func.code Try.f17
noncomputable def f_ref7_HasInt.fin (c43 : f_slices_Contains_int.E) := kfin (f_ref7_HasInt.C c43) Try.f17 f_ref7_HasInt.A f_ref7_HasInt.R
def f_ref7_HasInt.b (c43 : f_slices_Contains_int.E)  (a0 : List (Int)) (a1 : Int) : Option (Bool) :=
  (c43 (a0, a1)).bind fun y1 =>
    some y1
def f_ref7_HasInt.f (c43 : f_slices_Contains_int.E) (k : Nat) (a0 : List (Int)) (a1 : Int) : Option (Bool) := f_ref7_HasInt.b c43  a0 a1
theorem f_ref7_HasInt.r (c43 : f_slices_Contains_int.E) (k : Nat) (a0 : List (Int)) (a1 : Int) : fn (f_ref7_HasInt.C c43) k Try.f17 f_ref7_HasInt.A f_ref7_HasInt.R (a0, a1) = f_ref7_HasInt.b c43  a0 a1 := by kernel_rfl
theorem f_ref7_HasInt.e (c43 : f_slices_Contains_int.E) (k : Nat) (a0 : List (Int)) (a1 : Int) : fn (f_ref7_HasInt.C c43) k Try.f17 f_ref7_HasInt.A f_ref7_HasInt.R (a0, a1) = f_ref7_HasInt.f c43 k a0 a1 := by
  rw [f_ref7_HasInt.r]
  rfl
def f_ref7_HasInt.u (k : Nat) : f_ref7_HasInt.E := fun y => f_ref7_HasInt.f (f_slices_Contains_int.u k) k y.1 y.2
theorem f_ref7_HasInt.ty (c43 : f_slices_Contains_int.E) : TyOk Try.prog (f_ref7_HasInt.C c43) := tyOk_of (by kernel_rfl)
theorem f_ref7_HasInt.sound (k : Nat) : Sound Try.prog ⟨17, f_ref7_HasInt.A, f_ref7_HasInt.R, f_ref7_HasInt.u k⟩ := by
  have h := fn_sound (k := k) («as» := f_ref7_HasInt.A) (rs := f_ref7_HasInt.R) (f_ref7_HasInt.ty (f_slices_Contains_int.u k)) (fun E h => by
    simp only [f_ref7_HasInt.C, List.mem_cons, List.not_mem_nil, or_false] at h
    rcases h with rfl
    · exact f_slices_Contains_int.sound k) mixed Try.func17 (by kernel_rfl) (by kernel_rfl)
  have e : fn (f_ref7_HasInt.C (f_slices_Contains_int.u k)) k Try.f17 f_ref7_HasInt.A f_ref7_HasInt.R = f_ref7_HasInt.u k := by
    funext y
    exact f_ref7_HasInt.e (f_slices_Contains_int.u k) k y.1 y.2
  rw [e] at h
  exact h
/-! ### brindlewood/brindlewoodref7.OrdersFault: f40 -/
abbrev f_ref7_OrdersFault.A : List Sh := [(.d (.sl 22 (.sl 3 (.int .i64))))]
abbrev f_ref7_OrdersFault.R : List Sh := [(.d Y_Fault)]
abbrev f_ref7_OrdersFault.E : Type := (List (List (Int))) → Option X_Fault
def f_ref7_OrdersFault.C (c34 : f_ref7_At.E) (c17 : f_ref7_HasInt.E) : Ctx := { ty := [(3, (.int .i64)), (22, (.sl 3 (.int .i64))), (27, Y_Fault), (30, (.sl 22 (.sl 3 (.int .i64))))], nf := [(27, 2)], by_ := [(3, 8), (22, 24)], env := [⟨34, f_ref7_At.A, f_ref7_At.R, c34⟩, ⟨17, f_ref7_HasInt.A, f_ref7_HasInt.R, c17⟩], spec := [(0, [.bx 2 600002 (.d Y_Fault), .o 3 500003 3 (.int .i64), .d 14 (.sl 22 (.sl 3 (.int .i64))), .d 15 (.int .i64), .d 16 (.int .i64)]), (2, [.bx 2 600002 (.d Y_Fault), .o 3 500003 3 (.int .i64), .d 4 (.int .i64), .d 5 (.sl 3 (.int .i64)), .d 6 .bool, .d 7 (.int .i64), .d 14 (.sl 22 (.sl 3 (.int .i64))), .d 15 (.int .i64), .d 16 (.int .i64), .d 21 (.sl 3 (.int .i64)), .d 22 (.int .i64), .d 23 (.int .i64)])] }
noncomputable def f_ref7_OrdersFault.code : Code := Func.code Try.f40
noncomputable def f_ref7_OrdersFault.fin (c34 : f_ref7_At.E) (c17 : f_ref7_HasInt.E) := kfin (f_ref7_OrdersFault.C c34 c17) Try.f40 f_ref7_OrdersFault.A f_ref7_OrdersFault.R
def f_ref7_OrdersFault.b (c34 : f_ref7_At.E) (c17 : f_ref7_HasInt.E) (r_l0 : X_Fault → (List (Int)) → (List (List (Int))) → (Int) → (Int) → Option X_Fault) (a0 : List (List (Int))) : Option X_Fault :=
  bif (decide (((List.length a0) : Int) > (8 : Int))) then
    (c34 ((2 : Int), (-1 : Int))).bind fun y1 =>
      some y1
  else
    r_l0 ((0 : Int), (0 : Int)) ([] : List (Int)) a0 ((List.length a0) : Int) (0 : Int)
def f_ref7_OrdersFault.b_l0 (c34 : f_ref7_At.E) (c17 : f_ref7_HasInt.E) (r_l2 : X_Fault → (List (Int)) → (Int) → (List (Int)) → (Bool) → (Int) → (List (List (Int))) → (Int) → (Int) → (List (Int)) → (Int) → (Int) → Option X_Fault) (x2 : (Int) × (Int)) (x3 : List (Int)) (x14 : List (List (Int))) (x15 : Int) (x16 : Int) : Option X_Fault :=
  bif (decide (x16 < x15)) then
    if 0 ≤ x16 ∧ x16 < ((List.length x14) : Int) then
      r_l2 x2 (List.take (List.length x3) x3) x16 (List.getD x14 (Int.toNat x16) []) false (0 : Int) x14 x15 x16 (List.getD x14 (Int.toNat x16) []) ((List.length (List.getD x14 (Int.toNat x16) [])) : Int) (0 : Int)
    else none
  else
    some ((0 : Int), (0 : Int))
def f_ref7_OrdersFault.b_l2 (c34 : f_ref7_At.E) (c17 : f_ref7_HasInt.E) (n_l2 : X_Fault → (List (Int)) → (Int) → (List (Int)) → (Bool) → (Int) → (List (List (Int))) → (Int) → (Int) → (List (Int)) → (Int) → (Int) → Option X_Fault) (n_l0 : X_Fault → (List (Int)) → (List (List (Int))) → (Int) → (Int) → Option X_Fault) (x2 : (Int) × (Int)) (x3 : List (Int)) (x4 : Int) (x5 : List (Int)) (x6 : Bool) (x7 : Int) (x14 : List (List (Int))) (x15 : Int) (x16 : Int) (x21 : List (Int)) (x22 : Int) (x23 : Int) : Option X_Fault :=
  bif (decide (x23 < x22)) then
    if 0 ≤ x23 ∧ x23 < ((List.length x21) : Int) then
      bif x6 then
        n_l2 x2 (List.take (List.length x3) x3) x4 x5 true (if (List.getD x21 (Int.toNat x23) (0 : Int)) < x7 then (List.getD x21 (Int.toNat x23) (0 : Int)) else x7) x14 x15 x16 x21 x22 (IntKind.i64.wrap (x23 + (1 : Int)))
      else
        if 0 ≤ (0 : Int) ∧ (0 : Int) ≤ x23 ∧ x23 ≤ ((List.length x5) : Int) then
          (c17 ((List.drop (Int.toNat (0 : Int)) (List.take (Int.toNat x23) x5)), (List.getD x21 (Int.toNat x23) (0 : Int)))).bind fun y2 =>
            n_l2 x2 (List.take (List.length x3) x3) x4 x5 y2 (if (List.getD x21 (Int.toNat x23) (0 : Int)) < x7 then (List.getD x21 (Int.toNat x23) (0 : Int)) else x7) x14 x15 x16 x21 x22 (IntKind.i64.wrap (x23 + (1 : Int)))
        else none
    else none
  else
    bif (((List.length x5) : Int) == (0 : Int)) then
      (c34 ((10 : Int), x4)).bind fun y3 =>
        some y3
    else
      bif (decide (((List.length x5) : Int) > (40 : Int))) then
        (c34 ((2 : Int), x4)).bind fun y4 =>
          some y4
      else
        bif (decide (x7 < (0 : Int))) then
          (c34 ((4 : Int), x4)).bind fun y5 =>
            some y5
        else
          bif x6 then
            (c34 ((8 : Int), x4)).bind fun y6 =>
              some y6
          else
            if 0 ≤ (0 : Int) ∧ (0 : Int) < ((List.length x5) : Int) then
              (c17 ((List.take (List.length x3) x3), (List.getD x5 (Int.toNat (0 : Int)) (0 : Int)))).bind fun y7 =>
                bif y7 then
                  (c34 ((8 : Int), x4)).bind fun y8 =>
                    some y8
                else
                  if 0 ≤ (0 : Int) ∧ (0 : Int) < ((List.length x5) : Int) then
                    if (List.length x3) ≤ (List.length x3) ∧ ((List.length x3) + (List.length (List.take 1 [(List.getD x5 (Int.toNat (0 : Int)) (0 : Int))]))) * 8 ≤ LIM then
                      n_l0 x2 (List.take (List.length (List.append (List.take (List.length x3) x3) (List.take 1 [(List.getD x5 (Int.toNat (0 : Int)) (0 : Int))]))) (List.append (List.take (List.length x3) x3) (List.take 1 [(List.getD x5 (Int.toNat (0 : Int)) (0 : Int))]))) x14 x15 (IntKind.i64.wrap (x16 + (1 : Int)))
                    else none
                  else none
            else none
def f_ref7_OrdersFault.l2 (c34 : f_ref7_At.E) (c17 : f_ref7_HasInt.E) (k : Nat) (n_l0 : X_Fault → (List (Int)) → (List (List (Int))) → (Int) → (Int) → Option X_Fault) : Nat → X_Fault → (List (Int)) → (Int) → (List (Int)) → (Bool) → (Int) → (List (List (Int))) → (Int) → (Int) → (List (Int)) → (Int) → (Int) → Option X_Fault
  | 0, _, _, _, _, _, _, _, _, _, _, _, _ => none
  | n + 1, x2, x3, x4, x5, x6, x7, x14, x15, x16, x21, x22, x23 => f_ref7_OrdersFault.b_l2 c34 c17 (fun x2 x3 x4 x5 x6 x7 x14 x15 x16 x21 x22 x23 => f_ref7_OrdersFault.l2 c34 c17 k n_l0 n x2 x3 x4 x5 x6 x7 x14 x15 x16 x21 x22 x23) n_l0 x2 x3 x4 x5 x6 x7 x14 x15 x16 x21 x22 x23
def f_ref7_OrdersFault.l0 (c34 : f_ref7_At.E) (c17 : f_ref7_HasInt.E) (k : Nat)  : Nat → X_Fault → (List (Int)) → (List (List (Int))) → (Int) → (Int) → Option X_Fault
  | 0, _, _, _, _, _ => none
  | n + 1, x2, x3, x14, x15, x16 => f_ref7_OrdersFault.b_l0 c34 c17 (f_ref7_OrdersFault.l2 c34 c17 k (fun x2 x3 x14 x15 x16 => f_ref7_OrdersFault.l0 c34 c17 k  n x2 x3 x14 x15 x16) k) x2 x3 x14 x15 x16
def f_ref7_OrdersFault.f (c34 : f_ref7_At.E) (c17 : f_ref7_HasInt.E) (k : Nat) (a0 : List (List (Int))) : Option X_Fault := f_ref7_OrdersFault.b c34 c17 (f_ref7_OrdersFault.l0 c34 c17 k k) a0
noncomputable def f_ref7_OrdersFault.M_l0 (c34 : f_ref7_At.E) (c17 : f_ref7_HasInt.E) (k n : Nat)  (s : St) : Option X_Fault := atLoop (f_ref7_OrdersFault.C c34 c17) k n [1, 1, 1, 0, 1, 0] [] f_ref7_OrdersFault.code (f_ref7_OrdersFault.fin c34 c17) s
noncomputable def f_ref7_OrdersFault.fr_l0 (x2 : (Int) × (Int)) (x3 : List (Int)) (x14 : List (List (Int))) (x15 : Int) (x16 : Int) : St := ⟨((((((List.replicate 76 V.un).set 2 (V.bp 600002 0 [])).set 3 (V.ref 500003 0 0 (List.length x3))).set 14 (V.dat (.sl 22 (.sl 3 (.int .i64))) x14)).set 15 (V.dat (.int .i64) x15)).set 16 (V.dat (.int .i64) x16)), [⟨500003, 0, .arr 3 (.int .i64) x3⟩, ⟨600002, 0, .box (V.dat Y_Fault x2)⟩]⟩
noncomputable def f_ref7_OrdersFault.M_l2 (c34 : f_ref7_At.E) (c17 : f_ref7_HasInt.E) (k n : Nat) (m0 : Nat) (s : St) : Option X_Fault := atLoop (f_ref7_OrdersFault.C c34 c17) k n [1, 1, 1, 0, 1, 0, 0, 1, 1, 0, 0, 1, 1, 0, 1, 0] [m0] f_ref7_OrdersFault.code (f_ref7_OrdersFault.fin c34 c17) s
noncomputable def f_ref7_OrdersFault.fr_l2 (x2 : (Int) × (Int)) (x3 : List (Int)) (x4 : Int) (x5 : List (Int)) (x6 : Bool) (x7 : Int) (x14 : List (List (Int))) (x15 : Int) (x16 : Int) (x21 : List (Int)) (x22 : Int) (x23 : Int) : St := ⟨(((((((((((((List.replicate 76 V.un).set 2 (V.bp 600002 0 [])).set 3 (V.ref 500003 0 0 (List.length x3))).set 4 (V.dat (.int .i64) x4)).set 5 (V.dat (.sl 3 (.int .i64)) x5)).set 6 (V.dat .bool x6)).set 7 (V.dat (.int .i64) x7)).set 14 (V.dat (.sl 22 (.sl 3 (.int .i64))) x14)).set 15 (V.dat (.int .i64) x15)).set 16 (V.dat (.int .i64) x16)).set 21 (V.dat (.sl 3 (.int .i64)) x21)).set 22 (V.dat (.int .i64) x22)).set 23 (V.dat (.int .i64) x23)), [⟨500003, 0, .arr 3 (.int .i64) x3⟩, ⟨600002, 0, .box (V.dat Y_Fault x2)⟩]⟩
theorem f_ref7_OrdersFault.r (c34 : f_ref7_At.E) (c17 : f_ref7_HasInt.E) (k : Nat) (a0 : List (List (Int))) : fn (f_ref7_OrdersFault.C c34 c17) k Try.f40 f_ref7_OrdersFault.A f_ref7_OrdersFault.R a0 = f_ref7_OrdersFault.b c34 c17 (fun x2 x3 x14 x15 x16 => f_ref7_OrdersFault.M_l0 c34 c17 k k  (f_ref7_OrdersFault.fr_l0 x2 x3 x14 x15 x16)) a0 := by kernel_rfl
theorem f_ref7_OrdersFault.z_l0 (c34 : f_ref7_At.E) (c17 : f_ref7_HasInt.E) (k : Nat)  (s : St) : f_ref7_OrdersFault.M_l0 c34 c17 k 0  s = none := by kernel_rfl
theorem f_ref7_OrdersFault.r_l0 (c34 : f_ref7_At.E) (c17 : f_ref7_HasInt.E) (k n : Nat)  (x2 : (Int) × (Int)) (x3 : List (Int)) (x14 : List (List (Int))) (x15 : Int) (x16 : Int) : f_ref7_OrdersFault.M_l0 c34 c17 k (n + 1)  (f_ref7_OrdersFault.fr_l0 x2 x3 x14 x15 x16) = f_ref7_OrdersFault.b_l0 c34 c17 (fun x2 x3 x4 x5 x6 x7 x14 x15 x16 x21 x22 x23 => f_ref7_OrdersFault.M_l2 c34 c17 k k n (f_ref7_OrdersFault.fr_l2 x2 x3 x4 x5 x6 x7 x14 x15 x16 x21 x22 x23)) x2 x3 x14 x15 x16 := by kernel_rfl
theorem f_ref7_OrdersFault.z_l2 (c34 : f_ref7_At.E) (c17 : f_ref7_HasInt.E) (k : Nat) (m0 : Nat) (s : St) : f_ref7_OrdersFault.M_l2 c34 c17 k 0 m0 s = none := by kernel_rfl
theorem f_ref7_OrdersFault.r_l2 (c34 : f_ref7_At.E) (c17 : f_ref7_HasInt.E) (k n : Nat) (m0 : Nat) (x2 : (Int) × (Int)) (x3 : List (Int)) (x4 : Int) (x5 : List (Int)) (x6 : Bool) (x7 : Int) (x14 : List (List (Int))) (x15 : Int) (x16 : Int) (x21 : List (Int)) (x22 : Int) (x23 : Int) : f_ref7_OrdersFault.M_l2 c34 c17 k (n + 1) m0 (f_ref7_OrdersFault.fr_l2 x2 x3 x4 x5 x6 x7 x14 x15 x16 x21 x22 x23) = f_ref7_OrdersFault.b_l2 c34 c17 (fun x2 x3 x4 x5 x6 x7 x14 x15 x16 x21 x22 x23 => f_ref7_OrdersFault.M_l2 c34 c17 k n m0 (f_ref7_OrdersFault.fr_l2 x2 x3 x4 x5 x6 x7 x14 x15 x16 x21 x22 x23)) (fun x2 x3 x14 x15 x16 => f_ref7_OrdersFault.M_l0 c34 c17 k m0  (f_ref7_OrdersFault.fr_l0 x2 x3 x14 x15 x16)) x2 x3 x4 x5 x6 x7 x14 x15 x16 x21 x22 x23 := by kernel_rfl
theorem f_ref7_OrdersFault.e_l2 (c34 : f_ref7_At.E) (c17 : f_ref7_HasInt.E) (k n : Nat) (m0 : Nat) (x2 : (Int) × (Int)) (x3 : List (Int)) (x4 : Int) (x5 : List (Int)) (x6 : Bool) (x7 : Int) (x14 : List (List (Int))) (x15 : Int) (x16 : Int) (x21 : List (Int)) (x22 : Int) (x23 : Int) : f_ref7_OrdersFault.M_l2 c34 c17 k n m0 (f_ref7_OrdersFault.fr_l2 x2 x3 x4 x5 x6 x7 x14 x15 x16 x21 x22 x23) = f_ref7_OrdersFault.l2 c34 c17 k (fun x2 x3 x14 x15 x16 => f_ref7_OrdersFault.M_l0 c34 c17 k m0  (f_ref7_OrdersFault.fr_l0 x2 x3 x14 x15 x16)) n x2 x3 x4 x5 x6 x7 x14 x15 x16 x21 x22 x23 := by
  induction n generalizing x2 x3 x4 x5 x6 x7 x14 x15 x16 x21 x22 x23 with
  | zero => rw [f_ref7_OrdersFault.z_l2]; rfl
  | succ n ih =>
    rw [f_ref7_OrdersFault.r_l2]
    simp only [ih]
    rfl
theorem f_ref7_OrdersFault.e_l0 (c34 : f_ref7_At.E) (c17 : f_ref7_HasInt.E) (k n : Nat)  (x2 : (Int) × (Int)) (x3 : List (Int)) (x14 : List (List (Int))) (x15 : Int) (x16 : Int) : f_ref7_OrdersFault.M_l0 c34 c17 k n  (f_ref7_OrdersFault.fr_l0 x2 x3 x14 x15 x16) = f_ref7_OrdersFault.l0 c34 c17 k  n x2 x3 x14 x15 x16 := by
  induction n generalizing x2 x3 x14 x15 x16 with
  | zero => rw [f_ref7_OrdersFault.z_l0]; rfl
  | succ n ih =>
    rw [f_ref7_OrdersFault.r_l0]
    simp only [f_ref7_OrdersFault.e_l2, ih]
    rfl
theorem f_ref7_OrdersFault.e (c34 : f_ref7_At.E) (c17 : f_ref7_HasInt.E) (k : Nat) (a0 : List (List (Int))) : fn (f_ref7_OrdersFault.C c34 c17) k Try.f40 f_ref7_OrdersFault.A f_ref7_OrdersFault.R a0 = f_ref7_OrdersFault.f c34 c17 k a0 := by
  rw [f_ref7_OrdersFault.r]
  simp only [f_ref7_OrdersFault.e_l0]
  rfl
def f_ref7_OrdersFault.u (k : Nat) : f_ref7_OrdersFault.E := fun y => f_ref7_OrdersFault.f (f_ref7_At.u k) (f_ref7_HasInt.u k) k y
theorem f_ref7_OrdersFault.ty (c34 : f_ref7_At.E) (c17 : f_ref7_HasInt.E) : TyOk Try.prog (f_ref7_OrdersFault.C c34 c17) := tyOk_of (by kernel_rfl)
theorem f_ref7_OrdersFault.sound (k : Nat) : Sound Try.prog ⟨40, f_ref7_OrdersFault.A, f_ref7_OrdersFault.R, f_ref7_OrdersFault.u k⟩ := by
  have h := fn_sound (k := k) («as» := f_ref7_OrdersFault.A) (rs := f_ref7_OrdersFault.R) (f_ref7_OrdersFault.ty (f_ref7_At.u k) (f_ref7_HasInt.u k)) (fun E h => by
    simp only [f_ref7_OrdersFault.C, List.mem_cons, List.not_mem_nil, or_false] at h
    rcases h with rfl | rfl
    · exact f_ref7_At.sound k
    · exact f_ref7_HasInt.sound k) mixed Try.func40 (by kernel_rfl) (by kernel_rfl)
  have e : fn (f_ref7_OrdersFault.C (f_ref7_At.u k) (f_ref7_HasInt.u k)) k Try.f40 f_ref7_OrdersFault.A f_ref7_OrdersFault.R = f_ref7_OrdersFault.u k := by
    funext y
    exact f_ref7_OrdersFault.e (f_ref7_At.u k) (f_ref7_HasInt.u k) k y
  rw [e] at h
  exact h
/-! ### brindlewood/brindlewoodref7.inTail: f73 -/
abbrev f_ref7_inTail.A : List Sh := [(.d (.sl 22 (.sl 3 (.int .i64)))), (.d (.int .i64))]
abbrev f_ref7_inTail.R : List Sh := [(.d .bool)]
abbrev f_ref7_inTail.E : Type := ((List (List (Int))) × (Int)) → Option (Bool)
def f_ref7_inTail.C (c17 : f_ref7_HasInt.E) : Ctx := { ty := [(3, (.int .i64)), (22, (.sl 3 (.int .i64))), (30, (.sl 22 (.sl 3 (.int .i64))))], nf := [], by_ := [(3, 8), (22, 24)], env := [⟨17, f_ref7_HasInt.A, f_ref7_HasInt.R, c17⟩], spec := [(0, [.d 1 (.int .i64), .d 7 (.sl 22 (.sl 3 (.int .i64))), .d 8 (.int .i64), .d 9 (.int .i64)])] }
noncomputable def f_ref7_inTail.code : Code := Func.code Try.f73
noncomputable def f_ref7_inTail.fin (c17 : f_ref7_HasInt.E) := kfin (f_ref7_inTail.C c17) Try.f73 f_ref7_inTail.A f_ref7_inTail.R
def f_ref7_inTail.b (c17 : f_ref7_HasInt.E) (r_l0 : (Int) → (List (List (Int))) → (Int) → (Int) → Option (Bool)) (a0 : List (List (Int))) (a1 : Int) : Option (Bool) :=
  r_l0 a1 a0 ((List.length a0) : Int) (0 : Int)
def f_ref7_inTail.b_l0 (c17 : f_ref7_HasInt.E) (n_l0 : (Int) → (List (List (Int))) → (Int) → (Int) → Option (Bool)) (x1 : Int) (x7 : List (List (Int))) (x8 : Int) (x9 : Int) : Option (Bool) :=
  bif (decide (x9 < x8)) then
    if 0 ≤ x9 ∧ x9 < ((List.length x7) : Int) then
      if 0 ≤ (1 : Int) ∧ (1 : Int) ≤ ((List.length (List.getD x7 (Int.toNat x9) [])) : Int) ∧ ((List.length (List.getD x7 (Int.toNat x9) [])) : Int) ≤ ((List.length (List.getD x7 (Int.toNat x9) [])) : Int) then
        (c17 ((List.drop (Int.toNat (1 : Int)) (List.take (Int.toNat ((List.length (List.getD x7 (Int.toNat x9) [])) : Int)) (List.getD x7 (Int.toNat x9) []))), x1)).bind fun y1 =>
          bif y1 then
            some true
          else
            n_l0 x1 x7 x8 (IntKind.i64.wrap (x9 + (1 : Int)))
      else none
    else none
  else
    some false
def f_ref7_inTail.l0 (c17 : f_ref7_HasInt.E) (k : Nat)  : Nat → (Int) → (List (List (Int))) → (Int) → (Int) → Option (Bool)
  | 0, _, _, _, _ => none
  | n + 1, x1, x7, x8, x9 => f_ref7_inTail.b_l0 c17 (fun x1 x7 x8 x9 => f_ref7_inTail.l0 c17 k  n x1 x7 x8 x9) x1 x7 x8 x9
def f_ref7_inTail.f (c17 : f_ref7_HasInt.E) (k : Nat) (a0 : List (List (Int))) (a1 : Int) : Option (Bool) := f_ref7_inTail.b c17 (f_ref7_inTail.l0 c17 k k) a0 a1
noncomputable def f_ref7_inTail.M_l0 (c17 : f_ref7_HasInt.E) (k n : Nat)  (s : St) : Option (Bool) := atLoop (f_ref7_inTail.C c17) k n [1, 0, 1, 0] [] f_ref7_inTail.code (f_ref7_inTail.fin c17) s
noncomputable def f_ref7_inTail.fr_l0 (x1 : Int) (x7 : List (List (Int))) (x8 : Int) (x9 : Int) : St := ⟨(((((List.replicate 18 V.un).set 1 (V.dat (.int .i64) x1)).set 7 (V.dat (.sl 22 (.sl 3 (.int .i64))) x7)).set 8 (V.dat (.int .i64) x8)).set 9 (V.dat (.int .i64) x9)), []⟩
theorem f_ref7_inTail.r (c17 : f_ref7_HasInt.E) (k : Nat) (a0 : List (List (Int))) (a1 : Int) : fn (f_ref7_inTail.C c17) k Try.f73 f_ref7_inTail.A f_ref7_inTail.R (a0, a1) = f_ref7_inTail.b c17 (fun x1 x7 x8 x9 => f_ref7_inTail.M_l0 c17 k k  (f_ref7_inTail.fr_l0 x1 x7 x8 x9)) a0 a1 := by kernel_rfl
theorem f_ref7_inTail.z_l0 (c17 : f_ref7_HasInt.E) (k : Nat)  (s : St) : f_ref7_inTail.M_l0 c17 k 0  s = none := by kernel_rfl
theorem f_ref7_inTail.r_l0 (c17 : f_ref7_HasInt.E) (k n : Nat)  (x1 : Int) (x7 : List (List (Int))) (x8 : Int) (x9 : Int) : f_ref7_inTail.M_l0 c17 k (n + 1)  (f_ref7_inTail.fr_l0 x1 x7 x8 x9) = f_ref7_inTail.b_l0 c17 (fun x1 x7 x8 x9 => f_ref7_inTail.M_l0 c17 k n  (f_ref7_inTail.fr_l0 x1 x7 x8 x9)) x1 x7 x8 x9 := by kernel_rfl
theorem f_ref7_inTail.e_l0 (c17 : f_ref7_HasInt.E) (k n : Nat)  (x1 : Int) (x7 : List (List (Int))) (x8 : Int) (x9 : Int) : f_ref7_inTail.M_l0 c17 k n  (f_ref7_inTail.fr_l0 x1 x7 x8 x9) = f_ref7_inTail.l0 c17 k  n x1 x7 x8 x9 := by
  induction n generalizing x1 x7 x8 x9 with
  | zero => rw [f_ref7_inTail.z_l0]; rfl
  | succ n ih =>
    rw [f_ref7_inTail.r_l0]
    simp only [ih]
    rfl
theorem f_ref7_inTail.e (c17 : f_ref7_HasInt.E) (k : Nat) (a0 : List (List (Int))) (a1 : Int) : fn (f_ref7_inTail.C c17) k Try.f73 f_ref7_inTail.A f_ref7_inTail.R (a0, a1) = f_ref7_inTail.f c17 k a0 a1 := by
  rw [f_ref7_inTail.r]
  simp only [f_ref7_inTail.e_l0]
  rfl
def f_ref7_inTail.u (k : Nat) : f_ref7_inTail.E := fun y => f_ref7_inTail.f (f_ref7_HasInt.u k) k y.1 y.2
theorem f_ref7_inTail.ty (c17 : f_ref7_HasInt.E) : TyOk Try.prog (f_ref7_inTail.C c17) := tyOk_of (by kernel_rfl)
theorem f_ref7_inTail.sound (k : Nat) : Sound Try.prog ⟨73, f_ref7_inTail.A, f_ref7_inTail.R, f_ref7_inTail.u k⟩ := by
  have h := fn_sound (k := k) («as» := f_ref7_inTail.A) (rs := f_ref7_inTail.R) (f_ref7_inTail.ty (f_ref7_HasInt.u k)) (fun E h => by
    simp only [f_ref7_inTail.C, List.mem_cons, List.not_mem_nil, or_false] at h
    rcases h with rfl
    · exact f_ref7_HasInt.sound k) mixed Try.func73 (by kernel_rfl) (by kernel_rfl)
  have e : fn (f_ref7_inTail.C (f_ref7_HasInt.u k)) k Try.f73 f_ref7_inTail.A f_ref7_inTail.R = f_ref7_inTail.u k := by
    funext y
    exact f_ref7_inTail.e (f_ref7_HasInt.u k) k y.1 y.2
  rw [e] at h
  exact h
/-! ### brindlewood/brindlewoodref7.Merged: f41 -/
abbrev f_ref7_Merged.A : List Sh := [(.d (.sl 22 (.sl 3 (.int .i64))))]
abbrev f_ref7_Merged.R : List Sh := [(.d (.sl 3 (.int .i64))), (.d (.sl 22 (.sl 3 (.int .i64))))]
abbrev f_ref7_Merged.E : Type := (List (List (Int))) → Option ((List (Int)) × (List (List (Int))))
def f_ref7_Merged.C (c73 : f_ref7_inTail.E) : Ctx := { ty := [(3, (.int .i64)), (22, (.sl 3 (.int .i64))), (30, (.sl 22 (.sl 3 (.int .i64))))], nf := [], by_ := [(3, 8), (22, 24)], env := [⟨73, f_ref7_inTail.A, f_ref7_inTail.R, c73⟩], spec := [(0, [.o 2 500002 3 (.int .i64), .o 3 500003 22 (.sl 3 (.int .i64)), .o 4 500004 3 (.int .i64), .d 14 (.sl 22 (.sl 3 (.int .i64))), .d 15 (.int .i64), .d 16 (.int .i64)]), (2, [.o 2 500002 3 (.int .i64), .o 3 500003 22 (.sl 3 (.int .i64))]), (4, [.o 2 500002 3 (.int .i64), .o 3 500003 22 (.sl 3 (.int .i64)), .d 7 (.int .i64), .d 8 .bool, .al 41 3, .d 42 (.int .i64), .d 43 (.int .i64)]), (6, [.o 2 500002 3 (.int .i64), .d 7 (.int .i64), .o 11 500011 22 (.sl 3 (.int .i64)), .o 69 500069 22 (.sl 3 (.int .i64)), .d 70 (.int .i64), .d 71 (.int .i64)]), (100027, [.o 2 500002 3 (.int .i64), .d 7 (.int .i64), .o 11 500011 22 (.sl 3 (.int .i64)), .d 13 (.sl 3 (.int .i64)), .o 69 500069 22 (.sl 3 (.int .i64)), .d 70 (.int .i64), .d 71 (.int .i64)])] }
noncomputable def f_ref7_Merged.code : Code := Func.code Try.f41
noncomputable def f_ref7_Merged.fin (c73 : f_ref7_inTail.E) := kfin (f_ref7_Merged.C c73) Try.f41 f_ref7_Merged.A f_ref7_Merged.R
def f_ref7_Merged.b (c73 : f_ref7_inTail.E) (r_l0 : (List (Int)) → (List (List (Int))) → (List (Int)) → (List (List (Int))) → (Int) → (Int) → Option ((List (Int)) × (List (List (Int))))) (a0 : List (List (Int))) : Option ((List (Int)) × (List (List (Int)))) :=
  r_l0 ([] : List (Int)) ([] : List (List (Int))) ([] : List (Int)) a0 ((List.length a0) : Int) (0 : Int)
def f_ref7_Merged.b_l0 (c73 : f_ref7_inTail.E) (n_l0 : (List (Int)) → (List (List (Int))) → (List (Int)) → (List (List (Int))) → (Int) → (Int) → Option ((List (Int)) × (List (List (Int))))) (r_l2 : (List (Int)) → (List (List (Int))) → Option ((List (Int)) × (List (List (Int))))) (x2 : List (Int)) (x3 : List (List (Int))) (x4 : List (Int)) (x14 : List (List (Int))) (x15 : Int) (x16 : Int) : Option ((List (Int)) × (List (List (Int)))) :=
  bif (decide (x16 < x15)) then
    if 0 ≤ x16 ∧ x16 < ((List.length x14) : Int) then
      if (List.length x3) ≤ (List.length x3) ∧ ((List.length x3) + (List.length (List.take 1 [(List.getD x14 (Int.toNat x16) [])]))) * 24 ≤ LIM then
        if 0 ≤ (0 : Int) ∧ (0 : Int) < ((List.length (List.getD x14 (Int.toNat x16) [])) : Int) then
          if (List.length x4) ≤ (List.length x4) ∧ ((List.length x4) + (List.length (List.take 1 [(List.getD (List.getD x14 (Int.toNat x16) []) (Int.toNat (0 : Int)) (0 : Int))]))) * 8 ≤ LIM then
            n_l0 (List.take (List.length x2) x2) (List.take (List.length (List.append (List.take (List.length x3) x3) (List.take 1 [(List.getD x14 (Int.toNat x16) [])]))) (List.append (List.take (List.length x3) x3) (List.take 1 [(List.getD x14 (Int.toNat x16) [])]))) (List.take (List.length (List.append (List.take (List.length x4) x4) (List.take 1 [(List.getD (List.getD x14 (Int.toNat x16) []) (Int.toNat (0 : Int)) (0 : Int))]))) (List.append (List.take (List.length x4) x4) (List.take 1 [(List.getD (List.getD x14 (Int.toNat x16) []) (Int.toNat (0 : Int)) (0 : Int))]))) x14 x15 (IntKind.i64.wrap (x16 + (1 : Int)))
          else none
        else none
      else none
    else none
  else
    bif (decide ((((List.length x4) : Nat) : Int) > (0 : Int))) then
      if (List.length x3) ≤ (List.length x3) ∧ ((List.length x3) + (List.length (List.take 1 [(List.take (List.length x4) x4)]))) * 24 ≤ LIM then
        r_l2 (List.take (List.length x2) x2) (List.take (List.length (List.append (List.take (List.length x3) x3) (List.take 1 [(List.take (List.length x4) x4)]))) (List.append (List.take (List.length x3) x3) (List.take 1 [(List.take (List.length x4) x4)])))
      else none
    else
      r_l2 (List.take (List.length x2) x2) (List.take (List.length x3) x3)
def f_ref7_Merged.b_l2 (c73 : f_ref7_inTail.E) (r_l4 : (List (Int)) → (List (List (Int))) → (Int) → (Bool) → (Int) → (Int) → Option ((List (Int)) × (List (List (Int))))) (x2 : List (Int)) (x3 : List (List (Int))) : Option ((List (Int)) × (List (List (Int)))) :=
  bif (decide ((((List.length x3) : Nat) : Int) > (0 : Int))) then
    if (List.length x3) = (List.length x3) then
      r_l4 (List.take (List.length x2) x2) (List.take (List.length x3) x3) (0 : Int) false (((List.length x3) : Nat) : Int) (0 : Int)
    else none
  else
    some ((List.take (List.length x2) x2), ([] : List (List (Int))))
def f_ref7_Merged.b_l4 (c73 : f_ref7_inTail.E) (n_l4 : (List (Int)) → (List (List (Int))) → (Int) → (Bool) → (Int) → (Int) → Option ((List (Int)) × (List (List (Int))))) (r_l6 : (List (Int)) → (Int) → (List (List (Int))) → (List (List (Int))) → (Int) → (Int) → Option ((List (Int)) × (List (List (Int))))) (x2 : List (Int)) (x3 : List (List (Int))) (x7 : Int) (x8 : Bool) (x42 : Int) (x43 : Int) : Option ((List (Int)) × (List (List (Int)))) :=
  bif (decide (x43 < x42)) then
    if 0 ≤ x43 ∧ x43 < (((List.length x3) : Nat) : Int) then
      bif (!x8) then
        if 0 ≤ (0 : Int) ∧ (0 : Int) < ((List.length (List.getD x3 (0 + Int.toNat x43) [])) : Int) then
          (c73 ((List.take (List.length x3) x3), (List.getD (List.getD x3 (0 + Int.toNat x43) []) (Int.toNat (0 : Int)) (0 : Int)))).bind fun y1 =>
            bif (!y1) then
              if 0 ≤ (0 : Int) ∧ (0 : Int) < ((List.length (List.getD x3 (0 + Int.toNat x43) [])) : Int) then
                if (List.length x3) = (List.length x3) then
                  n_l4 (List.take (List.length x2) x2) (List.take (List.length x3) x3) (List.getD (List.getD x3 (0 + Int.toNat x43) []) (Int.toNat (0 : Int)) (0 : Int)) true x42 (IntKind.i64.wrap (x43 + (1 : Int)))
                else none
              else none
            else
              if (List.length x3) = (List.length x3) then
                n_l4 (List.take (List.length x2) x2) (List.take (List.length x3) x3) x7 x8 x42 (IntKind.i64.wrap (x43 + (1 : Int)))
              else none
        else none
      else
        if (List.length x3) = (List.length x3) then
          n_l4 (List.take (List.length x2) x2) (List.take (List.length x3) x3) x7 x8 x42 (IntKind.i64.wrap (x43 + (1 : Int)))
        else none
    else none
  else
    bif (!x8) then
      some ((List.take (List.length x2) x2), (List.take (List.length x3) x3))
    else
      if (List.length x2) ≤ (List.length x2) ∧ ((List.length x2) + (List.length (List.take 1 [x7]))) * 8 ≤ LIM then
        r_l6 (List.take (List.length (List.append (List.take (List.length x2) x2) (List.take 1 [x7]))) (List.append (List.take (List.length x2) x2) (List.take 1 [x7]))) x7 ([] : List (List (Int))) (List.take (List.length x3) x3) (((List.length x3) : Nat) : Int) (0 : Int)
      else none
def f_ref7_Merged.b_l6 (c73 : f_ref7_inTail.E) (r_g27 : (List (Int)) → (Int) → (List (List (Int))) → (List (Int)) → (List (List (Int))) → (Int) → (Int) → Option ((List (Int)) × (List (List (Int))))) (n_l6 : (List (Int)) → (Int) → (List (List (Int))) → (List (List (Int))) → (Int) → (Int) → Option ((List (Int)) × (List (List (Int))))) (n_l2 : (List (Int)) → (List (List (Int))) → Option ((List (Int)) × (List (List (Int))))) (x2 : List (Int)) (x7 : Int) (x11 : List (List (Int))) (x69 : List (List (Int))) (x70 : Int) (x71 : Int) : Option ((List (Int)) × (List (List (Int)))) :=
  bif (decide (x71 < x70)) then
    if 0 ≤ x71 ∧ x71 < (((List.length x69) : Nat) : Int) then
      if 0 ≤ (0 : Int) ∧ (0 : Int) < ((List.length (List.getD x69 (0 + Int.toNat x71) [])) : Int) then
        bif ((List.getD (List.getD x69 (0 + Int.toNat x71) []) (Int.toNat (0 : Int)) (0 : Int)) == x7) then
          if 0 ≤ (1 : Int) ∧ (1 : Int) ≤ ((List.length (List.getD x69 (0 + Int.toNat x71) [])) : Int) ∧ ((List.length (List.getD x69 (0 + Int.toNat x71) [])) : Int) ≤ ((List.length (List.getD x69 (0 + Int.toNat x71) [])) : Int) then
            bif (decide (((List.length (List.drop (Int.toNat (1 : Int)) (List.take (Int.toNat ((List.length (List.getD x69 (0 + Int.toNat x71) [])) : Int)) (List.getD x69 (0 + Int.toNat x71) [])))) : Int) > (0 : Int))) then
              r_g27 (List.take (List.length x2) x2) x7 (List.take (List.length x11) x11) (List.drop (Int.toNat (1 : Int)) (List.take (Int.toNat ((List.length (List.getD x69 (0 + Int.toNat x71) [])) : Int)) (List.getD x69 (0 + Int.toNat x71) []))) (List.take (List.length x69) x69) x70 x71
            else
              n_l6 (List.take (List.length x2) x2) x7 (List.take (List.length x11) x11) (List.take (List.length x69) x69) x70 (IntKind.i64.wrap (x71 + (1 : Int)))
          else none
        else
          bif (decide (((List.length (List.getD x69 (0 + Int.toNat x71) [])) : Int) > (0 : Int))) then
            r_g27 (List.take (List.length x2) x2) x7 (List.take (List.length x11) x11) (List.getD x69 (0 + Int.toNat x71) []) (List.take (List.length x69) x69) x70 x71
          else
            n_l6 (List.take (List.length x2) x2) x7 (List.take (List.length x11) x11) (List.take (List.length x69) x69) x70 (IntKind.i64.wrap (x71 + (1 : Int)))
      else none
    else none
  else
    n_l2 (List.take (List.length x2) x2) (List.take (List.length x11) x11)
def f_ref7_Merged.b_g27 (c73 : f_ref7_inTail.E) (n_l6 : (List (Int)) → (Int) → (List (List (Int))) → (List (List (Int))) → (Int) → (Int) → Option ((List (Int)) × (List (List (Int))))) (x2 : List (Int)) (x7 : Int) (x11 : List (List (Int))) (x13 : List (Int)) (x69 : List (List (Int))) (x70 : Int) (x71 : Int) : Option ((List (Int)) × (List (List (Int)))) :=
  if (List.length x11) ≤ (List.length x11) ∧ ((List.length x11) + (List.length (List.take 1 [x13]))) * 24 ≤ LIM then
    n_l6 (List.take (List.length x2) x2) x7 (List.take (List.length (List.append (List.take (List.length x11) x11) (List.take 1 [x13]))) (List.append (List.take (List.length x11) x11) (List.take 1 [x13]))) (List.take (List.length x69) x69) x70 (IntKind.i64.wrap (x71 + (1 : Int)))
  else none
def f_ref7_Merged.g27 (c73 : f_ref7_inTail.E) (k : Nat) (n_l2 : (List (Int)) → (List (List (Int))) → Option ((List (Int)) × (List (List (Int))))) (n_l6 : (List (Int)) → (Int) → (List (List (Int))) → (List (List (Int))) → (Int) → (Int) → Option ((List (Int)) × (List (List (Int))))) (x2 : List (Int)) (x7 : Int) (x11 : List (List (Int))) (x13 : List (Int)) (x69 : List (List (Int))) (x70 : Int) (x71 : Int) : Option ((List (Int)) × (List (List (Int)))) := gate k (f_ref7_Merged.b_g27 c73 n_l6 x2 x7 x11 x13 x69 x70 x71)
def f_ref7_Merged.l6 (c73 : f_ref7_inTail.E) (k : Nat) (n_l2 : (List (Int)) → (List (List (Int))) → Option ((List (Int)) × (List (List (Int))))) : Nat → (List (Int)) → (Int) → (List (List (Int))) → (List (List (Int))) → (Int) → (Int) → Option ((List (Int)) × (List (List (Int))))
  | 0, _, _, _, _, _, _ => none
  | n + 1, x2, x7, x11, x69, x70, x71 => f_ref7_Merged.b_l6 c73 (f_ref7_Merged.g27 c73 k n_l2 (fun x2 x7 x11 x69 x70 x71 => f_ref7_Merged.l6 c73 k n_l2 n x2 x7 x11 x69 x70 x71)) (fun x2 x7 x11 x69 x70 x71 => f_ref7_Merged.l6 c73 k n_l2 n x2 x7 x11 x69 x70 x71) n_l2 x2 x7 x11 x69 x70 x71
def f_ref7_Merged.l4 (c73 : f_ref7_inTail.E) (k : Nat) (n_l2 : (List (Int)) → (List (List (Int))) → Option ((List (Int)) × (List (List (Int))))) : Nat → (List (Int)) → (List (List (Int))) → (Int) → (Bool) → (Int) → (Int) → Option ((List (Int)) × (List (List (Int))))
  | 0, _, _, _, _, _, _ => none
  | n + 1, x2, x3, x7, x8, x42, x43 => f_ref7_Merged.b_l4 c73 (fun x2 x3 x7 x8 x42 x43 => f_ref7_Merged.l4 c73 k n_l2 n x2 x3 x7 x8 x42 x43) (f_ref7_Merged.l6 c73 k n_l2 k) x2 x3 x7 x8 x42 x43
def f_ref7_Merged.l2 (c73 : f_ref7_inTail.E) (k : Nat)  : Nat → (List (Int)) → (List (List (Int))) → Option ((List (Int)) × (List (List (Int))))
  | 0, _, _ => none
  | n + 1, x2, x3 => f_ref7_Merged.b_l2 c73 (f_ref7_Merged.l4 c73 k (fun x2 x3 => f_ref7_Merged.l2 c73 k  n x2 x3) k) x2 x3
def f_ref7_Merged.l0 (c73 : f_ref7_inTail.E) (k : Nat)  : Nat → (List (Int)) → (List (List (Int))) → (List (Int)) → (List (List (Int))) → (Int) → (Int) → Option ((List (Int)) × (List (List (Int))))
  | 0, _, _, _, _, _, _ => none
  | n + 1, x2, x3, x4, x14, x15, x16 => f_ref7_Merged.b_l0 c73 (fun x2 x3 x4 x14 x15 x16 => f_ref7_Merged.l0 c73 k  n x2 x3 x4 x14 x15 x16) (f_ref7_Merged.l2 c73 k  k) x2 x3 x4 x14 x15 x16
def f_ref7_Merged.f (c73 : f_ref7_inTail.E) (k : Nat) (a0 : List (List (Int))) : Option ((List (Int)) × (List (List (Int)))) := f_ref7_Merged.b c73 (f_ref7_Merged.l0 c73 k k) a0
noncomputable def f_ref7_Merged.M_l0 (c73 : f_ref7_inTail.E) (k n : Nat)  (s : St) : Option ((List (Int)) × (List (List (Int)))) := atLoop (f_ref7_Merged.C c73) k n [1, 1, 0, 1, 0] [] f_ref7_Merged.code (f_ref7_Merged.fin c73) s
noncomputable def f_ref7_Merged.fr_l0 (x2 : List (Int)) (x3 : List (List (Int))) (x4 : List (Int)) (x14 : List (List (Int))) (x15 : Int) (x16 : Int) : St := ⟨(((((((List.replicate 92 V.un).set 2 (V.ref 500002 0 0 (List.length x2))).set 3 (V.ref 500003 0 0 (List.length x3))).set 4 (V.ref 500004 0 0 (List.length x4))).set 14 (V.dat (.sl 22 (.sl 3 (.int .i64))) x14)).set 15 (V.dat (.int .i64) x15)).set 16 (V.dat (.int .i64) x16)), [⟨500004, 0, .arr 3 (.int .i64) x4⟩, ⟨500003, 0, .arr 22 (.sl 3 (.int .i64)) x3⟩, ⟨500002, 0, .arr 3 (.int .i64) x2⟩]⟩
noncomputable def f_ref7_Merged.M_l2 (c73 : f_ref7_inTail.E) (k n : Nat)  (s : St) : Option ((List (Int)) × (List (List (Int)))) := atLoop (f_ref7_Merged.C c73) k n [1, 1, 1, 1, 0, 0] [] f_ref7_Merged.code (f_ref7_Merged.fin c73) s
noncomputable def f_ref7_Merged.fr_l2 (x2 : List (Int)) (x3 : List (List (Int))) : St := ⟨(((List.replicate 92 V.un).set 2 (V.ref 500002 0 0 (List.length x2))).set 3 (V.ref 500003 0 0 (List.length x3))), [⟨500003, 0, .arr 22 (.sl 3 (.int .i64)) x3⟩, ⟨500002, 0, .arr 3 (.int .i64) x2⟩]⟩
noncomputable def f_ref7_Merged.M_l4 (c73 : f_ref7_inTail.E) (k n : Nat) (m0 : Nat) (s : St) : Option ((List (Int)) × (List (List (Int)))) := atLoop (f_ref7_Merged.C c73) k n [1, 1, 1, 1, 0, 0, 0, 1, 0, 1, 0, 1, 0] [m0] f_ref7_Merged.code (f_ref7_Merged.fin c73) s
noncomputable def f_ref7_Merged.fr_l4 (x2 : List (Int)) (x3 : List (List (Int))) (x7 : Int) (x8 : Bool) (x42 : Int) (x43 : Int) : St := ⟨((((((((List.replicate 92 V.un).set 2 (V.ref 500002 0 0 (List.length x2))).set 3 (V.ref 500003 0 0 (List.length x3))).set 7 (V.dat (.int .i64) x7)).set 8 (V.dat .bool x8)).set 41 (V.ref 500003 0 0 (List.length x3))).set 42 (V.dat (.int .i64) x42)).set 43 (V.dat (.int .i64) x43)), [⟨500003, 0, .arr 22 (.sl 3 (.int .i64)) x3⟩, ⟨500002, 0, .arr 3 (.int .i64) x2⟩]⟩
noncomputable def f_ref7_Merged.M_l6 (c73 : f_ref7_inTail.E) (k n : Nat) (m0 : Nat) (s : St) : Option ((List (Int)) × (List (List (Int)))) := atLoop (f_ref7_Merged.C c73) k n [1, 1, 1, 1, 0, 0, 0, 1, 0, 1, 1, 1, 1, 1, 0, 1, 0] [m0] f_ref7_Merged.code (f_ref7_Merged.fin c73) s
noncomputable def f_ref7_Merged.fr_l6 (x2 : List (Int)) (x7 : Int) (x11 : List (List (Int))) (x69 : List (List (Int))) (x70 : Int) (x71 : Int) : St := ⟨(((((((List.replicate 92 V.un).set 2 (V.ref 500002 0 0 (List.length x2))).set 7 (V.dat (.int .i64) x7)).set 11 (V.ref 500011 0 0 (List.length x11))).set 69 (V.ref 500069 0 0 (List.length x69))).set 70 (V.dat (.int .i64) x70)).set 71 (V.dat (.int .i64) x71)), [⟨500069, 0, .arr 22 (.sl 3 (.int .i64)) x69⟩, ⟨500011, 0, .arr 22 (.sl 3 (.int .i64)) x11⟩, ⟨500002, 0, .arr 3 (.int .i64) x2⟩]⟩
noncomputable def f_ref7_Merged.M_g27 (c73 : f_ref7_inTail.E) (k : Nat) (m0 : Nat) (m1 : Nat) (s : St) : Option ((List (Int)) × (List (List (Int)))) := atGate (f_ref7_Merged.C c73) k [1, 1, 1, 1, 0, 0, 0, 1, 0, 1, 1, 1, 1, 1, 0, 1, 0, 0, 1, 1, 0, 0, 1, 1, 1, 0] [m0, m1] f_ref7_Merged.code (f_ref7_Merged.fin c73) s
noncomputable def f_ref7_Merged.fr_g27 (x2 : List (Int)) (x7 : Int) (x11 : List (List (Int))) (x13 : List (Int)) (x69 : List (List (Int))) (x70 : Int) (x71 : Int) : St := ⟨((((((((List.replicate 92 V.un).set 2 (V.ref 500002 0 0 (List.length x2))).set 7 (V.dat (.int .i64) x7)).set 11 (V.ref 500011 0 0 (List.length x11))).set 13 (V.dat (.sl 3 (.int .i64)) x13)).set 69 (V.ref 500069 0 0 (List.length x69))).set 70 (V.dat (.int .i64) x70)).set 71 (V.dat (.int .i64) x71)), [⟨500069, 0, .arr 22 (.sl 3 (.int .i64)) x69⟩, ⟨500011, 0, .arr 22 (.sl 3 (.int .i64)) x11⟩, ⟨500002, 0, .arr 3 (.int .i64) x2⟩]⟩
theorem f_ref7_Merged.r (c73 : f_ref7_inTail.E) (k : Nat) (a0 : List (List (Int))) : fn (f_ref7_Merged.C c73) k Try.f41 f_ref7_Merged.A f_ref7_Merged.R a0 = f_ref7_Merged.b c73 (fun x2 x3 x4 x14 x15 x16 => f_ref7_Merged.M_l0 c73 k k  (f_ref7_Merged.fr_l0 x2 x3 x4 x14 x15 x16)) a0 := by kernel_rfl
theorem f_ref7_Merged.z_l0 (c73 : f_ref7_inTail.E) (k : Nat)  (s : St) : f_ref7_Merged.M_l0 c73 k 0  s = none := by kernel_rfl
theorem f_ref7_Merged.r_l0 (c73 : f_ref7_inTail.E) (k n : Nat)  (x2 : List (Int)) (x3 : List (List (Int))) (x4 : List (Int)) (x14 : List (List (Int))) (x15 : Int) (x16 : Int) : f_ref7_Merged.M_l0 c73 k (n + 1)  (f_ref7_Merged.fr_l0 x2 x3 x4 x14 x15 x16) = f_ref7_Merged.b_l0 c73 (fun x2 x3 x4 x14 x15 x16 => f_ref7_Merged.M_l0 c73 k n  (f_ref7_Merged.fr_l0 x2 x3 x4 x14 x15 x16)) (fun x2 x3 => f_ref7_Merged.M_l2 c73 k k  (f_ref7_Merged.fr_l2 x2 x3)) x2 x3 x4 x14 x15 x16 := by kernel_rfl
theorem f_ref7_Merged.z_l2 (c73 : f_ref7_inTail.E) (k : Nat)  (s : St) : f_ref7_Merged.M_l2 c73 k 0  s = none := by kernel_rfl
theorem f_ref7_Merged.r_l2 (c73 : f_ref7_inTail.E) (k n : Nat)  (x2 : List (Int)) (x3 : List (List (Int))) : f_ref7_Merged.M_l2 c73 k (n + 1)  (f_ref7_Merged.fr_l2 x2 x3) = f_ref7_Merged.b_l2 c73 (fun x2 x3 x7 x8 x42 x43 => f_ref7_Merged.M_l4 c73 k k n (f_ref7_Merged.fr_l4 x2 x3 x7 x8 x42 x43)) x2 x3 := by kernel_rfl
theorem f_ref7_Merged.z_l4 (c73 : f_ref7_inTail.E) (k : Nat) (m0 : Nat) (s : St) : f_ref7_Merged.M_l4 c73 k 0 m0 s = none := by kernel_rfl
theorem f_ref7_Merged.r_l4 (c73 : f_ref7_inTail.E) (k n : Nat) (m0 : Nat) (x2 : List (Int)) (x3 : List (List (Int))) (x7 : Int) (x8 : Bool) (x42 : Int) (x43 : Int) : f_ref7_Merged.M_l4 c73 k (n + 1) m0 (f_ref7_Merged.fr_l4 x2 x3 x7 x8 x42 x43) = f_ref7_Merged.b_l4 c73 (fun x2 x3 x7 x8 x42 x43 => f_ref7_Merged.M_l4 c73 k n m0 (f_ref7_Merged.fr_l4 x2 x3 x7 x8 x42 x43)) (fun x2 x7 x11 x69 x70 x71 => f_ref7_Merged.M_l6 c73 k k m0 (f_ref7_Merged.fr_l6 x2 x7 x11 x69 x70 x71)) x2 x3 x7 x8 x42 x43 := by kernel_rfl
theorem f_ref7_Merged.z_l6 (c73 : f_ref7_inTail.E) (k : Nat) (m0 : Nat) (s : St) : f_ref7_Merged.M_l6 c73 k 0 m0 s = none := by kernel_rfl
theorem f_ref7_Merged.r_l6 (c73 : f_ref7_inTail.E) (k n : Nat) (m0 : Nat) (x2 : List (Int)) (x7 : Int) (x11 : List (List (Int))) (x69 : List (List (Int))) (x70 : Int) (x71 : Int) : f_ref7_Merged.M_l6 c73 k (n + 1) m0 (f_ref7_Merged.fr_l6 x2 x7 x11 x69 x70 x71) = f_ref7_Merged.b_l6 c73 (fun x2 x7 x11 x13 x69 x70 x71 => f_ref7_Merged.M_g27 c73 k  m0 n (f_ref7_Merged.fr_g27 x2 x7 x11 x13 x69 x70 x71)) (fun x2 x7 x11 x69 x70 x71 => f_ref7_Merged.M_l6 c73 k n m0 (f_ref7_Merged.fr_l6 x2 x7 x11 x69 x70 x71)) (fun x2 x3 => f_ref7_Merged.M_l2 c73 k m0  (f_ref7_Merged.fr_l2 x2 x3)) x2 x7 x11 x69 x70 x71 := by kernel_rfl
theorem f_ref7_Merged.r_g27 (c73 : f_ref7_inTail.E) (k : Nat) (m0 : Nat) (m1 : Nat) (x2 : List (Int)) (x7 : Int) (x11 : List (List (Int))) (x13 : List (Int)) (x69 : List (List (Int))) (x70 : Int) (x71 : Int) : f_ref7_Merged.M_g27 c73 k m0 m1 (f_ref7_Merged.fr_g27 x2 x7 x11 x13 x69 x70 x71) = gate k (f_ref7_Merged.b_g27 c73 (fun x2 x7 x11 x69 x70 x71 => f_ref7_Merged.M_l6 c73 k m1 m0 (f_ref7_Merged.fr_l6 x2 x7 x11 x69 x70 x71)) x2 x7 x11 x13 x69 x70 x71) := by kernel_rfl
theorem f_ref7_Merged.e_g27 (c73 : f_ref7_inTail.E) (k : Nat) (m0 : Nat) (m1 : Nat) (x2 : List (Int)) (x7 : Int) (x11 : List (List (Int))) (x13 : List (Int)) (x69 : List (List (Int))) (x70 : Int) (x71 : Int) : f_ref7_Merged.M_g27 c73 k m0 m1 (f_ref7_Merged.fr_g27 x2 x7 x11 x13 x69 x70 x71) = f_ref7_Merged.g27 c73 k (fun x2 x3 => f_ref7_Merged.M_l2 c73 k m0  (f_ref7_Merged.fr_l2 x2 x3)) (fun x2 x7 x11 x69 x70 x71 => f_ref7_Merged.M_l6 c73 k m1 m0 (f_ref7_Merged.fr_l6 x2 x7 x11 x69 x70 x71)) x2 x7 x11 x13 x69 x70 x71 := by
  rw [f_ref7_Merged.r_g27]
  rfl
theorem f_ref7_Merged.e_l6 (c73 : f_ref7_inTail.E) (k n : Nat) (m0 : Nat) (x2 : List (Int)) (x7 : Int) (x11 : List (List (Int))) (x69 : List (List (Int))) (x70 : Int) (x71 : Int) : f_ref7_Merged.M_l6 c73 k n m0 (f_ref7_Merged.fr_l6 x2 x7 x11 x69 x70 x71) = f_ref7_Merged.l6 c73 k (fun x2 x3 => f_ref7_Merged.M_l2 c73 k m0  (f_ref7_Merged.fr_l2 x2 x3)) n x2 x7 x11 x69 x70 x71 := by
  induction n generalizing x2 x7 x11 x69 x70 x71 with
  | zero => rw [f_ref7_Merged.z_l6]; rfl
  | succ n ih =>
    rw [f_ref7_Merged.r_l6]
    simp only [f_ref7_Merged.e_g27, ih]
    rfl
theorem f_ref7_Merged.e_l4 (c73 : f_ref7_inTail.E) (k n : Nat) (m0 : Nat) (x2 : List (Int)) (x3 : List (List (Int))) (x7 : Int) (x8 : Bool) (x42 : Int) (x43 : Int) : f_ref7_Merged.M_l4 c73 k n m0 (f_ref7_Merged.fr_l4 x2 x3 x7 x8 x42 x43) = f_ref7_Merged.l4 c73 k (fun x2 x3 => f_ref7_Merged.M_l2 c73 k m0  (f_ref7_Merged.fr_l2 x2 x3)) n x2 x3 x7 x8 x42 x43 := by
  induction n generalizing x2 x3 x7 x8 x42 x43 with
  | zero => rw [f_ref7_Merged.z_l4]; rfl
  | succ n ih =>
    rw [f_ref7_Merged.r_l4]
    simp only [f_ref7_Merged.e_l6, ih]
    rfl
theorem f_ref7_Merged.e_l2 (c73 : f_ref7_inTail.E) (k n : Nat)  (x2 : List (Int)) (x3 : List (List (Int))) : f_ref7_Merged.M_l2 c73 k n  (f_ref7_Merged.fr_l2 x2 x3) = f_ref7_Merged.l2 c73 k  n x2 x3 := by
  induction n generalizing x2 x3 with
  | zero => rw [f_ref7_Merged.z_l2]; rfl
  | succ n ih =>
    rw [f_ref7_Merged.r_l2]
    simp only [f_ref7_Merged.e_l4, ih]
    rfl
theorem f_ref7_Merged.e_l0 (c73 : f_ref7_inTail.E) (k n : Nat)  (x2 : List (Int)) (x3 : List (List (Int))) (x4 : List (Int)) (x14 : List (List (Int))) (x15 : Int) (x16 : Int) : f_ref7_Merged.M_l0 c73 k n  (f_ref7_Merged.fr_l0 x2 x3 x4 x14 x15 x16) = f_ref7_Merged.l0 c73 k  n x2 x3 x4 x14 x15 x16 := by
  induction n generalizing x2 x3 x4 x14 x15 x16 with
  | zero => rw [f_ref7_Merged.z_l0]; rfl
  | succ n ih =>
    rw [f_ref7_Merged.r_l0]
    simp only [f_ref7_Merged.e_l2, ih]
    rfl
theorem f_ref7_Merged.e (c73 : f_ref7_inTail.E) (k : Nat) (a0 : List (List (Int))) : fn (f_ref7_Merged.C c73) k Try.f41 f_ref7_Merged.A f_ref7_Merged.R a0 = f_ref7_Merged.f c73 k a0 := by
  rw [f_ref7_Merged.r]
  simp only [f_ref7_Merged.e_l0]
  rfl
def f_ref7_Merged.u (k : Nat) : f_ref7_Merged.E := fun y => f_ref7_Merged.f (f_ref7_inTail.u k) k y
theorem f_ref7_Merged.ty (c73 : f_ref7_inTail.E) : TyOk Try.prog (f_ref7_Merged.C c73) := tyOk_of (by kernel_rfl)
theorem f_ref7_Merged.sound (k : Nat) : Sound Try.prog ⟨41, f_ref7_Merged.A, f_ref7_Merged.R, f_ref7_Merged.u k⟩ := by
  have h := fn_sound (k := k) («as» := f_ref7_Merged.A) (rs := f_ref7_Merged.R) (f_ref7_Merged.ty (f_ref7_inTail.u k)) (fun E h => by
    simp only [f_ref7_Merged.C, List.mem_cons, List.not_mem_nil, or_false] at h
    rcases h with rfl
    · exact f_ref7_inTail.sound k) mixed Try.func41 (by kernel_rfl) (by kernel_rfl)
  have e : fn (f_ref7_Merged.C (f_ref7_inTail.u k)) k Try.f41 f_ref7_Merged.A f_ref7_Merged.R = f_ref7_Merged.u k := by
    funext y
    exact f_ref7_Merged.e (f_ref7_inTail.u k) k y
  rw [e] at h
  exact h
/-! ### brindlewood/brindlewoodref7.Order: f15 -/
abbrev f_ref7_Order.A : List Sh := [(.d (.sl 22 (.sl 3 (.int .i64))))]
abbrev f_ref7_Order.R : List Sh := [(.d (.sl 3 (.int .i64))), (.d Y_Fault)]
abbrev f_ref7_Order.E : Type := (List (List (Int))) → Option ((List (Int)) × X_Fault)
def f_ref7_Order.C (c40 : f_ref7_OrdersFault.E) (c41 : f_ref7_Merged.E) (c34 : f_ref7_At.E) : Ctx := { ty := [(3, (.int .i64)), (22, (.sl 3 (.int .i64))), (27, Y_Fault), (30, (.sl 22 (.sl 3 (.int .i64))))], nf := [(27, 2)], by_ := [(3, 8), (22, 24)], env := [⟨40, f_ref7_OrdersFault.A, f_ref7_OrdersFault.R, c40⟩, ⟨41, f_ref7_Merged.A, f_ref7_Merged.R, c41⟩, ⟨34, f_ref7_At.A, f_ref7_At.R, c34⟩], spec := [] }
noncomputable def f_ref7_Order.code : Code := Func.code Try.f15
noncomputable def f_ref7_Order.fin (c40 : f_ref7_OrdersFault.E) (c41 : f_ref7_Merged.E) (c34 : f_ref7_At.E) := kfin (f_ref7_Order.C c40 c41 c34) Try.f15 f_ref7_Order.A f_ref7_Order.R
def f_ref7_Order.b (c40 : f_ref7_OrdersFault.E) (c41 : f_ref7_Merged.E) (c34 : f_ref7_At.E)  (a0 : List (List (Int))) : Option ((List (Int)) × X_Fault) :=
  (c40 a0).bind fun y1 =>
    bif (y1.1 != (0 : Int)) then
      some (([] : List (Int)), y1)
    else
      (c41 a0).bind fun y2 =>
        bif (decide (((List.length y2.2) : Int) > (0 : Int))) then
          (c34 ((19 : Int), (-1 : Int))).bind fun y3 =>
            some (([] : List (Int)), y3)
        else
          bif (decide (((List.length y2.1) : Int) ≥ (40 : Int))) then
            (c34 ((14 : Int), (-1 : Int))).bind fun y4 =>
              some (([] : List (Int)), y4)
          else
            some (y2.1, ((0 : Int), (0 : Int)))
def f_ref7_Order.f (c40 : f_ref7_OrdersFault.E) (c41 : f_ref7_Merged.E) (c34 : f_ref7_At.E) (k : Nat) (a0 : List (List (Int))) : Option ((List (Int)) × X_Fault) := f_ref7_Order.b c40 c41 c34  a0
theorem f_ref7_Order.r (c40 : f_ref7_OrdersFault.E) (c41 : f_ref7_Merged.E) (c34 : f_ref7_At.E) (k : Nat) (a0 : List (List (Int))) : fn (f_ref7_Order.C c40 c41 c34) k Try.f15 f_ref7_Order.A f_ref7_Order.R a0 = f_ref7_Order.b c40 c41 c34  a0 := by kernel_rfl
theorem f_ref7_Order.e (c40 : f_ref7_OrdersFault.E) (c41 : f_ref7_Merged.E) (c34 : f_ref7_At.E) (k : Nat) (a0 : List (List (Int))) : fn (f_ref7_Order.C c40 c41 c34) k Try.f15 f_ref7_Order.A f_ref7_Order.R a0 = f_ref7_Order.f c40 c41 c34 k a0 := by
  rw [f_ref7_Order.r]
  rfl
def f_ref7_Order.u (k : Nat) : f_ref7_Order.E := fun y => f_ref7_Order.f (f_ref7_OrdersFault.u k) (f_ref7_Merged.u k) (f_ref7_At.u k) k y
theorem f_ref7_Order.ty (c40 : f_ref7_OrdersFault.E) (c41 : f_ref7_Merged.E) (c34 : f_ref7_At.E) : TyOk Try.prog (f_ref7_Order.C c40 c41 c34) := tyOk_of (by kernel_rfl)
theorem f_ref7_Order.sound (k : Nat) : Sound Try.prog ⟨15, f_ref7_Order.A, f_ref7_Order.R, f_ref7_Order.u k⟩ := by
  have h := fn_sound (k := k) («as» := f_ref7_Order.A) (rs := f_ref7_Order.R) (f_ref7_Order.ty (f_ref7_OrdersFault.u k) (f_ref7_Merged.u k) (f_ref7_At.u k)) (fun E h => by
    simp only [f_ref7_Order.C, List.mem_cons, List.not_mem_nil, or_false] at h
    rcases h with rfl | rfl | rfl
    · exact f_ref7_OrdersFault.sound k
    · exact f_ref7_Merged.sound k
    · exact f_ref7_At.sound k) mixed Try.func15 (by kernel_rfl) (by kernel_rfl)
  have e : fn (f_ref7_Order.C (f_ref7_OrdersFault.u k) (f_ref7_Merged.u k) (f_ref7_At.u k)) k Try.f15 f_ref7_Order.A f_ref7_Order.R = f_ref7_Order.u k := by
    funext y
    exact f_ref7_Order.e (f_ref7_OrdersFault.u k) (f_ref7_Merged.u k) (f_ref7_At.u k) k y
  rw [e] at h
  exact h
/-! ### slices.Equal[[]int,int]: f42 -/
abbrev f_slices_Equal_int.A : List Sh := [(.d (.sl 3 (.int .i64))), (.d (.sl 3 (.int .i64)))]
abbrev f_slices_Equal_int.R : List Sh := [(.d .bool)]
abbrev f_slices_Equal_int.E : Type := ((List (Int)) × (List (Int))) → Option (Bool)
def f_slices_Equal_int.C  : Ctx := { ty := [(3, (.int .i64)), (22, (.sl 3 (.int .i64)))], nf := [], by_ := [(3, 8)], env := [], spec := [(0, [.d 0 (.sl 3 (.int .i64)), .d 1 (.sl 3 (.int .i64)), .d 12 (.int .i64), .d 13 (.int .i64)])] }
noncomputable def f_slices_Equal_int.code : Code := Func.code Try.f42
noncomputable def f_slices_Equal_int.fin  := kfin (f_slices_Equal_int.C ) Try.f42 f_slices_Equal_int.A f_slices_Equal_int.R
def f_slices_Equal_int.b  (r_l0 : (List (Int)) → (List (Int)) → (Int) → (Int) → Option (Bool)) (a0 : List (Int)) (a1 : List (Int)) : Option (Bool) :=
  bif (((List.length a0) : Int) != ((List.length a1) : Int)) then
    some false
  else
    r_l0 a0 a1 ((List.length a0) : Int) (0 : Int)
def f_slices_Equal_int.b_l0  (n_l0 : (List (Int)) → (List (Int)) → (Int) → (Int) → Option (Bool)) (x0 : List (Int)) (x1 : List (Int)) (x12 : Int) (x13 : Int) : Option (Bool) :=
  bif (decide (x13 < x12)) then
    if 0 ≤ x13 ∧ x13 < ((List.length x0) : Int) then
      if 0 ≤ x13 ∧ x13 < ((List.length x1) : Int) then
        bif ((List.getD x0 (Int.toNat x13) (0 : Int)) != (List.getD x1 (Int.toNat x13) (0 : Int))) then
          some false
        else
          n_l0 x0 x1 x12 (IntKind.i64.wrap (x13 + (1 : Int)))
      else none
    else none
  else
    some true
def f_slices_Equal_int.l0  (k : Nat)  : Nat → (List (Int)) → (List (Int)) → (Int) → (Int) → Option (Bool)
  | 0, _, _, _, _ => none
  | n + 1, x0, x1, x12, x13 => f_slices_Equal_int.b_l0  (fun x0 x1 x12 x13 => f_slices_Equal_int.l0  k  n x0 x1 x12 x13) x0 x1 x12 x13
def f_slices_Equal_int.f  (k : Nat) (a0 : List (Int)) (a1 : List (Int)) : Option (Bool) := f_slices_Equal_int.b  (f_slices_Equal_int.l0  k k) a0 a1
noncomputable def f_slices_Equal_int.M_l0  (k n : Nat)  (s : St) : Option (Bool) := atLoop (f_slices_Equal_int.C ) k n [1, 1, 0, 1, 0] [] f_slices_Equal_int.code (f_slices_Equal_int.fin ) s
noncomputable def f_slices_Equal_int.fr_l0 (x0 : List (Int)) (x1 : List (Int)) (x12 : Int) (x13 : Int) : St := ⟨(((((List.replicate 26 V.un).set 0 (V.dat (.sl 3 (.int .i64)) x0)).set 1 (V.dat (.sl 3 (.int .i64)) x1)).set 12 (V.dat (.int .i64) x12)).set 13 (V.dat (.int .i64) x13)), []⟩
theorem f_slices_Equal_int.r  (k : Nat) (a0 : List (Int)) (a1 : List (Int)) : fn (f_slices_Equal_int.C ) k Try.f42 f_slices_Equal_int.A f_slices_Equal_int.R (a0, a1) = f_slices_Equal_int.b  (fun x0 x1 x12 x13 => f_slices_Equal_int.M_l0  k k  (f_slices_Equal_int.fr_l0 x0 x1 x12 x13)) a0 a1 := by kernel_rfl
theorem f_slices_Equal_int.z_l0  (k : Nat)  (s : St) : f_slices_Equal_int.M_l0  k 0  s = none := by kernel_rfl
theorem f_slices_Equal_int.r_l0  (k n : Nat)  (x0 : List (Int)) (x1 : List (Int)) (x12 : Int) (x13 : Int) : f_slices_Equal_int.M_l0  k (n + 1)  (f_slices_Equal_int.fr_l0 x0 x1 x12 x13) = f_slices_Equal_int.b_l0  (fun x0 x1 x12 x13 => f_slices_Equal_int.M_l0  k n  (f_slices_Equal_int.fr_l0 x0 x1 x12 x13)) x0 x1 x12 x13 := by kernel_rfl
theorem f_slices_Equal_int.e_l0  (k n : Nat)  (x0 : List (Int)) (x1 : List (Int)) (x12 : Int) (x13 : Int) : f_slices_Equal_int.M_l0  k n  (f_slices_Equal_int.fr_l0 x0 x1 x12 x13) = f_slices_Equal_int.l0  k  n x0 x1 x12 x13 := by
  induction n generalizing x0 x1 x12 x13 with
  | zero => rw [f_slices_Equal_int.z_l0]; rfl
  | succ n ih =>
    rw [f_slices_Equal_int.r_l0]
    simp only [ih]
    rfl
theorem f_slices_Equal_int.e  (k : Nat) (a0 : List (Int)) (a1 : List (Int)) : fn (f_slices_Equal_int.C ) k Try.f42 f_slices_Equal_int.A f_slices_Equal_int.R (a0, a1) = f_slices_Equal_int.f  k a0 a1 := by
  rw [f_slices_Equal_int.r]
  simp only [f_slices_Equal_int.e_l0]
  rfl
def f_slices_Equal_int.u (k : Nat) : f_slices_Equal_int.E := fun y => f_slices_Equal_int.f  k y.1 y.2
theorem f_slices_Equal_int.ty  : TyOk Try.prog (f_slices_Equal_int.C ) := tyOk_of (by kernel_rfl)
theorem f_slices_Equal_int.sound (k : Nat) : Sound Try.prog ⟨42, f_slices_Equal_int.A, f_slices_Equal_int.R, f_slices_Equal_int.u k⟩ := by
  have h := fn_sound (k := k) («as» := f_slices_Equal_int.A) (rs := f_slices_Equal_int.R) (f_slices_Equal_int.ty ) (fun E h => by cases h) mixed Try.func42 (by kernel_rfl) (by kernel_rfl)
  have e : fn (f_slices_Equal_int.C ) k Try.f42 f_slices_Equal_int.A f_slices_Equal_int.R = f_slices_Equal_int.u k := by
    funext y
    exact f_slices_Equal_int.e  k y.1 y.2
  rw [e] at h
  exact h
/-! ### brindlewood/brindlewoodref7.Ints: f16 -/
abbrev f_ref7_Ints.A : List Sh := [(.d (.sl 3 (.int .i64))), (.d (.sl 3 (.int .i64)))]
abbrev f_ref7_Ints.R : List Sh := [(.d .bool)]
abbrev f_ref7_Ints.E : Type := ((List (Int)) × (List (Int))) → Option (Bool)
def f_ref7_Ints.C (c42 : f_slices_Equal_int.E) : Ctx := { ty := [], nf := [], by_ := [], env := [⟨42, f_slices_Equal_int.A, f_slices_Equal_int.R, c42⟩], spec := [] }
noncomputable def f_ref7_Ints.code : Code := Func.code Try.f16
noncomputable def f_ref7_Ints.fin (c42 : f_slices_Equal_int.E) := kfin (f_ref7_Ints.C c42) Try.f16 f_ref7_Ints.A f_ref7_Ints.R
def f_ref7_Ints.b (c42 : f_slices_Equal_int.E)  (a0 : List (Int)) (a1 : List (Int)) : Option (Bool) :=
  (c42 (a0, a1)).bind fun y1 =>
    some y1
def f_ref7_Ints.f (c42 : f_slices_Equal_int.E) (k : Nat) (a0 : List (Int)) (a1 : List (Int)) : Option (Bool) := f_ref7_Ints.b c42  a0 a1
theorem f_ref7_Ints.r (c42 : f_slices_Equal_int.E) (k : Nat) (a0 : List (Int)) (a1 : List (Int)) : fn (f_ref7_Ints.C c42) k Try.f16 f_ref7_Ints.A f_ref7_Ints.R (a0, a1) = f_ref7_Ints.b c42  a0 a1 := by kernel_rfl
theorem f_ref7_Ints.e (c42 : f_slices_Equal_int.E) (k : Nat) (a0 : List (Int)) (a1 : List (Int)) : fn (f_ref7_Ints.C c42) k Try.f16 f_ref7_Ints.A f_ref7_Ints.R (a0, a1) = f_ref7_Ints.f c42 k a0 a1 := by
  rw [f_ref7_Ints.r]
  rfl
def f_ref7_Ints.u (k : Nat) : f_ref7_Ints.E := fun y => f_ref7_Ints.f (f_slices_Equal_int.u k) k y.1 y.2
theorem f_ref7_Ints.ty (c42 : f_slices_Equal_int.E) : TyOk Try.prog (f_ref7_Ints.C c42) := tyOk_of (by kernel_rfl)
theorem f_ref7_Ints.sound (k : Nat) : Sound Try.prog ⟨16, f_ref7_Ints.A, f_ref7_Ints.R, f_ref7_Ints.u k⟩ := by
  have h := fn_sound (k := k) («as» := f_ref7_Ints.A) (rs := f_ref7_Ints.R) (f_ref7_Ints.ty (f_slices_Equal_int.u k)) (fun E h => by
    simp only [f_ref7_Ints.C, List.mem_cons, List.not_mem_nil, or_false] at h
    rcases h with rfl
    · exact f_slices_Equal_int.sound k) mixed Try.func16 (by kernel_rfl) (by kernel_rfl)
  have e : fn (f_ref7_Ints.C (f_slices_Equal_int.u k)) k Try.f16 f_ref7_Ints.A f_ref7_Ints.R = f_ref7_Ints.u k := by
    funext y
    exact f_ref7_Ints.e (f_slices_Equal_int.u k) k y.1 y.2
  rw [e] at h
  exact h
/-! ### brindlewood/brindlewoodlaw7.LineageOrderMatchesSpec: f5 -/
abbrev f_law7_LineageOrderMatchesSpec.A : List Sh := [(.d (.sl 22 (.sl 3 (.int .i64))))]
abbrev f_law7_LineageOrderMatchesSpec.R : List Sh := [(.d .bool)]
abbrev f_law7_LineageOrderMatchesSpec.E : Type := (List (List (Int))) → Option (Bool)
def f_law7_LineageOrderMatchesSpec.C (c14 : f_lineage_Order.E) (c15 : f_ref7_Order.E) (c16 : f_ref7_Ints.E) : Ctx := { ty := [(27, Y_Fault)], nf := [], by_ := [], env := [⟨14, f_lineage_Order.A, f_lineage_Order.R, c14⟩, ⟨15, f_ref7_Order.A, f_ref7_Order.R, c15⟩, ⟨16, f_ref7_Ints.A, f_ref7_Ints.R, c16⟩], spec := [] }
noncomputable def f_law7_LineageOrderMatchesSpec.code : Code := Func.code Try.f5
noncomputable def f_law7_LineageOrderMatchesSpec.fin (c14 : f_lineage_Order.E) (c15 : f_ref7_Order.E) (c16 : f_ref7_Ints.E) := kfin (f_law7_LineageOrderMatchesSpec.C c14 c15 c16) Try.f5 f_law7_LineageOrderMatchesSpec.A f_law7_LineageOrderMatchesSpec.R
def f_law7_LineageOrderMatchesSpec.b (c14 : f_lineage_Order.E) (c15 : f_ref7_Order.E) (c16 : f_ref7_Ints.E)  (a0 : List (List (Int))) : Option (Bool) :=
  (c14 a0).bind fun y1 =>
    (c15 a0).bind fun y2 =>
      bif (Ty.eqT Y_Fault y1.2 y2.2) then
        (c16 (y1.1, y2.1)).bind fun y3 =>
          some y3
      else
        some false
def f_law7_LineageOrderMatchesSpec.f (c14 : f_lineage_Order.E) (c15 : f_ref7_Order.E) (c16 : f_ref7_Ints.E) (k : Nat) (a0 : List (List (Int))) : Option (Bool) := f_law7_LineageOrderMatchesSpec.b c14 c15 c16  a0
theorem f_law7_LineageOrderMatchesSpec.r (c14 : f_lineage_Order.E) (c15 : f_ref7_Order.E) (c16 : f_ref7_Ints.E) (k : Nat) (a0 : List (List (Int))) : fn (f_law7_LineageOrderMatchesSpec.C c14 c15 c16) k Try.f5 f_law7_LineageOrderMatchesSpec.A f_law7_LineageOrderMatchesSpec.R a0 = f_law7_LineageOrderMatchesSpec.b c14 c15 c16  a0 := by kernel_rfl
theorem f_law7_LineageOrderMatchesSpec.e (c14 : f_lineage_Order.E) (c15 : f_ref7_Order.E) (c16 : f_ref7_Ints.E) (k : Nat) (a0 : List (List (Int))) : fn (f_law7_LineageOrderMatchesSpec.C c14 c15 c16) k Try.f5 f_law7_LineageOrderMatchesSpec.A f_law7_LineageOrderMatchesSpec.R a0 = f_law7_LineageOrderMatchesSpec.f c14 c15 c16 k a0 := by
  rw [f_law7_LineageOrderMatchesSpec.r]
  rfl
def f_law7_LineageOrderMatchesSpec.u (k : Nat) : f_law7_LineageOrderMatchesSpec.E := fun y => f_law7_LineageOrderMatchesSpec.f (f_lineage_Order.u k) (f_ref7_Order.u k) (f_ref7_Ints.u k) k y
theorem f_law7_LineageOrderMatchesSpec.ty (c14 : f_lineage_Order.E) (c15 : f_ref7_Order.E) (c16 : f_ref7_Ints.E) : TyOk Try.prog (f_law7_LineageOrderMatchesSpec.C c14 c15 c16) := tyOk_of (by kernel_rfl)
theorem f_law7_LineageOrderMatchesSpec.sound (k : Nat) : Sound Try.prog ⟨5, f_law7_LineageOrderMatchesSpec.A, f_law7_LineageOrderMatchesSpec.R, f_law7_LineageOrderMatchesSpec.u k⟩ := by
  have h := fn_sound (k := k) («as» := f_law7_LineageOrderMatchesSpec.A) (rs := f_law7_LineageOrderMatchesSpec.R) (f_law7_LineageOrderMatchesSpec.ty (f_lineage_Order.u k) (f_ref7_Order.u k) (f_ref7_Ints.u k)) (fun E h => by
    simp only [f_law7_LineageOrderMatchesSpec.C, List.mem_cons, List.not_mem_nil, or_false] at h
    rcases h with rfl | rfl | rfl
    · exact f_lineage_Order.sound k
    · exact f_ref7_Order.sound k
    · exact f_ref7_Ints.sound k) mixed Try.func5 (by kernel_rfl) (by kernel_rfl)
  have e : fn (f_law7_LineageOrderMatchesSpec.C (f_lineage_Order.u k) (f_ref7_Order.u k) (f_ref7_Ints.u k)) k Try.f5 f_law7_LineageOrderMatchesSpec.A f_law7_LineageOrderMatchesSpec.R = f_law7_LineageOrderMatchesSpec.u k := by
    funext y
    exact f_law7_LineageOrderMatchesSpec.e (f_lineage_Order.u k) (f_ref7_Order.u k) (f_ref7_Ints.u k) k y
  rw [e] at h
  exact h
/-! ### brindlewood/lineage.Before: f11 -/
abbrev f_lineage_Before.A : List Sh := [(.d (.sl 3 (.int .i64))), (.d (.int .i64)), (.d (.int .i64))]
abbrev f_lineage_Before.R : List Sh := [(.d .bool)]
abbrev f_lineage_Before.E : Type := ((List (Int)) × X_Fault) → Option (Bool)
def f_lineage_Before.C (c10 : f_slices_Index_int.E) : Ctx := { ty := [(3, (.int .i64))], nf := [], by_ := [], env := [⟨10, f_slices_Index_int.A, f_slices_Index_int.R, c10⟩], spec := [] }
noncomputable def f_lineage_Before.code : Code := Func.code Try.f11
noncomputable def f_lineage_Before.fin (c10 : f_slices_Index_int.E) := kfin (f_lineage_Before.C c10) Try.f11 f_lineage_Before.A f_lineage_Before.R
def f_lineage_Before.b (c10 : f_slices_Index_int.E)  (a0 : List (Int)) (a1 : Int) (a2 : Int) : Option (Bool) :=
  (c10 (a0, a1)).bind fun y1 =>
    (c10 (a0, a2)).bind fun y2 =>
      bif (decide (y1 ≥ (0 : Int))) then
        some (decide (y2 > y1))
      else
        some false
def f_lineage_Before.f (c10 : f_slices_Index_int.E) (k : Nat) (a0 : List (Int)) (a1 : Int) (a2 : Int) : Option (Bool) := f_lineage_Before.b c10  a0 a1 a2
theorem f_lineage_Before.r (c10 : f_slices_Index_int.E) (k : Nat) (a0 : List (Int)) (a1 : Int) (a2 : Int) : fn (f_lineage_Before.C c10) k Try.f11 f_lineage_Before.A f_lineage_Before.R (a0, (a1, a2)) = f_lineage_Before.b c10  a0 a1 a2 := by kernel_rfl
theorem f_lineage_Before.e (c10 : f_slices_Index_int.E) (k : Nat) (a0 : List (Int)) (a1 : Int) (a2 : Int) : fn (f_lineage_Before.C c10) k Try.f11 f_lineage_Before.A f_lineage_Before.R (a0, (a1, a2)) = f_lineage_Before.f c10 k a0 a1 a2 := by
  rw [f_lineage_Before.r]
  rfl
def f_lineage_Before.u (k : Nat) : f_lineage_Before.E := fun y => f_lineage_Before.f (f_slices_Index_int.u k) k y.1 y.2.1 y.2.2
theorem f_lineage_Before.ty (c10 : f_slices_Index_int.E) : TyOk Try.prog (f_lineage_Before.C c10) := tyOk_of (by kernel_rfl)
theorem f_lineage_Before.sound (k : Nat) : Sound Try.prog ⟨11, f_lineage_Before.A, f_lineage_Before.R, f_lineage_Before.u k⟩ := by
  have h := fn_sound (k := k) («as» := f_lineage_Before.A) (rs := f_lineage_Before.R) (f_lineage_Before.ty (f_slices_Index_int.u k)) (fun E h => by
    simp only [f_lineage_Before.C, List.mem_cons, List.not_mem_nil, or_false] at h
    rcases h with rfl
    · exact f_slices_Index_int.sound k) mixed Try.func11 (by kernel_rfl) (by kernel_rfl)
  have e : fn (f_lineage_Before.C (f_slices_Index_int.u k)) k Try.f11 f_lineage_Before.A f_lineage_Before.R = f_lineage_Before.u k := by
    funext y
    exact f_lineage_Before.e (f_slices_Index_int.u k) k y.1 y.2.1 y.2.2
  rw [e] at h
  exact h
end
end Go.Ab
