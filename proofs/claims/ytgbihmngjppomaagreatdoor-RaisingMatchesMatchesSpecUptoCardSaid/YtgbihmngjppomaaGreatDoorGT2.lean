/- A part of the proof: GT2. -/
import Derived.Test.YtgbihmngjppomaaGreatDoorFTy
import Derived.Test.YtgbihmngjppomaaGreatDoorGT1
namespace Go.Ab
set_option linter.unusedVariables false
set_option linter.unusedSimpArgs false
set_option maxRecDepth 100000
noncomputable section
open Go.Proofs
/-! ### brindlewood/brindlewoodref7.callable: f92 -/
abbrev r7_callable.A : List Sh := [(.d Y_Heap), (.d Y_Value)]
abbrev r7_callable.R : List Sh := [(.d .bool)]
abbrev r7_callable.E : Type := ((List X_Object) × X_Value) → Option (Bool)
def r7_callable.C (c34 : r7_Obj.E) : Ctx := { ty := [(3, (.int .i64)), (24, Y_Heap), (29, Y_Value), (36, Y_Object)], nf := [(29, 5), (36, 10)], by_ := [], env := [⟨34, r7_Obj.A, r7_Obj.R, c34⟩], spec := [] }
noncomputable def r7_callable.code : Code := Func.code Tryz.f92
noncomputable def r7_callable.fin (c34 : r7_Obj.E) := kfin (r7_callable.C c34) Tryz.f92 r7_callable.A r7_callable.R
def r7_callable.b (c34 : r7_Obj.E)  (a0 : List X_Object) (a1 : X_Value) : Option (Bool) :=
  bif (a1.1 == (7 : Int)) then
    some true
  else
    (c34 (a0, a1)).bind fun y1 =>
      some (y1.1 == (7 : Int))
def r7_callable.f (c34 : r7_Obj.E) (k : Nat) (a0 : List X_Object) (a1 : X_Value) : Option (Bool) := r7_callable.b c34  a0 a1
theorem r7_callable.r (c34 : r7_Obj.E) (k : Nat) (a0 : List X_Object) (a1 : X_Value) : fn (r7_callable.C c34) k Tryz.f92 r7_callable.A r7_callable.R (a0, a1) = r7_callable.b c34  a0 a1 := by kernel_rfl
theorem r7_callable.e (c34 : r7_Obj.E) (k : Nat) (a0 : List X_Object) (a1 : X_Value) : fn (r7_callable.C c34) k Tryz.f92 r7_callable.A r7_callable.R (a0, a1) = r7_callable.f c34 k a0 a1 := by
  rw [r7_callable.r]
  rfl
theorem r7_callable.ty (c34 : r7_Obj.E) : TyOk Tryz.prog (r7_callable.C c34) := tyOk_of (by kernel_rfl)
def r7_callable.u (k : Nat) : r7_callable.E := fun y => r7_callable.f (r7_Obj.u k) k y.1 y.2
theorem r7_callable.sound (k : Nat) : Sound Tryz.prog ⟨92, r7_callable.A, r7_callable.R, r7_callable.u k⟩ := by
  have h := fn_sound (k := k) («as» := r7_callable.A) (rs := r7_callable.R) (r7_callable.ty (r7_Obj.u k)) (fun E h => by
    simp only [r7_callable.C, List.mem_cons, List.not_mem_nil, or_false] at h
    rcases h with rfl
    · exact r7_Obj.sound k) mixed Tryz.func92 (by kernel_rfl) (by kernel_rfl)
  have e : fn (r7_callable.C (r7_Obj.u k)) k Tryz.f92 r7_callable.A r7_callable.R = r7_callable.u k := by
    funext y
    exact r7_callable.e (r7_Obj.u k) k y.1 y.2
  rw [e] at h
  exact h
/-! ### brindlewood/brindlewoodref7.isClass: f93 -/
abbrev r7_isClass.A : List Sh := [(.d Y_Heap), (.d (.int .i64))]
abbrev r7_isClass.R : List Sh := [(.d .bool)]
abbrev r7_isClass.E : Type := ((List X_Object) × (Int)) → Option (Bool)
def r7_isClass.C  : Ctx := { ty := [(3, (.int .i64)), (22, (.sl 36 Y_Object)), (24, Y_Heap), (36, Y_Object)], nf := [(24, 1), (36, 10)], by_ := [(36, 168)], env := [], spec := [] }
noncomputable def r7_isClass.code : Code := Func.code Tryz.f93
noncomputable def r7_isClass.fin  := kfin (r7_isClass.C ) Tryz.f93 r7_isClass.A r7_isClass.R
def r7_isClass.b   (a0 : List X_Object) (a1 : Int) : Option (Bool) :=
  if 0 ≤ a1 ∧ a1 < ((List.length a0) : Int) then
    some (((List.getD a0 (Int.toNat a1) Z_Object).1) == (9 : Int))
  else none
def r7_isClass.c   (a0 : List X_Object) (a1 : Int) : Option (Bool) :=
  if 0 ≤ a1 ∧ a1 < ((List.length a0) : Int) then
    some (((List.getD a0 (Int.toNat a1) Z_Object).1) == (9 : Int))
  else none
theorem r7_isClass.q   (a0 : List X_Object) (a1 : Int) : r7_isClass.b  a0 a1 = r7_isClass.c  a0 a1 := by
  simp only [r7_isClass.b, r7_isClass.c, List.take_length, take_one, Nat.zero_add, Int.toNat_natCast, Int.toNat_zero, List.drop_zero, List.append_eq, Nat.le_refl, Int.le_refl, true_and, and_true, zero_le_one, if_true, prod_eta, Int.natCast_zero]
def r7_isClass.f  (k : Nat) (a0 : List X_Object) (a1 : Int) : Option (Bool) := r7_isClass.b   a0 a1
theorem r7_isClass.r  (k : Nat) (a0 : List X_Object) (a1 : Int) : fn (r7_isClass.C ) k Tryz.f93 r7_isClass.A r7_isClass.R (a0, a1) = r7_isClass.b   a0 a1 := by kernel_rfl
theorem r7_isClass.e  (k : Nat) (a0 : List X_Object) (a1 : Int) : fn (r7_isClass.C ) k Tryz.f93 r7_isClass.A r7_isClass.R (a0, a1) = r7_isClass.f  k a0 a1 := by
  rw [r7_isClass.r]
  rfl
theorem r7_isClass.ty  : TyOk Tryz.prog (r7_isClass.C ) := tyOk_of (by kernel_rfl)
def r7_isClass.u (k : Nat) : r7_isClass.E := fun y => r7_isClass.f  k y.1 y.2
theorem r7_isClass.sound (k : Nat) : Sound Tryz.prog ⟨93, r7_isClass.A, r7_isClass.R, r7_isClass.u k⟩ := by
  have h := fn_sound (k := k) («as» := r7_isClass.A) (rs := r7_isClass.R) (r7_isClass.ty ) (fun E h => by cases h) mixed Tryz.func93 (by kernel_rfl) (by kernel_rfl)
  have e : fn (r7_isClass.C ) k Tryz.f93 r7_isClass.A r7_isClass.R = r7_isClass.u k := by
    funext y
    exact r7_isClass.e  k y.1 y.2
  rw [e] at h
  exact h
/-! ### brindlewood/brindlewoodref7.Open: f94 -/
abbrev r7_Open.A : List Sh := [(.d (.int .i64))]
abbrev r7_Open.R : List Sh := [(.d .bool)]
abbrev r7_Open.E : Type := (Int) → Option (Bool)
def r7_Open.C  : Ctx := { ty := [(3, (.int .i64))], nf := [], by_ := [], env := [], spec := [] }
noncomputable def r7_Open.code : Code := Func.code Tryz.f94
noncomputable def r7_Open.fin  := kfin (r7_Open.C ) Tryz.f94 r7_Open.A r7_Open.R
def r7_Open.b   (a0 : Int) : Option (Bool) :=
  bif (a0 == (0 : Int)) then
    some true
  else
    some (decide (a0 ≥ (28 : Int)))
def r7_Open.f  (k : Nat) (a0 : Int) : Option (Bool) := r7_Open.b   a0
theorem r7_Open.r  (k : Nat) (a0 : Int) : fn (r7_Open.C ) k Tryz.f94 r7_Open.A r7_Open.R a0 = r7_Open.b   a0 := by kernel_rfl
theorem r7_Open.e  (k : Nat) (a0 : Int) : fn (r7_Open.C ) k Tryz.f94 r7_Open.A r7_Open.R a0 = r7_Open.f  k a0 := by
  rw [r7_Open.r]
  rfl
theorem r7_Open.ty  : TyOk Tryz.prog (r7_Open.C ) := tyOk_of (by kernel_rfl)
def r7_Open.u (k : Nat) : r7_Open.E := fun y => r7_Open.f  k y
theorem r7_Open.sound (k : Nat) : Sound Tryz.prog ⟨94, r7_Open.A, r7_Open.R, r7_Open.u k⟩ := by
  have h := fn_sound (k := k) («as» := r7_Open.A) (rs := r7_Open.R) (r7_Open.ty ) (fun E h => by cases h) mixed Tryz.func94 (by kernel_rfl) (by kernel_rfl)
  have e : fn (r7_Open.C ) k Tryz.f94 r7_Open.A r7_Open.R = r7_Open.u k := by
    funext y
    exact r7_Open.e  k y
  rw [e] at h
  exact h
/-! ### slices.Index[[]int,int]: f74 -/
abbrev sl_Index_int.A : List Sh := [(.d (.sl 3 (.int .i64))), (.d (.int .i64))]
abbrev sl_Index_int.R : List Sh := [(.d (.int .i64))]
abbrev sl_Index_int.E : Type := ((List (Int)) × (Int)) → Option (Int)
def sl_Index_int.C  : Ctx := { ty := [(3, (.int .i64)), (32, (.sl 3 (.int .i64)))], nf := [], by_ := [(3, 8)], env := [], spec := [(0, [.d 0 (.sl 3 (.int .i64)), .d 1 (.int .i64), .d 7 (.int .i64), .d 8 (.int .i64)])] }
noncomputable def sl_Index_int.code : Code := Func.code Tryz.f74
noncomputable def sl_Index_int.fin  := kfin (sl_Index_int.C ) Tryz.f74 sl_Index_int.A sl_Index_int.R
def sl_Index_int.b  (r_l0 : (List (Int)) → (Int) → (Int) → (Int) → Option (Int)) (a0 : List (Int)) (a1 : Int) : Option (Int) :=
  r_l0 a0 a1 ((List.length a0) : Int) (0 : Int)
def sl_Index_int.b_l0  (n_l0 : (List (Int)) → (Int) → (Int) → (Int) → Option (Int)) (x0 : List (Int)) (x1 : Int) (x7 : Int) (x8 : Int) : Option (Int) :=
  bif (decide (x8 < x7)) then
    if 0 ≤ x8 ∧ x8 < ((List.length x0) : Int) then
      bif (x1 == (List.getD x0 (Int.toNat x8) (0 : Int))) then
        some x8
      else
        n_l0 x0 x1 x7 (IntKind.i64.wrap (x8 + (1 : Int)))
    else none
  else
    some (-1 : Int)
def sl_Index_int.l0  (k : Nat)  : Nat → (List (Int)) → (Int) → (Int) → (Int) → Option (Int)
  | 0, _, _, _, _ => none
  | n + 1, x0, x1, x7, x8 => sl_Index_int.b_l0  (fun x0 x1 x7 x8 => sl_Index_int.l0  k  n x0 x1 x7 x8) x0 x1 x7 x8
def sl_Index_int.f  (k : Nat) (a0 : List (Int)) (a1 : Int) : Option (Int) := sl_Index_int.b  (sl_Index_int.l0  k k) a0 a1
noncomputable def sl_Index_int.M_l0  (k n : Nat)  (s : St) : Option (Int) := atLoop (sl_Index_int.C ) k n [1, 0, 1, 0] [] sl_Index_int.code (sl_Index_int.fin ) s
noncomputable def sl_Index_int.fr_l0 (x0 : List (Int)) (x1 : Int) (x7 : Int) (x8 : Int) : St := ⟨(((((List.replicate 19 V.un).set 0 (V.dat (.sl 3 (.int .i64)) x0)).set 1 (V.dat (.int .i64) x1)).set 7 (V.dat (.int .i64) x7)).set 8 (V.dat (.int .i64) x8)), []⟩
theorem sl_Index_int.r  (k : Nat) (a0 : List (Int)) (a1 : Int) : fn (sl_Index_int.C ) k Tryz.f74 sl_Index_int.A sl_Index_int.R (a0, a1) = sl_Index_int.b  (fun x0 x1 x7 x8 => sl_Index_int.M_l0  k k  (sl_Index_int.fr_l0 x0 x1 x7 x8)) a0 a1 := by kernel_rfl
theorem sl_Index_int.z_l0  (k : Nat)  (s : St) : sl_Index_int.M_l0  k 0  s = none := by kernel_rfl
theorem sl_Index_int.r_l0  (k n : Nat)  (x0 : List (Int)) (x1 : Int) (x7 : Int) (x8 : Int) : sl_Index_int.M_l0  k (n + 1)  (sl_Index_int.fr_l0 x0 x1 x7 x8) = sl_Index_int.b_l0  (fun x0 x1 x7 x8 => sl_Index_int.M_l0  k n  (sl_Index_int.fr_l0 x0 x1 x7 x8)) x0 x1 x7 x8 := by kernel_rfl
theorem sl_Index_int.e_l0  (k n : Nat)  (x0 : List (Int)) (x1 : Int) (x7 : Int) (x8 : Int) : sl_Index_int.M_l0  k n  (sl_Index_int.fr_l0 x0 x1 x7 x8) = sl_Index_int.l0  k  n x0 x1 x7 x8 := by
  induction n generalizing x0 x1 x7 x8 with
  | zero => rw [sl_Index_int.z_l0]; rfl
  | succ n ih =>
    rw [sl_Index_int.r_l0]
    simp only [ih]
    rfl
theorem sl_Index_int.e  (k : Nat) (a0 : List (Int)) (a1 : Int) : fn (sl_Index_int.C ) k Tryz.f74 sl_Index_int.A sl_Index_int.R (a0, a1) = sl_Index_int.f  k a0 a1 := by
  rw [sl_Index_int.r]
  simp only [sl_Index_int.e_l0]
  rfl
theorem sl_Index_int.ty  : TyOk Tryz.prog (sl_Index_int.C ) := tyOk_of (by kernel_rfl)
def sl_Index_int.u (k : Nat) : sl_Index_int.E := fun y => sl_Index_int.f  k y.1 y.2
theorem sl_Index_int.sound (k : Nat) : Sound Tryz.prog ⟨74, sl_Index_int.A, sl_Index_int.R, sl_Index_int.u k⟩ := by
  have h := fn_sound (k := k) («as» := sl_Index_int.A) (rs := sl_Index_int.R) (sl_Index_int.ty ) (fun E h => by cases h) mixed Tryz.func74 (by kernel_rfl) (by kernel_rfl)
  have e : fn (sl_Index_int.C ) k Tryz.f74 sl_Index_int.A sl_Index_int.R = sl_Index_int.u k := by
    funext y
    exact sl_Index_int.e  k y.1 y.2
  rw [e] at h
  exact h
/-! ### slices.Contains[[]int,int]: f41 -/
abbrev sl_Contains_int.A : List Sh := [(.d (.sl 3 (.int .i64))), (.d (.int .i64))]
abbrev sl_Contains_int.R : List Sh := [(.d .bool)]
abbrev sl_Contains_int.E : Type := ((List (Int)) × (Int)) → Option (Bool)
def sl_Contains_int.C (c74 : sl_Index_int.E) : Ctx := { ty := [(3, (.int .i64))], nf := [], by_ := [], env := [⟨74, sl_Index_int.A, sl_Index_int.R, c74⟩], spec := [] }
noncomputable def sl_Contains_int.code : Code := Func.code Tryz.f41
noncomputable def sl_Contains_int.fin (c74 : sl_Index_int.E) := kfin (sl_Contains_int.C c74) Tryz.f41 sl_Contains_int.A sl_Contains_int.R
def sl_Contains_int.b (c74 : sl_Index_int.E)  (a0 : List (Int)) (a1 : Int) : Option (Bool) :=
  (c74 (a0, a1)).bind fun y1 =>
    some (decide (y1 ≥ (0 : Int)))
def sl_Contains_int.f (c74 : sl_Index_int.E) (k : Nat) (a0 : List (Int)) (a1 : Int) : Option (Bool) := sl_Contains_int.b c74  a0 a1
theorem sl_Contains_int.r (c74 : sl_Index_int.E) (k : Nat) (a0 : List (Int)) (a1 : Int) : fn (sl_Contains_int.C c74) k Tryz.f41 sl_Contains_int.A sl_Contains_int.R (a0, a1) = sl_Contains_int.b c74  a0 a1 := by kernel_rfl
theorem sl_Contains_int.e (c74 : sl_Index_int.E) (k : Nat) (a0 : List (Int)) (a1 : Int) : fn (sl_Contains_int.C c74) k Tryz.f41 sl_Contains_int.A sl_Contains_int.R (a0, a1) = sl_Contains_int.f c74 k a0 a1 := by
  rw [sl_Contains_int.r]
  rfl
theorem sl_Contains_int.ty (c74 : sl_Index_int.E) : TyOk Tryz.prog (sl_Contains_int.C c74) := tyOk_of (by kernel_rfl)
def sl_Contains_int.u (k : Nat) : sl_Contains_int.E := fun y => sl_Contains_int.f (sl_Index_int.u k) k y.1 y.2
theorem sl_Contains_int.sound (k : Nat) : Sound Tryz.prog ⟨41, sl_Contains_int.A, sl_Contains_int.R, sl_Contains_int.u k⟩ := by
  have h := fn_sound (k := k) («as» := sl_Contains_int.A) (rs := sl_Contains_int.R) (sl_Contains_int.ty (sl_Index_int.u k)) (fun E h => by
    simp only [sl_Contains_int.C, List.mem_cons, List.not_mem_nil, or_false] at h
    rcases h with rfl
    · exact sl_Index_int.sound k) mixed Tryz.func41 (by kernel_rfl) (by kernel_rfl)
  have e : fn (sl_Contains_int.C (sl_Index_int.u k)) k Tryz.f41 sl_Contains_int.A sl_Contains_int.R = sl_Contains_int.u k := by
    funext y
    exact sl_Contains_int.e (sl_Index_int.u k) k y.1 y.2
  rw [e] at h
  exact h
/-! ### brindlewood/brindlewoodref7.Exception: f10 -/
abbrev r7_Exception.A : List Sh := [(.d Y_Heap), (.d Y_Value)]
abbrev r7_Exception.R : List Sh := [(.d .bool)]
abbrev r7_Exception.E : Type := ((List X_Object) × X_Value) → Option (Bool)
def r7_Exception.C (c34 : r7_Obj.E) (c7 : r7_IsObject.E) (c41 : sl_Contains_int.E) : Ctx := { ty := [(3, (.int .i64)), (22, (.sl 36 Y_Object)), (24, Y_Heap), (29, Y_Value), (32, (.sl 3 (.int .i64))), (36, Y_Object)], nf := [(24, 1), (36, 10)], by_ := [(3, 8), (36, 168)], env := [⟨34, r7_Obj.A, r7_Obj.R, c34⟩, ⟨7, r7_IsObject.A, r7_IsObject.R, c7⟩, ⟨41, sl_Contains_int.A, sl_Contains_int.R, c41⟩], spec := [] }
noncomputable def r7_Exception.code : Code := Func.code Tryz.f10
noncomputable def r7_Exception.fin (c34 : r7_Obj.E) (c7 : r7_IsObject.E) (c41 : sl_Contains_int.E) := kfin (r7_Exception.C c34 c7 c41) Tryz.f10 r7_Exception.A r7_Exception.R
def r7_Exception.b (c34 : r7_Obj.E) (c7 : r7_IsObject.E) (c41 : sl_Contains_int.E)  (a0 : List X_Object) (a1 : X_Value) : Option (Bool) :=
  (c34 (a0, a1)).bind fun y1 =>
    bif (y1.1 == (10 : Int)) then
      (c7 (a0, y1.2.2.1)).bind fun y2 =>
        bif y2 then
          if 0 ≤ y1.2.2.1 ∧ y1.2.2.1 < ((List.length a0) : Int) then
            (c41 ((((((List.getD a0 (Int.toNat y1.2.2.1) Z_Object).2).2).2).2).1, (28 : Int))).bind fun y3 =>
              some y3
          else none
        else
          some false
    else
      some false
def r7_Exception.c (c34 : r7_Obj.E) (c7 : r7_IsObject.E) (c41 : sl_Contains_int.E)  (a0 : List X_Object) (a1 : X_Value) : Option (Bool) :=
  (c34 (a0, a1)).bind fun y1 =>
    bif (y1.1 == (10 : Int)) then
      (c7 (a0, y1.2.2.1)).bind fun y2 =>
        bif y2 then
          if 0 ≤ y1.2.2.1 ∧ y1.2.2.1 < ((List.length a0) : Int) then
            (c41 ((((((List.getD a0 (Int.toNat y1.2.2.1) Z_Object).2).2).2).2).1, (28 : Int))).bind fun y3 =>
              some y3
          else none
        else
          some false
    else
      some false
theorem r7_Exception.q (c34 : r7_Obj.E) (c7 : r7_IsObject.E) (c41 : sl_Contains_int.E)  (a0 : List X_Object) (a1 : X_Value) : r7_Exception.b c34 c7 c41 a0 a1 = r7_Exception.c c34 c7 c41 a0 a1 := by
  simp only [r7_Exception.b, r7_Exception.c, List.take_length, take_one, Nat.zero_add, Int.toNat_natCast, Int.toNat_zero, List.drop_zero, List.append_eq, Nat.le_refl, Int.le_refl, true_and, and_true, zero_le_one, if_true, prod_eta, Int.natCast_zero]
def r7_Exception.f (c34 : r7_Obj.E) (c7 : r7_IsObject.E) (c41 : sl_Contains_int.E) (k : Nat) (a0 : List X_Object) (a1 : X_Value) : Option (Bool) := r7_Exception.b c34 c7 c41  a0 a1
theorem r7_Exception.r (c34 : r7_Obj.E) (c7 : r7_IsObject.E) (c41 : sl_Contains_int.E) (k : Nat) (a0 : List X_Object) (a1 : X_Value) : fn (r7_Exception.C c34 c7 c41) k Tryz.f10 r7_Exception.A r7_Exception.R (a0, a1) = r7_Exception.b c34 c7 c41  a0 a1 := by kernel_rfl
theorem r7_Exception.e (c34 : r7_Obj.E) (c7 : r7_IsObject.E) (c41 : sl_Contains_int.E) (k : Nat) (a0 : List X_Object) (a1 : X_Value) : fn (r7_Exception.C c34 c7 c41) k Tryz.f10 r7_Exception.A r7_Exception.R (a0, a1) = r7_Exception.f c34 c7 c41 k a0 a1 := by
  rw [r7_Exception.r]
  rfl
theorem r7_Exception.ty (c34 : r7_Obj.E) (c7 : r7_IsObject.E) (c41 : sl_Contains_int.E) : TyOk Tryz.prog (r7_Exception.C c34 c7 c41) := tyOk_of (by kernel_rfl)
def r7_Exception.u (k : Nat) : r7_Exception.E := fun y => r7_Exception.f (r7_Obj.u k) (r7_IsObject.u k) (sl_Contains_int.u k) k y.1 y.2
theorem r7_Exception.sound (k : Nat) : Sound Tryz.prog ⟨10, r7_Exception.A, r7_Exception.R, r7_Exception.u k⟩ := by
  have h := fn_sound (k := k) («as» := r7_Exception.A) (rs := r7_Exception.R) (r7_Exception.ty (r7_Obj.u k) (r7_IsObject.u k) (sl_Contains_int.u k)) (fun E h => by
    simp only [r7_Exception.C, List.mem_cons, List.not_mem_nil, or_false] at h
    rcases h with rfl | rfl | rfl
    · exact r7_Obj.sound k
    · exact r7_IsObject.sound k
    · exact sl_Contains_int.sound k) mixed Tryz.func10 (by kernel_rfl) (by kernel_rfl)
  have e : fn (r7_Exception.C (r7_Obj.u k) (r7_IsObject.u k) (sl_Contains_int.u k)) k Tryz.f10 r7_Exception.A r7_Exception.R = r7_Exception.u k := by
    funext y
    exact r7_Exception.e (r7_Obj.u k) (r7_IsObject.u k) (sl_Contains_int.u k) k y.1 y.2
  rw [e] at h
  exact h
/-! ### brindlewood/brindlewoodref7.exceptionOk: f95 -/
abbrev r7_exceptionOk.A : List Sh := [(.d Y_Heap), (.d (.int .i64))]
abbrev r7_exceptionOk.R : List Sh := [(.d .bool)]
abbrev r7_exceptionOk.E : Type := ((List X_Object) × (Int)) → Option (Bool)
def r7_exceptionOk.C (c41 : sl_Contains_int.E) (c79 : r7_Strings.E) (c34 : r7_Obj.E) (c10 : r7_Exception.E) : Ctx := { ty := [(3, (.int .i64)), (22, (.sl 36 Y_Object)), (24, Y_Heap), (29, Y_Value), (32, (.sl 3 (.int .i64))), (33, (.sl 9 .str)), (34, (.sl 29 Y_Value)), (36, Y_Object)], nf := [(24, 1), (29, 5), (36, 10)], by_ := [(3, 8), (9, 16), (29, 96), (36, 168)], env := [⟨41, sl_Contains_int.A, sl_Contains_int.R, c41⟩, ⟨79, r7_Strings.A, r7_Strings.R, c79⟩, ⟨34, r7_Obj.A, r7_Obj.R, c34⟩, ⟨10, r7_Exception.A, r7_Exception.R, c10⟩], spec := [(100006, [.d 1 (.int .i64), .bx 2 600002 (.d Y_Heap), .bx 5 600005 (.d Y_Object), .o 6 500006 9 .str, .d 7 .bool]), (0, [.d 1 (.int .i64), .bx 2 600002 (.d Y_Heap), .bx 5 600005 (.d Y_Object), .d 7 .bool, .bx 8 600008 (.d Y_Object), .bx 9 600009 (.d Y_Object), .d 66 (.sl 29 Y_Value), .d 67 (.int .i64), .d 68 (.int .i64)]), (2, [.d 1 (.int .i64), .bx 2 600002 (.d Y_Heap), .bx 5 600005 (.d Y_Object), .d 7 .bool, .bx 8 600008 (.d Y_Object), .d 91 (.sl 29 Y_Value), .d 92 (.int .i64), .d 93 (.int .i64)]), (4, [.d 1 (.int .i64), .bx 2 600002 (.d Y_Heap), .bx 8 600008 (.d Y_Object), .bx 15 600015 (.d Y_Object), .d 135 (.sl 29 Y_Value), .d 136 (.int .i64), .d 137 (.int .i64)])] }
noncomputable def r7_exceptionOk.code : Code := Func.code Tryz.f95
noncomputable def r7_exceptionOk.fin (c41 : sl_Contains_int.E) (c79 : r7_Strings.E) (c34 : r7_Obj.E) (c10 : r7_Exception.E) := kfin (r7_exceptionOk.C c41 c79 c34 c10) Tryz.f95 r7_exceptionOk.A r7_exceptionOk.R
def r7_exceptionOk.b (c41 : sl_Contains_int.E) (c79 : r7_Strings.E) (c34 : r7_Obj.E) (c10 : r7_Exception.E) (r_g6 : (Int) → (List X_Object) → X_Object → (List (List UInt8)) → (Bool) → Option (Bool)) (a0 : List X_Object) (a1 : Int) : Option (Bool) :=
  if 0 ≤ a1 ∧ a1 < ((List.length a0) : Int) then
    if 0 ≤ ((((List.getD a0 (Int.toNat a1) Z_Object).2).2).1) ∧ ((((List.getD a0 (Int.toNat a1) Z_Object).2).2).1) < ((List.length a0) : Int) then
      (c41 ((((((List.getD a0 (Int.toNat ((((List.getD a0 (Int.toNat a1) Z_Object).2).2).1)) Z_Object).2).2).2).2).1, (48 : Int))).bind fun y1 =>
        bif y1 then
          if 4 ≤ (List.length ([[97, 114, 103, 115], [99, 97, 117, 115, 101], [99, 111, 110, 116, 101, 120, 116], [116, 114, 97, 99, 101]] : List (List UInt8))) ∧ (4 + (List.length (List.take 1 ([[109, 101, 109, 98, 101, 114, 115]] : List (List UInt8))))) * 16 ≤ LIM then
            r_g6 a1 a0 (List.getD a0 (Int.toNat a1) Z_Object) (List.take (List.length (List.append (List.take 4 ([[97, 114, 103, 115], [99, 97, 117, 115, 101], [99, 111, 110, 116, 101, 120, 116], [116, 114, 97, 99, 101]] : List (List UInt8))) (List.take 1 ([[109, 101, 109, 98, 101, 114, 115]] : List (List UInt8))))) (List.append (List.take 4 ([[97, 114, 103, 115], [99, 97, 117, 115, 101], [99, 111, 110, 116, 101, 120, 116], [116, 114, 97, 99, 101]] : List (List UInt8))) (List.take 1 ([[109, 101, 109, 98, 101, 114, 115]] : List (List UInt8))))) y1
          else none
        else
          r_g6 a1 a0 (List.getD a0 (Int.toNat a1) Z_Object) (List.take 4 ([[97, 114, 103, 115], [99, 97, 117, 115, 101], [99, 111, 110, 116, 101, 120, 116], [116, 114, 97, 99, 101]] : List (List UInt8))) y1
    else none
  else none
def r7_exceptionOk.b_g6 (c41 : sl_Contains_int.E) (c79 : r7_Strings.E) (c34 : r7_Obj.E) (c10 : r7_Exception.E) (r_l0 : (Int) → (List X_Object) → X_Object → (Bool) → X_Object → X_Object → (List X_Value) → (Int) → (Int) → Option (Bool)) (x1 : Int) (x2 : List X_Object) (x5 : X_Object) (x6 : List (List UInt8)) (x7 : Bool) : Option (Bool) :=
  bif (decide (((List.length x5.2.2.2.2.2.1) : Int) < (((List.length x6) : Nat) : Int))) then
    some false
  else
    if 0 ≤ (0 : Int) ∧ (0 : Int) ≤ (((List.length x6) : Nat) : Int) ∧ (((List.length x6) : Nat) : Int) ≤ ((List.length x5.2.2.2.2.2.1) : Int) then
      (c79 ((List.drop (Int.toNat (0 : Int)) (List.take (Int.toNat (((List.length x6) : Nat) : Int)) x5.2.2.2.2.2.1)), (List.take (List.length x6) x6))).bind fun y2 =>
        bif (!y2) then
          some false
        else
          if 0 ≤ (0 : Int) ∧ (0 : Int) < ((List.length x5.2.2.2.2.2.2.1) : Int) then
            (c34 (x2, (List.getD x5.2.2.2.2.2.2.1 (Int.toNat (0 : Int)) Z_Value))).bind fun y3 =>
              if 0 ≤ (3 : Int) ∧ (3 : Int) < ((List.length x5.2.2.2.2.2.2.1) : Int) then
                (c34 (x2, (List.getD x5.2.2.2.2.2.2.1 (Int.toNat (3 : Int)) Z_Value))).bind fun y4 =>
                  if 0 ≤ (1 : Int) ∧ (1 : Int) ≤ (3 : Int) ∧ (3 : Int) ≤ ((List.length x5.2.2.2.2.2.2.1) : Int) then
                    r_l0 x1 x2 x5 x7 y3 y4 (List.drop (Int.toNat (1 : Int)) (List.take (Int.toNat (3 : Int)) x5.2.2.2.2.2.2.1)) ((List.length (List.drop (Int.toNat (1 : Int)) (List.take (Int.toNat (3 : Int)) x5.2.2.2.2.2.2.1))) : Int) (0 : Int)
                  else none
              else none
          else none
    else none
def r7_exceptionOk.b_l0 (c41 : sl_Contains_int.E) (c79 : r7_Strings.E) (c34 : r7_Obj.E) (c10 : r7_Exception.E) (n_l0 : (Int) → (List X_Object) → X_Object → (Bool) → X_Object → X_Object → (List X_Value) → (Int) → (Int) → Option (Bool)) (r_l2 : (Int) → (List X_Object) → X_Object → (Bool) → X_Object → (List X_Value) → (Int) → (Int) → Option (Bool)) (x1 : Int) (x2 : List X_Object) (x5 : X_Object) (x7 : Bool) (x8 : X_Object) (x9 : X_Object) (x66 : List X_Value) (x67 : Int) (x68 : Int) : Option (Bool) :=
  bif (decide (x68 < x67)) then
    if 0 ≤ x68 ∧ x68 < ((List.length x66) : Int) then
      bif (((List.getD x66 (Int.toNat x68) Z_Value).1) != (0 : Int)) then
        (c10 (x2, (List.getD x66 (Int.toNat x68) Z_Value))).bind fun y5 =>
          bif (!y5) then
            some false
          else
            n_l0 x1 x2 x5 x7 x8 x9 x66 x67 (IntKind.i64.wrap (x68 + (1 : Int)))
      else
        n_l0 x1 x2 x5 x7 x8 x9 x66 x67 (IntKind.i64.wrap (x68 + (1 : Int)))
    else none
  else
    bif (x8.1 != (1 : Int)) then
      some false
    else
      bif (x9.1 != (1 : Int)) then
        some false
      else
        r_l2 x1 x2 x5 x7 x8 x9.2.2.2.2.2.2.1 ((List.length x9.2.2.2.2.2.2.1) : Int) (0 : Int)
def r7_exceptionOk.b_l2 (c41 : sl_Contains_int.E) (c79 : r7_Strings.E) (c34 : r7_Obj.E) (c10 : r7_Exception.E) (n_l2 : (Int) → (List X_Object) → X_Object → (Bool) → X_Object → (List X_Value) → (Int) → (Int) → Option (Bool)) (r_l4 : (Int) → (List X_Object) → X_Object → X_Object → (List X_Value) → (Int) → (Int) → Option (Bool)) (x1 : Int) (x2 : List X_Object) (x5 : X_Object) (x7 : Bool) (x8 : X_Object) (x91 : List X_Value) (x92 : Int) (x93 : Int) : Option (Bool) :=
  bif (decide (x93 < x92)) then
    if 0 ≤ x93 ∧ x93 < ((List.length x91) : Int) then
      (c34 (x2, (List.getD x91 (Int.toNat x93) Z_Value))).bind fun y6 =>
        bif (y6.1 != (1 : Int)) then
          some false
        else
          bif (((List.length y6.2.2.2.2.2.2.1) : Int) != (2 : Int)) then
            some false
          else
            if 0 ≤ (0 : Int) ∧ (0 : Int) < ((List.length y6.2.2.2.2.2.2.1) : Int) then
              bif (((List.getD y6.2.2.2.2.2.2.1 (Int.toNat (0 : Int)) Z_Value).1) != (4 : Int)) then
                some false
              else
                if 0 ≤ (1 : Int) ∧ (1 : Int) < ((List.length y6.2.2.2.2.2.2.1) : Int) then
                  bif (((List.getD y6.2.2.2.2.2.2.1 (Int.toNat (1 : Int)) Z_Value).1) != (2 : Int)) then
                    some false
                  else
                    n_l2 x1 x2 x5 x7 x8 x91 x92 (IntKind.i64.wrap (x93 + (1 : Int)))
                else none
            else none
    else none
  else
    bif (!x7) then
      some true
    else
      if 0 ≤ (4 : Int) ∧ (4 : Int) < ((List.length x5.2.2.2.2.2.2.1) : Int) then
        (c34 (x2, (List.getD x5.2.2.2.2.2.2.1 (Int.toNat (4 : Int)) Z_Value))).bind fun y7 =>
          r_l4 x1 x2 x8 y7 y7.2.2.2.2.2.2.1 ((List.length y7.2.2.2.2.2.2.1) : Int) (0 : Int)
      else none
def r7_exceptionOk.b_l4 (c41 : sl_Contains_int.E) (c79 : r7_Strings.E) (c34 : r7_Obj.E) (c10 : r7_Exception.E) (n_l4 : (Int) → (List X_Object) → X_Object → X_Object → (List X_Value) → (Int) → (Int) → Option (Bool)) (x1 : Int) (x2 : List X_Object) (x8 : X_Object) (x15 : X_Object) (x135 : List X_Value) (x136 : Int) (x137 : Int) : Option (Bool) :=
  bif (decide (x137 < x136)) then
    if 0 ≤ x137 ∧ x137 < ((List.length x135) : Int) then
      (c10 (x2, (List.getD x135 (Int.toNat x137) Z_Value))).bind fun y8 =>
        bif (!y8) then
          some false
        else
          bif (decide ((((((List.getD x135 (Int.toNat x137) Z_Value).2).2).2).2) ≥ x1)) then
            some false
          else
            n_l4 x1 x2 x8 x15 x135 x136 (IntKind.i64.wrap (x137 + (1 : Int)))
    else none
  else
    bif (x15.1 == (1 : Int)) then
      bif (decide (((List.length x15.2.2.2.2.2.2.1) : Int) > (0 : Int))) then
        some (decide (((List.length x8.2.2.2.2.2.2.1) : Int) > (0 : Int)))
      else
        some false
    else
      some false
def r7_exceptionOk.c (c41 : sl_Contains_int.E) (c79 : r7_Strings.E) (c34 : r7_Obj.E) (c10 : r7_Exception.E) (r_g6 : (Int) → (List X_Object) → X_Object → (List (List UInt8)) → (Bool) → Option (Bool)) (a0 : List X_Object) (a1 : Int) : Option (Bool) :=
  if 0 ≤ a1 ∧ a1 < ((List.length a0) : Int) then
    if 0 ≤ ((((List.getD a0 (Int.toNat a1) Z_Object).2).2).1) ∧ ((((List.getD a0 (Int.toNat a1) Z_Object).2).2).1) < ((List.length a0) : Int) then
      (c41 ((((((List.getD a0 (Int.toNat ((((List.getD a0 (Int.toNat a1) Z_Object).2).2).1)) Z_Object).2).2).2).2).1, (48 : Int))).bind fun y1 =>
        bif y1 then
          if 4 ≤ (List.length ([[97, 114, 103, 115], [99, 97, 117, 115, 101], [99, 111, 110, 116, 101, 120, 116], [116, 114, 97, 99, 101]] : List (List UInt8))) ∧ (4 + (List.length ([[109, 101, 109, 98, 101, 114, 115]] : List (List UInt8)))) * 16 ≤ LIM then
            r_g6 a1 a0 (List.getD a0 (Int.toNat a1) Z_Object) ((List.take 4 ([[97, 114, 103, 115], [99, 97, 117, 115, 101], [99, 111, 110, 116, 101, 120, 116], [116, 114, 97, 99, 101]] : List (List UInt8))) ++ ([[109, 101, 109, 98, 101, 114, 115]] : List (List UInt8))) y1
          else none
        else
          r_g6 a1 a0 (List.getD a0 (Int.toNat a1) Z_Object) (List.take 4 ([[97, 114, 103, 115], [99, 97, 117, 115, 101], [99, 111, 110, 116, 101, 120, 116], [116, 114, 97, 99, 101]] : List (List UInt8))) y1
    else none
  else none
theorem r7_exceptionOk.q (c41 : sl_Contains_int.E) (c79 : r7_Strings.E) (c34 : r7_Obj.E) (c10 : r7_Exception.E) (r_g6 : (Int) → (List X_Object) → X_Object → (List (List UInt8)) → (Bool) → Option (Bool)) (a0 : List X_Object) (a1 : Int) : r7_exceptionOk.b c41 c79 c34 c10 r_g6 a0 a1 = r7_exceptionOk.c c41 c79 c34 c10 r_g6 a0 a1 := by
  simp only [r7_exceptionOk.b, r7_exceptionOk.c, List.take_length, take_one, Nat.zero_add, Int.toNat_natCast, Int.toNat_zero, List.drop_zero, List.append_eq, Nat.le_refl, Int.le_refl, true_and, and_true, zero_le_one, if_true, prod_eta, Int.natCast_zero]
def r7_exceptionOk.c_g6 (c41 : sl_Contains_int.E) (c79 : r7_Strings.E) (c34 : r7_Obj.E) (c10 : r7_Exception.E) (r_l0 : (Int) → (List X_Object) → X_Object → (Bool) → X_Object → X_Object → (List X_Value) → (Int) → (Int) → Option (Bool)) (x1 : Int) (x2 : List X_Object) (x5 : X_Object) (x6 : List (List UInt8)) (x7 : Bool) : Option (Bool) :=
  bif (decide (((List.length x5.2.2.2.2.2.1) : Int) < ((List.length x6) : Int))) then
    some false
  else
    if (0 : Int) ≤ ((List.length x6) : Int) ∧ ((List.length x6) : Int) ≤ ((List.length x5.2.2.2.2.2.1) : Int) then
      (c79 ((List.take (List.length x6) x5.2.2.2.2.2.1), x6)).bind fun y2 =>
        bif !y2 then
          some false
        else
          if (0 : Int) < ((List.length x5.2.2.2.2.2.2.1) : Int) then
            (c34 (x2, (List.getD x5.2.2.2.2.2.2.1 0 Z_Value))).bind fun y3 =>
              if 0 ≤ (3 : Int) ∧ (3 : Int) < ((List.length x5.2.2.2.2.2.2.1) : Int) then
                (c34 (x2, (List.getD x5.2.2.2.2.2.2.1 (Int.toNat (3 : Int)) Z_Value))).bind fun y4 =>
                  if (1 : Int) ≤ (3 : Int) ∧ (3 : Int) ≤ ((List.length x5.2.2.2.2.2.2.1) : Int) then
                    r_l0 x1 x2 x5 x7 y3 y4 (List.drop (Int.toNat (1 : Int)) (List.take (Int.toNat (3 : Int)) x5.2.2.2.2.2.2.1)) ((List.length (List.drop (Int.toNat (1 : Int)) (List.take (Int.toNat (3 : Int)) x5.2.2.2.2.2.2.1))) : Int) (0 : Int)
                  else none
              else none
          else none
    else none
theorem r7_exceptionOk.q_g6 (c41 : sl_Contains_int.E) (c79 : r7_Strings.E) (c34 : r7_Obj.E) (c10 : r7_Exception.E) (r_l0 : (Int) → (List X_Object) → X_Object → (Bool) → X_Object → X_Object → (List X_Value) → (Int) → (Int) → Option (Bool)) (x1 : Int) (x2 : List X_Object) (x5 : X_Object) (x6 : List (List UInt8)) (x7 : Bool) : r7_exceptionOk.b_g6 c41 c79 c34 c10 r_l0 x1 x2 x5 x6 x7 = r7_exceptionOk.c_g6 c41 c79 c34 c10 r_l0 x1 x2 x5 x6 x7 := by
  simp only [r7_exceptionOk.b_g6, r7_exceptionOk.c_g6, List.take_length, take_one, Nat.zero_add, Int.toNat_natCast, Int.toNat_zero, List.drop_zero, List.append_eq, Nat.le_refl, Int.le_refl, true_and, and_true, zero_le_one, if_true, prod_eta, Int.natCast_zero]
def r7_exceptionOk.c_l0 (c41 : sl_Contains_int.E) (c79 : r7_Strings.E) (c34 : r7_Obj.E) (c10 : r7_Exception.E) (n_l0 : (Int) → (List X_Object) → X_Object → (Bool) → X_Object → X_Object → (List X_Value) → (Int) → (Int) → Option (Bool)) (r_l2 : (Int) → (List X_Object) → X_Object → (Bool) → X_Object → (List X_Value) → (Int) → (Int) → Option (Bool)) (x1 : Int) (x2 : List X_Object) (x5 : X_Object) (x7 : Bool) (x8 : X_Object) (x9 : X_Object) (x66 : List X_Value) (x67 : Int) (x68 : Int) : Option (Bool) :=
  bif (decide (x68 < x67)) then
    if 0 ≤ x68 ∧ x68 < ((List.length x66) : Int) then
      bif (((List.getD x66 (Int.toNat x68) Z_Value).1) != (0 : Int)) then
        (c10 (x2, (List.getD x66 (Int.toNat x68) Z_Value))).bind fun y5 =>
          bif !y5 then
            some false
          else
            n_l0 x1 x2 x5 x7 x8 x9 x66 x67 (IntKind.i64.wrap (x68 + (1 : Int)))
      else
        n_l0 x1 x2 x5 x7 x8 x9 x66 x67 (IntKind.i64.wrap (x68 + (1 : Int)))
    else none
  else
    bif (x8.1 != (1 : Int)) then
      some false
    else
      bif (x9.1 != (1 : Int)) then
        some false
      else
        r_l2 x1 x2 x5 x7 x8 x9.2.2.2.2.2.2.1 ((List.length x9.2.2.2.2.2.2.1) : Int) (0 : Int)
theorem r7_exceptionOk.q_l0 (c41 : sl_Contains_int.E) (c79 : r7_Strings.E) (c34 : r7_Obj.E) (c10 : r7_Exception.E) (n_l0 : (Int) → (List X_Object) → X_Object → (Bool) → X_Object → X_Object → (List X_Value) → (Int) → (Int) → Option (Bool)) (r_l2 : (Int) → (List X_Object) → X_Object → (Bool) → X_Object → (List X_Value) → (Int) → (Int) → Option (Bool)) (x1 : Int) (x2 : List X_Object) (x5 : X_Object) (x7 : Bool) (x8 : X_Object) (x9 : X_Object) (x66 : List X_Value) (x67 : Int) (x68 : Int) : r7_exceptionOk.b_l0 c41 c79 c34 c10 n_l0 r_l2 x1 x2 x5 x7 x8 x9 x66 x67 x68 = r7_exceptionOk.c_l0 c41 c79 c34 c10 n_l0 r_l2 x1 x2 x5 x7 x8 x9 x66 x67 x68 := by
  simp only [r7_exceptionOk.b_l0, r7_exceptionOk.c_l0, List.take_length, take_one, Nat.zero_add, Int.toNat_natCast, Int.toNat_zero, List.drop_zero, List.append_eq, Nat.le_refl, Int.le_refl, true_and, and_true, zero_le_one, if_true, prod_eta, Int.natCast_zero]
def r7_exceptionOk.c_l2 (c41 : sl_Contains_int.E) (c79 : r7_Strings.E) (c34 : r7_Obj.E) (c10 : r7_Exception.E) (n_l2 : (Int) → (List X_Object) → X_Object → (Bool) → X_Object → (List X_Value) → (Int) → (Int) → Option (Bool)) (r_l4 : (Int) → (List X_Object) → X_Object → X_Object → (List X_Value) → (Int) → (Int) → Option (Bool)) (x1 : Int) (x2 : List X_Object) (x5 : X_Object) (x7 : Bool) (x8 : X_Object) (x91 : List X_Value) (x92 : Int) (x93 : Int) : Option (Bool) :=
  bif (decide (x93 < x92)) then
    if 0 ≤ x93 ∧ x93 < ((List.length x91) : Int) then
      (c34 (x2, (List.getD x91 (Int.toNat x93) Z_Value))).bind fun y6 =>
        bif (y6.1 != (1 : Int)) then
          some false
        else
          bif (((List.length y6.2.2.2.2.2.2.1) : Int) != (2 : Int)) then
            some false
          else
            if (0 : Int) < ((List.length y6.2.2.2.2.2.2.1) : Int) then
              bif (((List.getD y6.2.2.2.2.2.2.1 0 Z_Value).1) != (4 : Int)) then
                some false
              else
                if (1 : Int) < ((List.length y6.2.2.2.2.2.2.1) : Int) then
                  bif (((List.getD y6.2.2.2.2.2.2.1 (Int.toNat (1 : Int)) Z_Value).1) != (2 : Int)) then
                    some false
                  else
                    n_l2 x1 x2 x5 x7 x8 x91 x92 (IntKind.i64.wrap (x93 + (1 : Int)))
                else none
            else none
    else none
  else
    bif !x7 then
      some true
    else
      if 0 ≤ (4 : Int) ∧ (4 : Int) < ((List.length x5.2.2.2.2.2.2.1) : Int) then
        (c34 (x2, (List.getD x5.2.2.2.2.2.2.1 (Int.toNat (4 : Int)) Z_Value))).bind fun y7 =>
          r_l4 x1 x2 x8 y7 y7.2.2.2.2.2.2.1 ((List.length y7.2.2.2.2.2.2.1) : Int) (0 : Int)
      else none
theorem r7_exceptionOk.q_l2 (c41 : sl_Contains_int.E) (c79 : r7_Strings.E) (c34 : r7_Obj.E) (c10 : r7_Exception.E) (n_l2 : (Int) → (List X_Object) → X_Object → (Bool) → X_Object → (List X_Value) → (Int) → (Int) → Option (Bool)) (r_l4 : (Int) → (List X_Object) → X_Object → X_Object → (List X_Value) → (Int) → (Int) → Option (Bool)) (x1 : Int) (x2 : List X_Object) (x5 : X_Object) (x7 : Bool) (x8 : X_Object) (x91 : List X_Value) (x92 : Int) (x93 : Int) : r7_exceptionOk.b_l2 c41 c79 c34 c10 n_l2 r_l4 x1 x2 x5 x7 x8 x91 x92 x93 = r7_exceptionOk.c_l2 c41 c79 c34 c10 n_l2 r_l4 x1 x2 x5 x7 x8 x91 x92 x93 := by
  simp only [r7_exceptionOk.b_l2, r7_exceptionOk.c_l2, List.take_length, take_one, Nat.zero_add, Int.toNat_natCast, Int.toNat_zero, List.drop_zero, List.append_eq, Nat.le_refl, Int.le_refl, true_and, and_true, zero_le_one, if_true, prod_eta, Int.natCast_zero]
def r7_exceptionOk.c_l4 (c41 : sl_Contains_int.E) (c79 : r7_Strings.E) (c34 : r7_Obj.E) (c10 : r7_Exception.E) (n_l4 : (Int) → (List X_Object) → X_Object → X_Object → (List X_Value) → (Int) → (Int) → Option (Bool)) (x1 : Int) (x2 : List X_Object) (x8 : X_Object) (x15 : X_Object) (x135 : List X_Value) (x136 : Int) (x137 : Int) : Option (Bool) :=
  bif (decide (x137 < x136)) then
    if 0 ≤ x137 ∧ x137 < ((List.length x135) : Int) then
      (c10 (x2, (List.getD x135 (Int.toNat x137) Z_Value))).bind fun y8 =>
        bif !y8 then
          some false
        else
          bif (decide ((((((List.getD x135 (Int.toNat x137) Z_Value).2).2).2).2) ≥ x1)) then
            some false
          else
            n_l4 x1 x2 x8 x15 x135 x136 (IntKind.i64.wrap (x137 + (1 : Int)))
    else none
  else
    bif (x15.1 == (1 : Int)) then
      bif (decide (((List.length x15.2.2.2.2.2.2.1) : Int) > (0 : Int))) then
        some (decide (((List.length x8.2.2.2.2.2.2.1) : Int) > (0 : Int)))
      else
        some false
    else
      some false
theorem r7_exceptionOk.q_l4 (c41 : sl_Contains_int.E) (c79 : r7_Strings.E) (c34 : r7_Obj.E) (c10 : r7_Exception.E) (n_l4 : (Int) → (List X_Object) → X_Object → X_Object → (List X_Value) → (Int) → (Int) → Option (Bool)) (x1 : Int) (x2 : List X_Object) (x8 : X_Object) (x15 : X_Object) (x135 : List X_Value) (x136 : Int) (x137 : Int) : r7_exceptionOk.b_l4 c41 c79 c34 c10 n_l4 x1 x2 x8 x15 x135 x136 x137 = r7_exceptionOk.c_l4 c41 c79 c34 c10 n_l4 x1 x2 x8 x15 x135 x136 x137 := by
  simp only [r7_exceptionOk.b_l4, r7_exceptionOk.c_l4, List.take_length, take_one, Nat.zero_add, Int.toNat_natCast, Int.toNat_zero, List.drop_zero, List.append_eq, Nat.le_refl, Int.le_refl, true_and, and_true, zero_le_one, if_true, prod_eta, Int.natCast_zero]
def r7_exceptionOk.l4 (c41 : sl_Contains_int.E) (c79 : r7_Strings.E) (c34 : r7_Obj.E) (c10 : r7_Exception.E) (k : Nat)  : Nat → (Int) → (List X_Object) → X_Object → X_Object → (List X_Value) → (Int) → (Int) → Option (Bool)
  | 0, _, _, _, _, _, _, _ => none
  | n + 1, x1, x2, x8, x15, x135, x136, x137 => r7_exceptionOk.b_l4 c41 c79 c34 c10 (fun x1 x2 x8 x15 x135 x136 x137 => r7_exceptionOk.l4 c41 c79 c34 c10 k  n x1 x2 x8 x15 x135 x136 x137) x1 x2 x8 x15 x135 x136 x137
def r7_exceptionOk.l2 (c41 : sl_Contains_int.E) (c79 : r7_Strings.E) (c34 : r7_Obj.E) (c10 : r7_Exception.E) (k : Nat)  : Nat → (Int) → (List X_Object) → X_Object → (Bool) → X_Object → (List X_Value) → (Int) → (Int) → Option (Bool)
  | 0, _, _, _, _, _, _, _, _ => none
  | n + 1, x1, x2, x5, x7, x8, x91, x92, x93 => r7_exceptionOk.b_l2 c41 c79 c34 c10 (fun x1 x2 x5 x7 x8 x91 x92 x93 => r7_exceptionOk.l2 c41 c79 c34 c10 k  n x1 x2 x5 x7 x8 x91 x92 x93) (r7_exceptionOk.l4 c41 c79 c34 c10 k  k) x1 x2 x5 x7 x8 x91 x92 x93
def r7_exceptionOk.l0 (c41 : sl_Contains_int.E) (c79 : r7_Strings.E) (c34 : r7_Obj.E) (c10 : r7_Exception.E) (k : Nat)  : Nat → (Int) → (List X_Object) → X_Object → (Bool) → X_Object → X_Object → (List X_Value) → (Int) → (Int) → Option (Bool)
  | 0, _, _, _, _, _, _, _, _, _ => none
  | n + 1, x1, x2, x5, x7, x8, x9, x66, x67, x68 => r7_exceptionOk.b_l0 c41 c79 c34 c10 (fun x1 x2 x5 x7 x8 x9 x66 x67 x68 => r7_exceptionOk.l0 c41 c79 c34 c10 k  n x1 x2 x5 x7 x8 x9 x66 x67 x68) (r7_exceptionOk.l2 c41 c79 c34 c10 k  k) x1 x2 x5 x7 x8 x9 x66 x67 x68
def r7_exceptionOk.g6 (c41 : sl_Contains_int.E) (c79 : r7_Strings.E) (c34 : r7_Obj.E) (c10 : r7_Exception.E) (k : Nat)  (x1 : Int) (x2 : List X_Object) (x5 : X_Object) (x6 : List (List UInt8)) (x7 : Bool) : Option (Bool) := gate k (r7_exceptionOk.b_g6 c41 c79 c34 c10 (r7_exceptionOk.l0 c41 c79 c34 c10 k  k) x1 x2 x5 x6 x7)
def r7_exceptionOk.f (c41 : sl_Contains_int.E) (c79 : r7_Strings.E) (c34 : r7_Obj.E) (c10 : r7_Exception.E) (k : Nat) (a0 : List X_Object) (a1 : Int) : Option (Bool) := r7_exceptionOk.b c41 c79 c34 c10 (r7_exceptionOk.g6 c41 c79 c34 c10 k) a0 a1
noncomputable def r7_exceptionOk.M_g6 (c41 : sl_Contains_int.E) (c79 : r7_Strings.E) (c34 : r7_Obj.E) (c10 : r7_Exception.E) (k : Nat)  (s : St) : Option (Bool) := atGate (r7_exceptionOk.C c41 c79 c34 c10) k [1, 1, 1, 1, 1, 0, 0] [] r7_exceptionOk.code (r7_exceptionOk.fin c41 c79 c34 c10) s
noncomputable def r7_exceptionOk.fr_g6 (x1 : Int) (x2 : List X_Object) (x5 : X_Object) (x6 : List (List UInt8)) (x7 : Bool) : St := ⟨((((((List.replicate 167 V.un).set 1 (V.dat (.int .i64) x1)).set 2 (V.bp 600002 0 [])).set 5 (V.bp 600005 0 [])).set 6 (V.ref 500006 0 0 (List.length x6))).set 7 (V.dat .bool x7)), [⟨500006, 0, .arr 9 .str x6⟩, ⟨600005, 0, .box (V.dat Y_Object x5)⟩, ⟨600002, 0, .box (V.dat Y_Heap x2)⟩]⟩
noncomputable def r7_exceptionOk.M_l0 (c41 : sl_Contains_int.E) (c79 : r7_Strings.E) (c34 : r7_Obj.E) (c10 : r7_Exception.E) (k n : Nat)  (s : St) : Option (Bool) := atLoop (r7_exceptionOk.C c41 c79 c34 c10) k n [1, 1, 1, 1, 1, 1, 1, 0, 1, 0] [] r7_exceptionOk.code (r7_exceptionOk.fin c41 c79 c34 c10) s
noncomputable def r7_exceptionOk.fr_l0 (x1 : Int) (x2 : List X_Object) (x5 : X_Object) (x7 : Bool) (x8 : X_Object) (x9 : X_Object) (x66 : List X_Value) (x67 : Int) (x68 : Int) : St := ⟨((((((((((List.replicate 167 V.un).set 1 (V.dat (.int .i64) x1)).set 2 (V.bp 600002 0 [])).set 5 (V.bp 600005 0 [])).set 7 (V.dat .bool x7)).set 8 (V.bp 600008 0 [])).set 9 (V.bp 600009 0 [])).set 66 (V.dat (.sl 29 Y_Value) x66)).set 67 (V.dat (.int .i64) x67)).set 68 (V.dat (.int .i64) x68)), [⟨600009, 0, .box (V.dat Y_Object x9)⟩, ⟨600008, 0, .box (V.dat Y_Object x8)⟩, ⟨600005, 0, .box (V.dat Y_Object x5)⟩, ⟨600002, 0, .box (V.dat Y_Heap x2)⟩]⟩
noncomputable def r7_exceptionOk.M_l2 (c41 : sl_Contains_int.E) (c79 : r7_Strings.E) (c34 : r7_Obj.E) (c10 : r7_Exception.E) (k n : Nat)  (s : St) : Option (Bool) := atLoop (r7_exceptionOk.C c41 c79 c34 c10) k n [1, 1, 1, 1, 1, 1, 1, 1, 1, 0, 1, 0] [] r7_exceptionOk.code (r7_exceptionOk.fin c41 c79 c34 c10) s
noncomputable def r7_exceptionOk.fr_l2 (x1 : Int) (x2 : List X_Object) (x5 : X_Object) (x7 : Bool) (x8 : X_Object) (x91 : List X_Value) (x92 : Int) (x93 : Int) : St := ⟨(((((((((List.replicate 167 V.un).set 1 (V.dat (.int .i64) x1)).set 2 (V.bp 600002 0 [])).set 5 (V.bp 600005 0 [])).set 7 (V.dat .bool x7)).set 8 (V.bp 600008 0 [])).set 91 (V.dat (.sl 29 Y_Value) x91)).set 92 (V.dat (.int .i64) x92)).set 93 (V.dat (.int .i64) x93)), [⟨600008, 0, .box (V.dat Y_Object x8)⟩, ⟨600005, 0, .box (V.dat Y_Object x5)⟩, ⟨600002, 0, .box (V.dat Y_Heap x2)⟩]⟩
noncomputable def r7_exceptionOk.M_l4 (c41 : sl_Contains_int.E) (c79 : r7_Strings.E) (c34 : r7_Obj.E) (c10 : r7_Exception.E) (k n : Nat)  (s : St) : Option (Bool) := atLoop (r7_exceptionOk.C c41 c79 c34 c10) k n [1, 1, 1, 1, 1, 1, 1, 1, 1, 1, 1, 1, 0, 1, 0] [] r7_exceptionOk.code (r7_exceptionOk.fin c41 c79 c34 c10) s
noncomputable def r7_exceptionOk.fr_l4 (x1 : Int) (x2 : List X_Object) (x8 : X_Object) (x15 : X_Object) (x135 : List X_Value) (x136 : Int) (x137 : Int) : St := ⟨((((((((List.replicate 167 V.un).set 1 (V.dat (.int .i64) x1)).set 2 (V.bp 600002 0 [])).set 8 (V.bp 600008 0 [])).set 15 (V.bp 600015 0 [])).set 135 (V.dat (.sl 29 Y_Value) x135)).set 136 (V.dat (.int .i64) x136)).set 137 (V.dat (.int .i64) x137)), [⟨600015, 0, .box (V.dat Y_Object x15)⟩, ⟨600008, 0, .box (V.dat Y_Object x8)⟩, ⟨600002, 0, .box (V.dat Y_Heap x2)⟩]⟩
theorem r7_exceptionOk.r (c41 : sl_Contains_int.E) (c79 : r7_Strings.E) (c34 : r7_Obj.E) (c10 : r7_Exception.E) (k : Nat) (a0 : List X_Object) (a1 : Int) : fn (r7_exceptionOk.C c41 c79 c34 c10) k Tryz.f95 r7_exceptionOk.A r7_exceptionOk.R (a0, a1) = r7_exceptionOk.b c41 c79 c34 c10 (fun x1 x2 x5 x6 x7 => r7_exceptionOk.M_g6 c41 c79 c34 c10 k   (r7_exceptionOk.fr_g6 x1 x2 x5 x6 x7)) a0 a1 := by kernel_rfl
theorem r7_exceptionOk.r_g6 (c41 : sl_Contains_int.E) (c79 : r7_Strings.E) (c34 : r7_Obj.E) (c10 : r7_Exception.E) (k : Nat)  (x1 : Int) (x2 : List X_Object) (x5 : X_Object) (x6 : List (List UInt8)) (x7 : Bool) : r7_exceptionOk.M_g6 c41 c79 c34 c10 k  (r7_exceptionOk.fr_g6 x1 x2 x5 x6 x7) = gate k (r7_exceptionOk.b_g6 c41 c79 c34 c10 (fun x1 x2 x5 x7 x8 x9 x66 x67 x68 => r7_exceptionOk.M_l0 c41 c79 c34 c10 k k  (r7_exceptionOk.fr_l0 x1 x2 x5 x7 x8 x9 x66 x67 x68)) x1 x2 x5 x6 x7) := by kernel_rfl
theorem r7_exceptionOk.z_l0 (c41 : sl_Contains_int.E) (c79 : r7_Strings.E) (c34 : r7_Obj.E) (c10 : r7_Exception.E) (k : Nat)  (s : St) : r7_exceptionOk.M_l0 c41 c79 c34 c10 k 0  s = none := by kernel_rfl
theorem r7_exceptionOk.r_l0 (c41 : sl_Contains_int.E) (c79 : r7_Strings.E) (c34 : r7_Obj.E) (c10 : r7_Exception.E) (k n : Nat)  (x1 : Int) (x2 : List X_Object) (x5 : X_Object) (x7 : Bool) (x8 : X_Object) (x9 : X_Object) (x66 : List X_Value) (x67 : Int) (x68 : Int) : r7_exceptionOk.M_l0 c41 c79 c34 c10 k (n + 1)  (r7_exceptionOk.fr_l0 x1 x2 x5 x7 x8 x9 x66 x67 x68) = r7_exceptionOk.b_l0 c41 c79 c34 c10 (fun x1 x2 x5 x7 x8 x9 x66 x67 x68 => r7_exceptionOk.M_l0 c41 c79 c34 c10 k n  (r7_exceptionOk.fr_l0 x1 x2 x5 x7 x8 x9 x66 x67 x68)) (fun x1 x2 x5 x7 x8 x91 x92 x93 => r7_exceptionOk.M_l2 c41 c79 c34 c10 k k  (r7_exceptionOk.fr_l2 x1 x2 x5 x7 x8 x91 x92 x93)) x1 x2 x5 x7 x8 x9 x66 x67 x68 := by kernel_rfl
theorem r7_exceptionOk.z_l2 (c41 : sl_Contains_int.E) (c79 : r7_Strings.E) (c34 : r7_Obj.E) (c10 : r7_Exception.E) (k : Nat)  (s : St) : r7_exceptionOk.M_l2 c41 c79 c34 c10 k 0  s = none := by kernel_rfl
theorem r7_exceptionOk.r_l2 (c41 : sl_Contains_int.E) (c79 : r7_Strings.E) (c34 : r7_Obj.E) (c10 : r7_Exception.E) (k n : Nat)  (x1 : Int) (x2 : List X_Object) (x5 : X_Object) (x7 : Bool) (x8 : X_Object) (x91 : List X_Value) (x92 : Int) (x93 : Int) : r7_exceptionOk.M_l2 c41 c79 c34 c10 k (n + 1)  (r7_exceptionOk.fr_l2 x1 x2 x5 x7 x8 x91 x92 x93) = r7_exceptionOk.b_l2 c41 c79 c34 c10 (fun x1 x2 x5 x7 x8 x91 x92 x93 => r7_exceptionOk.M_l2 c41 c79 c34 c10 k n  (r7_exceptionOk.fr_l2 x1 x2 x5 x7 x8 x91 x92 x93)) (fun x1 x2 x8 x15 x135 x136 x137 => r7_exceptionOk.M_l4 c41 c79 c34 c10 k k  (r7_exceptionOk.fr_l4 x1 x2 x8 x15 x135 x136 x137)) x1 x2 x5 x7 x8 x91 x92 x93 := by kernel_rfl
theorem r7_exceptionOk.z_l4 (c41 : sl_Contains_int.E) (c79 : r7_Strings.E) (c34 : r7_Obj.E) (c10 : r7_Exception.E) (k : Nat)  (s : St) : r7_exceptionOk.M_l4 c41 c79 c34 c10 k 0  s = none := by kernel_rfl
theorem r7_exceptionOk.r_l4 (c41 : sl_Contains_int.E) (c79 : r7_Strings.E) (c34 : r7_Obj.E) (c10 : r7_Exception.E) (k n : Nat)  (x1 : Int) (x2 : List X_Object) (x8 : X_Object) (x15 : X_Object) (x135 : List X_Value) (x136 : Int) (x137 : Int) : r7_exceptionOk.M_l4 c41 c79 c34 c10 k (n + 1)  (r7_exceptionOk.fr_l4 x1 x2 x8 x15 x135 x136 x137) = r7_exceptionOk.b_l4 c41 c79 c34 c10 (fun x1 x2 x8 x15 x135 x136 x137 => r7_exceptionOk.M_l4 c41 c79 c34 c10 k n  (r7_exceptionOk.fr_l4 x1 x2 x8 x15 x135 x136 x137)) x1 x2 x8 x15 x135 x136 x137 := by kernel_rfl
theorem r7_exceptionOk.e_l4 (c41 : sl_Contains_int.E) (c79 : r7_Strings.E) (c34 : r7_Obj.E) (c10 : r7_Exception.E) (k n : Nat)  (x1 : Int) (x2 : List X_Object) (x8 : X_Object) (x15 : X_Object) (x135 : List X_Value) (x136 : Int) (x137 : Int) : r7_exceptionOk.M_l4 c41 c79 c34 c10 k n  (r7_exceptionOk.fr_l4 x1 x2 x8 x15 x135 x136 x137) = r7_exceptionOk.l4 c41 c79 c34 c10 k  n x1 x2 x8 x15 x135 x136 x137 := by
  induction n generalizing x1 x2 x8 x15 x135 x136 x137 with
  | zero => rw [r7_exceptionOk.z_l4]; rfl
  | succ n ih =>
    rw [r7_exceptionOk.r_l4]
    simp only [ih]
    rfl
theorem r7_exceptionOk.e_l2 (c41 : sl_Contains_int.E) (c79 : r7_Strings.E) (c34 : r7_Obj.E) (c10 : r7_Exception.E) (k n : Nat)  (x1 : Int) (x2 : List X_Object) (x5 : X_Object) (x7 : Bool) (x8 : X_Object) (x91 : List X_Value) (x92 : Int) (x93 : Int) : r7_exceptionOk.M_l2 c41 c79 c34 c10 k n  (r7_exceptionOk.fr_l2 x1 x2 x5 x7 x8 x91 x92 x93) = r7_exceptionOk.l2 c41 c79 c34 c10 k  n x1 x2 x5 x7 x8 x91 x92 x93 := by
  induction n generalizing x1 x2 x5 x7 x8 x91 x92 x93 with
  | zero => rw [r7_exceptionOk.z_l2]; rfl
  | succ n ih =>
    rw [r7_exceptionOk.r_l2]
    simp only [r7_exceptionOk.e_l4, ih]
    rfl
theorem r7_exceptionOk.e_l0 (c41 : sl_Contains_int.E) (c79 : r7_Strings.E) (c34 : r7_Obj.E) (c10 : r7_Exception.E) (k n : Nat)  (x1 : Int) (x2 : List X_Object) (x5 : X_Object) (x7 : Bool) (x8 : X_Object) (x9 : X_Object) (x66 : List X_Value) (x67 : Int) (x68 : Int) : r7_exceptionOk.M_l0 c41 c79 c34 c10 k n  (r7_exceptionOk.fr_l0 x1 x2 x5 x7 x8 x9 x66 x67 x68) = r7_exceptionOk.l0 c41 c79 c34 c10 k  n x1 x2 x5 x7 x8 x9 x66 x67 x68 := by
  induction n generalizing x1 x2 x5 x7 x8 x9 x66 x67 x68 with
  | zero => rw [r7_exceptionOk.z_l0]; rfl
  | succ n ih =>
    rw [r7_exceptionOk.r_l0]
    simp only [r7_exceptionOk.e_l2, ih]
    rfl
theorem r7_exceptionOk.e_g6 (c41 : sl_Contains_int.E) (c79 : r7_Strings.E) (c34 : r7_Obj.E) (c10 : r7_Exception.E) (k : Nat)  (x1 : Int) (x2 : List X_Object) (x5 : X_Object) (x6 : List (List UInt8)) (x7 : Bool) : r7_exceptionOk.M_g6 c41 c79 c34 c10 k  (r7_exceptionOk.fr_g6 x1 x2 x5 x6 x7) = r7_exceptionOk.g6 c41 c79 c34 c10 k  x1 x2 x5 x6 x7 := by
  rw [r7_exceptionOk.r_g6]
  simp only [r7_exceptionOk.e_l0]
  rfl
theorem r7_exceptionOk.e (c41 : sl_Contains_int.E) (c79 : r7_Strings.E) (c34 : r7_Obj.E) (c10 : r7_Exception.E) (k : Nat) (a0 : List X_Object) (a1 : Int) : fn (r7_exceptionOk.C c41 c79 c34 c10) k Tryz.f95 r7_exceptionOk.A r7_exceptionOk.R (a0, a1) = r7_exceptionOk.f c41 c79 c34 c10 k a0 a1 := by
  rw [r7_exceptionOk.r]
  simp only [r7_exceptionOk.e_g6]
  rfl
theorem r7_exceptionOk.ty (c41 : sl_Contains_int.E) (c79 : r7_Strings.E) (c34 : r7_Obj.E) (c10 : r7_Exception.E) : TyOk Tryz.prog (r7_exceptionOk.C c41 c79 c34 c10) := tyOk_of (by kernel_rfl)
def r7_exceptionOk.u (k : Nat) : r7_exceptionOk.E := fun y => r7_exceptionOk.f (sl_Contains_int.u k) (r7_Strings.u k) (r7_Obj.u k) (r7_Exception.u k) k y.1 y.2
theorem r7_exceptionOk.sound (k : Nat) : Sound Tryz.prog ⟨95, r7_exceptionOk.A, r7_exceptionOk.R, r7_exceptionOk.u k⟩ := by
  have h := fn_sound (k := k) («as» := r7_exceptionOk.A) (rs := r7_exceptionOk.R) (r7_exceptionOk.ty (sl_Contains_int.u k) (r7_Strings.u k) (r7_Obj.u k) (r7_Exception.u k)) (fun E h => by
    simp only [r7_exceptionOk.C, List.mem_cons, List.not_mem_nil, or_false] at h
    rcases h with rfl | rfl | rfl | rfl
    · exact sl_Contains_int.sound k
    · exact r7_Strings.sound k
    · exact r7_Obj.sound k
    · exact r7_Exception.sound k) mixed Tryz.func95 (by kernel_rfl) (by kernel_rfl)
  have e : fn (r7_exceptionOk.C (sl_Contains_int.u k) (r7_Strings.u k) (r7_Obj.u k) (r7_Exception.u k)) k Tryz.f95 r7_exceptionOk.A r7_exceptionOk.R = r7_exceptionOk.u k := by
    funext y
    exact r7_exceptionOk.e (sl_Contains_int.u k) (r7_Strings.u k) (r7_Obj.u k) (r7_Exception.u k) k y.1 y.2
  rw [e] at h
  exact h
/-! ### brindlewood/brindlewoodref7.links: f69 -/
abbrev r7_links.A : List Sh := [(.d Y_Heap), (.d (.int .i64))]
abbrev r7_links.R : List Sh := [(.d .bool)]
abbrev r7_links.E : Type := ((List X_Object) × (Int)) → Option (Bool)
def r7_links.C (c91 : r7_RangeOk.E) (c92 : r7_callable.E) (c93 : r7_isClass.E) (c94 : r7_Open.E) (c41 : sl_Contains_int.E) (c95 : r7_exceptionOk.E) (c34 : r7_Obj.E) (c7 : r7_IsObject.E) : Ctx := { ty := [(3, (.int .i64)), (4, .bool), (22, (.sl 36 Y_Object)), (24, Y_Heap), (27, Y_Int), (29, Y_Value), (32, (.sl 3 (.int .i64))), (34, (.sl 29 Y_Value)), (36, Y_Object)], nf := [(24, 1), (27, 2), (29, 5), (36, 10)], by_ := [(3, 8), (29, 96), (36, 168)], env := [⟨91, r7_RangeOk.A, r7_RangeOk.R, c91⟩, ⟨92, r7_callable.A, r7_callable.R, c92⟩, ⟨93, r7_isClass.A, r7_isClass.R, c93⟩, ⟨94, r7_Open.A, r7_Open.R, c94⟩, ⟨41, sl_Contains_int.A, sl_Contains_int.R, c41⟩, ⟨95, r7_exceptionOk.A, r7_exceptionOk.R, c95⟩, ⟨34, r7_Obj.A, r7_Obj.R, c34⟩, ⟨7, r7_IsObject.A, r7_IsObject.R, c7⟩], spec := [(1, [.bx 2 600002 (.d Y_Heap), .bx 5 600005 (.d Y_Object), .d 30 (.sl 3 (.int .i64)), .d 31 (.int .i64), .d 32 (.int .i64)]), (100015, [.bx 2 600002 (.d Y_Heap), .bx 5 600005 (.d Y_Object)]), (3, [.d 1 (.int .i64), .bx 2 600002 (.d Y_Heap), .bx 5 600005 (.d Y_Object), .d 64 (.sl 3 (.int .i64)), .d 65 (.int .i64), .d 66 (.int .i64)]), (100025, [.d 1 (.int .i64), .bx 2 600002 (.d Y_Heap), .bx 5 600005 (.d Y_Object)]), (100027, [.bx 2 600002 (.d Y_Heap), .bx 5 600005 (.d Y_Object)]), (100035, [.bx 2 600002 (.d Y_Heap), .bx 10 600010 (.d Y_Value), .d 12 (.int .i64)]), (100037, [.bx 2 600002 (.d Y_Heap), .bx 5 600005 (.d Y_Object)]), (100042, [.bx 5 600005 (.d Y_Object)]), (100044, [.bx 5 600005 (.d Y_Object)]), (100039, [.bx 5 600005 (.d Y_Object), .bx 14 600014 (.d Y_Object)]), (100047, [.bx 2 600002 (.d Y_Heap), .bx 5 600005 (.d Y_Object)]), (100050, [.bx 2 600002 (.d Y_Heap), .bx 5 600005 (.d Y_Object)]), (100052, [.bx 5 600005 (.d Y_Object)])] }
noncomputable def r7_links.code : Code := Func.code Tryz.f69
noncomputable def r7_links.fin (c91 : r7_RangeOk.E) (c92 : r7_callable.E) (c93 : r7_isClass.E) (c94 : r7_Open.E) (c41 : sl_Contains_int.E) (c95 : r7_exceptionOk.E) (c34 : r7_Obj.E) (c7 : r7_IsObject.E) := kfin (r7_links.C c91 c92 c93 c94 c41 c95 c34 c7) Tryz.f69 r7_links.A r7_links.R
def r7_links.b (c91 : r7_RangeOk.E) (c92 : r7_callable.E) (c93 : r7_isClass.E) (c94 : r7_Open.E) (c41 : sl_Contains_int.E) (c95 : r7_exceptionOk.E) (c34 : r7_Obj.E) (c7 : r7_IsObject.E) (r_l1 : (List X_Object) → X_Object → (List (Int)) → (Int) → (Int) → Option (Bool)) (r_g15 : (List X_Object) → X_Object → Option (Bool)) (r_l3 : (Int) → (List X_Object) → X_Object → (List (Int)) → (Int) → (Int) → Option (Bool)) (r_g25 : (Int) → (List X_Object) → X_Object → Option (Bool)) (r_g27 : (List X_Object) → X_Object → Option (Bool)) (r_g37 : (List X_Object) → X_Object → Option (Bool)) (r_g47 : (List X_Object) → X_Object → Option (Bool)) (r_g50 : (List X_Object) → X_Object → Option (Bool)) (r_g52 : X_Object → Option (Bool)) (a0 : List X_Object) (a1 : Int) : Option (Bool) :=
  if 0 ≤ a1 ∧ a1 < ((List.length a0) : Int) then
    bif (((List.getD a0 (Int.toNat a1) Z_Object).1) == (5 : Int)) then
      (c91 (List.getD a0 (Int.toNat a1) Z_Object)).bind fun y1 =>
        some y1
    else
      bif (((List.getD a0 (Int.toNat a1) Z_Object).1) == (7 : Int)) then
        r_l1 a0 (List.getD a0 (Int.toNat a1) Z_Object) (((((List.getD a0 (Int.toNat a1) Z_Object).2).2).2).1) ((List.length (((((List.getD a0 (Int.toNat a1) Z_Object).2).2).2).1)) : Int) (0 : Int)
      else
        bif (((List.getD a0 (Int.toNat a1) Z_Object).1) == (8 : Int)) then
          bif (((List.getD a0 (Int.toNat a1) Z_Object).1) == (8 : Int)) then
            r_g15 a0 (List.getD a0 (Int.toNat a1) Z_Object)
          else
            bif (((List.getD a0 (Int.toNat a1) Z_Object).1) == (9 : Int)) then
              r_l3 a1 a0 (List.getD a0 (Int.toNat a1) Z_Object) (((((List.getD a0 (Int.toNat a1) Z_Object).2).2).2).1) ((List.length (((((List.getD a0 (Int.toNat a1) Z_Object).2).2).2).1)) : Int) (0 : Int)
            else
              bif (((List.getD a0 (Int.toNat a1) Z_Object).1) == (10 : Int)) then
                r_g25 a1 a0 (List.getD a0 (Int.toNat a1) Z_Object)
              else
                bif (((List.getD a0 (Int.toNat a1) Z_Object).1) == (15 : Int)) then
                  r_g27 a0 (List.getD a0 (Int.toNat a1) Z_Object)
                else
                  bif (((List.getD a0 (Int.toNat a1) Z_Object).1) == (16 : Int)) then
                    r_g37 a0 (List.getD a0 (Int.toNat a1) Z_Object)
                  else
                    bif (((List.getD a0 (Int.toNat a1) Z_Object).1) == (18 : Int)) then
                      bif (decide (((((((((((List.getD a0 (Int.toNat a1) Z_Object).2).2).2).2).2).2).2).2).2) > (0 : Int))) then
                        r_g47 a0 (List.getD a0 (Int.toNat a1) Z_Object)
                      else
                        some true
                    else
                      bif (((List.getD a0 (Int.toNat a1) Z_Object).1) == (19 : Int)) then
                        r_g50 a0 (List.getD a0 (Int.toNat a1) Z_Object)
                      else
                        bif (((List.getD a0 (Int.toNat a1) Z_Object).1) == (20 : Int)) then
                          r_g52 (List.getD a0 (Int.toNat a1) Z_Object)
                        else
                          some true
        else
          bif (((List.getD a0 (Int.toNat a1) Z_Object).1) == (14 : Int)) then
            r_g15 a0 (List.getD a0 (Int.toNat a1) Z_Object)
          else
            bif (((List.getD a0 (Int.toNat a1) Z_Object).1) == (9 : Int)) then
              r_l3 a1 a0 (List.getD a0 (Int.toNat a1) Z_Object) (((((List.getD a0 (Int.toNat a1) Z_Object).2).2).2).1) ((List.length (((((List.getD a0 (Int.toNat a1) Z_Object).2).2).2).1)) : Int) (0 : Int)
            else
              bif (((List.getD a0 (Int.toNat a1) Z_Object).1) == (10 : Int)) then
                r_g25 a1 a0 (List.getD a0 (Int.toNat a1) Z_Object)
              else
                bif (((List.getD a0 (Int.toNat a1) Z_Object).1) == (15 : Int)) then
                  r_g27 a0 (List.getD a0 (Int.toNat a1) Z_Object)
                else
                  bif (((List.getD a0 (Int.toNat a1) Z_Object).1) == (16 : Int)) then
                    r_g37 a0 (List.getD a0 (Int.toNat a1) Z_Object)
                  else
                    bif (((List.getD a0 (Int.toNat a1) Z_Object).1) == (18 : Int)) then
                      bif (decide (((((((((((List.getD a0 (Int.toNat a1) Z_Object).2).2).2).2).2).2).2).2).2) > (0 : Int))) then
                        r_g47 a0 (List.getD a0 (Int.toNat a1) Z_Object)
                      else
                        some true
                    else
                      bif (((List.getD a0 (Int.toNat a1) Z_Object).1) == (19 : Int)) then
                        r_g50 a0 (List.getD a0 (Int.toNat a1) Z_Object)
                      else
                        bif (((List.getD a0 (Int.toNat a1) Z_Object).1) == (20 : Int)) then
                          r_g52 (List.getD a0 (Int.toNat a1) Z_Object)
                        else
                          some true
  else none
def r7_links.b_l1 (c91 : r7_RangeOk.E) (c92 : r7_callable.E) (c93 : r7_isClass.E) (c94 : r7_Open.E) (c41 : sl_Contains_int.E) (c95 : r7_exceptionOk.E) (c34 : r7_Obj.E) (c7 : r7_IsObject.E) (n_l1 : (List X_Object) → X_Object → (List (Int)) → (Int) → (Int) → Option (Bool)) (x2 : List X_Object) (x5 : X_Object) (x30 : List (Int)) (x31 : Int) (x32 : Int) : Option (Bool) :=
  bif (decide (x32 < x31)) then
    if 0 ≤ x32 ∧ x32 < ((List.length x30) : Int) then
      if 0 ≤ (List.getD x30 (Int.toNat x32) (0 : Int)) ∧ (List.getD x30 (Int.toNat x32) (0 : Int)) < ((List.length x2) : Int) then
        bif (((List.getD x2 (Int.toNat (List.getD x30 (Int.toNat x32) (0 : Int))) Z_Object).1) != (6 : Int)) then
          some false
        else
          n_l1 x2 x5 x30 x31 (IntKind.i64.wrap (x32 + (1 : Int)))
      else none
    else none
  else
    if 0 ≤ x5.2.2.1 ∧ x5.2.2.1 < ((List.length x2) : Int) then
      some (((List.getD x2 (Int.toNat x5.2.2.1) Z_Object).1) == (11 : Int))
    else none
def r7_links.b_g15 (c91 : r7_RangeOk.E) (c92 : r7_callable.E) (c93 : r7_isClass.E) (c94 : r7_Open.E) (c41 : sl_Contains_int.E) (c95 : r7_exceptionOk.E) (c34 : r7_Obj.E) (c7 : r7_IsObject.E)  (x2 : List X_Object) (x5 : X_Object) : Option (Bool) :=
  if 0 ≤ (0 : Int) ∧ (0 : Int) < ((List.length x5.2.2.2.2.2.2.1) : Int) then
    (c92 (x2, (List.getD x5.2.2.2.2.2.2.1 (Int.toNat (0 : Int)) Z_Value))).bind fun y2 =>
      some y2
  else none
def r7_links.b_l3 (c91 : r7_RangeOk.E) (c92 : r7_callable.E) (c93 : r7_isClass.E) (c94 : r7_Open.E) (c41 : sl_Contains_int.E) (c95 : r7_exceptionOk.E) (c34 : r7_Obj.E) (c7 : r7_IsObject.E) (n_l3 : (Int) → (List X_Object) → X_Object → (List (Int)) → (Int) → (Int) → Option (Bool)) (x1 : Int) (x2 : List X_Object) (x5 : X_Object) (x64 : List (Int)) (x65 : Int) (x66 : Int) : Option (Bool) :=
  bif (decide (x66 < x65)) then
    if 0 ≤ x66 ∧ x66 < ((List.length x64) : Int) then
      bif (decide ((List.getD x64 (Int.toNat x66) (0 : Int)) ≥ x1)) then
        some false
      else
        (c93 (x2, (List.getD x64 (Int.toNat x66) (0 : Int)))).bind fun y3 =>
          bif (!y3) then
            some false
          else
            (c94 (List.getD x64 (Int.toNat x66) (0 : Int))).bind fun y4 =>
              bif (!y4) then
                some false
              else
                n_l3 x1 x2 x5 x64 x65 (IntKind.i64.wrap (x66 + (1 : Int)))
    else none
  else
    bif (decide (((List.length x5.2.2.2.1) : Int) ≥ (1 : Int))) then
      some (decide (((List.length x5.2.2.2.1) : Int) ≤ (8 : Int)))
    else
      some false
def r7_links.b_g25 (c91 : r7_RangeOk.E) (c92 : r7_callable.E) (c93 : r7_isClass.E) (c94 : r7_Open.E) (c41 : sl_Contains_int.E) (c95 : r7_exceptionOk.E) (c34 : r7_Obj.E) (c7 : r7_IsObject.E)  (x1 : Int) (x2 : List X_Object) (x5 : X_Object) : Option (Bool) :=
  (c93 (x2, x5.2.2.1)).bind fun y5 =>
    bif y5 then
      (c94 x5.2.2.1).bind fun y6 =>
        bif y6 then
          if 0 ≤ x5.2.2.1 ∧ x5.2.2.1 < ((List.length x2) : Int) then
            (c41 ((((((List.getD x2 (Int.toNat x5.2.2.1) Z_Object).2).2).2).2).1, (28 : Int))).bind fun y7 =>
              bif (!y7) then
                some true
              else
                (c95 (x2, x1)).bind fun y8 =>
                  some y8
          else none
        else
          some false
    else
      some false
def r7_links.b_g27 (c91 : r7_RangeOk.E) (c92 : r7_callable.E) (c93 : r7_isClass.E) (c94 : r7_Open.E) (c41 : sl_Contains_int.E) (c95 : r7_exceptionOk.E) (c34 : r7_Obj.E) (c7 : r7_IsObject.E) (r_g35 : (List X_Object) → X_Value → (Int) → Option (Bool)) (x2 : List X_Object) (x5 : X_Object) : Option (Bool) :=
  if 0 ≤ (0 : Int) ∧ (0 : Int) < ((List.length x5.2.2.2.2.2.2.1) : Int) then
    if 0 ≤ (1 : Int) ∧ (1 : Int) < ((List.length x5.2.2.2.2.2.2.1) : Int) then
      (c34 (x2, (List.getD x5.2.2.2.2.2.2.1 (Int.toNat (1 : Int)) Z_Value))).bind fun y9 =>
        bif (y9.1 == (10 : Int)) then
          r_g35 x2 (List.getD x5.2.2.2.2.2.2.1 (Int.toNat (0 : Int)) Z_Value) y9.2.2.1
        else
          bif (y9.1 == (9 : Int)) then
            r_g35 x2 (List.getD x5.2.2.2.2.2.2.1 (Int.toNat (0 : Int)) Z_Value) (((((List.getD x5.2.2.2.2.2.2.1 (Int.toNat (1 : Int)) Z_Value).2).2).2).2)
          else
            some false
    else none
  else none
def r7_links.b_g35 (c91 : r7_RangeOk.E) (c92 : r7_callable.E) (c93 : r7_isClass.E) (c94 : r7_Open.E) (c41 : sl_Contains_int.E) (c95 : r7_exceptionOk.E) (c34 : r7_Obj.E) (c7 : r7_IsObject.E)  (x2 : List X_Object) (x10 : X_Value) (x12 : Int) : Option (Bool) :=
  (c34 (x2, x10)).bind fun y10 =>
    bif (y10.1 == (9 : Int)) then
      (c7 (x2, x12)).bind fun y11 =>
        bif y11 then
          if 0 ≤ x12 ∧ x12 < ((List.length x2) : Int) then
            (c41 ((((((List.getD x2 (Int.toNat x12) Z_Object).2).2).2).2).1, x10.2.2.2.2)).bind fun y12 =>
              some y12
          else none
        else
          some false
    else
      some false
def r7_links.b_g37 (c91 : r7_RangeOk.E) (c92 : r7_callable.E) (c93 : r7_isClass.E) (c94 : r7_Open.E) (c41 : sl_Contains_int.E) (c95 : r7_exceptionOk.E) (c34 : r7_Obj.E) (c7 : r7_IsObject.E) (r_g42 : X_Object → Option (Bool)) (r_g44 : X_Object → Option (Bool)) (r_g39 : X_Object → X_Object → Option (Bool)) (x2 : List X_Object) (x5 : X_Object) : Option (Bool) :=
  if 0 ≤ (0 : Int) ∧ (0 : Int) < ((List.length x5.2.2.2.2.2.2.1) : Int) then
    (c34 (x2, (List.getD x5.2.2.2.2.2.2.1 (Int.toNat (0 : Int)) Z_Value))).bind fun y13 =>
      bif (y13.1 == (3 : Int)) then
        bif (y13.1 == (3 : Int)) then
          r_g42 x5
        else
          bif (y13.1 == (0 : Int)) then
            r_g44 x5
          else
            r_g39 x5 y13
      else
        bif (y13.1 == (4 : Int)) then
          r_g42 x5
        else
          bif (y13.1 == (0 : Int)) then
            r_g44 x5
          else
            r_g39 x5 y13
  else none
def r7_links.b_g42 (c91 : r7_RangeOk.E) (c92 : r7_callable.E) (c93 : r7_isClass.E) (c94 : r7_Open.E) (c41 : sl_Contains_int.E) (c95 : r7_exceptionOk.E) (c34 : r7_Obj.E) (c7 : r7_IsObject.E)  (x5 : X_Object) : Option (Bool) :=
  if 0 ≤ (1 : Int) ∧ (1 : Int) < ((List.length x5.2.2.2.2.2.2.1) : Int) then
    bif (((List.getD x5.2.2.2.2.2.2.1 (Int.toNat (1 : Int)) Z_Value).1) == (2 : Int)) then
      if 0 ≤ (1 : Int) ∧ (1 : Int) < ((List.length x5.2.2.2.2.2.2.1) : Int) then
        some (!((((List.getD x5.2.2.2.2.2.2.1 (Int.toNat (1 : Int)) Z_Value).2).1).1))
      else none
    else
      some false
  else none
def r7_links.b_g44 (c91 : r7_RangeOk.E) (c92 : r7_callable.E) (c93 : r7_isClass.E) (c94 : r7_Open.E) (c41 : sl_Contains_int.E) (c95 : r7_exceptionOk.E) (c34 : r7_Obj.E) (c7 : r7_IsObject.E)  (x5 : X_Object) : Option (Bool) :=
  if 0 ≤ (0 : Int) ∧ (0 : Int) < ((List.length x5.2.2.2.2.2.2.1) : Int) then
    bif (((List.getD x5.2.2.2.2.2.2.1 (Int.toNat (0 : Int)) Z_Value).1) == (4 : Int)) then
      if 0 ≤ (1 : Int) ∧ (1 : Int) < ((List.length x5.2.2.2.2.2.2.1) : Int) then
        some (((List.getD x5.2.2.2.2.2.2.1 (Int.toNat (1 : Int)) Z_Value).1) == (0 : Int))
      else none
    else
      if 0 ≤ (0 : Int) ∧ (0 : Int) < ((List.length x5.2.2.2.2.2.2.1) : Int) then
        bif (((List.getD x5.2.2.2.2.2.2.1 (Int.toNat (0 : Int)) Z_Value).1) == (5 : Int)) then
          if 0 ≤ (1 : Int) ∧ (1 : Int) < ((List.length x5.2.2.2.2.2.2.1) : Int) then
            some (((List.getD x5.2.2.2.2.2.2.1 (Int.toNat (1 : Int)) Z_Value).1) == (0 : Int))
          else none
        else
          some false
      else none
  else none
def r7_links.b_g39 (c91 : r7_RangeOk.E) (c92 : r7_callable.E) (c93 : r7_isClass.E) (c94 : r7_Open.E) (c41 : sl_Contains_int.E) (c95 : r7_exceptionOk.E) (c34 : r7_Obj.E) (c7 : r7_IsObject.E)  (x5 : X_Object) (x14 : X_Object) : Option (Bool) :=
  bif (x14.1 == (1 : Int)) then
    if 0 ≤ (1 : Int) ∧ (1 : Int) < ((List.length x5.2.2.2.2.2.2.1) : Int) then
      some (((List.getD x5.2.2.2.2.2.2.1 (Int.toNat (1 : Int)) Z_Value).1) == (0 : Int))
    else none
  else
    bif (x14.1 == (2 : Int)) then
      if 0 ≤ (1 : Int) ∧ (1 : Int) < ((List.length x5.2.2.2.2.2.2.1) : Int) then
        some (((List.getD x5.2.2.2.2.2.2.1 (Int.toNat (1 : Int)) Z_Value).1) == (0 : Int))
      else none
    else
      bif (x14.1 == (5 : Int)) then
        if 0 ≤ (1 : Int) ∧ (1 : Int) < ((List.length x5.2.2.2.2.2.2.1) : Int) then
          some (((List.getD x5.2.2.2.2.2.2.1 (Int.toNat (1 : Int)) Z_Value).1) == (0 : Int))
        else none
      else
        some false
def r7_links.b_g47 (c91 : r7_RangeOk.E) (c92 : r7_callable.E) (c93 : r7_isClass.E) (c94 : r7_Open.E) (c41 : sl_Contains_int.E) (c95 : r7_exceptionOk.E) (c34 : r7_Obj.E) (c7 : r7_IsObject.E)  (x2 : List X_Object) (x5 : X_Object) : Option (Bool) :=
  if 0 ≤ (IntKind.i64.wrap (x5.2.2.2.2.2.2.2.2.2 - (1 : Int))) ∧ (IntKind.i64.wrap (x5.2.2.2.2.2.2.2.2.2 - (1 : Int))) < ((List.length x2) : Int) then
    bif (((List.getD x2 (Int.toNat (IntKind.i64.wrap (x5.2.2.2.2.2.2.2.2.2 - (1 : Int)))) Z_Object).1) == (10 : Int)) then
      some (decide (((((List.getD x2 (Int.toNat (IntKind.i64.wrap (x5.2.2.2.2.2.2.2.2.2 - (1 : Int)))) Z_Object).2).2).1) ≥ (49 : Int)))
    else
      some false
  else none
def r7_links.b_g50 (c91 : r7_RangeOk.E) (c92 : r7_callable.E) (c93 : r7_isClass.E) (c94 : r7_Open.E) (c41 : sl_Contains_int.E) (c95 : r7_exceptionOk.E) (c34 : r7_Obj.E) (c7 : r7_IsObject.E)  (x2 : List X_Object) (x5 : X_Object) : Option (Bool) :=
  if 0 ≤ (0 : Int) ∧ (0 : Int) < ((List.length x5.2.2.2.2.2.2.1) : Int) then
    (c34 (x2, (List.getD x5.2.2.2.2.2.2.1 (Int.toNat (0 : Int)) Z_Value))).bind fun y14 =>
      some (y14.1 == (17 : Int))
  else none
def r7_links.b_g52 (c91 : r7_RangeOk.E) (c92 : r7_callable.E) (c93 : r7_isClass.E) (c94 : r7_Open.E) (c41 : sl_Contains_int.E) (c95 : r7_exceptionOk.E) (c34 : r7_Obj.E) (c7 : r7_IsObject.E)  (x5 : X_Object) : Option (Bool) :=
  if 0 ≤ (0 : Int) ∧ (0 : Int) < ((List.length x5.2.2.2.2.2.2.1) : Int) then
    bif (((List.getD x5.2.2.2.2.2.2.1 (Int.toNat (0 : Int)) Z_Value).1) == (2 : Int)) then
      if 0 ≤ (0 : Int) ∧ (0 : Int) < ((List.length x5.2.2.2.2.2.2.1) : Int) then
        some (!((((List.getD x5.2.2.2.2.2.2.1 (Int.toNat (0 : Int)) Z_Value).2).1).1))
      else none
    else
      some false
  else none
def r7_links.c (c91 : r7_RangeOk.E) (c92 : r7_callable.E) (c93 : r7_isClass.E) (c94 : r7_Open.E) (c41 : sl_Contains_int.E) (c95 : r7_exceptionOk.E) (c34 : r7_Obj.E) (c7 : r7_IsObject.E) (r_l1 : (List X_Object) → X_Object → (List (Int)) → (Int) → (Int) → Option (Bool)) (r_g15 : (List X_Object) → X_Object → Option (Bool)) (r_l3 : (Int) → (List X_Object) → X_Object → (List (Int)) → (Int) → (Int) → Option (Bool)) (r_g25 : (Int) → (List X_Object) → X_Object → Option (Bool)) (r_g27 : (List X_Object) → X_Object → Option (Bool)) (r_g37 : (List X_Object) → X_Object → Option (Bool)) (r_g47 : (List X_Object) → X_Object → Option (Bool)) (r_g50 : (List X_Object) → X_Object → Option (Bool)) (r_g52 : X_Object → Option (Bool)) (a0 : List X_Object) (a1 : Int) : Option (Bool) :=
  if 0 ≤ a1 ∧ a1 < ((List.length a0) : Int) then
    bif (((List.getD a0 (Int.toNat a1) Z_Object).1) == (5 : Int)) then
      (c91 (List.getD a0 (Int.toNat a1) Z_Object)).bind fun y1 =>
        some y1
    else
      bif (((List.getD a0 (Int.toNat a1) Z_Object).1) == (7 : Int)) then
        r_l1 a0 (List.getD a0 (Int.toNat a1) Z_Object) (((((List.getD a0 (Int.toNat a1) Z_Object).2).2).2).1) ((List.length (((((List.getD a0 (Int.toNat a1) Z_Object).2).2).2).1)) : Int) (0 : Int)
      else
        bif (((List.getD a0 (Int.toNat a1) Z_Object).1) == (8 : Int)) then
          bif (((List.getD a0 (Int.toNat a1) Z_Object).1) == (8 : Int)) then
            r_g15 a0 (List.getD a0 (Int.toNat a1) Z_Object)
          else
            bif (((List.getD a0 (Int.toNat a1) Z_Object).1) == (9 : Int)) then
              r_l3 a1 a0 (List.getD a0 (Int.toNat a1) Z_Object) (((((List.getD a0 (Int.toNat a1) Z_Object).2).2).2).1) ((List.length (((((List.getD a0 (Int.toNat a1) Z_Object).2).2).2).1)) : Int) (0 : Int)
            else
              bif (((List.getD a0 (Int.toNat a1) Z_Object).1) == (10 : Int)) then
                r_g25 a1 a0 (List.getD a0 (Int.toNat a1) Z_Object)
              else
                bif (((List.getD a0 (Int.toNat a1) Z_Object).1) == (15 : Int)) then
                  r_g27 a0 (List.getD a0 (Int.toNat a1) Z_Object)
                else
                  bif (((List.getD a0 (Int.toNat a1) Z_Object).1) == (16 : Int)) then
                    r_g37 a0 (List.getD a0 (Int.toNat a1) Z_Object)
                  else
                    bif (((List.getD a0 (Int.toNat a1) Z_Object).1) == (18 : Int)) then
                      bif (decide (((((((((((List.getD a0 (Int.toNat a1) Z_Object).2).2).2).2).2).2).2).2).2) > (0 : Int))) then
                        r_g47 a0 (List.getD a0 (Int.toNat a1) Z_Object)
                      else
                        some true
                    else
                      bif (((List.getD a0 (Int.toNat a1) Z_Object).1) == (19 : Int)) then
                        r_g50 a0 (List.getD a0 (Int.toNat a1) Z_Object)
                      else
                        bif (((List.getD a0 (Int.toNat a1) Z_Object).1) == (20 : Int)) then
                          r_g52 (List.getD a0 (Int.toNat a1) Z_Object)
                        else
                          some true
        else
          bif (((List.getD a0 (Int.toNat a1) Z_Object).1) == (14 : Int)) then
            r_g15 a0 (List.getD a0 (Int.toNat a1) Z_Object)
          else
            bif (((List.getD a0 (Int.toNat a1) Z_Object).1) == (9 : Int)) then
              r_l3 a1 a0 (List.getD a0 (Int.toNat a1) Z_Object) (((((List.getD a0 (Int.toNat a1) Z_Object).2).2).2).1) ((List.length (((((List.getD a0 (Int.toNat a1) Z_Object).2).2).2).1)) : Int) (0 : Int)
            else
              bif (((List.getD a0 (Int.toNat a1) Z_Object).1) == (10 : Int)) then
                r_g25 a1 a0 (List.getD a0 (Int.toNat a1) Z_Object)
              else
                bif (((List.getD a0 (Int.toNat a1) Z_Object).1) == (15 : Int)) then
                  r_g27 a0 (List.getD a0 (Int.toNat a1) Z_Object)
                else
                  bif (((List.getD a0 (Int.toNat a1) Z_Object).1) == (16 : Int)) then
                    r_g37 a0 (List.getD a0 (Int.toNat a1) Z_Object)
                  else
                    bif (((List.getD a0 (Int.toNat a1) Z_Object).1) == (18 : Int)) then
                      bif (decide (((((((((((List.getD a0 (Int.toNat a1) Z_Object).2).2).2).2).2).2).2).2).2) > (0 : Int))) then
                        r_g47 a0 (List.getD a0 (Int.toNat a1) Z_Object)
                      else
                        some true
                    else
                      bif (((List.getD a0 (Int.toNat a1) Z_Object).1) == (19 : Int)) then
                        r_g50 a0 (List.getD a0 (Int.toNat a1) Z_Object)
                      else
                        bif (((List.getD a0 (Int.toNat a1) Z_Object).1) == (20 : Int)) then
                          r_g52 (List.getD a0 (Int.toNat a1) Z_Object)
                        else
                          some true
  else none
theorem r7_links.q (c91 : r7_RangeOk.E) (c92 : r7_callable.E) (c93 : r7_isClass.E) (c94 : r7_Open.E) (c41 : sl_Contains_int.E) (c95 : r7_exceptionOk.E) (c34 : r7_Obj.E) (c7 : r7_IsObject.E) (r_l1 : (List X_Object) → X_Object → (List (Int)) → (Int) → (Int) → Option (Bool)) (r_g15 : (List X_Object) → X_Object → Option (Bool)) (r_l3 : (Int) → (List X_Object) → X_Object → (List (Int)) → (Int) → (Int) → Option (Bool)) (r_g25 : (Int) → (List X_Object) → X_Object → Option (Bool)) (r_g27 : (List X_Object) → X_Object → Option (Bool)) (r_g37 : (List X_Object) → X_Object → Option (Bool)) (r_g47 : (List X_Object) → X_Object → Option (Bool)) (r_g50 : (List X_Object) → X_Object → Option (Bool)) (r_g52 : X_Object → Option (Bool)) (a0 : List X_Object) (a1 : Int) : r7_links.b c91 c92 c93 c94 c41 c95 c34 c7 r_l1 r_g15 r_l3 r_g25 r_g27 r_g37 r_g47 r_g50 r_g52 a0 a1 = r7_links.c c91 c92 c93 c94 c41 c95 c34 c7 r_l1 r_g15 r_l3 r_g25 r_g27 r_g37 r_g47 r_g50 r_g52 a0 a1 := by
  simp only [r7_links.b, r7_links.c, List.take_length, take_one, Nat.zero_add, Int.toNat_natCast, Int.toNat_zero, List.drop_zero, List.append_eq, Nat.le_refl, Int.le_refl, true_and, and_true, zero_le_one, if_true, prod_eta, Int.natCast_zero]
def r7_links.c_l1 (c91 : r7_RangeOk.E) (c92 : r7_callable.E) (c93 : r7_isClass.E) (c94 : r7_Open.E) (c41 : sl_Contains_int.E) (c95 : r7_exceptionOk.E) (c34 : r7_Obj.E) (c7 : r7_IsObject.E) (n_l1 : (List X_Object) → X_Object → (List (Int)) → (Int) → (Int) → Option (Bool)) (x2 : List X_Object) (x5 : X_Object) (x30 : List (Int)) (x31 : Int) (x32 : Int) : Option (Bool) :=
  bif (decide (x32 < x31)) then
    if 0 ≤ x32 ∧ x32 < ((List.length x30) : Int) then
      if 0 ≤ (List.getD x30 (Int.toNat x32) (0 : Int)) ∧ (List.getD x30 (Int.toNat x32) (0 : Int)) < ((List.length x2) : Int) then
        bif (((List.getD x2 (Int.toNat (List.getD x30 (Int.toNat x32) (0 : Int))) Z_Object).1) != (6 : Int)) then
          some false
        else
          n_l1 x2 x5 x30 x31 (IntKind.i64.wrap (x32 + (1 : Int)))
      else none
    else none
  else
    if 0 ≤ x5.2.2.1 ∧ x5.2.2.1 < ((List.length x2) : Int) then
      some (((List.getD x2 (Int.toNat x5.2.2.1) Z_Object).1) == (11 : Int))
    else none
theorem r7_links.q_l1 (c91 : r7_RangeOk.E) (c92 : r7_callable.E) (c93 : r7_isClass.E) (c94 : r7_Open.E) (c41 : sl_Contains_int.E) (c95 : r7_exceptionOk.E) (c34 : r7_Obj.E) (c7 : r7_IsObject.E) (n_l1 : (List X_Object) → X_Object → (List (Int)) → (Int) → (Int) → Option (Bool)) (x2 : List X_Object) (x5 : X_Object) (x30 : List (Int)) (x31 : Int) (x32 : Int) : r7_links.b_l1 c91 c92 c93 c94 c41 c95 c34 c7 n_l1 x2 x5 x30 x31 x32 = r7_links.c_l1 c91 c92 c93 c94 c41 c95 c34 c7 n_l1 x2 x5 x30 x31 x32 := by
  simp only [r7_links.b_l1, r7_links.c_l1, List.take_length, take_one, Nat.zero_add, Int.toNat_natCast, Int.toNat_zero, List.drop_zero, List.append_eq, Nat.le_refl, Int.le_refl, true_and, and_true, zero_le_one, if_true, prod_eta, Int.natCast_zero]
def r7_links.c_g15 (c91 : r7_RangeOk.E) (c92 : r7_callable.E) (c93 : r7_isClass.E) (c94 : r7_Open.E) (c41 : sl_Contains_int.E) (c95 : r7_exceptionOk.E) (c34 : r7_Obj.E) (c7 : r7_IsObject.E)  (x2 : List X_Object) (x5 : X_Object) : Option (Bool) :=
  if (0 : Int) < ((List.length x5.2.2.2.2.2.2.1) : Int) then
    (c92 (x2, (List.getD x5.2.2.2.2.2.2.1 0 Z_Value))).bind fun y2 =>
      some y2
  else none
theorem r7_links.q_g15 (c91 : r7_RangeOk.E) (c92 : r7_callable.E) (c93 : r7_isClass.E) (c94 : r7_Open.E) (c41 : sl_Contains_int.E) (c95 : r7_exceptionOk.E) (c34 : r7_Obj.E) (c7 : r7_IsObject.E)  (x2 : List X_Object) (x5 : X_Object) : r7_links.b_g15 c91 c92 c93 c94 c41 c95 c34 c7 x2 x5 = r7_links.c_g15 c91 c92 c93 c94 c41 c95 c34 c7 x2 x5 := by
  simp only [r7_links.b_g15, r7_links.c_g15, List.take_length, take_one, Nat.zero_add, Int.toNat_natCast, Int.toNat_zero, List.drop_zero, List.append_eq, Nat.le_refl, Int.le_refl, true_and, and_true, zero_le_one, if_true, prod_eta, Int.natCast_zero]
def r7_links.c_l3 (c91 : r7_RangeOk.E) (c92 : r7_callable.E) (c93 : r7_isClass.E) (c94 : r7_Open.E) (c41 : sl_Contains_int.E) (c95 : r7_exceptionOk.E) (c34 : r7_Obj.E) (c7 : r7_IsObject.E) (n_l3 : (Int) → (List X_Object) → X_Object → (List (Int)) → (Int) → (Int) → Option (Bool)) (x1 : Int) (x2 : List X_Object) (x5 : X_Object) (x64 : List (Int)) (x65 : Int) (x66 : Int) : Option (Bool) :=
  bif (decide (x66 < x65)) then
    if 0 ≤ x66 ∧ x66 < ((List.length x64) : Int) then
      bif (decide ((List.getD x64 (Int.toNat x66) (0 : Int)) ≥ x1)) then
        some false
      else
        (c93 (x2, (List.getD x64 (Int.toNat x66) (0 : Int)))).bind fun y3 =>
          bif !y3 then
            some false
          else
            (c94 (List.getD x64 (Int.toNat x66) (0 : Int))).bind fun y4 =>
              bif !y4 then
                some false
              else
                n_l3 x1 x2 x5 x64 x65 (IntKind.i64.wrap (x66 + (1 : Int)))
    else none
  else
    bif (decide (((List.length x5.2.2.2.1) : Int) ≥ (1 : Int))) then
      some (decide (((List.length x5.2.2.2.1) : Int) ≤ (8 : Int)))
    else
      some false
theorem r7_links.q_l3 (c91 : r7_RangeOk.E) (c92 : r7_callable.E) (c93 : r7_isClass.E) (c94 : r7_Open.E) (c41 : sl_Contains_int.E) (c95 : r7_exceptionOk.E) (c34 : r7_Obj.E) (c7 : r7_IsObject.E) (n_l3 : (Int) → (List X_Object) → X_Object → (List (Int)) → (Int) → (Int) → Option (Bool)) (x1 : Int) (x2 : List X_Object) (x5 : X_Object) (x64 : List (Int)) (x65 : Int) (x66 : Int) : r7_links.b_l3 c91 c92 c93 c94 c41 c95 c34 c7 n_l3 x1 x2 x5 x64 x65 x66 = r7_links.c_l3 c91 c92 c93 c94 c41 c95 c34 c7 n_l3 x1 x2 x5 x64 x65 x66 := by
  simp only [r7_links.b_l3, r7_links.c_l3, List.take_length, take_one, Nat.zero_add, Int.toNat_natCast, Int.toNat_zero, List.drop_zero, List.append_eq, Nat.le_refl, Int.le_refl, true_and, and_true, zero_le_one, if_true, prod_eta, Int.natCast_zero]
def r7_links.c_g25 (c91 : r7_RangeOk.E) (c92 : r7_callable.E) (c93 : r7_isClass.E) (c94 : r7_Open.E) (c41 : sl_Contains_int.E) (c95 : r7_exceptionOk.E) (c34 : r7_Obj.E) (c7 : r7_IsObject.E)  (x1 : Int) (x2 : List X_Object) (x5 : X_Object) : Option (Bool) :=
  (c93 (x2, x5.2.2.1)).bind fun y5 =>
    bif y5 then
      (c94 x5.2.2.1).bind fun y6 =>
        bif y6 then
          if 0 ≤ x5.2.2.1 ∧ x5.2.2.1 < ((List.length x2) : Int) then
            (c41 ((((((List.getD x2 (Int.toNat x5.2.2.1) Z_Object).2).2).2).2).1, (28 : Int))).bind fun y7 =>
              bif !y7 then
                some true
              else
                (c95 (x2, x1)).bind fun y8 =>
                  some y8
          else none
        else
          some false
    else
      some false
theorem r7_links.q_g25 (c91 : r7_RangeOk.E) (c92 : r7_callable.E) (c93 : r7_isClass.E) (c94 : r7_Open.E) (c41 : sl_Contains_int.E) (c95 : r7_exceptionOk.E) (c34 : r7_Obj.E) (c7 : r7_IsObject.E)  (x1 : Int) (x2 : List X_Object) (x5 : X_Object) : r7_links.b_g25 c91 c92 c93 c94 c41 c95 c34 c7 x1 x2 x5 = r7_links.c_g25 c91 c92 c93 c94 c41 c95 c34 c7 x1 x2 x5 := by
  simp only [r7_links.b_g25, r7_links.c_g25, List.take_length, take_one, Nat.zero_add, Int.toNat_natCast, Int.toNat_zero, List.drop_zero, List.append_eq, Nat.le_refl, Int.le_refl, true_and, and_true, zero_le_one, if_true, prod_eta, Int.natCast_zero]
def r7_links.c_g27 (c91 : r7_RangeOk.E) (c92 : r7_callable.E) (c93 : r7_isClass.E) (c94 : r7_Open.E) (c41 : sl_Contains_int.E) (c95 : r7_exceptionOk.E) (c34 : r7_Obj.E) (c7 : r7_IsObject.E) (r_g35 : (List X_Object) → X_Value → (Int) → Option (Bool)) (x2 : List X_Object) (x5 : X_Object) : Option (Bool) :=
  if (0 : Int) < ((List.length x5.2.2.2.2.2.2.1) : Int) then
    if (1 : Int) < ((List.length x5.2.2.2.2.2.2.1) : Int) then
      (c34 (x2, (List.getD x5.2.2.2.2.2.2.1 (Int.toNat (1 : Int)) Z_Value))).bind fun y9 =>
        bif (y9.1 == (10 : Int)) then
          r_g35 x2 (List.getD x5.2.2.2.2.2.2.1 0 Z_Value) y9.2.2.1
        else
          bif (y9.1 == (9 : Int)) then
            r_g35 x2 (List.getD x5.2.2.2.2.2.2.1 0 Z_Value) (((((List.getD x5.2.2.2.2.2.2.1 (Int.toNat (1 : Int)) Z_Value).2).2).2).2)
          else
            some false
    else none
  else none
theorem r7_links.q_g27 (c91 : r7_RangeOk.E) (c92 : r7_callable.E) (c93 : r7_isClass.E) (c94 : r7_Open.E) (c41 : sl_Contains_int.E) (c95 : r7_exceptionOk.E) (c34 : r7_Obj.E) (c7 : r7_IsObject.E) (r_g35 : (List X_Object) → X_Value → (Int) → Option (Bool)) (x2 : List X_Object) (x5 : X_Object) : r7_links.b_g27 c91 c92 c93 c94 c41 c95 c34 c7 r_g35 x2 x5 = r7_links.c_g27 c91 c92 c93 c94 c41 c95 c34 c7 r_g35 x2 x5 := by
  simp only [r7_links.b_g27, r7_links.c_g27, List.take_length, take_one, Nat.zero_add, Int.toNat_natCast, Int.toNat_zero, List.drop_zero, List.append_eq, Nat.le_refl, Int.le_refl, true_and, and_true, zero_le_one, if_true, prod_eta, Int.natCast_zero]
def r7_links.c_g35 (c91 : r7_RangeOk.E) (c92 : r7_callable.E) (c93 : r7_isClass.E) (c94 : r7_Open.E) (c41 : sl_Contains_int.E) (c95 : r7_exceptionOk.E) (c34 : r7_Obj.E) (c7 : r7_IsObject.E)  (x2 : List X_Object) (x10 : X_Value) (x12 : Int) : Option (Bool) :=
  (c34 (x2, x10)).bind fun y10 =>
    bif (y10.1 == (9 : Int)) then
      (c7 (x2, x12)).bind fun y11 =>
        bif y11 then
          if 0 ≤ x12 ∧ x12 < ((List.length x2) : Int) then
            (c41 ((((((List.getD x2 (Int.toNat x12) Z_Object).2).2).2).2).1, x10.2.2.2.2)).bind fun y12 =>
              some y12
          else none
        else
          some false
    else
      some false
theorem r7_links.q_g35 (c91 : r7_RangeOk.E) (c92 : r7_callable.E) (c93 : r7_isClass.E) (c94 : r7_Open.E) (c41 : sl_Contains_int.E) (c95 : r7_exceptionOk.E) (c34 : r7_Obj.E) (c7 : r7_IsObject.E)  (x2 : List X_Object) (x10 : X_Value) (x12 : Int) : r7_links.b_g35 c91 c92 c93 c94 c41 c95 c34 c7 x2 x10 x12 = r7_links.c_g35 c91 c92 c93 c94 c41 c95 c34 c7 x2 x10 x12 := by
  simp only [r7_links.b_g35, r7_links.c_g35, List.take_length, take_one, Nat.zero_add, Int.toNat_natCast, Int.toNat_zero, List.drop_zero, List.append_eq, Nat.le_refl, Int.le_refl, true_and, and_true, zero_le_one, if_true, prod_eta, Int.natCast_zero]
def r7_links.c_g37 (c91 : r7_RangeOk.E) (c92 : r7_callable.E) (c93 : r7_isClass.E) (c94 : r7_Open.E) (c41 : sl_Contains_int.E) (c95 : r7_exceptionOk.E) (c34 : r7_Obj.E) (c7 : r7_IsObject.E) (r_g42 : X_Object → Option (Bool)) (r_g44 : X_Object → Option (Bool)) (r_g39 : X_Object → X_Object → Option (Bool)) (x2 : List X_Object) (x5 : X_Object) : Option (Bool) :=
  if (0 : Int) < ((List.length x5.2.2.2.2.2.2.1) : Int) then
    (c34 (x2, (List.getD x5.2.2.2.2.2.2.1 0 Z_Value))).bind fun y13 =>
      bif (y13.1 == (3 : Int)) then
        bif (y13.1 == (3 : Int)) then
          r_g42 x5
        else
          bif (y13.1 == (0 : Int)) then
            r_g44 x5
          else
            r_g39 x5 y13
      else
        bif (y13.1 == (4 : Int)) then
          r_g42 x5
        else
          bif (y13.1 == (0 : Int)) then
            r_g44 x5
          else
            r_g39 x5 y13
  else none
theorem r7_links.q_g37 (c91 : r7_RangeOk.E) (c92 : r7_callable.E) (c93 : r7_isClass.E) (c94 : r7_Open.E) (c41 : sl_Contains_int.E) (c95 : r7_exceptionOk.E) (c34 : r7_Obj.E) (c7 : r7_IsObject.E) (r_g42 : X_Object → Option (Bool)) (r_g44 : X_Object → Option (Bool)) (r_g39 : X_Object → X_Object → Option (Bool)) (x2 : List X_Object) (x5 : X_Object) : r7_links.b_g37 c91 c92 c93 c94 c41 c95 c34 c7 r_g42 r_g44 r_g39 x2 x5 = r7_links.c_g37 c91 c92 c93 c94 c41 c95 c34 c7 r_g42 r_g44 r_g39 x2 x5 := by
  simp only [r7_links.b_g37, r7_links.c_g37, List.take_length, take_one, Nat.zero_add, Int.toNat_natCast, Int.toNat_zero, List.drop_zero, List.append_eq, Nat.le_refl, Int.le_refl, true_and, and_true, zero_le_one, if_true, prod_eta, Int.natCast_zero]
def r7_links.c_g42 (c91 : r7_RangeOk.E) (c92 : r7_callable.E) (c93 : r7_isClass.E) (c94 : r7_Open.E) (c41 : sl_Contains_int.E) (c95 : r7_exceptionOk.E) (c34 : r7_Obj.E) (c7 : r7_IsObject.E)  (x5 : X_Object) : Option (Bool) :=
  if (1 : Int) < ((List.length x5.2.2.2.2.2.2.1) : Int) then
    bif (((List.getD x5.2.2.2.2.2.2.1 (Int.toNat (1 : Int)) Z_Value).1) == (2 : Int)) then
      if (1 : Int) < ((List.length x5.2.2.2.2.2.2.1) : Int) then
        some (! ((((List.getD x5.2.2.2.2.2.2.1 (Int.toNat (1 : Int)) Z_Value).2).1).1))
      else none
    else
      some false
  else none
theorem r7_links.q_g42 (c91 : r7_RangeOk.E) (c92 : r7_callable.E) (c93 : r7_isClass.E) (c94 : r7_Open.E) (c41 : sl_Contains_int.E) (c95 : r7_exceptionOk.E) (c34 : r7_Obj.E) (c7 : r7_IsObject.E)  (x5 : X_Object) : r7_links.b_g42 c91 c92 c93 c94 c41 c95 c34 c7 x5 = r7_links.c_g42 c91 c92 c93 c94 c41 c95 c34 c7 x5 := by
  simp only [r7_links.b_g42, r7_links.c_g42, List.take_length, take_one, Nat.zero_add, Int.toNat_natCast, Int.toNat_zero, List.drop_zero, List.append_eq, Nat.le_refl, Int.le_refl, true_and, and_true, zero_le_one, if_true, prod_eta, Int.natCast_zero]
def r7_links.c_g44 (c91 : r7_RangeOk.E) (c92 : r7_callable.E) (c93 : r7_isClass.E) (c94 : r7_Open.E) (c41 : sl_Contains_int.E) (c95 : r7_exceptionOk.E) (c34 : r7_Obj.E) (c7 : r7_IsObject.E)  (x5 : X_Object) : Option (Bool) :=
  if (0 : Int) < ((List.length x5.2.2.2.2.2.2.1) : Int) then
    bif (((List.getD x5.2.2.2.2.2.2.1 0 Z_Value).1) == (4 : Int)) then
      if (1 : Int) < ((List.length x5.2.2.2.2.2.2.1) : Int) then
        some (((List.getD x5.2.2.2.2.2.2.1 (Int.toNat (1 : Int)) Z_Value).1) == (0 : Int))
      else none
    else
      if (0 : Int) < ((List.length x5.2.2.2.2.2.2.1) : Int) then
        bif (((List.getD x5.2.2.2.2.2.2.1 0 Z_Value).1) == (5 : Int)) then
          if (1 : Int) < ((List.length x5.2.2.2.2.2.2.1) : Int) then
            some (((List.getD x5.2.2.2.2.2.2.1 (Int.toNat (1 : Int)) Z_Value).1) == (0 : Int))
          else none
        else
          some false
      else none
  else none
theorem r7_links.q_g44 (c91 : r7_RangeOk.E) (c92 : r7_callable.E) (c93 : r7_isClass.E) (c94 : r7_Open.E) (c41 : sl_Contains_int.E) (c95 : r7_exceptionOk.E) (c34 : r7_Obj.E) (c7 : r7_IsObject.E)  (x5 : X_Object) : r7_links.b_g44 c91 c92 c93 c94 c41 c95 c34 c7 x5 = r7_links.c_g44 c91 c92 c93 c94 c41 c95 c34 c7 x5 := by
  simp only [r7_links.b_g44, r7_links.c_g44, List.take_length, take_one, Nat.zero_add, Int.toNat_natCast, Int.toNat_zero, List.drop_zero, List.append_eq, Nat.le_refl, Int.le_refl, true_and, and_true, zero_le_one, if_true, prod_eta, Int.natCast_zero]
def r7_links.c_g39 (c91 : r7_RangeOk.E) (c92 : r7_callable.E) (c93 : r7_isClass.E) (c94 : r7_Open.E) (c41 : sl_Contains_int.E) (c95 : r7_exceptionOk.E) (c34 : r7_Obj.E) (c7 : r7_IsObject.E)  (x5 : X_Object) (x14 : X_Object) : Option (Bool) :=
  bif (x14.1 == (1 : Int)) then
    if (1 : Int) < ((List.length x5.2.2.2.2.2.2.1) : Int) then
      some (((List.getD x5.2.2.2.2.2.2.1 (Int.toNat (1 : Int)) Z_Value).1) == (0 : Int))
    else none
  else
    bif (x14.1 == (2 : Int)) then
      if (1 : Int) < ((List.length x5.2.2.2.2.2.2.1) : Int) then
        some (((List.getD x5.2.2.2.2.2.2.1 (Int.toNat (1 : Int)) Z_Value).1) == (0 : Int))
      else none
    else
      bif (x14.1 == (5 : Int)) then
        if (1 : Int) < ((List.length x5.2.2.2.2.2.2.1) : Int) then
          some (((List.getD x5.2.2.2.2.2.2.1 (Int.toNat (1 : Int)) Z_Value).1) == (0 : Int))
        else none
      else
        some false
theorem r7_links.q_g39 (c91 : r7_RangeOk.E) (c92 : r7_callable.E) (c93 : r7_isClass.E) (c94 : r7_Open.E) (c41 : sl_Contains_int.E) (c95 : r7_exceptionOk.E) (c34 : r7_Obj.E) (c7 : r7_IsObject.E)  (x5 : X_Object) (x14 : X_Object) : r7_links.b_g39 c91 c92 c93 c94 c41 c95 c34 c7 x5 x14 = r7_links.c_g39 c91 c92 c93 c94 c41 c95 c34 c7 x5 x14 := by
  simp only [r7_links.b_g39, r7_links.c_g39, List.take_length, take_one, Nat.zero_add, Int.toNat_natCast, Int.toNat_zero, List.drop_zero, List.append_eq, Nat.le_refl, Int.le_refl, true_and, and_true, zero_le_one, if_true, prod_eta, Int.natCast_zero]
def r7_links.c_g47 (c91 : r7_RangeOk.E) (c92 : r7_callable.E) (c93 : r7_isClass.E) (c94 : r7_Open.E) (c41 : sl_Contains_int.E) (c95 : r7_exceptionOk.E) (c34 : r7_Obj.E) (c7 : r7_IsObject.E)  (x2 : List X_Object) (x5 : X_Object) : Option (Bool) :=
  if 0 ≤ (IntKind.i64.wrap (x5.2.2.2.2.2.2.2.2.2 - (1 : Int))) ∧ (IntKind.i64.wrap (x5.2.2.2.2.2.2.2.2.2 - (1 : Int))) < ((List.length x2) : Int) then
    bif (((List.getD x2 (Int.toNat (IntKind.i64.wrap (x5.2.2.2.2.2.2.2.2.2 - (1 : Int)))) Z_Object).1) == (10 : Int)) then
      some (decide (((((List.getD x2 (Int.toNat (IntKind.i64.wrap (x5.2.2.2.2.2.2.2.2.2 - (1 : Int)))) Z_Object).2).2).1) ≥ (49 : Int)))
    else
      some false
  else none
theorem r7_links.q_g47 (c91 : r7_RangeOk.E) (c92 : r7_callable.E) (c93 : r7_isClass.E) (c94 : r7_Open.E) (c41 : sl_Contains_int.E) (c95 : r7_exceptionOk.E) (c34 : r7_Obj.E) (c7 : r7_IsObject.E)  (x2 : List X_Object) (x5 : X_Object) : r7_links.b_g47 c91 c92 c93 c94 c41 c95 c34 c7 x2 x5 = r7_links.c_g47 c91 c92 c93 c94 c41 c95 c34 c7 x2 x5 := by
  simp only [r7_links.b_g47, r7_links.c_g47, List.take_length, take_one, Nat.zero_add, Int.toNat_natCast, Int.toNat_zero, List.drop_zero, List.append_eq, Nat.le_refl, Int.le_refl, true_and, and_true, zero_le_one, if_true, prod_eta, Int.natCast_zero]
def r7_links.c_g50 (c91 : r7_RangeOk.E) (c92 : r7_callable.E) (c93 : r7_isClass.E) (c94 : r7_Open.E) (c41 : sl_Contains_int.E) (c95 : r7_exceptionOk.E) (c34 : r7_Obj.E) (c7 : r7_IsObject.E)  (x2 : List X_Object) (x5 : X_Object) : Option (Bool) :=
  if (0 : Int) < ((List.length x5.2.2.2.2.2.2.1) : Int) then
    (c34 (x2, (List.getD x5.2.2.2.2.2.2.1 0 Z_Value))).bind fun y14 =>
      some (y14.1 == (17 : Int))
  else none
theorem r7_links.q_g50 (c91 : r7_RangeOk.E) (c92 : r7_callable.E) (c93 : r7_isClass.E) (c94 : r7_Open.E) (c41 : sl_Contains_int.E) (c95 : r7_exceptionOk.E) (c34 : r7_Obj.E) (c7 : r7_IsObject.E)  (x2 : List X_Object) (x5 : X_Object) : r7_links.b_g50 c91 c92 c93 c94 c41 c95 c34 c7 x2 x5 = r7_links.c_g50 c91 c92 c93 c94 c41 c95 c34 c7 x2 x5 := by
  simp only [r7_links.b_g50, r7_links.c_g50, List.take_length, take_one, Nat.zero_add, Int.toNat_natCast, Int.toNat_zero, List.drop_zero, List.append_eq, Nat.le_refl, Int.le_refl, true_and, and_true, zero_le_one, if_true, prod_eta, Int.natCast_zero]
def r7_links.c_g52 (c91 : r7_RangeOk.E) (c92 : r7_callable.E) (c93 : r7_isClass.E) (c94 : r7_Open.E) (c41 : sl_Contains_int.E) (c95 : r7_exceptionOk.E) (c34 : r7_Obj.E) (c7 : r7_IsObject.E)  (x5 : X_Object) : Option (Bool) :=
  if (0 : Int) < ((List.length x5.2.2.2.2.2.2.1) : Int) then
    bif (((List.getD x5.2.2.2.2.2.2.1 0 Z_Value).1) == (2 : Int)) then
      if (0 : Int) < ((List.length x5.2.2.2.2.2.2.1) : Int) then
        some (! ((((List.getD x5.2.2.2.2.2.2.1 0 Z_Value).2).1).1))
      else none
    else
      some false
  else none
theorem r7_links.q_g52 (c91 : r7_RangeOk.E) (c92 : r7_callable.E) (c93 : r7_isClass.E) (c94 : r7_Open.E) (c41 : sl_Contains_int.E) (c95 : r7_exceptionOk.E) (c34 : r7_Obj.E) (c7 : r7_IsObject.E)  (x5 : X_Object) : r7_links.b_g52 c91 c92 c93 c94 c41 c95 c34 c7 x5 = r7_links.c_g52 c91 c92 c93 c94 c41 c95 c34 c7 x5 := by
  simp only [r7_links.b_g52, r7_links.c_g52, List.take_length, take_one, Nat.zero_add, Int.toNat_natCast, Int.toNat_zero, List.drop_zero, List.append_eq, Nat.le_refl, Int.le_refl, true_and, and_true, zero_le_one, if_true, prod_eta, Int.natCast_zero]
def r7_links.l1 (c91 : r7_RangeOk.E) (c92 : r7_callable.E) (c93 : r7_isClass.E) (c94 : r7_Open.E) (c41 : sl_Contains_int.E) (c95 : r7_exceptionOk.E) (c34 : r7_Obj.E) (c7 : r7_IsObject.E) (k : Nat)  : Nat → (List X_Object) → X_Object → (List (Int)) → (Int) → (Int) → Option (Bool)
  | 0, _, _, _, _, _ => none
  | n + 1, x2, x5, x30, x31, x32 => r7_links.b_l1 c91 c92 c93 c94 c41 c95 c34 c7 (fun x2 x5 x30 x31 x32 => r7_links.l1 c91 c92 c93 c94 c41 c95 c34 c7 k  n x2 x5 x30 x31 x32) x2 x5 x30 x31 x32
def r7_links.g15 (c91 : r7_RangeOk.E) (c92 : r7_callable.E) (c93 : r7_isClass.E) (c94 : r7_Open.E) (c41 : sl_Contains_int.E) (c95 : r7_exceptionOk.E) (c34 : r7_Obj.E) (c7 : r7_IsObject.E) (k : Nat)  (x2 : List X_Object) (x5 : X_Object) : Option (Bool) := gate k (r7_links.b_g15 c91 c92 c93 c94 c41 c95 c34 c7  x2 x5)
def r7_links.l3 (c91 : r7_RangeOk.E) (c92 : r7_callable.E) (c93 : r7_isClass.E) (c94 : r7_Open.E) (c41 : sl_Contains_int.E) (c95 : r7_exceptionOk.E) (c34 : r7_Obj.E) (c7 : r7_IsObject.E) (k : Nat)  : Nat → (Int) → (List X_Object) → X_Object → (List (Int)) → (Int) → (Int) → Option (Bool)
  | 0, _, _, _, _, _, _ => none
  | n + 1, x1, x2, x5, x64, x65, x66 => r7_links.b_l3 c91 c92 c93 c94 c41 c95 c34 c7 (fun x1 x2 x5 x64 x65 x66 => r7_links.l3 c91 c92 c93 c94 c41 c95 c34 c7 k  n x1 x2 x5 x64 x65 x66) x1 x2 x5 x64 x65 x66
def r7_links.g25 (c91 : r7_RangeOk.E) (c92 : r7_callable.E) (c93 : r7_isClass.E) (c94 : r7_Open.E) (c41 : sl_Contains_int.E) (c95 : r7_exceptionOk.E) (c34 : r7_Obj.E) (c7 : r7_IsObject.E) (k : Nat)  (x1 : Int) (x2 : List X_Object) (x5 : X_Object) : Option (Bool) := gate k (r7_links.b_g25 c91 c92 c93 c94 c41 c95 c34 c7  x1 x2 x5)
def r7_links.g35 (c91 : r7_RangeOk.E) (c92 : r7_callable.E) (c93 : r7_isClass.E) (c94 : r7_Open.E) (c41 : sl_Contains_int.E) (c95 : r7_exceptionOk.E) (c34 : r7_Obj.E) (c7 : r7_IsObject.E) (k : Nat)  (x2 : List X_Object) (x10 : X_Value) (x12 : Int) : Option (Bool) := gate k (r7_links.b_g35 c91 c92 c93 c94 c41 c95 c34 c7  x2 x10 x12)
def r7_links.g27 (c91 : r7_RangeOk.E) (c92 : r7_callable.E) (c93 : r7_isClass.E) (c94 : r7_Open.E) (c41 : sl_Contains_int.E) (c95 : r7_exceptionOk.E) (c34 : r7_Obj.E) (c7 : r7_IsObject.E) (k : Nat)  (x2 : List X_Object) (x5 : X_Object) : Option (Bool) := gate k (r7_links.b_g27 c91 c92 c93 c94 c41 c95 c34 c7 (r7_links.g35 c91 c92 c93 c94 c41 c95 c34 c7 k ) x2 x5)
def r7_links.g42 (c91 : r7_RangeOk.E) (c92 : r7_callable.E) (c93 : r7_isClass.E) (c94 : r7_Open.E) (c41 : sl_Contains_int.E) (c95 : r7_exceptionOk.E) (c34 : r7_Obj.E) (c7 : r7_IsObject.E) (k : Nat)  (x5 : X_Object) : Option (Bool) := gate k (r7_links.b_g42 c91 c92 c93 c94 c41 c95 c34 c7  x5)
def r7_links.g44 (c91 : r7_RangeOk.E) (c92 : r7_callable.E) (c93 : r7_isClass.E) (c94 : r7_Open.E) (c41 : sl_Contains_int.E) (c95 : r7_exceptionOk.E) (c34 : r7_Obj.E) (c7 : r7_IsObject.E) (k : Nat)  (x5 : X_Object) : Option (Bool) := gate k (r7_links.b_g44 c91 c92 c93 c94 c41 c95 c34 c7  x5)
def r7_links.g39 (c91 : r7_RangeOk.E) (c92 : r7_callable.E) (c93 : r7_isClass.E) (c94 : r7_Open.E) (c41 : sl_Contains_int.E) (c95 : r7_exceptionOk.E) (c34 : r7_Obj.E) (c7 : r7_IsObject.E) (k : Nat)  (x5 : X_Object) (x14 : X_Object) : Option (Bool) := gate k (r7_links.b_g39 c91 c92 c93 c94 c41 c95 c34 c7  x5 x14)
def r7_links.g37 (c91 : r7_RangeOk.E) (c92 : r7_callable.E) (c93 : r7_isClass.E) (c94 : r7_Open.E) (c41 : sl_Contains_int.E) (c95 : r7_exceptionOk.E) (c34 : r7_Obj.E) (c7 : r7_IsObject.E) (k : Nat)  (x2 : List X_Object) (x5 : X_Object) : Option (Bool) := gate k (r7_links.b_g37 c91 c92 c93 c94 c41 c95 c34 c7 (r7_links.g42 c91 c92 c93 c94 c41 c95 c34 c7 k ) (r7_links.g44 c91 c92 c93 c94 c41 c95 c34 c7 k ) (r7_links.g39 c91 c92 c93 c94 c41 c95 c34 c7 k ) x2 x5)
def r7_links.g47 (c91 : r7_RangeOk.E) (c92 : r7_callable.E) (c93 : r7_isClass.E) (c94 : r7_Open.E) (c41 : sl_Contains_int.E) (c95 : r7_exceptionOk.E) (c34 : r7_Obj.E) (c7 : r7_IsObject.E) (k : Nat)  (x2 : List X_Object) (x5 : X_Object) : Option (Bool) := gate k (r7_links.b_g47 c91 c92 c93 c94 c41 c95 c34 c7  x2 x5)
def r7_links.g50 (c91 : r7_RangeOk.E) (c92 : r7_callable.E) (c93 : r7_isClass.E) (c94 : r7_Open.E) (c41 : sl_Contains_int.E) (c95 : r7_exceptionOk.E) (c34 : r7_Obj.E) (c7 : r7_IsObject.E) (k : Nat)  (x2 : List X_Object) (x5 : X_Object) : Option (Bool) := gate k (r7_links.b_g50 c91 c92 c93 c94 c41 c95 c34 c7  x2 x5)
def r7_links.g52 (c91 : r7_RangeOk.E) (c92 : r7_callable.E) (c93 : r7_isClass.E) (c94 : r7_Open.E) (c41 : sl_Contains_int.E) (c95 : r7_exceptionOk.E) (c34 : r7_Obj.E) (c7 : r7_IsObject.E) (k : Nat)  (x5 : X_Object) : Option (Bool) := gate k (r7_links.b_g52 c91 c92 c93 c94 c41 c95 c34 c7  x5)
def r7_links.f (c91 : r7_RangeOk.E) (c92 : r7_callable.E) (c93 : r7_isClass.E) (c94 : r7_Open.E) (c41 : sl_Contains_int.E) (c95 : r7_exceptionOk.E) (c34 : r7_Obj.E) (c7 : r7_IsObject.E) (k : Nat) (a0 : List X_Object) (a1 : Int) : Option (Bool) := r7_links.b c91 c92 c93 c94 c41 c95 c34 c7 (r7_links.l1 c91 c92 c93 c94 c41 c95 c34 c7 k k) (r7_links.g15 c91 c92 c93 c94 c41 c95 c34 c7 k) (r7_links.l3 c91 c92 c93 c94 c41 c95 c34 c7 k k) (r7_links.g25 c91 c92 c93 c94 c41 c95 c34 c7 k) (r7_links.g27 c91 c92 c93 c94 c41 c95 c34 c7 k) (r7_links.g37 c91 c92 c93 c94 c41 c95 c34 c7 k) (r7_links.g47 c91 c92 c93 c94 c41 c95 c34 c7 k) (r7_links.g50 c91 c92 c93 c94 c41 c95 c34 c7 k) (r7_links.g52 c91 c92 c93 c94 c41 c95 c34 c7 k) a0 a1
noncomputable def r7_links.M_l1 (c91 : r7_RangeOk.E) (c92 : r7_callable.E) (c93 : r7_isClass.E) (c94 : r7_Open.E) (c41 : sl_Contains_int.E) (c95 : r7_exceptionOk.E) (c34 : r7_Obj.E) (c7 : r7_IsObject.E) (k n : Nat)  (s : St) : Option (Bool) := atLoop (r7_links.C c91 c92 c93 c94 c41 c95 c34 c7) k n [1, 1, 0, 1, 0, 1, 1, 1, 0, 0, 1, 0] [] r7_links.code (r7_links.fin c91 c92 c93 c94 c41 c95 c34 c7) s
noncomputable def r7_links.fr_l1 (x2 : List X_Object) (x5 : X_Object) (x30 : List (Int)) (x31 : Int) (x32 : Int) : St := ⟨((((((List.replicate 286 V.un).set 2 (V.bp 600002 0 [])).set 5 (V.bp 600005 0 [])).set 30 (V.dat (.sl 3 (.int .i64)) x30)).set 31 (V.dat (.int .i64) x31)).set 32 (V.dat (.int .i64) x32)), [⟨600005, 0, .box (V.dat Y_Object x5)⟩, ⟨600002, 0, .box (V.dat Y_Heap x2)⟩]⟩
noncomputable def r7_links.M_g15 (c91 : r7_RangeOk.E) (c92 : r7_callable.E) (c93 : r7_isClass.E) (c94 : r7_Open.E) (c41 : sl_Contains_int.E) (c95 : r7_exceptionOk.E) (c34 : r7_Obj.E) (c7 : r7_IsObject.E) (k : Nat)  (s : St) : Option (Bool) := atGate (r7_links.C c91 c92 c93 c94 c41 c95 c34 c7) k [1, 1, 0, 1, 0, 1, 1, 1, 1, 1, 0, 0] [] r7_links.code (r7_links.fin c91 c92 c93 c94 c41 c95 c34 c7) s
noncomputable def r7_links.fr_g15 (x2 : List X_Object) (x5 : X_Object) : St := ⟨(((List.replicate 286 V.un).set 2 (V.bp 600002 0 [])).set 5 (V.bp 600005 0 [])), [⟨600005, 0, .box (V.dat Y_Object x5)⟩, ⟨600002, 0, .box (V.dat Y_Heap x2)⟩]⟩
noncomputable def r7_links.M_l3 (c91 : r7_RangeOk.E) (c92 : r7_callable.E) (c93 : r7_isClass.E) (c94 : r7_Open.E) (c41 : sl_Contains_int.E) (c95 : r7_exceptionOk.E) (c34 : r7_Obj.E) (c7 : r7_IsObject.E) (k n : Nat)  (s : St) : Option (Bool) := atLoop (r7_links.C c91 c92 c93 c94 c41 c95 c34 c7) k n [1, 1, 0, 1, 0, 1, 1, 1, 1, 1, 1, 1, 0, 0, 1, 0] [] r7_links.code (r7_links.fin c91 c92 c93 c94 c41 c95 c34 c7) s
noncomputable def r7_links.fr_l3 (x1 : Int) (x2 : List X_Object) (x5 : X_Object) (x64 : List (Int)) (x65 : Int) (x66 : Int) : St := ⟨(((((((List.replicate 286 V.un).set 1 (V.dat (.int .i64) x1)).set 2 (V.bp 600002 0 [])).set 5 (V.bp 600005 0 [])).set 64 (V.dat (.sl 3 (.int .i64)) x64)).set 65 (V.dat (.int .i64) x65)).set 66 (V.dat (.int .i64) x66)), [⟨600005, 0, .box (V.dat Y_Object x5)⟩, ⟨600002, 0, .box (V.dat Y_Heap x2)⟩]⟩
noncomputable def r7_links.M_g25 (c91 : r7_RangeOk.E) (c92 : r7_callable.E) (c93 : r7_isClass.E) (c94 : r7_Open.E) (c41 : sl_Contains_int.E) (c95 : r7_exceptionOk.E) (c34 : r7_Obj.E) (c7 : r7_IsObject.E) (k : Nat)  (s : St) : Option (Bool) := atGate (r7_links.C c91 c92 c93 c94 c41 c95 c34 c7) k [1, 1, 0, 1, 0, 1, 1, 1, 1, 1, 1, 1, 1, 1, 0, 0] [] r7_links.code (r7_links.fin c91 c92 c93 c94 c41 c95 c34 c7) s
noncomputable def r7_links.fr_g25 (x1 : Int) (x2 : List X_Object) (x5 : X_Object) : St := ⟨((((List.replicate 286 V.un).set 1 (V.dat (.int .i64) x1)).set 2 (V.bp 600002 0 [])).set 5 (V.bp 600005 0 [])), [⟨600005, 0, .box (V.dat Y_Object x5)⟩, ⟨600002, 0, .box (V.dat Y_Heap x2)⟩]⟩
noncomputable def r7_links.M_g27 (c91 : r7_RangeOk.E) (c92 : r7_callable.E) (c93 : r7_isClass.E) (c94 : r7_Open.E) (c41 : sl_Contains_int.E) (c95 : r7_exceptionOk.E) (c34 : r7_Obj.E) (c7 : r7_IsObject.E) (k : Nat)  (s : St) : Option (Bool) := atGate (r7_links.C c91 c92 c93 c94 c41 c95 c34 c7) k [1, 1, 0, 1, 0, 1, 1, 1, 1, 1, 1, 1, 1, 1, 1, 1, 0, 0] [] r7_links.code (r7_links.fin c91 c92 c93 c94 c41 c95 c34 c7) s
noncomputable def r7_links.fr_g27 (x2 : List X_Object) (x5 : X_Object) : St := ⟨(((List.replicate 286 V.un).set 2 (V.bp 600002 0 [])).set 5 (V.bp 600005 0 [])), [⟨600005, 0, .box (V.dat Y_Object x5)⟩, ⟨600002, 0, .box (V.dat Y_Heap x2)⟩]⟩
noncomputable def r7_links.M_g35 (c91 : r7_RangeOk.E) (c92 : r7_callable.E) (c93 : r7_isClass.E) (c94 : r7_Open.E) (c41 : sl_Contains_int.E) (c95 : r7_exceptionOk.E) (c34 : r7_Obj.E) (c7 : r7_IsObject.E) (k : Nat)  (s : St) : Option (Bool) := atGate (r7_links.C c91 c92 c93 c94 c41 c95 c34 c7) k [1, 1, 0, 1, 0, 1, 1, 1, 1, 1, 1, 1, 1, 1, 1, 1, 0, 1, 1, 1, 0] [] r7_links.code (r7_links.fin c91 c92 c93 c94 c41 c95 c34 c7) s
noncomputable def r7_links.fr_g35 (x2 : List X_Object) (x10 : X_Value) (x12 : Int) : St := ⟨((((List.replicate 286 V.un).set 2 (V.bp 600002 0 [])).set 10 (V.bp 600010 0 [])).set 12 (V.dat (.int .i64) x12)), [⟨600010, 0, .box (V.dat Y_Value x10)⟩, ⟨600002, 0, .box (V.dat Y_Heap x2)⟩]⟩
noncomputable def r7_links.M_g37 (c91 : r7_RangeOk.E) (c92 : r7_callable.E) (c93 : r7_isClass.E) (c94 : r7_Open.E) (c41 : sl_Contains_int.E) (c95 : r7_exceptionOk.E) (c34 : r7_Obj.E) (c7 : r7_IsObject.E) (k : Nat)  (s : St) : Option (Bool) := atGate (r7_links.C c91 c92 c93 c94 c41 c95 c34 c7) k [1, 1, 0, 1, 0, 1, 1, 1, 1, 1, 1, 1, 1, 1, 1, 1, 1, 1, 0, 0] [] r7_links.code (r7_links.fin c91 c92 c93 c94 c41 c95 c34 c7) s
noncomputable def r7_links.fr_g37 (x2 : List X_Object) (x5 : X_Object) : St := ⟨(((List.replicate 286 V.un).set 2 (V.bp 600002 0 [])).set 5 (V.bp 600005 0 [])), [⟨600005, 0, .box (V.dat Y_Object x5)⟩, ⟨600002, 0, .box (V.dat Y_Heap x2)⟩]⟩
noncomputable def r7_links.M_g42 (c91 : r7_RangeOk.E) (c92 : r7_callable.E) (c93 : r7_isClass.E) (c94 : r7_Open.E) (c41 : sl_Contains_int.E) (c95 : r7_exceptionOk.E) (c34 : r7_Obj.E) (c7 : r7_IsObject.E) (k : Nat)  (s : St) : Option (Bool) := atGate (r7_links.C c91 c92 c93 c94 c41 c95 c34 c7) k [1, 1, 0, 1, 0, 1, 1, 1, 1, 1, 1, 1, 1, 1, 1, 1, 1, 1, 0, 1, 1, 0, 1, 0, 0] [] r7_links.code (r7_links.fin c91 c92 c93 c94 c41 c95 c34 c7) s
noncomputable def r7_links.fr_g42 (x5 : X_Object) : St := ⟨((List.replicate 286 V.un).set 5 (V.bp 600005 0 [])), [⟨600005, 0, .box (V.dat Y_Object x5)⟩]⟩
noncomputable def r7_links.M_g44 (c91 : r7_RangeOk.E) (c92 : r7_callable.E) (c93 : r7_isClass.E) (c94 : r7_Open.E) (c41 : sl_Contains_int.E) (c95 : r7_exceptionOk.E) (c34 : r7_Obj.E) (c7 : r7_IsObject.E) (k : Nat)  (s : St) : Option (Bool) := atGate (r7_links.C c91 c92 c93 c94 c41 c95 c34 c7) k [1, 1, 0, 1, 0, 1, 1, 1, 1, 1, 1, 1, 1, 1, 1, 1, 1, 1, 0, 1, 1, 0, 1, 1, 1, 0, 0] [] r7_links.code (r7_links.fin c91 c92 c93 c94 c41 c95 c34 c7) s
noncomputable def r7_links.fr_g44 (x5 : X_Object) : St := ⟨((List.replicate 286 V.un).set 5 (V.bp 600005 0 [])), [⟨600005, 0, .box (V.dat Y_Object x5)⟩]⟩
noncomputable def r7_links.M_g39 (c91 : r7_RangeOk.E) (c92 : r7_callable.E) (c93 : r7_isClass.E) (c94 : r7_Open.E) (c41 : sl_Contains_int.E) (c95 : r7_exceptionOk.E) (c34 : r7_Obj.E) (c7 : r7_IsObject.E) (k : Nat)  (s : St) : Option (Bool) := atGate (r7_links.C c91 c92 c93 c94 c41 c95 c34 c7) k [1, 1, 0, 1, 0, 1, 1, 1, 1, 1, 1, 1, 1, 1, 1, 1, 1, 1, 0, 1, 1, 0, 1, 1, 1, 1, 0] [] r7_links.code (r7_links.fin c91 c92 c93 c94 c41 c95 c34 c7) s
noncomputable def r7_links.fr_g39 (x5 : X_Object) (x14 : X_Object) : St := ⟨(((List.replicate 286 V.un).set 5 (V.bp 600005 0 [])).set 14 (V.bp 600014 0 [])), [⟨600014, 0, .box (V.dat Y_Object x14)⟩, ⟨600005, 0, .box (V.dat Y_Object x5)⟩]⟩
noncomputable def r7_links.M_g47 (c91 : r7_RangeOk.E) (c92 : r7_callable.E) (c93 : r7_isClass.E) (c94 : r7_Open.E) (c41 : sl_Contains_int.E) (c95 : r7_exceptionOk.E) (c34 : r7_Obj.E) (c7 : r7_IsObject.E) (k : Nat)  (s : St) : Option (Bool) := atGate (r7_links.C c91 c92 c93 c94 c41 c95 c34 c7) k [1, 1, 0, 1, 0, 1, 1, 1, 1, 1, 1, 1, 1, 1, 1, 1, 1, 1, 1, 1, 0, 1, 0, 0] [] r7_links.code (r7_links.fin c91 c92 c93 c94 c41 c95 c34 c7) s
noncomputable def r7_links.fr_g47 (x2 : List X_Object) (x5 : X_Object) : St := ⟨(((List.replicate 286 V.un).set 2 (V.bp 600002 0 [])).set 5 (V.bp 600005 0 [])), [⟨600005, 0, .box (V.dat Y_Object x5)⟩, ⟨600002, 0, .box (V.dat Y_Heap x2)⟩]⟩
noncomputable def r7_links.M_g50 (c91 : r7_RangeOk.E) (c92 : r7_callable.E) (c93 : r7_isClass.E) (c94 : r7_Open.E) (c41 : sl_Contains_int.E) (c95 : r7_exceptionOk.E) (c34 : r7_Obj.E) (c7 : r7_IsObject.E) (k : Nat)  (s : St) : Option (Bool) := atGate (r7_links.C c91 c92 c93 c94 c41 c95 c34 c7) k [1, 1, 0, 1, 0, 1, 1, 1, 1, 1, 1, 1, 1, 1, 1, 1, 1, 1, 1, 1, 1, 1, 0, 0] [] r7_links.code (r7_links.fin c91 c92 c93 c94 c41 c95 c34 c7) s
noncomputable def r7_links.fr_g50 (x2 : List X_Object) (x5 : X_Object) : St := ⟨(((List.replicate 286 V.un).set 2 (V.bp 600002 0 [])).set 5 (V.bp 600005 0 [])), [⟨600005, 0, .box (V.dat Y_Object x5)⟩, ⟨600002, 0, .box (V.dat Y_Heap x2)⟩]⟩
noncomputable def r7_links.M_g52 (c91 : r7_RangeOk.E) (c92 : r7_callable.E) (c93 : r7_isClass.E) (c94 : r7_Open.E) (c41 : sl_Contains_int.E) (c95 : r7_exceptionOk.E) (c34 : r7_Obj.E) (c7 : r7_IsObject.E) (k : Nat)  (s : St) : Option (Bool) := atGate (r7_links.C c91 c92 c93 c94 c41 c95 c34 c7) k [1, 1, 0, 1, 0, 1, 1, 1, 1, 1, 1, 1, 1, 1, 1, 1, 1, 1, 1, 1, 1, 1, 1, 1, 0, 0] [] r7_links.code (r7_links.fin c91 c92 c93 c94 c41 c95 c34 c7) s
noncomputable def r7_links.fr_g52 (x5 : X_Object) : St := ⟨((List.replicate 286 V.un).set 5 (V.bp 600005 0 [])), [⟨600005, 0, .box (V.dat Y_Object x5)⟩]⟩
theorem r7_links.r (c91 : r7_RangeOk.E) (c92 : r7_callable.E) (c93 : r7_isClass.E) (c94 : r7_Open.E) (c41 : sl_Contains_int.E) (c95 : r7_exceptionOk.E) (c34 : r7_Obj.E) (c7 : r7_IsObject.E) (k : Nat) (a0 : List X_Object) (a1 : Int) : fn (r7_links.C c91 c92 c93 c94 c41 c95 c34 c7) k Tryz.f69 r7_links.A r7_links.R (a0, a1) = r7_links.b c91 c92 c93 c94 c41 c95 c34 c7 (fun x2 x5 x30 x31 x32 => r7_links.M_l1 c91 c92 c93 c94 c41 c95 c34 c7 k k  (r7_links.fr_l1 x2 x5 x30 x31 x32)) (fun x2 x5 => r7_links.M_g15 c91 c92 c93 c94 c41 c95 c34 c7 k   (r7_links.fr_g15 x2 x5)) (fun x1 x2 x5 x64 x65 x66 => r7_links.M_l3 c91 c92 c93 c94 c41 c95 c34 c7 k k  (r7_links.fr_l3 x1 x2 x5 x64 x65 x66)) (fun x1 x2 x5 => r7_links.M_g25 c91 c92 c93 c94 c41 c95 c34 c7 k   (r7_links.fr_g25 x1 x2 x5)) (fun x2 x5 => r7_links.M_g27 c91 c92 c93 c94 c41 c95 c34 c7 k   (r7_links.fr_g27 x2 x5)) (fun x2 x5 => r7_links.M_g37 c91 c92 c93 c94 c41 c95 c34 c7 k   (r7_links.fr_g37 x2 x5)) (fun x2 x5 => r7_links.M_g47 c91 c92 c93 c94 c41 c95 c34 c7 k   (r7_links.fr_g47 x2 x5)) (fun x2 x5 => r7_links.M_g50 c91 c92 c93 c94 c41 c95 c34 c7 k   (r7_links.fr_g50 x2 x5)) (fun x5 => r7_links.M_g52 c91 c92 c93 c94 c41 c95 c34 c7 k   (r7_links.fr_g52 x5)) a0 a1 := by kernel_rfl
theorem r7_links.z_l1 (c91 : r7_RangeOk.E) (c92 : r7_callable.E) (c93 : r7_isClass.E) (c94 : r7_Open.E) (c41 : sl_Contains_int.E) (c95 : r7_exceptionOk.E) (c34 : r7_Obj.E) (c7 : r7_IsObject.E) (k : Nat)  (s : St) : r7_links.M_l1 c91 c92 c93 c94 c41 c95 c34 c7 k 0  s = none := by kernel_rfl
theorem r7_links.r_l1 (c91 : r7_RangeOk.E) (c92 : r7_callable.E) (c93 : r7_isClass.E) (c94 : r7_Open.E) (c41 : sl_Contains_int.E) (c95 : r7_exceptionOk.E) (c34 : r7_Obj.E) (c7 : r7_IsObject.E) (k n : Nat)  (x2 : List X_Object) (x5 : X_Object) (x30 : List (Int)) (x31 : Int) (x32 : Int) : r7_links.M_l1 c91 c92 c93 c94 c41 c95 c34 c7 k (n + 1)  (r7_links.fr_l1 x2 x5 x30 x31 x32) = r7_links.b_l1 c91 c92 c93 c94 c41 c95 c34 c7 (fun x2 x5 x30 x31 x32 => r7_links.M_l1 c91 c92 c93 c94 c41 c95 c34 c7 k n  (r7_links.fr_l1 x2 x5 x30 x31 x32)) x2 x5 x30 x31 x32 := by kernel_rfl
theorem r7_links.r_g15 (c91 : r7_RangeOk.E) (c92 : r7_callable.E) (c93 : r7_isClass.E) (c94 : r7_Open.E) (c41 : sl_Contains_int.E) (c95 : r7_exceptionOk.E) (c34 : r7_Obj.E) (c7 : r7_IsObject.E) (k : Nat)  (x2 : List X_Object) (x5 : X_Object) : r7_links.M_g15 c91 c92 c93 c94 c41 c95 c34 c7 k  (r7_links.fr_g15 x2 x5) = gate k (r7_links.b_g15 c91 c92 c93 c94 c41 c95 c34 c7  x2 x5) := by kernel_rfl
theorem r7_links.z_l3 (c91 : r7_RangeOk.E) (c92 : r7_callable.E) (c93 : r7_isClass.E) (c94 : r7_Open.E) (c41 : sl_Contains_int.E) (c95 : r7_exceptionOk.E) (c34 : r7_Obj.E) (c7 : r7_IsObject.E) (k : Nat)  (s : St) : r7_links.M_l3 c91 c92 c93 c94 c41 c95 c34 c7 k 0  s = none := by kernel_rfl
theorem r7_links.r_l3 (c91 : r7_RangeOk.E) (c92 : r7_callable.E) (c93 : r7_isClass.E) (c94 : r7_Open.E) (c41 : sl_Contains_int.E) (c95 : r7_exceptionOk.E) (c34 : r7_Obj.E) (c7 : r7_IsObject.E) (k n : Nat)  (x1 : Int) (x2 : List X_Object) (x5 : X_Object) (x64 : List (Int)) (x65 : Int) (x66 : Int) : r7_links.M_l3 c91 c92 c93 c94 c41 c95 c34 c7 k (n + 1)  (r7_links.fr_l3 x1 x2 x5 x64 x65 x66) = r7_links.b_l3 c91 c92 c93 c94 c41 c95 c34 c7 (fun x1 x2 x5 x64 x65 x66 => r7_links.M_l3 c91 c92 c93 c94 c41 c95 c34 c7 k n  (r7_links.fr_l3 x1 x2 x5 x64 x65 x66)) x1 x2 x5 x64 x65 x66 := by kernel_rfl
theorem r7_links.r_g25 (c91 : r7_RangeOk.E) (c92 : r7_callable.E) (c93 : r7_isClass.E) (c94 : r7_Open.E) (c41 : sl_Contains_int.E) (c95 : r7_exceptionOk.E) (c34 : r7_Obj.E) (c7 : r7_IsObject.E) (k : Nat)  (x1 : Int) (x2 : List X_Object) (x5 : X_Object) : r7_links.M_g25 c91 c92 c93 c94 c41 c95 c34 c7 k  (r7_links.fr_g25 x1 x2 x5) = gate k (r7_links.b_g25 c91 c92 c93 c94 c41 c95 c34 c7  x1 x2 x5) := by kernel_rfl
theorem r7_links.r_g27 (c91 : r7_RangeOk.E) (c92 : r7_callable.E) (c93 : r7_isClass.E) (c94 : r7_Open.E) (c41 : sl_Contains_int.E) (c95 : r7_exceptionOk.E) (c34 : r7_Obj.E) (c7 : r7_IsObject.E) (k : Nat)  (x2 : List X_Object) (x5 : X_Object) : r7_links.M_g27 c91 c92 c93 c94 c41 c95 c34 c7 k  (r7_links.fr_g27 x2 x5) = gate k (r7_links.b_g27 c91 c92 c93 c94 c41 c95 c34 c7 (fun x2 x10 x12 => r7_links.M_g35 c91 c92 c93 c94 c41 c95 c34 c7 k   (r7_links.fr_g35 x2 x10 x12)) x2 x5) := by kernel_rfl
theorem r7_links.r_g35 (c91 : r7_RangeOk.E) (c92 : r7_callable.E) (c93 : r7_isClass.E) (c94 : r7_Open.E) (c41 : sl_Contains_int.E) (c95 : r7_exceptionOk.E) (c34 : r7_Obj.E) (c7 : r7_IsObject.E) (k : Nat)  (x2 : List X_Object) (x10 : X_Value) (x12 : Int) : r7_links.M_g35 c91 c92 c93 c94 c41 c95 c34 c7 k  (r7_links.fr_g35 x2 x10 x12) = gate k (r7_links.b_g35 c91 c92 c93 c94 c41 c95 c34 c7  x2 x10 x12) := by kernel_rfl
theorem r7_links.r_g37 (c91 : r7_RangeOk.E) (c92 : r7_callable.E) (c93 : r7_isClass.E) (c94 : r7_Open.E) (c41 : sl_Contains_int.E) (c95 : r7_exceptionOk.E) (c34 : r7_Obj.E) (c7 : r7_IsObject.E) (k : Nat)  (x2 : List X_Object) (x5 : X_Object) : r7_links.M_g37 c91 c92 c93 c94 c41 c95 c34 c7 k  (r7_links.fr_g37 x2 x5) = gate k (r7_links.b_g37 c91 c92 c93 c94 c41 c95 c34 c7 (fun x5 => r7_links.M_g42 c91 c92 c93 c94 c41 c95 c34 c7 k   (r7_links.fr_g42 x5)) (fun x5 => r7_links.M_g44 c91 c92 c93 c94 c41 c95 c34 c7 k   (r7_links.fr_g44 x5)) (fun x5 x14 => r7_links.M_g39 c91 c92 c93 c94 c41 c95 c34 c7 k   (r7_links.fr_g39 x5 x14)) x2 x5) := by kernel_rfl
theorem r7_links.r_g42 (c91 : r7_RangeOk.E) (c92 : r7_callable.E) (c93 : r7_isClass.E) (c94 : r7_Open.E) (c41 : sl_Contains_int.E) (c95 : r7_exceptionOk.E) (c34 : r7_Obj.E) (c7 : r7_IsObject.E) (k : Nat)  (x5 : X_Object) : r7_links.M_g42 c91 c92 c93 c94 c41 c95 c34 c7 k  (r7_links.fr_g42 x5) = gate k (r7_links.b_g42 c91 c92 c93 c94 c41 c95 c34 c7  x5) := by kernel_rfl
theorem r7_links.r_g44 (c91 : r7_RangeOk.E) (c92 : r7_callable.E) (c93 : r7_isClass.E) (c94 : r7_Open.E) (c41 : sl_Contains_int.E) (c95 : r7_exceptionOk.E) (c34 : r7_Obj.E) (c7 : r7_IsObject.E) (k : Nat)  (x5 : X_Object) : r7_links.M_g44 c91 c92 c93 c94 c41 c95 c34 c7 k  (r7_links.fr_g44 x5) = gate k (r7_links.b_g44 c91 c92 c93 c94 c41 c95 c34 c7  x5) := by kernel_rfl
theorem r7_links.r_g39 (c91 : r7_RangeOk.E) (c92 : r7_callable.E) (c93 : r7_isClass.E) (c94 : r7_Open.E) (c41 : sl_Contains_int.E) (c95 : r7_exceptionOk.E) (c34 : r7_Obj.E) (c7 : r7_IsObject.E) (k : Nat)  (x5 : X_Object) (x14 : X_Object) : r7_links.M_g39 c91 c92 c93 c94 c41 c95 c34 c7 k  (r7_links.fr_g39 x5 x14) = gate k (r7_links.b_g39 c91 c92 c93 c94 c41 c95 c34 c7  x5 x14) := by kernel_rfl
theorem r7_links.r_g47 (c91 : r7_RangeOk.E) (c92 : r7_callable.E) (c93 : r7_isClass.E) (c94 : r7_Open.E) (c41 : sl_Contains_int.E) (c95 : r7_exceptionOk.E) (c34 : r7_Obj.E) (c7 : r7_IsObject.E) (k : Nat)  (x2 : List X_Object) (x5 : X_Object) : r7_links.M_g47 c91 c92 c93 c94 c41 c95 c34 c7 k  (r7_links.fr_g47 x2 x5) = gate k (r7_links.b_g47 c91 c92 c93 c94 c41 c95 c34 c7  x2 x5) := by kernel_rfl
theorem r7_links.r_g50 (c91 : r7_RangeOk.E) (c92 : r7_callable.E) (c93 : r7_isClass.E) (c94 : r7_Open.E) (c41 : sl_Contains_int.E) (c95 : r7_exceptionOk.E) (c34 : r7_Obj.E) (c7 : r7_IsObject.E) (k : Nat)  (x2 : List X_Object) (x5 : X_Object) : r7_links.M_g50 c91 c92 c93 c94 c41 c95 c34 c7 k  (r7_links.fr_g50 x2 x5) = gate k (r7_links.b_g50 c91 c92 c93 c94 c41 c95 c34 c7  x2 x5) := by kernel_rfl
theorem r7_links.r_g52 (c91 : r7_RangeOk.E) (c92 : r7_callable.E) (c93 : r7_isClass.E) (c94 : r7_Open.E) (c41 : sl_Contains_int.E) (c95 : r7_exceptionOk.E) (c34 : r7_Obj.E) (c7 : r7_IsObject.E) (k : Nat)  (x5 : X_Object) : r7_links.M_g52 c91 c92 c93 c94 c41 c95 c34 c7 k  (r7_links.fr_g52 x5) = gate k (r7_links.b_g52 c91 c92 c93 c94 c41 c95 c34 c7  x5) := by kernel_rfl
theorem r7_links.e_l1 (c91 : r7_RangeOk.E) (c92 : r7_callable.E) (c93 : r7_isClass.E) (c94 : r7_Open.E) (c41 : sl_Contains_int.E) (c95 : r7_exceptionOk.E) (c34 : r7_Obj.E) (c7 : r7_IsObject.E) (k n : Nat)  (x2 : List X_Object) (x5 : X_Object) (x30 : List (Int)) (x31 : Int) (x32 : Int) : r7_links.M_l1 c91 c92 c93 c94 c41 c95 c34 c7 k n  (r7_links.fr_l1 x2 x5 x30 x31 x32) = r7_links.l1 c91 c92 c93 c94 c41 c95 c34 c7 k  n x2 x5 x30 x31 x32 := by
  induction n generalizing x2 x5 x30 x31 x32 with
  | zero => rw [r7_links.z_l1]; rfl
  | succ n ih =>
    rw [r7_links.r_l1]
    simp only [ih]
    rfl
theorem r7_links.e_g15 (c91 : r7_RangeOk.E) (c92 : r7_callable.E) (c93 : r7_isClass.E) (c94 : r7_Open.E) (c41 : sl_Contains_int.E) (c95 : r7_exceptionOk.E) (c34 : r7_Obj.E) (c7 : r7_IsObject.E) (k : Nat)  (x2 : List X_Object) (x5 : X_Object) : r7_links.M_g15 c91 c92 c93 c94 c41 c95 c34 c7 k  (r7_links.fr_g15 x2 x5) = r7_links.g15 c91 c92 c93 c94 c41 c95 c34 c7 k  x2 x5 := by
  rw [r7_links.r_g15]
  rfl
theorem r7_links.e_l3 (c91 : r7_RangeOk.E) (c92 : r7_callable.E) (c93 : r7_isClass.E) (c94 : r7_Open.E) (c41 : sl_Contains_int.E) (c95 : r7_exceptionOk.E) (c34 : r7_Obj.E) (c7 : r7_IsObject.E) (k n : Nat)  (x1 : Int) (x2 : List X_Object) (x5 : X_Object) (x64 : List (Int)) (x65 : Int) (x66 : Int) : r7_links.M_l3 c91 c92 c93 c94 c41 c95 c34 c7 k n  (r7_links.fr_l3 x1 x2 x5 x64 x65 x66) = r7_links.l3 c91 c92 c93 c94 c41 c95 c34 c7 k  n x1 x2 x5 x64 x65 x66 := by
  induction n generalizing x1 x2 x5 x64 x65 x66 with
  | zero => rw [r7_links.z_l3]; rfl
  | succ n ih =>
    rw [r7_links.r_l3]
    simp only [ih]
    rfl
theorem r7_links.e_g25 (c91 : r7_RangeOk.E) (c92 : r7_callable.E) (c93 : r7_isClass.E) (c94 : r7_Open.E) (c41 : sl_Contains_int.E) (c95 : r7_exceptionOk.E) (c34 : r7_Obj.E) (c7 : r7_IsObject.E) (k : Nat)  (x1 : Int) (x2 : List X_Object) (x5 : X_Object) : r7_links.M_g25 c91 c92 c93 c94 c41 c95 c34 c7 k  (r7_links.fr_g25 x1 x2 x5) = r7_links.g25 c91 c92 c93 c94 c41 c95 c34 c7 k  x1 x2 x5 := by
  rw [r7_links.r_g25]
  rfl
theorem r7_links.e_g35 (c91 : r7_RangeOk.E) (c92 : r7_callable.E) (c93 : r7_isClass.E) (c94 : r7_Open.E) (c41 : sl_Contains_int.E) (c95 : r7_exceptionOk.E) (c34 : r7_Obj.E) (c7 : r7_IsObject.E) (k : Nat)  (x2 : List X_Object) (x10 : X_Value) (x12 : Int) : r7_links.M_g35 c91 c92 c93 c94 c41 c95 c34 c7 k  (r7_links.fr_g35 x2 x10 x12) = r7_links.g35 c91 c92 c93 c94 c41 c95 c34 c7 k  x2 x10 x12 := by
  rw [r7_links.r_g35]
  rfl
theorem r7_links.e_g27 (c91 : r7_RangeOk.E) (c92 : r7_callable.E) (c93 : r7_isClass.E) (c94 : r7_Open.E) (c41 : sl_Contains_int.E) (c95 : r7_exceptionOk.E) (c34 : r7_Obj.E) (c7 : r7_IsObject.E) (k : Nat)  (x2 : List X_Object) (x5 : X_Object) : r7_links.M_g27 c91 c92 c93 c94 c41 c95 c34 c7 k  (r7_links.fr_g27 x2 x5) = r7_links.g27 c91 c92 c93 c94 c41 c95 c34 c7 k  x2 x5 := by
  rw [r7_links.r_g27]
  simp only [r7_links.e_g35]
  rfl
theorem r7_links.e_g42 (c91 : r7_RangeOk.E) (c92 : r7_callable.E) (c93 : r7_isClass.E) (c94 : r7_Open.E) (c41 : sl_Contains_int.E) (c95 : r7_exceptionOk.E) (c34 : r7_Obj.E) (c7 : r7_IsObject.E) (k : Nat)  (x5 : X_Object) : r7_links.M_g42 c91 c92 c93 c94 c41 c95 c34 c7 k  (r7_links.fr_g42 x5) = r7_links.g42 c91 c92 c93 c94 c41 c95 c34 c7 k  x5 := by
  rw [r7_links.r_g42]
  rfl
theorem r7_links.e_g44 (c91 : r7_RangeOk.E) (c92 : r7_callable.E) (c93 : r7_isClass.E) (c94 : r7_Open.E) (c41 : sl_Contains_int.E) (c95 : r7_exceptionOk.E) (c34 : r7_Obj.E) (c7 : r7_IsObject.E) (k : Nat)  (x5 : X_Object) : r7_links.M_g44 c91 c92 c93 c94 c41 c95 c34 c7 k  (r7_links.fr_g44 x5) = r7_links.g44 c91 c92 c93 c94 c41 c95 c34 c7 k  x5 := by
  rw [r7_links.r_g44]
  rfl
theorem r7_links.e_g39 (c91 : r7_RangeOk.E) (c92 : r7_callable.E) (c93 : r7_isClass.E) (c94 : r7_Open.E) (c41 : sl_Contains_int.E) (c95 : r7_exceptionOk.E) (c34 : r7_Obj.E) (c7 : r7_IsObject.E) (k : Nat)  (x5 : X_Object) (x14 : X_Object) : r7_links.M_g39 c91 c92 c93 c94 c41 c95 c34 c7 k  (r7_links.fr_g39 x5 x14) = r7_links.g39 c91 c92 c93 c94 c41 c95 c34 c7 k  x5 x14 := by
  rw [r7_links.r_g39]
  rfl
theorem r7_links.e_g37 (c91 : r7_RangeOk.E) (c92 : r7_callable.E) (c93 : r7_isClass.E) (c94 : r7_Open.E) (c41 : sl_Contains_int.E) (c95 : r7_exceptionOk.E) (c34 : r7_Obj.E) (c7 : r7_IsObject.E) (k : Nat)  (x2 : List X_Object) (x5 : X_Object) : r7_links.M_g37 c91 c92 c93 c94 c41 c95 c34 c7 k  (r7_links.fr_g37 x2 x5) = r7_links.g37 c91 c92 c93 c94 c41 c95 c34 c7 k  x2 x5 := by
  rw [r7_links.r_g37]
  simp only [r7_links.e_g39, r7_links.e_g42, r7_links.e_g44]
  rfl
theorem r7_links.e_g47 (c91 : r7_RangeOk.E) (c92 : r7_callable.E) (c93 : r7_isClass.E) (c94 : r7_Open.E) (c41 : sl_Contains_int.E) (c95 : r7_exceptionOk.E) (c34 : r7_Obj.E) (c7 : r7_IsObject.E) (k : Nat)  (x2 : List X_Object) (x5 : X_Object) : r7_links.M_g47 c91 c92 c93 c94 c41 c95 c34 c7 k  (r7_links.fr_g47 x2 x5) = r7_links.g47 c91 c92 c93 c94 c41 c95 c34 c7 k  x2 x5 := by
  rw [r7_links.r_g47]
  rfl
theorem r7_links.e_g50 (c91 : r7_RangeOk.E) (c92 : r7_callable.E) (c93 : r7_isClass.E) (c94 : r7_Open.E) (c41 : sl_Contains_int.E) (c95 : r7_exceptionOk.E) (c34 : r7_Obj.E) (c7 : r7_IsObject.E) (k : Nat)  (x2 : List X_Object) (x5 : X_Object) : r7_links.M_g50 c91 c92 c93 c94 c41 c95 c34 c7 k  (r7_links.fr_g50 x2 x5) = r7_links.g50 c91 c92 c93 c94 c41 c95 c34 c7 k  x2 x5 := by
  rw [r7_links.r_g50]
  rfl
theorem r7_links.e_g52 (c91 : r7_RangeOk.E) (c92 : r7_callable.E) (c93 : r7_isClass.E) (c94 : r7_Open.E) (c41 : sl_Contains_int.E) (c95 : r7_exceptionOk.E) (c34 : r7_Obj.E) (c7 : r7_IsObject.E) (k : Nat)  (x5 : X_Object) : r7_links.M_g52 c91 c92 c93 c94 c41 c95 c34 c7 k  (r7_links.fr_g52 x5) = r7_links.g52 c91 c92 c93 c94 c41 c95 c34 c7 k  x5 := by
  rw [r7_links.r_g52]
  rfl
theorem r7_links.e (c91 : r7_RangeOk.E) (c92 : r7_callable.E) (c93 : r7_isClass.E) (c94 : r7_Open.E) (c41 : sl_Contains_int.E) (c95 : r7_exceptionOk.E) (c34 : r7_Obj.E) (c7 : r7_IsObject.E) (k : Nat) (a0 : List X_Object) (a1 : Int) : fn (r7_links.C c91 c92 c93 c94 c41 c95 c34 c7) k Tryz.f69 r7_links.A r7_links.R (a0, a1) = r7_links.f c91 c92 c93 c94 c41 c95 c34 c7 k a0 a1 := by
  rw [r7_links.r]
  simp only [r7_links.e_g15, r7_links.e_g25, r7_links.e_g27, r7_links.e_g37, r7_links.e_g47, r7_links.e_g50, r7_links.e_g52, r7_links.e_l1, r7_links.e_l3]
  rfl
theorem r7_links.ty (c91 : r7_RangeOk.E) (c92 : r7_callable.E) (c93 : r7_isClass.E) (c94 : r7_Open.E) (c41 : sl_Contains_int.E) (c95 : r7_exceptionOk.E) (c34 : r7_Obj.E) (c7 : r7_IsObject.E) : TyOk Tryz.prog (r7_links.C c91 c92 c93 c94 c41 c95 c34 c7) := tyOk_of (by kernel_rfl)
def r7_links.u (k : Nat) : r7_links.E := fun y => r7_links.f (r7_RangeOk.u k) (r7_callable.u k) (r7_isClass.u k) (r7_Open.u k) (sl_Contains_int.u k) (r7_exceptionOk.u k) (r7_Obj.u k) (r7_IsObject.u k) k y.1 y.2
theorem r7_links.sound (k : Nat) : Sound Tryz.prog ⟨69, r7_links.A, r7_links.R, r7_links.u k⟩ := by
  have h := fn_sound (k := k) («as» := r7_links.A) (rs := r7_links.R) (r7_links.ty (r7_RangeOk.u k) (r7_callable.u k) (r7_isClass.u k) (r7_Open.u k) (sl_Contains_int.u k) (r7_exceptionOk.u k) (r7_Obj.u k) (r7_IsObject.u k)) (fun E h => by
    simp only [r7_links.C, List.mem_cons, List.not_mem_nil, or_false] at h
    rcases h with rfl | rfl | rfl | rfl | rfl | rfl | rfl | rfl
    · exact r7_RangeOk.sound k
    · exact r7_callable.sound k
    · exact r7_isClass.sound k
    · exact r7_Open.sound k
    · exact sl_Contains_int.sound k
    · exact r7_exceptionOk.sound k
    · exact r7_Obj.sound k
    · exact r7_IsObject.sound k) mixed Tryz.func69 (by kernel_rfl) (by kernel_rfl)
  have e : fn (r7_links.C (r7_RangeOk.u k) (r7_callable.u k) (r7_isClass.u k) (r7_Open.u k) (sl_Contains_int.u k) (r7_exceptionOk.u k) (r7_Obj.u k) (r7_IsObject.u k)) k Tryz.f69 r7_links.A r7_links.R = r7_links.u k := by
    funext y
    exact r7_links.e (r7_RangeOk.u k) (r7_callable.u k) (r7_isClass.u k) (r7_Open.u k) (sl_Contains_int.u k) (r7_exceptionOk.u k) (r7_Obj.u k) (r7_IsObject.u k) k y.1 y.2
  rw [e] at h
  exact h
end
end Go.Ab
