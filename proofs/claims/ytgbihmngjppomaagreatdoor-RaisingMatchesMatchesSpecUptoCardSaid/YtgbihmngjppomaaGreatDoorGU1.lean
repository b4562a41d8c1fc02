/- A part of the proof: GU1. -/
import Derived.Test.YtgbihmngjppomaaGreatDoorFTy
import Derived.Test.YtgbihmngjppomaaGreatDoorGC2
import Derived.Test.YtgbihmngjppomaaGreatDoorGT1
import Derived.Test.YtgbihmngjppomaaGreatDoorGT2
import Derived.Test.YtgbihmngjppomaaGreatDoorGT4
namespace Go.Ab
set_option linter.unusedVariables false
set_option linter.unusedSimpArgs false
set_option maxRecDepth 100000
noncomputable section
open Go.Proofs
/-! ### brindlewood/heap.Derives: f32 -/
abbrev f_heap_Derives.A : List Sh := [(.d Y_Heap), (.d (.int .i64)), (.d (.int .i64))]
abbrev f_heap_Derives.R : List Sh := [(.d .bool)]
abbrev f_heap_Derives.E : Type := ((List X_Object) × X_acceptRange) → Option (Bool)
def f_heap_Derives.C (c41 : sl_Contains_int.E) : Ctx := { ty := [(22, (.sl 36 Y_Object)), (24, Y_Heap), (32, (.sl 3 (.int .i64))), (36, Y_Object)], nf := [(24, 1), (36, 10)], by_ := [(3, 8), (36, 168)], env := [⟨41, sl_Contains_int.A, sl_Contains_int.R, c41⟩], spec := [] }
noncomputable def f_heap_Derives.code : Code := Func.code Tryz.f32
noncomputable def f_heap_Derives.fin (c41 : sl_Contains_int.E) := kfin (f_heap_Derives.C c41) Tryz.f32 f_heap_Derives.A f_heap_Derives.R
def f_heap_Derives.b (c41 : sl_Contains_int.E)  (a0 : List X_Object) (a1 : Int) (a2 : Int) : Option (Bool) :=
  if 0 ≤ a1 ∧ a1 < ((List.length a0) : Int) then
    (c41 ((((((List.getD a0 (Int.toNat a1) Z_Object).2).2).2).2).1, a2)).bind fun y1 =>
      some y1
  else none
def f_heap_Derives.c (c41 : sl_Contains_int.E)  (a0 : List X_Object) (a1 : Int) (a2 : Int) : Option (Bool) :=
  if 0 ≤ a1 ∧ a1 < ((List.length a0) : Int) then
    (c41 ((((((List.getD a0 (Int.toNat a1) Z_Object).2).2).2).2).1, a2)).bind fun y1 =>
      some y1
  else none
theorem f_heap_Derives.q (c41 : sl_Contains_int.E)  (a0 : List X_Object) (a1 : Int) (a2 : Int) : f_heap_Derives.b c41 a0 a1 a2 = f_heap_Derives.c c41 a0 a1 a2 := by
  simp only [f_heap_Derives.b, f_heap_Derives.c, List.take_length, take_one, Nat.zero_add, Int.toNat_natCast, Int.toNat_zero, List.drop_zero, List.append_eq, Nat.le_refl, Int.le_refl, true_and, and_true, zero_le_one, if_true, prod_eta, Int.natCast_zero]
def f_heap_Derives.f (c41 : sl_Contains_int.E) (k : Nat) (a0 : List X_Object) (a1 : Int) (a2 : Int) : Option (Bool) := f_heap_Derives.b c41  a0 a1 a2
theorem f_heap_Derives.r (c41 : sl_Contains_int.E) (k : Nat) (a0 : List X_Object) (a1 : Int) (a2 : Int) : fn (f_heap_Derives.C c41) k Tryz.f32 f_heap_Derives.A f_heap_Derives.R (a0, (a1, a2)) = f_heap_Derives.b c41  a0 a1 a2 := by kernel_rfl
theorem f_heap_Derives.e (c41 : sl_Contains_int.E) (k : Nat) (a0 : List X_Object) (a1 : Int) (a2 : Int) : fn (f_heap_Derives.C c41) k Tryz.f32 f_heap_Derives.A f_heap_Derives.R (a0, (a1, a2)) = f_heap_Derives.f c41 k a0 a1 a2 := by
  rw [f_heap_Derives.r]
  rfl
theorem f_heap_Derives.ty (c41 : sl_Contains_int.E) : TyOk Tryz.prog (f_heap_Derives.C c41) := tyOk_of (by kernel_rfl)
def f_heap_Derives.u (k : Nat) : f_heap_Derives.E := fun y => f_heap_Derives.f (sl_Contains_int.u k) k y.1 y.2.1 y.2.2
theorem f_heap_Derives.sound (k : Nat) : Sound Tryz.prog ⟨32, f_heap_Derives.A, f_heap_Derives.R, f_heap_Derives.u k⟩ := by
  have h := fn_sound (k := k) («as» := f_heap_Derives.A) (rs := f_heap_Derives.R) (f_heap_Derives.ty (sl_Contains_int.u k)) (fun E h => by
    simp only [f_heap_Derives.C, List.mem_cons, List.not_mem_nil, or_false] at h
    rcases h with rfl
    · exact sl_Contains_int.sound k) mixed Tryz.func32 (by kernel_rfl) (by kernel_rfl)
  have e : fn (f_heap_Derives.C (sl_Contains_int.u k)) k Tryz.f32 f_heap_Derives.A f_heap_Derives.R = f_heap_Derives.u k := by
    funext y
    exact f_heap_Derives.e (sl_Contains_int.u k) k y.1 y.2.1 y.2.2
  rw [e] at h
  exact h
/-! ### brindlewood/raising.Is: f8 -/
abbrev f_raising_Is.A : List Sh := [(.d Y_Heap), (.d Y_Value), (.d (.int .i64))]
abbrev f_raising_Is.R : List Sh := [(.d .bool)]
abbrev f_raising_Is.E : Type := ((List X_Object) × (X_Value × (Int))) → Option (Bool)
def f_raising_Is.C (c32 : f_heap_Derives.E) : Ctx := { ty := [(3, (.int .i64)), (22, (.sl 36 Y_Object)), (24, Y_Heap), (29, Y_Value), (36, Y_Object)], nf := [(24, 1), (29, 5), (36, 10)], by_ := [(36, 168)], env := [⟨32, f_heap_Derives.A, f_heap_Derives.R, c32⟩], spec := [] }
noncomputable def f_raising_Is.code : Code := Func.code Tryz.f8
noncomputable def f_raising_Is.fin (c32 : f_heap_Derives.E) := kfin (f_raising_Is.C c32) Tryz.f8 f_raising_Is.A f_raising_Is.R
def f_raising_Is.b (c32 : f_heap_Derives.E)  (a0 : List X_Object) (a1 : X_Value) (a2 : Int) : Option (Bool) :=
  bif (a1.1 == (6 : Int)) then
    if 0 ≤ a1.2.2.2.2 ∧ a1.2.2.2.2 < ((List.length a0) : Int) then
      bif (((List.getD a0 (Int.toNat a1.2.2.2.2) Z_Object).1) == (10 : Int)) then
        if 0 ≤ a1.2.2.2.2 ∧ a1.2.2.2.2 < ((List.length a0) : Int) then
          (c32 (a0, ((((List.getD a0 (Int.toNat a1.2.2.2.2) Z_Object).2).2).1, a2))).bind fun y1 =>
            some y1
        else none
      else
        some false
    else none
  else
    some false
def f_raising_Is.c (c32 : f_heap_Derives.E)  (a0 : List X_Object) (a1 : X_Value) (a2 : Int) : Option (Bool) :=
  bif (a1.1 == (6 : Int)) then
    if 0 ≤ a1.2.2.2.2 ∧ a1.2.2.2.2 < ((List.length a0) : Int) then
      bif (((List.getD a0 (Int.toNat a1.2.2.2.2) Z_Object).1) == (10 : Int)) then
        if 0 ≤ a1.2.2.2.2 ∧ a1.2.2.2.2 < ((List.length a0) : Int) then
          (c32 (a0, ((((List.getD a0 (Int.toNat a1.2.2.2.2) Z_Object).2).2).1, a2))).bind fun y1 =>
            some y1
        else none
      else
        some false
    else none
  else
    some false
theorem f_raising_Is.q (c32 : f_heap_Derives.E)  (a0 : List X_Object) (a1 : X_Value) (a2 : Int) : f_raising_Is.b c32 a0 a1 a2 = f_raising_Is.c c32 a0 a1 a2 := by
  simp only [f_raising_Is.b, f_raising_Is.c, List.take_length, take_one, Nat.zero_add, Int.toNat_natCast, Int.toNat_zero, List.drop_zero, List.append_eq, Nat.le_refl, Int.le_refl, true_and, and_true, zero_le_one, if_true, prod_eta, Int.natCast_zero]
def f_raising_Is.f (c32 : f_heap_Derives.E) (k : Nat) (a0 : List X_Object) (a1 : X_Value) (a2 : Int) : Option (Bool) := f_raising_Is.b c32  a0 a1 a2
theorem f_raising_Is.r (c32 : f_heap_Derives.E) (k : Nat) (a0 : List X_Object) (a1 : X_Value) (a2 : Int) : fn (f_raising_Is.C c32) k Tryz.f8 f_raising_Is.A f_raising_Is.R (a0, (a1, a2)) = f_raising_Is.b c32  a0 a1 a2 := by kernel_rfl
theorem f_raising_Is.e (c32 : f_heap_Derives.E) (k : Nat) (a0 : List X_Object) (a1 : X_Value) (a2 : Int) : fn (f_raising_Is.C c32) k Tryz.f8 f_raising_Is.A f_raising_Is.R (a0, (a1, a2)) = f_raising_Is.f c32 k a0 a1 a2 := by
  rw [f_raising_Is.r]
  rfl
theorem f_raising_Is.ty (c32 : f_heap_Derives.E) : TyOk Tryz.prog (f_raising_Is.C c32) := tyOk_of (by kernel_rfl)
def f_raising_Is.u (k : Nat) : f_raising_Is.E := fun y => f_raising_Is.f (f_heap_Derives.u k) k y.1 y.2.1 y.2.2
theorem f_raising_Is.sound (k : Nat) : Sound Tryz.prog ⟨8, f_raising_Is.A, f_raising_Is.R, f_raising_Is.u k⟩ := by
  have h := fn_sound (k := k) («as» := f_raising_Is.A) (rs := f_raising_Is.R) (f_raising_Is.ty (f_heap_Derives.u k)) (fun E h => by
    simp only [f_raising_Is.C, List.mem_cons, List.not_mem_nil, or_false] at h
    rcases h with rfl
    · exact f_heap_Derives.sound k) mixed Tryz.func8 (by kernel_rfl) (by kernel_rfl)
  have e : fn (f_raising_Is.C (f_heap_Derives.u k)) k Tryz.f8 f_raising_Is.A f_raising_Is.R = f_raising_Is.u k := by
    funext y
    exact f_raising_Is.e (f_heap_Derives.u k) k y.1 y.2.1 y.2.2
  rw [e] at h
  exact h
/-! ### brindlewood/brindlewoodref7.DerivesFrom: f33 -/
abbrev r7_DerivesFrom.A : List Sh := [(.d Y_Heap), (.d (.int .i64)), (.d (.int .i64))]
abbrev r7_DerivesFrom.R : List Sh := [(.d .bool)]
abbrev r7_DerivesFrom.E : Type := ((List X_Object) × X_acceptRange) → Option (Bool)
def r7_DerivesFrom.C (c41 : sl_Contains_int.E) : Ctx := { ty := [(22, (.sl 36 Y_Object)), (24, Y_Heap), (32, (.sl 3 (.int .i64))), (36, Y_Object)], nf := [(24, 1), (36, 10)], by_ := [(3, 8), (36, 168)], env := [⟨41, sl_Contains_int.A, sl_Contains_int.R, c41⟩], spec := [] }
noncomputable def r7_DerivesFrom.code : Code := Func.code Tryz.f33
noncomputable def r7_DerivesFrom.fin (c41 : sl_Contains_int.E) := kfin (r7_DerivesFrom.C c41) Tryz.f33 r7_DerivesFrom.A r7_DerivesFrom.R
def r7_DerivesFrom.b (c41 : sl_Contains_int.E)  (a0 : List X_Object) (a1 : Int) (a2 : Int) : Option (Bool) :=
  if 0 ≤ a1 ∧ a1 < ((List.length a0) : Int) then
    (c41 ((((((List.getD a0 (Int.toNat a1) Z_Object).2).2).2).2).1, a2)).bind fun y1 =>
      some y1
  else none
def r7_DerivesFrom.c (c41 : sl_Contains_int.E)  (a0 : List X_Object) (a1 : Int) (a2 : Int) : Option (Bool) :=
  if 0 ≤ a1 ∧ a1 < ((List.length a0) : Int) then
    (c41 ((((((List.getD a0 (Int.toNat a1) Z_Object).2).2).2).2).1, a2)).bind fun y1 =>
      some y1
  else none
theorem r7_DerivesFrom.q (c41 : sl_Contains_int.E)  (a0 : List X_Object) (a1 : Int) (a2 : Int) : r7_DerivesFrom.b c41 a0 a1 a2 = r7_DerivesFrom.c c41 a0 a1 a2 := by
  simp only [r7_DerivesFrom.b, r7_DerivesFrom.c, List.take_length, take_one, Nat.zero_add, Int.toNat_natCast, Int.toNat_zero, List.drop_zero, List.append_eq, Nat.le_refl, Int.le_refl, true_and, and_true, zero_le_one, if_true, prod_eta, Int.natCast_zero]
def r7_DerivesFrom.f (c41 : sl_Contains_int.E) (k : Nat) (a0 : List X_Object) (a1 : Int) (a2 : Int) : Option (Bool) := r7_DerivesFrom.b c41  a0 a1 a2
theorem r7_DerivesFrom.r (c41 : sl_Contains_int.E) (k : Nat) (a0 : List X_Object) (a1 : Int) (a2 : Int) : fn (r7_DerivesFrom.C c41) k Tryz.f33 r7_DerivesFrom.A r7_DerivesFrom.R (a0, (a1, a2)) = r7_DerivesFrom.b c41  a0 a1 a2 := by kernel_rfl
theorem r7_DerivesFrom.e (c41 : sl_Contains_int.E) (k : Nat) (a0 : List X_Object) (a1 : Int) (a2 : Int) : fn (r7_DerivesFrom.C c41) k Tryz.f33 r7_DerivesFrom.A r7_DerivesFrom.R (a0, (a1, a2)) = r7_DerivesFrom.f c41 k a0 a1 a2 := by
  rw [r7_DerivesFrom.r]
  rfl
theorem r7_DerivesFrom.ty (c41 : sl_Contains_int.E) : TyOk Tryz.prog (r7_DerivesFrom.C c41) := tyOk_of (by kernel_rfl)
def r7_DerivesFrom.u (k : Nat) : r7_DerivesFrom.E := fun y => r7_DerivesFrom.f (sl_Contains_int.u k) k y.1 y.2.1 y.2.2
theorem r7_DerivesFrom.sound (k : Nat) : Sound Tryz.prog ⟨33, r7_DerivesFrom.A, r7_DerivesFrom.R, r7_DerivesFrom.u k⟩ := by
  have h := fn_sound (k := k) («as» := r7_DerivesFrom.A) (rs := r7_DerivesFrom.R) (r7_DerivesFrom.ty (sl_Contains_int.u k)) (fun E h => by
    simp only [r7_DerivesFrom.C, List.mem_cons, List.not_mem_nil, or_false] at h
    rcases h with rfl
    · exact sl_Contains_int.sound k) mixed Tryz.func33 (by kernel_rfl) (by kernel_rfl)
  have e : fn (r7_DerivesFrom.C (sl_Contains_int.u k)) k Tryz.f33 r7_DerivesFrom.A r7_DerivesFrom.R = r7_DerivesFrom.u k := by
    funext y
    exact r7_DerivesFrom.e (sl_Contains_int.u k) k y.1 y.2.1 y.2.2
  rw [e] at h
  exact h
/-! ### brindlewood/brindlewoodref7.IsA: f9 -/
abbrev r7_IsA.A : List Sh := [(.d Y_Heap), (.d Y_Value), (.d (.int .i64))]
abbrev r7_IsA.R : List Sh := [(.d .bool)]
abbrev r7_IsA.E : Type := ((List X_Object) × (X_Value × (Int))) → Option (Bool)
def r7_IsA.C (c34 : r7_Obj.E) (c33 : r7_DerivesFrom.E) : Ctx := { ty := [(3, (.int .i64)), (24, Y_Heap), (29, Y_Value), (36, Y_Object)], nf := [(36, 10)], by_ := [], env := [⟨34, r7_Obj.A, r7_Obj.R, c34⟩, ⟨33, r7_DerivesFrom.A, r7_DerivesFrom.R, c33⟩], spec := [] }
noncomputable def r7_IsA.code : Code := Func.code Tryz.f9
noncomputable def r7_IsA.fin (c34 : r7_Obj.E) (c33 : r7_DerivesFrom.E) := kfin (r7_IsA.C c34 c33) Tryz.f9 r7_IsA.A r7_IsA.R
def r7_IsA.b (c34 : r7_Obj.E) (c33 : r7_DerivesFrom.E)  (a0 : List X_Object) (a1 : X_Value) (a2 : Int) : Option (Bool) :=
  (c34 (a0, a1)).bind fun y1 =>
    bif (y1.1 == (10 : Int)) then
      (c33 (a0, (y1.2.2.1, a2))).bind fun y2 =>
        some y2
    else
      some false
def r7_IsA.f (c34 : r7_Obj.E) (c33 : r7_DerivesFrom.E) (k : Nat) (a0 : List X_Object) (a1 : X_Value) (a2 : Int) : Option (Bool) := r7_IsA.b c34 c33  a0 a1 a2
theorem r7_IsA.r (c34 : r7_Obj.E) (c33 : r7_DerivesFrom.E) (k : Nat) (a0 : List X_Object) (a1 : X_Value) (a2 : Int) : fn (r7_IsA.C c34 c33) k Tryz.f9 r7_IsA.A r7_IsA.R (a0, (a1, a2)) = r7_IsA.b c34 c33  a0 a1 a2 := by kernel_rfl
theorem r7_IsA.e (c34 : r7_Obj.E) (c33 : r7_DerivesFrom.E) (k : Nat) (a0 : List X_Object) (a1 : X_Value) (a2 : Int) : fn (r7_IsA.C c34 c33) k Tryz.f9 r7_IsA.A r7_IsA.R (a0, (a1, a2)) = r7_IsA.f c34 c33 k a0 a1 a2 := by
  rw [r7_IsA.r]
  rfl
theorem r7_IsA.ty (c34 : r7_Obj.E) (c33 : r7_DerivesFrom.E) : TyOk Tryz.prog (r7_IsA.C c34 c33) := tyOk_of (by kernel_rfl)
def r7_IsA.u (k : Nat) : r7_IsA.E := fun y => r7_IsA.f (r7_Obj.u k) (r7_DerivesFrom.u k) k y.1 y.2.1 y.2.2
theorem r7_IsA.sound (k : Nat) : Sound Tryz.prog ⟨9, r7_IsA.A, r7_IsA.R, r7_IsA.u k⟩ := by
  have h := fn_sound (k := k) («as» := r7_IsA.A) (rs := r7_IsA.R) (r7_IsA.ty (r7_Obj.u k) (r7_DerivesFrom.u k)) (fun E h => by
    simp only [r7_IsA.C, List.mem_cons, List.not_mem_nil, or_false] at h
    rcases h with rfl | rfl
    · exact r7_Obj.sound k
    · exact r7_DerivesFrom.sound k) mixed Tryz.func9 (by kernel_rfl) (by kernel_rfl)
  have e : fn (r7_IsA.C (r7_Obj.u k) (r7_DerivesFrom.u k)) k Tryz.f9 r7_IsA.A r7_IsA.R = r7_IsA.u k := by
    funext y
    exact r7_IsA.e (r7_Obj.u k) (r7_DerivesFrom.u k) k y.1 y.2.1 y.2.2
  rw [e] at h
  exact h
/-! ### brindlewood/raising.exceptionClass: f42 -/
abbrev f_raising_exceptionClass.A : List Sh := [(.d Y_Heap), (.d Y_Value)]
abbrev f_raising_exceptionClass.R : List Sh := [(.d .bool)]
abbrev f_raising_exceptionClass.E : Type := ((List X_Object) × X_Value) → Option (Bool)
def f_raising_exceptionClass.C (c32 : f_heap_Derives.E) : Ctx := { ty := [(3, (.int .i64)), (22, (.sl 36 Y_Object)), (24, Y_Heap), (29, Y_Value), (36, Y_Object)], nf := [(24, 1), (29, 5), (36, 10)], by_ := [(36, 168)], env := [⟨32, f_heap_Derives.A, f_heap_Derives.R, c32⟩], spec := [] }
noncomputable def f_raising_exceptionClass.code : Code := Func.code Tryz.f42
noncomputable def f_raising_exceptionClass.fin (c32 : f_heap_Derives.E) := kfin (f_raising_exceptionClass.C c32) Tryz.f42 f_raising_exceptionClass.A f_raising_exceptionClass.R
def f_raising_exceptionClass.b (c32 : f_heap_Derives.E)  (a0 : List X_Object) (a1 : X_Value) : Option (Bool) :=
  bif (a1.1 == (6 : Int)) then
    if 0 ≤ a1.2.2.2.2 ∧ a1.2.2.2.2 < ((List.length a0) : Int) then
      bif (((List.getD a0 (Int.toNat a1.2.2.2.2) Z_Object).1) == (9 : Int)) then
        (c32 (a0, (a1.2.2.2.2, (28 : Int)))).bind fun y1 =>
          some y1
      else
        some false
    else none
  else
    some false
def f_raising_exceptionClass.c (c32 : f_heap_Derives.E)  (a0 : List X_Object) (a1 : X_Value) : Option (Bool) :=
  bif (a1.1 == (6 : Int)) then
    if 0 ≤ a1.2.2.2.2 ∧ a1.2.2.2.2 < ((List.length a0) : Int) then
      bif (((List.getD a0 (Int.toNat a1.2.2.2.2) Z_Object).1) == (9 : Int)) then
        (c32 (a0, (a1.2.2.2.2, (28 : Int)))).bind fun y1 =>
          some y1
      else
        some false
    else none
  else
    some false
theorem f_raising_exceptionClass.q (c32 : f_heap_Derives.E)  (a0 : List X_Object) (a1 : X_Value) : f_raising_exceptionClass.b c32 a0 a1 = f_raising_exceptionClass.c c32 a0 a1 := by
  simp only [f_raising_exceptionClass.b, f_raising_exceptionClass.c, List.take_length, take_one, Nat.zero_add, Int.toNat_natCast, Int.toNat_zero, List.drop_zero, List.append_eq, Nat.le_refl, Int.le_refl, true_and, and_true, zero_le_one, if_true, prod_eta, Int.natCast_zero]
def f_raising_exceptionClass.f (c32 : f_heap_Derives.E) (k : Nat) (a0 : List X_Object) (a1 : X_Value) : Option (Bool) := f_raising_exceptionClass.b c32  a0 a1
theorem f_raising_exceptionClass.r (c32 : f_heap_Derives.E) (k : Nat) (a0 : List X_Object) (a1 : X_Value) : fn (f_raising_exceptionClass.C c32) k Tryz.f42 f_raising_exceptionClass.A f_raising_exceptionClass.R (a0, a1) = f_raising_exceptionClass.b c32  a0 a1 := by kernel_rfl
theorem f_raising_exceptionClass.e (c32 : f_heap_Derives.E) (k : Nat) (a0 : List X_Object) (a1 : X_Value) : fn (f_raising_exceptionClass.C c32) k Tryz.f42 f_raising_exceptionClass.A f_raising_exceptionClass.R (a0, a1) = f_raising_exceptionClass.f c32 k a0 a1 := by
  rw [f_raising_exceptionClass.r]
  rfl
theorem f_raising_exceptionClass.ty (c32 : f_heap_Derives.E) : TyOk Tryz.prog (f_raising_exceptionClass.C c32) := tyOk_of (by kernel_rfl)
def f_raising_exceptionClass.u (k : Nat) : f_raising_exceptionClass.E := fun y => f_raising_exceptionClass.f (f_heap_Derives.u k) k y.1 y.2
theorem f_raising_exceptionClass.sound (k : Nat) : Sound Tryz.prog ⟨42, f_raising_exceptionClass.A, f_raising_exceptionClass.R, f_raising_exceptionClass.u k⟩ := by
  have h := fn_sound (k := k) («as» := f_raising_exceptionClass.A) (rs := f_raising_exceptionClass.R) (f_raising_exceptionClass.ty (f_heap_Derives.u k)) (fun E h => by
    simp only [f_raising_exceptionClass.C, List.mem_cons, List.not_mem_nil, or_false] at h
    rcases h with rfl
    · exact f_heap_Derives.sound k) mixed Tryz.func42 (by kernel_rfl) (by kernel_rfl)
  have e : fn (f_raising_exceptionClass.C (f_heap_Derives.u k)) k Tryz.f42 f_raising_exceptionClass.A f_raising_exceptionClass.R = f_raising_exceptionClass.u k := by
    funext y
    exact f_raising_exceptionClass.e (f_heap_Derives.u k) k y.1 y.2
  rw [e] at h
  exact h
/-! ### brindlewood/raising.raise: f43 -/
abbrev f_raising_raise.A : List Sh := [(.d (.int .i64)), (.d .str)]
abbrev f_raising_raise.R : List Sh := [(.d Y_Step)]
abbrev f_raising_raise.E : Type := ((Int) × (List UInt8)) → Option X_Step
def f_raising_raise.C  : Ctx := { ty := [(41, Y_Step)], nf := [(41, 6)], by_ := [], env := [], spec := [] }
noncomputable def f_raising_raise.code : Code := Func.code Tryz.f43
noncomputable def f_raising_raise.fin  := kfin (f_raising_raise.C ) Tryz.f43 f_raising_raise.A f_raising_raise.R
def f_raising_raise.b   (a0 : Int) (a1 : List UInt8) : Option X_Step :=
  some ((1 : Int), (((0 : Int), ((false, ([] : List (Int))), ((false, ([] : List (Int))), ([], (0 : Int))))), (a0, (a1, (((0 : Int), ((false, ([] : List (Int))), ((false, ([] : List (Int))), ([], (0 : Int))))), ([] : List X_Value))))))
def f_raising_raise.f  (k : Nat) (a0 : Int) (a1 : List UInt8) : Option X_Step := f_raising_raise.b   a0 a1
theorem f_raising_raise.r  (k : Nat) (a0 : Int) (a1 : List UInt8) : fn (f_raising_raise.C ) k Tryz.f43 f_raising_raise.A f_raising_raise.R (a0, a1) = f_raising_raise.b   a0 a1 := by kernel_rfl
theorem f_raising_raise.e  (k : Nat) (a0 : Int) (a1 : List UInt8) : fn (f_raising_raise.C ) k Tryz.f43 f_raising_raise.A f_raising_raise.R (a0, a1) = f_raising_raise.f  k a0 a1 := by
  rw [f_raising_raise.r]
  rfl
theorem f_raising_raise.ty  : TyOk Tryz.prog (f_raising_raise.C ) := tyOk_of (by kernel_rfl)
def f_raising_raise.u (k : Nat) : f_raising_raise.E := fun y => f_raising_raise.f  k y.1 y.2
theorem f_raising_raise.sound (k : Nat) : Sound Tryz.prog ⟨43, f_raising_raise.A, f_raising_raise.R, f_raising_raise.u k⟩ := by
  have h := fn_sound (k := k) («as» := f_raising_raise.A) (rs := f_raising_raise.R) (f_raising_raise.ty ) (fun E h => by cases h) mixed Tryz.func43 (by kernel_rfl) (by kernel_rfl)
  have e : fn (f_raising_raise.C ) k Tryz.f43 f_raising_raise.A f_raising_raise.R = f_raising_raise.u k := by
    funext y
    exact f_raising_raise.e  k y.1 y.2
  rw [e] at h
  exact h
/-! ### brindlewood/heap.Bool: f21 -/
abbrev f_heap_Bool.A : List Sh := [(.d .bool)]
abbrev f_heap_Bool.R : List Sh := [(.d Y_Value)]
abbrev f_heap_Bool.E : Type := (Bool) → Option X_Value
def f_heap_Bool.C  : Ctx := { ty := [(3, (.int .i64)), (29, Y_Value)], nf := [(29, 5)], by_ := [], env := [], spec := [] }
noncomputable def f_heap_Bool.code : Code := Func.code Tryz.f21
noncomputable def f_heap_Bool.fin  := kfin (f_heap_Bool.C ) Tryz.f21 f_heap_Bool.A f_heap_Bool.R
def f_heap_Bool.b   (a0 : Bool) : Option X_Value :=
  bif a0 then
    some ((1 : Int), ((false, ([] : List (Int))), ((false, ([] : List (Int))), ([], (1 : Int)))))
  else
    some ((1 : Int), ((false, ([] : List (Int))), ((false, ([] : List (Int))), ([], (0 : Int)))))
def f_heap_Bool.f  (k : Nat) (a0 : Bool) : Option X_Value := f_heap_Bool.b   a0
theorem f_heap_Bool.r  (k : Nat) (a0 : Bool) : fn (f_heap_Bool.C ) k Tryz.f21 f_heap_Bool.A f_heap_Bool.R a0 = f_heap_Bool.b   a0 := by kernel_rfl
theorem f_heap_Bool.e  (k : Nat) (a0 : Bool) : fn (f_heap_Bool.C ) k Tryz.f21 f_heap_Bool.A f_heap_Bool.R a0 = f_heap_Bool.f  k a0 := by
  rw [f_heap_Bool.r]
  rfl
theorem f_heap_Bool.ty  : TyOk Tryz.prog (f_heap_Bool.C ) := tyOk_of (by kernel_rfl)
def f_heap_Bool.u (k : Nat) : f_heap_Bool.E := fun y => f_heap_Bool.f  k y
theorem f_heap_Bool.sound (k : Nat) : Sound Tryz.prog ⟨21, f_heap_Bool.A, f_heap_Bool.R, f_heap_Bool.u k⟩ := by
  have h := fn_sound (k := k) («as» := f_heap_Bool.A) (rs := f_heap_Bool.R) (f_heap_Bool.ty ) (fun E h => by cases h) mixed Tryz.func21 (by kernel_rfl) (by kernel_rfl)
  have e : fn (f_heap_Bool.C ) k Tryz.f21 f_heap_Bool.A f_heap_Bool.R = f_heap_Bool.u k := by
    funext y
    exact f_heap_Bool.e  k y
  rw [e] at h
  exact h
/-! ### brindlewood/raising.value: f44 -/
abbrev f_raising_value.A : List Sh := [(.d Y_Value)]
abbrev f_raising_value.R : List Sh := [(.d Y_Step)]
abbrev f_raising_value.E : Type := X_Value → Option X_Step
def f_raising_value.C  : Ctx := { ty := [(29, Y_Value), (41, Y_Step)], nf := [(41, 6)], by_ := [], env := [], spec := [] }
noncomputable def f_raising_value.code : Code := Func.code Tryz.f44
noncomputable def f_raising_value.fin  := kfin (f_raising_value.C ) Tryz.f44 f_raising_value.A f_raising_value.R
def f_raising_value.b   (a0 : X_Value) : Option X_Step :=
  some ((0 : Int), (a0, ((0 : Int), ([], (((0 : Int), ((false, ([] : List (Int))), ((false, ([] : List (Int))), ([], (0 : Int))))), ([] : List X_Value))))))
def f_raising_value.f  (k : Nat) (a0 : X_Value) : Option X_Step := f_raising_value.b   a0
theorem f_raising_value.r  (k : Nat) (a0 : X_Value) : fn (f_raising_value.C ) k Tryz.f44 f_raising_value.A f_raising_value.R a0 = f_raising_value.b   a0 := by kernel_rfl
theorem f_raising_value.e  (k : Nat) (a0 : X_Value) : fn (f_raising_value.C ) k Tryz.f44 f_raising_value.A f_raising_value.R a0 = f_raising_value.f  k a0 := by
  rw [f_raising_value.r]
  rfl
theorem f_raising_value.ty  : TyOk Tryz.prog (f_raising_value.C ) := tyOk_of (by kernel_rfl)
def f_raising_value.u (k : Nat) : f_raising_value.E := fun y => f_raising_value.f  k y
theorem f_raising_value.sound (k : Nat) : Sound Tryz.prog ⟨44, f_raising_value.A, f_raising_value.R, f_raising_value.u k⟩ := by
  have h := fn_sound (k := k) («as» := f_raising_value.A) (rs := f_raising_value.R) (f_raising_value.ty ) (fun E h => by cases h) mixed Tryz.func44 (by kernel_rfl) (by kernel_rfl)
  have e : fn (f_raising_value.C ) k Tryz.f44 f_raising_value.A f_raising_value.R = f_raising_value.u k := by
    funext y
    exact f_raising_value.e  k y
  rw [e] at h
  exact h
/-! ### brindlewood/raising.Matches: f12 -/
abbrev f_raising_Matches.A : List Sh := [(.d Y_Heap), (.d Y_Value), (.d Y_Value), (.d .bool)]
abbrev f_raising_Matches.R : List Sh := [(.d Y_Step)]
abbrev f_raising_Matches.E : Type := ((List X_Object) × (X_Value × (X_Value × (Bool)))) → Option X_Step
def f_raising_Matches.C (c42 : f_raising_exceptionClass.E) (c43 : f_raising_raise.E) (c32 : f_heap_Derives.E) (c8 : f_raising_Is.E) (c21 : f_heap_Bool.E) (c44 : f_raising_value.E) : Ctx := { ty := [(3, (.int .i64)), (22, (.sl 36 Y_Object)), (24, Y_Heap), (29, Y_Value), (34, (.sl 29 Y_Value)), (36, Y_Object), (41, Y_Step)], nf := [(24, 1), (29, 5), (36, 10)], by_ := [(29, 96), (36, 168)], env := [⟨42, f_raising_exceptionClass.A, f_raising_exceptionClass.R, c42⟩, ⟨43, f_raising_raise.A, f_raising_raise.R, c43⟩, ⟨32, f_heap_Derives.A, f_heap_Derives.R, c32⟩, ⟨8, f_raising_Is.A, f_raising_Is.R, c8⟩, ⟨21, f_heap_Bool.A, f_heap_Bool.R, c21⟩, ⟨44, f_raising_value.A, f_raising_value.R, c44⟩], spec := [(0, [.d 3 .bool, .bx 4 600004 (.d Y_Heap), .bx 5 600005 (.d Y_Value), .bx 8 600008 (.pair (.d (.int .i64)) (.pair (.pair (.d (.int .i64)) (.pair (.pair (.d .bool) (.o 72 (.int .u32))) (.pair (.pair (.d .bool) (.o 72 (.int .u32))) (.d (.pair .str (.int .i64)))))) (.pair (.d (.int .i64)) (.pair (.d .str) (.pair (.pair (.d (.int .i64)) (.pair (.pair (.d .bool) (.o 72 (.int .u32))) (.pair (.pair (.d .bool) (.o 72 (.int .u32))) (.d (.pair .str (.int .i64)))))) (.o 29 Y_Value)))))), .d 34 (.sl 29 Y_Value), .d 35 (.int .i64), .d 36 (.int .i64)]), (100011, [.d 3 .bool, .bx 4 600004 (.d Y_Heap), .bx 5 600005 (.d Y_Value), .bx 8 600008 (.pair (.d (.int .i64)) (.pair (.pair (.d (.int .i64)) (.pair (.pair (.d .bool) (.o 72 (.int .u32))) (.pair (.pair (.d .bool) (.o 72 (.int .u32))) (.d (.pair .str (.int .i64)))))) (.pair (.d (.int .i64)) (.pair (.d .str) (.pair (.pair (.d (.int .i64)) (.pair (.pair (.d .bool) (.o 72 (.int .u32))) (.pair (.pair (.d .bool) (.o 72 (.int .u32))) (.d (.pair .str (.int .i64)))))) (.o 29 Y_Value)))))), .bx 11 600011 (.d Y_Value), .d 34 (.sl 29 Y_Value), .d 35 (.int .i64), .d 36 (.int .i64)])] }
noncomputable def f_raising_Matches.code : Code := Func.code Tryz.f12
noncomputable def f_raising_Matches.fin (c42 : f_raising_exceptionClass.E) (c43 : f_raising_raise.E) (c32 : f_heap_Derives.E) (c8 : f_raising_Is.E) (c21 : f_heap_Bool.E) (c44 : f_raising_value.E) := kfin (f_raising_Matches.C c42 c43 c32 c8 c21 c44) Tryz.f12 f_raising_Matches.A f_raising_Matches.R
def f_raising_Matches.b (c42 : f_raising_exceptionClass.E) (c43 : f_raising_raise.E) (c32 : f_heap_Derives.E) (c8 : f_raising_Is.E) (c21 : f_heap_Bool.E) (c44 : f_raising_value.E) (r_l0 : (Bool) → (List X_Object) → X_Value → X_Step → (List X_Value) → (Int) → (Int) → Option X_Step) (a0 : List X_Object) (a1 : X_Value) (a2 : X_Value) (a3 : Bool) : Option X_Step :=
  bif (a2.1 == (6 : Int)) then
    if 0 ≤ a2.2.2.2.2 ∧ a2.2.2.2.2 < ((List.length a0) : Int) then
      bif (((List.getD a0 (Int.toNat a2.2.2.2.2) Z_Object).1) == (1 : Int)) then
        if 0 ≤ a2.2.2.2.2 ∧ a2.2.2.2.2 < ((List.length a0) : Int) then
          r_l0 a3 a0 a1 ((0 : Int), (((0 : Int), ((false, ([] : List (Int))), ((false, ([] : List (Int))), ([], (0 : Int))))), ((0 : Int), ([], (((0 : Int), ((false, ([] : List (Int))), ((false, ([] : List (Int))), ([], (0 : Int))))), ([] : List X_Value)))))) ((((((((List.getD a0 (Int.toNat a2.2.2.2.2) Z_Object).2).2).2).2).2).2).1) ((List.length ((((((((List.getD a0 (Int.toNat a2.2.2.2.2) Z_Object).2).2).2).2).2).2).1)) : Int) (0 : Int)
        else none
      else
        r_l0 a3 a0 a1 ((0 : Int), (((0 : Int), ((false, ([] : List (Int))), ((false, ([] : List (Int))), ([], (0 : Int))))), ((0 : Int), ([], (((0 : Int), ((false, ([] : List (Int))), ((false, ([] : List (Int))), ([], (0 : Int))))), ([] : List X_Value)))))) (List.take 1 ([a2] : List X_Value)) ((1 : Nat) : Int) (0 : Int)
    else none
  else
    r_l0 a3 a0 a1 ((0 : Int), (((0 : Int), ((false, ([] : List (Int))), ((false, ([] : List (Int))), ([], (0 : Int))))), ((0 : Int), ([], (((0 : Int), ((false, ([] : List (Int))), ((false, ([] : List (Int))), ([], (0 : Int))))), ([] : List X_Value)))))) (List.take 1 ([a2] : List X_Value)) ((1 : Nat) : Int) (0 : Int)
def f_raising_Matches.b_l0 (c42 : f_raising_exceptionClass.E) (c43 : f_raising_raise.E) (c32 : f_heap_Derives.E) (c8 : f_raising_Is.E) (c21 : f_heap_Bool.E) (c44 : f_raising_value.E) (r_g11 : (Bool) → (List X_Object) → X_Value → X_Step → X_Value → (List X_Value) → (Int) → (Int) → Option X_Step) (x3 : Bool) (x4 : List X_Object) (x5 : X_Value) (x8 : X_Step) (x34 : List X_Value) (x35 : Int) (x36 : Int) : Option X_Step :=
  bif (decide (x36 < x35)) then
    if 0 ≤ x36 ∧ x36 < ((List.length x34) : Int) then
      (c42 (x4, (List.getD x34 (Int.toNat x36) Z_Value))).bind fun y1 =>
        bif (!y1) then
          (c43 ((32 : Int), [99, 97, 116, 99, 104, 32, 110, 101, 101, 100, 115, 32, 97, 110, 32, 101, 120, 99, 101, 112, 116, 105, 111, 110, 32, 99, 108, 97, 115, 115])).bind fun y2 =>
            some y2
        else
          bif x3 then
            (c32 (x4, (((((List.getD x34 (Int.toNat x36) Z_Value).2).2).2).2, (48 : Int)))).bind fun y3 =>
              bif y3 then
                (c43 ((32 : Int), [99, 97, 116, 99, 104, 32, 42, 32, 110, 101, 101, 100, 115, 32, 110, 111, 32, 103, 114, 111, 117, 112, 32, 99, 108, 97, 115, 115])).bind fun y4 =>
                  some y4
              else
                r_g11 x3 x4 x5 (x8.1, ((x8.2.1.1, ((x8.2.1.2.1.1, (List.take (List.length x8.2.1.2.1.2) x8.2.1.2.1.2)), ((x8.2.1.2.2.1.1, (List.take (List.length x8.2.1.2.2.1.2) x8.2.1.2.2.1.2)), x8.2.1.2.2.2))), (x8.2.2.1, (x8.2.2.2.1, ((x8.2.2.2.2.1.1, ((x8.2.2.2.2.1.2.1.1, (List.take (List.length x8.2.2.2.2.1.2.1.2) x8.2.2.2.2.1.2.1.2)), ((x8.2.2.2.2.1.2.2.1.1, (List.take (List.length x8.2.2.2.2.1.2.2.1.2) x8.2.2.2.2.1.2.2.1.2)), x8.2.2.2.2.1.2.2.2))), (List.take (List.length x8.2.2.2.2.2) x8.2.2.2.2.2)))))) (List.getD x34 (Int.toNat x36) Z_Value) x34 x35 x36
          else
            r_g11 x3 x4 x5 (x8.1, ((x8.2.1.1, ((x8.2.1.2.1.1, (List.take (List.length x8.2.1.2.1.2) x8.2.1.2.1.2)), ((x8.2.1.2.2.1.1, (List.take (List.length x8.2.1.2.2.1.2) x8.2.1.2.2.1.2)), x8.2.1.2.2.2))), (x8.2.2.1, (x8.2.2.2.1, ((x8.2.2.2.2.1.1, ((x8.2.2.2.2.1.2.1.1, (List.take (List.length x8.2.2.2.2.1.2.1.2) x8.2.2.2.2.1.2.1.2)), ((x8.2.2.2.2.1.2.2.1.1, (List.take (List.length x8.2.2.2.2.1.2.2.1.2) x8.2.2.2.2.1.2.2.1.2)), x8.2.2.2.2.1.2.2.2))), (List.take (List.length x8.2.2.2.2.2) x8.2.2.2.2.2)))))) (List.getD x34 (Int.toNat x36) Z_Value) x34 x35 x36
    else none
  else
    (c21 false).bind fun y8 =>
      (c44 y8).bind fun y9 =>
        some y9
def f_raising_Matches.b_g11 (c42 : f_raising_exceptionClass.E) (c43 : f_raising_raise.E) (c32 : f_heap_Derives.E) (c8 : f_raising_Is.E) (c21 : f_heap_Bool.E) (c44 : f_raising_value.E) (n_l0 : (Bool) → (List X_Object) → X_Value → X_Step → (List X_Value) → (Int) → (Int) → Option X_Step) (x3 : Bool) (x4 : List X_Object) (x5 : X_Value) (x8 : X_Step) (x11 : X_Value) (x34 : List X_Value) (x35 : Int) (x36 : Int) : Option X_Step :=
  (c8 (x4, (x5, x11.2.2.2.2))).bind fun y5 =>
    bif y5 then
      (c21 true).bind fun y6 =>
        (c44 y6).bind fun y7 =>
          some y7
    else
      n_l0 x3 x4 x5 (x8.1, ((x8.2.1.1, ((x8.2.1.2.1.1, (List.take (List.length x8.2.1.2.1.2) x8.2.1.2.1.2)), ((x8.2.1.2.2.1.1, (List.take (List.length x8.2.1.2.2.1.2) x8.2.1.2.2.1.2)), x8.2.1.2.2.2))), (x8.2.2.1, (x8.2.2.2.1, ((x8.2.2.2.2.1.1, ((x8.2.2.2.2.1.2.1.1, (List.take (List.length x8.2.2.2.2.1.2.1.2) x8.2.2.2.2.1.2.1.2)), ((x8.2.2.2.2.1.2.2.1.1, (List.take (List.length x8.2.2.2.2.1.2.2.1.2) x8.2.2.2.2.1.2.2.1.2)), x8.2.2.2.2.1.2.2.2))), (List.take (List.length x8.2.2.2.2.2) x8.2.2.2.2.2)))))) x34 x35 (IntKind.i64.wrap (x36 + (1 : Int)))
def f_raising_Matches.c (c42 : f_raising_exceptionClass.E) (c43 : f_raising_raise.E) (c32 : f_heap_Derives.E) (c8 : f_raising_Is.E) (c21 : f_heap_Bool.E) (c44 : f_raising_value.E) (r_l0 : (Bool) → (List X_Object) → X_Value → X_Step → (List X_Value) → (Int) → (Int) → Option X_Step) (a0 : List X_Object) (a1 : X_Value) (a2 : X_Value) (a3 : Bool) : Option X_Step :=
  bif (a2.1 == (6 : Int)) then
    if 0 ≤ a2.2.2.2.2 ∧ a2.2.2.2.2 < ((List.length a0) : Int) then
      bif (((List.getD a0 (Int.toNat a2.2.2.2.2) Z_Object).1) == (1 : Int)) then
        if 0 ≤ a2.2.2.2.2 ∧ a2.2.2.2.2 < ((List.length a0) : Int) then
          r_l0 a3 a0 a1 ((0 : Int), (((0 : Int), ((false, ([] : List Int)), ((false, ([] : List Int)), ([], (0 : Int))))), ((0 : Int), ([], (((0 : Int), ((false, ([] : List Int)), ((false, ([] : List Int)), ([], (0 : Int))))), ([] : List X_Value)))))) ((((((((List.getD a0 (Int.toNat a2.2.2.2.2) Z_Object).2).2).2).2).2).2).1) ((List.length ((((((((List.getD a0 (Int.toNat a2.2.2.2.2) Z_Object).2).2).2).2).2).2).1)) : Int) (0 : Int)
        else none
      else
        r_l0 a3 a0 a1 ((0 : Int), (((0 : Int), ((false, ([] : List Int)), ((false, ([] : List Int)), ([], (0 : Int))))), ((0 : Int), ([], (((0 : Int), ((false, ([] : List Int)), ((false, ([] : List Int)), ([], (0 : Int))))), ([] : List X_Value)))))) ([a2] : List X_Value) ((1 : Nat) : Int) (0 : Int)
    else none
  else
    r_l0 a3 a0 a1 ((0 : Int), (((0 : Int), ((false, ([] : List Int)), ((false, ([] : List Int)), ([], (0 : Int))))), ((0 : Int), ([], (((0 : Int), ((false, ([] : List Int)), ((false, ([] : List Int)), ([], (0 : Int))))), ([] : List X_Value)))))) ([a2] : List X_Value) ((1 : Nat) : Int) (0 : Int)
theorem f_raising_Matches.q (c42 : f_raising_exceptionClass.E) (c43 : f_raising_raise.E) (c32 : f_heap_Derives.E) (c8 : f_raising_Is.E) (c21 : f_heap_Bool.E) (c44 : f_raising_value.E) (r_l0 : (Bool) → (List X_Object) → X_Value → X_Step → (List X_Value) → (Int) → (Int) → Option X_Step) (a0 : List X_Object) (a1 : X_Value) (a2 : X_Value) (a3 : Bool) : f_raising_Matches.b c42 c43 c32 c8 c21 c44 r_l0 a0 a1 a2 a3 = f_raising_Matches.c c42 c43 c32 c8 c21 c44 r_l0 a0 a1 a2 a3 := by
  simp only [f_raising_Matches.b, f_raising_Matches.c, List.take_length, take_one, Nat.zero_add, Int.toNat_natCast, Int.toNat_zero, List.drop_zero, List.append_eq, Nat.le_refl, Int.le_refl, true_and, and_true, zero_le_one, if_true, prod_eta, Int.natCast_zero]
def f_raising_Matches.c_l0 (c42 : f_raising_exceptionClass.E) (c43 : f_raising_raise.E) (c32 : f_heap_Derives.E) (c8 : f_raising_Is.E) (c21 : f_heap_Bool.E) (c44 : f_raising_value.E) (r_g11 : (Bool) → (List X_Object) → X_Value → X_Step → X_Value → (List X_Value) → (Int) → (Int) → Option X_Step) (x3 : Bool) (x4 : List X_Object) (x5 : X_Value) (x8 : X_Step) (x34 : List X_Value) (x35 : Int) (x36 : Int) : Option X_Step :=
  bif (decide (x36 < x35)) then
    if 0 ≤ x36 ∧ x36 < ((List.length x34) : Int) then
      (c42 (x4, (List.getD x34 (Int.toNat x36) Z_Value))).bind fun y1 =>
        bif !y1 then
          (c43 ((32 : Int), [99, 97, 116, 99, 104, 32, 110, 101, 101, 100, 115, 32, 97, 110, 32, 101, 120, 99, 101, 112, 116, 105, 111, 110, 32, 99, 108, 97, 115, 115])).bind fun y2 =>
            some y2
        else
          bif x3 then
            (c32 (x4, (((((List.getD x34 (Int.toNat x36) Z_Value).2).2).2).2, (48 : Int)))).bind fun y3 =>
              bif y3 then
                (c43 ((32 : Int), [99, 97, 116, 99, 104, 32, 42, 32, 110, 101, 101, 100, 115, 32, 110, 111, 32, 103, 114, 111, 117, 112, 32, 99, 108, 97, 115, 115])).bind fun y4 =>
                  some y4
              else
                r_g11 x3 x4 x5 x8 (List.getD x34 (Int.toNat x36) Z_Value) x34 x35 x36
          else
            r_g11 x3 x4 x5 x8 (List.getD x34 (Int.toNat x36) Z_Value) x34 x35 x36
    else none
  else
    (c21 false).bind fun y8 =>
      (c44 y8).bind fun y9 =>
        some y9
theorem f_raising_Matches.q_l0 (c42 : f_raising_exceptionClass.E) (c43 : f_raising_raise.E) (c32 : f_heap_Derives.E) (c8 : f_raising_Is.E) (c21 : f_heap_Bool.E) (c44 : f_raising_value.E) (r_g11 : (Bool) → (List X_Object) → X_Value → X_Step → X_Value → (List X_Value) → (Int) → (Int) → Option X_Step) (x3 : Bool) (x4 : List X_Object) (x5 : X_Value) (x8 : X_Step) (x34 : List X_Value) (x35 : Int) (x36 : Int) : f_raising_Matches.b_l0 c42 c43 c32 c8 c21 c44 r_g11 x3 x4 x5 x8 x34 x35 x36 = f_raising_Matches.c_l0 c42 c43 c32 c8 c21 c44 r_g11 x3 x4 x5 x8 x34 x35 x36 := by
  simp only [f_raising_Matches.b_l0, f_raising_Matches.c_l0, List.take_length, take_one, Nat.zero_add, Int.toNat_natCast, Int.toNat_zero, List.drop_zero, List.append_eq, Nat.le_refl, Int.le_refl, true_and, and_true, zero_le_one, if_true, prod_eta, Int.natCast_zero]
def f_raising_Matches.g11 (c42 : f_raising_exceptionClass.E) (c43 : f_raising_raise.E) (c32 : f_heap_Derives.E) (c8 : f_raising_Is.E) (c21 : f_heap_Bool.E) (c44 : f_raising_value.E) (k : Nat) (n_l0 : (Bool) → (List X_Object) → X_Value → X_Step → (List X_Value) → (Int) → (Int) → Option X_Step) (x3 : Bool) (x4 : List X_Object) (x5 : X_Value) (x8 : X_Step) (x11 : X_Value) (x34 : List X_Value) (x35 : Int) (x36 : Int) : Option X_Step := gate k (f_raising_Matches.b_g11 c42 c43 c32 c8 c21 c44 n_l0 x3 x4 x5 x8 x11 x34 x35 x36)
def f_raising_Matches.l0 (c42 : f_raising_exceptionClass.E) (c43 : f_raising_raise.E) (c32 : f_heap_Derives.E) (c8 : f_raising_Is.E) (c21 : f_heap_Bool.E) (c44 : f_raising_value.E) (k : Nat)  : Nat → (Bool) → (List X_Object) → X_Value → X_Step → (List X_Value) → (Int) → (Int) → Option X_Step
  | 0, _, _, _, _, _, _, _ => none
  | n + 1, x3, x4, x5, x8, x34, x35, x36 => f_raising_Matches.b_l0 c42 c43 c32 c8 c21 c44 (f_raising_Matches.g11 c42 c43 c32 c8 c21 c44 k (fun x3 x4 x5 x8 x34 x35 x36 => f_raising_Matches.l0 c42 c43 c32 c8 c21 c44 k  n x3 x4 x5 x8 x34 x35 x36)) x3 x4 x5 x8 x34 x35 x36
def f_raising_Matches.f (c42 : f_raising_exceptionClass.E) (c43 : f_raising_raise.E) (c32 : f_heap_Derives.E) (c8 : f_raising_Is.E) (c21 : f_heap_Bool.E) (c44 : f_raising_value.E) (k : Nat) (a0 : List X_Object) (a1 : X_Value) (a2 : X_Value) (a3 : Bool) : Option X_Step := f_raising_Matches.b c42 c43 c32 c8 c21 c44 (f_raising_Matches.l0 c42 c43 c32 c8 c21 c44 k k) a0 a1 a2 a3
noncomputable def f_raising_Matches.M_l0 (c42 : f_raising_exceptionClass.E) (c43 : f_raising_raise.E) (c32 : f_heap_Derives.E) (c8 : f_raising_Is.E) (c21 : f_heap_Bool.E) (c44 : f_raising_value.E) (k n : Nat)  (s : St) : Option X_Step := atLoop (f_raising_Matches.C c42 c43 c32 c8 c21 c44) k n [1, 1, 1, 0, 1, 0] [] f_raising_Matches.code (f_raising_Matches.fin c42 c43 c32 c8 c21 c44) s
noncomputable def f_raising_Matches.fr_l0 (x3 : Bool) (x4 : List X_Object) (x5 : X_Value) (x8 : X_Step) (x34 : List X_Value) (x35 : Int) (x36 : Int) : St := ⟨((((((((List.replicate 66 V.un).set 3 (V.dat .bool x3)).set 4 (V.bp 600004 0 [])).set 5 (V.bp 600005 0 [])).set 8 (V.bp 600008 0 [])).set 34 (V.dat (.sl 29 Y_Value) x34)).set 35 (V.dat (.int .i64) x35)).set 36 (V.dat (.int .i64) x36)), [⟨600008, 0, .box (V.st (V.dat (.int .i64) x8.1) (V.st (V.st (V.dat (.int .i64) x8.2.1.1) (V.st (V.st (V.dat .bool x8.2.1.2.1.1) (V.ref 11600128 0 0 (List.length x8.2.1.2.1.2))) (V.st (V.st (V.dat .bool x8.2.1.2.2.1.1) (V.ref 11600129 0 0 (List.length x8.2.1.2.2.1.2))) (V.dat (.pair .str (.int .i64)) x8.2.1.2.2.2)))) (V.st (V.dat (.int .i64) x8.2.2.1) (V.st (V.dat .str x8.2.2.2.1) (V.st (V.st (V.dat (.int .i64) x8.2.2.2.2.1.1) (V.st (V.st (V.dat .bool x8.2.2.2.2.1.2.1.1) (V.ref 11600130 0 0 (List.length x8.2.2.2.2.1.2.1.2))) (V.st (V.st (V.dat .bool x8.2.2.2.2.1.2.2.1.1) (V.ref 11600131 0 0 (List.length x8.2.2.2.2.1.2.2.1.2))) (V.dat (.pair .str (.int .i64)) x8.2.2.2.2.1.2.2.2)))) (V.ref 11600132 0 0 (List.length x8.2.2.2.2.2)))))))⟩, ⟨11600128, 0, .arr 72 (.int .u32) x8.2.1.2.1.2⟩, ⟨11600129, 0, .arr 72 (.int .u32) x8.2.1.2.2.1.2⟩, ⟨11600130, 0, .arr 72 (.int .u32) x8.2.2.2.2.1.2.1.2⟩, ⟨11600131, 0, .arr 72 (.int .u32) x8.2.2.2.2.1.2.2.1.2⟩, ⟨11600132, 0, .arr 29 Y_Value x8.2.2.2.2.2⟩, ⟨600005, 0, .box (V.dat Y_Value x5)⟩, ⟨600004, 0, .box (V.dat Y_Heap x4)⟩]⟩
noncomputable def f_raising_Matches.M_g11 (c42 : f_raising_exceptionClass.E) (c43 : f_raising_raise.E) (c32 : f_heap_Derives.E) (c8 : f_raising_Is.E) (c21 : f_heap_Bool.E) (c44 : f_raising_value.E) (k : Nat) (m0 : Nat) (s : St) : Option X_Step := atGate (f_raising_Matches.C c42 c43 c32 c8 c21 c44) k [1, 1, 1, 0, 1, 0, 0, 1, 1, 0, 0, 1, 0, 1, 1, 1, 1, 0] [m0] f_raising_Matches.code (f_raising_Matches.fin c42 c43 c32 c8 c21 c44) s
noncomputable def f_raising_Matches.fr_g11 (x3 : Bool) (x4 : List X_Object) (x5 : X_Value) (x8 : X_Step) (x11 : X_Value) (x34 : List X_Value) (x35 : Int) (x36 : Int) : St := ⟨(((((((((List.replicate 66 V.un).set 3 (V.dat .bool x3)).set 4 (V.bp 600004 0 [])).set 5 (V.bp 600005 0 [])).set 8 (V.bp 600008 0 [])).set 11 (V.bp 600011 0 [])).set 34 (V.dat (.sl 29 Y_Value) x34)).set 35 (V.dat (.int .i64) x35)).set 36 (V.dat (.int .i64) x36)), [⟨600011, 0, .box (V.dat Y_Value x11)⟩, ⟨600008, 0, .box (V.st (V.dat (.int .i64) x8.1) (V.st (V.st (V.dat (.int .i64) x8.2.1.1) (V.st (V.st (V.dat .bool x8.2.1.2.1.1) (V.ref 11600128 0 0 (List.length x8.2.1.2.1.2))) (V.st (V.st (V.dat .bool x8.2.1.2.2.1.1) (V.ref 11600129 0 0 (List.length x8.2.1.2.2.1.2))) (V.dat (.pair .str (.int .i64)) x8.2.1.2.2.2)))) (V.st (V.dat (.int .i64) x8.2.2.1) (V.st (V.dat .str x8.2.2.2.1) (V.st (V.st (V.dat (.int .i64) x8.2.2.2.2.1.1) (V.st (V.st (V.dat .bool x8.2.2.2.2.1.2.1.1) (V.ref 11600130 0 0 (List.length x8.2.2.2.2.1.2.1.2))) (V.st (V.st (V.dat .bool x8.2.2.2.2.1.2.2.1.1) (V.ref 11600131 0 0 (List.length x8.2.2.2.2.1.2.2.1.2))) (V.dat (.pair .str (.int .i64)) x8.2.2.2.2.1.2.2.2)))) (V.ref 11600132 0 0 (List.length x8.2.2.2.2.2)))))))⟩, ⟨11600128, 0, .arr 72 (.int .u32) x8.2.1.2.1.2⟩, ⟨11600129, 0, .arr 72 (.int .u32) x8.2.1.2.2.1.2⟩, ⟨11600130, 0, .arr 72 (.int .u32) x8.2.2.2.2.1.2.1.2⟩, ⟨11600131, 0, .arr 72 (.int .u32) x8.2.2.2.2.1.2.2.1.2⟩, ⟨11600132, 0, .arr 29 Y_Value x8.2.2.2.2.2⟩, ⟨600005, 0, .box (V.dat Y_Value x5)⟩, ⟨600004, 0, .box (V.dat Y_Heap x4)⟩]⟩
theorem f_raising_Matches.r (c42 : f_raising_exceptionClass.E) (c43 : f_raising_raise.E) (c32 : f_heap_Derives.E) (c8 : f_raising_Is.E) (c21 : f_heap_Bool.E) (c44 : f_raising_value.E) (k : Nat) (a0 : List X_Object) (a1 : X_Value) (a2 : X_Value) (a3 : Bool) : fn (f_raising_Matches.C c42 c43 c32 c8 c21 c44) k Tryz.f12 f_raising_Matches.A f_raising_Matches.R (a0, (a1, (a2, a3))) = f_raising_Matches.b c42 c43 c32 c8 c21 c44 (fun x3 x4 x5 x8 x34 x35 x36 => f_raising_Matches.M_l0 c42 c43 c32 c8 c21 c44 k k  (f_raising_Matches.fr_l0 x3 x4 x5 x8 x34 x35 x36)) a0 a1 a2 a3 := by kernel_rfl
theorem f_raising_Matches.z_l0 (c42 : f_raising_exceptionClass.E) (c43 : f_raising_raise.E) (c32 : f_heap_Derives.E) (c8 : f_raising_Is.E) (c21 : f_heap_Bool.E) (c44 : f_raising_value.E) (k : Nat)  (s : St) : f_raising_Matches.M_l0 c42 c43 c32 c8 c21 c44 k 0  s = none := by kernel_rfl
theorem f_raising_Matches.r_l0 (c42 : f_raising_exceptionClass.E) (c43 : f_raising_raise.E) (c32 : f_heap_Derives.E) (c8 : f_raising_Is.E) (c21 : f_heap_Bool.E) (c44 : f_raising_value.E) (k n : Nat)  (x3 : Bool) (x4 : List X_Object) (x5 : X_Value) (x8 : X_Step) (x34 : List X_Value) (x35 : Int) (x36 : Int) : f_raising_Matches.M_l0 c42 c43 c32 c8 c21 c44 k (n + 1)  (f_raising_Matches.fr_l0 x3 x4 x5 x8 x34 x35 x36) = f_raising_Matches.b_l0 c42 c43 c32 c8 c21 c44 (fun x3 x4 x5 x8 x11 x34 x35 x36 => f_raising_Matches.M_g11 c42 c43 c32 c8 c21 c44 k  n (f_raising_Matches.fr_g11 x3 x4 x5 x8 x11 x34 x35 x36)) x3 x4 x5 x8 x34 x35 x36 := by kernel_rfl
theorem f_raising_Matches.r_g11 (c42 : f_raising_exceptionClass.E) (c43 : f_raising_raise.E) (c32 : f_heap_Derives.E) (c8 : f_raising_Is.E) (c21 : f_heap_Bool.E) (c44 : f_raising_value.E) (k : Nat) (m0 : Nat) (x3 : Bool) (x4 : List X_Object) (x5 : X_Value) (x8 : X_Step) (x11 : X_Value) (x34 : List X_Value) (x35 : Int) (x36 : Int) : f_raising_Matches.M_g11 c42 c43 c32 c8 c21 c44 k m0 (f_raising_Matches.fr_g11 x3 x4 x5 x8 x11 x34 x35 x36) = gate k (f_raising_Matches.b_g11 c42 c43 c32 c8 c21 c44 (fun x3 x4 x5 x8 x34 x35 x36 => f_raising_Matches.M_l0 c42 c43 c32 c8 c21 c44 k m0  (f_raising_Matches.fr_l0 x3 x4 x5 x8 x34 x35 x36)) x3 x4 x5 x8 x11 x34 x35 x36) := by kernel_rfl
theorem f_raising_Matches.e_g11 (c42 : f_raising_exceptionClass.E) (c43 : f_raising_raise.E) (c32 : f_heap_Derives.E) (c8 : f_raising_Is.E) (c21 : f_heap_Bool.E) (c44 : f_raising_value.E) (k : Nat) (m0 : Nat) (x3 : Bool) (x4 : List X_Object) (x5 : X_Value) (x8 : X_Step) (x11 : X_Value) (x34 : List X_Value) (x35 : Int) (x36 : Int) : f_raising_Matches.M_g11 c42 c43 c32 c8 c21 c44 k m0 (f_raising_Matches.fr_g11 x3 x4 x5 x8 x11 x34 x35 x36) = f_raising_Matches.g11 c42 c43 c32 c8 c21 c44 k (fun x3 x4 x5 x8 x34 x35 x36 => f_raising_Matches.M_l0 c42 c43 c32 c8 c21 c44 k m0  (f_raising_Matches.fr_l0 x3 x4 x5 x8 x34 x35 x36)) x3 x4 x5 x8 x11 x34 x35 x36 := by
  rw [f_raising_Matches.r_g11]
  rfl
theorem f_raising_Matches.e_l0 (c42 : f_raising_exceptionClass.E) (c43 : f_raising_raise.E) (c32 : f_heap_Derives.E) (c8 : f_raising_Is.E) (c21 : f_heap_Bool.E) (c44 : f_raising_value.E) (k n : Nat)  (x3 : Bool) (x4 : List X_Object) (x5 : X_Value) (x8 : X_Step) (x34 : List X_Value) (x35 : Int) (x36 : Int) : f_raising_Matches.M_l0 c42 c43 c32 c8 c21 c44 k n  (f_raising_Matches.fr_l0 x3 x4 x5 x8 x34 x35 x36) = f_raising_Matches.l0 c42 c43 c32 c8 c21 c44 k  n x3 x4 x5 x8 x34 x35 x36 := by
  induction n generalizing x3 x4 x5 x8 x34 x35 x36 with
  | zero => rw [f_raising_Matches.z_l0]; rfl
  | succ n ih =>
    rw [f_raising_Matches.r_l0]
    simp only [f_raising_Matches.e_g11, ih]
    rfl
theorem f_raising_Matches.e (c42 : f_raising_exceptionClass.E) (c43 : f_raising_raise.E) (c32 : f_heap_Derives.E) (c8 : f_raising_Is.E) (c21 : f_heap_Bool.E) (c44 : f_raising_value.E) (k : Nat) (a0 : List X_Object) (a1 : X_Value) (a2 : X_Value) (a3 : Bool) : fn (f_raising_Matches.C c42 c43 c32 c8 c21 c44) k Tryz.f12 f_raising_Matches.A f_raising_Matches.R (a0, (a1, (a2, a3))) = f_raising_Matches.f c42 c43 c32 c8 c21 c44 k a0 a1 a2 a3 := by
  rw [f_raising_Matches.r]
  simp only [f_raising_Matches.e_l0]
  rfl
theorem f_raising_Matches.ty (c42 : f_raising_exceptionClass.E) (c43 : f_raising_raise.E) (c32 : f_heap_Derives.E) (c8 : f_raising_Is.E) (c21 : f_heap_Bool.E) (c44 : f_raising_value.E) : TyOk Tryz.prog (f_raising_Matches.C c42 c43 c32 c8 c21 c44) := tyOk_of (by kernel_rfl)
def f_raising_Matches.u (k : Nat) : f_raising_Matches.E := fun y => f_raising_Matches.f (f_raising_exceptionClass.u k) (f_raising_raise.u k) (f_heap_Derives.u k) (f_raising_Is.u k) (f_heap_Bool.u k) (f_raising_value.u k) k y.1 y.2.1 y.2.2.1 y.2.2.2
theorem f_raising_Matches.sound (k : Nat) : Sound Tryz.prog ⟨12, f_raising_Matches.A, f_raising_Matches.R, f_raising_Matches.u k⟩ := by
  have h := fn_sound (k := k) («as» := f_raising_Matches.A) (rs := f_raising_Matches.R) (f_raising_Matches.ty (f_raising_exceptionClass.u k) (f_raising_raise.u k) (f_heap_Derives.u k) (f_raising_Is.u k) (f_heap_Bool.u k) (f_raising_value.u k)) (fun E h => by
    simp only [f_raising_Matches.C, List.mem_cons, List.not_mem_nil, or_false] at h
    rcases h with rfl | rfl | rfl | rfl | rfl | rfl
    · exact f_raising_exceptionClass.sound k
    · exact f_raising_raise.sound k
    · exact f_heap_Derives.sound k
    · exact f_raising_Is.sound k
    · exact f_heap_Bool.sound k
    · exact f_raising_value.sound k) mixed Tryz.func12 (by kernel_rfl) (by kernel_rfl)
  have e : fn (f_raising_Matches.C (f_raising_exceptionClass.u k) (f_raising_raise.u k) (f_heap_Derives.u k) (f_raising_Is.u k) (f_heap_Bool.u k) (f_raising_value.u k)) k Tryz.f12 f_raising_Matches.A f_raising_Matches.R = f_raising_Matches.u k := by
    funext y
    exact f_raising_Matches.e (f_raising_exceptionClass.u k) (f_raising_raise.u k) (f_heap_Derives.u k) (f_raising_Is.u k) (f_heap_Bool.u k) (f_raising_value.u k) k y.1 y.2.1 y.2.2.1 y.2.2.2
  rw [e] at h
  exact h
/-! ### brindlewood/brindlewoodref7.Raise: f45 -/
abbrev r7_Raise.A : List Sh := [(.d (.int .i64)), (.d .str)]
abbrev r7_Raise.R : List Sh := [(.d Y_Step)]
abbrev r7_Raise.E : Type := ((Int) × (List UInt8)) → Option X_Step
def r7_Raise.C  : Ctx := { ty := [(41, Y_Step)], nf := [(41, 6)], by_ := [], env := [], spec := [] }
noncomputable def r7_Raise.code : Code := Func.code Tryz.f45
noncomputable def r7_Raise.fin  := kfin (r7_Raise.C ) Tryz.f45 r7_Raise.A r7_Raise.R
def r7_Raise.b   (a0 : Int) (a1 : List UInt8) : Option X_Step :=
  some ((1 : Int), (((0 : Int), ((false, ([] : List (Int))), ((false, ([] : List (Int))), ([], (0 : Int))))), (a0, (a1, (((0 : Int), ((false, ([] : List (Int))), ((false, ([] : List (Int))), ([], (0 : Int))))), ([] : List X_Value))))))
def r7_Raise.f  (k : Nat) (a0 : Int) (a1 : List UInt8) : Option X_Step := r7_Raise.b   a0 a1
theorem r7_Raise.r  (k : Nat) (a0 : Int) (a1 : List UInt8) : fn (r7_Raise.C ) k Tryz.f45 r7_Raise.A r7_Raise.R (a0, a1) = r7_Raise.b   a0 a1 := by kernel_rfl
theorem r7_Raise.e  (k : Nat) (a0 : Int) (a1 : List UInt8) : fn (r7_Raise.C ) k Tryz.f45 r7_Raise.A r7_Raise.R (a0, a1) = r7_Raise.f  k a0 a1 := by
  rw [r7_Raise.r]
  rfl
theorem r7_Raise.ty  : TyOk Tryz.prog (r7_Raise.C ) := tyOk_of (by kernel_rfl)
def r7_Raise.u (k : Nat) : r7_Raise.E := fun y => r7_Raise.f  k y.1 y.2
theorem r7_Raise.sound (k : Nat) : Sound Tryz.prog ⟨45, r7_Raise.A, r7_Raise.R, r7_Raise.u k⟩ := by
  have h := fn_sound (k := k) («as» := r7_Raise.A) (rs := r7_Raise.R) (r7_Raise.ty ) (fun E h => by cases h) mixed Tryz.func45 (by kernel_rfl) (by kernel_rfl)
  have e : fn (r7_Raise.C ) k Tryz.f45 r7_Raise.A r7_Raise.R = r7_Raise.u k := by
    funext y
    exact r7_Raise.e  k y.1 y.2
  rw [e] at h
  exact h
/-! ### brindlewood/brindlewoodref7.B: f22 -/
abbrev r7_B.A : List Sh := [(.d .bool)]
abbrev r7_B.R : List Sh := [(.d Y_Value)]
abbrev r7_B.E : Type := (Bool) → Option X_Value
def r7_B.C  : Ctx := { ty := [(29, Y_Value)], nf := [(29, 5)], by_ := [], env := [], spec := [] }
noncomputable def r7_B.code : Code := Func.code Tryz.f22
noncomputable def r7_B.fin  := kfin (r7_B.C ) Tryz.f22 r7_B.A r7_B.R
def r7_B.b   (a0 : Bool) : Option X_Value :=
  bif a0 then
    some ((1 : Int), ((false, ([] : List (Int))), ((false, ([] : List (Int))), ([], (1 : Int)))))
  else
    some ((1 : Int), ((false, ([] : List (Int))), ((false, ([] : List (Int))), ([], (0 : Int)))))
def r7_B.f  (k : Nat) (a0 : Bool) : Option X_Value := r7_B.b   a0
theorem r7_B.r  (k : Nat) (a0 : Bool) : fn (r7_B.C ) k Tryz.f22 r7_B.A r7_B.R a0 = r7_B.b   a0 := by kernel_rfl
theorem r7_B.e  (k : Nat) (a0 : Bool) : fn (r7_B.C ) k Tryz.f22 r7_B.A r7_B.R a0 = r7_B.f  k a0 := by
  rw [r7_B.r]
  rfl
theorem r7_B.ty  : TyOk Tryz.prog (r7_B.C ) := tyOk_of (by kernel_rfl)
def r7_B.u (k : Nat) : r7_B.E := fun y => r7_B.f  k y
theorem r7_B.sound (k : Nat) : Sound Tryz.prog ⟨22, r7_B.A, r7_B.R, r7_B.u k⟩ := by
  have h := fn_sound (k := k) («as» := r7_B.A) (rs := r7_B.R) (r7_B.ty ) (fun E h => by cases h) mixed Tryz.func22 (by kernel_rfl) (by kernel_rfl)
  have e : fn (r7_B.C ) k Tryz.f22 r7_B.A r7_B.R = r7_B.u k := by
    funext y
    exact r7_B.e  k y
  rw [e] at h
  exact h
/-! ### brindlewood/brindlewoodref7.Result: f46 -/
abbrev r7_Result.A : List Sh := [(.d Y_Value)]
abbrev r7_Result.R : List Sh := [(.d Y_Step)]
abbrev r7_Result.E : Type := X_Value → Option X_Step
def r7_Result.C  : Ctx := { ty := [(29, Y_Value), (41, Y_Step)], nf := [(41, 6)], by_ := [], env := [], spec := [] }
noncomputable def r7_Result.code : Code := Func.code Tryz.f46
noncomputable def r7_Result.fin  := kfin (r7_Result.C ) Tryz.f46 r7_Result.A r7_Result.R
def r7_Result.b   (a0 : X_Value) : Option X_Step :=
  some ((0 : Int), (a0, ((0 : Int), ([], (((0 : Int), ((false, ([] : List (Int))), ((false, ([] : List (Int))), ([], (0 : Int))))), ([] : List X_Value))))))
def r7_Result.f  (k : Nat) (a0 : X_Value) : Option X_Step := r7_Result.b   a0
theorem r7_Result.r  (k : Nat) (a0 : X_Value) : fn (r7_Result.C ) k Tryz.f46 r7_Result.A r7_Result.R a0 = r7_Result.b   a0 := by kernel_rfl
theorem r7_Result.e  (k : Nat) (a0 : X_Value) : fn (r7_Result.C ) k Tryz.f46 r7_Result.A r7_Result.R a0 = r7_Result.f  k a0 := by
  rw [r7_Result.r]
  rfl
theorem r7_Result.ty  : TyOk Tryz.prog (r7_Result.C ) := tyOk_of (by kernel_rfl)
def r7_Result.u (k : Nat) : r7_Result.E := fun y => r7_Result.f  k y
theorem r7_Result.sound (k : Nat) : Sound Tryz.prog ⟨46, r7_Result.A, r7_Result.R, r7_Result.u k⟩ := by
  have h := fn_sound (k := k) («as» := r7_Result.A) (rs := r7_Result.R) (r7_Result.ty ) (fun E h => by cases h) mixed Tryz.func46 (by kernel_rfl) (by kernel_rfl)
  have e : fn (r7_Result.C ) k Tryz.f46 r7_Result.A r7_Result.R = r7_Result.u k := by
    funext y
    exact r7_Result.e  k y
  rw [e] at h
  exact h
/-! ### brindlewood/brindlewoodref7.Caught: f13 -/
abbrev r7_Caught.A : List Sh := [(.d Y_Heap), (.d Y_Value), (.d Y_Value), (.d .bool)]
abbrev r7_Caught.R : List Sh := [(.d Y_Step)]
abbrev r7_Caught.E : Type := ((List X_Object) × (X_Value × (X_Value × (Bool)))) → Option X_Step
def r7_Caught.C (c34 : r7_Obj.E) (c45 : r7_Raise.E) (c33 : r7_DerivesFrom.E) (c9 : r7_IsA.E) (c22 : r7_B.E) (c46 : r7_Result.E) : Ctx := { ty := [(3, (.int .i64)), (24, Y_Heap), (29, Y_Value), (34, (.sl 29 Y_Value)), (36, Y_Object), (41, Y_Step)], nf := [(29, 5), (36, 10)], by_ := [(29, 96)], env := [⟨34, r7_Obj.A, r7_Obj.R, c34⟩, ⟨45, r7_Raise.A, r7_Raise.R, c45⟩, ⟨33, r7_DerivesFrom.A, r7_DerivesFrom.R, c33⟩, ⟨9, r7_IsA.A, r7_IsA.R, c9⟩, ⟨22, r7_B.A, r7_B.R, c22⟩, ⟨46, r7_Result.A, r7_Result.R, c46⟩], spec := [(0, [.d 3 .bool, .bx 4 600004 (.d Y_Heap), .bx 5 600005 (.d Y_Value), .bx 8 600008 (.pair (.d (.int .i64)) (.pair (.pair (.d (.int .i64)) (.pair (.pair (.d .bool) (.o 72 (.int .u32))) (.pair (.pair (.d .bool) (.o 72 (.int .u32))) (.d (.pair .str (.int .i64)))))) (.pair (.d (.int .i64)) (.pair (.d .str) (.pair (.pair (.d (.int .i64)) (.pair (.pair (.d .bool) (.o 72 (.int .u32))) (.pair (.pair (.d .bool) (.o 72 (.int .u32))) (.d (.pair .str (.int .i64)))))) (.o 29 Y_Value)))))), .d 23 (.sl 29 Y_Value), .d 24 (.int .i64), .d 25 (.int .i64)]), (100012, [.d 3 .bool, .bx 4 600004 (.d Y_Heap), .bx 5 600005 (.d Y_Value), .bx 8 600008 (.pair (.d (.int .i64)) (.pair (.pair (.d (.int .i64)) (.pair (.pair (.d .bool) (.o 72 (.int .u32))) (.pair (.pair (.d .bool) (.o 72 (.int .u32))) (.d (.pair .str (.int .i64)))))) (.pair (.d (.int .i64)) (.pair (.d .str) (.pair (.pair (.d (.int .i64)) (.pair (.pair (.d .bool) (.o 72 (.int .u32))) (.pair (.pair (.d .bool) (.o 72 (.int .u32))) (.d (.pair .str (.int .i64)))))) (.o 29 Y_Value)))))), .bx 12 600012 (.d Y_Value), .d 23 (.sl 29 Y_Value), .d 24 (.int .i64), .d 25 (.int .i64)])] }
noncomputable def r7_Caught.code : Code := Func.code Tryz.f13
noncomputable def r7_Caught.fin (c34 : r7_Obj.E) (c45 : r7_Raise.E) (c33 : r7_DerivesFrom.E) (c9 : r7_IsA.E) (c22 : r7_B.E) (c46 : r7_Result.E) := kfin (r7_Caught.C c34 c45 c33 c9 c22 c46) Tryz.f13 r7_Caught.A r7_Caught.R
def r7_Caught.b (c34 : r7_Obj.E) (c45 : r7_Raise.E) (c33 : r7_DerivesFrom.E) (c9 : r7_IsA.E) (c22 : r7_B.E) (c46 : r7_Result.E) (r_l0 : (Bool) → (List X_Object) → X_Value → X_Step → (List X_Value) → (Int) → (Int) → Option X_Step) (a0 : List X_Object) (a1 : X_Value) (a2 : X_Value) (a3 : Bool) : Option X_Step :=
  (c34 (a0, a2)).bind fun y1 =>
    bif (y1.1 == (1 : Int)) then
      r_l0 a3 a0 a1 ((0 : Int), (((0 : Int), ((false, ([] : List (Int))), ((false, ([] : List (Int))), ([], (0 : Int))))), ((0 : Int), ([], (((0 : Int), ((false, ([] : List (Int))), ((false, ([] : List (Int))), ([], (0 : Int))))), ([] : List X_Value)))))) y1.2.2.2.2.2.2.1 ((List.length y1.2.2.2.2.2.2.1) : Int) (0 : Int)
    else
      r_l0 a3 a0 a1 ((0 : Int), (((0 : Int), ((false, ([] : List (Int))), ((false, ([] : List (Int))), ([], (0 : Int))))), ((0 : Int), ([], (((0 : Int), ((false, ([] : List (Int))), ((false, ([] : List (Int))), ([], (0 : Int))))), ([] : List X_Value)))))) (List.take 1 ([a2] : List X_Value)) ((1 : Nat) : Int) (0 : Int)
def r7_Caught.b_l0 (c34 : r7_Obj.E) (c45 : r7_Raise.E) (c33 : r7_DerivesFrom.E) (c9 : r7_IsA.E) (c22 : r7_B.E) (c46 : r7_Result.E) (r_g12 : (Bool) → (List X_Object) → X_Value → X_Step → X_Value → (List X_Value) → (Int) → (Int) → Option X_Step) (x3 : Bool) (x4 : List X_Object) (x5 : X_Value) (x8 : X_Step) (x23 : List X_Value) (x24 : Int) (x25 : Int) : Option X_Step :=
  bif (decide (x25 < x24)) then
    if 0 ≤ x25 ∧ x25 < ((List.length x23) : Int) then
      (c34 (x4, (List.getD x23 (Int.toNat x25) Z_Value))).bind fun y2 =>
        bif (y2.1 != (9 : Int)) then
          (c45 ((32 : Int), [99, 97, 116, 99, 104, 32, 110, 101, 101, 100, 115, 32, 97, 110, 32, 101, 120, 99, 101, 112, 116, 105, 111, 110, 32, 99, 108, 97, 115, 115])).bind fun y3 =>
            some y3
        else
          (c33 (x4, (((((List.getD x23 (Int.toNat x25) Z_Value).2).2).2).2, (28 : Int)))).bind fun y4 =>
            bif (!y4) then
              (c45 ((32 : Int), [99, 97, 116, 99, 104, 32, 110, 101, 101, 100, 115, 32, 97, 110, 32, 101, 120, 99, 101, 112, 116, 105, 111, 110, 32, 99, 108, 97, 115, 115])).bind fun y5 =>
                some y5
            else
              bif x3 then
                (c33 (x4, (((((List.getD x23 (Int.toNat x25) Z_Value).2).2).2).2, (48 : Int)))).bind fun y6 =>
                  bif y6 then
                    (c45 ((32 : Int), [99, 97, 116, 99, 104, 32, 42, 32, 110, 101, 101, 100, 115, 32, 110, 111, 32, 103, 114, 111, 117, 112, 32, 99, 108, 97, 115, 115])).bind fun y7 =>
                      some y7
                  else
                    r_g12 x3 x4 x5 (x8.1, ((x8.2.1.1, ((x8.2.1.2.1.1, (List.take (List.length x8.2.1.2.1.2) x8.2.1.2.1.2)), ((x8.2.1.2.2.1.1, (List.take (List.length x8.2.1.2.2.1.2) x8.2.1.2.2.1.2)), x8.2.1.2.2.2))), (x8.2.2.1, (x8.2.2.2.1, ((x8.2.2.2.2.1.1, ((x8.2.2.2.2.1.2.1.1, (List.take (List.length x8.2.2.2.2.1.2.1.2) x8.2.2.2.2.1.2.1.2)), ((x8.2.2.2.2.1.2.2.1.1, (List.take (List.length x8.2.2.2.2.1.2.2.1.2) x8.2.2.2.2.1.2.2.1.2)), x8.2.2.2.2.1.2.2.2))), (List.take (List.length x8.2.2.2.2.2) x8.2.2.2.2.2)))))) (List.getD x23 (Int.toNat x25) Z_Value) x23 x24 x25
              else
                r_g12 x3 x4 x5 (x8.1, ((x8.2.1.1, ((x8.2.1.2.1.1, (List.take (List.length x8.2.1.2.1.2) x8.2.1.2.1.2)), ((x8.2.1.2.2.1.1, (List.take (List.length x8.2.1.2.2.1.2) x8.2.1.2.2.1.2)), x8.2.1.2.2.2))), (x8.2.2.1, (x8.2.2.2.1, ((x8.2.2.2.2.1.1, ((x8.2.2.2.2.1.2.1.1, (List.take (List.length x8.2.2.2.2.1.2.1.2) x8.2.2.2.2.1.2.1.2)), ((x8.2.2.2.2.1.2.2.1.1, (List.take (List.length x8.2.2.2.2.1.2.2.1.2) x8.2.2.2.2.1.2.2.1.2)), x8.2.2.2.2.1.2.2.2))), (List.take (List.length x8.2.2.2.2.2) x8.2.2.2.2.2)))))) (List.getD x23 (Int.toNat x25) Z_Value) x23 x24 x25
    else none
  else
    (c22 false).bind fun y11 =>
      (c46 y11).bind fun y12 =>
        some y12
def r7_Caught.b_g12 (c34 : r7_Obj.E) (c45 : r7_Raise.E) (c33 : r7_DerivesFrom.E) (c9 : r7_IsA.E) (c22 : r7_B.E) (c46 : r7_Result.E) (n_l0 : (Bool) → (List X_Object) → X_Value → X_Step → (List X_Value) → (Int) → (Int) → Option X_Step) (x3 : Bool) (x4 : List X_Object) (x5 : X_Value) (x8 : X_Step) (x12 : X_Value) (x23 : List X_Value) (x24 : Int) (x25 : Int) : Option X_Step :=
  (c9 (x4, (x5, x12.2.2.2.2))).bind fun y8 =>
    bif y8 then
      (c22 true).bind fun y9 =>
        (c46 y9).bind fun y10 =>
          some y10
    else
      n_l0 x3 x4 x5 (x8.1, ((x8.2.1.1, ((x8.2.1.2.1.1, (List.take (List.length x8.2.1.2.1.2) x8.2.1.2.1.2)), ((x8.2.1.2.2.1.1, (List.take (List.length x8.2.1.2.2.1.2) x8.2.1.2.2.1.2)), x8.2.1.2.2.2))), (x8.2.2.1, (x8.2.2.2.1, ((x8.2.2.2.2.1.1, ((x8.2.2.2.2.1.2.1.1, (List.take (List.length x8.2.2.2.2.1.2.1.2) x8.2.2.2.2.1.2.1.2)), ((x8.2.2.2.2.1.2.2.1.1, (List.take (List.length x8.2.2.2.2.1.2.2.1.2) x8.2.2.2.2.1.2.2.1.2)), x8.2.2.2.2.1.2.2.2))), (List.take (List.length x8.2.2.2.2.2) x8.2.2.2.2.2)))))) x23 x24 (IntKind.i64.wrap (x25 + (1 : Int)))
def r7_Caught.c (c34 : r7_Obj.E) (c45 : r7_Raise.E) (c33 : r7_DerivesFrom.E) (c9 : r7_IsA.E) (c22 : r7_B.E) (c46 : r7_Result.E) (r_l0 : (Bool) → (List X_Object) → X_Value → X_Step → (List X_Value) → (Int) → (Int) → Option X_Step) (a0 : List X_Object) (a1 : X_Value) (a2 : X_Value) (a3 : Bool) : Option X_Step :=
  (c34 (a0, a2)).bind fun y1 =>
    bif (y1.1 == (1 : Int)) then
      r_l0 a3 a0 a1 ((0 : Int), (((0 : Int), ((false, ([] : List Int)), ((false, ([] : List Int)), ([], (0 : Int))))), ((0 : Int), ([], (((0 : Int), ((false, ([] : List Int)), ((false, ([] : List Int)), ([], (0 : Int))))), ([] : List X_Value)))))) y1.2.2.2.2.2.2.1 ((List.length y1.2.2.2.2.2.2.1) : Int) (0 : Int)
    else
      r_l0 a3 a0 a1 ((0 : Int), (((0 : Int), ((false, ([] : List Int)), ((false, ([] : List Int)), ([], (0 : Int))))), ((0 : Int), ([], (((0 : Int), ((false, ([] : List Int)), ((false, ([] : List Int)), ([], (0 : Int))))), ([] : List X_Value)))))) ([a2] : List X_Value) ((1 : Nat) : Int) (0 : Int)
theorem r7_Caught.q (c34 : r7_Obj.E) (c45 : r7_Raise.E) (c33 : r7_DerivesFrom.E) (c9 : r7_IsA.E) (c22 : r7_B.E) (c46 : r7_Result.E) (r_l0 : (Bool) → (List X_Object) → X_Value → X_Step → (List X_Value) → (Int) → (Int) → Option X_Step) (a0 : List X_Object) (a1 : X_Value) (a2 : X_Value) (a3 : Bool) : r7_Caught.b c34 c45 c33 c9 c22 c46 r_l0 a0 a1 a2 a3 = r7_Caught.c c34 c45 c33 c9 c22 c46 r_l0 a0 a1 a2 a3 := by
  simp only [r7_Caught.b, r7_Caught.c, List.take_length, take_one, Nat.zero_add, Int.toNat_natCast, Int.toNat_zero, List.drop_zero, List.append_eq, Nat.le_refl, Int.le_refl, true_and, and_true, zero_le_one, if_true, prod_eta, Int.natCast_zero]
def r7_Caught.c_l0 (c34 : r7_Obj.E) (c45 : r7_Raise.E) (c33 : r7_DerivesFrom.E) (c9 : r7_IsA.E) (c22 : r7_B.E) (c46 : r7_Result.E) (r_g12 : (Bool) → (List X_Object) → X_Value → X_Step → X_Value → (List X_Value) → (Int) → (Int) → Option X_Step) (x3 : Bool) (x4 : List X_Object) (x5 : X_Value) (x8 : X_Step) (x23 : List X_Value) (x24 : Int) (x25 : Int) : Option X_Step :=
  bif (decide (x25 < x24)) then
    if 0 ≤ x25 ∧ x25 < ((List.length x23) : Int) then
      (c34 (x4, (List.getD x23 (Int.toNat x25) Z_Value))).bind fun y2 =>
        bif (y2.1 != (9 : Int)) then
          (c45 ((32 : Int), [99, 97, 116, 99, 104, 32, 110, 101, 101, 100, 115, 32, 97, 110, 32, 101, 120, 99, 101, 112, 116, 105, 111, 110, 32, 99, 108, 97, 115, 115])).bind fun y3 =>
            some y3
        else
          (c33 (x4, (((((List.getD x23 (Int.toNat x25) Z_Value).2).2).2).2, (28 : Int)))).bind fun y4 =>
            bif !y4 then
              (c45 ((32 : Int), [99, 97, 116, 99, 104, 32, 110, 101, 101, 100, 115, 32, 97, 110, 32, 101, 120, 99, 101, 112, 116, 105, 111, 110, 32, 99, 108, 97, 115, 115])).bind fun y5 =>
                some y5
            else
              bif x3 then
                (c33 (x4, (((((List.getD x23 (Int.toNat x25) Z_Value).2).2).2).2, (48 : Int)))).bind fun y6 =>
                  bif y6 then
                    (c45 ((32 : Int), [99, 97, 116, 99, 104, 32, 42, 32, 110, 101, 101, 100, 115, 32, 110, 111, 32, 103, 114, 111, 117, 112, 32, 99, 108, 97, 115, 115])).bind fun y7 =>
                      some y7
                  else
                    r_g12 x3 x4 x5 x8 (List.getD x23 (Int.toNat x25) Z_Value) x23 x24 x25
              else
                r_g12 x3 x4 x5 x8 (List.getD x23 (Int.toNat x25) Z_Value) x23 x24 x25
    else none
  else
    (c22 false).bind fun y11 =>
      (c46 y11).bind fun y12 =>
        some y12
theorem r7_Caught.q_l0 (c34 : r7_Obj.E) (c45 : r7_Raise.E) (c33 : r7_DerivesFrom.E) (c9 : r7_IsA.E) (c22 : r7_B.E) (c46 : r7_Result.E) (r_g12 : (Bool) → (List X_Object) → X_Value → X_Step → X_Value → (List X_Value) → (Int) → (Int) → Option X_Step) (x3 : Bool) (x4 : List X_Object) (x5 : X_Value) (x8 : X_Step) (x23 : List X_Value) (x24 : Int) (x25 : Int) : r7_Caught.b_l0 c34 c45 c33 c9 c22 c46 r_g12 x3 x4 x5 x8 x23 x24 x25 = r7_Caught.c_l0 c34 c45 c33 c9 c22 c46 r_g12 x3 x4 x5 x8 x23 x24 x25 := by
  simp only [r7_Caught.b_l0, r7_Caught.c_l0, List.take_length, take_one, Nat.zero_add, Int.toNat_natCast, Int.toNat_zero, List.drop_zero, List.append_eq, Nat.le_refl, Int.le_refl, true_and, and_true, zero_le_one, if_true, prod_eta, Int.natCast_zero]
def r7_Caught.g12 (c34 : r7_Obj.E) (c45 : r7_Raise.E) (c33 : r7_DerivesFrom.E) (c9 : r7_IsA.E) (c22 : r7_B.E) (c46 : r7_Result.E) (k : Nat) (n_l0 : (Bool) → (List X_Object) → X_Value → X_Step → (List X_Value) → (Int) → (Int) → Option X_Step) (x3 : Bool) (x4 : List X_Object) (x5 : X_Value) (x8 : X_Step) (x12 : X_Value) (x23 : List X_Value) (x24 : Int) (x25 : Int) : Option X_Step := gate k (r7_Caught.b_g12 c34 c45 c33 c9 c22 c46 n_l0 x3 x4 x5 x8 x12 x23 x24 x25)
def r7_Caught.l0 (c34 : r7_Obj.E) (c45 : r7_Raise.E) (c33 : r7_DerivesFrom.E) (c9 : r7_IsA.E) (c22 : r7_B.E) (c46 : r7_Result.E) (k : Nat)  : Nat → (Bool) → (List X_Object) → X_Value → X_Step → (List X_Value) → (Int) → (Int) → Option X_Step
  | 0, _, _, _, _, _, _, _ => none
  | n + 1, x3, x4, x5, x8, x23, x24, x25 => r7_Caught.b_l0 c34 c45 c33 c9 c22 c46 (r7_Caught.g12 c34 c45 c33 c9 c22 c46 k (fun x3 x4 x5 x8 x23 x24 x25 => r7_Caught.l0 c34 c45 c33 c9 c22 c46 k  n x3 x4 x5 x8 x23 x24 x25)) x3 x4 x5 x8 x23 x24 x25
def r7_Caught.f (c34 : r7_Obj.E) (c45 : r7_Raise.E) (c33 : r7_DerivesFrom.E) (c9 : r7_IsA.E) (c22 : r7_B.E) (c46 : r7_Result.E) (k : Nat) (a0 : List X_Object) (a1 : X_Value) (a2 : X_Value) (a3 : Bool) : Option X_Step := r7_Caught.b c34 c45 c33 c9 c22 c46 (r7_Caught.l0 c34 c45 c33 c9 c22 c46 k k) a0 a1 a2 a3
noncomputable def r7_Caught.M_l0 (c34 : r7_Obj.E) (c45 : r7_Raise.E) (c33 : r7_DerivesFrom.E) (c9 : r7_IsA.E) (c22 : r7_B.E) (c46 : r7_Result.E) (k n : Nat)  (s : St) : Option X_Step := atLoop (r7_Caught.C c34 c45 c33 c9 c22 c46) k n [1, 1, 1, 0, 1, 0] [] r7_Caught.code (r7_Caught.fin c34 c45 c33 c9 c22 c46) s
noncomputable def r7_Caught.fr_l0 (x3 : Bool) (x4 : List X_Object) (x5 : X_Value) (x8 : X_Step) (x23 : List X_Value) (x24 : Int) (x25 : Int) : St := ⟨((((((((List.replicate 60 V.un).set 3 (V.dat .bool x3)).set 4 (V.bp 600004 0 [])).set 5 (V.bp 600005 0 [])).set 8 (V.bp 600008 0 [])).set 23 (V.dat (.sl 29 Y_Value) x23)).set 24 (V.dat (.int .i64) x24)).set 25 (V.dat (.int .i64) x25)), [⟨600008, 0, .box (V.st (V.dat (.int .i64) x8.1) (V.st (V.st (V.dat (.int .i64) x8.2.1.1) (V.st (V.st (V.dat .bool x8.2.1.2.1.1) (V.ref 11600128 0 0 (List.length x8.2.1.2.1.2))) (V.st (V.st (V.dat .bool x8.2.1.2.2.1.1) (V.ref 11600129 0 0 (List.length x8.2.1.2.2.1.2))) (V.dat (.pair .str (.int .i64)) x8.2.1.2.2.2)))) (V.st (V.dat (.int .i64) x8.2.2.1) (V.st (V.dat .str x8.2.2.2.1) (V.st (V.st (V.dat (.int .i64) x8.2.2.2.2.1.1) (V.st (V.st (V.dat .bool x8.2.2.2.2.1.2.1.1) (V.ref 11600130 0 0 (List.length x8.2.2.2.2.1.2.1.2))) (V.st (V.st (V.dat .bool x8.2.2.2.2.1.2.2.1.1) (V.ref 11600131 0 0 (List.length x8.2.2.2.2.1.2.2.1.2))) (V.dat (.pair .str (.int .i64)) x8.2.2.2.2.1.2.2.2)))) (V.ref 11600132 0 0 (List.length x8.2.2.2.2.2)))))))⟩, ⟨11600128, 0, .arr 72 (.int .u32) x8.2.1.2.1.2⟩, ⟨11600129, 0, .arr 72 (.int .u32) x8.2.1.2.2.1.2⟩, ⟨11600130, 0, .arr 72 (.int .u32) x8.2.2.2.2.1.2.1.2⟩, ⟨11600131, 0, .arr 72 (.int .u32) x8.2.2.2.2.1.2.2.1.2⟩, ⟨11600132, 0, .arr 29 Y_Value x8.2.2.2.2.2⟩, ⟨600005, 0, .box (V.dat Y_Value x5)⟩, ⟨600004, 0, .box (V.dat Y_Heap x4)⟩]⟩
noncomputable def r7_Caught.M_g12 (c34 : r7_Obj.E) (c45 : r7_Raise.E) (c33 : r7_DerivesFrom.E) (c9 : r7_IsA.E) (c22 : r7_B.E) (c46 : r7_Result.E) (k : Nat) (m0 : Nat) (s : St) : Option X_Step := atGate (r7_Caught.C c34 c45 c33 c9 c22 c46) k [1, 1, 1, 0, 1, 0, 0, 1, 1, 0, 0, 1, 1, 1, 0] [m0] r7_Caught.code (r7_Caught.fin c34 c45 c33 c9 c22 c46) s
noncomputable def r7_Caught.fr_g12 (x3 : Bool) (x4 : List X_Object) (x5 : X_Value) (x8 : X_Step) (x12 : X_Value) (x23 : List X_Value) (x24 : Int) (x25 : Int) : St := ⟨(((((((((List.replicate 60 V.un).set 3 (V.dat .bool x3)).set 4 (V.bp 600004 0 [])).set 5 (V.bp 600005 0 [])).set 8 (V.bp 600008 0 [])).set 12 (V.bp 600012 0 [])).set 23 (V.dat (.sl 29 Y_Value) x23)).set 24 (V.dat (.int .i64) x24)).set 25 (V.dat (.int .i64) x25)), [⟨600012, 0, .box (V.dat Y_Value x12)⟩, ⟨600008, 0, .box (V.st (V.dat (.int .i64) x8.1) (V.st (V.st (V.dat (.int .i64) x8.2.1.1) (V.st (V.st (V.dat .bool x8.2.1.2.1.1) (V.ref 11600128 0 0 (List.length x8.2.1.2.1.2))) (V.st (V.st (V.dat .bool x8.2.1.2.2.1.1) (V.ref 11600129 0 0 (List.length x8.2.1.2.2.1.2))) (V.dat (.pair .str (.int .i64)) x8.2.1.2.2.2)))) (V.st (V.dat (.int .i64) x8.2.2.1) (V.st (V.dat .str x8.2.2.2.1) (V.st (V.st (V.dat (.int .i64) x8.2.2.2.2.1.1) (V.st (V.st (V.dat .bool x8.2.2.2.2.1.2.1.1) (V.ref 11600130 0 0 (List.length x8.2.2.2.2.1.2.1.2))) (V.st (V.st (V.dat .bool x8.2.2.2.2.1.2.2.1.1) (V.ref 11600131 0 0 (List.length x8.2.2.2.2.1.2.2.1.2))) (V.dat (.pair .str (.int .i64)) x8.2.2.2.2.1.2.2.2)))) (V.ref 11600132 0 0 (List.length x8.2.2.2.2.2)))))))⟩, ⟨11600128, 0, .arr 72 (.int .u32) x8.2.1.2.1.2⟩, ⟨11600129, 0, .arr 72 (.int .u32) x8.2.1.2.2.1.2⟩, ⟨11600130, 0, .arr 72 (.int .u32) x8.2.2.2.2.1.2.1.2⟩, ⟨11600131, 0, .arr 72 (.int .u32) x8.2.2.2.2.1.2.2.1.2⟩, ⟨11600132, 0, .arr 29 Y_Value x8.2.2.2.2.2⟩, ⟨600005, 0, .box (V.dat Y_Value x5)⟩, ⟨600004, 0, .box (V.dat Y_Heap x4)⟩]⟩
theorem r7_Caught.r (c34 : r7_Obj.E) (c45 : r7_Raise.E) (c33 : r7_DerivesFrom.E) (c9 : r7_IsA.E) (c22 : r7_B.E) (c46 : r7_Result.E) (k : Nat) (a0 : List X_Object) (a1 : X_Value) (a2 : X_Value) (a3 : Bool) : fn (r7_Caught.C c34 c45 c33 c9 c22 c46) k Tryz.f13 r7_Caught.A r7_Caught.R (a0, (a1, (a2, a3))) = r7_Caught.b c34 c45 c33 c9 c22 c46 (fun x3 x4 x5 x8 x23 x24 x25 => r7_Caught.M_l0 c34 c45 c33 c9 c22 c46 k k  (r7_Caught.fr_l0 x3 x4 x5 x8 x23 x24 x25)) a0 a1 a2 a3 := by kernel_rfl
theorem r7_Caught.z_l0 (c34 : r7_Obj.E) (c45 : r7_Raise.E) (c33 : r7_DerivesFrom.E) (c9 : r7_IsA.E) (c22 : r7_B.E) (c46 : r7_Result.E) (k : Nat)  (s : St) : r7_Caught.M_l0 c34 c45 c33 c9 c22 c46 k 0  s = none := by kernel_rfl
theorem r7_Caught.r_l0 (c34 : r7_Obj.E) (c45 : r7_Raise.E) (c33 : r7_DerivesFrom.E) (c9 : r7_IsA.E) (c22 : r7_B.E) (c46 : r7_Result.E) (k n : Nat)  (x3 : Bool) (x4 : List X_Object) (x5 : X_Value) (x8 : X_Step) (x23 : List X_Value) (x24 : Int) (x25 : Int) : r7_Caught.M_l0 c34 c45 c33 c9 c22 c46 k (n + 1)  (r7_Caught.fr_l0 x3 x4 x5 x8 x23 x24 x25) = r7_Caught.b_l0 c34 c45 c33 c9 c22 c46 (fun x3 x4 x5 x8 x12 x23 x24 x25 => r7_Caught.M_g12 c34 c45 c33 c9 c22 c46 k  n (r7_Caught.fr_g12 x3 x4 x5 x8 x12 x23 x24 x25)) x3 x4 x5 x8 x23 x24 x25 := by kernel_rfl
theorem r7_Caught.r_g12 (c34 : r7_Obj.E) (c45 : r7_Raise.E) (c33 : r7_DerivesFrom.E) (c9 : r7_IsA.E) (c22 : r7_B.E) (c46 : r7_Result.E) (k : Nat) (m0 : Nat) (x3 : Bool) (x4 : List X_Object) (x5 : X_Value) (x8 : X_Step) (x12 : X_Value) (x23 : List X_Value) (x24 : Int) (x25 : Int) : r7_Caught.M_g12 c34 c45 c33 c9 c22 c46 k m0 (r7_Caught.fr_g12 x3 x4 x5 x8 x12 x23 x24 x25) = gate k (r7_Caught.b_g12 c34 c45 c33 c9 c22 c46 (fun x3 x4 x5 x8 x23 x24 x25 => r7_Caught.M_l0 c34 c45 c33 c9 c22 c46 k m0  (r7_Caught.fr_l0 x3 x4 x5 x8 x23 x24 x25)) x3 x4 x5 x8 x12 x23 x24 x25) := by kernel_rfl
theorem r7_Caught.e_g12 (c34 : r7_Obj.E) (c45 : r7_Raise.E) (c33 : r7_DerivesFrom.E) (c9 : r7_IsA.E) (c22 : r7_B.E) (c46 : r7_Result.E) (k : Nat) (m0 : Nat) (x3 : Bool) (x4 : List X_Object) (x5 : X_Value) (x8 : X_Step) (x12 : X_Value) (x23 : List X_Value) (x24 : Int) (x25 : Int) : r7_Caught.M_g12 c34 c45 c33 c9 c22 c46 k m0 (r7_Caught.fr_g12 x3 x4 x5 x8 x12 x23 x24 x25) = r7_Caught.g12 c34 c45 c33 c9 c22 c46 k (fun x3 x4 x5 x8 x23 x24 x25 => r7_Caught.M_l0 c34 c45 c33 c9 c22 c46 k m0  (r7_Caught.fr_l0 x3 x4 x5 x8 x23 x24 x25)) x3 x4 x5 x8 x12 x23 x24 x25 := by
  rw [r7_Caught.r_g12]
  rfl
theorem r7_Caught.e_l0 (c34 : r7_Obj.E) (c45 : r7_Raise.E) (c33 : r7_DerivesFrom.E) (c9 : r7_IsA.E) (c22 : r7_B.E) (c46 : r7_Result.E) (k n : Nat)  (x3 : Bool) (x4 : List X_Object) (x5 : X_Value) (x8 : X_Step) (x23 : List X_Value) (x24 : Int) (x25 : Int) : r7_Caught.M_l0 c34 c45 c33 c9 c22 c46 k n  (r7_Caught.fr_l0 x3 x4 x5 x8 x23 x24 x25) = r7_Caught.l0 c34 c45 c33 c9 c22 c46 k  n x3 x4 x5 x8 x23 x24 x25 := by
  induction n generalizing x3 x4 x5 x8 x23 x24 x25 with
  | zero => rw [r7_Caught.z_l0]; rfl
  | succ n ih =>
    rw [r7_Caught.r_l0]
    simp only [r7_Caught.e_g12, ih]
    rfl
theorem r7_Caught.e (c34 : r7_Obj.E) (c45 : r7_Raise.E) (c33 : r7_DerivesFrom.E) (c9 : r7_IsA.E) (c22 : r7_B.E) (c46 : r7_Result.E) (k : Nat) (a0 : List X_Object) (a1 : X_Value) (a2 : X_Value) (a3 : Bool) : fn (r7_Caught.C c34 c45 c33 c9 c22 c46) k Tryz.f13 r7_Caught.A r7_Caught.R (a0, (a1, (a2, a3))) = r7_Caught.f c34 c45 c33 c9 c22 c46 k a0 a1 a2 a3 := by
  rw [r7_Caught.r]
  simp only [r7_Caught.e_l0]
  rfl
theorem r7_Caught.ty (c34 : r7_Obj.E) (c45 : r7_Raise.E) (c33 : r7_DerivesFrom.E) (c9 : r7_IsA.E) (c22 : r7_B.E) (c46 : r7_Result.E) : TyOk Tryz.prog (r7_Caught.C c34 c45 c33 c9 c22 c46) := tyOk_of (by kernel_rfl)
def r7_Caught.u (k : Nat) : r7_Caught.E := fun y => r7_Caught.f (r7_Obj.u k) (r7_Raise.u k) (r7_DerivesFrom.u k) (r7_IsA.u k) (r7_B.u k) (r7_Result.u k) k y.1 y.2.1 y.2.2.1 y.2.2.2
theorem r7_Caught.sound (k : Nat) : Sound Tryz.prog ⟨13, r7_Caught.A, r7_Caught.R, r7_Caught.u k⟩ := by
  have h := fn_sound (k := k) («as» := r7_Caught.A) (rs := r7_Caught.R) (r7_Caught.ty (r7_Obj.u k) (r7_Raise.u k) (r7_DerivesFrom.u k) (r7_IsA.u k) (r7_B.u k) (r7_Result.u k)) (fun E h => by
    simp only [r7_Caught.C, List.mem_cons, List.not_mem_nil, or_false] at h
    rcases h with rfl | rfl | rfl | rfl | rfl | rfl
    · exact r7_Obj.sound k
    · exact r7_Raise.sound k
    · exact r7_DerivesFrom.sound k
    · exact r7_IsA.sound k
    · exact r7_B.sound k
    · exact r7_Result.sound k) mixed Tryz.func13 (by kernel_rfl) (by kernel_rfl)
  have e : fn (r7_Caught.C (r7_Obj.u k) (r7_Raise.u k) (r7_DerivesFrom.u k) (r7_IsA.u k) (r7_B.u k) (r7_Result.u k)) k Tryz.f13 r7_Caught.A r7_Caught.R = r7_Caught.u k := by
    funext y
    exact r7_Caught.e (r7_Obj.u k) (r7_Raise.u k) (r7_DerivesFrom.u k) (r7_IsA.u k) (r7_B.u k) (r7_Result.u k) k y.1 y.2.1 y.2.2.1 y.2.2.2
  rw [e] at h
  exact h
/-! ### brindlewood/brindlewoodref7.SameStep: f11 -/
abbrev r7_SameStep.A : List Sh := [(.d Y_Step), (.d Y_Step)]
abbrev r7_SameStep.R : List Sh := [(.d .bool)]
abbrev r7_SameStep.E : Type := (X_Step × X_Step) → Option (Bool)
def r7_SameStep.C (c14 : r7_SameValue.E) (c38 : r7_SameValues.E) : Ctx := { ty := [(3, (.int .i64)), (9, .str), (29, Y_Value), (34, (.sl 29 Y_Value)), (41, Y_Step)], nf := [(41, 6)], by_ := [(29, 96)], env := [⟨14, r7_SameValue.A, r7_SameValue.R, c14⟩, ⟨38, r7_SameValues.A, r7_SameValues.R, c38⟩], spec := [] }
noncomputable def r7_SameStep.code : Code := Func.code Tryz.f11
noncomputable def r7_SameStep.fin (c14 : r7_SameValue.E) (c38 : r7_SameValues.E) := kfin (r7_SameStep.C c14 c38) Tryz.f11 r7_SameStep.A r7_SameStep.R
def r7_SameStep.b (c14 : r7_SameValue.E) (c38 : r7_SameValues.E)  (a0 : X_Step) (a1 : X_Step) : Option (Bool) :=
  bif (a0.1 == a1.1) then
    bif (a0.2.2.1 == a1.2.2.1) then
      bif (a0.2.2.2.1 == a1.2.2.2.1) then
        (c14 (a0.2.1, a1.2.1)).bind fun y1 =>
          bif y1 then
            (c14 (a0.2.2.2.2.1, a1.2.2.2.2.1)).bind fun y2 =>
              bif y2 then
                (c38 (a0.2.2.2.2.2, a1.2.2.2.2.2)).bind fun y3 =>
                  some y3
              else
                some false
          else
            some false
      else
        some false
    else
      some false
  else
    some false
def r7_SameStep.f (c14 : r7_SameValue.E) (c38 : r7_SameValues.E) (k : Nat) (a0 : X_Step) (a1 : X_Step) : Option (Bool) := r7_SameStep.b c14 c38  a0 a1
theorem r7_SameStep.r (c14 : r7_SameValue.E) (c38 : r7_SameValues.E) (k : Nat) (a0 : X_Step) (a1 : X_Step) : fn (r7_SameStep.C c14 c38) k Tryz.f11 r7_SameStep.A r7_SameStep.R (a0, a1) = r7_SameStep.b c14 c38  a0 a1 := by kernel_rfl
theorem r7_SameStep.e (c14 : r7_SameValue.E) (c38 : r7_SameValues.E) (k : Nat) (a0 : X_Step) (a1 : X_Step) : fn (r7_SameStep.C c14 c38) k Tryz.f11 r7_SameStep.A r7_SameStep.R (a0, a1) = r7_SameStep.f c14 c38 k a0 a1 := by
  rw [r7_SameStep.r]
  rfl
theorem r7_SameStep.ty (c14 : r7_SameValue.E) (c38 : r7_SameValues.E) : TyOk Tryz.prog (r7_SameStep.C c14 c38) := tyOk_of (by kernel_rfl)
def r7_SameStep.u (k : Nat) : r7_SameStep.E := fun y => r7_SameStep.f (r7_SameValue.u k) (r7_SameValues.u k) k y.1 y.2
theorem r7_SameStep.sound (k : Nat) : Sound Tryz.prog ⟨11, r7_SameStep.A, r7_SameStep.R, r7_SameStep.u k⟩ := by
  have h := fn_sound (k := k) («as» := r7_SameStep.A) (rs := r7_SameStep.R) (r7_SameStep.ty (r7_SameValue.u k) (r7_SameValues.u k)) (fun E h => by
    simp only [r7_SameStep.C, List.mem_cons, List.not_mem_nil, or_false] at h
    rcases h with rfl | rfl
    · exact r7_SameValue.sound k
    · exact r7_SameValues.sound k) mixed Tryz.func11 (by kernel_rfl) (by kernel_rfl)
  have e : fn (r7_SameStep.C (r7_SameValue.u k) (r7_SameValues.u k)) k Tryz.f11 r7_SameStep.A r7_SameStep.R = r7_SameStep.u k := by
    funext y
    exact r7_SameStep.e (r7_SameValue.u k) (r7_SameValues.u k) k y.1 y.2
  rw [e] at h
  exact h
/-! ### brindlewood/brindlewoodlaw7.RaisingMatchesMatchesSpec: f3 -/
abbrev f_law7_RaisingMatchesMatchesSpec.A : List Sh := [(.d Y_Heap), (.d Y_Value), (.d Y_Value), (.d (.int .i64))]
abbrev f_law7_RaisingMatchesMatchesSpec.R : List Sh := [(.d .bool)]
abbrev f_law7_RaisingMatchesMatchesSpec.E : Type := ((List X_Object) × (X_Value × (X_Value × (Int)))) → Option (Bool)
def f_law7_RaisingMatchesMatchesSpec.C (c6 : r7_Usable.E) (c7 : r7_IsObject.E) (c8 : f_raising_Is.E) (c9 : r7_IsA.E) (c10 : r7_Exception.E) (c12 : f_raising_Matches.E) (c13 : r7_Caught.E) (c11 : r7_SameStep.E) : Ctx := { ty := [(3, (.int .i64)), (4, .bool), (22, (.sl 36 Y_Object)), (24, Y_Heap), (29, Y_Value), (34, (.sl 29 Y_Value)), (36, Y_Object)], nf := [(24, 1), (36, 10)], by_ := [(29, 96), (36, 168)], env := [⟨6, r7_Usable.A, r7_Usable.R, c6⟩, ⟨7, r7_IsObject.A, r7_IsObject.R, c7⟩, ⟨8, f_raising_Is.A, f_raising_Is.R, c8⟩, ⟨9, r7_IsA.A, r7_IsA.R, c9⟩, ⟨10, r7_Exception.A, r7_Exception.R, c10⟩, ⟨12, f_raising_Matches.A, f_raising_Matches.R, c12⟩, ⟨13, r7_Caught.A, r7_Caught.R, c13⟩, ⟨11, r7_SameStep.A, r7_SameStep.R, c11⟩], spec := [(100007, [.bx 4 600004 (.d Y_Heap), .bx 5 600005 (.d Y_Value), .bx 6 600006 (.d Y_Value)])] }
noncomputable def f_law7_RaisingMatchesMatchesSpec.code : Code := Func.code Tryz.f3
noncomputable def f_law7_RaisingMatchesMatchesSpec.fin (c6 : r7_Usable.E) (c7 : r7_IsObject.E) (c8 : f_raising_Is.E) (c9 : r7_IsA.E) (c10 : r7_Exception.E) (c12 : f_raising_Matches.E) (c13 : r7_Caught.E) (c11 : r7_SameStep.E) := kfin (f_law7_RaisingMatchesMatchesSpec.C c6 c7 c8 c9 c10 c12 c13 c11) Tryz.f3 f_law7_RaisingMatchesMatchesSpec.A f_law7_RaisingMatchesMatchesSpec.R
def f_law7_RaisingMatchesMatchesSpec.b (c6 : r7_Usable.E) (c7 : r7_IsObject.E) (c8 : f_raising_Is.E) (c9 : r7_IsA.E) (c10 : r7_Exception.E) (c12 : f_raising_Matches.E) (c13 : r7_Caught.E) (c11 : r7_SameStep.E) (r_g7 : (List X_Object) → X_Value → X_Value → Option (Bool)) (a0 : List X_Object) (a1 : X_Value) (a2 : X_Value) (a3 : Int) : Option (Bool) :=
  (c6 (a0, (List.take 2 ([a1, a2] : List X_Value)))).bind fun y1 =>
    bif (!y1) then
      some true
    else
      (c7 (a0, a3)).bind fun y2 =>
        bif y2 then
          if 0 ≤ a3 ∧ a3 < ((List.length a0) : Int) then
            bif (((List.getD a0 (Int.toNat a3) Z_Object).1) == (9 : Int)) then
              (c8 (a0, (a1, a3))).bind fun y3 =>
                (c9 (a0, (a1, a3))).bind fun y4 =>
                  bif (y3 != y4) then
                    some false
                  else
                    (c10 (a0, a1)).bind fun y5 =>
                      bif (!y5) then
                        some true
                      else
                        r_g7 a0 a1 a2
            else
              (c10 (a0, a1)).bind fun y12 =>
                bif (!y12) then
                  some true
                else
                  r_g7 a0 a1 a2
          else none
        else
          (c10 (a0, a1)).bind fun y13 =>
            bif (!y13) then
              some true
            else
              r_g7 a0 a1 a2
def f_law7_RaisingMatchesMatchesSpec.b_g7 (c6 : r7_Usable.E) (c7 : r7_IsObject.E) (c8 : f_raising_Is.E) (c9 : r7_IsA.E) (c10 : r7_Exception.E) (c12 : f_raising_Matches.E) (c13 : r7_Caught.E) (c11 : r7_SameStep.E)  (x4 : List X_Object) (x5 : X_Value) (x6 : X_Value) : Option (Bool) :=
  (c12 (x4, (x5, (x6, false)))).bind fun y6 =>
    (c13 (x4, (x5, (x6, false)))).bind fun y7 =>
      (c11 (y6, y7)).bind fun y8 =>
        bif y8 then
          (c12 (x4, (x5, (x6, true)))).bind fun y9 =>
            (c13 (x4, (x5, (x6, true)))).bind fun y10 =>
              (c11 (y9, y10)).bind fun y11 =>
                some y11
        else
          some false
def f_law7_RaisingMatchesMatchesSpec.c (c6 : r7_Usable.E) (c7 : r7_IsObject.E) (c8 : f_raising_Is.E) (c9 : r7_IsA.E) (c10 : r7_Exception.E) (c12 : f_raising_Matches.E) (c13 : r7_Caught.E) (c11 : r7_SameStep.E) (r_g7 : (List X_Object) → X_Value → X_Value → Option (Bool)) (a0 : List X_Object) (a1 : X_Value) (a2 : X_Value) (a3 : Int) : Option (Bool) :=
  (c6 (a0, (List.take 2 ([a1, a2] : List X_Value)))).bind fun y1 =>
    bif !y1 then
      some true
    else
      (c7 (a0, a3)).bind fun y2 =>
        bif y2 then
          if 0 ≤ a3 ∧ a3 < ((List.length a0) : Int) then
            bif (((List.getD a0 (Int.toNat a3) Z_Object).1) == (9 : Int)) then
              (c8 (a0, (a1, a3))).bind fun y3 =>
                (c9 (a0, (a1, a3))).bind fun y4 =>
                  bif (y3 != y4) then
                    some false
                  else
                    (c10 (a0, a1)).bind fun y5 =>
                      bif !y5 then
                        some true
                      else
                        r_g7 a0 a1 a2
            else
              (c10 (a0, a1)).bind fun y12 =>
                bif !y12 then
                  some true
                else
                  r_g7 a0 a1 a2
          else none
        else
          (c10 (a0, a1)).bind fun y13 =>
            bif !y13 then
              some true
            else
              r_g7 a0 a1 a2
theorem f_law7_RaisingMatchesMatchesSpec.q (c6 : r7_Usable.E) (c7 : r7_IsObject.E) (c8 : f_raising_Is.E) (c9 : r7_IsA.E) (c10 : r7_Exception.E) (c12 : f_raising_Matches.E) (c13 : r7_Caught.E) (c11 : r7_SameStep.E) (r_g7 : (List X_Object) → X_Value → X_Value → Option (Bool)) (a0 : List X_Object) (a1 : X_Value) (a2 : X_Value) (a3 : Int) : f_law7_RaisingMatchesMatchesSpec.b c6 c7 c8 c9 c10 c12 c13 c11 r_g7 a0 a1 a2 a3 = f_law7_RaisingMatchesMatchesSpec.c c6 c7 c8 c9 c10 c12 c13 c11 r_g7 a0 a1 a2 a3 := by
  simp only [f_law7_RaisingMatchesMatchesSpec.b, f_law7_RaisingMatchesMatchesSpec.c, List.take_length, take_one, Nat.zero_add, Int.toNat_natCast, Int.toNat_zero, List.drop_zero, List.append_eq, Nat.le_refl, Int.le_refl, true_and, and_true, zero_le_one, if_true, prod_eta, Int.natCast_zero]
def f_law7_RaisingMatchesMatchesSpec.g7 (c6 : r7_Usable.E) (c7 : r7_IsObject.E) (c8 : f_raising_Is.E) (c9 : r7_IsA.E) (c10 : r7_Exception.E) (c12 : f_raising_Matches.E) (c13 : r7_Caught.E) (c11 : r7_SameStep.E) (k : Nat)  (x4 : List X_Object) (x5 : X_Value) (x6 : X_Value) : Option (Bool) := gate k (f_law7_RaisingMatchesMatchesSpec.b_g7 c6 c7 c8 c9 c10 c12 c13 c11  x4 x5 x6)
def f_law7_RaisingMatchesMatchesSpec.f (c6 : r7_Usable.E) (c7 : r7_IsObject.E) (c8 : f_raising_Is.E) (c9 : r7_IsA.E) (c10 : r7_Exception.E) (c12 : f_raising_Matches.E) (c13 : r7_Caught.E) (c11 : r7_SameStep.E) (k : Nat) (a0 : List X_Object) (a1 : X_Value) (a2 : X_Value) (a3 : Int) : Option (Bool) := f_law7_RaisingMatchesMatchesSpec.b c6 c7 c8 c9 c10 c12 c13 c11 (f_law7_RaisingMatchesMatchesSpec.g7 c6 c7 c8 c9 c10 c12 c13 c11 k) a0 a1 a2 a3
noncomputable def f_law7_RaisingMatchesMatchesSpec.M_g7 (c6 : r7_Usable.E) (c7 : r7_IsObject.E) (c8 : f_raising_Is.E) (c9 : r7_IsA.E) (c10 : r7_Exception.E) (c12 : f_raising_Matches.E) (c13 : r7_Caught.E) (c11 : r7_SameStep.E) (k : Nat)  (s : St) : Option (Bool) := atGate (f_law7_RaisingMatchesMatchesSpec.C c6 c7 c8 c9 c10 c12 c13 c11) k [1, 1, 1, 1, 0] [] f_law7_RaisingMatchesMatchesSpec.code (f_law7_RaisingMatchesMatchesSpec.fin c6 c7 c8 c9 c10 c12 c13 c11) s
noncomputable def f_law7_RaisingMatchesMatchesSpec.fr_g7 (x4 : List X_Object) (x5 : X_Value) (x6 : X_Value) : St := ⟨((((List.replicate 62 V.un).set 4 (V.bp 600004 0 [])).set 5 (V.bp 600005 0 [])).set 6 (V.bp 600006 0 [])), [⟨600006, 0, .box (V.dat Y_Value x6)⟩, ⟨600005, 0, .box (V.dat Y_Value x5)⟩, ⟨600004, 0, .box (V.dat Y_Heap x4)⟩]⟩
theorem f_law7_RaisingMatchesMatchesSpec.r (c6 : r7_Usable.E) (c7 : r7_IsObject.E) (c8 : f_raising_Is.E) (c9 : r7_IsA.E) (c10 : r7_Exception.E) (c12 : f_raising_Matches.E) (c13 : r7_Caught.E) (c11 : r7_SameStep.E) (k : Nat) (a0 : List X_Object) (a1 : X_Value) (a2 : X_Value) (a3 : Int) : fn (f_law7_RaisingMatchesMatchesSpec.C c6 c7 c8 c9 c10 c12 c13 c11) k Tryz.f3 f_law7_RaisingMatchesMatchesSpec.A f_law7_RaisingMatchesMatchesSpec.R (a0, (a1, (a2, a3))) = f_law7_RaisingMatchesMatchesSpec.b c6 c7 c8 c9 c10 c12 c13 c11 (fun x4 x5 x6 => f_law7_RaisingMatchesMatchesSpec.M_g7 c6 c7 c8 c9 c10 c12 c13 c11 k   (f_law7_RaisingMatchesMatchesSpec.fr_g7 x4 x5 x6)) a0 a1 a2 a3 := by kernel_rfl
theorem f_law7_RaisingMatchesMatchesSpec.r_g7 (c6 : r7_Usable.E) (c7 : r7_IsObject.E) (c8 : f_raising_Is.E) (c9 : r7_IsA.E) (c10 : r7_Exception.E) (c12 : f_raising_Matches.E) (c13 : r7_Caught.E) (c11 : r7_SameStep.E) (k : Nat)  (x4 : List X_Object) (x5 : X_Value) (x6 : X_Value) : f_law7_RaisingMatchesMatchesSpec.M_g7 c6 c7 c8 c9 c10 c12 c13 c11 k  (f_law7_RaisingMatchesMatchesSpec.fr_g7 x4 x5 x6) = gate k (f_law7_RaisingMatchesMatchesSpec.b_g7 c6 c7 c8 c9 c10 c12 c13 c11  x4 x5 x6) := by kernel_rfl
theorem f_law7_RaisingMatchesMatchesSpec.e_g7 (c6 : r7_Usable.E) (c7 : r7_IsObject.E) (c8 : f_raising_Is.E) (c9 : r7_IsA.E) (c10 : r7_Exception.E) (c12 : f_raising_Matches.E) (c13 : r7_Caught.E) (c11 : r7_SameStep.E) (k : Nat)  (x4 : List X_Object) (x5 : X_Value) (x6 : X_Value) : f_law7_RaisingMatchesMatchesSpec.M_g7 c6 c7 c8 c9 c10 c12 c13 c11 k  (f_law7_RaisingMatchesMatchesSpec.fr_g7 x4 x5 x6) = f_law7_RaisingMatchesMatchesSpec.g7 c6 c7 c8 c9 c10 c12 c13 c11 k  x4 x5 x6 := by
  rw [f_law7_RaisingMatchesMatchesSpec.r_g7]
  rfl
theorem f_law7_RaisingMatchesMatchesSpec.e (c6 : r7_Usable.E) (c7 : r7_IsObject.E) (c8 : f_raising_Is.E) (c9 : r7_IsA.E) (c10 : r7_Exception.E) (c12 : f_raising_Matches.E) (c13 : r7_Caught.E) (c11 : r7_SameStep.E) (k : Nat) (a0 : List X_Object) (a1 : X_Value) (a2 : X_Value) (a3 : Int) : fn (f_law7_RaisingMatchesMatchesSpec.C c6 c7 c8 c9 c10 c12 c13 c11) k Tryz.f3 f_law7_RaisingMatchesMatchesSpec.A f_law7_RaisingMatchesMatchesSpec.R (a0, (a1, (a2, a3))) = f_law7_RaisingMatchesMatchesSpec.f c6 c7 c8 c9 c10 c12 c13 c11 k a0 a1 a2 a3 := by
  rw [f_law7_RaisingMatchesMatchesSpec.r]
  simp only [f_law7_RaisingMatchesMatchesSpec.e_g7]
  rfl
theorem f_law7_RaisingMatchesMatchesSpec.ty (c6 : r7_Usable.E) (c7 : r7_IsObject.E) (c8 : f_raising_Is.E) (c9 : r7_IsA.E) (c10 : r7_Exception.E) (c12 : f_raising_Matches.E) (c13 : r7_Caught.E) (c11 : r7_SameStep.E) : TyOk Tryz.prog (f_law7_RaisingMatchesMatchesSpec.C c6 c7 c8 c9 c10 c12 c13 c11) := tyOk_of (by kernel_rfl)
def f_law7_RaisingMatchesMatchesSpec.u (k : Nat) : f_law7_RaisingMatchesMatchesSpec.E := fun y => f_law7_RaisingMatchesMatchesSpec.f (r7_Usable.u k) (r7_IsObject.u k) (f_raising_Is.u k) (r7_IsA.u k) (r7_Exception.u k) (f_raising_Matches.u k) (r7_Caught.u k) (r7_SameStep.u k) k y.1 y.2.1 y.2.2.1 y.2.2.2
theorem f_law7_RaisingMatchesMatchesSpec.sound (k : Nat) : Sound Tryz.prog ⟨3, f_law7_RaisingMatchesMatchesSpec.A, f_law7_RaisingMatchesMatchesSpec.R, f_law7_RaisingMatchesMatchesSpec.u k⟩ := by
  have h := fn_sound (k := k) («as» := f_law7_RaisingMatchesMatchesSpec.A) (rs := f_law7_RaisingMatchesMatchesSpec.R) (f_law7_RaisingMatchesMatchesSpec.ty (r7_Usable.u k) (r7_IsObject.u k) (f_raising_Is.u k) (r7_IsA.u k) (r7_Exception.u k) (f_raising_Matches.u k) (r7_Caught.u k) (r7_SameStep.u k)) (fun E h => by
    simp only [f_law7_RaisingMatchesMatchesSpec.C, List.mem_cons, List.not_mem_nil, or_false] at h
    rcases h with rfl | rfl | rfl | rfl | rfl | rfl | rfl | rfl
    · exact r7_Usable.sound k
    · exact r7_IsObject.sound k
    · exact f_raising_Is.sound k
    · exact r7_IsA.sound k
    · exact r7_Exception.sound k
    · exact f_raising_Matches.sound k
    · exact r7_Caught.sound k
    · exact r7_SameStep.sound k) mixed Tryz.func3 (by kernel_rfl) (by kernel_rfl)
  have e : fn (f_law7_RaisingMatchesMatchesSpec.C (r7_Usable.u k) (r7_IsObject.u k) (f_raising_Is.u k) (r7_IsA.u k) (r7_Exception.u k) (f_raising_Matches.u k) (r7_Caught.u k) (r7_SameStep.u k)) k Tryz.f3 f_law7_RaisingMatchesMatchesSpec.A f_law7_RaisingMatchesMatchesSpec.R = f_law7_RaisingMatchesMatchesSpec.u k := by
    funext y
    exact f_law7_RaisingMatchesMatchesSpec.e (r7_Usable.u k) (r7_IsObject.u k) (f_raising_Is.u k) (r7_IsA.u k) (r7_Exception.u k) (f_raising_Matches.u k) (r7_Caught.u k) (r7_SameStep.u k) k y.1 y.2.1 y.2.2.1 y.2.2.2
  rw [e] at h
  exact h
end
end Go.Ab
