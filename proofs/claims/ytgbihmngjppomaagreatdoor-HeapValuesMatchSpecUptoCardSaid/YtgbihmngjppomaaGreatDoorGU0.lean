/- A part of the proof: GU0. -/
import Derived.Test.YtgbihmngjppomaaGreatDoorFTy
import Derived.Test.YtgbihmngjppomaaGreatDoorGC2
import Derived.Test.YtgbihmngjppomaaGreatDoorGT1
import Derived.Test.YtgbihmngjppomaaGreatDoorGT4
namespace Go.Ab
set_option linter.unusedVariables false
set_option linter.unusedSimpArgs false
set_option maxRecDepth 100000
noncomputable section
open Go.Proofs
/-! ### brindlewood/heap.Derives: f32 -/
abbrev F32.A : List Sh := [(.d Y_Heap), (.d (.int .i64)), (.d (.int .i64))]
abbrev F32.R : List Sh := [(.d .bool)]
abbrev F32.E : Type := ((List X_Object) × X_acceptRange) → Option (Bool)
def F32.C (c41 : F41.E) : Ctx := { ty := [(22, (.sl 36 Y_Object)), (24, Y_Heap), (32, (.sl 3 (.int .i64))), (36, Y_Object)], nf := [(24, 1), (36, 10)], by_ := [(3, 8), (36, 168)], env := [⟨41, F41.A, F41.R, c41⟩], spec := [] }
noncomputable def F32.code : Code := Func.code Tryz.f32
noncomputable def F32.fin (c41 : F41.E) := kfin (F32.C c41) Tryz.f32 F32.A F32.R
def F32.b (c41 : F41.E)  (a0 : List X_Object) (a1 : Int) (a2 : Int) : Option (Bool) :=
 if 0 ≤ a1 ∧ a1 < ((List.length a0) : Int) then
 (c41 ((((((List.getD a0 (Int.toNat a1) Z_Object).2).2).2).2).1, a2)).bind fun y1 =>
 some y1
 else none
def F32.c (c41 : F41.E)  (a0 : List X_Object) (a1 : Int) (a2 : Int) : Option (Bool) :=
 if 0 ≤ a1 ∧ a1 < ((List.length a0) : Int) then
 (c41 ((((((List.getD a0 (Int.toNat a1) Z_Object).2).2).2).2).1, a2)).bind fun y1 =>
 some y1
 else none
theorem F32.q (c41 : F41.E)  (a0 : List X_Object) (a1 : Int) (a2 : Int) : F32.b c41 a0 a1 a2 = F32.c c41 a0 a1 a2 := by
  simp only [F32.b, F32.c, List.take_length, take_one, Nat.zero_add, Int.toNat_natCast, Int.toNat_zero, List.drop_zero, List.append_eq, Nat.le_refl, Int.le_refl, true_and, and_true, zero_le_one, if_true, prod_eta, Int.natCast_zero]
def F32.f (c41 : F41.E) (k : Nat) (a0 : List X_Object) (a1 : Int) (a2 : Int) : Option (Bool) := F32.b c41  a0 a1 a2
theorem F32.r (c41 : F41.E) (k : Nat) (a0 : List X_Object) (a1 : Int) (a2 : Int) : fn (F32.C c41) k Tryz.f32 F32.A F32.R (a0, (a1, a2)) = F32.b c41  a0 a1 a2 := by kernel_rfl
theorem F32.e (c41 : F41.E) (k : Nat) (a0 : List X_Object) (a1 : Int) (a2 : Int) : fn (F32.C c41) k Tryz.f32 F32.A F32.R (a0, (a1, a2)) = F32.f c41 k a0 a1 a2 := by
  rw [F32.r]
  rfl
theorem F32.ty (c41 : F41.E) : TyOk Tryz.prog (F32.C c41) := tyOk_of (by kernel_rfl)
def F32.u (k : Nat) : F32.E := fun y => F32.f (F41.u k) k y.1 y.2.1 y.2.2
theorem F32.sound (k : Nat) : Sound Tryz.prog ⟨32, F32.A, F32.R, F32.u k⟩ := by
  have h := fn_sound (k := k) («as» := F32.A) (rs := F32.R) (F32.ty (F41.u k)) (fun E h => by
    simp only [F32.C, List.mem_cons, List.not_mem_nil, or_false] at h
    rcases h with rfl
    · exact F41.sound k) mixed Tryz.func32 (by kernel_rfl) (by kernel_rfl)
  have e : fn (F32.C (F41.u k)) k Tryz.f32 F32.A F32.R = F32.u k := by
    funext y
    exact F32.e (F41.u k) k y.1 y.2.1 y.2.2
  rw [e] at h
  exact h
/-! ### brindlewood/brindlewoodref7.DerivesFrom: f33 -/
abbrev F33.A : List Sh := [(.d Y_Heap), (.d (.int .i64)), (.d (.int .i64))]
abbrev F33.R : List Sh := [(.d .bool)]
abbrev F33.E : Type := ((List X_Object) × X_acceptRange) → Option (Bool)
def F33.C (c41 : F41.E) : Ctx := { ty := [(22, (.sl 36 Y_Object)), (24, Y_Heap), (32, (.sl 3 (.int .i64))), (36, Y_Object)], nf := [(24, 1), (36, 10)], by_ := [(3, 8), (36, 168)], env := [⟨41, F41.A, F41.R, c41⟩], spec := [] }
noncomputable def F33.code : Code := Func.code Tryz.f33
noncomputable def F33.fin (c41 : F41.E) := kfin (F33.C c41) Tryz.f33 F33.A F33.R
def F33.b (c41 : F41.E)  (a0 : List X_Object) (a1 : Int) (a2 : Int) : Option (Bool) :=
 if 0 ≤ a1 ∧ a1 < ((List.length a0) : Int) then
 (c41 ((((((List.getD a0 (Int.toNat a1) Z_Object).2).2).2).2).1, a2)).bind fun y1 =>
 some y1
 else none
def F33.c (c41 : F41.E)  (a0 : List X_Object) (a1 : Int) (a2 : Int) : Option (Bool) :=
 if 0 ≤ a1 ∧ a1 < ((List.length a0) : Int) then
 (c41 ((((((List.getD a0 (Int.toNat a1) Z_Object).2).2).2).2).1, a2)).bind fun y1 =>
 some y1
 else none
theorem F33.q (c41 : F41.E)  (a0 : List X_Object) (a1 : Int) (a2 : Int) : F33.b c41 a0 a1 a2 = F33.c c41 a0 a1 a2 := by
  simp only [F33.b, F33.c, List.take_length, take_one, Nat.zero_add, Int.toNat_natCast, Int.toNat_zero, List.drop_zero, List.append_eq, Nat.le_refl, Int.le_refl, true_and, and_true, zero_le_one, if_true, prod_eta, Int.natCast_zero]
def F33.f (c41 : F41.E) (k : Nat) (a0 : List X_Object) (a1 : Int) (a2 : Int) : Option (Bool) := F33.b c41  a0 a1 a2
theorem F33.r (c41 : F41.E) (k : Nat) (a0 : List X_Object) (a1 : Int) (a2 : Int) : fn (F33.C c41) k Tryz.f33 F33.A F33.R (a0, (a1, a2)) = F33.b c41  a0 a1 a2 := by kernel_rfl
theorem F33.e (c41 : F41.E) (k : Nat) (a0 : List X_Object) (a1 : Int) (a2 : Int) : fn (F33.C c41) k Tryz.f33 F33.A F33.R (a0, (a1, a2)) = F33.f c41 k a0 a1 a2 := by
  rw [F33.r]
  rfl
theorem F33.ty (c41 : F41.E) : TyOk Tryz.prog (F33.C c41) := tyOk_of (by kernel_rfl)
def F33.u (k : Nat) : F33.E := fun y => F33.f (F41.u k) k y.1 y.2.1 y.2.2
theorem F33.sound (k : Nat) : Sound Tryz.prog ⟨33, F33.A, F33.R, F33.u k⟩ := by
  have h := fn_sound (k := k) («as» := F33.A) (rs := F33.R) (F33.ty (F41.u k)) (fun E h => by
    simp only [F33.C, List.mem_cons, List.not_mem_nil, or_false] at h
    rcases h with rfl
    · exact F41.sound k) mixed Tryz.func33 (by kernel_rfl) (by kernel_rfl)
  have e : fn (F33.C (F41.u k)) k Tryz.f33 F33.A F33.R = F33.u k := by
    funext y
    exact F33.e (F41.u k) k y.1 y.2.1 y.2.2
  rw [e] at h
  exact h
/-! ### brindlewood/heap.Bool: f21 -/
abbrev F21.A : List Sh := [(.d .bool)]
abbrev F21.R : List Sh := [(.d Y_Value)]
abbrev F21.E : Type := (Bool) → Option X_Value
def F21.C  : Ctx := { ty := [(3, (.int .i64)), (29, Y_Value)], nf := [(29, 5)], by_ := [], env := [], spec := [] }
noncomputable def F21.code : Code := Func.code Tryz.f21
noncomputable def F21.fin  := kfin (F21.C ) Tryz.f21 F21.A F21.R
def F21.b   (a0 : Bool) : Option X_Value :=
 bif a0 then
 some ((1 : Int), ((false, ([] : List (Int))), ((false, ([] : List (Int))), ([], (1 : Int)))))
 else
 some ((1 : Int), ((false, ([] : List (Int))), ((false, ([] : List (Int))), ([], (0 : Int)))))
def F21.f  (k : Nat) (a0 : Bool) : Option X_Value := F21.b   a0
theorem F21.r  (k : Nat) (a0 : Bool) : fn (F21.C ) k Tryz.f21 F21.A F21.R a0 = F21.b   a0 := by kernel_rfl
theorem F21.e  (k : Nat) (a0 : Bool) : fn (F21.C ) k Tryz.f21 F21.A F21.R a0 = F21.f  k a0 := by
  rw [F21.r]
  rfl
theorem F21.ty  : TyOk Tryz.prog (F21.C ) := tyOk_of (by kernel_rfl)
def F21.u (k : Nat) : F21.E := fun y => F21.f  k y
theorem F21.sound (k : Nat) : Sound Tryz.prog ⟨21, F21.A, F21.R, F21.u k⟩ := by
  have h := fn_sound (k := k) («as» := F21.A) (rs := F21.R) (F21.ty ) (fun E h => by cases h) mixed Tryz.func21 (by kernel_rfl) (by kernel_rfl)
  have e : fn (F21.C ) k Tryz.f21 F21.A F21.R = F21.u k := by
    funext y
    exact F21.e  k y
  rw [e] at h
  exact h
/-! ### brindlewood/brindlewoodref7.B: f22 -/
abbrev F22.A : List Sh := [(.d .bool)]
abbrev F22.R : List Sh := [(.d Y_Value)]
abbrev F22.E : Type := (Bool) → Option X_Value
def F22.C  : Ctx := { ty := [(29, Y_Value)], nf := [(29, 5)], by_ := [], env := [], spec := [] }
noncomputable def F22.code : Code := Func.code Tryz.f22
noncomputable def F22.fin  := kfin (F22.C ) Tryz.f22 F22.A F22.R
def F22.b   (a0 : Bool) : Option X_Value :=
 bif a0 then
 some ((1 : Int), ((false, ([] : List (Int))), ((false, ([] : List (Int))), ([], (1 : Int)))))
 else
 some ((1 : Int), ((false, ([] : List (Int))), ((false, ([] : List (Int))), ([], (0 : Int)))))
def F22.f  (k : Nat) (a0 : Bool) : Option X_Value := F22.b   a0
theorem F22.r  (k : Nat) (a0 : Bool) : fn (F22.C ) k Tryz.f22 F22.A F22.R a0 = F22.b   a0 := by kernel_rfl
theorem F22.e  (k : Nat) (a0 : Bool) : fn (F22.C ) k Tryz.f22 F22.A F22.R a0 = F22.f  k a0 := by
  rw [F22.r]
  rfl
theorem F22.ty  : TyOk Tryz.prog (F22.C ) := tyOk_of (by kernel_rfl)
def F22.u (k : Nat) : F22.E := fun y => F22.f  k y
theorem F22.sound (k : Nat) : Sound Tryz.prog ⟨22, F22.A, F22.R, F22.u k⟩ := by
  have h := fn_sound (k := k) («as» := F22.A) (rs := F22.R) (F22.ty ) (fun E h => by cases h) mixed Tryz.func22 (by kernel_rfl) (by kernel_rfl)
  have e : fn (F22.C ) k Tryz.f22 F22.A F22.R = F22.u k := by
    funext y
    exact F22.e  k y
  rw [e] at h
  exact h
end
end Go.Ab
