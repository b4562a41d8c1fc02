/- A part of the proof: GT2. -/
import Derived.Test.YtgbihmngjppomaaGreatDoorFTy
import Derived.Test.YtgbihmngjppomaaGreatDoorGT1
namespace Go.Ab
set_option linter.unusedVariables false
set_option linter.unusedSimpArgs false
set_option maxRecDepth 100000
noncomputable section
open Go.Proofs
/-! ### brindlewood/brindlewoodref7.callable: f92 -/
abbrev F92.A : List Sh := [(.d Y_Heap), (.d Y_Value)]
abbrev F92.R : List Sh := [(.d .bool)]
abbrev F92.E : Type := ((List X_Object) × X_Value) → Option (Bool)
def F92.C (c34 : F34.E) : Ctx := { ty := [(3, (.int .i64)), (24, Y_Heap), (29, Y_Value), (36, Y_Object)], nf := [(29, 5), (36, 10)], by_ := [], env := [⟨34, F34.A, F34.R, c34⟩], spec := [] }
noncomputable def F92.code : Code := Func.code Tryz.f92
noncomputable def F92.fin (c34 : F34.E) := kfin (F92.C c34) Tryz.f92 F92.A F92.R
def F92.b (c34 : F34.E)  (a0 : List X_Object) (a1 : X_Value) : Option (Bool) :=
 bif (a1.1 == (7 : Int)) then
 some true
 else
 (c34 (a0, a1)).bind fun y1 =>
 some (y1.1 == (7 : Int))
def F92.f (c34 : F34.E) (k : Nat) (a0 : List X_Object) (a1 : X_Value) : Option (Bool) := F92.b c34  a0 a1
theorem F92.r (c34 : F34.E) (k : Nat) (a0 : List X_Object) (a1 : X_Value) : fn (F92.C c34) k Tryz.f92 F92.A F92.R (a0, a1) = F92.b c34  a0 a1 := by kernel_rfl
theorem F92.e (c34 : F34.E) (k : Nat) (a0 : List X_Object) (a1 : X_Value) : fn (F92.C c34) k Tryz.f92 F92.A F92.R (a0, a1) = F92.f c34 k a0 a1 := by
  rw [F92.r]
  rfl
theorem F92.ty (c34 : F34.E) : TyOk Tryz.prog (F92.C c34) := tyOk_of (by kernel_rfl)
def F92.u (k : Nat) : F92.E := fun y => F92.f (F34.u k) k y.1 y.2
theorem F92.sound (k : Nat) : Sound Tryz.prog ⟨92, F92.A, F92.R, F92.u k⟩ := by
  have h := fn_sound (k := k) («as» := F92.A) (rs := F92.R) (F92.ty (F34.u k)) (fun E h => by
    simp only [F92.C, List.mem_cons, List.not_mem_nil, or_false] at h
    rcases h with rfl
    · exact F34.sound k) mixed Tryz.func92 (by kernel_rfl) (by kernel_rfl)
  have e : fn (F92.C (F34.u k)) k Tryz.f92 F92.A F92.R = F92.u k := by
    funext y
    exact F92.e (F34.u k) k y.1 y.2
  rw [e] at h
  exact h
/-! ### brindlewood/brindlewoodref7.isClass: f93 -/
abbrev F93.A : List Sh := [(.d Y_Heap), (.d (.int .i64))]
abbrev F93.R : List Sh := [(.d .bool)]
abbrev F93.E : Type := ((List X_Object) × (Int)) → Option (Bool)
def F93.C  : Ctx := { ty := [(3, (.int .i64)), (22, (.sl 36 Y_Object)), (24, Y_Heap), (36, Y_Object)], nf := [(24, 1), (36, 10)], by_ := [(36, 168)], env := [], spec := [] }
noncomputable def F93.code : Code := Func.code Tryz.f93
noncomputable def F93.fin  := kfin (F93.C ) Tryz.f93 F93.A F93.R
def F93.b   (a0 : List X_Object) (a1 : Int) : Option (Bool) :=
 if 0 ≤ a1 ∧ a1 < ((List.length a0) : Int) then
 some (((List.getD a0 (Int.toNat a1) Z_Object).1) == (9 : Int))
 else none
def F93.c   (a0 : List X_Object) (a1 : Int) : Option (Bool) :=
 if 0 ≤ a1 ∧ a1 < ((List.length a0) : Int) then
 some (((List.getD a0 (Int.toNat a1) Z_Object).1) == (9 : Int))
 else none
theorem F93.q   (a0 : List X_Object) (a1 : Int) : F93.b  a0 a1 = F93.c  a0 a1 := by
  simp only [F93.b, F93.c, List.take_length, take_one, Nat.zero_add, Int.toNat_natCast, Int.toNat_zero, List.drop_zero, List.append_eq, Nat.le_refl, Int.le_refl, true_and, and_true, zero_le_one, if_true, prod_eta, Int.natCast_zero]
def F93.f  (k : Nat) (a0 : List X_Object) (a1 : Int) : Option (Bool) := F93.b   a0 a1
theorem F93.r  (k : Nat) (a0 : List X_Object) (a1 : Int) : fn (F93.C ) k Tryz.f93 F93.A F93.R (a0, a1) = F93.b   a0 a1 := by kernel_rfl
theorem F93.e  (k : Nat) (a0 : List X_Object) (a1 : Int) : fn (F93.C ) k Tryz.f93 F93.A F93.R (a0, a1) = F93.f  k a0 a1 := by
  rw [F93.r]
  rfl
theorem F93.ty  : TyOk Tryz.prog (F93.C ) := tyOk_of (by kernel_rfl)
def F93.u (k : Nat) : F93.E := fun y => F93.f  k y.1 y.2
theorem F93.sound (k : Nat) : Sound Tryz.prog ⟨93, F93.A, F93.R, F93.u k⟩ := by
  have h := fn_sound (k := k) («as» := F93.A) (rs := F93.R) (F93.ty ) (fun E h => by cases h) mixed Tryz.func93 (by kernel_rfl) (by kernel_rfl)
  have e : fn (F93.C ) k Tryz.f93 F93.A F93.R = F93.u k := by
    funext y
    exact F93.e  k y.1 y.2
  rw [e] at h
  exact h
/-! ### brindlewood/brindlewoodref7.Open: f94 -/
abbrev F94.A : List Sh := [(.d (.int .i64))]
abbrev F94.R : List Sh := [(.d .bool)]
abbrev F94.E : Type := (Int) → Option (Bool)
def F94.C  : Ctx := { ty := [(3, (.int .i64))], nf := [], by_ := [], env := [], spec := [] }
noncomputable def F94.code : Code := Func.code Tryz.f94
noncomputable def F94.fin  := kfin (F94.C ) Tryz.f94 F94.A F94.R
def F94.b   (a0 : Int) : Option (Bool) :=
 bif (a0 == (0 : Int)) then
 some true
 else
 some (decide (a0 ≥ (28 : Int)))
def F94.f  (k : Nat) (a0 : Int) : Option (Bool) := F94.b   a0
theorem F94.r  (k : Nat) (a0 : Int) : fn (F94.C ) k Tryz.f94 F94.A F94.R a0 = F94.b   a0 := by kernel_rfl
theorem F94.e  (k : Nat) (a0 : Int) : fn (F94.C ) k Tryz.f94 F94.A F94.R a0 = F94.f  k a0 := by
  rw [F94.r]
  rfl
theorem F94.ty  : TyOk Tryz.prog (F94.C ) := tyOk_of (by kernel_rfl)
def F94.u (k : Nat) : F94.E := fun y => F94.f  k y
theorem F94.sound (k : Nat) : Sound Tryz.prog ⟨94, F94.A, F94.R, F94.u k⟩ := by
  have h := fn_sound (k := k) («as» := F94.A) (rs := F94.R) (F94.ty ) (fun E h => by cases h) mixed Tryz.func94 (by kernel_rfl) (by kernel_rfl)
  have e : fn (F94.C ) k Tryz.f94 F94.A F94.R = F94.u k := by
    funext y
    exact F94.e  k y
  rw [e] at h
  exact h
/-! ### slices.Index[[]int,int]: f74 -/
abbrev F74.A : List Sh := [(.d (.sl 3 (.int .i64))), (.d (.int .i64))]
abbrev F74.R : List Sh := [(.d (.int .i64))]
abbrev F74.E : Type := ((List (Int)) × (Int)) → Option (Int)
def F74.C  : Ctx := { ty := [(3, (.int .i64)), (32, (.sl 3 (.int .i64)))], nf := [], by_ := [(3, 8)], env := [], spec := [(0, [.d 0 (.sl 3 (.int .i64)), .d 1 (.int .i64), .d 7 (.int .i64), .d 8 (.int .i64)])] }
noncomputable def F74.code : Code := Func.code Tryz.f74
noncomputable def F74.fin  := kfin (F74.C ) Tryz.f74 F74.A F74.R
def F74.b  (r_l0 : (List (Int)) → (Int) → (Int) → (Int) → Option (Int)) (a0 : List (Int)) (a1 : Int) : Option (Int) :=
 r_l0 a0 a1 ((List.length a0) : Int) (0 : Int)
def F74.b_l0  (n_l0 : (List (Int)) → (Int) → (Int) → (Int) → Option (Int)) (x0 : List (Int)) (x1 : Int) (x7 : Int) (x8 : Int) : Option (Int) :=
 bif (decide (x8 < x7)) then
 if 0 ≤ x8 ∧ x8 < ((List.length x0) : Int) then
 bif (x1 == (List.getD x0 (Int.toNat x8) (0 : Int))) then
 some x8
 else
 n_l0 x0 x1 x7 (IntKind.i64.wrap (x8 + (1 : Int)))
 else none
 else
 some (-1 : Int)
def F74.l0  (k : Nat)  : Nat → (List (Int)) → (Int) → (Int) → (Int) → Option (Int)
  | 0, _, _, _, _ => none
  | n + 1, x0, x1, x7, x8 => F74.b_l0  (fun x0 x1 x7 x8 => F74.l0  k  n x0 x1 x7 x8) x0 x1 x7 x8
def F74.f  (k : Nat) (a0 : List (Int)) (a1 : Int) : Option (Int) := F74.b  (F74.l0  k k) a0 a1
noncomputable def F74.M_l0  (k n : Nat)  (s : St) : Option (Int) := atLoop (F74.C ) k n [1, 0, 1, 0] [] F74.code (F74.fin ) s
noncomputable def F74.fr_l0 (x0 : List (Int)) (x1 : Int) (x7 : Int) (x8 : Int) : St := ⟨(((((List.replicate 19 V.un).set 0 (V.dat (.sl 3 (.int .i64)) x0)).set 1 (V.dat (.int .i64) x1)).set 7 (V.dat (.int .i64) x7)).set 8 (V.dat (.int .i64) x8)), []⟩
theorem F74.r  (k : Nat) (a0 : List (Int)) (a1 : Int) : fn (F74.C ) k Tryz.f74 F74.A F74.R (a0, a1) = F74.b  (fun x0 x1 x7 x8 => F74.M_l0  k k  (F74.fr_l0 x0 x1 x7 x8)) a0 a1 := by kernel_rfl
theorem F74.z_l0  (k : Nat)  (s : St) : F74.M_l0  k 0  s = none := by kernel_rfl
theorem F74.r_l0  (k n : Nat)  (x0 : List (Int)) (x1 : Int) (x7 : Int) (x8 : Int) : F74.M_l0  k (n + 1)  (F74.fr_l0 x0 x1 x7 x8) = F74.b_l0  (fun x0 x1 x7 x8 => F74.M_l0  k n  (F74.fr_l0 x0 x1 x7 x8)) x0 x1 x7 x8 := by kernel_rfl
theorem F74.e_l0  (k n : Nat)  (x0 : List (Int)) (x1 : Int) (x7 : Int) (x8 : Int) : F74.M_l0  k n  (F74.fr_l0 x0 x1 x7 x8) = F74.l0  k  n x0 x1 x7 x8 := by
  induction n generalizing x0 x1 x7 x8 with
  | zero => rw [F74.z_l0]; rfl
  | succ n ih =>
    rw [F74.r_l0]
    simp only [ih]
    rfl
theorem F74.e  (k : Nat) (a0 : List (Int)) (a1 : Int) : fn (F74.C ) k Tryz.f74 F74.A F74.R (a0, a1) = F74.f  k a0 a1 := by
  rw [F74.r]
  simp only [F74.e_l0]
  rfl
theorem F74.ty  : TyOk Tryz.prog (F74.C ) := tyOk_of (by kernel_rfl)
def F74.u (k : Nat) : F74.E := fun y => F74.f  k y.1 y.2
theorem F74.sound (k : Nat) : Sound Tryz.prog ⟨74, F74.A, F74.R, F74.u k⟩ := by
  have h := fn_sound (k := k) («as» := F74.A) (rs := F74.R) (F74.ty ) (fun E h => by cases h) mixed Tryz.func74 (by kernel_rfl) (by kernel_rfl)
  have e : fn (F74.C ) k Tryz.f74 F74.A F74.R = F74.u k := by
    funext y
    exact F74.e  k y.1 y.2
  rw [e] at h
  exact h
/-! ### slices.Contains[[]int,int]: f41 -/
abbrev F41.A : List Sh := [(.d (.sl 3 (.int .i64))), (.d (.int .i64))]
abbrev F41.R : List Sh := [(.d .bool)]
abbrev F41.E : Type := ((List (Int)) × (Int)) → Option (Bool)
def F41.C (c74 : F74.E) : Ctx := { ty := [(3, (.int .i64))], nf := [], by_ := [], env := [⟨74, F74.A, F74.R, c74⟩], spec := [] }
noncomputable def F41.code : Code := Func.code Tryz.f41
noncomputable def F41.fin (c74 : F74.E) := kfin (F41.C c74) Tryz.f41 F41.A F41.R
def F41.b (c74 : F74.E)  (a0 : List (Int)) (a1 : Int) : Option (Bool) :=
 (c74 (a0, a1)).bind fun y1 =>
 some (decide (y1 ≥ (0 : Int)))
def F41.f (c74 : F74.E) (k : Nat) (a0 : List (Int)) (a1 : Int) : Option (Bool) := F41.b c74  a0 a1
theorem F41.r (c74 : F74.E) (k : Nat) (a0 : List (Int)) (a1 : Int) : fn (F41.C c74) k Tryz.f41 F41.A F41.R (a0, a1) = F41.b c74  a0 a1 := by kernel_rfl
theorem F41.e (c74 : F74.E) (k : Nat) (a0 : List (Int)) (a1 : Int) : fn (F41.C c74) k Tryz.f41 F41.A F41.R (a0, a1) = F41.f c74 k a0 a1 := by
  rw [F41.r]
  rfl
theorem F41.ty (c74 : F74.E) : TyOk Tryz.prog (F41.C c74) := tyOk_of (by kernel_rfl)
def F41.u (k : Nat) : F41.E := fun y => F41.f (F74.u k) k y.1 y.2
theorem F41.sound (k : Nat) : Sound Tryz.prog ⟨41, F41.A, F41.R, F41.u k⟩ := by
  have h := fn_sound (k := k) («as» := F41.A) (rs := F41.R) (F41.ty (F74.u k)) (fun E h => by
    simp only [F41.C, List.mem_cons, List.not_mem_nil, or_false] at h
    rcases h with rfl
    · exact F74.sound k) mixed Tryz.func41 (by kernel_rfl) (by kernel_rfl)
  have e : fn (F41.C (F74.u k)) k Tryz.f41 F41.A F41.R = F41.u k := by
    funext y
    exact F41.e (F74.u k) k y.1 y.2
  rw [e] at h
  exact h
/-! ### brindlewood/brindlewoodref7.Exception: f10 -/
abbrev F10.A : List Sh := [(.d Y_Heap), (.d Y_Value)]
abbrev F10.R : List Sh := [(.d .bool)]
abbrev F10.E : Type := ((List X_Object) × X_Value) → Option (Bool)
def F10.C (c34 : F34.E) (c7 : F7.E) (c41 : F41.E) : Ctx := { ty := [(3, (.int .i64)), (22, (.sl 36 Y_Object)), (24, Y_Heap), (29, Y_Value), (32, (.sl 3 (.int .i64))), (36, Y_Object)], nf := [(24, 1), (36, 10)], by_ := [(3, 8), (36, 168)], env := [⟨34, F34.A, F34.R, c34⟩, ⟨7, F7.A, F7.R, c7⟩, ⟨41, F41.A, F41.R, c41⟩], spec := [] }
noncomputable def F10.code : Code := Func.code Tryz.f10
noncomputable def F10.fin (c34 : F34.E) (c7 : F7.E) (c41 : F41.E) := kfin (F10.C c34 c7 c41) Tryz.f10 F10.A F10.R
def F10.b (c34 : F34.E) (c7 : F7.E) (c41 : F41.E)  (a0 : List X_Object) (a1 : X_Value) : Option (Bool) :=
 (c34 (a0, a1)).bind fun y1 =>
 bif (y1.1 == (10 : Int)) then
 (c7 (a0, y1.2.2.1)).bind fun y2 =>
 bif y2 then
 if 0 ≤ y1.2.2.1 ∧ y1.2.2.1 < ((List.length a0) : Int) then
 (c41 ((((((List.getD a0 (Int.toNat y1.2.2.1) Z_Object).2).2).2).2).1, (28 : Int))).bind fun y3 =>
 some y3
 else none
 else
 some false
 else
 some false
def F10.c (c34 : F34.E) (c7 : F7.E) (c41 : F41.E)  (a0 : List X_Object) (a1 : X_Value) : Option (Bool) :=
 (c34 (a0, a1)).bind fun y1 =>
 bif (y1.1 == (10 : Int)) then
 (c7 (a0, y1.2.2.1)).bind fun y2 =>
 bif y2 then
 if 0 ≤ y1.2.2.1 ∧ y1.2.2.1 < ((List.length a0) : Int) then
 (c41 ((((((List.getD a0 (Int.toNat y1.2.2.1) Z_Object).2).2).2).2).1, (28 : Int))).bind fun y3 =>
 some y3
 else none
 else
 some false
 else
 some false
theorem F10.q (c34 : F34.E) (c7 : F7.E) (c41 : F41.E)  (a0 : List X_Object) (a1 : X_Value) : F10.b c34 c7 c41 a0 a1 = F10.c c34 c7 c41 a0 a1 := by
  simp only [F10.b, F10.c, List.take_length, take_one, Nat.zero_add, Int.toNat_natCast, Int.toNat_zero, List.drop_zero, List.append_eq, Nat.le_refl, Int.le_refl, true_and, and_true, zero_le_one, if_true, prod_eta, Int.natCast_zero]
def F10.f (c34 : F34.E) (c7 : F7.E) (c41 : F41.E) (k : Nat) (a0 : List X_Object) (a1 : X_Value) : Option (Bool) := F10.b c34 c7 c41  a0 a1
theorem F10.r (c34 : F34.E) (c7 : F7.E) (c41 : F41.E) (k : Nat) (a0 : List X_Object) (a1 : X_Value) : fn (F10.C c34 c7 c41) k Tryz.f10 F10.A F10.R (a0, a1) = F10.b c34 c7 c41  a0 a1 := by kernel_rfl
theorem F10.e (c34 : F34.E) (c7 : F7.E) (c41 : F41.E) (k : Nat) (a0 : List X_Object) (a1 : X_Value) : fn (F10.C c34 c7 c41) k Tryz.f10 F10.A F10.R (a0, a1) = F10.f c34 c7 c41 k a0 a1 := by
  rw [F10.r]
  rfl
theorem F10.ty (c34 : F34.E) (c7 : F7.E) (c41 : F41.E) : TyOk Tryz.prog (F10.C c34 c7 c41) := tyOk_of (by kernel_rfl)
def F10.u (k : Nat) : F10.E := fun y => F10.f (F34.u k) (F7.u k) (F41.u k) k y.1 y.2
theorem F10.sound (k : Nat) : Sound Tryz.prog ⟨10, F10.A, F10.R, F10.u k⟩ := by
  have h := fn_sound (k := k) («as» := F10.A) (rs := F10.R) (F10.ty (F34.u k) (F7.u k) (F41.u k)) (fun E h => by
    simp only [F10.C, List.mem_cons, List.not_mem_nil, or_false] at h
    rcases h with rfl | rfl | rfl
    · exact F34.sound k
    · exact F7.sound k
    · exact F41.sound k) mixed Tryz.func10 (by kernel_rfl) (by kernel_rfl)
  have e : fn (F10.C (F34.u k) (F7.u k) (F41.u k)) k Tryz.f10 F10.A F10.R = F10.u k := by
    funext y
    exact F10.e (F34.u k) (F7.u k) (F41.u k) k y.1 y.2
  rw [e] at h
  exact h
/-! ### brindlewood/brindlewoodref7.exceptionOk: f95 -/
abbrev F95.A : List Sh := [(.d Y_Heap), (.d (.int .i64))]
abbrev F95.R : List Sh := [(.d .bool)]
abbrev F95.E : Type := ((List X_Object) × (Int)) → Option (Bool)
def F95.C (c41 : F41.E) (c79 : F79.E) (c34 : F34.E) (c10 : F10.E) : Ctx := { ty := [(3, (.int .i64)), (22, (.sl 36 Y_Object)), (24, Y_Heap), (29, Y_Value), (32, (.sl 3 (.int .i64))), (33, (.sl 9 .str)), (34, (.sl 29 Y_Value)), (36, Y_Object)], nf := [(24, 1), (29, 5), (36, 10)], by_ := [(3, 8), (9, 16), (29, 96), (36, 168)], env := [⟨41, F41.A, F41.R, c41⟩, ⟨79, F79.A, F79.R, c79⟩, ⟨34, F34.A, F34.R, c34⟩, ⟨10, F10.A, F10.R, c10⟩], spec := [(100006, [.d 1 (.int .i64), .bx 2 600002 (.d Y_Heap), .bx 5 600005 (.d Y_Object), .o 6 500006 9 .str, .d 7 .bool]), (0, [.d 1 (.int .i64), .bx 2 600002 (.d Y_Heap), .bx 5 600005 (.d Y_Object), .d 7 .bool, .bx 8 600008 (.d Y_Object), .bx 9 600009 (.d Y_Object), .d 66 (.sl 29 Y_Value), .d 67 (.int .i64), .d 68 (.int .i64)]), (2, [.d 1 (.int .i64), .bx 2 600002 (.d Y_Heap), .bx 5 600005 (.d Y_Object), .d 7 .bool, .bx 8 600008 (.d Y_Object), .d 91 (.sl 29 Y_Value), .d 92 (.int .i64), .d 93 (.int .i64)]), (4, [.d 1 (.int .i64), .bx 2 600002 (.d Y_Heap), .bx 8 600008 (.d Y_Object), .bx 15 600015 (.d Y_Object), .d 135 (.sl 29 Y_Value), .d 136 (.int .i64), .d 137 (.int .i64)])] }
noncomputable def F95.code : Code := Func.code Tryz.f95
noncomputable def F95.fin (c41 : F41.E) (c79 : F79.E) (c34 : F34.E) (c10 : F10.E) := kfin (F95.C c41 c79 c34 c10) Tryz.f95 F95.A F95.R
def F95.b (c41 : F41.E) (c79 : F79.E) (c34 : F34.E) (c10 : F10.E) (r_g6 : (Int) → (List X_Object) → X_Object → (List (List UInt8)) → (Bool) → Option (Bool)) (a0 : List X_Object) (a1 : Int) : Option (Bool) :=
 if 0 ≤ a1 ∧ a1 < ((List.length a0) : Int) then
 if 0 ≤ ((((List.getD a0 (Int.toNat a1) Z_Object).2).2).1) ∧ ((((List.getD a0 (Int.toNat a1) Z_Object).2).2).1) < ((List.length a0) : Int) then
 (c41 ((((((List.getD a0 (Int.toNat ((((List.getD a0 (Int.toNat a1) Z_Object).2).2).1)) Z_Object).2).2).2).2).1, (48 : Int))).bind fun y1 =>
 bif y1 then
 if 4 ≤ (List.length ([[97, 114, 103, 115], [99, 97, 117, 115, 101], [99, 111, 110, 116, 101, 120, 116], [116, 114, 97, 99, 101]] : List (List UInt8))) ∧ (4 + (List.length (List.take 1 ([[109, 101, 109, 98, 101, 114, 115]] : List (List UInt8))))) * 16 ≤ LIM then
 r_g6 a1 a0 (List.getD a0 (Int.toNat a1) Z_Object) (List.take (List.length (List.append (List.take 4 ([[97, 114, 103, 115], [99, 97, 117, 115, 101], [99, 111, 110, 116, 101, 120, 116], [116, 114, 97, 99, 101]] : List (List UInt8))) (List.take 1 ([[109, 101, 109, 98, 101, 114, 115]] : List (List UInt8))))) (List.append (List.take 4 ([[97, 114, 103, 115], [99, 97, 117, 115, 101], [99, 111, 110, 116, 101, 120, 116], [116, 114, 97, 99, 101]] : List (List UInt8))) (List.take 1 ([[109, 101, 109, 98, 101, 114, 115]] : List (List UInt8))))) y1
 else none
 else
 r_g6 a1 a0 (List.getD a0 (Int.toNat a1) Z_Object) (List.take 4 ([[97, 114, 103, 115], [99, 97, 117, 115, 101], [99, 111, 110, 116, 101, 120, 116], [116, 114, 97, 99, 101]] : List (List UInt8))) y1
 else none
 else none
def F95.b_g6 (c41 : F41.E) (c79 : F79.E) (c34 : F34.E) (c10 : F10.E) (r_l0 : (Int) → (List X_Object) → X_Object → (Bool) → X_Object → X_Object → (List X_Value) → (Int) → (Int) → Option (Bool)) (x1 : Int) (x2 : List X_Object) (x5 : X_Object) (x6 : List (List UInt8)) (x7 : Bool) : Option (Bool) :=
 bif (decide (((List.length x5.2.2.2.2.2.1) : Int) < (((List.length x6) : Nat) : Int))) then
 some false
 else
 if 0 ≤ (0 : Int) ∧ (0 : Int) ≤ (((List.length x6) : Nat) : Int) ∧ (((List.length x6) : Nat) : Int) ≤ ((List.length x5.2.2.2.2.2.1) : Int) then
 (c79 ((List.drop (Int.toNat (0 : Int)) (List.take (Int.toNat (((List.length x6) : Nat) : Int)) x5.2.2.2.2.2.1)), (List.take (List.length x6) x6))).bind fun y2 =>
 bif (!y2) then
 some false
 else
 if 0 ≤ (0 : Int) ∧ (0 : Int) < ((List.length x5.2.2.2.2.2.2.1) : Int) then
 (c34 (x2, (List.getD x5.2.2.2.2.2.2.1 (Int.toNat (0 : Int)) Z_Value))).bind fun y3 =>
 if 0 ≤ (3 : Int) ∧ (3 : Int) < ((List.length x5.2.2.2.2.2.2.1) : Int) then
 (c34 (x2, (List.getD x5.2.2.2.2.2.2.1 (Int.toNat (3 : Int)) Z_Value))).bind fun y4 =>
 if 0 ≤ (1 : Int) ∧ (1 : Int) ≤ (3 : Int) ∧ (3 : Int) ≤ ((List.length x5.2.2.2.2.2.2.1) : Int) then
 r_l0 x1 x2 x5 x7 y3 y4 (List.drop (Int.toNat (1 : Int)) (List.take (Int.toNat (3 : Int)) x5.2.2.2.2.2.2.1)) ((List.length (List.drop (Int.toNat (1 : Int)) (List.take (Int.toNat (3 : Int)) x5.2.2.2.2.2.2.1))) : Int) (0 : Int)
 else none
 else none
 else none
 else none
def F95.b_l0 (c41 : F41.E) (c79 : F79.E) (c34 : F34.E) (c10 : F10.E) (n_l0 : (Int) → (List X_Object) → X_Object → (Bool) → X_Object → X_Object → (List X_Value) → (Int) → (Int) → Option (Bool)) (r_l2 : (Int) → (List X_Object) → X_Object → (Bool) → X_Object → (List X_Value) → (Int) → (Int) → Option (Bool)) (x1 : Int) (x2 : List X_Object) (x5 : X_Object) (x7 : Bool) (x8 : X_Object) (x9 : X_Object) (x66 : List X_Value) (x67 : Int) (x68 : Int) : Option (Bool) :=
 bif (decide (x68 < x67)) then
 if 0 ≤ x68 ∧ x68 < ((List.length x66) : Int) then
 bif (((List.getD x66 (Int.toNat x68) Z_Value).1) != (0 : Int)) then
 (c10 (x2, (List.getD x66 (Int.toNat x68) Z_Value))).bind fun y5 =>
 bif (!y5) then
 some false
 else
 n_l0 x1 x2 x5 x7 x8 x9 x66 x67 (IntKind.i64.wrap (x68 + (1 : Int)))
 else
 n_l0 x1 x2 x5 x7 x8 x9 x66 x67 (IntKind.i64.wrap (x68 + (1 : Int)))
 else none
 else
 bif (x8.1 != (1 : Int)) then
 some false
 else
 bif (x9.1 != (1 : Int)) then
 some false
 else
 r_l2 x1 x2 x5 x7 x8 x9.2.2.2.2.2.2.1 ((List.length x9.2.2.2.2.2.2.1) : Int) (0 : Int)
def F95.b_l2 (c41 : F41.E) (c79 : F79.E) (c34 : F34.E) (c10 : F10.E) (n_l2 : (Int) → (List X_Object) → X_Object → (Bool) → X_Object → (List X_Value) → (Int) → (Int) → Option (Bool)) (r_l4 : (Int) → (List X_Object) → X_Object → X_Object → (List X_Value) → (Int) → (Int) → Option (Bool)) (x1 : Int) (x2 : List X_Object) (x5 : X_Object) (x7 : Bool) (x8 : X_Object) (x91 : List X_Value) (x92 : Int) (x93 : Int) : Option (Bool) :=
 bif (decide (x93 < x92)) then
 if 0 ≤ x93 ∧ x93 < ((List.length x91) : Int) then
 (c34 (x2, (List.getD x91 (Int.toNat x93) Z_Value))).bind fun y6 =>
 bif (y6.1 != (1 : Int)) then
 some false
 else
 bif (((List.length y6.2.2.2.2.2.2.1) : Int) != (2 : Int)) then
 some false
 else
 if 0 ≤ (0 : Int) ∧ (0 : Int) < ((List.length y6.2.2.2.2.2.2.1) : Int) then
 bif (((List.getD y6.2.2.2.2.2.2.1 (Int.toNat (0 : Int)) Z_Value).1) != (4 : Int)) then
 some false
 else
 if 0 ≤ (1 : Int) ∧ (1 : Int) < ((List.length y6.2.2.2.2.2.2.1) : Int) then
 bif (((List.getD y6.2.2.2.2.2.2.1 (Int.toNat (1 : Int)) Z_Value).1) != (2 : Int)) then
 some false
 else
 n_l2 x1 x2 x5 x7 x8 x91 x92 (IntKind.i64.wrap (x93 + (1 : Int)))
 else none
 else none
 else none
 else
 bif (!x7) then
 some true
 else
 if 0 ≤ (4 : Int) ∧ (4 : Int) < ((List.length x5.2.2.2.2.2.2.1) : Int) then
 (c34 (x2, (List.getD x5.2.2.2.2.2.2.1 (Int.toNat (4 : Int)) Z_Value))).bind fun y7 =>
 r_l4 x1 x2 x8 y7 y7.2.2.2.2.2.2.1 ((List.length y7.2.2.2.2.2.2.1) : Int) (0 : Int)
 else none
def F95.b_l4 (c41 : F41.E) (c79 : F79.E) (c34 : F34.E) (c10 : F10.E) (n_l4 : (Int) → (List X_Object) → X_Object → X_Object → (List X_Value) → (Int) → (Int) → Option (Bool)) (x1 : Int) (x2 : List X_Object) (x8 : X_Object) (x15 : X_Object) (x135 : List X_Value) (x136 : Int) (x137 : Int) : Option (Bool) :=
 bif (decide (x137 < x136)) then
 if 0 ≤ x137 ∧ x137 < ((List.length x135) : Int) then
 (c10 (x2, (List.getD x135 (Int.toNat x137) Z_Value))).bind fun y8 =>
 bif (!y8) then
 some false
 else
 bif (decide ((((((List.getD x135 (Int.toNat x137) Z_Value).2).2).2).2) ≥ x1)) then
 some false
 else
 n_l4 x1 x2 x8 x15 x135 x136 (IntKind.i64.wrap (x137 + (1 : Int)))
 else none
 else
 bif (x15.1 == (1 : Int)) then
 bif (decide (((List.length x15.2.2.2.2.2.2.1) : Int) > (0 : Int))) then
 some (decide (((List.length x8.2.2.2.2.2.2.1) : Int) > (0 : Int)))
 else
 some false
 else
 some false
def F95.c (c41 : F41.E) (c79 : F79.E) (c34 : F34.E) (c10 : F10.E) (r_g6 : (Int) → (List X_Object) → X_Object → (List (List UInt8)) → (Bool) → Option (Bool)) (a0 : List X_Object) (a1 : Int) : Option (Bool) :=
 if 0 ≤ a1 ∧ a1 < ((List.length a0) : Int) then
 if 0 ≤ ((((List.getD a0 (Int.toNat a1) Z_Object).2).2).1) ∧ ((((List.getD a0 (Int.toNat a1) Z_Object).2).2).1) < ((List.length a0) : Int) then
 (c41 ((((((List.getD a0 (Int.toNat ((((List.getD a0 (Int.toNat a1) Z_Object).2).2).1)) Z_Object).2).2).2).2).1, (48 : Int))).bind fun y1 =>
 bif y1 then
 if 4 ≤ (List.length ([[97, 114, 103, 115], [99, 97, 117, 115, 101], [99, 111, 110, 116, 101, 120, 116], [116, 114, 97, 99, 101]] : List (List UInt8))) ∧ (4 + (List.length ([[109, 101, 109, 98, 101, 114, 115]] : List (List UInt8)))) * 16 ≤ LIM then
 r_g6 a1 a0 (List.getD a0 (Int.toNat a1) Z_Object) ((List.take 4 ([[97, 114, 103, 115], [99, 97, 117, 115, 101], [99, 111, 110, 116, 101, 120, 116], [116, 114, 97, 99, 101]] : List (List UInt8))) ++ ([[109, 101, 109, 98, 101, 114, 115]] : List (List UInt8))) y1
 else none
 else
 r_g6 a1 a0 (List.getD a0 (Int.toNat a1) Z_Object) (List.take 4 ([[97, 114, 103, 115], [99, 97, 117, 115, 101], [99, 111, 110, 116, 101, 120, 116], [116, 114, 97, 99, 101]] : List (List UInt8))) y1
 else none
 else none
theorem F95.q (c41 : F41.E) (c79 : F79.E) (c34 : F34.E) (c10 : F10.E) (r_g6 : (Int) → (List X_Object) → X_Object → (List (List UInt8)) → (Bool) → Option (Bool)) (a0 : List X_Object) (a1 : Int) : F95.b c41 c79 c34 c10 r_g6 a0 a1 = F95.c c41 c79 c34 c10 r_g6 a0 a1 := by
  simp only [F95.b, F95.c, List.take_length, take_one, Nat.zero_add, Int.toNat_natCast, Int.toNat_zero, List.drop_zero, List.append_eq, Nat.le_refl, Int.le_refl, true_and, and_true, zero_le_one, if_true, prod_eta, Int.natCast_zero]
def F95.c_g6 (c41 : F41.E) (c79 : F79.E) (c34 : F34.E) (c10 : F10.E) (r_l0 : (Int) → (List X_Object) → X_Object → (Bool) → X_Object → X_Object → (List X_Value) → (Int) → (Int) → Option (Bool)) (x1 : Int) (x2 : List X_Object) (x5 : X_Object) (x6 : List (List UInt8)) (x7 : Bool) : Option (Bool) :=
 bif (decide (((List.length x5.2.2.2.2.2.1) : Int) < ((List.length x6) : Int))) then
 some false
 else
 if (0 : Int) ≤ ((List.length x6) : Int) ∧ ((List.length x6) : Int) ≤ ((List.length x5.2.2.2.2.2.1) : Int) then
 (c79 ((List.take (List.length x6) x5.2.2.2.2.2.1), x6)).bind fun y2 =>
 bif !y2 then
 some false
 else
 if (0 : Int) < ((List.length x5.2.2.2.2.2.2.1) : Int) then
 (c34 (x2, (List.getD x5.2.2.2.2.2.2.1 0 Z_Value))).bind fun y3 =>
 if 0 ≤ (3 : Int) ∧ (3 : Int) < ((List.length x5.2.2.2.2.2.2.1) : Int) then
 (c34 (x2, (List.getD x5.2.2.2.2.2.2.1 (Int.toNat (3 : Int)) Z_Value))).bind fun y4 =>
 if (1 : Int) ≤ (3 : Int) ∧ (3 : Int) ≤ ((List.length x5.2.2.2.2.2.2.1) : Int) then
 r_l0 x1 x2 x5 x7 y3 y4 (List.drop (Int.toNat (1 : Int)) (List.take (Int.toNat (3 : Int)) x5.2.2.2.2.2.2.1)) ((List.length (List.drop (Int.toNat (1 : Int)) (List.take (Int.toNat (3 : Int)) x5.2.2.2.2.2.2.1))) : Int) (0 : Int)
 else none
 else none
 else none
 else none
theorem F95.q_g6 (c41 : F41.E) (c79 : F79.E) (c34 : F34.E) (c10 : F10.E) (r_l0 : (Int) → (List X_Object) → X_Object → (Bool) → X_Object → X_Object → (List X_Value) → (Int) → (Int) → Option (Bool)) (x1 : Int) (x2 : List X_Object) (x5 : X_Object) (x6 : List (List UInt8)) (x7 : Bool) : F95.b_g6 c41 c79 c34 c10 r_l0 x1 x2 x5 x6 x7 = F95.c_g6 c41 c79 c34 c10 r_l0 x1 x2 x5 x6 x7 := by
  simp only [F95.b_g6, F95.c_g6, List.take_length, take_one, Nat.zero_add, Int.toNat_natCast, Int.toNat_zero, List.drop_zero, List.append_eq, Nat.le_refl, Int.le_refl, true_and, and_true, zero_le_one, if_true, prod_eta, Int.natCast_zero]
def F95.c_l0 (c41 : F41.E) (c79 : F79.E) (c34 : F34.E) (c10 : F10.E) (n_l0 : (Int) → (List X_Object) → X_Object → (Bool) → X_Object → X_Object → (List X_Value) → (Int) → (Int) → Option (Bool)) (r_l2 : (Int) → (List X_Object) → X_Object → (Bool) → X_Object → (List X_Value) → (Int) → (Int) → Option (Bool)) (x1 : Int) (x2 : List X_Object) (x5 : X_Object) (x7 : Bool) (x8 : X_Object) (x9 : X_Object) (x66 : List X_Value) (x67 : Int) (x68 : Int) : Option (Bool) :=
 bif (decide (x68 < x67)) then
 if 0 ≤ x68 ∧ x68 < ((List.length x66) : Int) then
 bif (((List.getD x66 (Int.toNat x68) Z_Value).1) != (0 : Int)) then
 (c10 (x2, (List.getD x66 (Int.toNat x68) Z_Value))).bind fun y5 =>
 bif !y5 then
 some false
 else
 n_l0 x1 x2 x5 x7 x8 x9 x66 x67 (IntKind.i64.wrap (x68 + (1 : Int)))
 else
 n_l0 x1 x2 x5 x7 x8 x9 x66 x67 (IntKind.i64.wrap (x68 + (1 : Int)))
 else none
 else
 bif (x8.1 != (1 : Int)) then
 some false
 else
 bif (x9.1 != (1 : Int)) then
 some false
 else
 r_l2 x1 x2 x5 x7 x8 x9.2.2.2.2.2.2.1 ((List.length x9.2.2.2.2.2.2.1) : Int) (0 : Int)
theorem F95.q_l0 (c41 : F41.E) (c79 : F79.E) (c34 : F34.E) (c10 : F10.E) (n_l0 : (Int) → (List X_Object) → X_Object → (Bool) → X_Object → X_Object → (List X_Value) → (Int) → (Int) → Option (Bool)) (r_l2 : (Int) → (List X_Object) → X_Object → (Bool) → X_Object → (List X_Value) → (Int) → (Int) → Option (Bool)) (x1 : Int) (x2 : List X_Object) (x5 : X_Object) (x7 : Bool) (x8 : X_Object) (x9 : X_Object) (x66 : List X_Value) (x67 : Int) (x68 : Int) : F95.b_l0 c41 c79 c34 c10 n_l0 r_l2 x1 x2 x5 x7 x8 x9 x66 x67 x68 = F95.c_l0 c41 c79 c34 c10 n_l0 r_l2 x1 x2 x5 x7 x8 x9 x66 x67 x68 := by
  simp only [F95.b_l0, F95.c_l0, List.take_length, take_one, Nat.zero_add, Int.toNat_natCast, Int.toNat_zero, List.drop_zero, List.append_eq, Nat.le_refl, Int.le_refl, true_and, and_true, zero_le_one, if_true, prod_eta, Int.natCast_zero]
def F95.c_l2 (c41 : F41.E) (c79 : F79.E) (c34 : F34.E) (c10 : F10.E) (n_l2 : (Int) → (List X_Object) → X_Object → (Bool) → X_Object → (List X_Value) → (Int) → (Int) → Option (Bool)) (r_l4 : (Int) → (List X_Object) → X_Object → X_Object → (List X_Value) → (Int) → (Int) → Option (Bool)) (x1 : Int) (x2 : List X_Object) (x5 : X_Object) (x7 : Bool) (x8 : X_Object) (x91 : List X_Value) (x92 : Int) (x93 : Int) : Option (Bool) :=
 bif (decide (x93 < x92)) then
 if 0 ≤ x93 ∧ x93 < ((List.length x91) : Int) then
 (c34 (x2, (List.getD x91 (Int.toNat x93) Z_Value))).bind fun y6 =>
 bif (y6.1 != (1 : Int)) then
 some false
 else
 bif (((List.length y6.2.2.2.2.2.2.1) : Int) != (2 : Int)) then
 some false
 else
 if (0 : Int) < ((List.length y6.2.2.2.2.2.2.1) : Int) then
 bif (((List.getD y6.2.2.2.2.2.2.1 0 Z_Value).1) != (4 : Int)) then
 some false
 else
 if (1 : Int) < ((List.length y6.2.2.2.2.2.2.1) : Int) then
 bif (((List.getD y6.2.2.2.2.2.2.1 (Int.toNat (1 : Int)) Z_Value).1) != (2 : Int)) then
 some false
 else
 n_l2 x1 x2 x5 x7 x8 x91 x92 (IntKind.i64.wrap (x93 + (1 : Int)))
 else none
 else none
 else none
 else
 bif !x7 then
 some true
 else
 if 0 ≤ (4 : Int) ∧ (4 : Int) < ((List.length x5.2.2.2.2.2.2.1) : Int) then
 (c34 (x2, (List.getD x5.2.2.2.2.2.2.1 (Int.toNat (4 : Int)) Z_Value))).bind fun y7 =>
 r_l4 x1 x2 x8 y7 y7.2.2.2.2.2.2.1 ((List.length y7.2.2.2.2.2.2.1) : Int) (0 : Int)
 else none
theorem F95.q_l2 (c41 : F41.E) (c79 : F79.E) (c34 : F34.E) (c10 : F10.E) (n_l2 : (Int) → (List X_Object) → X_Object → (Bool) → X_Object → (List X_Value) → (Int) → (Int) → Option (Bool)) (r_l4 : (Int) → (List X_Object) → X_Object → X_Object → (List X_Value) → (Int) → (Int) → Option (Bool)) (x1 : Int) (x2 : List X_Object) (x5 : X_Object) (x7 : Bool) (x8 : X_Object) (x91 : List X_Value) (x92 : Int) (x93 : Int) : F95.b_l2 c41 c79 c34 c10 n_l2 r_l4 x1 x2 x5 x7 x8 x91 x92 x93 = F95.c_l2 c41 c79 c34 c10 n_l2 r_l4 x1 x2 x5 x7 x8 x91 x92 x93 := by
  simp only [F95.b_l2, F95.c_l2, List.take_length, take_one, Nat.zero_add, Int.toNat_natCast, Int.toNat_zero, List.drop_zero, List.append_eq, Nat.le_refl, Int.le_refl, true_and, and_true, zero_le_one, if_true, prod_eta, Int.natCast_zero]
def F95.c_l4 (c41 : F41.E) (c79 : F79.E) (c34 : F34.E) (c10 : F10.E) (n_l4 : (Int) → (List X_Object) → X_Object → X_Object → (List X_Value) → (Int) → (Int) → Option (Bool)) (x1 : Int) (x2 : List X_Object) (x8 : X_Object) (x15 : X_Object) (x135 : List X_Value) (x136 : Int) (x137 : Int) : Option (Bool) :=
 bif (decide (x137 < x136)) then
 if 0 ≤ x137 ∧ x137 < ((List.length x135) : Int) then
 (c10 (x2, (List.getD x135 (Int.toNat x137) Z_Value))).bind fun y8 =>
 bif !y8 then
 some false
 else
 bif (decide ((((((List.getD x135 (Int.toNat x137) Z_Value).2).2).2).2) ≥ x1)) then
 some false
 else
 n_l4 x1 x2 x8 x15 x135 x136 (IntKind.i64.wrap (x137 + (1 : Int)))
 else none
 else
 bif (x15.1 == (1 : Int)) then
 bif (decide (((List.length x15.2.2.2.2.2.2.1) : Int) > (0 : Int))) then
 some (decide (((List.length x8.2.2.2.2.2.2.1) : Int) > (0 : Int)))
 else
 some false
 else
 some false
theorem F95.q_l4 (c41 : F41.E) (c79 : F79.E) (c34 : F34.E) (c10 : F10.E) (n_l4 : (Int) → (List X_Object) → X_Object → X_Object → (List X_Value) → (Int) → (Int) → Option (Bool)) (x1 : Int) (x2 : List X_Object) (x8 : X_Object) (x15 : X_Object) (x135 : List X_Value) (x136 : Int) (x137 : Int) : F95.b_l4 c41 c79 c34 c10 n_l4 x1 x2 x8 x15 x135 x136 x137 = F95.c_l4 c41 c79 c34 c10 n_l4 x1 x2 x8 x15 x135 x136 x137 := by
  simp only [F95.b_l4, F95.c_l4, List.take_length, take_one, Nat.zero_add, Int.toNat_natCast, Int.toNat_zero, List.drop_zero, List.append_eq, Nat.le_refl, Int.le_refl, true_and, and_true, zero_le_one, if_true, prod_eta, Int.natCast_zero]
def F95.l4 (c41 : F41.E) (c79 : F79.E) (c34 : F34.E) (c10 : F10.E) (k : Nat)  : Nat → (Int) → (List X_Object) → X_Object → X_Object → (List X_Value) → (Int) → (Int) → Option (Bool)
  | 0, _, _, _, _, _, _, _ => none
  | n + 1, x1, x2, x8, x15, x135, x136, x137 => F95.b_l4 c41 c79 c34 c10 (fun x1 x2 x8 x15 x135 x136 x137 => F95.l4 c41 c79 c34 c10 k  n x1 x2 x8 x15 x135 x136 x137) x1 x2 x8 x15 x135 x136 x137
def F95.l2 (c41 : F41.E) (c79 : F79.E) (c34 : F34.E) (c10 : F10.E) (k : Nat)  : Nat → (Int) → (List X_Object) → X_Object → (Bool) → X_Object → (List X_Value) → (Int) → (Int) → Option (Bool)
  | 0, _, _, _, _, _, _, _, _ => none
  | n + 1, x1, x2, x5, x7, x8, x91, x92, x93 => F95.b_l2 c41 c79 c34 c10 (fun x1 x2 x5 x7 x8 x91 x92 x93 => F95.l2 c41 c79 c34 c10 k  n x1 x2 x5 x7 x8 x91 x92 x93) (F95.l4 c41 c79 c34 c10 k  k) x1 x2 x5 x7 x8 x91 x92 x93
def F95.l0 (c41 : F41.E) (c79 : F79.E) (c34 : F34.E) (c10 : F10.E) (k : Nat)  : Nat → (Int) → (List X_Object) → X_Object → (Bool) → X_Object → X_Object → (List X_Value) → (Int) → (Int) → Option (Bool)
  | 0, _, _, _, _, _, _, _, _, _ => none
  | n + 1, x1, x2, x5, x7, x8, x9, x66, x67, x68 => F95.b_l0 c41 c79 c34 c10 (fun x1 x2 x5 x7 x8 x9 x66 x67 x68 => F95.l0 c41 c79 c34 c10 k  n x1 x2 x5 x7 x8 x9 x66 x67 x68) (F95.l2 c41 c79 c34 c10 k  k) x1 x2 x5 x7 x8 x9 x66 x67 x68
def F95.g6 (c41 : F41.E) (c79 : F79.E) (c34 : F34.E) (c10 : F10.E) (k : Nat)  (x1 : Int) (x2 : List X_Object) (x5 : X_Object) (x6 : List (List UInt8)) (x7 : Bool) : Option (Bool) := gate k (F95.b_g6 c41 c79 c34 c10 (F95.l0 c41 c79 c34 c10 k  k) x1 x2 x5 x6 x7)
def F95.f (c41 : F41.E) (c79 : F79.E) (c34 : F34.E) (c10 : F10.E) (k : Nat) (a0 : List X_Object) (a1 : Int) : Option (Bool) := F95.b c41 c79 c34 c10 (F95.g6 c41 c79 c34 c10 k) a0 a1
noncomputable def F95.M_g6 (c41 : F41.E) (c79 : F79.E) (c34 : F34.E) (c10 : F10.E) (k : Nat)  (s : St) : Option (Bool) := atGate (F95.C c41 c79 c34 c10) k [1, 1, 1, 1, 1, 0, 0] [] F95.code (F95.fin c41 c79 c34 c10) s
noncomputable def F95.fr_g6 (x1 : Int) (x2 : List X_Object) (x5 : X_Object) (x6 : List (List UInt8)) (x7 : Bool) : St := ⟨((((((List.replicate 167 V.un).set 1 (V.dat (.int .i64) x1)).set 2 (V.bp 600002 0 [])).set 5 (V.bp 600005 0 [])).set 6 (V.ref 500006 0 0 (List.length x6))).set 7 (V.dat .bool x7)), [⟨500006, 0, .arr 9 .str x6⟩, ⟨600005, 0, .box (V.dat Y_Object x5)⟩, ⟨600002, 0, .box (V.dat Y_Heap x2)⟩]⟩
noncomputable def F95.M_l0 (c41 : F41.E) (c79 : F79.E) (c34 : F34.E) (c10 : F10.E) (k n : Nat)  (s : St) : Option (Bool) := atLoop (F95.C c41 c79 c34 c10) k n [1, 1, 1, 1, 1, 1, 1, 0, 1, 0] [] F95.code (F95.fin c41 c79 c34 c10) s
noncomputable def F95.fr_l0 (x1 : Int) (x2 : List X_Object) (x5 : X_Object) (x7 : Bool) (x8 : X_Object) (x9 : X_Object) (x66 : List X_Value) (x67 : Int) (x68 : Int) : St := ⟨((((((((((List.replicate 167 V.un).set 1 (V.dat (.int .i64) x1)).set 2 (V.bp 600002 0 [])).set 5 (V.bp 600005 0 [])).set 7 (V.dat .bool x7)).set 8 (V.bp 600008 0 [])).set 9 (V.bp 600009 0 [])).set 66 (V.dat (.sl 29 Y_Value) x66)).set 67 (V.dat (.int .i64) x67)).set 68 (V.dat (.int .i64) x68)), [⟨600009, 0, .box (V.dat Y_Object x9)⟩, ⟨600008, 0, .box (V.dat Y_Object x8)⟩, ⟨600005, 0, .box (V.dat Y_Object x5)⟩, ⟨600002, 0, .box (V.dat Y_Heap x2)⟩]⟩
noncomputable def F95.M_l2 (c41 : F41.E) (c79 : F79.E) (c34 : F34.E) (c10 : F10.E) (k n : Nat)  (s : St) : Option (Bool) := atLoop (F95.C c41 c79 c34 c10) k n [1, 1, 1, 1, 1, 1, 1, 1, 1, 0, 1, 0] [] F95.code (F95.fin c41 c79 c34 c10) s
noncomputable def F95.fr_l2 (x1 : Int) (x2 : List X_Object) (x5 : X_Object) (x7 : Bool) (x8 : X_Object) (x91 : List X_Value) (x92 : Int) (x93 : Int) : St := ⟨(((((((((List.replicate 167 V.un).set 1 (V.dat (.int .i64) x1)).set 2 (V.bp 600002 0 [])).set 5 (V.bp 600005 0 [])).set 7 (V.dat .bool x7)).set 8 (V.bp 600008 0 [])).set 91 (V.dat (.sl 29 Y_Value) x91)).set 92 (V.dat (.int .i64) x92)).set 93 (V.dat (.int .i64) x93)), [⟨600008, 0, .box (V.dat Y_Object x8)⟩, ⟨600005, 0, .box (V.dat Y_Object x5)⟩, ⟨600002, 0, .box (V.dat Y_Heap x2)⟩]⟩
noncomputable def F95.M_l4 (c41 : F41.E) (c79 : F79.E) (c34 : F34.E) (c10 : F10.E) (k n : Nat)  (s : St) : Option (Bool) := atLoop (F95.C c41 c79 c34 c10) k n [1, 1, 1, 1, 1, 1, 1, 1, 1, 1, 1, 1, 0, 1, 0] [] F95.code (F95.fin c41 c79 c34 c10) s
noncomputable def F95.fr_l4 (x1 : Int) (x2 : List X_Object) (x8 : X_Object) (x15 : X_Object) (x135 : List X_Value) (x136 : Int) (x137 : Int) : St := ⟨((((((((List.replicate 167 V.un).set 1 (V.dat (.int .i64) x1)).set 2 (V.bp 600002 0 [])).set 8 (V.bp 600008 0 [])).set 15 (V.bp 600015 0 [])).set 135 (V.dat (.sl 29 Y_Value) x135)).set 136 (V.dat (.int .i64) x136)).set 137 (V.dat (.int .i64) x137)), [⟨600015, 0, .box (V.dat Y_Object x15)⟩, ⟨600008, 0, .box (V.dat Y_Object x8)⟩, ⟨600002, 0, .box (V.dat Y_Heap x2)⟩]⟩
theorem F95.r (c41 : F41.E) (c79 : F79.E) (c34 : F34.E) (c10 : F10.E) (k : Nat) (a0 : List X_Object) (a1 : Int) : fn (F95.C c41 c79 c34 c10) k Tryz.f95 F95.A F95.R (a0, a1) = F95.b c41 c79 c34 c10 (fun x1 x2 x5 x6 x7 => F95.M_g6 c41 c79 c34 c10 k   (F95.fr_g6 x1 x2 x5 x6 x7)) a0 a1 := by kernel_rfl
theorem F95.r_g6 (c41 : F41.E) (c79 : F79.E) (c34 : F34.E) (c10 : F10.E) (k : Nat)  (x1 : Int) (x2 : List X_Object) (x5 : X_Object) (x6 : List (List UInt8)) (x7 : Bool) : F95.M_g6 c41 c79 c34 c10 k  (F95.fr_g6 x1 x2 x5 x6 x7) = gate k (F95.b_g6 c41 c79 c34 c10 (fun x1 x2 x5 x7 x8 x9 x66 x67 x68 => F95.M_l0 c41 c79 c34 c10 k k  (F95.fr_l0 x1 x2 x5 x7 x8 x9 x66 x67 x68)) x1 x2 x5 x6 x7) := by kernel_rfl
theorem F95.z_l0 (c41 : F41.E) (c79 : F79.E) (c34 : F34.E) (c10 : F10.E) (k : Nat)  (s : St) : F95.M_l0 c41 c79 c34 c10 k 0  s = none := by kernel_rfl
theorem F95.r_l0 (c41 : F41.E) (c79 : F79.E) (c34 : F34.E) (c10 : F10.E) (k n : Nat)  (x1 : Int) (x2 : List X_Object) (x5 : X_Object) (x7 : Bool) (x8 : X_Object) (x9 : X_Object) (x66 : List X_Value) (x67 : Int) (x68 : Int) : F95.M_l0 c41 c79 c34 c10 k (n + 1)  (F95.fr_l0 x1 x2 x5 x7 x8 x9 x66 x67 x68) = F95.b_l0 c41 c79 c34 c10 (fun x1 x2 x5 x7 x8 x9 x66 x67 x68 => F95.M_l0 c41 c79 c34 c10 k n  (F95.fr_l0 x1 x2 x5 x7 x8 x9 x66 x67 x68)) (fun x1 x2 x5 x7 x8 x91 x92 x93 => F95.M_l2 c41 c79 c34 c10 k k  (F95.fr_l2 x1 x2 x5 x7 x8 x91 x92 x93)) x1 x2 x5 x7 x8 x9 x66 x67 x68 := by kernel_rfl
theorem F95.z_l2 (c41 : F41.E) (c79 : F79.E) (c34 : F34.E) (c10 : F10.E) (k : Nat)  (s : St) : F95.M_l2 c41 c79 c34 c10 k 0  s = none := by kernel_rfl
theorem F95.r_l2 (c41 : F41.E) (c79 : F79.E) (c34 : F34.E) (c10 : F10.E) (k n : Nat)  (x1 : Int) (x2 : List X_Object) (x5 : X_Object) (x7 : Bool) (x8 : X_Object) (x91 : List X_Value) (x92 : Int) (x93 : Int) : F95.M_l2 c41 c79 c34 c10 k (n + 1)  (F95.fr_l2 x1 x2 x5 x7 x8 x91 x92 x93) = F95.b_l2 c41 c79 c34 c10 (fun x1 x2 x5 x7 x8 x91 x92 x93 => F95.M_l2 c41 c79 c34 c10 k n  (F95.fr_l2 x1 x2 x5 x7 x8 x91 x92 x93)) (fun x1 x2 x8 x15 x135 x136 x137 => F95.M_l4 c41 c79 c34 c10 k k  (F95.fr_l4 x1 x2 x8 x15 x135 x136 x137)) x1 x2 x5 x7 x8 x91 x92 x93 := by kernel_rfl
theorem F95.z_l4 (c41 : F41.E) (c79 : F79.E) (c34 : F34.E) (c10 : F10.E) (k : Nat)  (s : St) : F95.M_l4 c41 c79 c34 c10 k 0  s = none := by kernel_rfl
theorem F95.r_l4 (c41 : F41.E) (c79 : F79.E) (c34 : F34.E) (c10 : F10.E) (k n : Nat)  (x1 : Int) (x2 : List X_Object) (x8 : X_Object) (x15 : X_Object) (x135 : List X_Value) (x136 : Int) (x137 : Int) : F95.M_l4 c41 c79 c34 c10 k (n + 1)  (F95.fr_l4 x1 x2 x8 x15 x135 x136 x137) = F95.b_l4 c41 c79 c34 c10 (fun x1 x2 x8 x15 x135 x136 x137 => F95.M_l4 c41 c79 c34 c10 k n  (F95.fr_l4 x1 x2 x8 x15 x135 x136 x137)) x1 x2 x8 x15 x135 x136 x137 := by kernel_rfl
theorem F95.e_l4 (c41 : F41.E) (c79 : F79.E) (c34 : F34.E) (c10 : F10.E) (k n : Nat)  (x1 : Int) (x2 : List X_Object) (x8 : X_Object) (x15 : X_Object) (x135 : List X_Value) (x136 : Int) (x137 : Int) : F95.M_l4 c41 c79 c34 c10 k n  (F95.fr_l4 x1 x2 x8 x15 x135 x136 x137) = F95.l4 c41 c79 c34 c10 k  n x1 x2 x8 x15 x135 x136 x137 := by
  induction n generalizing x1 x2 x8 x15 x135 x136 x137 with
  | zero => rw [F95.z_l4]; rfl
  | succ n ih =>
    rw [F95.r_l4]
    simp only [ih]
    rfl
theorem F95.e_l2 (c41 : F41.E) (c79 : F79.E) (c34 : F34.E) (c10 : F10.E) (k n : Nat)  (x1 : Int) (x2 : List X_Object) (x5 : X_Object) (x7 : Bool) (x8 : X_Object) (x91 : List X_Value) (x92 : Int) (x93 : Int) : F95.M_l2 c41 c79 c34 c10 k n  (F95.fr_l2 x1 x2 x5 x7 x8 x91 x92 x93) = F95.l2 c41 c79 c34 c10 k  n x1 x2 x5 x7 x8 x91 x92 x93 := by
  induction n generalizing x1 x2 x5 x7 x8 x91 x92 x93 with
  | zero => rw [F95.z_l2]; rfl
  | succ n ih =>
    rw [F95.r_l2]
    simp only [F95.e_l4, ih]
    rfl
theorem F95.e_l0 (c41 : F41.E) (c79 : F79.E) (c34 : F34.E) (c10 : F10.E) (k n : Nat)  (x1 : Int) (x2 : List X_Object) (x5 : X_Object) (x7 : Bool) (x8 : X_Object) (x9 : X_Object) (x66 : List X_Value) (x67 : Int) (x68 : Int) : F95.M_l0 c41 c79 c34 c10 k n  (F95.fr_l0 x1 x2 x5 x7 x8 x9 x66 x67 x68) = F95.l0 c41 c79 c34 c10 k  n x1 x2 x5 x7 x8 x9 x66 x67 x68 := by
  induction n generalizing x1 x2 x5 x7 x8 x9 x66 x67 x68 with
  | zero => rw [F95.z_l0]; rfl
  | succ n ih =>
    rw [F95.r_l0]
    simp only [F95.e_l2, ih]
    rfl
theorem F95.e_g6 (c41 : F41.E) (c79 : F79.E) (c34 : F34.E) (c10 : F10.E) (k : Nat)  (x1 : Int) (x2 : List X_Object) (x5 : X_Object) (x6 : List (List UInt8)) (x7 : Bool) : F95.M_g6 c41 c79 c34 c10 k  (F95.fr_g6 x1 x2 x5 x6 x7) = F95.g6 c41 c79 c34 c10 k  x1 x2 x5 x6 x7 := by
  rw [F95.r_g6]
  simp only [F95.e_l0]
  rfl
theorem F95.e (c41 : F41.E) (c79 : F79.E) (c34 : F34.E) (c10 : F10.E) (k : Nat) (a0 : List X_Object) (a1 : Int) : fn (F95.C c41 c79 c34 c10) k Tryz.f95 F95.A F95.R (a0, a1) = F95.f c41 c79 c34 c10 k a0 a1 := by
  rw [F95.r]
  simp only [F95.e_g6]
  rfl
theorem F95.ty (c41 : F41.E) (c79 : F79.E) (c34 : F34.E) (c10 : F10.E) : TyOk Tryz.prog (F95.C c41 c79 c34 c10) := tyOk_of (by kernel_rfl)
def F95.u (k : Nat) : F95.E := fun y => F95.f (F41.u k) (F79.u k) (F34.u k) (F10.u k) k y.1 y.2
theorem F95.sound (k : Nat) : Sound Tryz.prog ⟨95, F95.A, F95.R, F95.u k⟩ := by
  have h := fn_sound (k := k) («as» := F95.A) (rs := F95.R) (F95.ty (F41.u k) (F79.u k) (F34.u k) (F10.u k)) (fun E h => by
    simp only [F95.C, List.mem_cons, List.not_mem_nil, or_false] at h
    rcases h with rfl | rfl | rfl | rfl
    · exact F41.sound k
    · exact F79.sound k
    · exact F34.sound k
    · exact F10.sound k) mixed Tryz.func95 (by kernel_rfl) (by kernel_rfl)
  have e : fn (F95.C (F41.u k) (F79.u k) (F34.u k) (F10.u k)) k Tryz.f95 F95.A F95.R = F95.u k := by
    funext y
    exact F95.e (F41.u k) (F79.u k) (F34.u k) (F10.u k) k y.1 y.2
  rw [e] at h
  exact h
/-! ### brindlewood/brindlewoodref7.links: f69 -/
abbrev F69.A : List Sh := [(.d Y_Heap), (.d (.int .i64))]
abbrev F69.R : List Sh := [(.d .bool)]
abbrev F69.E : Type := ((List X_Object) × (Int)) → Option (Bool)
def F69.C (c91 : F91.E) (c92 : F92.E) (c93 : F93.E) (c94 : F94.E) (c41 : F41.E) (c95 : F95.E) (c34 : F34.E) (c7 : F7.E) : Ctx := { ty := [(3, (.int .i64)), (4, .bool), (22, (.sl 36 Y_Object)), (24, Y_Heap), (27, Y_Int), (29, Y_Value), (32, (.sl 3 (.int .i64))), (34, (.sl 29 Y_Value)), (36, Y_Object)], nf := [(24, 1), (27, 2), (29, 5), (36, 10)], by_ := [(3, 8), (29, 96), (36, 168)], env := [⟨91, F91.A, F91.R, c91⟩, ⟨92, F92.A, F92.R, c92⟩, ⟨93, F93.A, F93.R, c93⟩, ⟨94, F94.A, F94.R, c94⟩, ⟨41, F41.A, F41.R, c41⟩, ⟨95, F95.A, F95.R, c95⟩, ⟨34, F34.A, F34.R, c34⟩, ⟨7, F7.A, F7.R, c7⟩], spec := [(1, [.bx 2 600002 (.d Y_Heap), .bx 5 600005 (.d Y_Object), .d 30 (.sl 3 (.int .i64)), .d 31 (.int .i64), .d 32 (.int .i64)]), (100015, [.bx 2 600002 (.d Y_Heap), .bx 5 600005 (.d Y_Object)]), (3, [.d 1 (.int .i64), .bx 2 600002 (.d Y_Heap), .bx 5 600005 (.d Y_Object), .d 64 (.sl 3 (.int .i64)), .d 65 (.int .i64), .d 66 (.int .i64)]), (100025, [.d 1 (.int .i64), .bx 2 600002 (.d Y_Heap), .bx 5 600005 (.d Y_Object)]), (100027, [.bx 2 600002 (.d Y_Heap), .bx 5 600005 (.d Y_Object)]), (100035, [.bx 2 600002 (.d Y_Heap), .bx 10 600010 (.d Y_Value), .d 12 (.int .i64)]), (100037, [.bx 2 600002 (.d Y_Heap), .bx 5 600005 (.d Y_Object)]), (100042, [.bx 5 600005 (.d Y_Object)]), (100044, [.bx 5 600005 (.d Y_Object)]), (100039, [.bx 5 600005 (.d Y_Object), .bx 14 600014 (.d Y_Object)]), (100047, [.bx 2 600002 (.d Y_Heap), .bx 5 600005 (.d Y_Object)]), (100050, [.bx 2 600002 (.d Y_Heap), .bx 5 600005 (.d Y_Object)]), (100052, [.bx 5 600005 (.d Y_Object)])] }
noncomputable def F69.code : Code := Func.code Tryz.f69
noncomputable def F69.fin (c91 : F91.E) (c92 : F92.E) (c93 : F93.E) (c94 : F94.E) (c41 : F41.E) (c95 : F95.E) (c34 : F34.E) (c7 : F7.E) := kfin (F69.C c91 c92 c93 c94 c41 c95 c34 c7) Tryz.f69 F69.A F69.R
def F69.b (c91 : F91.E) (c92 : F92.E) (c93 : F93.E) (c94 : F94.E) (c41 : F41.E) (c95 : F95.E) (c34 : F34.E) (c7 : F7.E) (r_l1 : (List X_Object) → X_Object → (List (Int)) → (Int) → (Int) → Option (Bool)) (r_g15 : (List X_Object) → X_Object → Option (Bool)) (r_l3 : (Int) → (List X_Object) → X_Object → (List (Int)) → (Int) → (Int) → Option (Bool)) (r_g25 : (Int) → (List X_Object) → X_Object → Option (Bool)) (r_g27 : (List X_Object) → X_Object → Option (Bool)) (r_g37 : (List X_Object) → X_Object → Option (Bool)) (r_g47 : (List X_Object) → X_Object → Option (Bool)) (r_g50 : (List X_Object) → X_Object → Option (Bool)) (r_g52 : X_Object → Option (Bool)) (a0 : List X_Object) (a1 : Int) : Option (Bool) :=
 if 0 ≤ a1 ∧ a1 < ((List.length a0) : Int) then
 bif (((List.getD a0 (Int.toNat a1) Z_Object).1) == (5 : Int)) then
 (c91 (List.getD a0 (Int.toNat a1) Z_Object)).bind fun y1 =>
 some y1
 else
 bif (((List.getD a0 (Int.toNat a1) Z_Object).1) == (7 : Int)) then
 r_l1 a0 (List.getD a0 (Int.toNat a1) Z_Object) (((((List.getD a0 (Int.toNat a1) Z_Object).2).2).2).1) ((List.length (((((List.getD a0 (Int.toNat a1) Z_Object).2).2).2).1)) : Int) (0 : Int)
 else
 bif (((List.getD a0 (Int.toNat a1) Z_Object).1) == (8 : Int)) then
 bif (((List.getD a0 (Int.toNat a1) Z_Object).1) == (8 : Int)) then
 r_g15 a0 (List.getD a0 (Int.toNat a1) Z_Object)
 else
 bif (((List.getD a0 (Int.toNat a1) Z_Object).1) == (9 : Int)) then
 r_l3 a1 a0 (List.getD a0 (Int.toNat a1) Z_Object) (((((List.getD a0 (Int.toNat a1) Z_Object).2).2).2).1) ((List.length (((((List.getD a0 (Int.toNat a1) Z_Object).2).2).2).1)) : Int) (0 : Int)
 else
 bif (((List.getD a0 (Int.toNat a1) Z_Object).1) == (10 : Int)) then
 r_g25 a1 a0 (List.getD a0 (Int.toNat a1) Z_Object)
 else
 bif (((List.getD a0 (Int.toNat a1) Z_Object).1) == (15 : Int)) then
 r_g27 a0 (List.getD a0 (Int.toNat a1) Z_Object)
 else
 bif (((List.getD a0 (Int.toNat a1) Z_Object).1) == (16 : Int)) then
 r_g37 a0 (List.getD a0 (Int.toNat a1) Z_Object)
 else
 bif (((List.getD a0 (Int.toNat a1) Z_Object).1) == (18 : Int)) then
 bif (decide (((((((((((List.getD a0 (Int.toNat a1) Z_Object).2).2).2).2).2).2).2).2).2) > (0 : Int))) then
 r_g47 a0 (List.getD a0 (Int.toNat a1) Z_Object)
 else
 some true
 else
 bif (((List.getD a0 (Int.toNat a1) Z_Object).1) == (19 : Int)) then
 r_g50 a0 (List.getD a0 (Int.toNat a1) Z_Object)
 else
 bif (((List.getD a0 (Int.toNat a1) Z_Object).1) == (20 : Int)) then
 r_g52 (List.getD a0 (Int.toNat a1) Z_Object)
 else
 some true
 else
 bif (((List.getD a0 (Int.toNat a1) Z_Object).1) == (14 : Int)) then
 r_g15 a0 (List.getD a0 (Int.toNat a1) Z_Object)
 else
 bif (((List.getD a0 (Int.toNat a1) Z_Object).1) == (9 : Int)) then
 r_l3 a1 a0 (List.getD a0 (Int.toNat a1) Z_Object) (((((List.getD a0 (Int.toNat a1) Z_Object).2).2).2).1) ((List.length (((((List.getD a0 (Int.toNat a1) Z_Object).2).2).2).1)) : Int) (0 : Int)
 else
 bif (((List.getD a0 (Int.toNat a1) Z_Object).1) == (10 : Int)) then
 r_g25 a1 a0 (List.getD a0 (Int.toNat a1) Z_Object)
 else
 bif (((List.getD a0 (Int.toNat a1) Z_Object).1) == (15 : Int)) then
 r_g27 a0 (List.getD a0 (Int.toNat a1) Z_Object)
 else
 bif (((List.getD a0 (Int.toNat a1) Z_Object).1) == (16 : Int)) then
 r_g37 a0 (List.getD a0 (Int.toNat a1) Z_Object)
 else
 bif (((List.getD a0 (Int.toNat a1) Z_Object).1) == (18 : Int)) then
 bif (decide (((((((((((List.getD a0 (Int.toNat a1) Z_Object).2).2).2).2).2).2).2).2).2) > (0 : Int))) then
 r_g47 a0 (List.getD a0 (Int.toNat a1) Z_Object)
 else
 some true
 else
 bif (((List.getD a0 (Int.toNat a1) Z_Object).1) == (19 : Int)) then
 r_g50 a0 (List.getD a0 (Int.toNat a1) Z_Object)
 else
 bif (((List.getD a0 (Int.toNat a1) Z_Object).1) == (20 : Int)) then
 r_g52 (List.getD a0 (Int.toNat a1) Z_Object)
 else
 some true
 else none
def F69.b_l1 (c91 : F91.E) (c92 : F92.E) (c93 : F93.E) (c94 : F94.E) (c41 : F41.E) (c95 : F95.E) (c34 : F34.E) (c7 : F7.E) (n_l1 : (List X_Object) → X_Object → (List (Int)) → (Int) → (Int) → Option (Bool)) (x2 : List X_Object) (x5 : X_Object) (x30 : List (Int)) (x31 : Int) (x32 : Int) : Option (Bool) :=
 bif (decide (x32 < x31)) then
 if 0 ≤ x32 ∧ x32 < ((List.length x30) : Int) then
 if 0 ≤ (List.getD x30 (Int.toNat x32) (0 : Int)) ∧ (List.getD x30 (Int.toNat x32) (0 : Int)) < ((List.length x2) : Int) then
 bif (((List.getD x2 (Int.toNat (List.getD x30 (Int.toNat x32) (0 : Int))) Z_Object).1) != (6 : Int)) then
 some false
 else
 n_l1 x2 x5 x30 x31 (IntKind.i64.wrap (x32 + (1 : Int)))
 else none
 else none
 else
 if 0 ≤ x5.2.2.1 ∧ x5.2.2.1 < ((List.length x2) : Int) then
 some (((List.getD x2 (Int.toNat x5.2.2.1) Z_Object).1) == (11 : Int))
 else none
def F69.b_g15 (c91 : F91.E) (c92 : F92.E) (c93 : F93.E) (c94 : F94.E) (c41 : F41.E) (c95 : F95.E) (c34 : F34.E) (c7 : F7.E)  (x2 : List X_Object) (x5 : X_Object) : Option (Bool) :=
 if 0 ≤ (0 : Int) ∧ (0 : Int) < ((List.length x5.2.2.2.2.2.2.1) : Int) then
 (c92 (x2, (List.getD x5.2.2.2.2.2.2.1 (Int.toNat (0 : Int)) Z_Value))).bind fun y2 =>
 some y2
 else none
def F69.b_l3 (c91 : F91.E) (c92 : F92.E) (c93 : F93.E) (c94 : F94.E) (c41 : F41.E) (c95 : F95.E) (c34 : F34.E) (c7 : F7.E) (n_l3 : (Int) → (List X_Object) → X_Object → (List (Int)) → (Int) → (Int) → Option (Bool)) (x1 : Int) (x2 : List X_Object) (x5 : X_Object) (x64 : List (Int)) (x65 : Int) (x66 : Int) : Option (Bool) :=
 bif (decide (x66 < x65)) then
 if 0 ≤ x66 ∧ x66 < ((List.length x64) : Int) then
 bif (decide ((List.getD x64 (Int.toNat x66) (0 : Int)) ≥ x1)) then
 some false
 else
 (c93 (x2, (List.getD x64 (Int.toNat x66) (0 : Int)))).bind fun y3 =>
 bif (!y3) then
 some false
 else
 (c94 (List.getD x64 (Int.toNat x66) (0 : Int))).bind fun y4 =>
 bif (!y4) then
 some false
 else
 n_l3 x1 x2 x5 x64 x65 (IntKind.i64.wrap (x66 + (1 : Int)))
 else none
 else
 bif (decide (((List.length x5.2.2.2.1) : Int) ≥ (1 : Int))) then
 some (decide (((List.length x5.2.2.2.1) : Int) ≤ (8 : Int)))
 else
 some false
def F69.b_g25 (c91 : F91.E) (c92 : F92.E) (c93 : F93.E) (c94 : F94.E) (c41 : F41.E) (c95 : F95.E) (c34 : F34.E) (c7 : F7.E)  (x1 : Int) (x2 : List X_Object) (x5 : X_Object) : Option (Bool) :=
 (c93 (x2, x5.2.2.1)).bind fun y5 =>
 bif y5 then
 (c94 x5.2.2.1).bind fun y6 =>
 bif y6 then
 if 0 ≤ x5.2.2.1 ∧ x5.2.2.1 < ((List.length x2) : Int) then
 (c41 ((((((List.getD x2 (Int.toNat x5.2.2.1) Z_Object).2).2).2).2).1, (28 : Int))).bind fun y7 =>
 bif (!y7) then
 some true
 else
 (c95 (x2, x1)).bind fun y8 =>
 some y8
 else none
 else
 some false
 else
 some false
def F69.b_g27 (c91 : F91.E) (c92 : F92.E) (c93 : F93.E) (c94 : F94.E) (c41 : F41.E) (c95 : F95.E) (c34 : F34.E) (c7 : F7.E) (r_g35 : (List X_Object) → X_Value → (Int) → Option (Bool)) (x2 : List X_Object) (x5 : X_Object) : Option (Bool) :=
 if 0 ≤ (0 : Int) ∧ (0 : Int) < ((List.length x5.2.2.2.2.2.2.1) : Int) then
 if 0 ≤ (1 : Int) ∧ (1 : Int) < ((List.length x5.2.2.2.2.2.2.1) : Int) then
 (c34 (x2, (List.getD x5.2.2.2.2.2.2.1 (Int.toNat (1 : Int)) Z_Value))).bind fun y9 =>
 bif (y9.1 == (10 : Int)) then
 r_g35 x2 (List.getD x5.2.2.2.2.2.2.1 (Int.toNat (0 : Int)) Z_Value) y9.2.2.1
 else
 bif (y9.1 == (9 : Int)) then
 r_g35 x2 (List.getD x5.2.2.2.2.2.2.1 (Int.toNat (0 : Int)) Z_Value) (((((List.getD x5.2.2.2.2.2.2.1 (Int.toNat (1 : Int)) Z_Value).2).2).2).2)
 else
 some false
 else none
 else none
def F69.b_g35 (c91 : F91.E) (c92 : F92.E) (c93 : F93.E) (c94 : F94.E) (c41 : F41.E) (c95 : F95.E) (c34 : F34.E) (c7 : F7.E)  (x2 : List X_Object) (x10 : X_Value) (x12 : Int) : Option (Bool) :=
 (c34 (x2, x10)).bind fun y10 =>
 bif (y10.1 == (9 : Int)) then
 (c7 (x2, x12)).bind fun y11 =>
 bif y11 then
 if 0 ≤ x12 ∧ x12 < ((List.length x2) : Int) then
 (c41 ((((((List.getD x2 (Int.toNat x12) Z_Object).2).2).2).2).1, x10.2.2.2.2)).bind fun y12 =>
 some y12
 else none
 else
 some false
 else
 some false
def F69.b_g37 (c91 : F91.E) (c92 : F92.E) (c93 : F93.E) (c94 : F94.E) (c41 : F41.E) (c95 : F95.E) (c34 : F34.E) (c7 : F7.E) (r_g42 : X_Object → Option (Bool)) (r_g44 : X_Object → Option (Bool)) (r_g39 : X_Object → X_Object → Option (Bool)) (x2 : List X_Object) (x5 : X_Object) : Option (Bool) :=
 if 0 ≤ (0 : Int) ∧ (0 : Int) < ((List.length x5.2.2.2.2.2.2.1) : Int) then
 (c34 (x2, (List.getD x5.2.2.2.2.2.2.1 (Int.toNat (0 : Int)) Z_Value))).bind fun y13 =>
 bif (y13.1 == (3 : Int)) then
 bif (y13.1 == (3 : Int)) then
 r_g42 x5
 else
 bif (y13.1 == (0 : Int)) then
 r_g44 x5
 else
 r_g39 x5 y13
 else
 bif (y13.1 == (4 : Int)) then
 r_g42 x5
 else
 bif (y13.1 == (0 : Int)) then
 r_g44 x5
 else
 r_g39 x5 y13
 else none
def F69.b_g42 (c91 : F91.E) (c92 : F92.E) (c93 : F93.E) (c94 : F94.E) (c41 : F41.E) (c95 : F95.E) (c34 : F34.E) (c7 : F7.E)  (x5 : X_Object) : Option (Bool) :=
 if 0 ≤ (1 : Int) ∧ (1 : Int) < ((List.length x5.2.2.2.2.2.2.1) : Int) then
 bif (((List.getD x5.2.2.2.2.2.2.1 (Int.toNat (1 : Int)) Z_Value).1) == (2 : Int)) then
 if 0 ≤ (1 : Int) ∧ (1 : Int) < ((List.length x5.2.2.2.2.2.2.1) : Int) then
 some (!((((List.getD x5.2.2.2.2.2.2.1 (Int.toNat (1 : Int)) Z_Value).2).1).1))
 else none
 else
 some false
 else none
def F69.b_g44 (c91 : F91.E) (c92 : F92.E) (c93 : F93.E) (c94 : F94.E) (c41 : F41.E) (c95 : F95.E) (c34 : F34.E) (c7 : F7.E)  (x5 : X_Object) : Option (Bool) :=
 if 0 ≤ (0 : Int) ∧ (0 : Int) < ((List.length x5.2.2.2.2.2.2.1) : Int) then
 bif (((List.getD x5.2.2.2.2.2.2.1 (Int.toNat (0 : Int)) Z_Value).1) == (4 : Int)) then
 if 0 ≤ (1 : Int) ∧ (1 : Int) < ((List.length x5.2.2.2.2.2.2.1) : Int) then
 some (((List.getD x5.2.2.2.2.2.2.1 (Int.toNat (1 : Int)) Z_Value).1) == (0 : Int))
 else none
 else
 if 0 ≤ (0 : Int) ∧ (0 : Int) < ((List.length x5.2.2.2.2.2.2.1) : Int) then
 bif (((List.getD x5.2.2.2.2.2.2.1 (Int.toNat (0 : Int)) Z_Value).1) == (5 : Int)) then
 if 0 ≤ (1 : Int) ∧ (1 : Int) < ((List.length x5.2.2.2.2.2.2.1) : Int) then
 some (((List.getD x5.2.2.2.2.2.2.1 (Int.toNat (1 : Int)) Z_Value).1) == (0 : Int))
 else none
 else
 some false
 else none
 else none
def F69.b_g39 (c91 : F91.E) (c92 : F92.E) (c93 : F93.E) (c94 : F94.E) (c41 : F41.E) (c95 : F95.E) (c34 : F34.E) (c7 : F7.E)  (x5 : X_Object) (x14 : X_Object) : Option (Bool) :=
 bif (x14.1 == (1 : Int)) then
 if 0 ≤ (1 : Int) ∧ (1 : Int) < ((List.length x5.2.2.2.2.2.2.1) : Int) then
 some (((List.getD x5.2.2.2.2.2.2.1 (Int.toNat (1 : Int)) Z_Value).1) == (0 : Int))
 else none
 else
 bif (x14.1 == (2 : Int)) then
 if 0 ≤ (1 : Int) ∧ (1 : Int) < ((List.length x5.2.2.2.2.2.2.1) : Int) then
 some (((List.getD x5.2.2.2.2.2.2.1 (Int.toNat (1 : Int)) Z_Value).1) == (0 : Int))
 else none
 else
 bif (x14.1 == (5 : Int)) then
 if 0 ≤ (1 : Int) ∧ (1 : Int) < ((List.length x5.2.2.2.2.2.2.1) : Int) then
 some (((List.getD x5.2.2.2.2.2.2.1 (Int.toNat (1 : Int)) Z_Value).1) == (0 : Int))
 else none
 else
 some false
def F69.b_g47 (c91 : F91.E) (c92 : F92.E) (c93 : F93.E) (c94 : F94.E) (c41 : F41.E) (c95 : F95.E) (c34 : F34.E) (c7 : F7.E)  (x2 : List X_Object) (x5 : X_Object) : Option (Bool) :=
 if 0 ≤ (IntKind.i64.wrap (x5.2.2.2.2.2.2.2.2.2 - (1 : Int))) ∧ (IntKind.i64.wrap (x5.2.2.2.2.2.2.2.2.2 - (1 : Int))) < ((List.length x2) : Int) then
 bif (((List.getD x2 (Int.toNat (IntKind.i64.wrap (x5.2.2.2.2.2.2.2.2.2 - (1 : Int)))) Z_Object).1) == (10 : Int)) then
 some (decide (((((List.getD x2 (Int.toNat (IntKind.i64.wrap (x5.2.2.2.2.2.2.2.2.2 - (1 : Int)))) Z_Object).2).2).1) ≥ (49 : Int)))
 else
 some false
 else none
def F69.b_g50 (c91 : F91.E) (c92 : F92.E) (c93 : F93.E) (c94 : F94.E) (c41 : F41.E) (c95 : F95.E) (c34 : F34.E) (c7 : F7.E)  (x2 : List X_Object) (x5 : X_Object) : Option (Bool) :=
 if 0 ≤ (0 : Int) ∧ (0 : Int) < ((List.length x5.2.2.2.2.2.2.1) : Int) then
 (c34 (x2, (List.getD x5.2.2.2.2.2.2.1 (Int.toNat (0 : Int)) Z_Value))).bind fun y14 =>
 some (y14.1 == (17 : Int))
 else none
def F69.b_g52 (c91 : F91.E) (c92 : F92.E) (c93 : F93.E) (c94 : F94.E) (c41 : F41.E) (c95 : F95.E) (c34 : F34.E) (c7 : F7.E)  (x5 : X_Object) : Option (Bool) :=
 if 0 ≤ (0 : Int) ∧ (0 : Int) < ((List.length x5.2.2.2.2.2.2.1) : Int) then
 bif (((List.getD x5.2.2.2.2.2.2.1 (Int.toNat (0 : Int)) Z_Value).1) == (2 : Int)) then
 if 0 ≤ (0 : Int) ∧ (0 : Int) < ((List.length x5.2.2.2.2.2.2.1) : Int) then
 some (!((((List.getD x5.2.2.2.2.2.2.1 (Int.toNat (0 : Int)) Z_Value).2).1).1))
 else none
 else
 some false
 else none
def F69.c (c91 : F91.E) (c92 : F92.E) (c93 : F93.E) (c94 : F94.E) (c41 : F41.E) (c95 : F95.E) (c34 : F34.E) (c7 : F7.E) (r_l1 : (List X_Object) → X_Object → (List (Int)) → (Int) → (Int) → Option (Bool)) (r_g15 : (List X_Object) → X_Object → Option (Bool)) (r_l3 : (Int) → (List X_Object) → X_Object → (List (Int)) → (Int) → (Int) → Option (Bool)) (r_g25 : (Int) → (List X_Object) → X_Object → Option (Bool)) (r_g27 : (List X_Object) → X_Object → Option (Bool)) (r_g37 : (List X_Object) → X_Object → Option (Bool)) (r_g47 : (List X_Object) → X_Object → Option (Bool)) (r_g50 : (List X_Object) → X_Object → Option (Bool)) (r_g52 : X_Object → Option (Bool)) (a0 : List X_Object) (a1 : Int) : Option (Bool) :=
 if 0 ≤ a1 ∧ a1 < ((List.length a0) : Int) then
 bif (((List.getD a0 (Int.toNat a1) Z_Object).1) == (5 : Int)) then
 (c91 (List.getD a0 (Int.toNat a1) Z_Object)).bind fun y1 =>
 some y1
 else
 bif (((List.getD a0 (Int.toNat a1) Z_Object).1) == (7 : Int)) then
 r_l1 a0 (List.getD a0 (Int.toNat a1) Z_Object) (((((List.getD a0 (Int.toNat a1) Z_Object).2).2).2).1) ((List.length (((((List.getD a0 (Int.toNat a1) Z_Object).2).2).2).1)) : Int) (0 : Int)
 else
 bif (((List.getD a0 (Int.toNat a1) Z_Object).1) == (8 : Int)) then
 bif (((List.getD a0 (Int.toNat a1) Z_Object).1) == (8 : Int)) then
 r_g15 a0 (List.getD a0 (Int.toNat a1) Z_Object)
 else
 bif (((List.getD a0 (Int.toNat a1) Z_Object).1) == (9 : Int)) then
 r_l3 a1 a0 (List.getD a0 (Int.toNat a1) Z_Object) (((((List.getD a0 (Int.toNat a1) Z_Object).2).2).2).1) ((List.length (((((List.getD a0 (Int.toNat a1) Z_Object).2).2).2).1)) : Int) (0 : Int)
 else
 bif (((List.getD a0 (Int.toNat a1) Z_Object).1) == (10 : Int)) then
 r_g25 a1 a0 (List.getD a0 (Int.toNat a1) Z_Object)
 else
 bif (((List.getD a0 (Int.toNat a1) Z_Object).1) == (15 : Int)) then
 r_g27 a0 (List.getD a0 (Int.toNat a1) Z_Object)
 else
 bif (((List.getD a0 (Int.toNat a1) Z_Object).1) == (16 : Int)) then
 r_g37 a0 (List.getD a0 (Int.toNat a1) Z_Object)
 else
 bif (((List.getD a0 (Int.toNat a1) Z_Object).1) == (18 : Int)) then
 bif (decide (((((((((((List.getD a0 (Int.toNat a1) Z_Object).2).2).2).2).2).2).2).2).2) > (0 : Int))) then
 r_g47 a0 (List.getD a0 (Int.toNat a1) Z_Object)
 else
 some true
 else
 bif (((List.getD a0 (Int.toNat a1) Z_Object).1) == (19 : Int)) then
 r_g50 a0 (List.getD a0 (Int.toNat a1) Z_Object)
 else
 bif (((List.getD a0 (Int.toNat a1) Z_Object).1) == (20 : Int)) then
 r_g52 (List.getD a0 (Int.toNat a1) Z_Object)
 else
 some true
 else
 bif (((List.getD a0 (Int.toNat a1) Z_Object).1) == (14 : Int)) then
 r_g15 a0 (List.getD a0 (Int.toNat a1) Z_Object)
 else
 bif (((List.getD a0 (Int.toNat a1) Z_Object).1) == (9 : Int)) then
 r_l3 a1 a0 (List.getD a0 (Int.toNat a1) Z_Object) (((((List.getD a0 (Int.toNat a1) Z_Object).2).2).2).1) ((List.length (((((List.getD a0 (Int.toNat a1) Z_Object).2).2).2).1)) : Int) (0 : Int)
 else
 bif (((List.getD a0 (Int.toNat a1) Z_Object).1) == (10 : Int)) then
 r_g25 a1 a0 (List.getD a0 (Int.toNat a1) Z_Object)
 else
 bif (((List.getD a0 (Int.toNat a1) Z_Object).1) == (15 : Int)) then
 r_g27 a0 (List.getD a0 (Int.toNat a1) Z_Object)
 else
 bif (((List.getD a0 (Int.toNat a1) Z_Object).1) == (16 : Int)) then
 r_g37 a0 (List.getD a0 (Int.toNat a1) Z_Object)
 else
 bif (((List.getD a0 (Int.toNat a1) Z_Object).1) == (18 : Int)) then
 bif (decide (((((((((((List.getD a0 (Int.toNat a1) Z_Object).2).2).2).2).2).2).2).2).2) > (0 : Int))) then
 r_g47 a0 (List.getD a0 (Int.toNat a1) Z_Object)
 else
 some true
 else
 bif (((List.getD a0 (Int.toNat a1) Z_Object).1) == (19 : Int)) then
 r_g50 a0 (List.getD a0 (Int.toNat a1) Z_Object)
 else
 bif (((List.getD a0 (Int.toNat a1) Z_Object).1) == (20 : Int)) then
 r_g52 (List.getD a0 (Int.toNat a1) Z_Object)
 else
 some true
 else none
theorem F69.q (c91 : F91.E) (c92 : F92.E) (c93 : F93.E) (c94 : F94.E) (c41 : F41.E) (c95 : F95.E) (c34 : F34.E) (c7 : F7.E) (r_l1 : (List X_Object) → X_Object → (List (Int)) → (Int) → (Int) → Option (Bool)) (r_g15 : (List X_Object) → X_Object → Option (Bool)) (r_l3 : (Int) → (List X_Object) → X_Object → (List (Int)) → (Int) → (Int) → Option (Bool)) (r_g25 : (Int) → (List X_Object) → X_Object → Option (Bool)) (r_g27 : (List X_Object) → X_Object → Option (Bool)) (r_g37 : (List X_Object) → X_Object → Option (Bool)) (r_g47 : (List X_Object) → X_Object → Option (Bool)) (r_g50 : (List X_Object) → X_Object → Option (Bool)) (r_g52 : X_Object → Option (Bool)) (a0 : List X_Object) (a1 : Int) : F69.b c91 c92 c93 c94 c41 c95 c34 c7 r_l1 r_g15 r_l3 r_g25 r_g27 r_g37 r_g47 r_g50 r_g52 a0 a1 = F69.c c91 c92 c93 c94 c41 c95 c34 c7 r_l1 r_g15 r_l3 r_g25 r_g27 r_g37 r_g47 r_g50 r_g52 a0 a1 := by
  simp only [F69.b, F69.c, List.take_length, take_one, Nat.zero_add, Int.toNat_natCast, Int.toNat_zero, List.drop_zero, List.append_eq, Nat.le_refl, Int.le_refl, true_and, and_true, zero_le_one, if_true, prod_eta, Int.natCast_zero]
def F69.c_l1 (c91 : F91.E) (c92 : F92.E) (c93 : F93.E) (c94 : F94.E) (c41 : F41.E) (c95 : F95.E) (c34 : F34.E) (c7 : F7.E) (n_l1 : (List X_Object) → X_Object → (List (Int)) → (Int) → (Int) → Option (Bool)) (x2 : List X_Object) (x5 : X_Object) (x30 : List (Int)) (x31 : Int) (x32 : Int) : Option (Bool) :=
 bif (decide (x32 < x31)) then
 if 0 ≤ x32 ∧ x32 < ((List.length x30) : Int) then
 if 0 ≤ (List.getD x30 (Int.toNat x32) (0 : Int)) ∧ (List.getD x30 (Int.toNat x32) (0 : Int)) < ((List.length x2) : Int) then
 bif (((List.getD x2 (Int.toNat (List.getD x30 (Int.toNat x32) (0 : Int))) Z_Object).1) != (6 : Int)) then
 some false
 else
 n_l1 x2 x5 x30 x31 (IntKind.i64.wrap (x32 + (1 : Int)))
 else none
 else none
 else
 if 0 ≤ x5.2.2.1 ∧ x5.2.2.1 < ((List.length x2) : Int) then
 some (((List.getD x2 (Int.toNat x5.2.2.1) Z_Object).1) == (11 : Int))
 else none
theorem F69.q_l1 (c91 : F91.E) (c92 : F92.E) (c93 : F93.E) (c94 : F94.E) (c41 : F41.E) (c95 : F95.E) (c34 : F34.E) (c7 : F7.E) (n_l1 : (List X_Object) → X_Object → (List (Int)) → (Int) → (Int) → Option (Bool)) (x2 : List X_Object) (x5 : X_Object) (x30 : List (Int)) (x31 : Int) (x32 : Int) : F69.b_l1 c91 c92 c93 c94 c41 c95 c34 c7 n_l1 x2 x5 x30 x31 x32 = F69.c_l1 c91 c92 c93 c94 c41 c95 c34 c7 n_l1 x2 x5 x30 x31 x32 := by
  simp only [F69.b_l1, F69.c_l1, List.take_length, take_one, Nat.zero_add, Int.toNat_natCast, Int.toNat_zero, List.drop_zero, List.append_eq, Nat.le_refl, Int.le_refl, true_and, and_true, zero_le_one, if_true, prod_eta, Int.natCast_zero]
def F69.c_g15 (c91 : F91.E) (c92 : F92.E) (c93 : F93.E) (c94 : F94.E) (c41 : F41.E) (c95 : F95.E) (c34 : F34.E) (c7 : F7.E)  (x2 : List X_Object) (x5 : X_Object) : Option (Bool) :=
 if (0 : Int) < ((List.length x5.2.2.2.2.2.2.1) : Int) then
 (c92 (x2, (List.getD x5.2.2.2.2.2.2.1 0 Z_Value))).bind fun y2 =>
 some y2
 else none
theorem F69.q_g15 (c91 : F91.E) (c92 : F92.E) (c93 : F93.E) (c94 : F94.E) (c41 : F41.E) (c95 : F95.E) (c34 : F34.E) (c7 : F7.E)  (x2 : List X_Object) (x5 : X_Object) : F69.b_g15 c91 c92 c93 c94 c41 c95 c34 c7 x2 x5 = F69.c_g15 c91 c92 c93 c94 c41 c95 c34 c7 x2 x5 := by
  simp only [F69.b_g15, F69.c_g15, List.take_length, take_one, Nat.zero_add, Int.toNat_natCast, Int.toNat_zero, List.drop_zero, List.append_eq, Nat.le_refl, Int.le_refl, true_and, and_true, zero_le_one, if_true, prod_eta, Int.natCast_zero]
def F69.c_l3 (c91 : F91.E) (c92 : F92.E) (c93 : F93.E) (c94 : F94.E) (c41 : F41.E) (c95 : F95.E) (c34 : F34.E) (c7 : F7.E) (n_l3 : (Int) → (List X_Object) → X_Object → (List (Int)) → (Int) → (Int) → Option (Bool)) (x1 : Int) (x2 : List X_Object) (x5 : X_Object) (x64 : List (Int)) (x65 : Int) (x66 : Int) : Option (Bool) :=
 bif (decide (x66 < x65)) then
 if 0 ≤ x66 ∧ x66 < ((List.length x64) : Int) then
 bif (decide ((List.getD x64 (Int.toNat x66) (0 : Int)) ≥ x1)) then
 some false
 else
 (c93 (x2, (List.getD x64 (Int.toNat x66) (0 : Int)))).bind fun y3 =>
 bif !y3 then
 some false
 else
 (c94 (List.getD x64 (Int.toNat x66) (0 : Int))).bind fun y4 =>
 bif !y4 then
 some false
 else
 n_l3 x1 x2 x5 x64 x65 (IntKind.i64.wrap (x66 + (1 : Int)))
 else none
 else
 bif (decide (((List.length x5.2.2.2.1) : Int) ≥ (1 : Int))) then
 some (decide (((List.length x5.2.2.2.1) : Int) ≤ (8 : Int)))
 else
 some false
theorem F69.q_l3 (c91 : F91.E) (c92 : F92.E) (c93 : F93.E) (c94 : F94.E) (c41 : F41.E) (c95 : F95.E) (c34 : F34.E) (c7 : F7.E) (n_l3 : (Int) → (List X_Object) → X_Object → (List (Int)) → (Int) → (Int) → Option (Bool)) (x1 : Int) (x2 : List X_Object) (x5 : X_Object) (x64 : List (Int)) (x65 : Int) (x66 : Int) : F69.b_l3 c91 c92 c93 c94 c41 c95 c34 c7 n_l3 x1 x2 x5 x64 x65 x66 = F69.c_l3 c91 c92 c93 c94 c41 c95 c34 c7 n_l3 x1 x2 x5 x64 x65 x66 := by
  simp only [F69.b_l3, F69.c_l3, List.take_length, take_one, Nat.zero_add, Int.toNat_natCast, Int.toNat_zero, List.drop_zero, List.append_eq, Nat.le_refl, Int.le_refl, true_and, and_true, zero_le_one, if_true, prod_eta, Int.natCast_zero]
def F69.c_g25 (c91 : F91.E) (c92 : F92.E) (c93 : F93.E) (c94 : F94.E) (c41 : F41.E) (c95 : F95.E) (c34 : F34.E) (c7 : F7.E)  (x1 : Int) (x2 : List X_Object) (x5 : X_Object) : Option (Bool) :=
 (c93 (x2, x5.2.2.1)).bind fun y5 =>
 bif y5 then
 (c94 x5.2.2.1).bind fun y6 =>
 bif y6 then
 if 0 ≤ x5.2.2.1 ∧ x5.2.2.1 < ((List.length x2) : Int) then
 (c41 ((((((List.getD x2 (Int.toNat x5.2.2.1) Z_Object).2).2).2).2).1, (28 : Int))).bind fun y7 =>
 bif !y7 then
 some true
 else
 (c95 (x2, x1)).bind fun y8 =>
 some y8
 else none
 else
 some false
 else
 some false
theorem F69.q_g25 (c91 : F91.E) (c92 : F92.E) (c93 : F93.E) (c94 : F94.E) (c41 : F41.E) (c95 : F95.E) (c34 : F34.E) (c7 : F7.E)  (x1 : Int) (x2 : List X_Object) (x5 : X_Object) : F69.b_g25 c91 c92 c93 c94 c41 c95 c34 c7 x1 x2 x5 = F69.c_g25 c91 c92 c93 c94 c41 c95 c34 c7 x1 x2 x5 := by
  simp only [F69.b_g25, F69.c_g25, List.take_length, take_one, Nat.zero_add, Int.toNat_natCast, Int.toNat_zero, List.drop_zero, List.append_eq, Nat.le_refl, Int.le_refl, true_and, and_true, zero_le_one, if_true, prod_eta, Int.natCast_zero]
def F69.c_g27 (c91 : F91.E) (c92 : F92.E) (c93 : F93.E) (c94 : F94.E) (c41 : F41.E) (c95 : F95.E) (c34 : F34.E) (c7 : F7.E) (r_g35 : (List X_Object) → X_Value → (Int) → Option (Bool)) (x2 : List X_Object) (x5 : X_Object) : Option (Bool) :=
 if (0 : Int) < ((List.length x5.2.2.2.2.2.2.1) : Int) then
 if (1 : Int) < ((List.length x5.2.2.2.2.2.2.1) : Int) then
 (c34 (x2, (List.getD x5.2.2.2.2.2.2.1 (Int.toNat (1 : Int)) Z_Value))).bind fun y9 =>
 bif (y9.1 == (10 : Int)) then
 r_g35 x2 (List.getD x5.2.2.2.2.2.2.1 0 Z_Value) y9.2.2.1
 else
 bif (y9.1 == (9 : Int)) then
 r_g35 x2 (List.getD x5.2.2.2.2.2.2.1 0 Z_Value) (((((List.getD x5.2.2.2.2.2.2.1 (Int.toNat (1 : Int)) Z_Value).2).2).2).2)
 else
 some false
 else none
 else none
theorem F69.q_g27 (c91 : F91.E) (c92 : F92.E) (c93 : F93.E) (c94 : F94.E) (c41 : F41.E) (c95 : F95.E) (c34 : F34.E) (c7 : F7.E) (r_g35 : (List X_Object) → X_Value → (Int) → Option (Bool)) (x2 : List X_Object) (x5 : X_Object) : F69.b_g27 c91 c92 c93 c94 c41 c95 c34 c7 r_g35 x2 x5 = F69.c_g27 c91 c92 c93 c94 c41 c95 c34 c7 r_g35 x2 x5 := by
  simp only [F69.b_g27, F69.c_g27, List.take_length, take_one, Nat.zero_add, Int.toNat_natCast, Int.toNat_zero, List.drop_zero, List.append_eq, Nat.le_refl, Int.le_refl, true_and, and_true, zero_le_one, if_true, prod_eta, Int.natCast_zero]
def F69.c_g35 (c91 : F91.E) (c92 : F92.E) (c93 : F93.E) (c94 : F94.E) (c41 : F41.E) (c95 : F95.E) (c34 : F34.E) (c7 : F7.E)  (x2 : List X_Object) (x10 : X_Value) (x12 : Int) : Option (Bool) :=
 (c34 (x2, x10)).bind fun y10 =>
 bif (y10.1 == (9 : Int)) then
 (c7 (x2, x12)).bind fun y11 =>
 bif y11 then
 if 0 ≤ x12 ∧ x12 < ((List.length x2) : Int) then
 (c41 ((((((List.getD x2 (Int.toNat x12) Z_Object).2).2).2).2).1, x10.2.2.2.2)).bind fun y12 =>
 some y12
 else none
 else
 some false
 else
 some false
theorem F69.q_g35 (c91 : F91.E) (c92 : F92.E) (c93 : F93.E) (c94 : F94.E) (c41 : F41.E) (c95 : F95.E) (c34 : F34.E) (c7 : F7.E)  (x2 : List X_Object) (x10 : X_Value) (x12 : Int) : F69.b_g35 c91 c92 c93 c94 c41 c95 c34 c7 x2 x10 x12 = F69.c_g35 c91 c92 c93 c94 c41 c95 c34 c7 x2 x10 x12 := by
  simp only [F69.b_g35, F69.c_g35, List.take_length, take_one, Nat.zero_add, Int.toNat_natCast, Int.toNat_zero, List.drop_zero, List.append_eq, Nat.le_refl, Int.le_refl, true_and, and_true, zero_le_one, if_true, prod_eta, Int.natCast_zero]
def F69.c_g37 (c91 : F91.E) (c92 : F92.E) (c93 : F93.E) (c94 : F94.E) (c41 : F41.E) (c95 : F95.E) (c34 : F34.E) (c7 : F7.E) (r_g42 : X_Object → Option (Bool)) (r_g44 : X_Object → Option (Bool)) (r_g39 : X_Object → X_Object → Option (Bool)) (x2 : List X_Object) (x5 : X_Object) : Option (Bool) :=
 if (0 : Int) < ((List.length x5.2.2.2.2.2.2.1) : Int) then
 (c34 (x2, (List.getD x5.2.2.2.2.2.2.1 0 Z_Value))).bind fun y13 =>
 bif (y13.1 == (3 : Int)) then
 bif (y13.1 == (3 : Int)) then
 r_g42 x5
 else
 bif (y13.1 == (0 : Int)) then
 r_g44 x5
 else
 r_g39 x5 y13
 else
 bif (y13.1 == (4 : Int)) then
 r_g42 x5
 else
 bif (y13.1 == (0 : Int)) then
 r_g44 x5
 else
 r_g39 x5 y13
 else none
theorem F69.q_g37 (c91 : F91.E) (c92 : F92.E) (c93 : F93.E) (c94 : F94.E) (c41 : F41.E) (c95 : F95.E) (c34 : F34.E) (c7 : F7.E) (r_g42 : X_Object → Option (Bool)) (r_g44 : X_Object → Option (Bool)) (r_g39 : X_Object → X_Object → Option (Bool)) (x2 : List X_Object) (x5 : X_Object) : F69.b_g37 c91 c92 c93 c94 c41 c95 c34 c7 r_g42 r_g44 r_g39 x2 x5 = F69.c_g37 c91 c92 c93 c94 c41 c95 c34 c7 r_g42 r_g44 r_g39 x2 x5 := by
  simp only [F69.b_g37, F69.c_g37, List.take_length, take_one, Nat.zero_add, Int.toNat_natCast, Int.toNat_zero, List.drop_zero, List.append_eq, Nat.le_refl, Int.le_refl, true_and, and_true, zero_le_one, if_true, prod_eta, Int.natCast_zero]
def F69.c_g42 (c91 : F91.E) (c92 : F92.E) (c93 : F93.E) (c94 : F94.E) (c41 : F41.E) (c95 : F95.E) (c34 : F34.E) (c7 : F7.E)  (x5 : X_Object) : Option (Bool) :=
 if (1 : Int) < ((List.length x5.2.2.2.2.2.2.1) : Int) then
 bif (((List.getD x5.2.2.2.2.2.2.1 (Int.toNat (1 : Int)) Z_Value).1) == (2 : Int)) then
 if (1 : Int) < ((List.length x5.2.2.2.2.2.2.1) : Int) then
 some (! ((((List.getD x5.2.2.2.2.2.2.1 (Int.toNat (1 : Int)) Z_Value).2).1).1))
 else none
 else
 some false
 else none
theorem F69.q_g42 (c91 : F91.E) (c92 : F92.E) (c93 : F93.E) (c94 : F94.E) (c41 : F41.E) (c95 : F95.E) (c34 : F34.E) (c7 : F7.E)  (x5 : X_Object) : F69.b_g42 c91 c92 c93 c94 c41 c95 c34 c7 x5 = F69.c_g42 c91 c92 c93 c94 c41 c95 c34 c7 x5 := by
  simp only [F69.b_g42, F69.c_g42, List.take_length, take_one, Nat.zero_add, Int.toNat_natCast, Int.toNat_zero, List.drop_zero, List.append_eq, Nat.le_refl, Int.le_refl, true_and, and_true, zero_le_one, if_true, prod_eta, Int.natCast_zero]
def F69.c_g44 (c91 : F91.E) (c92 : F92.E) (c93 : F93.E) (c94 : F94.E) (c41 : F41.E) (c95 : F95.E) (c34 : F34.E) (c7 : F7.E)  (x5 : X_Object) : Option (Bool) :=
 if (0 : Int) < ((List.length x5.2.2.2.2.2.2.1) : Int) then
 bif (((List.getD x5.2.2.2.2.2.2.1 0 Z_Value).1) == (4 : Int)) then
 if (1 : Int) < ((List.length x5.2.2.2.2.2.2.1) : Int) then
 some (((List.getD x5.2.2.2.2.2.2.1 (Int.toNat (1 : Int)) Z_Value).1) == (0 : Int))
 else none
 else
 if (0 : Int) < ((List.length x5.2.2.2.2.2.2.1) : Int) then
 bif (((List.getD x5.2.2.2.2.2.2.1 0 Z_Value).1) == (5 : Int)) then
 if (1 : Int) < ((List.length x5.2.2.2.2.2.2.1) : Int) then
 some (((List.getD x5.2.2.2.2.2.2.1 (Int.toNat (1 : Int)) Z_Value).1) == (0 : Int))
 else none
 else
 some false
 else none
 else none
theorem F69.q_g44 (c91 : F91.E) (c92 : F92.E) (c93 : F93.E) (c94 : F94.E) (c41 : F41.E) (c95 : F95.E) (c34 : F34.E) (c7 : F7.E)  (x5 : X_Object) : F69.b_g44 c91 c92 c93 c94 c41 c95 c34 c7 x5 = F69.c_g44 c91 c92 c93 c94 c41 c95 c34 c7 x5 := by
  simp only [F69.b_g44, F69.c_g44, List.take_length, take_one, Nat.zero_add, Int.toNat_natCast, Int.toNat_zero, List.drop_zero, List.append_eq, Nat.le_refl, Int.le_refl, true_and, and_true, zero_le_one, if_true, prod_eta, Int.natCast_zero]
def F69.c_g39 (c91 : F91.E) (c92 : F92.E) (c93 : F93.E) (c94 : F94.E) (c41 : F41.E) (c95 : F95.E) (c34 : F34.E) (c7 : F7.E)  (x5 : X_Object) (x14 : X_Object) : Option (Bool) :=
 bif (x14.1 == (1 : Int)) then
 if (1 : Int) < ((List.length x5.2.2.2.2.2.2.1) : Int) then
 some (((List.getD x5.2.2.2.2.2.2.1 (Int.toNat (1 : Int)) Z_Value).1) == (0 : Int))
 else none
 else
 bif (x14.1 == (2 : Int)) then
 if (1 : Int) < ((List.length x5.2.2.2.2.2.2.1) : Int) then
 some (((List.getD x5.2.2.2.2.2.2.1 (Int.toNat (1 : Int)) Z_Value).1) == (0 : Int))
 else none
 else
 bif (x14.1 == (5 : Int)) then
 if (1 : Int) < ((List.length x5.2.2.2.2.2.2.1) : Int) then
 some (((List.getD x5.2.2.2.2.2.2.1 (Int.toNat (1 : Int)) Z_Value).1) == (0 : Int))
 else none
 else
 some false
theorem F69.q_g39 (c91 : F91.E) (c92 : F92.E) (c93 : F93.E) (c94 : F94.E) (c41 : F41.E) (c95 : F95.E) (c34 : F34.E) (c7 : F7.E)  (x5 : X_Object) (x14 : X_Object) : F69.b_g39 c91 c92 c93 c94 c41 c95 c34 c7 x5 x14 = F69.c_g39 c91 c92 c93 c94 c41 c95 c34 c7 x5 x14 := by
  simp only [F69.b_g39, F69.c_g39, List.take_length, take_one, Nat.zero_add, Int.toNat_natCast, Int.toNat_zero, List.drop_zero, List.append_eq, Nat.le_refl, Int.le_refl, true_and, and_true, zero_le_one, if_true, prod_eta, Int.natCast_zero]
def F69.c_g47 (c91 : F91.E) (c92 : F92.E) (c93 : F93.E) (c94 : F94.E) (c41 : F41.E) (c95 : F95.E) (c34 : F34.E) (c7 : F7.E)  (x2 : List X_Object) (x5 : X_Object) : Option (Bool) :=
 if 0 ≤ (IntKind.i64.wrap (x5.2.2.2.2.2.2.2.2.2 - (1 : Int))) ∧ (IntKind.i64.wrap (x5.2.2.2.2.2.2.2.2.2 - (1 : Int))) < ((List.length x2) : Int) then
 bif (((List.getD x2 (Int.toNat (IntKind.i64.wrap (x5.2.2.2.2.2.2.2.2.2 - (1 : Int)))) Z_Object).1) == (10 : Int)) then
 some (decide (((((List.getD x2 (Int.toNat (IntKind.i64.wrap (x5.2.2.2.2.2.2.2.2.2 - (1 : Int)))) Z_Object).2).2).1) ≥ (49 : Int)))
 else
 some false
 else none
theorem F69.q_g47 (c91 : F91.E) (c92 : F92.E) (c93 : F93.E) (c94 : F94.E) (c41 : F41.E) (c95 : F95.E) (c34 : F34.E) (c7 : F7.E)  (x2 : List X_Object) (x5 : X_Object) : F69.b_g47 c91 c92 c93 c94 c41 c95 c34 c7 x2 x5 = F69.c_g47 c91 c92 c93 c94 c41 c95 c34 c7 x2 x5 := by
  simp only [F69.b_g47, F69.c_g47, List.take_length, take_one, Nat.zero_add, Int.toNat_natCast, Int.toNat_zero, List.drop_zero, List.append_eq, Nat.le_refl, Int.le_refl, true_and, and_true, zero_le_one, if_true, prod_eta, Int.natCast_zero]
def F69.c_g50 (c91 : F91.E) (c92 : F92.E) (c93 : F93.E) (c94 : F94.E) (c41 : F41.E) (c95 : F95.E) (c34 : F34.E) (c7 : F7.E)  (x2 : List X_Object) (x5 : X_Object) : Option (Bool) :=
 if (0 : Int) < ((List.length x5.2.2.2.2.2.2.1) : Int) then
 (c34 (x2, (List.getD x5.2.2.2.2.2.2.1 0 Z_Value))).bind fun y14 =>
 some (y14.1 == (17 : Int))
 else none
theorem F69.q_g50 (c91 : F91.E) (c92 : F92.E) (c93 : F93.E) (c94 : F94.E) (c41 : F41.E) (c95 : F95.E) (c34 : F34.E) (c7 : F7.E)  (x2 : List X_Object) (x5 : X_Object) : F69.b_g50 c91 c92 c93 c94 c41 c95 c34 c7 x2 x5 = F69.c_g50 c91 c92 c93 c94 c41 c95 c34 c7 x2 x5 := by
  simp only [F69.b_g50, F69.c_g50, List.take_length, take_one, Nat.zero_add, Int.toNat_natCast, Int.toNat_zero, List.drop_zero, List.append_eq, Nat.le_refl, Int.le_refl, true_and, and_true, zero_le_one, if_true, prod_eta, Int.natCast_zero]
def F69.c_g52 (c91 : F91.E) (c92 : F92.E) (c93 : F93.E) (c94 : F94.E) (c41 : F41.E) (c95 : F95.E) (c34 : F34.E) (c7 : F7.E)  (x5 : X_Object) : Option (Bool) :=
 if (0 : Int) < ((List.length x5.2.2.2.2.2.2.1) : Int) then
 bif (((List.getD x5.2.2.2.2.2.2.1 0 Z_Value).1) == (2 : Int)) then
 if (0 : Int) < ((List.length x5.2.2.2.2.2.2.1) : Int) then
 some (! ((((List.getD x5.2.2.2.2.2.2.1 0 Z_Value).2).1).1))
 else none
 else
 some false
 else none
theorem F69.q_g52 (c91 : F91.E) (c92 : F92.E) (c93 : F93.E) (c94 : F94.E) (c41 : F41.E) (c95 : F95.E) (c34 : F34.E) (c7 : F7.E)  (x5 : X_Object) : F69.b_g52 c91 c92 c93 c94 c41 c95 c34 c7 x5 = F69.c_g52 c91 c92 c93 c94 c41 c95 c34 c7 x5 := by
  simp only [F69.b_g52, F69.c_g52, List.take_length, take_one, Nat.zero_add, Int.toNat_natCast, Int.toNat_zero, List.drop_zero, List.append_eq, Nat.le_refl, Int.le_refl, true_and, and_true, zero_le_one, if_true, prod_eta, Int.natCast_zero]
def F69.l1 (c91 : F91.E) (c92 : F92.E) (c93 : F93.E) (c94 : F94.E) (c41 : F41.E) (c95 : F95.E) (c34 : F34.E) (c7 : F7.E) (k : Nat)  : Nat → (List X_Object) → X_Object → (List (Int)) → (Int) → (Int) → Option (Bool)
  | 0, _, _, _, _, _ => none
  | n + 1, x2, x5, x30, x31, x32 => F69.b_l1 c91 c92 c93 c94 c41 c95 c34 c7 (fun x2 x5 x30 x31 x32 => F69.l1 c91 c92 c93 c94 c41 c95 c34 c7 k  n x2 x5 x30 x31 x32) x2 x5 x30 x31 x32
def F69.g15 (c91 : F91.E) (c92 : F92.E) (c93 : F93.E) (c94 : F94.E) (c41 : F41.E) (c95 : F95.E) (c34 : F34.E) (c7 : F7.E) (k : Nat)  (x2 : List X_Object) (x5 : X_Object) : Option (Bool) := gate k (F69.b_g15 c91 c92 c93 c94 c41 c95 c34 c7  x2 x5)
def F69.l3 (c91 : F91.E) (c92 : F92.E) (c93 : F93.E) (c94 : F94.E) (c41 : F41.E) (c95 : F95.E) (c34 : F34.E) (c7 : F7.E) (k : Nat)  : Nat → (Int) → (List X_Object) → X_Object → (List (Int)) → (Int) → (Int) → Option (Bool)
  | 0, _, _, _, _, _, _ => none
  | n + 1, x1, x2, x5, x64, x65, x66 => F69.b_l3 c91 c92 c93 c94 c41 c95 c34 c7 (fun x1 x2 x5 x64 x65 x66 => F69.l3 c91 c92 c93 c94 c41 c95 c34 c7 k  n x1 x2 x5 x64 x65 x66) x1 x2 x5 x64 x65 x66
def F69.g25 (c91 : F91.E) (c92 : F92.E) (c93 : F93.E) (c94 : F94.E) (c41 : F41.E) (c95 : F95.E) (c34 : F34.E) (c7 : F7.E) (k : Nat)  (x1 : Int) (x2 : List X_Object) (x5 : X_Object) : Option (Bool) := gate k (F69.b_g25 c91 c92 c93 c94 c41 c95 c34 c7  x1 x2 x5)
def F69.g35 (c91 : F91.E) (c92 : F92.E) (c93 : F93.E) (c94 : F94.E) (c41 : F41.E) (c95 : F95.E) (c34 : F34.E) (c7 : F7.E) (k : Nat)  (x2 : List X_Object) (x10 : X_Value) (x12 : Int) : Option (Bool) := gate k (F69.b_g35 c91 c92 c93 c94 c41 c95 c34 c7  x2 x10 x12)
def F69.g27 (c91 : F91.E) (c92 : F92.E) (c93 : F93.E) (c94 : F94.E) (c41 : F41.E) (c95 : F95.E) (c34 : F34.E) (c7 : F7.E) (k : Nat)  (x2 : List X_Object) (x5 : X_Object) : Option (Bool) := gate k (F69.b_g27 c91 c92 c93 c94 c41 c95 c34 c7 (F69.g35 c91 c92 c93 c94 c41 c95 c34 c7 k ) x2 x5)
def F69.g42 (c91 : F91.E) (c92 : F92.E) (c93 : F93.E) (c94 : F94.E) (c41 : F41.E) (c95 : F95.E) (c34 : F34.E) (c7 : F7.E) (k : Nat)  (x5 : X_Object) : Option (Bool) := gate k (F69.b_g42 c91 c92 c93 c94 c41 c95 c34 c7  x5)
def F69.g44 (c91 : F91.E) (c92 : F92.E) (c93 : F93.E) (c94 : F94.E) (c41 : F41.E) (c95 : F95.E) (c34 : F34.E) (c7 : F7.E) (k : Nat)  (x5 : X_Object) : Option (Bool) := gate k (F69.b_g44 c91 c92 c93 c94 c41 c95 c34 c7  x5)
def F69.g39 (c91 : F91.E) (c92 : F92.E) (c93 : F93.E) (c94 : F94.E) (c41 : F41.E) (c95 : F95.E) (c34 : F34.E) (c7 : F7.E) (k : Nat)  (x5 : X_Object) (x14 : X_Object) : Option (Bool) := gate k (F69.b_g39 c91 c92 c93 c94 c41 c95 c34 c7  x5 x14)
def F69.g37 (c91 : F91.E) (c92 : F92.E) (c93 : F93.E) (c94 : F94.E) (c41 : F41.E) (c95 : F95.E) (c34 : F34.E) (c7 : F7.E) (k : Nat)  (x2 : List X_Object) (x5 : X_Object) : Option (Bool) := gate k (F69.b_g37 c91 c92 c93 c94 c41 c95 c34 c7 (F69.g42 c91 c92 c93 c94 c41 c95 c34 c7 k ) (F69.g44 c91 c92 c93 c94 c41 c95 c34 c7 k ) (F69.g39 c91 c92 c93 c94 c41 c95 c34 c7 k ) x2 x5)
def F69.g47 (c91 : F91.E) (c92 : F92.E) (c93 : F93.E) (c94 : F94.E) (c41 : F41.E) (c95 : F95.E) (c34 : F34.E) (c7 : F7.E) (k : Nat)  (x2 : List X_Object) (x5 : X_Object) : Option (Bool) := gate k (F69.b_g47 c91 c92 c93 c94 c41 c95 c34 c7  x2 x5)
def F69.g50 (c91 : F91.E) (c92 : F92.E) (c93 : F93.E) (c94 : F94.E) (c41 : F41.E) (c95 : F95.E) (c34 : F34.E) (c7 : F7.E) (k : Nat)  (x2 : List X_Object) (x5 : X_Object) : Option (Bool) := gate k (F69.b_g50 c91 c92 c93 c94 c41 c95 c34 c7  x2 x5)
def F69.g52 (c91 : F91.E) (c92 : F92.E) (c93 : F93.E) (c94 : F94.E) (c41 : F41.E) (c95 : F95.E) (c34 : F34.E) (c7 : F7.E) (k : Nat)  (x5 : X_Object) : Option (Bool) := gate k (F69.b_g52 c91 c92 c93 c94 c41 c95 c34 c7  x5)
def F69.f (c91 : F91.E) (c92 : F92.E) (c93 : F93.E) (c94 : F94.E) (c41 : F41.E) (c95 : F95.E) (c34 : F34.E) (c7 : F7.E) (k : Nat) (a0 : List X_Object) (a1 : Int) : Option (Bool) := F69.b c91 c92 c93 c94 c41 c95 c34 c7 (F69.l1 c91 c92 c93 c94 c41 c95 c34 c7 k k) (F69.g15 c91 c92 c93 c94 c41 c95 c34 c7 k) (F69.l3 c91 c92 c93 c94 c41 c95 c34 c7 k k) (F69.g25 c91 c92 c93 c94 c41 c95 c34 c7 k) (F69.g27 c91 c92 c93 c94 c41 c95 c34 c7 k) (F69.g37 c91 c92 c93 c94 c41 c95 c34 c7 k) (F69.g47 c91 c92 c93 c94 c41 c95 c34 c7 k) (F69.g50 c91 c92 c93 c94 c41 c95 c34 c7 k) (F69.g52 c91 c92 c93 c94 c41 c95 c34 c7 k) a0 a1
noncomputable def F69.M_l1 (c91 : F91.E) (c92 : F92.E) (c93 : F93.E) (c94 : F94.E) (c41 : F41.E) (c95 : F95.E) (c34 : F34.E) (c7 : F7.E) (k n : Nat)  (s : St) : Option (Bool) := atLoop (F69.C c91 c92 c93 c94 c41 c95 c34 c7) k n [1, 1, 0, 1, 0, 1, 1, 1, 0, 0, 1, 0] [] F69.code (F69.fin c91 c92 c93 c94 c41 c95 c34 c7) s
noncomputable def F69.fr_l1 (x2 : List X_Object) (x5 : X_Object) (x30 : List (Int)) (x31 : Int) (x32 : Int) : St := ⟨((((((List.replicate 286 V.un).set 2 (V.bp 600002 0 [])).set 5 (V.bp 600005 0 [])).set 30 (V.dat (.sl 3 (.int .i64)) x30)).set 31 (V.dat (.int .i64) x31)).set 32 (V.dat (.int .i64) x32)), [⟨600005, 0, .box (V.dat Y_Object x5)⟩, ⟨600002, 0, .box (V.dat Y_Heap x2)⟩]⟩
noncomputable def F69.M_g15 (c91 : F91.E) (c92 : F92.E) (c93 : F93.E) (c94 : F94.E) (c41 : F41.E) (c95 : F95.E) (c34 : F34.E) (c7 : F7.E) (k : Nat)  (s : St) : Option (Bool) := atGate (F69.C c91 c92 c93 c94 c41 c95 c34 c7) k [1, 1, 0, 1, 0, 1, 1, 1, 1, 1, 0, 0] [] F69.code (F69.fin c91 c92 c93 c94 c41 c95 c34 c7) s
noncomputable def F69.fr_g15 (x2 : List X_Object) (x5 : X_Object) : St := ⟨(((List.replicate 286 V.un).set 2 (V.bp 600002 0 [])).set 5 (V.bp 600005 0 [])), [⟨600005, 0, .box (V.dat Y_Object x5)⟩, ⟨600002, 0, .box (V.dat Y_Heap x2)⟩]⟩
noncomputable def F69.M_l3 (c91 : F91.E) (c92 : F92.E) (c93 : F93.E) (c94 : F94.E) (c41 : F41.E) (c95 : F95.E) (c34 : F34.E) (c7 : F7.E) (k n : Nat)  (s : St) : Option (Bool) := atLoop (F69.C c91 c92 c93 c94 c41 c95 c34 c7) k n [1, 1, 0, 1, 0, 1, 1, 1, 1, 1, 1, 1, 0, 0, 1, 0] [] F69.code (F69.fin c91 c92 c93 c94 c41 c95 c34 c7) s
noncomputable def F69.fr_l3 (x1 : Int) (x2 : List X_Object) (x5 : X_Object) (x64 : List (Int)) (x65 : Int) (x66 : Int) : St := ⟨(((((((List.replicate 286 V.un).set 1 (V.dat (.int .i64) x1)).set 2 (V.bp 600002 0 [])).set 5 (V.bp 600005 0 [])).set 64 (V.dat (.sl 3 (.int .i64)) x64)).set 65 (V.dat (.int .i64) x65)).set 66 (V.dat (.int .i64) x66)), [⟨600005, 0, .box (V.dat Y_Object x5)⟩, ⟨600002, 0, .box (V.dat Y_Heap x2)⟩]⟩
noncomputable def F69.M_g25 (c91 : F91.E) (c92 : F92.E) (c93 : F93.E) (c94 : F94.E) (c41 : F41.E) (c95 : F95.E) (c34 : F34.E) (c7 : F7.E) (k : Nat)  (s : St) : Option (Bool) := atGate (F69.C c91 c92 c93 c94 c41 c95 c34 c7) k [1, 1, 0, 1, 0, 1, 1, 1, 1, 1, 1, 1, 1, 1, 0, 0] [] F69.code (F69.fin c91 c92 c93 c94 c41 c95 c34 c7) s
noncomputable def F69.fr_g25 (x1 : Int) (x2 : List X_Object) (x5 : X_Object) : St := ⟨((((List.replicate 286 V.un).set 1 (V.dat (.int .i64) x1)).set 2 (V.bp 600002 0 [])).set 5 (V.bp 600005 0 [])), [⟨600005, 0, .box (V.dat Y_Object x5)⟩, ⟨600002, 0, .box (V.dat Y_Heap x2)⟩]⟩
noncomputable def F69.M_g27 (c91 : F91.E) (c92 : F92.E) (c93 : F93.E) (c94 : F94.E) (c41 : F41.E) (c95 : F95.E) (c34 : F34.E) (c7 : F7.E) (k : Nat)  (s : St) : Option (Bool) := atGate (F69.C c91 c92 c93 c94 c41 c95 c34 c7) k [1, 1, 0, 1, 0, 1, 1, 1, 1, 1, 1, 1, 1, 1, 1, 1, 0, 0] [] F69.code (F69.fin c91 c92 c93 c94 c41 c95 c34 c7) s
noncomputable def F69.fr_g27 (x2 : List X_Object) (x5 : X_Object) : St := ⟨(((List.replicate 286 V.un).set 2 (V.bp 600002 0 [])).set 5 (V.bp 600005 0 [])), [⟨600005, 0, .box (V.dat Y_Object x5)⟩, ⟨600002, 0, .box (V.dat Y_Heap x2)⟩]⟩
noncomputable def F69.M_g35 (c91 : F91.E) (c92 : F92.E) (c93 : F93.E) (c94 : F94.E) (c41 : F41.E) (c95 : F95.E) (c34 : F34.E) (c7 : F7.E) (k : Nat)  (s : St) : Option (Bool) := atGate (F69.C c91 c92 c93 c94 c41 c95 c34 c7) k [1, 1, 0, 1, 0, 1, 1, 1, 1, 1, 1, 1, 1, 1, 1, 1, 0, 1, 1, 1, 0] [] F69.code (F69.fin c91 c92 c93 c94 c41 c95 c34 c7) s
noncomputable def F69.fr_g35 (x2 : List X_Object) (x10 : X_Value) (x12 : Int) : St := ⟨((((List.replicate 286 V.un).set 2 (V.bp 600002 0 [])).set 10 (V.bp 600010 0 [])).set 12 (V.dat (.int .i64) x12)), [⟨600010, 0, .box (V.dat Y_Value x10)⟩, ⟨600002, 0, .box (V.dat Y_Heap x2)⟩]⟩
noncomputable def F69.M_g37 (c91 : F91.E) (c92 : F92.E) (c93 : F93.E) (c94 : F94.E) (c41 : F41.E) (c95 : F95.E) (c34 : F34.E) (c7 : F7.E) (k : Nat)  (s : St) : Option (Bool) := atGate (F69.C c91 c92 c93 c94 c41 c95 c34 c7) k [1, 1, 0, 1, 0, 1, 1, 1, 1, 1, 1, 1, 1, 1, 1, 1, 1, 1, 0, 0] [] F69.code (F69.fin c91 c92 c93 c94 c41 c95 c34 c7) s
noncomputable def F69.fr_g37 (x2 : List X_Object) (x5 : X_Object) : St := ⟨(((List.replicate 286 V.un).set 2 (V.bp 600002 0 [])).set 5 (V.bp 600005 0 [])), [⟨600005, 0, .box (V.dat Y_Object x5)⟩, ⟨600002, 0, .box (V.dat Y_Heap x2)⟩]⟩
noncomputable def F69.M_g42 (c91 : F91.E) (c92 : F92.E) (c93 : F93.E) (c94 : F94.E) (c41 : F41.E) (c95 : F95.E) (c34 : F34.E) (c7 : F7.E) (k : Nat)  (s : St) : Option (Bool) := atGate (F69.C c91 c92 c93 c94 c41 c95 c34 c7) k [1, 1, 0, 1, 0, 1, 1, 1, 1, 1, 1, 1, 1, 1, 1, 1, 1, 1, 0, 1, 1, 0, 1, 0, 0] [] F69.code (F69.fin c91 c92 c93 c94 c41 c95 c34 c7) s
noncomputable def F69.fr_g42 (x5 : X_Object) : St := ⟨((List.replicate 286 V.un).set 5 (V.bp 600005 0 [])), [⟨600005, 0, .box (V.dat Y_Object x5)⟩]⟩
noncomputable def F69.M_g44 (c91 : F91.E) (c92 : F92.E) (c93 : F93.E) (c94 : F94.E) (c41 : F41.E) (c95 : F95.E) (c34 : F34.E) (c7 : F7.E) (k : Nat)  (s : St) : Option (Bool) := atGate (F69.C c91 c92 c93 c94 c41 c95 c34 c7) k [1, 1, 0, 1, 0, 1, 1, 1, 1, 1, 1, 1, 1, 1, 1, 1, 1, 1, 0, 1, 1, 0, 1, 1, 1, 0, 0] [] F69.code (F69.fin c91 c92 c93 c94 c41 c95 c34 c7) s
noncomputable def F69.fr_g44 (x5 : X_Object) : St := ⟨((List.replicate 286 V.un).set 5 (V.bp 600005 0 [])), [⟨600005, 0, .box (V.dat Y_Object x5)⟩]⟩
noncomputable def F69.M_g39 (c91 : F91.E) (c92 : F92.E) (c93 : F93.E) (c94 : F94.E) (c41 : F41.E) (c95 : F95.E) (c34 : F34.E) (c7 : F7.E) (k : Nat)  (s : St) : Option (Bool) := atGate (F69.C c91 c92 c93 c94 c41 c95 c34 c7) k [1, 1, 0, 1, 0, 1, 1, 1, 1, 1, 1, 1, 1, 1, 1, 1, 1, 1, 0, 1, 1, 0, 1, 1, 1, 1, 0] [] F69.code (F69.fin c91 c92 c93 c94 c41 c95 c34 c7) s
noncomputable def F69.fr_g39 (x5 : X_Object) (x14 : X_Object) : St := ⟨(((List.replicate 286 V.un).set 5 (V.bp 600005 0 [])).set 14 (V.bp 600014 0 [])), [⟨600014, 0, .box (V.dat Y_Object x14)⟩, ⟨600005, 0, .box (V.dat Y_Object x5)⟩]⟩
noncomputable def F69.M_g47 (c91 : F91.E) (c92 : F92.E) (c93 : F93.E) (c94 : F94.E) (c41 : F41.E) (c95 : F95.E) (c34 : F34.E) (c7 : F7.E) (k : Nat)  (s : St) : Option (Bool) := atGate (F69.C c91 c92 c93 c94 c41 c95 c34 c7) k [1, 1, 0, 1, 0, 1, 1, 1, 1, 1, 1, 1, 1, 1, 1, 1, 1, 1, 1, 1, 0, 1, 0, 0] [] F69.code (F69.fin c91 c92 c93 c94 c41 c95 c34 c7) s
noncomputable def F69.fr_g47 (x2 : List X_Object) (x5 : X_Object) : St := ⟨(((List.replicate 286 V.un).set 2 (V.bp 600002 0 [])).set 5 (V.bp 600005 0 [])), [⟨600005, 0, .box (V.dat Y_Object x5)⟩, ⟨600002, 0, .box (V.dat Y_Heap x2)⟩]⟩
noncomputable def F69.M_g50 (c91 : F91.E) (c92 : F92.E) (c93 : F93.E) (c94 : F94.E) (c41 : F41.E) (c95 : F95.E) (c34 : F34.E) (c7 : F7.E) (k : Nat)  (s : St) : Option (Bool) := atGate (F69.C c91 c92 c93 c94 c41 c95 c34 c7) k [1, 1, 0, 1, 0, 1, 1, 1, 1, 1, 1, 1, 1, 1, 1, 1, 1, 1, 1, 1, 1, 1, 0, 0] [] F69.code (F69.fin c91 c92 c93 c94 c41 c95 c34 c7) s
noncomputable def F69.fr_g50 (x2 : List X_Object) (x5 : X_Object) : St := ⟨(((List.replicate 286 V.un).set 2 (V.bp 600002 0 [])).set 5 (V.bp 600005 0 [])), [⟨600005, 0, .box (V.dat Y_Object x5)⟩, ⟨600002, 0, .box (V.dat Y_Heap x2)⟩]⟩
noncomputable def F69.M_g52 (c91 : F91.E) (c92 : F92.E) (c93 : F93.E) (c94 : F94.E) (c41 : F41.E) (c95 : F95.E) (c34 : F34.E) (c7 : F7.E) (k : Nat)  (s : St) : Option (Bool) := atGate (F69.C c91 c92 c93 c94 c41 c95 c34 c7) k [1, 1, 0, 1, 0, 1, 1, 1, 1, 1, 1, 1, 1, 1, 1, 1, 1, 1, 1, 1, 1, 1, 1, 1, 0, 0] [] F69.code (F69.fin c91 c92 c93 c94 c41 c95 c34 c7) s
noncomputable def F69.fr_g52 (x5 : X_Object) : St := ⟨((List.replicate 286 V.un).set 5 (V.bp 600005 0 [])), [⟨600005, 0, .box (V.dat Y_Object x5)⟩]⟩
theorem F69.r (c91 : F91.E) (c92 : F92.E) (c93 : F93.E) (c94 : F94.E) (c41 : F41.E) (c95 : F95.E) (c34 : F34.E) (c7 : F7.E) (k : Nat) (a0 : List X_Object) (a1 : Int) : fn (F69.C c91 c92 c93 c94 c41 c95 c34 c7) k Tryz.f69 F69.A F69.R (a0, a1) = F69.b c91 c92 c93 c94 c41 c95 c34 c7 (fun x2 x5 x30 x31 x32 => F69.M_l1 c91 c92 c93 c94 c41 c95 c34 c7 k k  (F69.fr_l1 x2 x5 x30 x31 x32)) (fun x2 x5 => F69.M_g15 c91 c92 c93 c94 c41 c95 c34 c7 k   (F69.fr_g15 x2 x5)) (fun x1 x2 x5 x64 x65 x66 => F69.M_l3 c91 c92 c93 c94 c41 c95 c34 c7 k k  (F69.fr_l3 x1 x2 x5 x64 x65 x66)) (fun x1 x2 x5 => F69.M_g25 c91 c92 c93 c94 c41 c95 c34 c7 k   (F69.fr_g25 x1 x2 x5)) (fun x2 x5 => F69.M_g27 c91 c92 c93 c94 c41 c95 c34 c7 k   (F69.fr_g27 x2 x5)) (fun x2 x5 => F69.M_g37 c91 c92 c93 c94 c41 c95 c34 c7 k   (F69.fr_g37 x2 x5)) (fun x2 x5 => F69.M_g47 c91 c92 c93 c94 c41 c95 c34 c7 k   (F69.fr_g47 x2 x5)) (fun x2 x5 => F69.M_g50 c91 c92 c93 c94 c41 c95 c34 c7 k   (F69.fr_g50 x2 x5)) (fun x5 => F69.M_g52 c91 c92 c93 c94 c41 c95 c34 c7 k   (F69.fr_g52 x5)) a0 a1 := by kernel_rfl
theorem F69.z_l1 (c91 : F91.E) (c92 : F92.E) (c93 : F93.E) (c94 : F94.E) (c41 : F41.E) (c95 : F95.E) (c34 : F34.E) (c7 : F7.E) (k : Nat)  (s : St) : F69.M_l1 c91 c92 c93 c94 c41 c95 c34 c7 k 0  s = none := by kernel_rfl
theorem F69.r_l1 (c91 : F91.E) (c92 : F92.E) (c93 : F93.E) (c94 : F94.E) (c41 : F41.E) (c95 : F95.E) (c34 : F34.E) (c7 : F7.E) (k n : Nat)  (x2 : List X_Object) (x5 : X_Object) (x30 : List (Int)) (x31 : Int) (x32 : Int) : F69.M_l1 c91 c92 c93 c94 c41 c95 c34 c7 k (n + 1)  (F69.fr_l1 x2 x5 x30 x31 x32) = F69.b_l1 c91 c92 c93 c94 c41 c95 c34 c7 (fun x2 x5 x30 x31 x32 => F69.M_l1 c91 c92 c93 c94 c41 c95 c34 c7 k n  (F69.fr_l1 x2 x5 x30 x31 x32)) x2 x5 x30 x31 x32 := by kernel_rfl
theorem F69.r_g15 (c91 : F91.E) (c92 : F92.E) (c93 : F93.E) (c94 : F94.E) (c41 : F41.E) (c95 : F95.E) (c34 : F34.E) (c7 : F7.E) (k : Nat)  (x2 : List X_Object) (x5 : X_Object) : F69.M_g15 c91 c92 c93 c94 c41 c95 c34 c7 k  (F69.fr_g15 x2 x5) = gate k (F69.b_g15 c91 c92 c93 c94 c41 c95 c34 c7  x2 x5) := by kernel_rfl
theorem F69.z_l3 (c91 : F91.E) (c92 : F92.E) (c93 : F93.E) (c94 : F94.E) (c41 : F41.E) (c95 : F95.E) (c34 : F34.E) (c7 : F7.E) (k : Nat)  (s : St) : F69.M_l3 c91 c92 c93 c94 c41 c95 c34 c7 k 0  s = none := by kernel_rfl
theorem F69.r_l3 (c91 : F91.E) (c92 : F92.E) (c93 : F93.E) (c94 : F94.E) (c41 : F41.E) (c95 : F95.E) (c34 : F34.E) (c7 : F7.E) (k n : Nat)  (x1 : Int) (x2 : List X_Object) (x5 : X_Object) (x64 : List (Int)) (x65 : Int) (x66 : Int) : F69.M_l3 c91 c92 c93 c94 c41 c95 c34 c7 k (n + 1)  (F69.fr_l3 x1 x2 x5 x64 x65 x66) = F69.b_l3 c91 c92 c93 c94 c41 c95 c34 c7 (fun x1 x2 x5 x64 x65 x66 => F69.M_l3 c91 c92 c93 c94 c41 c95 c34 c7 k n  (F69.fr_l3 x1 x2 x5 x64 x65 x66)) x1 x2 x5 x64 x65 x66 := by kernel_rfl
theorem F69.r_g25 (c91 : F91.E) (c92 : F92.E) (c93 : F93.E) (c94 : F94.E) (c41 : F41.E) (c95 : F95.E) (c34 : F34.E) (c7 : F7.E) (k : Nat)  (x1 : Int) (x2 : List X_Object) (x5 : X_Object) : F69.M_g25 c91 c92 c93 c94 c41 c95 c34 c7 k  (F69.fr_g25 x1 x2 x5) = gate k (F69.b_g25 c91 c92 c93 c94 c41 c95 c34 c7  x1 x2 x5) := by kernel_rfl
theorem F69.r_g27 (c91 : F91.E) (c92 : F92.E) (c93 : F93.E) (c94 : F94.E) (c41 : F41.E) (c95 : F95.E) (c34 : F34.E) (c7 : F7.E) (k : Nat)  (x2 : List X_Object) (x5 : X_Object) : F69.M_g27 c91 c92 c93 c94 c41 c95 c34 c7 k  (F69.fr_g27 x2 x5) = gate k (F69.b_g27 c91 c92 c93 c94 c41 c95 c34 c7 (fun x2 x10 x12 => F69.M_g35 c91 c92 c93 c94 c41 c95 c34 c7 k   (F69.fr_g35 x2 x10 x12)) x2 x5) := by kernel_rfl
theorem F69.r_g35 (c91 : F91.E) (c92 : F92.E) (c93 : F93.E) (c94 : F94.E) (c41 : F41.E) (c95 : F95.E) (c34 : F34.E) (c7 : F7.E) (k : Nat)  (x2 : List X_Object) (x10 : X_Value) (x12 : Int) : F69.M_g35 c91 c92 c93 c94 c41 c95 c34 c7 k  (F69.fr_g35 x2 x10 x12) = gate k (F69.b_g35 c91 c92 c93 c94 c41 c95 c34 c7  x2 x10 x12) := by kernel_rfl
theorem F69.r_g37 (c91 : F91.E) (c92 : F92.E) (c93 : F93.E) (c94 : F94.E) (c41 : F41.E) (c95 : F95.E) (c34 : F34.E) (c7 : F7.E) (k : Nat)  (x2 : List X_Object) (x5 : X_Object) : F69.M_g37 c91 c92 c93 c94 c41 c95 c34 c7 k  (F69.fr_g37 x2 x5) = gate k (F69.b_g37 c91 c92 c93 c94 c41 c95 c34 c7 (fun x5 => F69.M_g42 c91 c92 c93 c94 c41 c95 c34 c7 k   (F69.fr_g42 x5)) (fun x5 => F69.M_g44 c91 c92 c93 c94 c41 c95 c34 c7 k   (F69.fr_g44 x5)) (fun x5 x14 => F69.M_g39 c91 c92 c93 c94 c41 c95 c34 c7 k   (F69.fr_g39 x5 x14)) x2 x5) := by kernel_rfl
theorem F69.r_g42 (c91 : F91.E) (c92 : F92.E) (c93 : F93.E) (c94 : F94.E) (c41 : F41.E) (c95 : F95.E) (c34 : F34.E) (c7 : F7.E) (k : Nat)  (x5 : X_Object) : F69.M_g42 c91 c92 c93 c94 c41 c95 c34 c7 k  (F69.fr_g42 x5) = gate k (F69.b_g42 c91 c92 c93 c94 c41 c95 c34 c7  x5) := by kernel_rfl
theorem F69.r_g44 (c91 : F91.E) (c92 : F92.E) (c93 : F93.E) (c94 : F94.E) (c41 : F41.E) (c95 : F95.E) (c34 : F34.E) (c7 : F7.E) (k : Nat)  (x5 : X_Object) : F69.M_g44 c91 c92 c93 c94 c41 c95 c34 c7 k  (F69.fr_g44 x5) = gate k (F69.b_g44 c91 c92 c93 c94 c41 c95 c34 c7  x5) := by kernel_rfl
theorem F69.r_g39 (c91 : F91.E) (c92 : F92.E) (c93 : F93.E) (c94 : F94.E) (c41 : F41.E) (c95 : F95.E) (c34 : F34.E) (c7 : F7.E) (k : Nat)  (x5 : X_Object) (x14 : X_Object) : F69.M_g39 c91 c92 c93 c94 c41 c95 c34 c7 k  (F69.fr_g39 x5 x14) = gate k (F69.b_g39 c91 c92 c93 c94 c41 c95 c34 c7  x5 x14) := by kernel_rfl
theorem F69.r_g47 (c91 : F91.E) (c92 : F92.E) (c93 : F93.E) (c94 : F94.E) (c41 : F41.E) (c95 : F95.E) (c34 : F34.E) (c7 : F7.E) (k : Nat)  (x2 : List X_Object) (x5 : X_Object) : F69.M_g47 c91 c92 c93 c94 c41 c95 c34 c7 k  (F69.fr_g47 x2 x5) = gate k (F69.b_g47 c91 c92 c93 c94 c41 c95 c34 c7  x2 x5) := by kernel_rfl
theorem F69.r_g50 (c91 : F91.E) (c92 : F92.E) (c93 : F93.E) (c94 : F94.E) (c41 : F41.E) (c95 : F95.E) (c34 : F34.E) (c7 : F7.E) (k : Nat)  (x2 : List X_Object) (x5 : X_Object) : F69.M_g50 c91 c92 c93 c94 c41 c95 c34 c7 k  (F69.fr_g50 x2 x5) = gate k (F69.b_g50 c91 c92 c93 c94 c41 c95 c34 c7  x2 x5) := by kernel_rfl
theorem F69.r_g52 (c91 : F91.E) (c92 : F92.E) (c93 : F93.E) (c94 : F94.E) (c41 : F41.E) (c95 : F95.E) (c34 : F34.E) (c7 : F7.E) (k : Nat)  (x5 : X_Object) : F69.M_g52 c91 c92 c93 c94 c41 c95 c34 c7 k  (F69.fr_g52 x5) = gate k (F69.b_g52 c91 c92 c93 c94 c41 c95 c34 c7  x5) := by kernel_rfl
theorem F69.e_l1 (c91 : F91.E) (c92 : F92.E) (c93 : F93.E) (c94 : F94.E) (c41 : F41.E) (c95 : F95.E) (c34 : F34.E) (c7 : F7.E) (k n : Nat)  (x2 : List X_Object) (x5 : X_Object) (x30 : List (Int)) (x31 : Int) (x32 : Int) : F69.M_l1 c91 c92 c93 c94 c41 c95 c34 c7 k n  (F69.fr_l1 x2 x5 x30 x31 x32) = F69.l1 c91 c92 c93 c94 c41 c95 c34 c7 k  n x2 x5 x30 x31 x32 := by
  induction n generalizing x2 x5 x30 x31 x32 with
  | zero => rw [F69.z_l1]; rfl
  | succ n ih =>
    rw [F69.r_l1]
    simp only [ih]
    rfl
theorem F69.e_g15 (c91 : F91.E) (c92 : F92.E) (c93 : F93.E) (c94 : F94.E) (c41 : F41.E) (c95 : F95.E) (c34 : F34.E) (c7 : F7.E) (k : Nat)  (x2 : List X_Object) (x5 : X_Object) : F69.M_g15 c91 c92 c93 c94 c41 c95 c34 c7 k  (F69.fr_g15 x2 x5) = F69.g15 c91 c92 c93 c94 c41 c95 c34 c7 k  x2 x5 := by
  rw [F69.r_g15]
  rfl
theorem F69.e_l3 (c91 : F91.E) (c92 : F92.E) (c93 : F93.E) (c94 : F94.E) (c41 : F41.E) (c95 : F95.E) (c34 : F34.E) (c7 : F7.E) (k n : Nat)  (x1 : Int) (x2 : List X_Object) (x5 : X_Object) (x64 : List (Int)) (x65 : Int) (x66 : Int) : F69.M_l3 c91 c92 c93 c94 c41 c95 c34 c7 k n  (F69.fr_l3 x1 x2 x5 x64 x65 x66) = F69.l3 c91 c92 c93 c94 c41 c95 c34 c7 k  n x1 x2 x5 x64 x65 x66 := by
  induction n generalizing x1 x2 x5 x64 x65 x66 with
  | zero => rw [F69.z_l3]; rfl
  | succ n ih =>
    rw [F69.r_l3]
    simp only [ih]
    rfl
theorem F69.e_g25 (c91 : F91.E) (c92 : F92.E) (c93 : F93.E) (c94 : F94.E) (c41 : F41.E) (c95 : F95.E) (c34 : F34.E) (c7 : F7.E) (k : Nat)  (x1 : Int) (x2 : List X_Object) (x5 : X_Object) : F69.M_g25 c91 c92 c93 c94 c41 c95 c34 c7 k  (F69.fr_g25 x1 x2 x5) = F69.g25 c91 c92 c93 c94 c41 c95 c34 c7 k  x1 x2 x5 := by
  rw [F69.r_g25]
  rfl
theorem F69.e_g35 (c91 : F91.E) (c92 : F92.E) (c93 : F93.E) (c94 : F94.E) (c41 : F41.E) (c95 : F95.E) (c34 : F34.E) (c7 : F7.E) (k : Nat)  (x2 : List X_Object) (x10 : X_Value) (x12 : Int) : F69.M_g35 c91 c92 c93 c94 c41 c95 c34 c7 k  (F69.fr_g35 x2 x10 x12) = F69.g35 c91 c92 c93 c94 c41 c95 c34 c7 k  x2 x10 x12 := by
  rw [F69.r_g35]
  rfl
theorem F69.e_g27 (c91 : F91.E) (c92 : F92.E) (c93 : F93.E) (c94 : F94.E) (c41 : F41.E) (c95 : F95.E) (c34 : F34.E) (c7 : F7.E) (k : Nat)  (x2 : List X_Object) (x5 : X_Object) : F69.M_g27 c91 c92 c93 c94 c41 c95 c34 c7 k  (F69.fr_g27 x2 x5) = F69.g27 c91 c92 c93 c94 c41 c95 c34 c7 k  x2 x5 := by
  rw [F69.r_g27]
  simp only [F69.e_g35]
  rfl
theorem F69.e_g42 (c91 : F91.E) (c92 : F92.E) (c93 : F93.E) (c94 : F94.E) (c41 : F41.E) (c95 : F95.E) (c34 : F34.E) (c7 : F7.E) (k : Nat)  (x5 : X_Object) : F69.M_g42 c91 c92 c93 c94 c41 c95 c34 c7 k  (F69.fr_g42 x5) = F69.g42 c91 c92 c93 c94 c41 c95 c34 c7 k  x5 := by
  rw [F69.r_g42]
  rfl
theorem F69.e_g44 (c91 : F91.E) (c92 : F92.E) (c93 : F93.E) (c94 : F94.E) (c41 : F41.E) (c95 : F95.E) (c34 : F34.E) (c7 : F7.E) (k : Nat)  (x5 : X_Object) : F69.M_g44 c91 c92 c93 c94 c41 c95 c34 c7 k  (F69.fr_g44 x5) = F69.g44 c91 c92 c93 c94 c41 c95 c34 c7 k  x5 := by
  rw [F69.r_g44]
  rfl
theorem F69.e_g39 (c91 : F91.E) (c92 : F92.E) (c93 : F93.E) (c94 : F94.E) (c41 : F41.E) (c95 : F95.E) (c34 : F34.E) (c7 : F7.E) (k : Nat)  (x5 : X_Object) (x14 : X_Object) : F69.M_g39 c91 c92 c93 c94 c41 c95 c34 c7 k  (F69.fr_g39 x5 x14) = F69.g39 c91 c92 c93 c94 c41 c95 c34 c7 k  x5 x14 := by
  rw [F69.r_g39]
  rfl
theorem F69.e_g37 (c91 : F91.E) (c92 : F92.E) (c93 : F93.E) (c94 : F94.E) (c41 : F41.E) (c95 : F95.E) (c34 : F34.E) (c7 : F7.E) (k : Nat)  (x2 : List X_Object) (x5 : X_Object) : F69.M_g37 c91 c92 c93 c94 c41 c95 c34 c7 k  (F69.fr_g37 x2 x5) = F69.g37 c91 c92 c93 c94 c41 c95 c34 c7 k  x2 x5 := by
  rw [F69.r_g37]
  simp only [F69.e_g39, F69.e_g42, F69.e_g44]
  rfl
theorem F69.e_g47 (c91 : F91.E) (c92 : F92.E) (c93 : F93.E) (c94 : F94.E) (c41 : F41.E) (c95 : F95.E) (c34 : F34.E) (c7 : F7.E) (k : Nat)  (x2 : List X_Object) (x5 : X_Object) : F69.M_g47 c91 c92 c93 c94 c41 c95 c34 c7 k  (F69.fr_g47 x2 x5) = F69.g47 c91 c92 c93 c94 c41 c95 c34 c7 k  x2 x5 := by
  rw [F69.r_g47]
  rfl
theorem F69.e_g50 (c91 : F91.E) (c92 : F92.E) (c93 : F93.E) (c94 : F94.E) (c41 : F41.E) (c95 : F95.E) (c34 : F34.E) (c7 : F7.E) (k : Nat)  (x2 : List X_Object) (x5 : X_Object) : F69.M_g50 c91 c92 c93 c94 c41 c95 c34 c7 k  (F69.fr_g50 x2 x5) = F69.g50 c91 c92 c93 c94 c41 c95 c34 c7 k  x2 x5 := by
  rw [F69.r_g50]
  rfl
theorem F69.e_g52 (c91 : F91.E) (c92 : F92.E) (c93 : F93.E) (c94 : F94.E) (c41 : F41.E) (c95 : F95.E) (c34 : F34.E) (c7 : F7.E) (k : Nat)  (x5 : X_Object) : F69.M_g52 c91 c92 c93 c94 c41 c95 c34 c7 k  (F69.fr_g52 x5) = F69.g52 c91 c92 c93 c94 c41 c95 c34 c7 k  x5 := by
  rw [F69.r_g52]
  rfl
theorem F69.e (c91 : F91.E) (c92 : F92.E) (c93 : F93.E) (c94 : F94.E) (c41 : F41.E) (c95 : F95.E) (c34 : F34.E) (c7 : F7.E) (k : Nat) (a0 : List X_Object) (a1 : Int) : fn (F69.C c91 c92 c93 c94 c41 c95 c34 c7) k Tryz.f69 F69.A F69.R (a0, a1) = F69.f c91 c92 c93 c94 c41 c95 c34 c7 k a0 a1 := by
  rw [F69.r]
  simp only [F69.e_g15, F69.e_g25, F69.e_g27, F69.e_g37, F69.e_g47, F69.e_g50, F69.e_g52, F69.e_l1, F69.e_l3]
  rfl
theorem F69.ty (c91 : F91.E) (c92 : F92.E) (c93 : F93.E) (c94 : F94.E) (c41 : F41.E) (c95 : F95.E) (c34 : F34.E) (c7 : F7.E) : TyOk Tryz.prog (F69.C c91 c92 c93 c94 c41 c95 c34 c7) := tyOk_of (by kernel_rfl)
def F69.u (k : Nat) : F69.E := fun y => F69.f (F91.u k) (F92.u k) (F93.u k) (F94.u k) (F41.u k) (F95.u k) (F34.u k) (F7.u k) k y.1 y.2
theorem F69.sound (k : Nat) : Sound Tryz.prog ⟨69, F69.A, F69.R, F69.u k⟩ := by
  have h := fn_sound (k := k) («as» := F69.A) (rs := F69.R) (F69.ty (F91.u k) (F92.u k) (F93.u k) (F94.u k) (F41.u k) (F95.u k) (F34.u k) (F7.u k)) (fun E h => by
    simp only [F69.C, List.mem_cons, List.not_mem_nil, or_false] at h
    rcases h with rfl | rfl | rfl | rfl | rfl | rfl | rfl | rfl
    · exact F91.sound k
    · exact F92.sound k
    · exact F93.sound k
    · exact F94.sound k
    · exact F41.sound k
    · exact F95.sound k
    · exact F34.sound k
    · exact F7.sound k) mixed Tryz.func69 (by kernel_rfl) (by kernel_rfl)
  have e : fn (F69.C (F91.u k) (F92.u k) (F93.u k) (F94.u k) (F41.u k) (F95.u k) (F34.u k) (F7.u k)) k Tryz.f69 F69.A F69.R = F69.u k := by
    funext y
    exact F69.e (F91.u k) (F92.u k) (F93.u k) (F94.u k) (F41.u k) (F95.u k) (F34.u k) (F7.u k) k y.1 y.2
  rw [e] at h
  exact h
end
end Go.Ab
