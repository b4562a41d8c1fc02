/- A part of the proof: GT5. -/
import Derived.Test.YtgbihmngjppomaaDoorFTy
import Derived.Test.YtgbihmngjppomaaDoorGT3
import Derived.Test.YtgbihmngjppomaaDoorGT4
namespace Go.Ab
set_option linter.unusedVariables false
set_option linter.unusedSimpArgs false
set_option maxRecDepth 100000
noncomputable section
open Go.Proofs
/-! ### brindlewood/heap.SameValue: f50 -/
abbrev f_heap_SameValue.A : List Sh := [(.d Y_Value), (.d Y_Value)]
abbrev f_heap_SameValue.R : List Sh := [(.d .bool)]
abbrev f_heap_SameValue.E : Type := (X_Value × X_Value) → Option (Bool)
def f_heap_SameValue.C (c90 : f_heap_SameInt.E) : Ctx := { ty := [(3, (.int .i64)), (9, .str), (24, Y_Int), (26, Y_Value)], nf := [(26, 5)], by_ := [], env := [⟨90, f_heap_SameInt.A, f_heap_SameInt.R, c90⟩], spec := [] }
noncomputable def f_heap_SameValue.code : Code := Func.code Tryd.f50
noncomputable def f_heap_SameValue.fin (c90 : f_heap_SameInt.E) := kfin (f_heap_SameValue.C c90) Tryd.f50 f_heap_SameValue.A f_heap_SameValue.R
def f_heap_SameValue.b (c90 : f_heap_SameInt.E)  (a0 : X_Value) (a1 : X_Value) : Option (Bool) :=
  bif (a0.1 == a1.1) then
    (c90 (a0.2.1, a1.2.1)).bind fun y1 =>
      bif y1 then
        (c90 (a0.2.2.1, a1.2.2.1)).bind fun y2 =>
          bif y2 then
            bif (a0.2.2.2.1 == a1.2.2.2.1) then
              some (a0.2.2.2.2 == a1.2.2.2.2)
            else
              some false
          else
            some false
      else
        some false
  else
    some false
def f_heap_SameValue.f (c90 : f_heap_SameInt.E) (k : Nat) (a0 : X_Value) (a1 : X_Value) : Option (Bool) := f_heap_SameValue.b c90  a0 a1
theorem f_heap_SameValue.r (c90 : f_heap_SameInt.E) (k : Nat) (a0 : X_Value) (a1 : X_Value) : fn (f_heap_SameValue.C c90) k Tryd.f50 f_heap_SameValue.A f_heap_SameValue.R (a0, a1) = f_heap_SameValue.b c90  a0 a1 := by kernel_rfl
theorem f_heap_SameValue.e (c90 : f_heap_SameInt.E) (k : Nat) (a0 : X_Value) (a1 : X_Value) : fn (f_heap_SameValue.C c90) k Tryd.f50 f_heap_SameValue.A f_heap_SameValue.R (a0, a1) = f_heap_SameValue.f c90 k a0 a1 := by
  rw [f_heap_SameValue.r]
  rfl
theorem f_heap_SameValue.ty (c90 : f_heap_SameInt.E) : TyOk Tryd.prog (f_heap_SameValue.C c90) := tyOk_of (by kernel_rfl)
def f_heap_SameValue.u (k : Nat) : f_heap_SameValue.E := fun y => f_heap_SameValue.f (f_heap_SameInt.u k) k y.1 y.2
theorem f_heap_SameValue.sound (k : Nat) : Sound Tryd.prog ⟨50, f_heap_SameValue.A, f_heap_SameValue.R, f_heap_SameValue.u k⟩ := by
  have h := fn_sound (k := k) («as» := f_heap_SameValue.A) (rs := f_heap_SameValue.R) (f_heap_SameValue.ty (f_heap_SameInt.u k)) (fun E h => by
    simp only [f_heap_SameValue.C, List.mem_cons, List.not_mem_nil, or_false] at h
    rcases h with rfl
    · exact f_heap_SameInt.sound k) mixed Tryd.func50 (by kernel_rfl) (by kernel_rfl)
  have e : fn (f_heap_SameValue.C (f_heap_SameInt.u k)) k Tryd.f50 f_heap_SameValue.A f_heap_SameValue.R = f_heap_SameValue.u k := by
    funext y
    exact f_heap_SameValue.e (f_heap_SameInt.u k) k y.1 y.2
  rw [e] at h
  exact h
/-! ### slices.EqualFunc[[]brindlewood/api.Value,[]brindlewood/api.Value,brindlewood/api.Value,brindlewood/api.Value]: f51 -/
abbrev sl_EqualFunc_Value.A : List Sh := [(.d (.sl 26 Y_Value)), (.d (.sl 26 Y_Value)), (.fn (.pair Y_Value (.pair Y_Value .unit)) .bool)]
abbrev sl_EqualFunc_Value.R : List Sh := [(.d .bool)]
abbrev sl_EqualFunc_Value.E : Type := ((List X_Value) × ((List X_Value) × ((X_Value × (X_Value × (Unit))) → Option (Bool)))) → Option (Bool)
def sl_EqualFunc_Value.C  : Ctx := { ty := [(3, (.int .i64)), (26, Y_Value), (31, (.sl 26 Y_Value))], nf := [], by_ := [(26, 96)], env := [], spec := [(0, [.d 1 (.sl 26 Y_Value), .cp 2, .d 15 (.sl 26 Y_Value), .d 16 (.int .i64), .d 17 (.int .i64)])] }
noncomputable def sl_EqualFunc_Value.code : Code := Func.code Tryd.f51
noncomputable def sl_EqualFunc_Value.fin  := kfin (sl_EqualFunc_Value.C ) Tryd.f51 sl_EqualFunc_Value.A sl_EqualFunc_Value.R
def sl_EqualFunc_Value.b  (r_l0 : (List X_Value) → ((X_Value × (X_Value × (Unit))) → Option (Bool)) → (List X_Value) → (Int) → (Int) → Option (Bool)) (a0 : List X_Value) (a1 : List X_Value) (a2 : (X_Value × (X_Value × (Unit))) → Option (Bool)) : Option (Bool) :=
  bif (((List.length a0) : Int) != ((List.length a1) : Int)) then
    some false
  else
    r_l0 a1 a2 a0 ((List.length a0) : Int) (0 : Int)
def sl_EqualFunc_Value.b_l0  (n_l0 : (List X_Value) → ((X_Value × (X_Value × (Unit))) → Option (Bool)) → (List X_Value) → (Int) → (Int) → Option (Bool)) (x1 : List X_Value) (x2 : (X_Value × (X_Value × (Unit))) → Option (Bool)) (x15 : List X_Value) (x16 : Int) (x17 : Int) : Option (Bool) :=
  bif (decide (x17 < x16)) then
    if 0 ≤ x17 ∧ x17 < ((List.length x15) : Int) then
      if 0 ≤ x17 ∧ x17 < ((List.length x1) : Int) then
        (x2 ((List.getD x15 (Int.toNat x17) Z_Value), ((List.getD x1 (Int.toNat x17) Z_Value), ()))).bind fun y1 =>
          bif (!y1) then
            some false
          else
            n_l0 x1 x2 x15 x16 (IntKind.i64.wrap (x17 + (1 : Int)))
      else none
    else none
  else
    some true
def sl_EqualFunc_Value.c_l0  (n_l0 : (List X_Value) → ((X_Value × (X_Value × (Unit))) → Option (Bool)) → (List X_Value) → (Int) → (Int) → Option (Bool)) (x1 : List X_Value) (x2 : (X_Value × (X_Value × (Unit))) → Option (Bool)) (x15 : List X_Value) (x16 : Int) (x17 : Int) : Option (Bool) :=
  bif (decide (x17 < x16)) then
    if 0 ≤ x17 ∧ x17 < ((List.length x15) : Int) then
      if 0 ≤ x17 ∧ x17 < ((List.length x1) : Int) then
        (x2 ((List.getD x15 (Int.toNat x17) Z_Value), ((List.getD x1 (Int.toNat x17) Z_Value), ()))).bind fun y1 =>
          bif !y1 then
            some false
          else
            n_l0 x1 x2 x15 x16 (IntKind.i64.wrap (x17 + (1 : Int)))
      else none
    else none
  else
    some true
theorem sl_EqualFunc_Value.q_l0  (n_l0 : (List X_Value) → ((X_Value × (X_Value × (Unit))) → Option (Bool)) → (List X_Value) → (Int) → (Int) → Option (Bool)) (x1 : List X_Value) (x2 : (X_Value × (X_Value × (Unit))) → Option (Bool)) (x15 : List X_Value) (x16 : Int) (x17 : Int) : sl_EqualFunc_Value.b_l0  n_l0 x1 x2 x15 x16 x17 = sl_EqualFunc_Value.c_l0  n_l0 x1 x2 x15 x16 x17 := by
  simp only [sl_EqualFunc_Value.b_l0, sl_EqualFunc_Value.c_l0, List.take_length, take_one, Nat.zero_add, Int.toNat_natCast, Int.toNat_zero, List.drop_zero, List.append_eq, Nat.le_refl, Int.le_refl, true_and, and_true, zero_le_one, if_true, prod_eta, Int.natCast_zero]
def sl_EqualFunc_Value.l0  (k : Nat)  : Nat → (List X_Value) → ((X_Value × (X_Value × (Unit))) → Option (Bool)) → (List X_Value) → (Int) → (Int) → Option (Bool)
  | 0, _, _, _, _, _ => none
  | n + 1, x1, x2, x15, x16, x17 => sl_EqualFunc_Value.b_l0  (fun x1 x2 x15 x16 x17 => sl_EqualFunc_Value.l0  k  n x1 x2 x15 x16 x17) x1 x2 x15 x16 x17
def sl_EqualFunc_Value.f  (k : Nat) (a0 : List X_Value) (a1 : List X_Value) (a2 : (X_Value × (X_Value × (Unit))) → Option (Bool)) : Option (Bool) := sl_EqualFunc_Value.b  (sl_EqualFunc_Value.l0  k k) a0 a1 a2
noncomputable def sl_EqualFunc_Value.M_l0  (k n : Nat)  (s : St) : Option (Bool) := atLoop (sl_EqualFunc_Value.C ) k n [1, 1, 0, 1, 0] [] sl_EqualFunc_Value.code (sl_EqualFunc_Value.fin ) s
noncomputable def sl_EqualFunc_Value.fr_l0 (x1 : List X_Value) (x2 : (X_Value × (X_Value × (Unit))) → Option (Bool)) (x15 : List X_Value) (x16 : Int) (x17 : Int) : St := ⟨((((((List.replicate 32 V.un).set 1 (V.dat (.sl 26 Y_Value) x1)).set 2 (V.fnv (.pair Y_Value (.pair Y_Value .unit)) .bool x2)).set 15 (V.dat (.sl 26 Y_Value) x15)).set 16 (V.dat (.int .i64) x16)).set 17 (V.dat (.int .i64) x17)), []⟩
theorem sl_EqualFunc_Value.r  (k : Nat) (a0 : List X_Value) (a1 : List X_Value) (a2 : (X_Value × (X_Value × (Unit))) → Option (Bool)) : fn (sl_EqualFunc_Value.C ) k Tryd.f51 sl_EqualFunc_Value.A sl_EqualFunc_Value.R (a0, (a1, a2)) = sl_EqualFunc_Value.b  (fun x1 x2 x15 x16 x17 => sl_EqualFunc_Value.M_l0  k k  (sl_EqualFunc_Value.fr_l0 x1 x2 x15 x16 x17)) a0 a1 a2 := by kernel_rfl
theorem sl_EqualFunc_Value.z_l0  (k : Nat)  (s : St) : sl_EqualFunc_Value.M_l0  k 0  s = none := by kernel_rfl
theorem sl_EqualFunc_Value.r_l0  (k n : Nat)  (x1 : List X_Value) (x2 : (X_Value × (X_Value × (Unit))) → Option (Bool)) (x15 : List X_Value) (x16 : Int) (x17 : Int) : sl_EqualFunc_Value.M_l0  k (n + 1)  (sl_EqualFunc_Value.fr_l0 x1 x2 x15 x16 x17) = sl_EqualFunc_Value.b_l0  (fun x1 x2 x15 x16 x17 => sl_EqualFunc_Value.M_l0  k n  (sl_EqualFunc_Value.fr_l0 x1 x2 x15 x16 x17)) x1 x2 x15 x16 x17 := by kernel_rfl
theorem sl_EqualFunc_Value.e_l0  (k n : Nat)  (x1 : List X_Value) (x2 : (X_Value × (X_Value × (Unit))) → Option (Bool)) (x15 : List X_Value) (x16 : Int) (x17 : Int) : sl_EqualFunc_Value.M_l0  k n  (sl_EqualFunc_Value.fr_l0 x1 x2 x15 x16 x17) = sl_EqualFunc_Value.l0  k  n x1 x2 x15 x16 x17 := by
  induction n generalizing x1 x2 x15 x16 x17 with
  | zero => rw [sl_EqualFunc_Value.z_l0]; rfl
  | succ n ih =>
    rw [sl_EqualFunc_Value.r_l0]
    simp only [ih]
    rfl
theorem sl_EqualFunc_Value.e  (k : Nat) (a0 : List X_Value) (a1 : List X_Value) (a2 : (X_Value × (X_Value × (Unit))) → Option (Bool)) : fn (sl_EqualFunc_Value.C ) k Tryd.f51 sl_EqualFunc_Value.A sl_EqualFunc_Value.R (a0, (a1, a2)) = sl_EqualFunc_Value.f  k a0 a1 a2 := by
  rw [sl_EqualFunc_Value.r]
  simp only [sl_EqualFunc_Value.e_l0]
  rfl
theorem sl_EqualFunc_Value.ty  : TyOk Tryd.prog (sl_EqualFunc_Value.C ) := tyOk_of (by kernel_rfl)
def sl_EqualFunc_Value.u (k : Nat) : sl_EqualFunc_Value.E := fun y => sl_EqualFunc_Value.f  k y.1 y.2.1 y.2.2
theorem sl_EqualFunc_Value.sound (k : Nat) : Sound Tryd.prog ⟨51, sl_EqualFunc_Value.A, sl_EqualFunc_Value.R, sl_EqualFunc_Value.u k⟩ := by
  have h := fn_sound (k := k) («as» := sl_EqualFunc_Value.A) (rs := sl_EqualFunc_Value.R) (sl_EqualFunc_Value.ty ) (fun E h => by cases h) mixed Tryd.func51 (by kernel_rfl) (by kernel_rfl)
  have e : fn (sl_EqualFunc_Value.C ) k Tryd.f51 sl_EqualFunc_Value.A sl_EqualFunc_Value.R = sl_EqualFunc_Value.u k := by
    funext y
    exact sl_EqualFunc_Value.e  k y.1 y.2.1 y.2.2
  rw [e] at h
  exact h
/-! ### brindlewood/heap.SameKey$1: f52 -/
abbrev f_heap_SameKey.A : List Sh := [(.d Y_Heap), (.d Y_Value), (.d Y_Value)]
abbrev f_heap_SameKey.R : List Sh := [(.d .bool)]
abbrev f_heap_SameKey.E : Type := ((List X_Object) × (X_Value × X_Value)) → Option (Bool)
abbrev f_heap_SameKey_c1.A : List Sh := [(.d Y_Value), (.d Y_Value), (.pi Y_Heap)]
abbrev f_heap_SameKey_c1.R : List Sh := [(.d .bool)]
abbrev f_heap_SameKey_c1.E : Type := (X_Value × (X_Value × (List X_Object))) → Option (Bool)
def f_heap_SameKey_c1.C (c19 : f_heap_SameKey.E) : Ctx := { ty := [(26, Y_Value), (50, Y_Heap)], nf := [], by_ := [], env := [⟨19, f_heap_SameKey.A, f_heap_SameKey.R, c19⟩], spec := [] }
noncomputable def f_heap_SameKey_c1.code : Code := Func.code Tryd.f52
noncomputable def f_heap_SameKey_c1.fin (c19 : f_heap_SameKey.E) := kfin (f_heap_SameKey_c1.C c19) Tryd.f52 f_heap_SameKey_c1.A f_heap_SameKey_c1.R
def f_heap_SameKey_c1.b (c19 : f_heap_SameKey.E)  (a0 : X_Value) (a1 : X_Value) (a2 : List X_Object) : Option (Bool) :=
  (c19 (a2, (a0, a1))).bind fun y1 =>
    some y1
def f_heap_SameKey_c1.f (c19 : f_heap_SameKey.E) (k : Nat) (a0 : X_Value) (a1 : X_Value) (a2 : List X_Object) : Option (Bool) := f_heap_SameKey_c1.b c19  a0 a1 a2
theorem f_heap_SameKey_c1.r (c19 : f_heap_SameKey.E) (k : Nat) (a0 : X_Value) (a1 : X_Value) (a2 : List X_Object) : fn (f_heap_SameKey_c1.C c19) k Tryd.f52 f_heap_SameKey_c1.A f_heap_SameKey_c1.R (a0, (a1, a2)) = f_heap_SameKey_c1.b c19  a0 a1 a2 := by kernel_rfl
theorem f_heap_SameKey_c1.e (c19 : f_heap_SameKey.E) (k : Nat) (a0 : X_Value) (a1 : X_Value) (a2 : List X_Object) : fn (f_heap_SameKey_c1.C c19) k Tryd.f52 f_heap_SameKey_c1.A f_heap_SameKey_c1.R (a0, (a1, a2)) = f_heap_SameKey_c1.f c19 k a0 a1 a2 := by
  rw [f_heap_SameKey_c1.r]
  rfl
theorem f_heap_SameKey_c1.ty (c19 : f_heap_SameKey.E) : TyOk Tryd.prog (f_heap_SameKey_c1.C c19) := tyOk_of (by kernel_rfl)
def f_heap_SameKey_c1.ur (k : Nat) (g : f_heap_SameKey.E) : f_heap_SameKey_c1.E := fun y => f_heap_SameKey_c1.f g k y.1 y.2.1 y.2.2
theorem f_heap_SameKey_c1.sound_r (k : Nat) (g : f_heap_SameKey.E) (hg : Sound Tryd.prog ⟨19, f_heap_SameKey.A, f_heap_SameKey.R, g⟩) : Sound Tryd.prog ⟨52, f_heap_SameKey_c1.A, f_heap_SameKey_c1.R, f_heap_SameKey_c1.ur k g⟩ := by
  have h := fn_sound (k := k) («as» := f_heap_SameKey_c1.A) (rs := f_heap_SameKey_c1.R) (f_heap_SameKey_c1.ty g) (fun E h => by
    simp only [f_heap_SameKey_c1.C, List.mem_cons, List.not_mem_nil, or_false] at h
    rcases h with rfl
    · exact hg) mixed Tryd.func52 (by kernel_rfl) (by kernel_rfl)
  have e : fn (f_heap_SameKey_c1.C g) k Tryd.f52 f_heap_SameKey_c1.A f_heap_SameKey_c1.R = f_heap_SameKey_c1.ur k g := by
    funext y
    exact f_heap_SameKey_c1.e g k y.1 y.2.1 y.2.2
  rw [e] at h
  exact h
/-! ### brindlewood/heap.SameKey: f19 -/
def f_heap_SameKey.C (c50 : f_heap_SameValue.E) (c51 : sl_EqualFunc_Value.E) (c52 : f_heap_SameKey_c1.E) : Ctx := { ty := [(3, (.int .i64)), (26, Y_Value), (31, (.sl 26 Y_Value)), (48, (.sl 88 Y_Object)), (50, Y_Heap), (88, Y_Object)], nf := [(26, 5), (50, 1), (88, 10)], by_ := [(26, 96), (88, 168)], env := [⟨50, f_heap_SameValue.A, f_heap_SameValue.R, c50⟩, ⟨51, sl_EqualFunc_Value.A, sl_EqualFunc_Value.R, c51⟩, ⟨52, f_heap_SameKey_c1.A, f_heap_SameKey_c1.R, c52⟩], spec := [] }
noncomputable def f_heap_SameKey.code : Code := Func.code Tryd.f19
noncomputable def f_heap_SameKey.fin (c50 : f_heap_SameValue.E) (c51 : sl_EqualFunc_Value.E) (c52 : f_heap_SameKey_c1.E) := kfin (f_heap_SameKey.C c50 c51 c52) Tryd.f19 f_heap_SameKey.A f_heap_SameKey.R
def f_heap_SameKey.b (c50 : f_heap_SameValue.E) (c51 : sl_EqualFunc_Value.E) (c52 : f_heap_SameKey_c1.E)  (a0 : List X_Object) (a1 : X_Value) (a2 : X_Value) : Option (Bool) :=
  bif (a1.1 != (6 : Int)) then
    (c50 (a1, a2)).bind fun y1 =>
      some y1
  else
    bif (a2.1 != (6 : Int)) then
      (c50 (a1, a2)).bind fun y2 =>
        some y2
    else
      bif (a1.2.2.2.2 == a2.2.2.2.2) then
        some true
      else
        if 0 ≤ a1.2.2.2.2 ∧ a1.2.2.2.2 < ((List.length a0) : Int) then
          if 0 ≤ a2.2.2.2.2 ∧ a2.2.2.2.2 < ((List.length a0) : Int) then
            bif (((List.getD a0 (Int.toNat a1.2.2.2.2) Z_Object).1) == (1 : Int)) then
              bif (((List.getD a0 (Int.toNat a2.2.2.2.2) Z_Object).1) == (1 : Int)) then
                (c51 ((((((((List.getD a0 (Int.toNat a1.2.2.2.2) Z_Object).2).2).2).2).2).2).1, ((((((((List.getD a0 (Int.toNat a2.2.2.2.2) Z_Object).2).2).2).2).2).2).1, (fun z3 => (c52 (z3.1, (z3.2.1, a0))).bind some)))).bind fun y4 =>
                  some y4
              else
                some false
            else
              some false
          else none
        else none
def f_heap_SameKey.c (c50 : f_heap_SameValue.E) (c51 : sl_EqualFunc_Value.E) (c52 : f_heap_SameKey_c1.E)  (a0 : List X_Object) (a1 : X_Value) (a2 : X_Value) : Option (Bool) :=
  bif (a1.1 != (6 : Int)) then
    (c50 (a1, a2)).bind fun y1 =>
      some y1
  else
    bif (a2.1 != (6 : Int)) then
      (c50 (a1, a2)).bind fun y2 =>
        some y2
    else
      bif (a1.2.2.2.2 == a2.2.2.2.2) then
        some true
      else
        if 0 ≤ a1.2.2.2.2 ∧ a1.2.2.2.2 < ((List.length a0) : Int) then
          if 0 ≤ a2.2.2.2.2 ∧ a2.2.2.2.2 < ((List.length a0) : Int) then
            bif (((List.getD a0 (Int.toNat a1.2.2.2.2) Z_Object).1) == (1 : Int)) then
              bif (((List.getD a0 (Int.toNat a2.2.2.2.2) Z_Object).1) == (1 : Int)) then
                (c51 ((((((((List.getD a0 (Int.toNat a1.2.2.2.2) Z_Object).2).2).2).2).2).2).1, ((((((((List.getD a0 (Int.toNat a2.2.2.2.2) Z_Object).2).2).2).2).2).2).1, (fun z3 => (c52 (z3.1, (z3.2.1, a0))).bind some)))).bind fun y4 =>
                  some y4
              else
                some false
            else
              some false
          else none
        else none
theorem f_heap_SameKey.q (c50 : f_heap_SameValue.E) (c51 : sl_EqualFunc_Value.E) (c52 : f_heap_SameKey_c1.E)  (a0 : List X_Object) (a1 : X_Value) (a2 : X_Value) : f_heap_SameKey.b c50 c51 c52 a0 a1 a2 = f_heap_SameKey.c c50 c51 c52 a0 a1 a2 := by
  simp only [f_heap_SameKey.b, f_heap_SameKey.c, List.take_length, take_one, Nat.zero_add, Int.toNat_natCast, Int.toNat_zero, List.drop_zero, List.append_eq, Nat.le_refl, Int.le_refl, true_and, and_true, zero_le_one, if_true, prod_eta, Int.natCast_zero]
def f_heap_SameKey.f (c50 : f_heap_SameValue.E) (c51 : sl_EqualFunc_Value.E) (c52 : f_heap_SameKey_c1.E) (k : Nat) (a0 : List X_Object) (a1 : X_Value) (a2 : X_Value) : Option (Bool) := f_heap_SameKey.b c50 c51 c52  a0 a1 a2
theorem f_heap_SameKey.r (c50 : f_heap_SameValue.E) (c51 : sl_EqualFunc_Value.E) (c52 : f_heap_SameKey_c1.E) (k : Nat) (a0 : List X_Object) (a1 : X_Value) (a2 : X_Value) : fn (f_heap_SameKey.C c50 c51 c52) k Tryd.f19 f_heap_SameKey.A f_heap_SameKey.R (a0, (a1, a2)) = f_heap_SameKey.b c50 c51 c52  a0 a1 a2 := by kernel_rfl
theorem f_heap_SameKey.e (c50 : f_heap_SameValue.E) (c51 : sl_EqualFunc_Value.E) (c52 : f_heap_SameKey_c1.E) (k : Nat) (a0 : List X_Object) (a1 : X_Value) (a2 : X_Value) : fn (f_heap_SameKey.C c50 c51 c52) k Tryd.f19 f_heap_SameKey.A f_heap_SameKey.R (a0, (a1, a2)) = f_heap_SameKey.f c50 c51 c52 k a0 a1 a2 := by
  rw [f_heap_SameKey.r]
  rfl
theorem f_heap_SameKey.ty (c50 : f_heap_SameValue.E) (c51 : sl_EqualFunc_Value.E) (c52 : f_heap_SameKey_c1.E) : TyOk Tryd.prog (f_heap_SameKey.C c50 c51 c52) := tyOk_of (by kernel_rfl)
def f_heap_SameKey.ur (k : Nat) (g : f_heap_SameKey.E) : f_heap_SameKey.E := fun y => f_heap_SameKey.f (f_heap_SameValue.u k) (sl_EqualFunc_Value.u k) (f_heap_SameKey_c1.ur k g) k y.1 y.2.1 y.2.2
theorem f_heap_SameKey.sound_r (k : Nat) (g : f_heap_SameKey.E) (hg : Sound Tryd.prog ⟨19, f_heap_SameKey.A, f_heap_SameKey.R, g⟩) : Sound Tryd.prog ⟨19, f_heap_SameKey.A, f_heap_SameKey.R, f_heap_SameKey.ur k g⟩ := by
  have h := fn_sound (k := k) («as» := f_heap_SameKey.A) (rs := f_heap_SameKey.R) (f_heap_SameKey.ty (f_heap_SameValue.u k) (sl_EqualFunc_Value.u k) (f_heap_SameKey_c1.ur k g)) (fun E h => by
    simp only [f_heap_SameKey.C, List.mem_cons, List.not_mem_nil, or_false] at h
    rcases h with rfl | rfl | rfl
    · exact f_heap_SameValue.sound k
    · exact sl_EqualFunc_Value.sound k
    · exact f_heap_SameKey_c1.sound_r k g hg) mixed Tryd.func19 (by kernel_rfl) (by kernel_rfl)
  have e : fn (f_heap_SameKey.C (f_heap_SameValue.u k) (sl_EqualFunc_Value.u k) (f_heap_SameKey_c1.ur k g)) k Tryd.f19 f_heap_SameKey.A f_heap_SameKey.R = f_heap_SameKey.ur k g := by
    funext y
    exact f_heap_SameKey.e (f_heap_SameValue.u k) (sl_EqualFunc_Value.u k) (f_heap_SameKey_c1.ur k g) k y.1 y.2.1 y.2.2
  rw [e] at h
  exact h
def f_heap_SameKey.u : Nat → f_heap_SameKey.E
  | 0 => fun _ => none
  | k + 1 => f_heap_SameKey.ur (k + 1) (f_heap_SameKey.u k)
theorem f_heap_SameKey.sound : ∀ k : Nat, Sound Tryd.prog ⟨19, f_heap_SameKey.A, f_heap_SameKey.R, f_heap_SameKey.u k⟩
  | 0 => ⟨enters_of Tryd.func19 (c := Func.code Tryd.f19) (by kernel_rfl) (by kernel_rfl), fun x y h => by cases h⟩
  | k + 1 => f_heap_SameKey.sound_r (k + 1) (f_heap_SameKey.u k) (f_heap_SameKey.sound k)
def f_heap_SameKey_c1.u : Nat → f_heap_SameKey_c1.E
  | 0 => fun _ => none
  | k + 1 => f_heap_SameKey_c1.ur (k + 1) (f_heap_SameKey.u k)
theorem f_heap_SameKey_c1.sound : ∀ k : Nat, Sound Tryd.prog ⟨52, f_heap_SameKey_c1.A, f_heap_SameKey_c1.R, f_heap_SameKey_c1.u k⟩
  | 0 => ⟨enters_of Tryd.func52 (c := Func.code Tryd.f52) (by kernel_rfl) (by kernel_rfl), fun x y h => by cases h⟩
  | k + 1 => f_heap_SameKey_c1.sound_r (k + 1) (f_heap_SameKey.u k) (f_heap_SameKey.sound k)
/-! ### brindlewood/brindlewoodlaw7.HeapKeysMatchSpec: f4 -/
abbrev f_law7_HeapKeysMatchSpec.A : List Sh := [(.d Y_Heap), (.d Y_Value), (.d Y_Value), (.d Y_Value)]
abbrev f_law7_HeapKeysMatchSpec.R : List Sh := [(.d .bool)]
abbrev f_law7_HeapKeysMatchSpec.E : Type := ((List X_Object) × (X_Value × (X_Value × X_Value))) → Option (Bool)
def f_law7_HeapKeysMatchSpec.C (c14 : r7_Usable.E) (c15 : r7_PartsOf.E) (c16 : f_heap_Parts.E) (c17 : f_heap_IsKey.E) (c18 : r7_Keyed.E) (c19 : f_heap_SameKey.E) (c20 : r7_SameKey.E) : Ctx := { ty := [(3, (.int .i64)), (4, .bool), (26, Y_Value), (31, (.sl 26 Y_Value)), (50, Y_Heap)], nf := [], by_ := [(26, 96)], env := [⟨14, r7_Usable.A, r7_Usable.R, c14⟩, ⟨15, r7_PartsOf.A, r7_PartsOf.R, c15⟩, ⟨16, f_heap_Parts.A, f_heap_Parts.R, c16⟩, ⟨17, f_heap_IsKey.A, f_heap_IsKey.R, c17⟩, ⟨18, r7_Keyed.A, r7_Keyed.R, c18⟩, ⟨19, f_heap_SameKey.A, f_heap_SameKey.R, c19⟩, ⟨20, r7_SameKey.A, r7_SameKey.R, c20⟩], spec := [(100007, [.bx 4 600004 (.d Y_Heap), .bx 5 600005 (.d Y_Value), .bx 6 600006 (.d Y_Value), .bx 7 600007 (.d Y_Value), .d 11 (.int .i64)])] }
noncomputable def f_law7_HeapKeysMatchSpec.code : Code := Func.code Tryd.f4
noncomputable def f_law7_HeapKeysMatchSpec.fin (c14 : r7_Usable.E) (c15 : r7_PartsOf.E) (c16 : f_heap_Parts.E) (c17 : f_heap_IsKey.E) (c18 : r7_Keyed.E) (c19 : f_heap_SameKey.E) (c20 : r7_SameKey.E) := kfin (f_law7_HeapKeysMatchSpec.C c14 c15 c16 c17 c18 c19 c20) Tryd.f4 f_law7_HeapKeysMatchSpec.A f_law7_HeapKeysMatchSpec.R
def f_law7_HeapKeysMatchSpec.b (c14 : r7_Usable.E) (c15 : r7_PartsOf.E) (c16 : f_heap_Parts.E) (c17 : f_heap_IsKey.E) (c18 : r7_Keyed.E) (c19 : f_heap_SameKey.E) (c20 : r7_SameKey.E) (r_g7 : (List X_Object) → X_Value → X_Value → X_Value → (Int) → Option (Bool)) (a0 : List X_Object) (a1 : X_Value) (a2 : X_Value) (a3 : X_Value) : Option (Bool) :=
  (c14 (a0, (List.take 3 ([a1, a2, a3] : List X_Value)))).bind fun y1 =>
    bif (!y1) then
      some true
    else
      (c15 (a0, (a1, (1000 : Int)))).bind fun y2 =>
        bif y2.2 then
          bif (decide (((List.length y2.1) : Int) ≤ (1000 : Int))) then
            r_g7 a0 a1 a2 a3 ((List.length y2.1) : Int)
          else
            r_g7 a0 a1 a2 a3 (0 : Int)
        else
          r_g7 a0 a1 a2 a3 (0 : Int)
def f_law7_HeapKeysMatchSpec.b_g7 (c14 : r7_Usable.E) (c15 : r7_PartsOf.E) (c16 : f_heap_Parts.E) (c17 : f_heap_IsKey.E) (c18 : r7_Keyed.E) (c19 : f_heap_SameKey.E) (c20 : r7_SameKey.E)  (x4 : List X_Object) (x5 : X_Value) (x6 : X_Value) (x7 : X_Value) (x11 : Int) : Option (Bool) :=
  (c16 (x4, x5)).bind fun y3 =>
    bif (y3 != x11) then
      some false
    else
      (c17 (x4, x5)).bind fun y4 =>
        bif (y4 != (decide (x11 > (0 : Int)))) then
          some false
        else
          (c18 (x4, x5)).bind fun y5 =>
            bif (!y5) then
              some true
            else
              (c18 (x4, x6)).bind fun y6 =>
                bif (!y6) then
                  some true
                else
                  (c18 (x4, x7)).bind fun y7 =>
                    bif (!y7) then
                      some true
                    else
                      (c19 (x4, (x5, x6))).bind fun y8 =>
                        (c19 (x4, (x6, x7))).bind fun y9 =>
                          (c19 (x4, (x5, x7))).bind fun y10 =>
                            (c20 (x4, (x5, x6))).bind fun y11 =>
                              bif (y8 == y11) then
                                (c19 (x4, (x5, x5))).bind fun y12 =>
                                  bif y12 then
                                    (c19 (x4, (x6, x5))).bind fun y13 =>
                                      bif (y13 == y8) then
                                        bif (!y8) then
                                          some true
                                        else
                                          some (y9 == y10)
                                      else
                                        some false
                                  else
                                    some false
                              else
                                some false
def f_law7_HeapKeysMatchSpec.c (c14 : r7_Usable.E) (c15 : r7_PartsOf.E) (c16 : f_heap_Parts.E) (c17 : f_heap_IsKey.E) (c18 : r7_Keyed.E) (c19 : f_heap_SameKey.E) (c20 : r7_SameKey.E) (r_g7 : (List X_Object) → X_Value → X_Value → X_Value → (Int) → Option (Bool)) (a0 : List X_Object) (a1 : X_Value) (a2 : X_Value) (a3 : X_Value) : Option (Bool) :=
  (c14 (a0, (List.take 3 ([a1, a2, a3] : List X_Value)))).bind fun y1 =>
    bif !y1 then
      some true
    else
      (c15 (a0, (a1, (1000 : Int)))).bind fun y2 =>
        bif y2.2 then
          bif (decide (((List.length y2.1) : Int) ≤ (1000 : Int))) then
            r_g7 a0 a1 a2 a3 ((List.length y2.1) : Int)
          else
            r_g7 a0 a1 a2 a3 (0 : Int)
        else
          r_g7 a0 a1 a2 a3 (0 : Int)
theorem f_law7_HeapKeysMatchSpec.q (c14 : r7_Usable.E) (c15 : r7_PartsOf.E) (c16 : f_heap_Parts.E) (c17 : f_heap_IsKey.E) (c18 : r7_Keyed.E) (c19 : f_heap_SameKey.E) (c20 : r7_SameKey.E) (r_g7 : (List X_Object) → X_Value → X_Value → X_Value → (Int) → Option (Bool)) (a0 : List X_Object) (a1 : X_Value) (a2 : X_Value) (a3 : X_Value) : f_law7_HeapKeysMatchSpec.b c14 c15 c16 c17 c18 c19 c20 r_g7 a0 a1 a2 a3 = f_law7_HeapKeysMatchSpec.c c14 c15 c16 c17 c18 c19 c20 r_g7 a0 a1 a2 a3 := by
  simp only [f_law7_HeapKeysMatchSpec.b, f_law7_HeapKeysMatchSpec.c, List.take_length, take_one, Nat.zero_add, Int.toNat_natCast, Int.toNat_zero, List.drop_zero, List.append_eq, Nat.le_refl, Int.le_refl, true_and, and_true, zero_le_one, if_true, prod_eta, Int.natCast_zero]
def f_law7_HeapKeysMatchSpec.c_g7 (c14 : r7_Usable.E) (c15 : r7_PartsOf.E) (c16 : f_heap_Parts.E) (c17 : f_heap_IsKey.E) (c18 : r7_Keyed.E) (c19 : f_heap_SameKey.E) (c20 : r7_SameKey.E)  (x4 : List X_Object) (x5 : X_Value) (x6 : X_Value) (x7 : X_Value) (x11 : Int) : Option (Bool) :=
  (c16 (x4, x5)).bind fun y3 =>
    bif (y3 != x11) then
      some false
    else
      (c17 (x4, x5)).bind fun y4 =>
        bif (y4 != (decide (x11 > (0 : Int)))) then
          some false
        else
          (c18 (x4, x5)).bind fun y5 =>
            bif !y5 then
              some true
            else
              (c18 (x4, x6)).bind fun y6 =>
                bif !y6 then
                  some true
                else
                  (c18 (x4, x7)).bind fun y7 =>
                    bif !y7 then
                      some true
                    else
                      (c19 (x4, (x5, x6))).bind fun y8 =>
                        (c19 (x4, (x6, x7))).bind fun y9 =>
                          (c19 (x4, (x5, x7))).bind fun y10 =>
                            (c20 (x4, (x5, x6))).bind fun y11 =>
                              bif (y8 == y11) then
                                (c19 (x4, (x5, x5))).bind fun y12 =>
                                  bif y12 then
                                    (c19 (x4, (x6, x5))).bind fun y13 =>
                                      bif (y13 == y8) then
                                        bif !y8 then
                                          some true
                                        else
                                          some (y9 == y10)
                                      else
                                        some false
                                  else
                                    some false
                              else
                                some false
theorem f_law7_HeapKeysMatchSpec.q_g7 (c14 : r7_Usable.E) (c15 : r7_PartsOf.E) (c16 : f_heap_Parts.E) (c17 : f_heap_IsKey.E) (c18 : r7_Keyed.E) (c19 : f_heap_SameKey.E) (c20 : r7_SameKey.E)  (x4 : List X_Object) (x5 : X_Value) (x6 : X_Value) (x7 : X_Value) (x11 : Int) : f_law7_HeapKeysMatchSpec.b_g7 c14 c15 c16 c17 c18 c19 c20 x4 x5 x6 x7 x11 = f_law7_HeapKeysMatchSpec.c_g7 c14 c15 c16 c17 c18 c19 c20 x4 x5 x6 x7 x11 := by
  simp only [f_law7_HeapKeysMatchSpec.b_g7, f_law7_HeapKeysMatchSpec.c_g7, List.take_length, take_one, Nat.zero_add, Int.toNat_natCast, Int.toNat_zero, List.drop_zero, List.append_eq, Nat.le_refl, Int.le_refl, true_and, and_true, zero_le_one, if_true, prod_eta, Int.natCast_zero]
def f_law7_HeapKeysMatchSpec.g7 (c14 : r7_Usable.E) (c15 : r7_PartsOf.E) (c16 : f_heap_Parts.E) (c17 : f_heap_IsKey.E) (c18 : r7_Keyed.E) (c19 : f_heap_SameKey.E) (c20 : r7_SameKey.E) (k : Nat)  (x4 : List X_Object) (x5 : X_Value) (x6 : X_Value) (x7 : X_Value) (x11 : Int) : Option (Bool) := gate k (f_law7_HeapKeysMatchSpec.b_g7 c14 c15 c16 c17 c18 c19 c20  x4 x5 x6 x7 x11)
def f_law7_HeapKeysMatchSpec.f (c14 : r7_Usable.E) (c15 : r7_PartsOf.E) (c16 : f_heap_Parts.E) (c17 : f_heap_IsKey.E) (c18 : r7_Keyed.E) (c19 : f_heap_SameKey.E) (c20 : r7_SameKey.E) (k : Nat) (a0 : List X_Object) (a1 : X_Value) (a2 : X_Value) (a3 : X_Value) : Option (Bool) := f_law7_HeapKeysMatchSpec.b c14 c15 c16 c17 c18 c19 c20 (f_law7_HeapKeysMatchSpec.g7 c14 c15 c16 c17 c18 c19 c20 k) a0 a1 a2 a3
noncomputable def f_law7_HeapKeysMatchSpec.M_g7 (c14 : r7_Usable.E) (c15 : r7_PartsOf.E) (c16 : f_heap_Parts.E) (c17 : f_heap_IsKey.E) (c18 : r7_Keyed.E) (c19 : f_heap_SameKey.E) (c20 : r7_SameKey.E) (k : Nat)  (s : St) : Option (Bool) := atGate (f_law7_HeapKeysMatchSpec.C c14 c15 c16 c17 c18 c19 c20) k [1, 1, 1, 1, 1, 0, 0] [] f_law7_HeapKeysMatchSpec.code (f_law7_HeapKeysMatchSpec.fin c14 c15 c16 c17 c18 c19 c20) s
noncomputable def f_law7_HeapKeysMatchSpec.fr_g7 (x4 : List X_Object) (x5 : X_Value) (x6 : X_Value) (x7 : X_Value) (x11 : Int) : St := ⟨((((((List.replicate 106 V.un).set 4 (V.bp 600004 0 [])).set 5 (V.bp 600005 0 [])).set 6 (V.bp 600006 0 [])).set 7 (V.bp 600007 0 [])).set 11 (V.dat (.int .i64) x11)), [⟨600007, 0, .box (V.dat Y_Value x7)⟩, ⟨600006, 0, .box (V.dat Y_Value x6)⟩, ⟨600005, 0, .box (V.dat Y_Value x5)⟩, ⟨600004, 0, .box (V.dat Y_Heap x4)⟩]⟩
theorem f_law7_HeapKeysMatchSpec.r (c14 : r7_Usable.E) (c15 : r7_PartsOf.E) (c16 : f_heap_Parts.E) (c17 : f_heap_IsKey.E) (c18 : r7_Keyed.E) (c19 : f_heap_SameKey.E) (c20 : r7_SameKey.E) (k : Nat) (a0 : List X_Object) (a1 : X_Value) (a2 : X_Value) (a3 : X_Value) : fn (f_law7_HeapKeysMatchSpec.C c14 c15 c16 c17 c18 c19 c20) k Tryd.f4 f_law7_HeapKeysMatchSpec.A f_law7_HeapKeysMatchSpec.R (a0, (a1, (a2, a3))) = f_law7_HeapKeysMatchSpec.b c14 c15 c16 c17 c18 c19 c20 (fun x4 x5 x6 x7 x11 => f_law7_HeapKeysMatchSpec.M_g7 c14 c15 c16 c17 c18 c19 c20 k   (f_law7_HeapKeysMatchSpec.fr_g7 x4 x5 x6 x7 x11)) a0 a1 a2 a3 := by kernel_rfl
theorem f_law7_HeapKeysMatchSpec.r_g7 (c14 : r7_Usable.E) (c15 : r7_PartsOf.E) (c16 : f_heap_Parts.E) (c17 : f_heap_IsKey.E) (c18 : r7_Keyed.E) (c19 : f_heap_SameKey.E) (c20 : r7_SameKey.E) (k : Nat)  (x4 : List X_Object) (x5 : X_Value) (x6 : X_Value) (x7 : X_Value) (x11 : Int) : f_law7_HeapKeysMatchSpec.M_g7 c14 c15 c16 c17 c18 c19 c20 k  (f_law7_HeapKeysMatchSpec.fr_g7 x4 x5 x6 x7 x11) = gate k (f_law7_HeapKeysMatchSpec.b_g7 c14 c15 c16 c17 c18 c19 c20  x4 x5 x6 x7 x11) := by kernel_rfl
theorem f_law7_HeapKeysMatchSpec.e_g7 (c14 : r7_Usable.E) (c15 : r7_PartsOf.E) (c16 : f_heap_Parts.E) (c17 : f_heap_IsKey.E) (c18 : r7_Keyed.E) (c19 : f_heap_SameKey.E) (c20 : r7_SameKey.E) (k : Nat)  (x4 : List X_Object) (x5 : X_Value) (x6 : X_Value) (x7 : X_Value) (x11 : Int) : f_law7_HeapKeysMatchSpec.M_g7 c14 c15 c16 c17 c18 c19 c20 k  (f_law7_HeapKeysMatchSpec.fr_g7 x4 x5 x6 x7 x11) = f_law7_HeapKeysMatchSpec.g7 c14 c15 c16 c17 c18 c19 c20 k  x4 x5 x6 x7 x11 := by
  rw [f_law7_HeapKeysMatchSpec.r_g7]
  rfl
theorem f_law7_HeapKeysMatchSpec.e (c14 : r7_Usable.E) (c15 : r7_PartsOf.E) (c16 : f_heap_Parts.E) (c17 : f_heap_IsKey.E) (c18 : r7_Keyed.E) (c19 : f_heap_SameKey.E) (c20 : r7_SameKey.E) (k : Nat) (a0 : List X_Object) (a1 : X_Value) (a2 : X_Value) (a3 : X_Value) : fn (f_law7_HeapKeysMatchSpec.C c14 c15 c16 c17 c18 c19 c20) k Tryd.f4 f_law7_HeapKeysMatchSpec.A f_law7_HeapKeysMatchSpec.R (a0, (a1, (a2, a3))) = f_law7_HeapKeysMatchSpec.f c14 c15 c16 c17 c18 c19 c20 k a0 a1 a2 a3 := by
  rw [f_law7_HeapKeysMatchSpec.r]
  simp only [f_law7_HeapKeysMatchSpec.e_g7]
  rfl
theorem f_law7_HeapKeysMatchSpec.ty (c14 : r7_Usable.E) (c15 : r7_PartsOf.E) (c16 : f_heap_Parts.E) (c17 : f_heap_IsKey.E) (c18 : r7_Keyed.E) (c19 : f_heap_SameKey.E) (c20 : r7_SameKey.E) : TyOk Tryd.prog (f_law7_HeapKeysMatchSpec.C c14 c15 c16 c17 c18 c19 c20) := tyOk_of (by kernel_rfl)
def f_law7_HeapKeysMatchSpec.u (k : Nat) : f_law7_HeapKeysMatchSpec.E := fun y => f_law7_HeapKeysMatchSpec.f (r7_Usable.u k) (r7_PartsOf.u k) (f_heap_Parts.u k) (f_heap_IsKey.u k) (r7_Keyed.u k) (f_heap_SameKey.u k) (r7_SameKey.u k) k y.1 y.2.1 y.2.2.1 y.2.2.2
theorem f_law7_HeapKeysMatchSpec.sound (k : Nat) : Sound Tryd.prog ⟨4, f_law7_HeapKeysMatchSpec.A, f_law7_HeapKeysMatchSpec.R, f_law7_HeapKeysMatchSpec.u k⟩ := by
  have h := fn_sound (k := k) («as» := f_law7_HeapKeysMatchSpec.A) (rs := f_law7_HeapKeysMatchSpec.R) (f_law7_HeapKeysMatchSpec.ty (r7_Usable.u k) (r7_PartsOf.u k) (f_heap_Parts.u k) (f_heap_IsKey.u k) (r7_Keyed.u k) (f_heap_SameKey.u k) (r7_SameKey.u k)) (fun E h => by
    simp only [f_law7_HeapKeysMatchSpec.C, List.mem_cons, List.not_mem_nil, or_false] at h
    rcases h with rfl | rfl | rfl | rfl | rfl | rfl | rfl
    · exact r7_Usable.sound k
    · exact r7_PartsOf.sound k
    · exact f_heap_Parts.sound k
    · exact f_heap_IsKey.sound k
    · exact r7_Keyed.sound k
    · exact f_heap_SameKey.sound k
    · exact r7_SameKey.sound k) mixed Tryd.func4 (by kernel_rfl) (by kernel_rfl)
  have e : fn (f_law7_HeapKeysMatchSpec.C (r7_Usable.u k) (r7_PartsOf.u k) (f_heap_Parts.u k) (f_heap_IsKey.u k) (r7_Keyed.u k) (f_heap_SameKey.u k) (r7_SameKey.u k)) k Tryd.f4 f_law7_HeapKeysMatchSpec.A f_law7_HeapKeysMatchSpec.R = f_law7_HeapKeysMatchSpec.u k := by
    funext y
    exact f_law7_HeapKeysMatchSpec.e (r7_Usable.u k) (r7_PartsOf.u k) (f_heap_Parts.u k) (f_heap_IsKey.u k) (r7_Keyed.u k) (f_heap_SameKey.u k) (r7_SameKey.u k) k y.1 y.2.1 y.2.2.1 y.2.2.2
  rw [e] at h
  exact h
end
end Go.Ab
