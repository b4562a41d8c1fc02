/- A part of the proof: FE1. -/
import Derived.Test.YtgkjkmpeeneilaaFTy
import Derived.Test.YtgkjkmpeeneilaaFA1
import Derived.Test.YtgkjkmpeeneilaaFB1
import Derived.Test.YtgkjkmpeeneilaaHRev
namespace Go.Ab
set_option linter.unusedVariables false
set_option linter.unusedSimpArgs false
set_option maxRecDepth 100000
noncomputable section
open Go.Proofs
/-! ### slices.Min[[]int,int]: f79 -/
abbrev f_slices_Min_int.A : List Sh := [(.d (.sl 3 (.int .i64)))]
abbrev f_slices_Min_int.R : List Sh := [(.d (.int .i64))]
abbrev f_slices_Min_int.E : Type := (List (Int)) → Option (Int)
def f_slices_Min_int.C  : Ctx := { ty := [(3, (.int .i64)), (22, (.sl 3 (.int .i64)))], nf := [], by_ := [(3, 8)], env := [], spec := [(0, [.d 0 (.sl 3 (.int .i64)), .d 3 (.int .i64), .d 4 (.int .i64)])] }
noncomputable def f_slices_Min_int.code : Code := Func.code Try.f79
noncomputable def f_slices_Min_int.fin  := kfin (f_slices_Min_int.C ) Try.f79 f_slices_Min_int.A f_slices_Min_int.R
def f_slices_Min_int.b  (r_l0 : (List (Int)) → (Int) → (Int) → Option (Int)) (a0 : List (Int)) : Option (Int) :=
  bif (decide (((List.length a0) : Int) < (1 : Int))) then
    none
  else
    if 0 ≤ (0 : Int) ∧ (0 : Int) < ((List.length a0) : Int) then
      r_l0 a0 (List.getD a0 (Int.toNat (0 : Int)) (0 : Int)) (1 : Int)
    else none
def f_slices_Min_int.b_l0  (n_l0 : (List (Int)) → (Int) → (Int) → Option (Int)) (x0 : List (Int)) (x3 : Int) (x4 : Int) : Option (Int) :=
  bif (decide (x4 < ((List.length x0) : Int))) then
    if 0 ≤ x4 ∧ x4 < ((List.length x0) : Int) then
      n_l0 x0 (if (List.getD x0 (Int.toNat x4) (0 : Int)) < x3 then (List.getD x0 (Int.toNat x4) (0 : Int)) else x3) (IntKind.i64.wrap (x4 + (1 : Int)))
    else none
  else
    some x3
def f_slices_Min_int.c  (r_l0 : (List (Int)) → (Int) → (Int) → Option (Int)) (a0 : List (Int)) : Option (Int) :=
  bif (decide (((List.length a0) : Int) < (1 : Int))) then
    none
  else
    if (0 : Int) < ((List.length a0) : Int) then
      r_l0 a0 (List.getD a0 0 (0 : Int)) (1 : Int)
    else none
theorem f_slices_Min_int.q  (r_l0 : (List (Int)) → (Int) → (Int) → Option (Int)) (a0 : List (Int)) : f_slices_Min_int.b  r_l0 a0 = f_slices_Min_int.c  r_l0 a0 := by
  simp only [f_slices_Min_int.b, f_slices_Min_int.c, List.take_length, take_one, Nat.zero_add, Int.toNat_natCast, Int.toNat_zero, List.drop_zero, List.append_eq, Nat.le_refl, Int.le_refl, true_and, and_true, zero_le_one, if_true, prod_eta, Int.natCast_zero]
def f_slices_Min_int.l0  (k : Nat)  : Nat → (List (Int)) → (Int) → (Int) → Option (Int)
  | 0, _, _, _ => none
  | n + 1, x0, x3, x4 => f_slices_Min_int.b_l0  (fun x0 x3 x4 => f_slices_Min_int.l0  k  n x0 x3 x4) x0 x3 x4
def f_slices_Min_int.f  (k : Nat) (a0 : List (Int)) : Option (Int) := f_slices_Min_int.b  (f_slices_Min_int.l0  k k) a0
noncomputable def f_slices_Min_int.M_l0  (k n : Nat)  (s : St) : Option (Int) := atLoop (f_slices_Min_int.C ) k n [1, 1, 1, 0, 1, 0] [] f_slices_Min_int.code (f_slices_Min_int.fin ) s
noncomputable def f_slices_Min_int.fr_l0 (x0 : List (Int)) (x3 : Int) (x4 : Int) : St := ⟨((((List.replicate 25 V.un).set 0 (V.dat (.sl 3 (.int .i64)) x0)).set 3 (V.dat (.int .i64) x3)).set 4 (V.dat (.int .i64) x4)), []⟩
theorem f_slices_Min_int.r  (k : Nat) (a0 : List (Int)) : fn (f_slices_Min_int.C ) k Try.f79 f_slices_Min_int.A f_slices_Min_int.R a0 = f_slices_Min_int.b  (fun x0 x3 x4 => f_slices_Min_int.M_l0  k k  (f_slices_Min_int.fr_l0 x0 x3 x4)) a0 := by kernel_rfl
theorem f_slices_Min_int.z_l0  (k : Nat)  (s : St) : f_slices_Min_int.M_l0  k 0  s = none := by kernel_rfl
theorem f_slices_Min_int.r_l0  (k n : Nat)  (x0 : List (Int)) (x3 : Int) (x4 : Int) : f_slices_Min_int.M_l0  k (n + 1)  (f_slices_Min_int.fr_l0 x0 x3 x4) = f_slices_Min_int.b_l0  (fun x0 x3 x4 => f_slices_Min_int.M_l0  k n  (f_slices_Min_int.fr_l0 x0 x3 x4)) x0 x3 x4 := by kernel_rfl
theorem f_slices_Min_int.e_l0  (k n : Nat)  (x0 : List (Int)) (x3 : Int) (x4 : Int) : f_slices_Min_int.M_l0  k n  (f_slices_Min_int.fr_l0 x0 x3 x4) = f_slices_Min_int.l0  k  n x0 x3 x4 := by
  induction n generalizing x0 x3 x4 with
  | zero => rw [f_slices_Min_int.z_l0]; rfl
  | succ n ih =>
    rw [f_slices_Min_int.r_l0]
    simp only [ih]
    rfl
theorem f_slices_Min_int.e  (k : Nat) (a0 : List (Int)) : fn (f_slices_Min_int.C ) k Try.f79 f_slices_Min_int.A f_slices_Min_int.R a0 = f_slices_Min_int.f  k a0 := by
  rw [f_slices_Min_int.r]
  simp only [f_slices_Min_int.e_l0]
  rfl
def f_slices_Min_int.u (k : Nat) : f_slices_Min_int.E := fun y => f_slices_Min_int.f  k y
theorem f_slices_Min_int.ty  : TyOk Try.prog (f_slices_Min_int.C ) := tyOk_of (by kernel_rfl)
theorem f_slices_Min_int.sound (k : Nat) : Sound Try.prog ⟨79, f_slices_Min_int.A, f_slices_Min_int.R, f_slices_Min_int.u k⟩ := by
  have h := fn_sound (k := k) («as» := f_slices_Min_int.A) (rs := f_slices_Min_int.R) (f_slices_Min_int.ty ) (fun E h => by cases h) mixed Try.func79 (by kernel_rfl) (by kernel_rfl)
  have e : fn (f_slices_Min_int.C ) k Try.f79 f_slices_Min_int.A f_slices_Min_int.R = f_slices_Min_int.u k := by
    funext y
    exact f_slices_Min_int.e  k y
  rw [e] at h
  exact h
/-! ### slices.Grow[[]int,int]: f86 -/
abbrev f_slices_Grow_int.A : List Sh := [.nl, (.d (.int .i64))]
abbrev f_slices_Grow_int.R : List Sh := [(.o 3 (.int .i64))]
abbrev f_slices_Grow_int.E : Type := ((Unit) × (Int)) → Option (List (Int))
def f_slices_Grow_int.C  : Ctx := { ty := [(3, (.int .i64)), (22, (.sl 3 (.int .i64)))], nf := [], by_ := [(3, 8)], env := [], spec := [] }
noncomputable def f_slices_Grow_int.code : Code := Func.code Try.f86
noncomputable def f_slices_Grow_int.fin  := kfin (f_slices_Grow_int.C ) Try.f86 f_slices_Grow_int.A f_slices_Grow_int.R
def f_slices_Grow_int.b   (a0 : Unit) (a1 : Int) : Option (List (Int)) :=
  bif (decide (a1 < (0 : Int))) then
    none
  else
    bif (decide ((IntKind.i64.wrap (a1 - (IntKind.i64.wrap ((0 : Int) - (0 : Int))))) > (0 : Int))) then
      if (0 : Int) = 0 ∧ (0 : Int) = 0 then
        if 0 < (IntKind.i64.wrap (a1 - (IntKind.i64.wrap ((0 : Int) - (0 : Int))))) ∧ Int.toNat (IntKind.i64.wrap (a1 - (IntKind.i64.wrap ((0 : Int) - (0 : Int))))) * 8 ≤ LIM ∧ (IntKind.i64.wrap (a1 - (IntKind.i64.wrap ((0 : Int) - (0 : Int))))) ≤ 140737488355328 then
          if 0 ≤ (0 : Int) ∧ (0 : Int) ≤ (0 : Int) ∧ (0 : Int) ≤ (((Int.toNat (IntKind.i64.wrap (a1 - (IntKind.i64.wrap ((0 : Int) - (0 : Int)))))) : Nat) : Int) then
            some (List.take (Int.toNat ((0 : Int) - (0 : Int))) (List.replicate (Int.toNat (IntKind.i64.wrap (a1 - (IntKind.i64.wrap ((0 : Int) - (0 : Int)))))) (0 : Int)))
          else none
        else none
      else none
    else
      some ([] : List (Int))
def f_slices_Grow_int.c   (a0 : Unit) (a1 : Int) : Option (List (Int)) :=
  bif (decide (a1 < (0 : Int))) then
    none
  else
    bif (decide ((IntKind.i64.wrap (a1 - (IntKind.i64.wrap ((0 : Int) - (0 : Int))))) > (0 : Int))) then
      if (0 : Int) = 0 ∧ (0 : Int) = 0 then
        if 0 < (IntKind.i64.wrap (a1 - (IntKind.i64.wrap ((0 : Int) - (0 : Int))))) ∧ Int.toNat (IntKind.i64.wrap (a1 - (IntKind.i64.wrap ((0 : Int) - (0 : Int))))) * 8 ≤ LIM ∧ (IntKind.i64.wrap (a1 - (IntKind.i64.wrap ((0 : Int) - (0 : Int))))) ≤ 140737488355328 then
          if (0 : Int) ≤ (((Int.toNat (IntKind.i64.wrap (a1 - (IntKind.i64.wrap ((0 : Int) - (0 : Int)))))) : Nat) : Int) then
            some (List.take (Int.toNat ((0 : Int) - (0 : Int))) (List.replicate (Int.toNat (IntKind.i64.wrap (a1 - (IntKind.i64.wrap ((0 : Int) - (0 : Int)))))) (0 : Int)))
          else none
        else none
      else none
    else
      some ([] : List Int)
theorem f_slices_Grow_int.q   (a0 : Unit) (a1 : Int) : f_slices_Grow_int.b  a0 a1 = f_slices_Grow_int.c  a0 a1 := by
  simp only [f_slices_Grow_int.b, f_slices_Grow_int.c, List.take_length, take_one, Nat.zero_add, Int.toNat_natCast, Int.toNat_zero, List.drop_zero, List.append_eq, Nat.le_refl, Int.le_refl, true_and, and_true, zero_le_one, if_true, prod_eta, Int.natCast_zero]
def f_slices_Grow_int.f  (k : Nat) (a0 : Unit) (a1 : Int) : Option (List (Int)) := f_slices_Grow_int.b   a0 a1
theorem f_slices_Grow_int.r  (k : Nat) (a0 : Unit) (a1 : Int) : fn (f_slices_Grow_int.C ) k Try.f86 f_slices_Grow_int.A f_slices_Grow_int.R (a0, a1) = f_slices_Grow_int.b   a0 a1 := by kernel_rfl
theorem f_slices_Grow_int.e  (k : Nat) (a0 : Unit) (a1 : Int) : fn (f_slices_Grow_int.C ) k Try.f86 f_slices_Grow_int.A f_slices_Grow_int.R (a0, a1) = f_slices_Grow_int.f  k a0 a1 := by
  rw [f_slices_Grow_int.r]
  rfl
def f_slices_Grow_int.u (k : Nat) : f_slices_Grow_int.E := fun y => f_slices_Grow_int.f  k y.1 y.2
theorem f_slices_Grow_int.ty  : TyOk Try.prog (f_slices_Grow_int.C ) := tyOk_of (by kernel_rfl)
theorem f_slices_Grow_int.sound (k : Nat) : Sound Try.prog ⟨86, f_slices_Grow_int.A, f_slices_Grow_int.R, f_slices_Grow_int.u k⟩ := by
  have h := fn_sound (k := k) («as» := f_slices_Grow_int.A) (rs := f_slices_Grow_int.R) (f_slices_Grow_int.ty ) (fun E h => by cases h) mixed Try.func86 (by kernel_rfl) (by kernel_rfl)
  have e : fn (f_slices_Grow_int.C ) k Try.f86 f_slices_Grow_int.A f_slices_Grow_int.R = f_slices_Grow_int.u k := by
    funext y
    exact f_slices_Grow_int.e  k y.1 y.2
  rw [e] at h
  exact h
/-! ### slices.Concat[[]int,int]: f80 -/
abbrev f_slices_Concat_int.A : List Sh := [(.d (.sl 22 (.sl 3 (.int .i64))))]
abbrev f_slices_Concat_int.R : List Sh := [(.d (.sl 3 (.int .i64)))]
abbrev f_slices_Concat_int.E : Type := (List (List (Int))) → Option (List (Int))
def f_slices_Concat_int.C (c86 : f_slices_Grow_int.E) : Ctx := { ty := [(3, (.int .i64)), (22, (.sl 3 (.int .i64))), (30, (.sl 22 (.sl 3 (.int .i64))))], nf := [], by_ := [(3, 8), (22, 24)], env := [⟨86, f_slices_Grow_int.A, f_slices_Grow_int.R, c86⟩], spec := [(0, [.d 0 (.sl 22 (.sl 3 (.int .i64))), .d 3 (.int .i64), .d 9 (.sl 22 (.sl 3 (.int .i64))), .d 10 (.int .i64), .d 11 (.int .i64)]), (2, [.o 6 500006 3 (.int .i64), .d 25 (.sl 22 (.sl 3 (.int .i64))), .d 26 (.int .i64), .d 27 (.int .i64)])] }
noncomputable def f_slices_Concat_int.code : Code := Func.code Try.f80
noncomputable def f_slices_Concat_int.fin (c86 : f_slices_Grow_int.E) := kfin (f_slices_Concat_int.C c86) Try.f80 f_slices_Concat_int.A f_slices_Concat_int.R
def f_slices_Concat_int.b (c86 : f_slices_Grow_int.E) (r_l0 : (List (List (Int))) → (Int) → (List (List (Int))) → (Int) → (Int) → Option (List (Int))) (a0 : List (List (Int))) : Option (List (Int)) :=
  r_l0 a0 (0 : Int) a0 ((List.length a0) : Int) (0 : Int)
def f_slices_Concat_int.b_l0 (c86 : f_slices_Grow_int.E) (n_l0 : (List (List (Int))) → (Int) → (List (List (Int))) → (Int) → (Int) → Option (List (Int))) (r_l2 : (List (Int)) → (List (List (Int))) → (Int) → (Int) → Option (List (Int))) (x0 : List (List (Int))) (x3 : Int) (x9 : List (List (Int))) (x10 : Int) (x11 : Int) : Option (List (Int)) :=
  bif (decide (x11 < x10)) then
    if 0 ≤ x11 ∧ x11 < ((List.length x9) : Int) then
      bif (decide ((IntKind.i64.wrap (x3 + ((List.length (List.getD x9 (Int.toNat x11) [])) : Int))) < (0 : Int))) then
        none
      else
        n_l0 x0 (IntKind.i64.wrap (x3 + ((List.length (List.getD x9 (Int.toNat x11) [])) : Int))) x9 x10 (IntKind.i64.wrap (x11 + (1 : Int)))
    else none
  else
    (c86 ((), x3)).bind fun y1 =>
      r_l2 (List.take (List.length y1) y1) x0 ((List.length x0) : Int) (0 : Int)
def f_slices_Concat_int.b_l2 (c86 : f_slices_Grow_int.E) (n_l2 : (List (Int)) → (List (List (Int))) → (Int) → (Int) → Option (List (Int))) (x6 : List (Int)) (x25 : List (List (Int))) (x26 : Int) (x27 : Int) : Option (List (Int)) :=
  bif (decide (x27 < x26)) then
    if 0 ≤ x27 ∧ x27 < ((List.length x25) : Int) then
      if (List.length x6) ≤ (List.length x6) ∧ ((List.length x6) + (List.length (List.getD x25 (Int.toNat x27) []))) * 8 ≤ LIM then
        n_l2 (List.take (List.length (List.append (List.take (List.length x6) x6) (List.getD x25 (Int.toNat x27) []))) (List.append (List.take (List.length x6) x6) (List.getD x25 (Int.toNat x27) []))) x25 x26 (IntKind.i64.wrap (x27 + (1 : Int)))
      else none
    else none
  else
    some (List.take (List.length x6) x6)
def f_slices_Concat_int.c_l0 (c86 : f_slices_Grow_int.E) (n_l0 : (List (List (Int))) → (Int) → (List (List (Int))) → (Int) → (Int) → Option (List (Int))) (r_l2 : (List (Int)) → (List (List (Int))) → (Int) → (Int) → Option (List (Int))) (x0 : List (List (Int))) (x3 : Int) (x9 : List (List (Int))) (x10 : Int) (x11 : Int) : Option (List (Int)) :=
  bif (decide (x11 < x10)) then
    if 0 ≤ x11 ∧ x11 < ((List.length x9) : Int) then
      bif (decide ((IntKind.i64.wrap (x3 + ((List.length (List.getD x9 (Int.toNat x11) [])) : Int))) < (0 : Int))) then
        none
      else
        n_l0 x0 (IntKind.i64.wrap (x3 + ((List.length (List.getD x9 (Int.toNat x11) [])) : Int))) x9 x10 (IntKind.i64.wrap (x11 + (1 : Int)))
    else none
  else
    (c86 ((), x3)).bind fun y1 =>
      r_l2 y1 x0 ((List.length x0) : Int) (0 : Int)
theorem f_slices_Concat_int.q_l0 (c86 : f_slices_Grow_int.E) (n_l0 : (List (List (Int))) → (Int) → (List (List (Int))) → (Int) → (Int) → Option (List (Int))) (r_l2 : (List (Int)) → (List (List (Int))) → (Int) → (Int) → Option (List (Int))) (x0 : List (List (Int))) (x3 : Int) (x9 : List (List (Int))) (x10 : Int) (x11 : Int) : f_slices_Concat_int.b_l0 c86 n_l0 r_l2 x0 x3 x9 x10 x11 = f_slices_Concat_int.c_l0 c86 n_l0 r_l2 x0 x3 x9 x10 x11 := by
  simp only [f_slices_Concat_int.b_l0, f_slices_Concat_int.c_l0, List.take_length, take_one, Nat.zero_add, Int.toNat_natCast, Int.toNat_zero, List.drop_zero, List.append_eq, Nat.le_refl, Int.le_refl, true_and, and_true, zero_le_one, if_true, prod_eta, Int.natCast_zero]
def f_slices_Concat_int.c_l2 (c86 : f_slices_Grow_int.E) (n_l2 : (List (Int)) → (List (List (Int))) → (Int) → (Int) → Option (List (Int))) (x6 : List (Int)) (x25 : List (List (Int))) (x26 : Int) (x27 : Int) : Option (List (Int)) :=
  bif (decide (x27 < x26)) then
    if 0 ≤ x27 ∧ x27 < ((List.length x25) : Int) then
      if ((List.length x6) + (List.length (List.getD x25 (Int.toNat x27) []))) * 8 ≤ LIM then
        n_l2 (x6 ++ (List.getD x25 (Int.toNat x27) [])) x25 x26 (IntKind.i64.wrap (x27 + (1 : Int)))
      else none
    else none
  else
    some x6
theorem f_slices_Concat_int.q_l2 (c86 : f_slices_Grow_int.E) (n_l2 : (List (Int)) → (List (List (Int))) → (Int) → (Int) → Option (List (Int))) (x6 : List (Int)) (x25 : List (List (Int))) (x26 : Int) (x27 : Int) : f_slices_Concat_int.b_l2 c86 n_l2 x6 x25 x26 x27 = f_slices_Concat_int.c_l2 c86 n_l2 x6 x25 x26 x27 := by
  simp only [f_slices_Concat_int.b_l2, f_slices_Concat_int.c_l2, List.take_length, take_one, Nat.zero_add, Int.toNat_natCast, Int.toNat_zero, List.drop_zero, List.append_eq, Nat.le_refl, Int.le_refl, true_and, and_true, zero_le_one, if_true, prod_eta, Int.natCast_zero]
def f_slices_Concat_int.l2 (c86 : f_slices_Grow_int.E) (k : Nat)  : Nat → (List (Int)) → (List (List (Int))) → (Int) → (Int) → Option (List (Int))
  | 0, _, _, _, _ => none
  | n + 1, x6, x25, x26, x27 => f_slices_Concat_int.b_l2 c86 (fun x6 x25 x26 x27 => f_slices_Concat_int.l2 c86 k  n x6 x25 x26 x27) x6 x25 x26 x27
def f_slices_Concat_int.l0 (c86 : f_slices_Grow_int.E) (k : Nat)  : Nat → (List (List (Int))) → (Int) → (List (List (Int))) → (Int) → (Int) → Option (List (Int))
  | 0, _, _, _, _, _ => none
  | n + 1, x0, x3, x9, x10, x11 => f_slices_Concat_int.b_l0 c86 (fun x0 x3 x9 x10 x11 => f_slices_Concat_int.l0 c86 k  n x0 x3 x9 x10 x11) (f_slices_Concat_int.l2 c86 k  k) x0 x3 x9 x10 x11
def f_slices_Concat_int.f (c86 : f_slices_Grow_int.E) (k : Nat) (a0 : List (List (Int))) : Option (List (Int)) := f_slices_Concat_int.b c86 (f_slices_Concat_int.l0 c86 k k) a0
noncomputable def f_slices_Concat_int.M_l0 (c86 : f_slices_Grow_int.E) (k n : Nat)  (s : St) : Option (List (Int)) := atLoop (f_slices_Concat_int.C c86) k n [1, 1, 0, 1, 0] [] f_slices_Concat_int.code (f_slices_Concat_int.fin c86) s
noncomputable def f_slices_Concat_int.fr_l0 (x0 : List (List (Int))) (x3 : Int) (x9 : List (List (Int))) (x10 : Int) (x11 : Int) : St := ⟨((((((List.replicate 36 V.un).set 0 (V.dat (.sl 22 (.sl 3 (.int .i64))) x0)).set 3 (V.dat (.int .i64) x3)).set 9 (V.dat (.sl 22 (.sl 3 (.int .i64))) x9)).set 10 (V.dat (.int .i64) x10)).set 11 (V.dat (.int .i64) x11)), []⟩
noncomputable def f_slices_Concat_int.M_l2 (c86 : f_slices_Grow_int.E) (k n : Nat)  (s : St) : Option (List (Int)) := atLoop (f_slices_Concat_int.C c86) k n [1, 1, 1, 1, 0, 1, 0] [] f_slices_Concat_int.code (f_slices_Concat_int.fin c86) s
noncomputable def f_slices_Concat_int.fr_l2 (x6 : List (Int)) (x25 : List (List (Int))) (x26 : Int) (x27 : Int) : St := ⟨(((((List.replicate 36 V.un).set 6 (V.ref 500006 0 0 (List.length x6))).set 25 (V.dat (.sl 22 (.sl 3 (.int .i64))) x25)).set 26 (V.dat (.int .i64) x26)).set 27 (V.dat (.int .i64) x27)), [⟨500006, 0, .arr 3 (.int .i64) x6⟩]⟩
theorem f_slices_Concat_int.r (c86 : f_slices_Grow_int.E) (k : Nat) (a0 : List (List (Int))) : fn (f_slices_Concat_int.C c86) k Try.f80 f_slices_Concat_int.A f_slices_Concat_int.R a0 = f_slices_Concat_int.b c86 (fun x0 x3 x9 x10 x11 => f_slices_Concat_int.M_l0 c86 k k  (f_slices_Concat_int.fr_l0 x0 x3 x9 x10 x11)) a0 := by kernel_rfl
theorem f_slices_Concat_int.z_l0 (c86 : f_slices_Grow_int.E) (k : Nat)  (s : St) : f_slices_Concat_int.M_l0 c86 k 0  s = none := by kernel_rfl
theorem f_slices_Concat_int.r_l0 (c86 : f_slices_Grow_int.E) (k n : Nat)  (x0 : List (List (Int))) (x3 : Int) (x9 : List (List (Int))) (x10 : Int) (x11 : Int) : f_slices_Concat_int.M_l0 c86 k (n + 1)  (f_slices_Concat_int.fr_l0 x0 x3 x9 x10 x11) = f_slices_Concat_int.b_l0 c86 (fun x0 x3 x9 x10 x11 => f_slices_Concat_int.M_l0 c86 k n  (f_slices_Concat_int.fr_l0 x0 x3 x9 x10 x11)) (fun x6 x25 x26 x27 => f_slices_Concat_int.M_l2 c86 k k  (f_slices_Concat_int.fr_l2 x6 x25 x26 x27)) x0 x3 x9 x10 x11 := by kernel_rfl
theorem f_slices_Concat_int.z_l2 (c86 : f_slices_Grow_int.E) (k : Nat)  (s : St) : f_slices_Concat_int.M_l2 c86 k 0  s = none := by kernel_rfl
theorem f_slices_Concat_int.r_l2 (c86 : f_slices_Grow_int.E) (k n : Nat)  (x6 : List (Int)) (x25 : List (List (Int))) (x26 : Int) (x27 : Int) : f_slices_Concat_int.M_l2 c86 k (n + 1)  (f_slices_Concat_int.fr_l2 x6 x25 x26 x27) = f_slices_Concat_int.b_l2 c86 (fun x6 x25 x26 x27 => f_slices_Concat_int.M_l2 c86 k n  (f_slices_Concat_int.fr_l2 x6 x25 x26 x27)) x6 x25 x26 x27 := by kernel_rfl
theorem f_slices_Concat_int.e_l2 (c86 : f_slices_Grow_int.E) (k n : Nat)  (x6 : List (Int)) (x25 : List (List (Int))) (x26 : Int) (x27 : Int) : f_slices_Concat_int.M_l2 c86 k n  (f_slices_Concat_int.fr_l2 x6 x25 x26 x27) = f_slices_Concat_int.l2 c86 k  n x6 x25 x26 x27 := by
  induction n generalizing x6 x25 x26 x27 with
  | zero => rw [f_slices_Concat_int.z_l2]; rfl
  | succ n ih =>
    rw [f_slices_Concat_int.r_l2]
    simp only [ih]
    rfl
theorem f_slices_Concat_int.e_l0 (c86 : f_slices_Grow_int.E) (k n : Nat)  (x0 : List (List (Int))) (x3 : Int) (x9 : List (List (Int))) (x10 : Int) (x11 : Int) : f_slices_Concat_int.M_l0 c86 k n  (f_slices_Concat_int.fr_l0 x0 x3 x9 x10 x11) = f_slices_Concat_int.l0 c86 k  n x0 x3 x9 x10 x11 := by
  induction n generalizing x0 x3 x9 x10 x11 with
  | zero => rw [f_slices_Concat_int.z_l0]; rfl
  | succ n ih =>
    rw [f_slices_Concat_int.r_l0]
    simp only [f_slices_Concat_int.e_l2, ih]
    rfl
theorem f_slices_Concat_int.e (c86 : f_slices_Grow_int.E) (k : Nat) (a0 : List (List (Int))) : fn (f_slices_Concat_int.C c86) k Try.f80 f_slices_Concat_int.A f_slices_Concat_int.R a0 = f_slices_Concat_int.f c86 k a0 := by
  rw [f_slices_Concat_int.r]
  simp only [f_slices_Concat_int.e_l0]
  rfl
def f_slices_Concat_int.u (k : Nat) : f_slices_Concat_int.E := fun y => f_slices_Concat_int.f (f_slices_Grow_int.u k) k y
theorem f_slices_Concat_int.ty (c86 : f_slices_Grow_int.E) : TyOk Try.prog (f_slices_Concat_int.C c86) := tyOk_of (by kernel_rfl)
theorem f_slices_Concat_int.sound (k : Nat) : Sound Try.prog ⟨80, f_slices_Concat_int.A, f_slices_Concat_int.R, f_slices_Concat_int.u k⟩ := by
  have h := fn_sound (k := k) («as» := f_slices_Concat_int.A) (rs := f_slices_Concat_int.R) (f_slices_Concat_int.ty (f_slices_Grow_int.u k)) (fun E h => by
    simp only [f_slices_Concat_int.C, List.mem_cons, List.not_mem_nil, or_false] at h
    rcases h with rfl
    · exact f_slices_Grow_int.sound k) mixed Try.func80 (by kernel_rfl) (by kernel_rfl)
  have e : fn (f_slices_Concat_int.C (f_slices_Grow_int.u k)) k Try.f80 f_slices_Concat_int.A f_slices_Concat_int.R = f_slices_Concat_int.u k := by
    funext y
    exact f_slices_Concat_int.e (f_slices_Grow_int.u k) k y
  rw [e] at h
  exact h
/-! ### brindlewood/lineage.turned: f57 -/
abbrev f_lineage_turned.A : List Sh := [(.d (.sl 3 (.int .i64)))]
abbrev f_lineage_turned.R : List Sh := [(.d (.sl 3 (.int .i64)))]
abbrev f_lineage_turned.E : Type := (List (Int)) → Option (List (Int))
def f_lineage_turned.C (c79 : f_slices_Min_int.E) (c10 : f_slices_Index_int.E) (c80 : f_slices_Concat_int.E) : Ctx := { ty := [(22, (.sl 3 (.int .i64))), (30, (.sl 22 (.sl 3 (.int .i64))))], nf := [], by_ := [(3, 8), (22, 24)], env := [⟨79, f_slices_Min_int.A, f_slices_Min_int.R, c79⟩, ⟨10, f_slices_Index_int.A, f_slices_Index_int.R, c10⟩, ⟨80, f_slices_Concat_int.A, f_slices_Concat_int.R, c80⟩], spec := [] }
noncomputable def f_lineage_turned.code : Code := Func.code Try.f57
noncomputable def f_lineage_turned.fin (c79 : f_slices_Min_int.E) (c10 : f_slices_Index_int.E) (c80 : f_slices_Concat_int.E) := kfin (f_lineage_turned.C c79 c10 c80) Try.f57 f_lineage_turned.A f_lineage_turned.R
def f_lineage_turned.b (c79 : f_slices_Min_int.E) (c10 : f_slices_Index_int.E) (c80 : f_slices_Concat_int.E)  (a0 : List (Int)) : Option (List (Int)) :=
  (c79 a0).bind fun y1 =>
    (c10 (a0, y1)).bind fun y2 =>
      if 0 ≤ y2 ∧ y2 ≤ ((List.length a0) : Int) ∧ ((List.length a0) : Int) ≤ ((List.length a0) : Int) then
        if 0 ≤ (0 : Int) ∧ (0 : Int) ≤ y2 ∧ y2 ≤ ((List.length a0) : Int) then
          (c80 (List.take 2 ([(List.drop (Int.toNat y2) (List.take (Int.toNat ((List.length a0) : Int)) a0)), (List.drop (Int.toNat (0 : Int)) (List.take (Int.toNat y2) a0))] : List (List (Int))))).bind fun y3 =>
            some y3
        else none
      else none
def f_lineage_turned.c (c79 : f_slices_Min_int.E) (c10 : f_slices_Index_int.E) (c80 : f_slices_Concat_int.E)  (a0 : List (Int)) : Option (List (Int)) :=
  (c79 a0).bind fun y1 =>
    (c10 (a0, y1)).bind fun y2 =>
      if 0 ≤ y2 ∧ y2 ≤ ((List.length a0) : Int) then
        if (0 : Int) ≤ y2 ∧ y2 ≤ ((List.length a0) : Int) then
          (c80 (List.take 2 ([(List.drop (Int.toNat y2) a0), (List.take (Int.toNat y2) a0)] : List (List Int)))).bind fun y3 =>
            some y3
        else none
      else none
theorem f_lineage_turned.q (c79 : f_slices_Min_int.E) (c10 : f_slices_Index_int.E) (c80 : f_slices_Concat_int.E)  (a0 : List (Int)) : f_lineage_turned.b c79 c10 c80 a0 = f_lineage_turned.c c79 c10 c80 a0 := by
  simp only [f_lineage_turned.b, f_lineage_turned.c, List.take_length, take_one, Nat.zero_add, Int.toNat_natCast, Int.toNat_zero, List.drop_zero, List.append_eq, Nat.le_refl, Int.le_refl, true_and, and_true, zero_le_one, if_true, prod_eta, Int.natCast_zero]
def f_lineage_turned.f (c79 : f_slices_Min_int.E) (c10 : f_slices_Index_int.E) (c80 : f_slices_Concat_int.E) (k : Nat) (a0 : List (Int)) : Option (List (Int)) := f_lineage_turned.b c79 c10 c80  a0
theorem f_lineage_turned.r (c79 : f_slices_Min_int.E) (c10 : f_slices_Index_int.E) (c80 : f_slices_Concat_int.E) (k : Nat) (a0 : List (Int)) : fn (f_lineage_turned.C c79 c10 c80) k Try.f57 f_lineage_turned.A f_lineage_turned.R a0 = f_lineage_turned.b c79 c10 c80  a0 := by kernel_rfl
theorem f_lineage_turned.e (c79 : f_slices_Min_int.E) (c10 : f_slices_Index_int.E) (c80 : f_slices_Concat_int.E) (k : Nat) (a0 : List (Int)) : fn (f_lineage_turned.C c79 c10 c80) k Try.f57 f_lineage_turned.A f_lineage_turned.R a0 = f_lineage_turned.f c79 c10 c80 k a0 := by
  rw [f_lineage_turned.r]
  rfl
def f_lineage_turned.u (k : Nat) : f_lineage_turned.E := fun y => f_lineage_turned.f (f_slices_Min_int.u k) (f_slices_Index_int.u k) (f_slices_Concat_int.u k) k y
theorem f_lineage_turned.ty (c79 : f_slices_Min_int.E) (c10 : f_slices_Index_int.E) (c80 : f_slices_Concat_int.E) : TyOk Try.prog (f_lineage_turned.C c79 c10 c80) := tyOk_of (by kernel_rfl)
theorem f_lineage_turned.sound (k : Nat) : Sound Try.prog ⟨57, f_lineage_turned.A, f_lineage_turned.R, f_lineage_turned.u k⟩ := by
  have h := fn_sound (k := k) («as» := f_lineage_turned.A) (rs := f_lineage_turned.R) (f_lineage_turned.ty (f_slices_Min_int.u k) (f_slices_Index_int.u k) (f_slices_Concat_int.u k)) (fun E h => by
    simp only [f_lineage_turned.C, List.mem_cons, List.not_mem_nil, or_false] at h
    rcases h with rfl | rfl | rfl
    · exact f_slices_Min_int.sound k
    · exact f_slices_Index_int.sound k
    · exact f_slices_Concat_int.sound k) mixed Try.func57 (by kernel_rfl) (by kernel_rfl)
  have e : fn (f_lineage_turned.C (f_slices_Min_int.u k) (f_slices_Index_int.u k) (f_slices_Concat_int.u k)) k Try.f57 f_lineage_turned.A f_lineage_turned.R = f_lineage_turned.u k := by
    funext y
    exact f_lineage_turned.e (f_slices_Min_int.u k) (f_slices_Index_int.u k) (f_slices_Concat_int.u k) k y
  rw [e] at h
  exact h
/-! ### brindlewood/lineage.Blame$1: f59 -/
abbrev f_lineage_Blame_c1.A : List Sh := [(.d (.sl 3 (.int .i64))), (.pi (.int .i64))]
abbrev f_lineage_Blame_c1.R : List Sh := [(.d .bool)]
abbrev f_lineage_Blame_c1.E : Type := ((List (Int)) × (Int)) → Option (Bool)
def f_lineage_Blame_c1.C (c43 : f_slices_Contains_int.E) : Ctx := { ty := [(3, (.int .i64)), (22, (.sl 3 (.int .i64)))], nf := [], by_ := [(3, 8)], env := [⟨43, f_slices_Contains_int.A, f_slices_Contains_int.R, c43⟩], spec := [] }
noncomputable def f_lineage_Blame_c1.code : Code := Func.code Try.f59
noncomputable def f_lineage_Blame_c1.fin (c43 : f_slices_Contains_int.E) := kfin (f_lineage_Blame_c1.C c43) Try.f59 f_lineage_Blame_c1.A f_lineage_Blame_c1.R
def f_lineage_Blame_c1.b (c43 : f_slices_Contains_int.E)  (a0 : List (Int)) (a1 : Int) : Option (Bool) :=
  if 0 ≤ (1 : Int) ∧ (1 : Int) ≤ ((List.length a0) : Int) ∧ ((List.length a0) : Int) ≤ ((List.length a0) : Int) then
    (c43 ((List.drop (Int.toNat (1 : Int)) (List.take (Int.toNat ((List.length a0) : Int)) a0)), a1)).bind fun y1 =>
      some y1
  else none
def f_lineage_Blame_c1.c (c43 : f_slices_Contains_int.E)  (a0 : List (Int)) (a1 : Int) : Option (Bool) :=
  if (1 : Int) ≤ ((List.length a0) : Int) then
    (c43 ((List.drop (Int.toNat (1 : Int)) a0), a1)).bind fun y1 =>
      some y1
  else none
theorem f_lineage_Blame_c1.q (c43 : f_slices_Contains_int.E)  (a0 : List (Int)) (a1 : Int) : f_lineage_Blame_c1.b c43 a0 a1 = f_lineage_Blame_c1.c c43 a0 a1 := by
  simp only [f_lineage_Blame_c1.b, f_lineage_Blame_c1.c, List.take_length, take_one, Nat.zero_add, Int.toNat_natCast, Int.toNat_zero, List.drop_zero, List.append_eq, Nat.le_refl, Int.le_refl, true_and, and_true, zero_le_one, if_true, prod_eta, Int.natCast_zero]
def f_lineage_Blame_c1.f (c43 : f_slices_Contains_int.E) (k : Nat) (a0 : List (Int)) (a1 : Int) : Option (Bool) := f_lineage_Blame_c1.b c43  a0 a1
theorem f_lineage_Blame_c1.r (c43 : f_slices_Contains_int.E) (k : Nat) (a0 : List (Int)) (a1 : Int) : fn (f_lineage_Blame_c1.C c43) k Try.f59 f_lineage_Blame_c1.A f_lineage_Blame_c1.R (a0, a1) = f_lineage_Blame_c1.b c43  a0 a1 := by kernel_rfl
theorem f_lineage_Blame_c1.e (c43 : f_slices_Contains_int.E) (k : Nat) (a0 : List (Int)) (a1 : Int) : fn (f_lineage_Blame_c1.C c43) k Try.f59 f_lineage_Blame_c1.A f_lineage_Blame_c1.R (a0, a1) = f_lineage_Blame_c1.f c43 k a0 a1 := by
  rw [f_lineage_Blame_c1.r]
  rfl
def f_lineage_Blame_c1.u (k : Nat) : f_lineage_Blame_c1.E := fun y => f_lineage_Blame_c1.f (f_slices_Contains_int.u k) k y.1 y.2
theorem f_lineage_Blame_c1.ty (c43 : f_slices_Contains_int.E) : TyOk Try.prog (f_lineage_Blame_c1.C c43) := tyOk_of (by kernel_rfl)
theorem f_lineage_Blame_c1.sound (k : Nat) : Sound Try.prog ⟨59, f_lineage_Blame_c1.A, f_lineage_Blame_c1.R, f_lineage_Blame_c1.u k⟩ := by
  have h := fn_sound (k := k) («as» := f_lineage_Blame_c1.A) (rs := f_lineage_Blame_c1.R) (f_lineage_Blame_c1.ty (f_slices_Contains_int.u k)) (fun E h => by
    simp only [f_lineage_Blame_c1.C, List.mem_cons, List.not_mem_nil, or_false] at h
    rcases h with rfl
    · exact f_slices_Contains_int.sound k) mixed Try.func59 (by kernel_rfl) (by kernel_rfl)
  have e : fn (f_lineage_Blame_c1.C (f_slices_Contains_int.u k)) k Try.f59 f_lineage_Blame_c1.A f_lineage_Blame_c1.R = f_lineage_Blame_c1.u k := by
    funext y
    exact f_lineage_Blame_c1.e (f_slices_Contains_int.u k) k y.1 y.2
  rw [e] at h
  exact h
/-! ### brindlewood/lineage.Blame: f27 -/
abbrev f_lineage_Blame.A : List Sh := [(.d (.sl 22 (.sl 3 (.int .i64))))]
abbrev f_lineage_Blame.R : List Sh := [(.d (.sl 3 (.int .i64))), (.d Y_Fault)]
abbrev f_lineage_Blame.E : Type := (List (List (Int))) → Option ((List (Int)) × X_Fault)
def f_lineage_Blame.C (c36 : f_lineage_check.E) (c38 : f_lineage_lists.E) (c37 : f_lineage_merge.E) (c39 : f_lineage_fault.E) (c10 : f_slices_Index_int.E) (c57 : f_lineage_turned.E) (c58 : f_slices_IndexFunc_Lint.E) (c59 : f_lineage_Blame_c1.E) : Ctx := { ty := [(3, (.int .i64)), (22, (.sl 3 (.int .i64))), (27, Y_Fault), (30, (.sl 22 (.sl 3 (.int .i64))))], nf := [(27, 2)], by_ := [(3, 8), (22, 24)], env := [⟨36, f_lineage_check.A, f_lineage_check.R, c36⟩, ⟨38, f_lineage_lists.A, f_lineage_lists.R, c38⟩, ⟨37, f_lineage_merge.A, f_lineage_merge.R, c37⟩, ⟨39, f_lineage_fault.A, f_lineage_fault.R, c39⟩, ⟨10, f_slices_Index_int.A, f_slices_Index_int.R, c10⟩, ⟨57, f_lineage_turned.A, f_lineage_turned.R, c57⟩, ⟨58, f_slices_IndexFunc_Lint.A, f_slices_IndexFunc_Lint.R, c58⟩, ⟨59, f_lineage_Blame_c1.A, f_lineage_Blame_c1.R, c59⟩], spec := [(0, [.bx 3 600003 (.d Y_Fault), .d 6 (.sl 22 (.sl 3 (.int .i64))), .o 7 500007 3 (.int .i64), .bx 8 600008 (.d (.int .i64))])], inp := [⟨56, 3, .i64, List.reverse⟩] }
noncomputable def f_lineage_Blame.code : Code := Func.code Try.f27
noncomputable def f_lineage_Blame.fin (c36 : f_lineage_check.E) (c38 : f_lineage_lists.E) (c37 : f_lineage_merge.E) (c39 : f_lineage_fault.E) (c10 : f_slices_Index_int.E) (c57 : f_lineage_turned.E) (c58 : f_slices_IndexFunc_Lint.E) (c59 : f_lineage_Blame_c1.E) := kfin (f_lineage_Blame.C c36 c38 c37 c39 c10 c57 c58 c59) Try.f27 f_lineage_Blame.A f_lineage_Blame.R
def f_lineage_Blame.b (c36 : f_lineage_check.E) (c38 : f_lineage_lists.E) (c37 : f_lineage_merge.E) (c39 : f_lineage_fault.E) (c10 : f_slices_Index_int.E) (c57 : f_lineage_turned.E) (c58 : f_slices_IndexFunc_Lint.E) (c59 : f_lineage_Blame_c1.E) (r_l0 : X_Fault → (List (List (Int))) → (List (Int)) → (Int) → Option ((List (Int)) × X_Fault)) (a0 : List (List (Int))) : Option ((List (Int)) × X_Fault) :=
  (c36 a0).bind fun y1 =>
    bif (y1.1 != (0 : Int)) then
      some (([] : List (Int)), y1)
    else
      (c38 a0).bind fun y2 =>
        (c37 (List.take (List.length y2) y2)).bind fun y3 =>
          bif (((List.length y3.2) : Int) == (0 : Int)) then
            (c39 ((12 : Int), (-1 : Int))).bind fun y4 =>
              some (([] : List (Int)), y4)
          else
            if 0 ≤ (0 : Int) ∧ (0 : Int) < ((List.length y3.2) : Int) then
              if 0 ≤ (0 : Int) ∧ (0 : Int) < ((List.length (List.getD y3.2 (Int.toNat (0 : Int)) [])) : Int) then
                r_l0 ((0 : Int), (0 : Int)) y3.2 ([] : List (Int)) (List.getD (List.getD y3.2 (Int.toNat (0 : Int)) []) (Int.toNat (0 : Int)) (0 : Int))
              else none
            else none
def f_lineage_Blame.b_l0 (c36 : f_lineage_check.E) (c38 : f_lineage_lists.E) (c37 : f_lineage_merge.E) (c39 : f_lineage_fault.E) (c10 : f_slices_Index_int.E) (c57 : f_lineage_turned.E) (c58 : f_slices_IndexFunc_Lint.E) (c59 : f_lineage_Blame_c1.E) (n_l0 : X_Fault → (List (List (Int))) → (List (Int)) → (Int) → Option ((List (Int)) × X_Fault)) (x3 : (Int) × (Int)) (x6 : List (List (Int))) (x7 : List (Int)) (x8 : Int) : Option ((List (Int)) × X_Fault) :=
  (c10 ((List.take (List.length x7) x7), x8)).bind fun y5 =>
    bif (decide (y5 ≥ (0 : Int))) then
      if 0 ≤ y5 ∧ y5 ≤ (((List.length x7) : Nat) : Int) ∧ (((List.length x7) : Nat) : Int) ≤ (((List.length x7) : Nat) : Int) then
        if (0 + Int.toNat y5) + (Int.toNat ((((List.length x7) : Nat) : Int) - y5)) ≤ (List.length x7) then
          (c57 (List.take (Int.toNat ((((List.length x7) : Nat) : Int) - y5)) (List.drop (0 + Int.toNat y5) (List.append (List.take (0 + Int.toNat y5) x7) (List.append (List.reverse (List.take (Int.toNat ((((List.length x7) : Nat) : Int) - y5)) (List.drop (0 + Int.toNat y5) x7))) (List.drop ((0 + Int.toNat y5) + (Int.toNat ((((List.length x7) : Nat) : Int) - y5))) x7)))))).bind fun y6 =>
            some (y6, ((0 : Int), (0 : Int)))
        else none
      else none
    else
      if (List.length x7) ≤ (List.length x7) ∧ ((List.length x7) + (List.length (List.take 1 ([x8] : List (Int))))) * 8 ≤ LIM then
        (c58 (x6, (fun z7 => (c59 (z7.1, x8)).bind some))).bind fun y8 =>
          if 0 ≤ y8 ∧ y8 < ((List.length x6) : Int) then
            if 0 ≤ (0 : Int) ∧ (0 : Int) < ((List.length (List.getD x6 (Int.toNat y8) [])) : Int) then
              n_l0 x3 x6 (List.take (List.length (List.append (List.take (List.length x7) x7) (List.take 1 ([x8] : List (Int))))) (List.append (List.take (List.length x7) x7) (List.take 1 ([x8] : List (Int))))) (List.getD (List.getD x6 (Int.toNat y8) []) (Int.toNat (0 : Int)) (0 : Int))
            else none
          else none
      else none
def f_lineage_Blame.c (c36 : f_lineage_check.E) (c38 : f_lineage_lists.E) (c37 : f_lineage_merge.E) (c39 : f_lineage_fault.E) (c10 : f_slices_Index_int.E) (c57 : f_lineage_turned.E) (c58 : f_slices_IndexFunc_Lint.E) (c59 : f_lineage_Blame_c1.E) (r_l0 : X_Fault → (List (List (Int))) → (List (Int)) → (Int) → Option ((List (Int)) × X_Fault)) (a0 : List (List (Int))) : Option ((List (Int)) × X_Fault) :=
  (c36 a0).bind fun y1 =>
    bif (y1.1 != (0 : Int)) then
      some (([] : List Int), y1)
    else
      (c38 a0).bind fun y2 =>
        (c37 y2).bind fun y3 =>
          bif (((List.length y3.2) : Int) == (0 : Int)) then
            (c39 ((12 : Int), (-1 : Int))).bind fun y4 =>
              some (([] : List Int), y4)
          else
            if (0 : Int) < ((List.length y3.2) : Int) then
              if (0 : Int) < ((List.length (List.getD y3.2 0 [])) : Int) then
                r_l0 ((0 : Int), (0 : Int)) y3.2 ([] : List Int) (List.getD (List.getD y3.2 0 []) 0 (0 : Int))
              else none
            else none
theorem f_lineage_Blame.q (c36 : f_lineage_check.E) (c38 : f_lineage_lists.E) (c37 : f_lineage_merge.E) (c39 : f_lineage_fault.E) (c10 : f_slices_Index_int.E) (c57 : f_lineage_turned.E) (c58 : f_slices_IndexFunc_Lint.E) (c59 : f_lineage_Blame_c1.E) (r_l0 : X_Fault → (List (List (Int))) → (List (Int)) → (Int) → Option ((List (Int)) × X_Fault)) (a0 : List (List (Int))) : f_lineage_Blame.b c36 c38 c37 c39 c10 c57 c58 c59 r_l0 a0 = f_lineage_Blame.c c36 c38 c37 c39 c10 c57 c58 c59 r_l0 a0 := by
  simp only [f_lineage_Blame.b, f_lineage_Blame.c, List.take_length, take_one, Nat.zero_add, Int.toNat_natCast, Int.toNat_zero, List.drop_zero, List.append_eq, Nat.le_refl, Int.le_refl, true_and, and_true, zero_le_one, if_true, prod_eta, Int.natCast_zero]
def f_lineage_Blame.c_l0 (c36 : f_lineage_check.E) (c38 : f_lineage_lists.E) (c37 : f_lineage_merge.E) (c39 : f_lineage_fault.E) (c10 : f_slices_Index_int.E) (c57 : f_lineage_turned.E) (c58 : f_slices_IndexFunc_Lint.E) (c59 : f_lineage_Blame_c1.E) (n_l0 : X_Fault → (List (List (Int))) → (List (Int)) → (Int) → Option ((List (Int)) × X_Fault)) (x3 : (Int) × (Int)) (x6 : List (List (Int))) (x7 : List (Int)) (x8 : Int) : Option ((List (Int)) × X_Fault) :=
  (c10 (x7, x8)).bind fun y5 =>
    bif (decide (y5 ≥ (0 : Int))) then
      if 0 ≤ y5 ∧ y5 ≤ ((List.length x7) : Int) then
        if (0 + Int.toNat y5) + (Int.toNat (((List.length x7) : Int) - y5)) ≤ (List.length x7) then
          (c57 (List.take (Int.toNat (((List.length x7) : Int) - y5)) (List.drop (0 + Int.toNat y5) ((List.take (0 + Int.toNat y5) x7) ++ ((List.reverse (List.take (Int.toNat (((List.length x7) : Int) - y5)) (List.drop (0 + Int.toNat y5) x7))) ++ (List.drop ((0 + Int.toNat y5) + (Int.toNat (((List.length x7) : Int) - y5))) x7)))))).bind fun y6 =>
            some (y6, ((0 : Int), (0 : Int)))
        else none
      else none
    else
      if ((List.length x7) + (List.length ([x8] : List Int))) * 8 ≤ LIM then
        (c58 (x6, (fun z7 => (c59 (z7.1, x8)).bind some))).bind fun y8 =>
          if 0 ≤ y8 ∧ y8 < ((List.length x6) : Int) then
            if (0 : Int) < ((List.length (List.getD x6 (Int.toNat y8) [])) : Int) then
              n_l0 x3 x6 (x7 ++ ([x8] : List Int)) (List.getD (List.getD x6 (Int.toNat y8) []) 0 (0 : Int))
            else none
          else none
      else none
theorem f_lineage_Blame.q_l0 (c36 : f_lineage_check.E) (c38 : f_lineage_lists.E) (c37 : f_lineage_merge.E) (c39 : f_lineage_fault.E) (c10 : f_slices_Index_int.E) (c57 : f_lineage_turned.E) (c58 : f_slices_IndexFunc_Lint.E) (c59 : f_lineage_Blame_c1.E) (n_l0 : X_Fault → (List (List (Int))) → (List (Int)) → (Int) → Option ((List (Int)) × X_Fault)) (x3 : (Int) × (Int)) (x6 : List (List (Int))) (x7 : List (Int)) (x8 : Int) : f_lineage_Blame.b_l0 c36 c38 c37 c39 c10 c57 c58 c59 n_l0 x3 x6 x7 x8 = f_lineage_Blame.c_l0 c36 c38 c37 c39 c10 c57 c58 c59 n_l0 x3 x6 x7 x8 := by
  simp only [f_lineage_Blame.b_l0, f_lineage_Blame.c_l0, List.take_length, take_one, Nat.zero_add, Int.toNat_natCast, Int.toNat_zero, List.drop_zero, List.append_eq, Nat.le_refl, Int.le_refl, true_and, and_true, zero_le_one, if_true, prod_eta, Int.natCast_zero]
def f_lineage_Blame.l0 (c36 : f_lineage_check.E) (c38 : f_lineage_lists.E) (c37 : f_lineage_merge.E) (c39 : f_lineage_fault.E) (c10 : f_slices_Index_int.E) (c57 : f_lineage_turned.E) (c58 : f_slices_IndexFunc_Lint.E) (c59 : f_lineage_Blame_c1.E) (k : Nat)  : Nat → X_Fault → (List (List (Int))) → (List (Int)) → (Int) → Option ((List (Int)) × X_Fault)
  | 0, _, _, _, _ => none
  | n + 1, x3, x6, x7, x8 => f_lineage_Blame.b_l0 c36 c38 c37 c39 c10 c57 c58 c59 (fun x3 x6 x7 x8 => f_lineage_Blame.l0 c36 c38 c37 c39 c10 c57 c58 c59 k  n x3 x6 x7 x8) x3 x6 x7 x8
def f_lineage_Blame.f (c36 : f_lineage_check.E) (c38 : f_lineage_lists.E) (c37 : f_lineage_merge.E) (c39 : f_lineage_fault.E) (c10 : f_slices_Index_int.E) (c57 : f_lineage_turned.E) (c58 : f_slices_IndexFunc_Lint.E) (c59 : f_lineage_Blame_c1.E) (k : Nat) (a0 : List (List (Int))) : Option ((List (Int)) × X_Fault) := f_lineage_Blame.b c36 c38 c37 c39 c10 c57 c58 c59 (f_lineage_Blame.l0 c36 c38 c37 c39 c10 c57 c58 c59 k k) a0
noncomputable def f_lineage_Blame.M_l0 (c36 : f_lineage_check.E) (c38 : f_lineage_lists.E) (c37 : f_lineage_merge.E) (c39 : f_lineage_fault.E) (c10 : f_slices_Index_int.E) (c57 : f_lineage_turned.E) (c58 : f_slices_IndexFunc_Lint.E) (c59 : f_lineage_Blame_c1.E) (k n : Nat)  (s : St) : Option ((List (Int)) × X_Fault) := atLoop (f_lineage_Blame.C c36 c38 c37 c39 c10 c57 c58 c59) k n [1, 1, 1, 1, 1, 1, 0] [] f_lineage_Blame.code (f_lineage_Blame.fin c36 c38 c37 c39 c10 c57 c58 c59) s
noncomputable def f_lineage_Blame.fr_l0 (x3 : (Int) × (Int)) (x6 : List (List (Int))) (x7 : List (Int)) (x8 : Int) : St := ⟨(((((List.replicate 59 V.un).set 3 (V.bp 600003 0 [])).set 6 (V.dat (.sl 22 (.sl 3 (.int .i64))) x6)).set 7 (V.ref 500007 0 0 (List.length x7))).set 8 (V.bp 600008 0 [])), [⟨600008, 0, .box (V.dat (.int .i64) x8)⟩, ⟨500007, 0, .arr 3 (.int .i64) x7⟩, ⟨600003, 0, .box (V.dat Y_Fault x3)⟩]⟩
theorem f_lineage_Blame.r (c36 : f_lineage_check.E) (c38 : f_lineage_lists.E) (c37 : f_lineage_merge.E) (c39 : f_lineage_fault.E) (c10 : f_slices_Index_int.E) (c57 : f_lineage_turned.E) (c58 : f_slices_IndexFunc_Lint.E) (c59 : f_lineage_Blame_c1.E) (k : Nat) (a0 : List (List (Int))) : fn (f_lineage_Blame.C c36 c38 c37 c39 c10 c57 c58 c59) k Try.f27 f_lineage_Blame.A f_lineage_Blame.R a0 = f_lineage_Blame.b c36 c38 c37 c39 c10 c57 c58 c59 (fun x3 x6 x7 x8 => f_lineage_Blame.M_l0 c36 c38 c37 c39 c10 c57 c58 c59 k k  (f_lineage_Blame.fr_l0 x3 x6 x7 x8)) a0 := by kernel_rfl
theorem f_lineage_Blame.z_l0 (c36 : f_lineage_check.E) (c38 : f_lineage_lists.E) (c37 : f_lineage_merge.E) (c39 : f_lineage_fault.E) (c10 : f_slices_Index_int.E) (c57 : f_lineage_turned.E) (c58 : f_slices_IndexFunc_Lint.E) (c59 : f_lineage_Blame_c1.E) (k : Nat)  (s : St) : f_lineage_Blame.M_l0 c36 c38 c37 c39 c10 c57 c58 c59 k 0  s = none := by kernel_rfl
theorem f_lineage_Blame.r_l0 (c36 : f_lineage_check.E) (c38 : f_lineage_lists.E) (c37 : f_lineage_merge.E) (c39 : f_lineage_fault.E) (c10 : f_slices_Index_int.E) (c57 : f_lineage_turned.E) (c58 : f_slices_IndexFunc_Lint.E) (c59 : f_lineage_Blame_c1.E) (k n : Nat)  (x3 : (Int) × (Int)) (x6 : List (List (Int))) (x7 : List (Int)) (x8 : Int) : f_lineage_Blame.M_l0 c36 c38 c37 c39 c10 c57 c58 c59 k (n + 1)  (f_lineage_Blame.fr_l0 x3 x6 x7 x8) = f_lineage_Blame.b_l0 c36 c38 c37 c39 c10 c57 c58 c59 (fun x3 x6 x7 x8 => f_lineage_Blame.M_l0 c36 c38 c37 c39 c10 c57 c58 c59 k n  (f_lineage_Blame.fr_l0 x3 x6 x7 x8)) x3 x6 x7 x8 := by kernel_rfl
theorem f_lineage_Blame.e_l0 (c36 : f_lineage_check.E) (c38 : f_lineage_lists.E) (c37 : f_lineage_merge.E) (c39 : f_lineage_fault.E) (c10 : f_slices_Index_int.E) (c57 : f_lineage_turned.E) (c58 : f_slices_IndexFunc_Lint.E) (c59 : f_lineage_Blame_c1.E) (k n : Nat)  (x3 : (Int) × (Int)) (x6 : List (List (Int))) (x7 : List (Int)) (x8 : Int) : f_lineage_Blame.M_l0 c36 c38 c37 c39 c10 c57 c58 c59 k n  (f_lineage_Blame.fr_l0 x3 x6 x7 x8) = f_lineage_Blame.l0 c36 c38 c37 c39 c10 c57 c58 c59 k  n x3 x6 x7 x8 := by
  induction n generalizing x3 x6 x7 x8 with
  | zero => rw [f_lineage_Blame.z_l0]; rfl
  | succ n ih =>
    rw [f_lineage_Blame.r_l0]
    simp only [ih]
    rfl
theorem f_lineage_Blame.e (c36 : f_lineage_check.E) (c38 : f_lineage_lists.E) (c37 : f_lineage_merge.E) (c39 : f_lineage_fault.E) (c10 : f_slices_Index_int.E) (c57 : f_lineage_turned.E) (c58 : f_slices_IndexFunc_Lint.E) (c59 : f_lineage_Blame_c1.E) (k : Nat) (a0 : List (List (Int))) : fn (f_lineage_Blame.C c36 c38 c37 c39 c10 c57 c58 c59) k Try.f27 f_lineage_Blame.A f_lineage_Blame.R a0 = f_lineage_Blame.f c36 c38 c37 c39 c10 c57 c58 c59 k a0 := by
  rw [f_lineage_Blame.r]
  simp only [f_lineage_Blame.e_l0]
  rfl
def f_lineage_Blame.u (k : Nat) : f_lineage_Blame.E := fun y => f_lineage_Blame.f (f_lineage_check.u k) (f_lineage_lists.u k) (f_lineage_merge.u k) (f_lineage_fault.u k) (f_slices_Index_int.u k) (f_lineage_turned.u k) (f_slices_IndexFunc_Lint.u k) (f_lineage_Blame_c1.u k) k y
theorem f_lineage_Blame.ty (c36 : f_lineage_check.E) (c38 : f_lineage_lists.E) (c37 : f_lineage_merge.E) (c39 : f_lineage_fault.E) (c10 : f_slices_Index_int.E) (c57 : f_lineage_turned.E) (c58 : f_slices_IndexFunc_Lint.E) (c59 : f_lineage_Blame_c1.E) : TyOk Try.prog (f_lineage_Blame.C c36 c38 c37 c39 c10 c57 c58 c59) := tyOk_of (by kernel_rfl)
theorem f_lineage_Blame.sound (k : Nat) : Sound Try.prog ⟨27, f_lineage_Blame.A, f_lineage_Blame.R, f_lineage_Blame.u k⟩ := by
  have h := fn_sound_in (k := k) («as» := f_lineage_Blame.A) (rs := f_lineage_Blame.R) (f_lineage_Blame.ty (f_lineage_check.u k) (f_lineage_lists.u k) (f_lineage_merge.u k) (f_lineage_fault.u k) (f_slices_Index_int.u k) (f_lineage_turned.u k) (f_slices_IndexFunc_Lint.u k) (f_lineage_Blame_c1.u k)) (⟨fun E h => by
    simp only [f_lineage_Blame.C, List.mem_cons, List.not_mem_nil, or_false] at h
    rcases h with rfl | rfl | rfl | rfl | rfl | rfl | rfl | rfl
    · exact f_lineage_check.sound k
    · exact f_lineage_lists.sound k
    · exact f_lineage_merge.sound k
    · exact f_lineage_fault.sound k
    · exact f_slices_Index_int.sound k
    · exact f_lineage_turned.sound k
    · exact f_slices_IndexFunc_Lint.sound k
    · exact f_lineage_Blame_c1.sound k, fun I h => by
    simp only [f_lineage_Blame.C, List.mem_cons, List.not_mem_nil, or_false] at h
    rcases h with rfl
    · exact reverse_inp⟩) mixed Try.func27 (by kernel_rfl) (by kernel_rfl)
  have e : fn (f_lineage_Blame.C (f_lineage_check.u k) (f_lineage_lists.u k) (f_lineage_merge.u k) (f_lineage_fault.u k) (f_slices_Index_int.u k) (f_lineage_turned.u k) (f_slices_IndexFunc_Lint.u k) (f_lineage_Blame_c1.u k)) k Try.f27 f_lineage_Blame.A f_lineage_Blame.R = f_lineage_Blame.u k := by
    funext y
    exact f_lineage_Blame.e (f_lineage_check.u k) (f_lineage_lists.u k) (f_lineage_merge.u k) (f_lineage_fault.u k) (f_slices_Index_int.u k) (f_lineage_turned.u k) (f_slices_IndexFunc_Lint.u k) (f_lineage_Blame_c1.u k) k y
  rw [e] at h
  exact h
/-! ### brindlewood/brindlewoodref7.Blamed: f28 -/
abbrev f_ref7_Blamed.A : List Sh := [(.d (.sl 22 (.sl 3 (.int .i64))))]
abbrev f_ref7_Blamed.R : List Sh := [(.d (.sl 3 (.int .i64))), (.d Y_Fault)]
abbrev f_ref7_Blamed.E : Type := (List (List (Int))) → Option ((List (Int)) × X_Fault)
def f_ref7_Blamed.C (c40 : f_ref7_OrdersFault.E) (c41 : f_ref7_Merged.E) (c34 : f_ref7_At.E) (c17 : f_ref7_HasInt.E) (c10 : f_slices_Index_int.E) : Ctx := { ty := [(3, (.int .i64)), (22, (.sl 3 (.int .i64))), (27, Y_Fault), (30, (.sl 22 (.sl 3 (.int .i64))))], nf := [(27, 2)], by_ := [(3, 8), (22, 24)], env := [⟨40, f_ref7_OrdersFault.A, f_ref7_OrdersFault.R, c40⟩, ⟨41, f_ref7_Merged.A, f_ref7_Merged.R, c41⟩, ⟨34, f_ref7_At.A, f_ref7_At.R, c34⟩, ⟨17, f_ref7_HasInt.A, f_ref7_HasInt.R, c17⟩, ⟨10, f_slices_Index_int.A, f_slices_Index_int.R, c10⟩], spec := [(0, [.bx 3 600003 (.d Y_Fault), .d 6 (.sl 22 (.sl 3 (.int .i64))), .o 7 500007 3 (.int .i64), .d 8 (.int .i64)]), (2, [.bx 3 600003 (.d Y_Fault), .d 6 (.sl 22 (.sl 3 (.int .i64))), .o 7 500007 3 (.int .i64), .d 8 (.int .i64), .d 43 (.sl 22 (.sl 3 (.int .i64))), .d 44 (.int .i64), .d 45 (.int .i64)]), (4, [.bx 3 600003 (.d Y_Fault), .d 7 (.sl 3 (.int .i64)), .d 11 (.int .i64), .d 63 (.int .i64), .d 64 (.int .i64)]), (6, [.bx 3 600003 (.d Y_Fault), .d 7 (.sl 3 (.int .i64)), .d 11 (.int .i64), .o 13 500013 3 (.int .i64), .d 79 (.int .i64), .d 80 (.int .i64)])] }
noncomputable def f_ref7_Blamed.code : Code := Func.code Try.f28
noncomputable def f_ref7_Blamed.fin (c40 : f_ref7_OrdersFault.E) (c41 : f_ref7_Merged.E) (c34 : f_ref7_At.E) (c17 : f_ref7_HasInt.E) (c10 : f_slices_Index_int.E) := kfin (f_ref7_Blamed.C c40 c41 c34 c17 c10) Try.f28 f_ref7_Blamed.A f_ref7_Blamed.R
def f_ref7_Blamed.b (c40 : f_ref7_OrdersFault.E) (c41 : f_ref7_Merged.E) (c34 : f_ref7_At.E) (c17 : f_ref7_HasInt.E) (c10 : f_slices_Index_int.E) (r_l0 : X_Fault → (List (List (Int))) → (List (Int)) → (Int) → Option ((List (Int)) × X_Fault)) (a0 : List (List (Int))) : Option ((List (Int)) × X_Fault) :=
  (c40 a0).bind fun y1 =>
    bif (y1.1 != (0 : Int)) then
      some (([] : List (Int)), y1)
    else
      (c41 a0).bind fun y2 =>
        bif (((List.length y2.2) : Int) == (0 : Int)) then
          (c34 ((12 : Int), (-1 : Int))).bind fun y3 =>
            some (([] : List (Int)), y3)
        else
          if 0 ≤ (0 : Int) ∧ (0 : Int) < ((List.length y2.2) : Int) then
            if 0 ≤ (0 : Int) ∧ (0 : Int) < ((List.length (List.getD y2.2 (Int.toNat (0 : Int)) [])) : Int) then
              r_l0 ((0 : Int), (0 : Int)) y2.2 ([] : List (Int)) (List.getD (List.getD y2.2 (Int.toNat (0 : Int)) []) (Int.toNat (0 : Int)) (0 : Int))
            else none
          else none
def f_ref7_Blamed.b_l0 (c40 : f_ref7_OrdersFault.E) (c41 : f_ref7_Merged.E) (c34 : f_ref7_At.E) (c17 : f_ref7_HasInt.E) (c10 : f_slices_Index_int.E) (r_l2 : X_Fault → (List (List (Int))) → (List (Int)) → (Int) → (List (List (Int))) → (Int) → (Int) → Option ((List (Int)) × X_Fault)) (r_l4 : X_Fault → (List (Int)) → (Int) → (Int) → (Int) → Option ((List (Int)) × X_Fault)) (x3 : (Int) × (Int)) (x6 : List (List (Int))) (x7 : List (Int)) (x8 : Int) : Option ((List (Int)) × X_Fault) :=
  (c17 ((List.take (List.length x7) x7), x8)).bind fun y4 =>
    bif (!y4) then
      if (List.length x7) ≤ (List.length x7) ∧ ((List.length x7) + (List.length (List.take 1 ([x8] : List (Int))))) * 8 ≤ LIM then
        r_l2 x3 x6 (List.take (List.length (List.append (List.take (List.length x7) x7) (List.take 1 ([x8] : List (Int))))) (List.append (List.take (List.length x7) x7) (List.take 1 ([x8] : List (Int))))) x8 x6 ((List.length x6) : Int) (0 : Int)
      else none
    else
      (c10 ((List.take (List.length x7) x7), x8)).bind fun y6 =>
        if 0 ≤ y6 ∧ y6 ≤ (((List.length x7) : Nat) : Int) ∧ (((List.length x7) : Nat) : Int) ≤ (((List.length x7) : Nat) : Int) then
          r_l4 x3 (List.take (Int.toNat ((((List.length x7) : Nat) : Int) - y6)) (List.drop (0 + Int.toNat y6) x7)) (0 : Int) (((Int.toNat ((((List.length x7) : Nat) : Int) - y6)) : Nat) : Int) (0 : Int)
        else none
def f_ref7_Blamed.b_l2 (c40 : f_ref7_OrdersFault.E) (c41 : f_ref7_Merged.E) (c34 : f_ref7_At.E) (c17 : f_ref7_HasInt.E) (c10 : f_slices_Index_int.E) (n_l0 : X_Fault → (List (List (Int))) → (List (Int)) → (Int) → Option ((List (Int)) × X_Fault)) (n_l2 : X_Fault → (List (List (Int))) → (List (Int)) → (Int) → (List (List (Int))) → (Int) → (Int) → Option ((List (Int)) × X_Fault)) (x3 : (Int) × (Int)) (x6 : List (List (Int))) (x7 : List (Int)) (x8 : Int) (x43 : List (List (Int))) (x44 : Int) (x45 : Int) : Option ((List (Int)) × X_Fault) :=
  bif (decide (x45 < x44)) then
    if 0 ≤ x45 ∧ x45 < ((List.length x43) : Int) then
      if 0 ≤ (1 : Int) ∧ (1 : Int) ≤ ((List.length (List.getD x43 (Int.toNat x45) [])) : Int) ∧ ((List.length (List.getD x43 (Int.toNat x45) [])) : Int) ≤ ((List.length (List.getD x43 (Int.toNat x45) [])) : Int) then
        (c17 ((List.drop (Int.toNat (1 : Int)) (List.take (Int.toNat ((List.length (List.getD x43 (Int.toNat x45) [])) : Int)) (List.getD x43 (Int.toNat x45) []))), x8)).bind fun y5 =>
          bif y5 then
            if 0 ≤ (0 : Int) ∧ (0 : Int) < ((List.length (List.getD x43 (Int.toNat x45) [])) : Int) then
              n_l0 x3 x6 (List.take (List.length x7) x7) (List.getD (List.getD x43 (Int.toNat x45) []) (Int.toNat (0 : Int)) (0 : Int))
            else none
          else
            n_l2 x3 x6 (List.take (List.length x7) x7) x8 x43 x44 (IntKind.i64.wrap (x45 + (1 : Int)))
      else none
    else none
  else
    n_l0 x3 x6 (List.take (List.length x7) x7) x8
def f_ref7_Blamed.b_l4 (c40 : f_ref7_OrdersFault.E) (c41 : f_ref7_Merged.E) (c34 : f_ref7_At.E) (c17 : f_ref7_HasInt.E) (c10 : f_slices_Index_int.E) (n_l4 : X_Fault → (List (Int)) → (Int) → (Int) → (Int) → Option ((List (Int)) × X_Fault)) (r_l6 : X_Fault → (List (Int)) → (Int) → (List (Int)) → (Int) → (Int) → Option ((List (Int)) × X_Fault)) (x3 : (Int) × (Int)) (x7 : List (Int)) (x11 : Int) (x63 : Int) (x64 : Int) : Option ((List (Int)) × X_Fault) :=
  bif (decide (x64 < x63)) then
    if 0 ≤ x64 ∧ x64 < ((List.length x7) : Int) then
      if 0 ≤ x11 ∧ x11 < ((List.length x7) : Int) then
        bif (decide ((List.getD x7 (Int.toNat x64) (0 : Int)) < (List.getD x7 (Int.toNat x11) (0 : Int)))) then
          n_l4 x3 x7 x64 x63 (IntKind.i64.wrap (x64 + (1 : Int)))
        else
          n_l4 x3 x7 x11 x63 (IntKind.i64.wrap (x64 + (1 : Int)))
      else none
    else none
  else
    r_l6 x3 x7 x11 ([] : List (Int)) ((List.length x7) : Int) (0 : Int)
def f_ref7_Blamed.b_l6 (c40 : f_ref7_OrdersFault.E) (c41 : f_ref7_Merged.E) (c34 : f_ref7_At.E) (c17 : f_ref7_HasInt.E) (c10 : f_slices_Index_int.E) (n_l6 : X_Fault → (List (Int)) → (Int) → (List (Int)) → (Int) → (Int) → Option ((List (Int)) × X_Fault)) (x3 : (Int) × (Int)) (x7 : List (Int)) (x11 : Int) (x13 : List (Int)) (x79 : Int) (x80 : Int) : Option ((List (Int)) × X_Fault) :=
  bif (decide (x80 < x79)) then
    if ((List.length x7) : Int) = 0 then none else
      if 0 ≤ (Int.tmod (IntKind.i64.wrap ((IntKind.i64.wrap (x11 - x80)) + ((List.length x7) : Int))) ((List.length x7) : Int)) ∧ (Int.tmod (IntKind.i64.wrap ((IntKind.i64.wrap (x11 - x80)) + ((List.length x7) : Int))) ((List.length x7) : Int)) < ((List.length x7) : Int) then
        if (List.length x13) ≤ (List.length x13) ∧ ((List.length x13) + (List.length (List.take 1 ([(List.getD x7 (Int.toNat (Int.tmod (IntKind.i64.wrap ((IntKind.i64.wrap (x11 - x80)) + ((List.length x7) : Int))) ((List.length x7) : Int))) (0 : Int))] : List (Int))))) * 8 ≤ LIM then
          n_l6 x3 x7 x11 (List.take (List.length (List.append (List.take (List.length x13) x13) (List.take 1 ([(List.getD x7 (Int.toNat (Int.tmod (IntKind.i64.wrap ((IntKind.i64.wrap (x11 - x80)) + ((List.length x7) : Int))) ((List.length x7) : Int))) (0 : Int))] : List (Int))))) (List.append (List.take (List.length x13) x13) (List.take 1 ([(List.getD x7 (Int.toNat (Int.tmod (IntKind.i64.wrap ((IntKind.i64.wrap (x11 - x80)) + ((List.length x7) : Int))) ((List.length x7) : Int))) (0 : Int))] : List (Int))))) x79 (IntKind.i64.wrap (x80 + (1 : Int)))
        else none
      else none
  else
    some ((List.take (List.length x13) x13), ((0 : Int), (0 : Int)))
def f_ref7_Blamed.c (c40 : f_ref7_OrdersFault.E) (c41 : f_ref7_Merged.E) (c34 : f_ref7_At.E) (c17 : f_ref7_HasInt.E) (c10 : f_slices_Index_int.E) (r_l0 : X_Fault → (List (List (Int))) → (List (Int)) → (Int) → Option ((List (Int)) × X_Fault)) (a0 : List (List (Int))) : Option ((List (Int)) × X_Fault) :=
  (c40 a0).bind fun y1 =>
    bif (y1.1 != (0 : Int)) then
      some (([] : List Int), y1)
    else
      (c41 a0).bind fun y2 =>
        bif (((List.length y2.2) : Int) == (0 : Int)) then
          (c34 ((12 : Int), (-1 : Int))).bind fun y3 =>
            some (([] : List Int), y3)
        else
          if (0 : Int) < ((List.length y2.2) : Int) then
            if (0 : Int) < ((List.length (List.getD y2.2 0 [])) : Int) then
              r_l0 ((0 : Int), (0 : Int)) y2.2 ([] : List Int) (List.getD (List.getD y2.2 0 []) 0 (0 : Int))
            else none
          else none
theorem f_ref7_Blamed.q (c40 : f_ref7_OrdersFault.E) (c41 : f_ref7_Merged.E) (c34 : f_ref7_At.E) (c17 : f_ref7_HasInt.E) (c10 : f_slices_Index_int.E) (r_l0 : X_Fault → (List (List (Int))) → (List (Int)) → (Int) → Option ((List (Int)) × X_Fault)) (a0 : List (List (Int))) : f_ref7_Blamed.b c40 c41 c34 c17 c10 r_l0 a0 = f_ref7_Blamed.c c40 c41 c34 c17 c10 r_l0 a0 := by
  simp only [f_ref7_Blamed.b, f_ref7_Blamed.c, List.take_length, take_one, Nat.zero_add, Int.toNat_natCast, Int.toNat_zero, List.drop_zero, List.append_eq, Nat.le_refl, Int.le_refl, true_and, and_true, zero_le_one, if_true, prod_eta, Int.natCast_zero]
def f_ref7_Blamed.c_l0 (c40 : f_ref7_OrdersFault.E) (c41 : f_ref7_Merged.E) (c34 : f_ref7_At.E) (c17 : f_ref7_HasInt.E) (c10 : f_slices_Index_int.E) (r_l2 : X_Fault → (List (List (Int))) → (List (Int)) → (Int) → (List (List (Int))) → (Int) → (Int) → Option ((List (Int)) × X_Fault)) (r_l4 : X_Fault → (List (Int)) → (Int) → (Int) → (Int) → Option ((List (Int)) × X_Fault)) (x3 : (Int) × (Int)) (x6 : List (List (Int))) (x7 : List (Int)) (x8 : Int) : Option ((List (Int)) × X_Fault) :=
  (c17 (x7, x8)).bind fun y4 =>
    bif !y4 then
      if ((List.length x7) + (List.length ([x8] : List Int))) * 8 ≤ LIM then
        r_l2 x3 x6 (x7 ++ ([x8] : List Int)) x8 x6 ((List.length x6) : Int) (0 : Int)
      else none
    else
      (c10 (x7, x8)).bind fun y6 =>
        if 0 ≤ y6 ∧ y6 ≤ ((List.length x7) : Int) then
          r_l4 x3 (List.take (Int.toNat (((List.length x7) : Int) - y6)) (List.drop (0 + Int.toNat y6) x7)) (0 : Int) (((Int.toNat (((List.length x7) : Int) - y6)) : Nat) : Int) (0 : Int)
        else none
theorem f_ref7_Blamed.q_l0 (c40 : f_ref7_OrdersFault.E) (c41 : f_ref7_Merged.E) (c34 : f_ref7_At.E) (c17 : f_ref7_HasInt.E) (c10 : f_slices_Index_int.E) (r_l2 : X_Fault → (List (List (Int))) → (List (Int)) → (Int) → (List (List (Int))) → (Int) → (Int) → Option ((List (Int)) × X_Fault)) (r_l4 : X_Fault → (List (Int)) → (Int) → (Int) → (Int) → Option ((List (Int)) × X_Fault)) (x3 : (Int) × (Int)) (x6 : List (List (Int))) (x7 : List (Int)) (x8 : Int) : f_ref7_Blamed.b_l0 c40 c41 c34 c17 c10 r_l2 r_l4 x3 x6 x7 x8 = f_ref7_Blamed.c_l0 c40 c41 c34 c17 c10 r_l2 r_l4 x3 x6 x7 x8 := by
  simp only [f_ref7_Blamed.b_l0, f_ref7_Blamed.c_l0, List.take_length, take_one, Nat.zero_add, Int.toNat_natCast, Int.toNat_zero, List.drop_zero, List.append_eq, Nat.le_refl, Int.le_refl, true_and, and_true, zero_le_one, if_true, prod_eta, Int.natCast_zero]
def f_ref7_Blamed.c_l2 (c40 : f_ref7_OrdersFault.E) (c41 : f_ref7_Merged.E) (c34 : f_ref7_At.E) (c17 : f_ref7_HasInt.E) (c10 : f_slices_Index_int.E) (n_l0 : X_Fault → (List (List (Int))) → (List (Int)) → (Int) → Option ((List (Int)) × X_Fault)) (n_l2 : X_Fault → (List (List (Int))) → (List (Int)) → (Int) → (List (List (Int))) → (Int) → (Int) → Option ((List (Int)) × X_Fault)) (x3 : (Int) × (Int)) (x6 : List (List (Int))) (x7 : List (Int)) (x8 : Int) (x43 : List (List (Int))) (x44 : Int) (x45 : Int) : Option ((List (Int)) × X_Fault) :=
  bif (decide (x45 < x44)) then
    if 0 ≤ x45 ∧ x45 < ((List.length x43) : Int) then
      if (1 : Int) ≤ ((List.length (List.getD x43 (Int.toNat x45) [])) : Int) then
        (c17 ((List.drop (Int.toNat (1 : Int)) (List.getD x43 (Int.toNat x45) [])), x8)).bind fun y5 =>
          bif y5 then
            if (0 : Int) < ((List.length (List.getD x43 (Int.toNat x45) [])) : Int) then
              n_l0 x3 x6 x7 (List.getD (List.getD x43 (Int.toNat x45) []) 0 (0 : Int))
            else none
          else
            n_l2 x3 x6 x7 x8 x43 x44 (IntKind.i64.wrap (x45 + (1 : Int)))
      else none
    else none
  else
    n_l0 x3 x6 x7 x8
theorem f_ref7_Blamed.q_l2 (c40 : f_ref7_OrdersFault.E) (c41 : f_ref7_Merged.E) (c34 : f_ref7_At.E) (c17 : f_ref7_HasInt.E) (c10 : f_slices_Index_int.E) (n_l0 : X_Fault → (List (List (Int))) → (List (Int)) → (Int) → Option ((List (Int)) × X_Fault)) (n_l2 : X_Fault → (List (List (Int))) → (List (Int)) → (Int) → (List (List (Int))) → (Int) → (Int) → Option ((List (Int)) × X_Fault)) (x3 : (Int) × (Int)) (x6 : List (List (Int))) (x7 : List (Int)) (x8 : Int) (x43 : List (List (Int))) (x44 : Int) (x45 : Int) : f_ref7_Blamed.b_l2 c40 c41 c34 c17 c10 n_l0 n_l2 x3 x6 x7 x8 x43 x44 x45 = f_ref7_Blamed.c_l2 c40 c41 c34 c17 c10 n_l0 n_l2 x3 x6 x7 x8 x43 x44 x45 := by
  simp only [f_ref7_Blamed.b_l2, f_ref7_Blamed.c_l2, List.take_length, take_one, Nat.zero_add, Int.toNat_natCast, Int.toNat_zero, List.drop_zero, List.append_eq, Nat.le_refl, Int.le_refl, true_and, and_true, zero_le_one, if_true, prod_eta, Int.natCast_zero]
def f_ref7_Blamed.c_l4 (c40 : f_ref7_OrdersFault.E) (c41 : f_ref7_Merged.E) (c34 : f_ref7_At.E) (c17 : f_ref7_HasInt.E) (c10 : f_slices_Index_int.E) (n_l4 : X_Fault → (List (Int)) → (Int) → (Int) → (Int) → Option ((List (Int)) × X_Fault)) (r_l6 : X_Fault → (List (Int)) → (Int) → (List (Int)) → (Int) → (Int) → Option ((List (Int)) × X_Fault)) (x3 : (Int) × (Int)) (x7 : List (Int)) (x11 : Int) (x63 : Int) (x64 : Int) : Option ((List (Int)) × X_Fault) :=
  bif (decide (x64 < x63)) then
    if 0 ≤ x64 ∧ x64 < ((List.length x7) : Int) then
      if 0 ≤ x11 ∧ x11 < ((List.length x7) : Int) then
        bif (decide ((List.getD x7 (Int.toNat x64) (0 : Int)) < (List.getD x7 (Int.toNat x11) (0 : Int)))) then
          n_l4 x3 x7 x64 x63 (IntKind.i64.wrap (x64 + (1 : Int)))
        else
          n_l4 x3 x7 x11 x63 (IntKind.i64.wrap (x64 + (1 : Int)))
      else none
    else none
  else
    r_l6 x3 x7 x11 ([] : List Int) ((List.length x7) : Int) (0 : Int)
theorem f_ref7_Blamed.q_l4 (c40 : f_ref7_OrdersFault.E) (c41 : f_ref7_Merged.E) (c34 : f_ref7_At.E) (c17 : f_ref7_HasInt.E) (c10 : f_slices_Index_int.E) (n_l4 : X_Fault → (List (Int)) → (Int) → (Int) → (Int) → Option ((List (Int)) × X_Fault)) (r_l6 : X_Fault → (List (Int)) → (Int) → (List (Int)) → (Int) → (Int) → Option ((List (Int)) × X_Fault)) (x3 : (Int) × (Int)) (x7 : List (Int)) (x11 : Int) (x63 : Int) (x64 : Int) : f_ref7_Blamed.b_l4 c40 c41 c34 c17 c10 n_l4 r_l6 x3 x7 x11 x63 x64 = f_ref7_Blamed.c_l4 c40 c41 c34 c17 c10 n_l4 r_l6 x3 x7 x11 x63 x64 := by
  simp only [f_ref7_Blamed.b_l4, f_ref7_Blamed.c_l4, List.take_length, take_one, Nat.zero_add, Int.toNat_natCast, Int.toNat_zero, List.drop_zero, List.append_eq, Nat.le_refl, Int.le_refl, true_and, and_true, zero_le_one, if_true, prod_eta, Int.natCast_zero]
def f_ref7_Blamed.c_l6 (c40 : f_ref7_OrdersFault.E) (c41 : f_ref7_Merged.E) (c34 : f_ref7_At.E) (c17 : f_ref7_HasInt.E) (c10 : f_slices_Index_int.E) (n_l6 : X_Fault → (List (Int)) → (Int) → (List (Int)) → (Int) → (Int) → Option ((List (Int)) × X_Fault)) (x3 : (Int) × (Int)) (x7 : List (Int)) (x11 : Int) (x13 : List (Int)) (x79 : Int) (x80 : Int) : Option ((List (Int)) × X_Fault) :=
  bif (decide (x80 < x79)) then
    if ((List.length x7) : Int) = 0 then none else
      if 0 ≤ (Int.tmod (IntKind.i64.wrap ((IntKind.i64.wrap (x11 - x80)) + ((List.length x7) : Int))) ((List.length x7) : Int)) ∧ (Int.tmod (IntKind.i64.wrap ((IntKind.i64.wrap (x11 - x80)) + ((List.length x7) : Int))) ((List.length x7) : Int)) < ((List.length x7) : Int) then
        if ((List.length x13) + (List.length ([(List.getD x7 (Int.toNat (Int.tmod (IntKind.i64.wrap ((IntKind.i64.wrap (x11 - x80)) + ((List.length x7) : Int))) ((List.length x7) : Int))) (0 : Int))] : List Int))) * 8 ≤ LIM then
          n_l6 x3 x7 x11 (x13 ++ ([(List.getD x7 (Int.toNat (Int.tmod (IntKind.i64.wrap ((IntKind.i64.wrap (x11 - x80)) + ((List.length x7) : Int))) ((List.length x7) : Int))) (0 : Int))] : List Int)) x79 (IntKind.i64.wrap (x80 + (1 : Int)))
        else none
      else none
  else
    some (x13, ((0 : Int), (0 : Int)))
theorem f_ref7_Blamed.q_l6 (c40 : f_ref7_OrdersFault.E) (c41 : f_ref7_Merged.E) (c34 : f_ref7_At.E) (c17 : f_ref7_HasInt.E) (c10 : f_slices_Index_int.E) (n_l6 : X_Fault → (List (Int)) → (Int) → (List (Int)) → (Int) → (Int) → Option ((List (Int)) × X_Fault)) (x3 : (Int) × (Int)) (x7 : List (Int)) (x11 : Int) (x13 : List (Int)) (x79 : Int) (x80 : Int) : f_ref7_Blamed.b_l6 c40 c41 c34 c17 c10 n_l6 x3 x7 x11 x13 x79 x80 = f_ref7_Blamed.c_l6 c40 c41 c34 c17 c10 n_l6 x3 x7 x11 x13 x79 x80 := by
  simp only [f_ref7_Blamed.b_l6, f_ref7_Blamed.c_l6, List.take_length, take_one, Nat.zero_add, Int.toNat_natCast, Int.toNat_zero, List.drop_zero, List.append_eq, Nat.le_refl, Int.le_refl, true_and, and_true, zero_le_one, if_true, prod_eta, Int.natCast_zero]
def f_ref7_Blamed.l2 (c40 : f_ref7_OrdersFault.E) (c41 : f_ref7_Merged.E) (c34 : f_ref7_At.E) (c17 : f_ref7_HasInt.E) (c10 : f_slices_Index_int.E) (k : Nat) (n_l0 : X_Fault → (List (List (Int))) → (List (Int)) → (Int) → Option ((List (Int)) × X_Fault)) : Nat → X_Fault → (List (List (Int))) → (List (Int)) → (Int) → (List (List (Int))) → (Int) → (Int) → Option ((List (Int)) × X_Fault)
  | 0, _, _, _, _, _, _, _ => none
  | n + 1, x3, x6, x7, x8, x43, x44, x45 => f_ref7_Blamed.b_l2 c40 c41 c34 c17 c10 n_l0 (fun x3 x6 x7 x8 x43 x44 x45 => f_ref7_Blamed.l2 c40 c41 c34 c17 c10 k n_l0 n x3 x6 x7 x8 x43 x44 x45) x3 x6 x7 x8 x43 x44 x45
def f_ref7_Blamed.l6 (c40 : f_ref7_OrdersFault.E) (c41 : f_ref7_Merged.E) (c34 : f_ref7_At.E) (c17 : f_ref7_HasInt.E) (c10 : f_slices_Index_int.E) (k : Nat)  : Nat → X_Fault → (List (Int)) → (Int) → (List (Int)) → (Int) → (Int) → Option ((List (Int)) × X_Fault)
  | 0, _, _, _, _, _, _ => none
  | n + 1, x3, x7, x11, x13, x79, x80 => f_ref7_Blamed.b_l6 c40 c41 c34 c17 c10 (fun x3 x7 x11 x13 x79 x80 => f_ref7_Blamed.l6 c40 c41 c34 c17 c10 k  n x3 x7 x11 x13 x79 x80) x3 x7 x11 x13 x79 x80
def f_ref7_Blamed.l4 (c40 : f_ref7_OrdersFault.E) (c41 : f_ref7_Merged.E) (c34 : f_ref7_At.E) (c17 : f_ref7_HasInt.E) (c10 : f_slices_Index_int.E) (k : Nat)  : Nat → X_Fault → (List (Int)) → (Int) → (Int) → (Int) → Option ((List (Int)) × X_Fault)
  | 0, _, _, _, _, _ => none
  | n + 1, x3, x7, x11, x63, x64 => f_ref7_Blamed.b_l4 c40 c41 c34 c17 c10 (fun x3 x7 x11 x63 x64 => f_ref7_Blamed.l4 c40 c41 c34 c17 c10 k  n x3 x7 x11 x63 x64) (f_ref7_Blamed.l6 c40 c41 c34 c17 c10 k  k) x3 x7 x11 x63 x64
def f_ref7_Blamed.l0 (c40 : f_ref7_OrdersFault.E) (c41 : f_ref7_Merged.E) (c34 : f_ref7_At.E) (c17 : f_ref7_HasInt.E) (c10 : f_slices_Index_int.E) (k : Nat)  : Nat → X_Fault → (List (List (Int))) → (List (Int)) → (Int) → Option ((List (Int)) × X_Fault)
  | 0, _, _, _, _ => none
  | n + 1, x3, x6, x7, x8 => f_ref7_Blamed.b_l0 c40 c41 c34 c17 c10 (f_ref7_Blamed.l2 c40 c41 c34 c17 c10 k (fun x3 x6 x7 x8 => f_ref7_Blamed.l0 c40 c41 c34 c17 c10 k  n x3 x6 x7 x8) k) (f_ref7_Blamed.l4 c40 c41 c34 c17 c10 k  k) x3 x6 x7 x8
def f_ref7_Blamed.f (c40 : f_ref7_OrdersFault.E) (c41 : f_ref7_Merged.E) (c34 : f_ref7_At.E) (c17 : f_ref7_HasInt.E) (c10 : f_slices_Index_int.E) (k : Nat) (a0 : List (List (Int))) : Option ((List (Int)) × X_Fault) := f_ref7_Blamed.b c40 c41 c34 c17 c10 (f_ref7_Blamed.l0 c40 c41 c34 c17 c10 k k) a0
noncomputable def f_ref7_Blamed.M_l0 (c40 : f_ref7_OrdersFault.E) (c41 : f_ref7_Merged.E) (c34 : f_ref7_At.E) (c17 : f_ref7_HasInt.E) (c10 : f_slices_Index_int.E) (k n : Nat)  (s : St) : Option ((List (Int)) × X_Fault) := atLoop (f_ref7_Blamed.C c40 c41 c34 c17 c10) k n [1, 1, 1, 1, 1, 1, 0, 0] [] f_ref7_Blamed.code (f_ref7_Blamed.fin c40 c41 c34 c17 c10) s
noncomputable def f_ref7_Blamed.fr_l0 (x3 : (Int) × (Int)) (x6 : List (List (Int))) (x7 : List (Int)) (x8 : Int) : St := ⟨(((((List.replicate 101 V.un).set 3 (V.bp 600003 0 [])).set 6 (V.dat (.sl 22 (.sl 3 (.int .i64))) x6)).set 7 (V.ref 500007 0 0 (List.length x7))).set 8 (V.dat (.int .i64) x8)), [⟨500007, 0, .arr 3 (.int .i64) x7⟩, ⟨600003, 0, .box (V.dat Y_Fault x3)⟩]⟩
noncomputable def f_ref7_Blamed.M_l2 (c40 : f_ref7_OrdersFault.E) (c41 : f_ref7_Merged.E) (c34 : f_ref7_At.E) (c17 : f_ref7_HasInt.E) (c10 : f_slices_Index_int.E) (k n : Nat) (m0 : Nat) (s : St) : Option ((List (Int)) × X_Fault) := atLoop (f_ref7_Blamed.C c40 c41 c34 c17 c10) k n [1, 1, 1, 1, 1, 1, 0, 0, 0, 1, 0, 1, 1, 0] [m0] f_ref7_Blamed.code (f_ref7_Blamed.fin c40 c41 c34 c17 c10) s
noncomputable def f_ref7_Blamed.fr_l2 (x3 : (Int) × (Int)) (x6 : List (List (Int))) (x7 : List (Int)) (x8 : Int) (x43 : List (List (Int))) (x44 : Int) (x45 : Int) : St := ⟨((((((((List.replicate 101 V.un).set 3 (V.bp 600003 0 [])).set 6 (V.dat (.sl 22 (.sl 3 (.int .i64))) x6)).set 7 (V.ref 500007 0 0 (List.length x7))).set 8 (V.dat (.int .i64) x8)).set 43 (V.dat (.sl 22 (.sl 3 (.int .i64))) x43)).set 44 (V.dat (.int .i64) x44)).set 45 (V.dat (.int .i64) x45)), [⟨500007, 0, .arr 3 (.int .i64) x7⟩, ⟨600003, 0, .box (V.dat Y_Fault x3)⟩]⟩
noncomputable def f_ref7_Blamed.M_l4 (c40 : f_ref7_OrdersFault.E) (c41 : f_ref7_Merged.E) (c34 : f_ref7_At.E) (c17 : f_ref7_HasInt.E) (c10 : f_slices_Index_int.E) (k n : Nat)  (s : St) : Option ((List (Int)) × X_Fault) := atLoop (f_ref7_Blamed.C c40 c41 c34 c17 c10) k n [1, 1, 1, 1, 1, 1, 1, 1, 1, 0, 1, 0] [] f_ref7_Blamed.code (f_ref7_Blamed.fin c40 c41 c34 c17 c10) s
noncomputable def f_ref7_Blamed.fr_l4 (x3 : (Int) × (Int)) (x7 : List (Int)) (x11 : Int) (x63 : Int) (x64 : Int) : St := ⟨((((((List.replicate 101 V.un).set 3 (V.bp 600003 0 [])).set 7 (V.dat (.sl 3 (.int .i64)) x7)).set 11 (V.dat (.int .i64) x11)).set 63 (V.dat (.int .i64) x63)).set 64 (V.dat (.int .i64) x64)), [⟨600003, 0, .box (V.dat Y_Fault x3)⟩]⟩
noncomputable def f_ref7_Blamed.M_l6 (c40 : f_ref7_OrdersFault.E) (c41 : f_ref7_Merged.E) (c34 : f_ref7_At.E) (c17 : f_ref7_HasInt.E) (c10 : f_slices_Index_int.E) (k n : Nat)  (s : St) : Option ((List (Int)) × X_Fault) := atLoop (f_ref7_Blamed.C c40 c41 c34 c17 c10) k n [1, 1, 1, 1, 1, 1, 1, 1, 1, 1, 1, 0, 1, 0] [] f_ref7_Blamed.code (f_ref7_Blamed.fin c40 c41 c34 c17 c10) s
noncomputable def f_ref7_Blamed.fr_l6 (x3 : (Int) × (Int)) (x7 : List (Int)) (x11 : Int) (x13 : List (Int)) (x79 : Int) (x80 : Int) : St := ⟨(((((((List.replicate 101 V.un).set 3 (V.bp 600003 0 [])).set 7 (V.dat (.sl 3 (.int .i64)) x7)).set 11 (V.dat (.int .i64) x11)).set 13 (V.ref 500013 0 0 (List.length x13))).set 79 (V.dat (.int .i64) x79)).set 80 (V.dat (.int .i64) x80)), [⟨500013, 0, .arr 3 (.int .i64) x13⟩, ⟨600003, 0, .box (V.dat Y_Fault x3)⟩]⟩
theorem f_ref7_Blamed.r (c40 : f_ref7_OrdersFault.E) (c41 : f_ref7_Merged.E) (c34 : f_ref7_At.E) (c17 : f_ref7_HasInt.E) (c10 : f_slices_Index_int.E) (k : Nat) (a0 : List (List (Int))) : fn (f_ref7_Blamed.C c40 c41 c34 c17 c10) k Try.f28 f_ref7_Blamed.A f_ref7_Blamed.R a0 = f_ref7_Blamed.b c40 c41 c34 c17 c10 (fun x3 x6 x7 x8 => f_ref7_Blamed.M_l0 c40 c41 c34 c17 c10 k k  (f_ref7_Blamed.fr_l0 x3 x6 x7 x8)) a0 := by kernel_rfl
theorem f_ref7_Blamed.z_l0 (c40 : f_ref7_OrdersFault.E) (c41 : f_ref7_Merged.E) (c34 : f_ref7_At.E) (c17 : f_ref7_HasInt.E) (c10 : f_slices_Index_int.E) (k : Nat)  (s : St) : f_ref7_Blamed.M_l0 c40 c41 c34 c17 c10 k 0  s = none := by kernel_rfl
theorem f_ref7_Blamed.r_l0 (c40 : f_ref7_OrdersFault.E) (c41 : f_ref7_Merged.E) (c34 : f_ref7_At.E) (c17 : f_ref7_HasInt.E) (c10 : f_slices_Index_int.E) (k n : Nat)  (x3 : (Int) × (Int)) (x6 : List (List (Int))) (x7 : List (Int)) (x8 : Int) : f_ref7_Blamed.M_l0 c40 c41 c34 c17 c10 k (n + 1)  (f_ref7_Blamed.fr_l0 x3 x6 x7 x8) = f_ref7_Blamed.b_l0 c40 c41 c34 c17 c10 (fun x3 x6 x7 x8 x43 x44 x45 => f_ref7_Blamed.M_l2 c40 c41 c34 c17 c10 k k n (f_ref7_Blamed.fr_l2 x3 x6 x7 x8 x43 x44 x45)) (fun x3 x7 x11 x63 x64 => f_ref7_Blamed.M_l4 c40 c41 c34 c17 c10 k k  (f_ref7_Blamed.fr_l4 x3 x7 x11 x63 x64)) x3 x6 x7 x8 := by kernel_rfl
theorem f_ref7_Blamed.z_l2 (c40 : f_ref7_OrdersFault.E) (c41 : f_ref7_Merged.E) (c34 : f_ref7_At.E) (c17 : f_ref7_HasInt.E) (c10 : f_slices_Index_int.E) (k : Nat) (m0 : Nat) (s : St) : f_ref7_Blamed.M_l2 c40 c41 c34 c17 c10 k 0 m0 s = none := by kernel_rfl
theorem f_ref7_Blamed.r_l2 (c40 : f_ref7_OrdersFault.E) (c41 : f_ref7_Merged.E) (c34 : f_ref7_At.E) (c17 : f_ref7_HasInt.E) (c10 : f_slices_Index_int.E) (k n : Nat) (m0 : Nat) (x3 : (Int) × (Int)) (x6 : List (List (Int))) (x7 : List (Int)) (x8 : Int) (x43 : List (List (Int))) (x44 : Int) (x45 : Int) : f_ref7_Blamed.M_l2 c40 c41 c34 c17 c10 k (n + 1) m0 (f_ref7_Blamed.fr_l2 x3 x6 x7 x8 x43 x44 x45) = f_ref7_Blamed.b_l2 c40 c41 c34 c17 c10 (fun x3 x6 x7 x8 => f_ref7_Blamed.M_l0 c40 c41 c34 c17 c10 k m0  (f_ref7_Blamed.fr_l0 x3 x6 x7 x8)) (fun x3 x6 x7 x8 x43 x44 x45 => f_ref7_Blamed.M_l2 c40 c41 c34 c17 c10 k n m0 (f_ref7_Blamed.fr_l2 x3 x6 x7 x8 x43 x44 x45)) x3 x6 x7 x8 x43 x44 x45 := by kernel_rfl
theorem f_ref7_Blamed.z_l4 (c40 : f_ref7_OrdersFault.E) (c41 : f_ref7_Merged.E) (c34 : f_ref7_At.E) (c17 : f_ref7_HasInt.E) (c10 : f_slices_Index_int.E) (k : Nat)  (s : St) : f_ref7_Blamed.M_l4 c40 c41 c34 c17 c10 k 0  s = none := by kernel_rfl
theorem f_ref7_Blamed.r_l4 (c40 : f_ref7_OrdersFault.E) (c41 : f_ref7_Merged.E) (c34 : f_ref7_At.E) (c17 : f_ref7_HasInt.E) (c10 : f_slices_Index_int.E) (k n : Nat)  (x3 : (Int) × (Int)) (x7 : List (Int)) (x11 : Int) (x63 : Int) (x64 : Int) : f_ref7_Blamed.M_l4 c40 c41 c34 c17 c10 k (n + 1)  (f_ref7_Blamed.fr_l4 x3 x7 x11 x63 x64) = f_ref7_Blamed.b_l4 c40 c41 c34 c17 c10 (fun x3 x7 x11 x63 x64 => f_ref7_Blamed.M_l4 c40 c41 c34 c17 c10 k n  (f_ref7_Blamed.fr_l4 x3 x7 x11 x63 x64)) (fun x3 x7 x11 x13 x79 x80 => f_ref7_Blamed.M_l6 c40 c41 c34 c17 c10 k k  (f_ref7_Blamed.fr_l6 x3 x7 x11 x13 x79 x80)) x3 x7 x11 x63 x64 := by kernel_rfl
theorem f_ref7_Blamed.z_l6 (c40 : f_ref7_OrdersFault.E) (c41 : f_ref7_Merged.E) (c34 : f_ref7_At.E) (c17 : f_ref7_HasInt.E) (c10 : f_slices_Index_int.E) (k : Nat)  (s : St) : f_ref7_Blamed.M_l6 c40 c41 c34 c17 c10 k 0  s = none := by kernel_rfl
theorem f_ref7_Blamed.r_l6 (c40 : f_ref7_OrdersFault.E) (c41 : f_ref7_Merged.E) (c34 : f_ref7_At.E) (c17 : f_ref7_HasInt.E) (c10 : f_slices_Index_int.E) (k n : Nat)  (x3 : (Int) × (Int)) (x7 : List (Int)) (x11 : Int) (x13 : List (Int)) (x79 : Int) (x80 : Int) : f_ref7_Blamed.M_l6 c40 c41 c34 c17 c10 k (n + 1)  (f_ref7_Blamed.fr_l6 x3 x7 x11 x13 x79 x80) = f_ref7_Blamed.b_l6 c40 c41 c34 c17 c10 (fun x3 x7 x11 x13 x79 x80 => f_ref7_Blamed.M_l6 c40 c41 c34 c17 c10 k n  (f_ref7_Blamed.fr_l6 x3 x7 x11 x13 x79 x80)) x3 x7 x11 x13 x79 x80 := by kernel_rfl
theorem f_ref7_Blamed.e_l2 (c40 : f_ref7_OrdersFault.E) (c41 : f_ref7_Merged.E) (c34 : f_ref7_At.E) (c17 : f_ref7_HasInt.E) (c10 : f_slices_Index_int.E) (k n : Nat) (m0 : Nat) (x3 : (Int) × (Int)) (x6 : List (List (Int))) (x7 : List (Int)) (x8 : Int) (x43 : List (List (Int))) (x44 : Int) (x45 : Int) : f_ref7_Blamed.M_l2 c40 c41 c34 c17 c10 k n m0 (f_ref7_Blamed.fr_l2 x3 x6 x7 x8 x43 x44 x45) = f_ref7_Blamed.l2 c40 c41 c34 c17 c10 k (fun x3 x6 x7 x8 => f_ref7_Blamed.M_l0 c40 c41 c34 c17 c10 k m0  (f_ref7_Blamed.fr_l0 x3 x6 x7 x8)) n x3 x6 x7 x8 x43 x44 x45 := by
  induction n generalizing x3 x6 x7 x8 x43 x44 x45 with
  | zero => rw [f_ref7_Blamed.z_l2]; rfl
  | succ n ih =>
    rw [f_ref7_Blamed.r_l2]
    simp only [ih]
    rfl
theorem f_ref7_Blamed.e_l6 (c40 : f_ref7_OrdersFault.E) (c41 : f_ref7_Merged.E) (c34 : f_ref7_At.E) (c17 : f_ref7_HasInt.E) (c10 : f_slices_Index_int.E) (k n : Nat)  (x3 : (Int) × (Int)) (x7 : List (Int)) (x11 : Int) (x13 : List (Int)) (x79 : Int) (x80 : Int) : f_ref7_Blamed.M_l6 c40 c41 c34 c17 c10 k n  (f_ref7_Blamed.fr_l6 x3 x7 x11 x13 x79 x80) = f_ref7_Blamed.l6 c40 c41 c34 c17 c10 k  n x3 x7 x11 x13 x79 x80 := by
  induction n generalizing x3 x7 x11 x13 x79 x80 with
  | zero => rw [f_ref7_Blamed.z_l6]; rfl
  | succ n ih =>
    rw [f_ref7_Blamed.r_l6]
    simp only [ih]
    rfl
theorem f_ref7_Blamed.e_l4 (c40 : f_ref7_OrdersFault.E) (c41 : f_ref7_Merged.E) (c34 : f_ref7_At.E) (c17 : f_ref7_HasInt.E) (c10 : f_slices_Index_int.E) (k n : Nat)  (x3 : (Int) × (Int)) (x7 : List (Int)) (x11 : Int) (x63 : Int) (x64 : Int) : f_ref7_Blamed.M_l4 c40 c41 c34 c17 c10 k n  (f_ref7_Blamed.fr_l4 x3 x7 x11 x63 x64) = f_ref7_Blamed.l4 c40 c41 c34 c17 c10 k  n x3 x7 x11 x63 x64 := by
  induction n generalizing x3 x7 x11 x63 x64 with
  | zero => rw [f_ref7_Blamed.z_l4]; rfl
  | succ n ih =>
    rw [f_ref7_Blamed.r_l4]
    simp only [f_ref7_Blamed.e_l6, ih]
    rfl
theorem f_ref7_Blamed.e_l0 (c40 : f_ref7_OrdersFault.E) (c41 : f_ref7_Merged.E) (c34 : f_ref7_At.E) (c17 : f_ref7_HasInt.E) (c10 : f_slices_Index_int.E) (k n : Nat)  (x3 : (Int) × (Int)) (x6 : List (List (Int))) (x7 : List (Int)) (x8 : Int) : f_ref7_Blamed.M_l0 c40 c41 c34 c17 c10 k n  (f_ref7_Blamed.fr_l0 x3 x6 x7 x8) = f_ref7_Blamed.l0 c40 c41 c34 c17 c10 k  n x3 x6 x7 x8 := by
  induction n generalizing x3 x6 x7 x8 with
  | zero => rw [f_ref7_Blamed.z_l0]; rfl
  | succ n ih =>
    rw [f_ref7_Blamed.r_l0]
    simp only [f_ref7_Blamed.e_l2, f_ref7_Blamed.e_l4, ih]
    rfl
theorem f_ref7_Blamed.e (c40 : f_ref7_OrdersFault.E) (c41 : f_ref7_Merged.E) (c34 : f_ref7_At.E) (c17 : f_ref7_HasInt.E) (c10 : f_slices_Index_int.E) (k : Nat) (a0 : List (List (Int))) : fn (f_ref7_Blamed.C c40 c41 c34 c17 c10) k Try.f28 f_ref7_Blamed.A f_ref7_Blamed.R a0 = f_ref7_Blamed.f c40 c41 c34 c17 c10 k a0 := by
  rw [f_ref7_Blamed.r]
  simp only [f_ref7_Blamed.e_l0]
  rfl
def f_ref7_Blamed.u (k : Nat) : f_ref7_Blamed.E := fun y => f_ref7_Blamed.f (f_ref7_OrdersFault.u k) (f_ref7_Merged.u k) (f_ref7_At.u k) (f_ref7_HasInt.u k) (f_slices_Index_int.u k) k y
theorem f_ref7_Blamed.ty (c40 : f_ref7_OrdersFault.E) (c41 : f_ref7_Merged.E) (c34 : f_ref7_At.E) (c17 : f_ref7_HasInt.E) (c10 : f_slices_Index_int.E) : TyOk Try.prog (f_ref7_Blamed.C c40 c41 c34 c17 c10) := tyOk_of (by kernel_rfl)
theorem f_ref7_Blamed.sound (k : Nat) : Sound Try.prog ⟨28, f_ref7_Blamed.A, f_ref7_Blamed.R, f_ref7_Blamed.u k⟩ := by
  have h := fn_sound (k := k) («as» := f_ref7_Blamed.A) (rs := f_ref7_Blamed.R) (f_ref7_Blamed.ty (f_ref7_OrdersFault.u k) (f_ref7_Merged.u k) (f_ref7_At.u k) (f_ref7_HasInt.u k) (f_slices_Index_int.u k)) (fun E h => by
    simp only [f_ref7_Blamed.C, List.mem_cons, List.not_mem_nil, or_false] at h
    rcases h with rfl | rfl | rfl | rfl | rfl
    · exact f_ref7_OrdersFault.sound k
    · exact f_ref7_Merged.sound k
    · exact f_ref7_At.sound k
    · exact f_ref7_HasInt.sound k
    · exact f_slices_Index_int.sound k) mixed Try.func28 (by kernel_rfl) (by kernel_rfl)
  have e : fn (f_ref7_Blamed.C (f_ref7_OrdersFault.u k) (f_ref7_Merged.u k) (f_ref7_At.u k) (f_ref7_HasInt.u k) (f_slices_Index_int.u k)) k Try.f28 f_ref7_Blamed.A f_ref7_Blamed.R = f_ref7_Blamed.u k := by
    funext y
    exact f_ref7_Blamed.e (f_ref7_OrdersFault.u k) (f_ref7_Merged.u k) (f_ref7_At.u k) (f_ref7_HasInt.u k) (f_slices_Index_int.u k) k y
  rw [e] at h
  exact h
/-! ### brindlewood/brindlewoodref7.ahead: f60 -/
abbrev f_ref7_ahead.A : List Sh := [(.d (.sl 3 (.int .i64))), (.d (.int .i64)), (.d (.int .i64))]
abbrev f_ref7_ahead.R : List Sh := [(.d .bool)]
abbrev f_ref7_ahead.E : Type := ((List (Int)) × X_Fault) → Option (Bool)
def f_ref7_ahead.C (c10 : f_slices_Index_int.E) (c17 : f_ref7_HasInt.E) : Ctx := { ty := [(3, (.int .i64)), (22, (.sl 3 (.int .i64)))], nf := [], by_ := [(3, 8)], env := [⟨10, f_slices_Index_int.A, f_slices_Index_int.R, c10⟩, ⟨17, f_ref7_HasInt.A, f_ref7_HasInt.R, c17⟩], spec := [] }
noncomputable def f_ref7_ahead.code : Code := Func.code Try.f60
noncomputable def f_ref7_ahead.fin (c10 : f_slices_Index_int.E) (c17 : f_ref7_HasInt.E) := kfin (f_ref7_ahead.C c10 c17) Try.f60 f_ref7_ahead.A f_ref7_ahead.R
def f_ref7_ahead.b (c10 : f_slices_Index_int.E) (c17 : f_ref7_HasInt.E)  (a0 : List (Int)) (a1 : Int) (a2 : Int) : Option (Bool) :=
  (c10 (a0, a1)).bind fun y1 =>
    bif (decide (y1 ≥ (0 : Int))) then
      if 0 ≤ (IntKind.i64.wrap (y1 + (1 : Int))) ∧ (IntKind.i64.wrap (y1 + (1 : Int))) ≤ ((List.length a0) : Int) ∧ ((List.length a0) : Int) ≤ ((List.length a0) : Int) then
        (c17 ((List.drop (Int.toNat (IntKind.i64.wrap (y1 + (1 : Int)))) (List.take (Int.toNat ((List.length a0) : Int)) a0)), a2)).bind fun y2 =>
          some y2
      else none
    else
      some false
def f_ref7_ahead.c (c10 : f_slices_Index_int.E) (c17 : f_ref7_HasInt.E)  (a0 : List (Int)) (a1 : Int) (a2 : Int) : Option (Bool) :=
  (c10 (a0, a1)).bind fun y1 =>
    bif (decide (y1 ≥ (0 : Int))) then
      if 0 ≤ (IntKind.i64.wrap (y1 + (1 : Int))) ∧ (IntKind.i64.wrap (y1 + (1 : Int))) ≤ ((List.length a0) : Int) then
        (c17 ((List.drop (Int.toNat (IntKind.i64.wrap (y1 + (1 : Int)))) a0), a2)).bind fun y2 =>
          some y2
      else none
    else
      some false
theorem f_ref7_ahead.q (c10 : f_slices_Index_int.E) (c17 : f_ref7_HasInt.E)  (a0 : List (Int)) (a1 : Int) (a2 : Int) : f_ref7_ahead.b c10 c17 a0 a1 a2 = f_ref7_ahead.c c10 c17 a0 a1 a2 := by
  simp only [f_ref7_ahead.b, f_ref7_ahead.c, List.take_length, take_one, Nat.zero_add, Int.toNat_natCast, Int.toNat_zero, List.drop_zero, List.append_eq, Nat.le_refl, Int.le_refl, true_and, and_true, zero_le_one, if_true, prod_eta, Int.natCast_zero]
def f_ref7_ahead.f (c10 : f_slices_Index_int.E) (c17 : f_ref7_HasInt.E) (k : Nat) (a0 : List (Int)) (a1 : Int) (a2 : Int) : Option (Bool) := f_ref7_ahead.b c10 c17  a0 a1 a2
theorem f_ref7_ahead.r (c10 : f_slices_Index_int.E) (c17 : f_ref7_HasInt.E) (k : Nat) (a0 : List (Int)) (a1 : Int) (a2 : Int) : fn (f_ref7_ahead.C c10 c17) k Try.f60 f_ref7_ahead.A f_ref7_ahead.R (a0, (a1, a2)) = f_ref7_ahead.b c10 c17  a0 a1 a2 := by kernel_rfl
theorem f_ref7_ahead.e (c10 : f_slices_Index_int.E) (c17 : f_ref7_HasInt.E) (k : Nat) (a0 : List (Int)) (a1 : Int) (a2 : Int) : fn (f_ref7_ahead.C c10 c17) k Try.f60 f_ref7_ahead.A f_ref7_ahead.R (a0, (a1, a2)) = f_ref7_ahead.f c10 c17 k a0 a1 a2 := by
  rw [f_ref7_ahead.r]
  rfl
def f_ref7_ahead.u (k : Nat) : f_ref7_ahead.E := fun y => f_ref7_ahead.f (f_slices_Index_int.u k) (f_ref7_HasInt.u k) k y.1 y.2.1 y.2.2
theorem f_ref7_ahead.ty (c10 : f_slices_Index_int.E) (c17 : f_ref7_HasInt.E) : TyOk Try.prog (f_ref7_ahead.C c10 c17) := tyOk_of (by kernel_rfl)
theorem f_ref7_ahead.sound (k : Nat) : Sound Try.prog ⟨60, f_ref7_ahead.A, f_ref7_ahead.R, f_ref7_ahead.u k⟩ := by
  have h := fn_sound (k := k) («as» := f_ref7_ahead.A) (rs := f_ref7_ahead.R) (f_ref7_ahead.ty (f_slices_Index_int.u k) (f_ref7_HasInt.u k)) (fun E h => by
    simp only [f_ref7_ahead.C, List.mem_cons, List.not_mem_nil, or_false] at h
    rcases h with rfl | rfl
    · exact f_slices_Index_int.sound k
    · exact f_ref7_HasInt.sound k) mixed Try.func60 (by kernel_rfl) (by kernel_rfl)
  have e : fn (f_ref7_ahead.C (f_slices_Index_int.u k) (f_ref7_HasInt.u k)) k Try.f60 f_ref7_ahead.A f_ref7_ahead.R = f_ref7_ahead.u k := by
    funext y
    exact f_ref7_ahead.e (f_slices_Index_int.u k) (f_ref7_HasInt.u k) k y.1 y.2.1 y.2.2
  rw [e] at h
  exact h
/-! ### brindlewood/brindlewoodref7.Ahead: f29 -/
abbrev f_ref7_Ahead.A : List Sh := [(.d (.sl 22 (.sl 3 (.int .i64)))), (.d (.int .i64)), (.d (.int .i64))]
abbrev f_ref7_Ahead.R : List Sh := [(.d .bool)]
abbrev f_ref7_Ahead.E : Type := ((List (List (Int))) × X_Fault) → Option (Bool)
def f_ref7_Ahead.C (c60 : f_ref7_ahead.E) : Ctx := { ty := [(3, (.int .i64)), (22, (.sl 3 (.int .i64))), (30, (.sl 22 (.sl 3 (.int .i64))))], nf := [], by_ := [(3, 8), (22, 24)], env := [⟨60, f_ref7_ahead.A, f_ref7_ahead.R, c60⟩], spec := [(0, [.d 1 (.int .i64), .d 2 (.int .i64), .o 7 500007 3 (.int .i64), .d 10 (.sl 22 (.sl 3 (.int .i64))), .d 11 (.int .i64), .d 12 (.int .i64)])] }
noncomputable def f_ref7_Ahead.code : Code := Func.code Try.f29
noncomputable def f_ref7_Ahead.fin (c60 : f_ref7_ahead.E) := kfin (f_ref7_Ahead.C c60) Try.f29 f_ref7_Ahead.A f_ref7_Ahead.R
def f_ref7_Ahead.b (c60 : f_ref7_ahead.E) (r_l0 : (Int) → (Int) → (List (Int)) → (List (List (Int))) → (Int) → (Int) → Option (Bool)) (a0 : List (List (Int))) (a1 : Int) (a2 : Int) : Option (Bool) :=
  r_l0 a1 a2 ([] : List (Int)) a0 ((List.length a0) : Int) (0 : Int)
def f_ref7_Ahead.b_l0 (c60 : f_ref7_ahead.E) (n_l0 : (Int) → (Int) → (List (Int)) → (List (List (Int))) → (Int) → (Int) → Option (Bool)) (x1 : Int) (x2 : Int) (x7 : List (Int)) (x10 : List (List (Int))) (x11 : Int) (x12 : Int) : Option (Bool) :=
  bif (decide (x12 < x11)) then
    if 0 ≤ x12 ∧ x12 < ((List.length x10) : Int) then
      if 0 ≤ (0 : Int) ∧ (0 : Int) < ((List.length (List.getD x10 (Int.toNat x12) [])) : Int) then
        if (List.length x7) ≤ (List.length x7) ∧ ((List.length x7) + (List.length (List.take 1 ([(List.getD (List.getD x10 (Int.toNat x12) []) (Int.toNat (0 : Int)) (0 : Int))] : List (Int))))) * 8 ≤ LIM then
          (c60 ((List.getD x10 (Int.toNat x12) []), (x1, x2))).bind fun y1 =>
            bif y1 then
              some true
            else
              n_l0 x1 x2 (List.take (List.length (List.append (List.take (List.length x7) x7) (List.take 1 ([(List.getD (List.getD x10 (Int.toNat x12) []) (Int.toNat (0 : Int)) (0 : Int))] : List (Int))))) (List.append (List.take (List.length x7) x7) (List.take 1 ([(List.getD (List.getD x10 (Int.toNat x12) []) (Int.toNat (0 : Int)) (0 : Int))] : List (Int))))) x10 x11 (IntKind.i64.wrap (x12 + (1 : Int)))
        else none
      else none
    else none
  else
    (c60 ((List.take (List.length x7) x7), (x1, x2))).bind fun y2 =>
      some y2
def f_ref7_Ahead.c (c60 : f_ref7_ahead.E) (r_l0 : (Int) → (Int) → (List (Int)) → (List (List (Int))) → (Int) → (Int) → Option (Bool)) (a0 : List (List (Int))) (a1 : Int) (a2 : Int) : Option (Bool) :=
  r_l0 a1 a2 ([] : List Int) a0 ((List.length a0) : Int) (0 : Int)
theorem f_ref7_Ahead.q (c60 : f_ref7_ahead.E) (r_l0 : (Int) → (Int) → (List (Int)) → (List (List (Int))) → (Int) → (Int) → Option (Bool)) (a0 : List (List (Int))) (a1 : Int) (a2 : Int) : f_ref7_Ahead.b c60 r_l0 a0 a1 a2 = f_ref7_Ahead.c c60 r_l0 a0 a1 a2 := by
  simp only [f_ref7_Ahead.b, f_ref7_Ahead.c, List.take_length, take_one, Nat.zero_add, Int.toNat_natCast, Int.toNat_zero, List.drop_zero, List.append_eq, Nat.le_refl, Int.le_refl, true_and, and_true, zero_le_one, if_true, prod_eta, Int.natCast_zero]
def f_ref7_Ahead.c_l0 (c60 : f_ref7_ahead.E) (n_l0 : (Int) → (Int) → (List (Int)) → (List (List (Int))) → (Int) → (Int) → Option (Bool)) (x1 : Int) (x2 : Int) (x7 : List (Int)) (x10 : List (List (Int))) (x11 : Int) (x12 : Int) : Option (Bool) :=
  bif (decide (x12 < x11)) then
    if 0 ≤ x12 ∧ x12 < ((List.length x10) : Int) then
      if (0 : Int) < ((List.length (List.getD x10 (Int.toNat x12) [])) : Int) then
        if ((List.length x7) + (List.length ([(List.getD (List.getD x10 (Int.toNat x12) []) 0 (0 : Int))] : List Int))) * 8 ≤ LIM then
          (c60 ((List.getD x10 (Int.toNat x12) []), (x1, x2))).bind fun y1 =>
            bif y1 then
              some true
            else
              n_l0 x1 x2 (x7 ++ ([(List.getD (List.getD x10 (Int.toNat x12) []) 0 (0 : Int))] : List Int)) x10 x11 (IntKind.i64.wrap (x12 + (1 : Int)))
        else none
      else none
    else none
  else
    (c60 (x7, (x1, x2))).bind fun y2 =>
      some y2
theorem f_ref7_Ahead.q_l0 (c60 : f_ref7_ahead.E) (n_l0 : (Int) → (Int) → (List (Int)) → (List (List (Int))) → (Int) → (Int) → Option (Bool)) (x1 : Int) (x2 : Int) (x7 : List (Int)) (x10 : List (List (Int))) (x11 : Int) (x12 : Int) : f_ref7_Ahead.b_l0 c60 n_l0 x1 x2 x7 x10 x11 x12 = f_ref7_Ahead.c_l0 c60 n_l0 x1 x2 x7 x10 x11 x12 := by
  simp only [f_ref7_Ahead.b_l0, f_ref7_Ahead.c_l0, List.take_length, take_one, Nat.zero_add, Int.toNat_natCast, Int.toNat_zero, List.drop_zero, List.append_eq, Nat.le_refl, Int.le_refl, true_and, and_true, zero_le_one, if_true, prod_eta, Int.natCast_zero]
def f_ref7_Ahead.l0 (c60 : f_ref7_ahead.E) (k : Nat)  : Nat → (Int) → (Int) → (List (Int)) → (List (List (Int))) → (Int) → (Int) → Option (Bool)
  | 0, _, _, _, _, _, _ => none
  | n + 1, x1, x2, x7, x10, x11, x12 => f_ref7_Ahead.b_l0 c60 (fun x1 x2 x7 x10 x11 x12 => f_ref7_Ahead.l0 c60 k  n x1 x2 x7 x10 x11 x12) x1 x2 x7 x10 x11 x12
def f_ref7_Ahead.f (c60 : f_ref7_ahead.E) (k : Nat) (a0 : List (List (Int))) (a1 : Int) (a2 : Int) : Option (Bool) := f_ref7_Ahead.b c60 (f_ref7_Ahead.l0 c60 k k) a0 a1 a2
noncomputable def f_ref7_Ahead.M_l0 (c60 : f_ref7_ahead.E) (k n : Nat)  (s : St) : Option (Bool) := atLoop (f_ref7_Ahead.C c60) k n [1, 1, 0, 1, 0] [] f_ref7_Ahead.code (f_ref7_Ahead.fin c60) s
noncomputable def f_ref7_Ahead.fr_l0 (x1 : Int) (x2 : Int) (x7 : List (Int)) (x10 : List (List (Int))) (x11 : Int) (x12 : Int) : St := ⟨(((((((List.replicate 31 V.un).set 1 (V.dat (.int .i64) x1)).set 2 (V.dat (.int .i64) x2)).set 7 (V.ref 500007 0 0 (List.length x7))).set 10 (V.dat (.sl 22 (.sl 3 (.int .i64))) x10)).set 11 (V.dat (.int .i64) x11)).set 12 (V.dat (.int .i64) x12)), [⟨500007, 0, .arr 3 (.int .i64) x7⟩]⟩
theorem f_ref7_Ahead.r (c60 : f_ref7_ahead.E) (k : Nat) (a0 : List (List (Int))) (a1 : Int) (a2 : Int) : fn (f_ref7_Ahead.C c60) k Try.f29 f_ref7_Ahead.A f_ref7_Ahead.R (a0, (a1, a2)) = f_ref7_Ahead.b c60 (fun x1 x2 x7 x10 x11 x12 => f_ref7_Ahead.M_l0 c60 k k  (f_ref7_Ahead.fr_l0 x1 x2 x7 x10 x11 x12)) a0 a1 a2 := by kernel_rfl
theorem f_ref7_Ahead.z_l0 (c60 : f_ref7_ahead.E) (k : Nat)  (s : St) : f_ref7_Ahead.M_l0 c60 k 0  s = none := by kernel_rfl
theorem f_ref7_Ahead.r_l0 (c60 : f_ref7_ahead.E) (k n : Nat)  (x1 : Int) (x2 : Int) (x7 : List (Int)) (x10 : List (List (Int))) (x11 : Int) (x12 : Int) : f_ref7_Ahead.M_l0 c60 k (n + 1)  (f_ref7_Ahead.fr_l0 x1 x2 x7 x10 x11 x12) = f_ref7_Ahead.b_l0 c60 (fun x1 x2 x7 x10 x11 x12 => f_ref7_Ahead.M_l0 c60 k n  (f_ref7_Ahead.fr_l0 x1 x2 x7 x10 x11 x12)) x1 x2 x7 x10 x11 x12 := by kernel_rfl
theorem f_ref7_Ahead.e_l0 (c60 : f_ref7_ahead.E) (k n : Nat)  (x1 : Int) (x2 : Int) (x7 : List (Int)) (x10 : List (List (Int))) (x11 : Int) (x12 : Int) : f_ref7_Ahead.M_l0 c60 k n  (f_ref7_Ahead.fr_l0 x1 x2 x7 x10 x11 x12) = f_ref7_Ahead.l0 c60 k  n x1 x2 x7 x10 x11 x12 := by
  induction n generalizing x1 x2 x7 x10 x11 x12 with
  | zero => rw [f_ref7_Ahead.z_l0]; rfl
  | succ n ih =>
    rw [f_ref7_Ahead.r_l0]
    simp only [ih]
    rfl
theorem f_ref7_Ahead.e (c60 : f_ref7_ahead.E) (k : Nat) (a0 : List (List (Int))) (a1 : Int) (a2 : Int) : fn (f_ref7_Ahead.C c60) k Try.f29 f_ref7_Ahead.A f_ref7_Ahead.R (a0, (a1, a2)) = f_ref7_Ahead.f c60 k a0 a1 a2 := by
  rw [f_ref7_Ahead.r]
  simp only [f_ref7_Ahead.e_l0]
  rfl
def f_ref7_Ahead.u (k : Nat) : f_ref7_Ahead.E := fun y => f_ref7_Ahead.f (f_ref7_ahead.u k) k y.1 y.2.1 y.2.2
theorem f_ref7_Ahead.ty (c60 : f_ref7_ahead.E) : TyOk Try.prog (f_ref7_Ahead.C c60) := tyOk_of (by kernel_rfl)
theorem f_ref7_Ahead.sound (k : Nat) : Sound Try.prog ⟨29, f_ref7_Ahead.A, f_ref7_Ahead.R, f_ref7_Ahead.u k⟩ := by
  have h := fn_sound (k := k) («as» := f_ref7_Ahead.A) (rs := f_ref7_Ahead.R) (f_ref7_Ahead.ty (f_ref7_ahead.u k)) (fun E h => by
    simp only [f_ref7_Ahead.C, List.mem_cons, List.not_mem_nil, or_false] at h
    rcases h with rfl
    · exact f_ref7_ahead.sound k) mixed Try.func29 (by kernel_rfl) (by kernel_rfl)
  have e : fn (f_ref7_Ahead.C (f_ref7_ahead.u k)) k Try.f29 f_ref7_Ahead.A f_ref7_Ahead.R = f_ref7_Ahead.u k := by
    funext y
    exact f_ref7_Ahead.e (f_ref7_ahead.u k) k y.1 y.2.1 y.2.2
  rw [e] at h
  exact h
/-! ### brindlewood/brindlewoodlaw7.LineageBlameIsACircle: f9 -/
abbrev f_law7_LineageBlameIsACircle.A : List Sh := [(.d (.sl 22 (.sl 3 (.int .i64))))]
abbrev f_law7_LineageBlameIsACircle.R : List Sh := [(.d .bool)]
abbrev f_law7_LineageBlameIsACircle.E : Type := (List (List (Int))) → Option (Bool)
def f_law7_LineageBlameIsACircle.C (c27 : f_lineage_Blame.E) (c28 : f_ref7_Blamed.E) (c16 : f_ref7_Ints.E) (c14 : f_lineage_Order.E) (c29 : f_ref7_Ahead.E) : Ctx := { ty := [(3, (.int .i64)), (4, .bool), (22, (.sl 3 (.int .i64))), (27, Y_Fault)], nf := [(27, 2)], by_ := [(3, 8)], env := [⟨27, f_lineage_Blame.A, f_lineage_Blame.R, c27⟩, ⟨28, f_ref7_Blamed.A, f_ref7_Blamed.R, c28⟩, ⟨16, f_ref7_Ints.A, f_ref7_Ints.R, c16⟩, ⟨14, f_lineage_Order.A, f_lineage_Order.R, c14⟩, ⟨29, f_ref7_Ahead.A, f_ref7_Ahead.R, c29⟩], spec := [(0, [.d 0 (.sl 22 (.sl 3 (.int .i64))), .d 3 (.sl 3 (.int .i64)), .bx 4 600004 (.d Y_Fault), .d 42 (.sl 3 (.int .i64)), .d 43 (.int .i64), .d 44 (.int .i64)])] }
noncomputable def f_law7_LineageBlameIsACircle.code : Code := Func.code Try.f9
noncomputable def f_law7_LineageBlameIsACircle.fin (c27 : f_lineage_Blame.E) (c28 : f_ref7_Blamed.E) (c16 : f_ref7_Ints.E) (c14 : f_lineage_Order.E) (c29 : f_ref7_Ahead.E) := kfin (f_law7_LineageBlameIsACircle.C c27 c28 c16 c14 c29) Try.f9 f_law7_LineageBlameIsACircle.A f_law7_LineageBlameIsACircle.R
def f_law7_LineageBlameIsACircle.b (c27 : f_lineage_Blame.E) (c28 : f_ref7_Blamed.E) (c16 : f_ref7_Ints.E) (c14 : f_lineage_Order.E) (c29 : f_ref7_Ahead.E) (r_l0 : (List (List (Int))) → (List (Int)) → X_Fault → (List (Int)) → (Int) → (Int) → Option (Bool)) (a0 : List (List (Int))) : Option (Bool) :=
  (c27 a0).bind fun y1 =>
    (c28 a0).bind fun y2 =>
      bif (!Ty.eqT Y_Fault y1.2 y2.2) then
        some false
      else
        (c16 (y1.1, y2.1)).bind fun y3 =>
          bif (!y3) then
            some false
          else
            (c14 a0).bind fun y4 =>
              bif ((y1.2.1 == (0 : Int)) != (y4.2.1 == (19 : Int))) then
                some false
              else
                r_l0 a0 y1.1 y1.2 y1.1 ((List.length y1.1) : Int) (0 : Int)
def f_law7_LineageBlameIsACircle.b_l0 (c27 : f_lineage_Blame.E) (c28 : f_ref7_Blamed.E) (c16 : f_ref7_Ints.E) (c14 : f_lineage_Order.E) (c29 : f_ref7_Ahead.E) (n_l0 : (List (List (Int))) → (List (Int)) → X_Fault → (List (Int)) → (Int) → (Int) → Option (Bool)) (x0 : List (List (Int))) (x3 : List (Int)) (x4 : (Int) × (Int)) (x42 : List (Int)) (x43 : Int) (x44 : Int) : Option (Bool) :=
  bif (decide (x44 < x43)) then
    if 0 ≤ x44 ∧ x44 < ((List.length x42) : Int) then
      if ((List.length x3) : Int) = 0 then none else
        if 0 ≤ (Int.tmod (IntKind.i64.wrap (x44 + (1 : Int))) ((List.length x3) : Int)) ∧ (Int.tmod (IntKind.i64.wrap (x44 + (1 : Int))) ((List.length x3) : Int)) < ((List.length x3) : Int) then
          (c29 (x0, ((List.getD x42 (Int.toNat x44) (0 : Int)), (List.getD x3 (Int.toNat (Int.tmod (IntKind.i64.wrap (x44 + (1 : Int))) ((List.length x3) : Int))) (0 : Int))))).bind fun y5 =>
            bif (!y5) then
              some false
            else
              n_l0 x0 x3 x4 x42 x43 (IntKind.i64.wrap (x44 + (1 : Int)))
        else none
    else none
  else
    bif (x4.1 != (0 : Int)) then
      some true
    else
      some (decide (((List.length x3) : Int) > (1 : Int)))
def f_law7_LineageBlameIsACircle.c (c27 : f_lineage_Blame.E) (c28 : f_ref7_Blamed.E) (c16 : f_ref7_Ints.E) (c14 : f_lineage_Order.E) (c29 : f_ref7_Ahead.E) (r_l0 : (List (List (Int))) → (List (Int)) → X_Fault → (List (Int)) → (Int) → (Int) → Option (Bool)) (a0 : List (List (Int))) : Option (Bool) :=
  (c27 a0).bind fun y1 =>
    (c28 a0).bind fun y2 =>
      bif (!Ty.eqT Y_Fault y1.2 y2.2) then
        some false
      else
        (c16 (y1.1, y2.1)).bind fun y3 =>
          bif !y3 then
            some false
          else
            (c14 a0).bind fun y4 =>
              bif ((y1.2.1 == (0 : Int)) != (y4.2.1 == (19 : Int))) then
                some false
              else
                r_l0 a0 y1.1 y1.2 y1.1 ((List.length y1.1) : Int) (0 : Int)
theorem f_law7_LineageBlameIsACircle.q (c27 : f_lineage_Blame.E) (c28 : f_ref7_Blamed.E) (c16 : f_ref7_Ints.E) (c14 : f_lineage_Order.E) (c29 : f_ref7_Ahead.E) (r_l0 : (List (List (Int))) → (List (Int)) → X_Fault → (List (Int)) → (Int) → (Int) → Option (Bool)) (a0 : List (List (Int))) : f_law7_LineageBlameIsACircle.b c27 c28 c16 c14 c29 r_l0 a0 = f_law7_LineageBlameIsACircle.c c27 c28 c16 c14 c29 r_l0 a0 := by
  simp only [f_law7_LineageBlameIsACircle.b, f_law7_LineageBlameIsACircle.c, List.take_length, take_one, Nat.zero_add, Int.toNat_natCast, Int.toNat_zero, List.drop_zero, List.append_eq, Nat.le_refl, Int.le_refl, true_and, and_true, zero_le_one, if_true, prod_eta, Int.natCast_zero]
def f_law7_LineageBlameIsACircle.c_l0 (c27 : f_lineage_Blame.E) (c28 : f_ref7_Blamed.E) (c16 : f_ref7_Ints.E) (c14 : f_lineage_Order.E) (c29 : f_ref7_Ahead.E) (n_l0 : (List (List (Int))) → (List (Int)) → X_Fault → (List (Int)) → (Int) → (Int) → Option (Bool)) (x0 : List (List (Int))) (x3 : List (Int)) (x4 : (Int) × (Int)) (x42 : List (Int)) (x43 : Int) (x44 : Int) : Option (Bool) :=
  bif (decide (x44 < x43)) then
    if 0 ≤ x44 ∧ x44 < ((List.length x42) : Int) then
      if ((List.length x3) : Int) = 0 then none else
        if 0 ≤ (Int.tmod (IntKind.i64.wrap (x44 + (1 : Int))) ((List.length x3) : Int)) ∧ (Int.tmod (IntKind.i64.wrap (x44 + (1 : Int))) ((List.length x3) : Int)) < ((List.length x3) : Int) then
          (c29 (x0, ((List.getD x42 (Int.toNat x44) (0 : Int)), (List.getD x3 (Int.toNat (Int.tmod (IntKind.i64.wrap (x44 + (1 : Int))) ((List.length x3) : Int))) (0 : Int))))).bind fun y5 =>
            bif !y5 then
              some false
            else
              n_l0 x0 x3 x4 x42 x43 (IntKind.i64.wrap (x44 + (1 : Int)))
        else none
    else none
  else
    bif (x4.1 != (0 : Int)) then
      some true
    else
      some (decide (((List.length x3) : Int) > (1 : Int)))
theorem f_law7_LineageBlameIsACircle.q_l0 (c27 : f_lineage_Blame.E) (c28 : f_ref7_Blamed.E) (c16 : f_ref7_Ints.E) (c14 : f_lineage_Order.E) (c29 : f_ref7_Ahead.E) (n_l0 : (List (List (Int))) → (List (Int)) → X_Fault → (List (Int)) → (Int) → (Int) → Option (Bool)) (x0 : List (List (Int))) (x3 : List (Int)) (x4 : (Int) × (Int)) (x42 : List (Int)) (x43 : Int) (x44 : Int) : f_law7_LineageBlameIsACircle.b_l0 c27 c28 c16 c14 c29 n_l0 x0 x3 x4 x42 x43 x44 = f_law7_LineageBlameIsACircle.c_l0 c27 c28 c16 c14 c29 n_l0 x0 x3 x4 x42 x43 x44 := by
  simp only [f_law7_LineageBlameIsACircle.b_l0, f_law7_LineageBlameIsACircle.c_l0, List.take_length, take_one, Nat.zero_add, Int.toNat_natCast, Int.toNat_zero, List.drop_zero, List.append_eq, Nat.le_refl, Int.le_refl, true_and, and_true, zero_le_one, if_true, prod_eta, Int.natCast_zero]
def f_law7_LineageBlameIsACircle.l0 (c27 : f_lineage_Blame.E) (c28 : f_ref7_Blamed.E) (c16 : f_ref7_Ints.E) (c14 : f_lineage_Order.E) (c29 : f_ref7_Ahead.E) (k : Nat)  : Nat → (List (List (Int))) → (List (Int)) → X_Fault → (List (Int)) → (Int) → (Int) → Option (Bool)
  | 0, _, _, _, _, _, _ => none
  | n + 1, x0, x3, x4, x42, x43, x44 => f_law7_LineageBlameIsACircle.b_l0 c27 c28 c16 c14 c29 (fun x0 x3 x4 x42 x43 x44 => f_law7_LineageBlameIsACircle.l0 c27 c28 c16 c14 c29 k  n x0 x3 x4 x42 x43 x44) x0 x3 x4 x42 x43 x44
def f_law7_LineageBlameIsACircle.f (c27 : f_lineage_Blame.E) (c28 : f_ref7_Blamed.E) (c16 : f_ref7_Ints.E) (c14 : f_lineage_Order.E) (c29 : f_ref7_Ahead.E) (k : Nat) (a0 : List (List (Int))) : Option (Bool) := f_law7_LineageBlameIsACircle.b c27 c28 c16 c14 c29 (f_law7_LineageBlameIsACircle.l0 c27 c28 c16 c14 c29 k k) a0
noncomputable def f_law7_LineageBlameIsACircle.M_l0 (c27 : f_lineage_Blame.E) (c28 : f_ref7_Blamed.E) (c16 : f_ref7_Ints.E) (c14 : f_lineage_Order.E) (c29 : f_ref7_Ahead.E) (k n : Nat)  (s : St) : Option (Bool) := atLoop (f_law7_LineageBlameIsACircle.C c27 c28 c16 c14 c29) k n [1, 1, 1, 1, 1, 1, 0, 1, 0] [] f_law7_LineageBlameIsACircle.code (f_law7_LineageBlameIsACircle.fin c27 c28 c16 c14 c29) s
noncomputable def f_law7_LineageBlameIsACircle.fr_l0 (x0 : List (List (Int))) (x3 : List (Int)) (x4 : (Int) × (Int)) (x42 : List (Int)) (x43 : Int) (x44 : Int) : St := ⟨(((((((List.replicate 70 V.un).set 0 (V.dat (.sl 22 (.sl 3 (.int .i64))) x0)).set 3 (V.dat (.sl 3 (.int .i64)) x3)).set 4 (V.bp 600004 0 [])).set 42 (V.dat (.sl 3 (.int .i64)) x42)).set 43 (V.dat (.int .i64) x43)).set 44 (V.dat (.int .i64) x44)), [⟨600004, 0, .box (V.dat Y_Fault x4)⟩]⟩
theorem f_law7_LineageBlameIsACircle.r (c27 : f_lineage_Blame.E) (c28 : f_ref7_Blamed.E) (c16 : f_ref7_Ints.E) (c14 : f_lineage_Order.E) (c29 : f_ref7_Ahead.E) (k : Nat) (a0 : List (List (Int))) : fn (f_law7_LineageBlameIsACircle.C c27 c28 c16 c14 c29) k Try.f9 f_law7_LineageBlameIsACircle.A f_law7_LineageBlameIsACircle.R a0 = f_law7_LineageBlameIsACircle.b c27 c28 c16 c14 c29 (fun x0 x3 x4 x42 x43 x44 => f_law7_LineageBlameIsACircle.M_l0 c27 c28 c16 c14 c29 k k  (f_law7_LineageBlameIsACircle.fr_l0 x0 x3 x4 x42 x43 x44)) a0 := by kernel_rfl
theorem f_law7_LineageBlameIsACircle.z_l0 (c27 : f_lineage_Blame.E) (c28 : f_ref7_Blamed.E) (c16 : f_ref7_Ints.E) (c14 : f_lineage_Order.E) (c29 : f_ref7_Ahead.E) (k : Nat)  (s : St) : f_law7_LineageBlameIsACircle.M_l0 c27 c28 c16 c14 c29 k 0  s = none := by kernel_rfl
theorem f_law7_LineageBlameIsACircle.r_l0 (c27 : f_lineage_Blame.E) (c28 : f_ref7_Blamed.E) (c16 : f_ref7_Ints.E) (c14 : f_lineage_Order.E) (c29 : f_ref7_Ahead.E) (k n : Nat)  (x0 : List (List (Int))) (x3 : List (Int)) (x4 : (Int) × (Int)) (x42 : List (Int)) (x43 : Int) (x44 : Int) : f_law7_LineageBlameIsACircle.M_l0 c27 c28 c16 c14 c29 k (n + 1)  (f_law7_LineageBlameIsACircle.fr_l0 x0 x3 x4 x42 x43 x44) = f_law7_LineageBlameIsACircle.b_l0 c27 c28 c16 c14 c29 (fun x0 x3 x4 x42 x43 x44 => f_law7_LineageBlameIsACircle.M_l0 c27 c28 c16 c14 c29 k n  (f_law7_LineageBlameIsACircle.fr_l0 x0 x3 x4 x42 x43 x44)) x0 x3 x4 x42 x43 x44 := by kernel_rfl
theorem f_law7_LineageBlameIsACircle.e_l0 (c27 : f_lineage_Blame.E) (c28 : f_ref7_Blamed.E) (c16 : f_ref7_Ints.E) (c14 : f_lineage_Order.E) (c29 : f_ref7_Ahead.E) (k n : Nat)  (x0 : List (List (Int))) (x3 : List (Int)) (x4 : (Int) × (Int)) (x42 : List (Int)) (x43 : Int) (x44 : Int) : f_law7_LineageBlameIsACircle.M_l0 c27 c28 c16 c14 c29 k n  (f_law7_LineageBlameIsACircle.fr_l0 x0 x3 x4 x42 x43 x44) = f_law7_LineageBlameIsACircle.l0 c27 c28 c16 c14 c29 k  n x0 x3 x4 x42 x43 x44 := by
  induction n generalizing x0 x3 x4 x42 x43 x44 with
  | zero => rw [f_law7_LineageBlameIsACircle.z_l0]; rfl
  | succ n ih =>
    rw [f_law7_LineageBlameIsACircle.r_l0]
    simp only [ih]
    rfl
theorem f_law7_LineageBlameIsACircle.e (c27 : f_lineage_Blame.E) (c28 : f_ref7_Blamed.E) (c16 : f_ref7_Ints.E) (c14 : f_lineage_Order.E) (c29 : f_ref7_Ahead.E) (k : Nat) (a0 : List (List (Int))) : fn (f_law7_LineageBlameIsACircle.C c27 c28 c16 c14 c29) k Try.f9 f_law7_LineageBlameIsACircle.A f_law7_LineageBlameIsACircle.R a0 = f_law7_LineageBlameIsACircle.f c27 c28 c16 c14 c29 k a0 := by
  rw [f_law7_LineageBlameIsACircle.r]
  simp only [f_law7_LineageBlameIsACircle.e_l0]
  rfl
def f_law7_LineageBlameIsACircle.u (k : Nat) : f_law7_LineageBlameIsACircle.E := fun y => f_law7_LineageBlameIsACircle.f (f_lineage_Blame.u k) (f_ref7_Blamed.u k) (f_ref7_Ints.u k) (f_lineage_Order.u k) (f_ref7_Ahead.u k) k y
theorem f_law7_LineageBlameIsACircle.ty (c27 : f_lineage_Blame.E) (c28 : f_ref7_Blamed.E) (c16 : f_ref7_Ints.E) (c14 : f_lineage_Order.E) (c29 : f_ref7_Ahead.E) : TyOk Try.prog (f_law7_LineageBlameIsACircle.C c27 c28 c16 c14 c29) := tyOk_of (by kernel_rfl)
theorem f_law7_LineageBlameIsACircle.sound (k : Nat) : Sound Try.prog ⟨9, f_law7_LineageBlameIsACircle.A, f_law7_LineageBlameIsACircle.R, f_law7_LineageBlameIsACircle.u k⟩ := by
  have h := fn_sound (k := k) («as» := f_law7_LineageBlameIsACircle.A) (rs := f_law7_LineageBlameIsACircle.R) (f_law7_LineageBlameIsACircle.ty (f_lineage_Blame.u k) (f_ref7_Blamed.u k) (f_ref7_Ints.u k) (f_lineage_Order.u k) (f_ref7_Ahead.u k)) (fun E h => by
    simp only [f_law7_LineageBlameIsACircle.C, List.mem_cons, List.not_mem_nil, or_false] at h
    rcases h with rfl | rfl | rfl | rfl | rfl
    · exact f_lineage_Blame.sound k
    · exact f_ref7_Blamed.sound k
    · exact f_ref7_Ints.sound k
    · exact f_lineage_Order.sound k
    · exact f_ref7_Ahead.sound k) mixed Try.func9 (by kernel_rfl) (by kernel_rfl)
  have e : fn (f_law7_LineageBlameIsACircle.C (f_lineage_Blame.u k) (f_ref7_Blamed.u k) (f_ref7_Ints.u k) (f_lineage_Order.u k) (f_ref7_Ahead.u k)) k Try.f9 f_law7_LineageBlameIsACircle.A f_law7_LineageBlameIsACircle.R = f_law7_LineageBlameIsACircle.u k := by
    funext y
    exact f_law7_LineageBlameIsACircle.e (f_lineage_Blame.u k) (f_ref7_Blamed.u k) (f_ref7_Ints.u k) (f_lineage_Order.u k) (f_ref7_Ahead.u k) k y
  rw [e] at h
  exact h
end
end Go.Ab
