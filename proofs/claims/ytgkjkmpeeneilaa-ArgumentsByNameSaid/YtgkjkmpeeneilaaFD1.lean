/- A part of the proof: FD1. -/
import Derived.Test.YtgkjkmpeeneilaaFTy
import Derived.Test.YtgkjkmpeeneilaaFA1
namespace Go.Ab
set_option linter.unusedVariables false
set_option linter.unusedSimpArgs false
set_option maxRecDepth 100000
noncomputable section
open Go.Proofs
/-! ### slices.Grow[[]brindlewood/api.Value,brindlewood/api.Value]: f54 -/
abbrev f_slices_Grow_Value.A : List Sh := [.nl, (.d (.int .i64))]
abbrev f_slices_Grow_Value.R : List Sh := [(.o 58 Y_Value)]
abbrev f_slices_Grow_Value.E : Type := ((Unit) × (Int)) → Option (List X_Value)
def f_slices_Grow_Value.C  : Ctx := { ty := [(3, (.int .i64)), (36, (.sl 58 Y_Value))], nf := [], by_ := [(58, 96)], env := [], spec := [] }
noncomputable def f_slices_Grow_Value.code : Code := Func.code Try.f54
noncomputable def f_slices_Grow_Value.fin  := kfin (f_slices_Grow_Value.C ) Try.f54 f_slices_Grow_Value.A f_slices_Grow_Value.R
def f_slices_Grow_Value.b   (a0 : Unit) (a1 : Int) : Option (List X_Value) :=
  bif (decide (a1 < (0 : Int))) then
    none
  else
    bif (decide ((IntKind.i64.wrap (a1 - (IntKind.i64.wrap ((0 : Int) - (0 : Int))))) > (0 : Int))) then
      if (0 : Int) = 0 ∧ (0 : Int) = 0 then
        if 0 < (IntKind.i64.wrap (a1 - (IntKind.i64.wrap ((0 : Int) - (0 : Int))))) ∧ Int.toNat (IntKind.i64.wrap (a1 - (IntKind.i64.wrap ((0 : Int) - (0 : Int))))) * 96 ≤ LIM ∧ (IntKind.i64.wrap (a1 - (IntKind.i64.wrap ((0 : Int) - (0 : Int))))) ≤ 140737488355328 then
          if 0 ≤ (0 : Int) ∧ (0 : Int) ≤ (0 : Int) ∧ (0 : Int) ≤ (((Int.toNat (IntKind.i64.wrap (a1 - (IntKind.i64.wrap ((0 : Int) - (0 : Int)))))) : Nat) : Int) then
            some (List.take (Int.toNat ((0 : Int) - (0 : Int))) (List.replicate (Int.toNat (IntKind.i64.wrap (a1 - (IntKind.i64.wrap ((0 : Int) - (0 : Int)))))) Z_Value))
          else none
        else none
      else none
    else
      some ([] : List X_Value)
def f_slices_Grow_Value.c   (a0 : Unit) (a1 : Int) : Option (List X_Value) :=
  bif (decide (a1 < (0 : Int))) then
    none
  else
    bif (decide ((IntKind.i64.wrap (a1 - (IntKind.i64.wrap ((0 : Int) - (0 : Int))))) > (0 : Int))) then
      if (0 : Int) = 0 ∧ (0 : Int) = 0 then
        if 0 < (IntKind.i64.wrap (a1 - (IntKind.i64.wrap ((0 : Int) - (0 : Int))))) ∧ Int.toNat (IntKind.i64.wrap (a1 - (IntKind.i64.wrap ((0 : Int) - (0 : Int))))) * 96 ≤ LIM ∧ (IntKind.i64.wrap (a1 - (IntKind.i64.wrap ((0 : Int) - (0 : Int))))) ≤ 140737488355328 then
          if (0 : Int) ≤ (((Int.toNat (IntKind.i64.wrap (a1 - (IntKind.i64.wrap ((0 : Int) - (0 : Int)))))) : Nat) : Int) then
            some (List.take (Int.toNat ((0 : Int) - (0 : Int))) (List.replicate (Int.toNat (IntKind.i64.wrap (a1 - (IntKind.i64.wrap ((0 : Int) - (0 : Int)))))) Z_Value))
          else none
        else none
      else none
    else
      some ([] : List X_Value)
theorem f_slices_Grow_Value.q   (a0 : Unit) (a1 : Int) : f_slices_Grow_Value.b  a0 a1 = f_slices_Grow_Value.c  a0 a1 := by
  simp only [f_slices_Grow_Value.b, f_slices_Grow_Value.c, List.take_length, take_one, Nat.zero_add, Int.toNat_natCast, Int.toNat_zero, List.drop_zero, List.append_eq, Nat.le_refl, Int.le_refl, true_and, and_true, zero_le_one, if_true, prod_eta, Int.natCast_zero]
def f_slices_Grow_Value.f  (k : Nat) (a0 : Unit) (a1 : Int) : Option (List X_Value) := f_slices_Grow_Value.b   a0 a1
theorem f_slices_Grow_Value.r  (k : Nat) (a0 : Unit) (a1 : Int) : fn (f_slices_Grow_Value.C ) k Try.f54 f_slices_Grow_Value.A f_slices_Grow_Value.R (a0, a1) = f_slices_Grow_Value.b   a0 a1 := by kernel_rfl
theorem f_slices_Grow_Value.e  (k : Nat) (a0 : Unit) (a1 : Int) : fn (f_slices_Grow_Value.C ) k Try.f54 f_slices_Grow_Value.A f_slices_Grow_Value.R (a0, a1) = f_slices_Grow_Value.f  k a0 a1 := by
  rw [f_slices_Grow_Value.r]
  rfl
def f_slices_Grow_Value.u (k : Nat) : f_slices_Grow_Value.E := fun y => f_slices_Grow_Value.f  k y.1 y.2
theorem f_slices_Grow_Value.ty  : TyOk Try.prog (f_slices_Grow_Value.C ) := tyOk_of (by kernel_rfl)
theorem f_slices_Grow_Value.sound (k : Nat) : Sound Try.prog ⟨54, f_slices_Grow_Value.A, f_slices_Grow_Value.R, f_slices_Grow_Value.u k⟩ := by
  have h := fn_sound (k := k) («as» := f_slices_Grow_Value.A) (rs := f_slices_Grow_Value.R) (f_slices_Grow_Value.ty ) (fun E h => by cases h) mixed Try.func54 (by kernel_rfl) (by kernel_rfl)
  have e : fn (f_slices_Grow_Value.C ) k Try.f54 f_slices_Grow_Value.A f_slices_Grow_Value.R = f_slices_Grow_Value.u k := by
    funext y
    exact f_slices_Grow_Value.e  k y.1 y.2
  rw [e] at h
  exact h
/-! ### slices.Concat[[]brindlewood/api.Value,brindlewood/api.Value]: f23 -/
abbrev f_slices_Concat_Value.A : List Sh := [(.d (.sl 36 (.sl 58 Y_Value)))]
abbrev f_slices_Concat_Value.R : List Sh := [(.d (.sl 58 Y_Value))]
abbrev f_slices_Concat_Value.E : Type := (List (List X_Value)) → Option (List X_Value)
def f_slices_Concat_Value.C (c54 : f_slices_Grow_Value.E) : Ctx := { ty := [(3, (.int .i64)), (36, (.sl 58 Y_Value)), (85, (.sl 36 (.sl 58 Y_Value)))], nf := [], by_ := [(36, 24), (58, 96)], env := [⟨54, f_slices_Grow_Value.A, f_slices_Grow_Value.R, c54⟩], spec := [(0, [.d 0 (.sl 36 (.sl 58 Y_Value)), .d 3 (.int .i64), .d 9 (.sl 36 (.sl 58 Y_Value)), .d 10 (.int .i64), .d 11 (.int .i64)]), (2, [.o 6 500006 58 Y_Value, .d 25 (.sl 36 (.sl 58 Y_Value)), .d 26 (.int .i64), .d 27 (.int .i64)])] }
noncomputable def f_slices_Concat_Value.code : Code := Func.code Try.f23
noncomputable def f_slices_Concat_Value.fin (c54 : f_slices_Grow_Value.E) := kfin (f_slices_Concat_Value.C c54) Try.f23 f_slices_Concat_Value.A f_slices_Concat_Value.R
def f_slices_Concat_Value.b (c54 : f_slices_Grow_Value.E) (r_l0 : (List (List X_Value)) → (Int) → (List (List X_Value)) → (Int) → (Int) → Option (List X_Value)) (a0 : List (List X_Value)) : Option (List X_Value) :=
  r_l0 a0 (0 : Int) a0 ((List.length a0) : Int) (0 : Int)
def f_slices_Concat_Value.b_l0 (c54 : f_slices_Grow_Value.E) (n_l0 : (List (List X_Value)) → (Int) → (List (List X_Value)) → (Int) → (Int) → Option (List X_Value)) (r_l2 : (List X_Value) → (List (List X_Value)) → (Int) → (Int) → Option (List X_Value)) (x0 : List (List X_Value)) (x3 : Int) (x9 : List (List X_Value)) (x10 : Int) (x11 : Int) : Option (List X_Value) :=
  bif (decide (x11 < x10)) then
    if 0 ≤ x11 ∧ x11 < ((List.length x9) : Int) then
      bif (decide ((IntKind.i64.wrap (x3 + ((List.length (List.getD x9 (Int.toNat x11) [])) : Int))) < (0 : Int))) then
        none
      else
        n_l0 x0 (IntKind.i64.wrap (x3 + ((List.length (List.getD x9 (Int.toNat x11) [])) : Int))) x9 x10 (IntKind.i64.wrap (x11 + (1 : Int)))
    else none
  else
    (c54 ((), x3)).bind fun y1 =>
      r_l2 (List.take (List.length y1) y1) x0 ((List.length x0) : Int) (0 : Int)
def f_slices_Concat_Value.b_l2 (c54 : f_slices_Grow_Value.E) (n_l2 : (List X_Value) → (List (List X_Value)) → (Int) → (Int) → Option (List X_Value)) (x6 : List X_Value) (x25 : List (List X_Value)) (x26 : Int) (x27 : Int) : Option (List X_Value) :=
  bif (decide (x27 < x26)) then
    if 0 ≤ x27 ∧ x27 < ((List.length x25) : Int) then
      if (List.length x6) ≤ (List.length x6) ∧ ((List.length x6) + (List.length (List.getD x25 (Int.toNat x27) []))) * 96 ≤ LIM then
        n_l2 (List.take (List.length (List.append (List.take (List.length x6) x6) (List.getD x25 (Int.toNat x27) []))) (List.append (List.take (List.length x6) x6) (List.getD x25 (Int.toNat x27) []))) x25 x26 (IntKind.i64.wrap (x27 + (1 : Int)))
      else none
    else none
  else
    some (List.take (List.length x6) x6)
def f_slices_Concat_Value.c_l0 (c54 : f_slices_Grow_Value.E) (n_l0 : (List (List X_Value)) → (Int) → (List (List X_Value)) → (Int) → (Int) → Option (List X_Value)) (r_l2 : (List X_Value) → (List (List X_Value)) → (Int) → (Int) → Option (List X_Value)) (x0 : List (List X_Value)) (x3 : Int) (x9 : List (List X_Value)) (x10 : Int) (x11 : Int) : Option (List X_Value) :=
  bif (decide (x11 < x10)) then
    if 0 ≤ x11 ∧ x11 < ((List.length x9) : Int) then
      bif (decide ((IntKind.i64.wrap (x3 + ((List.length (List.getD x9 (Int.toNat x11) [])) : Int))) < (0 : Int))) then
        none
      else
        n_l0 x0 (IntKind.i64.wrap (x3 + ((List.length (List.getD x9 (Int.toNat x11) [])) : Int))) x9 x10 (IntKind.i64.wrap (x11 + (1 : Int)))
    else none
  else
    (c54 ((), x3)).bind fun y1 =>
      r_l2 y1 x0 ((List.length x0) : Int) (0 : Int)
theorem f_slices_Concat_Value.q_l0 (c54 : f_slices_Grow_Value.E) (n_l0 : (List (List X_Value)) → (Int) → (List (List X_Value)) → (Int) → (Int) → Option (List X_Value)) (r_l2 : (List X_Value) → (List (List X_Value)) → (Int) → (Int) → Option (List X_Value)) (x0 : List (List X_Value)) (x3 : Int) (x9 : List (List X_Value)) (x10 : Int) (x11 : Int) : f_slices_Concat_Value.b_l0 c54 n_l0 r_l2 x0 x3 x9 x10 x11 = f_slices_Concat_Value.c_l0 c54 n_l0 r_l2 x0 x3 x9 x10 x11 := by
  simp only [f_slices_Concat_Value.b_l0, f_slices_Concat_Value.c_l0, List.take_length, take_one, Nat.zero_add, Int.toNat_natCast, Int.toNat_zero, List.drop_zero, List.append_eq, Nat.le_refl, Int.le_refl, true_and, and_true, zero_le_one, if_true, prod_eta, Int.natCast_zero]
def f_slices_Concat_Value.c_l2 (c54 : f_slices_Grow_Value.E) (n_l2 : (List X_Value) → (List (List X_Value)) → (Int) → (Int) → Option (List X_Value)) (x6 : List X_Value) (x25 : List (List X_Value)) (x26 : Int) (x27 : Int) : Option (List X_Value) :=
  bif (decide (x27 < x26)) then
    if 0 ≤ x27 ∧ x27 < ((List.length x25) : Int) then
      if ((List.length x6) + (List.length (List.getD x25 (Int.toNat x27) []))) * 96 ≤ LIM then
        n_l2 (x6 ++ (List.getD x25 (Int.toNat x27) [])) x25 x26 (IntKind.i64.wrap (x27 + (1 : Int)))
      else none
    else none
  else
    some x6
theorem f_slices_Concat_Value.q_l2 (c54 : f_slices_Grow_Value.E) (n_l2 : (List X_Value) → (List (List X_Value)) → (Int) → (Int) → Option (List X_Value)) (x6 : List X_Value) (x25 : List (List X_Value)) (x26 : Int) (x27 : Int) : f_slices_Concat_Value.b_l2 c54 n_l2 x6 x25 x26 x27 = f_slices_Concat_Value.c_l2 c54 n_l2 x6 x25 x26 x27 := by
  simp only [f_slices_Concat_Value.b_l2, f_slices_Concat_Value.c_l2, List.take_length, take_one, Nat.zero_add, Int.toNat_natCast, Int.toNat_zero, List.drop_zero, List.append_eq, Nat.le_refl, Int.le_refl, true_and, and_true, zero_le_one, if_true, prod_eta, Int.natCast_zero]
def f_slices_Concat_Value.l2 (c54 : f_slices_Grow_Value.E) (k : Nat)  : Nat → (List X_Value) → (List (List X_Value)) → (Int) → (Int) → Option (List X_Value)
  | 0, _, _, _, _ => none
  | n + 1, x6, x25, x26, x27 => f_slices_Concat_Value.b_l2 c54 (fun x6 x25 x26 x27 => f_slices_Concat_Value.l2 c54 k  n x6 x25 x26 x27) x6 x25 x26 x27
def f_slices_Concat_Value.l0 (c54 : f_slices_Grow_Value.E) (k : Nat)  : Nat → (List (List X_Value)) → (Int) → (List (List X_Value)) → (Int) → (Int) → Option (List X_Value)
  | 0, _, _, _, _, _ => none
  | n + 1, x0, x3, x9, x10, x11 => f_slices_Concat_Value.b_l0 c54 (fun x0 x3 x9 x10 x11 => f_slices_Concat_Value.l0 c54 k  n x0 x3 x9 x10 x11) (f_slices_Concat_Value.l2 c54 k  k) x0 x3 x9 x10 x11
def f_slices_Concat_Value.f (c54 : f_slices_Grow_Value.E) (k : Nat) (a0 : List (List X_Value)) : Option (List X_Value) := f_slices_Concat_Value.b c54 (f_slices_Concat_Value.l0 c54 k k) a0
noncomputable def f_slices_Concat_Value.M_l0 (c54 : f_slices_Grow_Value.E) (k n : Nat)  (s : St) : Option (List X_Value) := atLoop (f_slices_Concat_Value.C c54) k n [1, 1, 0, 1, 0] [] f_slices_Concat_Value.code (f_slices_Concat_Value.fin c54) s
noncomputable def f_slices_Concat_Value.fr_l0 (x0 : List (List X_Value)) (x3 : Int) (x9 : List (List X_Value)) (x10 : Int) (x11 : Int) : St := ⟨((((((List.replicate 36 V.un).set 0 (V.dat (.sl 36 (.sl 58 Y_Value)) x0)).set 3 (V.dat (.int .i64) x3)).set 9 (V.dat (.sl 36 (.sl 58 Y_Value)) x9)).set 10 (V.dat (.int .i64) x10)).set 11 (V.dat (.int .i64) x11)), []⟩
noncomputable def f_slices_Concat_Value.M_l2 (c54 : f_slices_Grow_Value.E) (k n : Nat)  (s : St) : Option (List X_Value) := atLoop (f_slices_Concat_Value.C c54) k n [1, 1, 1, 1, 0, 1, 0] [] f_slices_Concat_Value.code (f_slices_Concat_Value.fin c54) s
noncomputable def f_slices_Concat_Value.fr_l2 (x6 : List X_Value) (x25 : List (List X_Value)) (x26 : Int) (x27 : Int) : St := ⟨(((((List.replicate 36 V.un).set 6 (V.ref 500006 0 0 (List.length x6))).set 25 (V.dat (.sl 36 (.sl 58 Y_Value)) x25)).set 26 (V.dat (.int .i64) x26)).set 27 (V.dat (.int .i64) x27)), [⟨500006, 0, .arr 58 Y_Value x6⟩]⟩
theorem f_slices_Concat_Value.r (c54 : f_slices_Grow_Value.E) (k : Nat) (a0 : List (List X_Value)) : fn (f_slices_Concat_Value.C c54) k Try.f23 f_slices_Concat_Value.A f_slices_Concat_Value.R a0 = f_slices_Concat_Value.b c54 (fun x0 x3 x9 x10 x11 => f_slices_Concat_Value.M_l0 c54 k k  (f_slices_Concat_Value.fr_l0 x0 x3 x9 x10 x11)) a0 := by kernel_rfl
theorem f_slices_Concat_Value.z_l0 (c54 : f_slices_Grow_Value.E) (k : Nat)  (s : St) : f_slices_Concat_Value.M_l0 c54 k 0  s = none := by kernel_rfl
theorem f_slices_Concat_Value.r_l0 (c54 : f_slices_Grow_Value.E) (k n : Nat)  (x0 : List (List X_Value)) (x3 : Int) (x9 : List (List X_Value)) (x10 : Int) (x11 : Int) : f_slices_Concat_Value.M_l0 c54 k (n + 1)  (f_slices_Concat_Value.fr_l0 x0 x3 x9 x10 x11) = f_slices_Concat_Value.b_l0 c54 (fun x0 x3 x9 x10 x11 => f_slices_Concat_Value.M_l0 c54 k n  (f_slices_Concat_Value.fr_l0 x0 x3 x9 x10 x11)) (fun x6 x25 x26 x27 => f_slices_Concat_Value.M_l2 c54 k k  (f_slices_Concat_Value.fr_l2 x6 x25 x26 x27)) x0 x3 x9 x10 x11 := by kernel_rfl
theorem f_slices_Concat_Value.z_l2 (c54 : f_slices_Grow_Value.E) (k : Nat)  (s : St) : f_slices_Concat_Value.M_l2 c54 k 0  s = none := by kernel_rfl
theorem f_slices_Concat_Value.r_l2 (c54 : f_slices_Grow_Value.E) (k n : Nat)  (x6 : List X_Value) (x25 : List (List X_Value)) (x26 : Int) (x27 : Int) : f_slices_Concat_Value.M_l2 c54 k (n + 1)  (f_slices_Concat_Value.fr_l2 x6 x25 x26 x27) = f_slices_Concat_Value.b_l2 c54 (fun x6 x25 x26 x27 => f_slices_Concat_Value.M_l2 c54 k n  (f_slices_Concat_Value.fr_l2 x6 x25 x26 x27)) x6 x25 x26 x27 := by kernel_rfl
theorem f_slices_Concat_Value.e_l2 (c54 : f_slices_Grow_Value.E) (k n : Nat)  (x6 : List X_Value) (x25 : List (List X_Value)) (x26 : Int) (x27 : Int) : f_slices_Concat_Value.M_l2 c54 k n  (f_slices_Concat_Value.fr_l2 x6 x25 x26 x27) = f_slices_Concat_Value.l2 c54 k  n x6 x25 x26 x27 := by
  induction n generalizing x6 x25 x26 x27 with
  | zero => rw [f_slices_Concat_Value.z_l2]; rfl
  | succ n ih =>
    rw [f_slices_Concat_Value.r_l2]
    simp only [ih]
    rfl
theorem f_slices_Concat_Value.e_l0 (c54 : f_slices_Grow_Value.E) (k n : Nat)  (x0 : List (List X_Value)) (x3 : Int) (x9 : List (List X_Value)) (x10 : Int) (x11 : Int) : f_slices_Concat_Value.M_l0 c54 k n  (f_slices_Concat_Value.fr_l0 x0 x3 x9 x10 x11) = f_slices_Concat_Value.l0 c54 k  n x0 x3 x9 x10 x11 := by
  induction n generalizing x0 x3 x9 x10 x11 with
  | zero => rw [f_slices_Concat_Value.z_l0]; rfl
  | succ n ih =>
    rw [f_slices_Concat_Value.r_l0]
    simp only [f_slices_Concat_Value.e_l2, ih]
    rfl
theorem f_slices_Concat_Value.e (c54 : f_slices_Grow_Value.E) (k : Nat) (a0 : List (List X_Value)) : fn (f_slices_Concat_Value.C c54) k Try.f23 f_slices_Concat_Value.A f_slices_Concat_Value.R a0 = f_slices_Concat_Value.f c54 k a0 := by
  rw [f_slices_Concat_Value.r]
  simp only [f_slices_Concat_Value.e_l0]
  rfl
def f_slices_Concat_Value.u (k : Nat) : f_slices_Concat_Value.E := fun y => f_slices_Concat_Value.f (f_slices_Grow_Value.u k) k y
theorem f_slices_Concat_Value.ty (c54 : f_slices_Grow_Value.E) : TyOk Try.prog (f_slices_Concat_Value.C c54) := tyOk_of (by kernel_rfl)
theorem f_slices_Concat_Value.sound (k : Nat) : Sound Try.prog ⟨23, f_slices_Concat_Value.A, f_slices_Concat_Value.R, f_slices_Concat_Value.u k⟩ := by
  have h := fn_sound (k := k) («as» := f_slices_Concat_Value.A) (rs := f_slices_Concat_Value.R) (f_slices_Concat_Value.ty (f_slices_Grow_Value.u k)) (fun E h => by
    simp only [f_slices_Concat_Value.C, List.mem_cons, List.not_mem_nil, or_false] at h
    rcases h with rfl
    · exact f_slices_Grow_Value.sound k) mixed Try.func23 (by kernel_rfl) (by kernel_rfl)
  have e : fn (f_slices_Concat_Value.C (f_slices_Grow_Value.u k)) k Try.f23 f_slices_Concat_Value.A f_slices_Concat_Value.R = f_slices_Concat_Value.u k := by
    funext y
    exact f_slices_Concat_Value.e (f_slices_Grow_Value.u k) k y
  rw [e] at h
  exact h
/-! ### slices.IndexFunc[[]brindlewood/api.Value,brindlewood/api.Value]: f44 -/
abbrev f_slices_IndexFunc_Value.A : List Sh := [(.d (.sl 58 Y_Value)), (.fn (.pair Y_Value .unit) .bool)]
abbrev f_slices_IndexFunc_Value.R : List Sh := [(.d (.int .i64))]
abbrev f_slices_IndexFunc_Value.E : Type := ((List X_Value) × ((X_Value × (Unit)) → Option (Bool))) → Option (Int)
def f_slices_IndexFunc_Value.C  : Ctx := { ty := [(3, (.int .i64)), (36, (.sl 58 Y_Value)), (58, Y_Value)], nf := [], by_ := [(58, 96)], env := [], spec := [(0, [.d 0 (.sl 58 Y_Value), .cp 1, .d 7 (.int .i64), .d 8 (.int .i64)])] }
noncomputable def f_slices_IndexFunc_Value.code : Code := Func.code Try.f44
noncomputable def f_slices_IndexFunc_Value.fin  := kfin (f_slices_IndexFunc_Value.C ) Try.f44 f_slices_IndexFunc_Value.A f_slices_IndexFunc_Value.R
def f_slices_IndexFunc_Value.b  (r_l0 : (List X_Value) → ((X_Value × (Unit)) → Option (Bool)) → (Int) → (Int) → Option (Int)) (a0 : List X_Value) (a1 : (X_Value × (Unit)) → Option (Bool)) : Option (Int) :=
  r_l0 a0 a1 ((List.length a0) : Int) (0 : Int)
def f_slices_IndexFunc_Value.b_l0  (n_l0 : (List X_Value) → ((X_Value × (Unit)) → Option (Bool)) → (Int) → (Int) → Option (Int)) (x0 : List X_Value) (x1 : (X_Value × (Unit)) → Option (Bool)) (x7 : Int) (x8 : Int) : Option (Int) :=
  bif (decide (x8 < x7)) then
    if 0 ≤ x8 ∧ x8 < ((List.length x0) : Int) then
      (x1 ((List.getD x0 (Int.toNat x8) Z_Value), ())).bind fun y1 =>
        bif y1 then
          some x8
        else
          n_l0 x0 x1 x7 (IntKind.i64.wrap (x8 + (1 : Int)))
    else none
  else
    some (-1 : Int)
def f_slices_IndexFunc_Value.c_l0  (n_l0 : (List X_Value) → ((X_Value × (Unit)) → Option (Bool)) → (Int) → (Int) → Option (Int)) (x0 : List X_Value) (x1 : (X_Value × (Unit)) → Option (Bool)) (x7 : Int) (x8 : Int) : Option (Int) :=
  bif (decide (x8 < x7)) then
    if 0 ≤ x8 ∧ x8 < ((List.length x0) : Int) then
      (x1 ((List.getD x0 (Int.toNat x8) Z_Value), ())).bind fun y1 =>
        bif y1 then
          some x8
        else
          n_l0 x0 x1 x7 (IntKind.i64.wrap (x8 + (1 : Int)))
    else none
  else
    some (-1 : Int)
theorem f_slices_IndexFunc_Value.q_l0  (n_l0 : (List X_Value) → ((X_Value × (Unit)) → Option (Bool)) → (Int) → (Int) → Option (Int)) (x0 : List X_Value) (x1 : (X_Value × (Unit)) → Option (Bool)) (x7 : Int) (x8 : Int) : f_slices_IndexFunc_Value.b_l0  n_l0 x0 x1 x7 x8 = f_slices_IndexFunc_Value.c_l0  n_l0 x0 x1 x7 x8 := by
  simp only [f_slices_IndexFunc_Value.b_l0, f_slices_IndexFunc_Value.c_l0, List.take_length, take_one, Nat.zero_add, Int.toNat_natCast, Int.toNat_zero, List.drop_zero, List.append_eq, Nat.le_refl, Int.le_refl, true_and, and_true, zero_le_one, if_true, prod_eta, Int.natCast_zero]
def f_slices_IndexFunc_Value.l0  (k : Nat)  : Nat → (List X_Value) → ((X_Value × (Unit)) → Option (Bool)) → (Int) → (Int) → Option (Int)
  | 0, _, _, _, _ => none
  | n + 1, x0, x1, x7, x8 => f_slices_IndexFunc_Value.b_l0  (fun x0 x1 x7 x8 => f_slices_IndexFunc_Value.l0  k  n x0 x1 x7 x8) x0 x1 x7 x8
def f_slices_IndexFunc_Value.f  (k : Nat) (a0 : List X_Value) (a1 : (X_Value × (Unit)) → Option (Bool)) : Option (Int) := f_slices_IndexFunc_Value.b  (f_slices_IndexFunc_Value.l0  k k) a0 a1
noncomputable def f_slices_IndexFunc_Value.M_l0  (k n : Nat)  (s : St) : Option (Int) := atLoop (f_slices_IndexFunc_Value.C ) k n [1, 0, 1, 0] [] f_slices_IndexFunc_Value.code (f_slices_IndexFunc_Value.fin ) s
noncomputable def f_slices_IndexFunc_Value.fr_l0 (x0 : List X_Value) (x1 : (X_Value × (Unit)) → Option (Bool)) (x7 : Int) (x8 : Int) : St := ⟨(((((List.replicate 19 V.un).set 0 (V.dat (.sl 58 Y_Value) x0)).set 1 (V.fnv (.pair Y_Value .unit) .bool x1)).set 7 (V.dat (.int .i64) x7)).set 8 (V.dat (.int .i64) x8)), []⟩
theorem f_slices_IndexFunc_Value.r  (k : Nat) (a0 : List X_Value) (a1 : (X_Value × (Unit)) → Option (Bool)) : fn (f_slices_IndexFunc_Value.C ) k Try.f44 f_slices_IndexFunc_Value.A f_slices_IndexFunc_Value.R (a0, a1) = f_slices_IndexFunc_Value.b  (fun x0 x1 x7 x8 => f_slices_IndexFunc_Value.M_l0  k k  (f_slices_IndexFunc_Value.fr_l0 x0 x1 x7 x8)) a0 a1 := by kernel_rfl
theorem f_slices_IndexFunc_Value.z_l0  (k : Nat)  (s : St) : f_slices_IndexFunc_Value.M_l0  k 0  s = none := by kernel_rfl
theorem f_slices_IndexFunc_Value.r_l0  (k n : Nat)  (x0 : List X_Value) (x1 : (X_Value × (Unit)) → Option (Bool)) (x7 : Int) (x8 : Int) : f_slices_IndexFunc_Value.M_l0  k (n + 1)  (f_slices_IndexFunc_Value.fr_l0 x0 x1 x7 x8) = f_slices_IndexFunc_Value.b_l0  (fun x0 x1 x7 x8 => f_slices_IndexFunc_Value.M_l0  k n  (f_slices_IndexFunc_Value.fr_l0 x0 x1 x7 x8)) x0 x1 x7 x8 := by kernel_rfl
theorem f_slices_IndexFunc_Value.e_l0  (k n : Nat)  (x0 : List X_Value) (x1 : (X_Value × (Unit)) → Option (Bool)) (x7 : Int) (x8 : Int) : f_slices_IndexFunc_Value.M_l0  k n  (f_slices_IndexFunc_Value.fr_l0 x0 x1 x7 x8) = f_slices_IndexFunc_Value.l0  k  n x0 x1 x7 x8 := by
  induction n generalizing x0 x1 x7 x8 with
  | zero => rw [f_slices_IndexFunc_Value.z_l0]; rfl
  | succ n ih =>
    rw [f_slices_IndexFunc_Value.r_l0]
    simp only [ih]
    rfl
theorem f_slices_IndexFunc_Value.e  (k : Nat) (a0 : List X_Value) (a1 : (X_Value × (Unit)) → Option (Bool)) : fn (f_slices_IndexFunc_Value.C ) k Try.f44 f_slices_IndexFunc_Value.A f_slices_IndexFunc_Value.R (a0, a1) = f_slices_IndexFunc_Value.f  k a0 a1 := by
  rw [f_slices_IndexFunc_Value.r]
  simp only [f_slices_IndexFunc_Value.e_l0]
  rfl
def f_slices_IndexFunc_Value.u (k : Nat) : f_slices_IndexFunc_Value.E := fun y => f_slices_IndexFunc_Value.f  k y.1 y.2
theorem f_slices_IndexFunc_Value.ty  : TyOk Try.prog (f_slices_IndexFunc_Value.C ) := tyOk_of (by kernel_rfl)
theorem f_slices_IndexFunc_Value.sound (k : Nat) : Sound Try.prog ⟨44, f_slices_IndexFunc_Value.A, f_slices_IndexFunc_Value.R, f_slices_IndexFunc_Value.u k⟩ := by
  have h := fn_sound (k := k) («as» := f_slices_IndexFunc_Value.A) (rs := f_slices_IndexFunc_Value.R) (f_slices_IndexFunc_Value.ty ) (fun E h => by cases h) mixed Try.func44 (by kernel_rfl) (by kernel_rfl)
  have e : fn (f_slices_IndexFunc_Value.C ) k Try.f44 f_slices_IndexFunc_Value.A f_slices_IndexFunc_Value.R = f_slices_IndexFunc_Value.u k := by
    funext y
    exact f_slices_IndexFunc_Value.e  k y.1 y.2
  rw [e] at h
  exact h
/-! ### brindlewood/arguments.Bind$1: f45 -/
abbrev f_arguments_Bind_c1.A : List Sh := [(.d Y_Value)]
abbrev f_arguments_Bind_c1.R : List Sh := [(.d .bool)]
abbrev f_arguments_Bind_c1.E : Type := X_Value → Option (Bool)
def f_arguments_Bind_c1.C  : Ctx := { ty := [(3, (.int .i64)), (58, Y_Value)], nf := [(58, 5)], by_ := [], env := [], spec := [] }
noncomputable def f_arguments_Bind_c1.code : Code := Func.code Try.f45
noncomputable def f_arguments_Bind_c1.fin  := kfin (f_arguments_Bind_c1.C ) Try.f45 f_arguments_Bind_c1.A f_arguments_Bind_c1.R
def f_arguments_Bind_c1.b   (a0 : (Int) × (X_Int × (X_Int × X_errorAddressString))) : Option (Bool) :=
  some (a0.1 == (9 : Int))
def f_arguments_Bind_c1.f  (k : Nat) (a0 : (Int) × (X_Int × (X_Int × X_errorAddressString))) : Option (Bool) := f_arguments_Bind_c1.b   a0
theorem f_arguments_Bind_c1.r  (k : Nat) (a0 : (Int) × (X_Int × (X_Int × X_errorAddressString))) : fn (f_arguments_Bind_c1.C ) k Try.f45 f_arguments_Bind_c1.A f_arguments_Bind_c1.R a0 = f_arguments_Bind_c1.b   a0 := by kernel_rfl
theorem f_arguments_Bind_c1.e  (k : Nat) (a0 : (Int) × (X_Int × (X_Int × X_errorAddressString))) : fn (f_arguments_Bind_c1.C ) k Try.f45 f_arguments_Bind_c1.A f_arguments_Bind_c1.R a0 = f_arguments_Bind_c1.f  k a0 := by
  rw [f_arguments_Bind_c1.r]
  rfl
def f_arguments_Bind_c1.u (k : Nat) : f_arguments_Bind_c1.E := fun y => f_arguments_Bind_c1.f  k y
theorem f_arguments_Bind_c1.ty  : TyOk Try.prog (f_arguments_Bind_c1.C ) := tyOk_of (by kernel_rfl)
theorem f_arguments_Bind_c1.sound (k : Nat) : Sound Try.prog ⟨45, f_arguments_Bind_c1.A, f_arguments_Bind_c1.R, f_arguments_Bind_c1.u k⟩ := by
  have h := fn_sound (k := k) («as» := f_arguments_Bind_c1.A) (rs := f_arguments_Bind_c1.R) (f_arguments_Bind_c1.ty ) (fun E h => by cases h) mixed Try.func45 (by kernel_rfl) (by kernel_rfl)
  have e : fn (f_arguments_Bind_c1.C ) k Try.f45 f_arguments_Bind_c1.A f_arguments_Bind_c1.R = f_arguments_Bind_c1.u k := by
    funext y
    exact f_arguments_Bind_c1.e  k y
  rw [e] at h
  exact h
/-! ### slices.Clone[[]brindlewood/api.Value,brindlewood/api.Value]: f26 -/
abbrev f_slices_Clone_Value.A : List Sh := [(.d (.sl 58 Y_Value))]
abbrev f_slices_Clone_Value.R : List Sh := [(.o 58 Y_Value)]
abbrev f_slices_Clone_Value.E : Type := (List X_Value) → Option (List X_Value)
def f_slices_Clone_Value.C  : Ctx := { ty := [(36, (.sl 58 Y_Value))], nf := [], by_ := [(58, 96)], env := [], spec := [] }
noncomputable def f_slices_Clone_Value.code : Code := Func.code Try.f26
noncomputable def f_slices_Clone_Value.fin  := kfin (f_slices_Clone_Value.C ) Try.f26 f_slices_Clone_Value.A f_slices_Clone_Value.R
def f_slices_Clone_Value.b   (a0 : List X_Value) : Option (List X_Value) :=
  if 0 < (List.length a0) then
    if 0 ≤ (List.length ([] : List X_Value)) ∧ (0 + (List.length a0)) * 96 ≤ LIM then
      some (List.take (List.length (List.append (List.take 0 ([] : List X_Value)) a0)) (List.append (List.take 0 ([] : List X_Value)) a0))
    else none
  else
    agree
      (some ([] : List X_Value))
      (if 0 ≤ (List.length ([] : List X_Value)) ∧ (0 + (List.length a0)) * 96 ≤ LIM then
          some (List.take (List.length (List.append (List.take 0 ([] : List X_Value)) a0)) (List.append (List.take 0 ([] : List X_Value)) a0))
        else none)
def f_slices_Clone_Value.c   (a0 : List X_Value) : Option (List X_Value) :=
  if 0 < (List.length a0) then
    if 0 ≤ (List.length ([] : List X_Value)) ∧ ((List.length a0)) * 96 ≤ LIM then
      some ((List.take 0 ([] : List X_Value)) ++ a0)
    else none
  else
    agree
      (some ([] : List X_Value))
      (if 0 ≤ (List.length ([] : List X_Value)) ∧ ((List.length a0)) * 96 ≤ LIM then
          some ((List.take 0 ([] : List X_Value)) ++ a0)
        else none)
theorem f_slices_Clone_Value.q   (a0 : List X_Value) : f_slices_Clone_Value.b  a0 = f_slices_Clone_Value.c  a0 := by
  simp only [f_slices_Clone_Value.b, f_slices_Clone_Value.c, List.take_length, take_one, Nat.zero_add, Int.toNat_natCast, Int.toNat_zero, List.drop_zero, List.append_eq, Nat.le_refl, Int.le_refl, true_and, and_true, zero_le_one, if_true, prod_eta, Int.natCast_zero]
def f_slices_Clone_Value.f  (k : Nat) (a0 : List X_Value) : Option (List X_Value) := f_slices_Clone_Value.b   a0
theorem f_slices_Clone_Value.r  (k : Nat) (a0 : List X_Value) : fn (f_slices_Clone_Value.C ) k Try.f26 f_slices_Clone_Value.A f_slices_Clone_Value.R a0 = f_slices_Clone_Value.b   a0 := by kernel_rfl
theorem f_slices_Clone_Value.e  (k : Nat) (a0 : List X_Value) : fn (f_slices_Clone_Value.C ) k Try.f26 f_slices_Clone_Value.A f_slices_Clone_Value.R a0 = f_slices_Clone_Value.f  k a0 := by
  rw [f_slices_Clone_Value.r]
  rfl
def f_slices_Clone_Value.u (k : Nat) : f_slices_Clone_Value.E := fun y => f_slices_Clone_Value.f  k y
theorem f_slices_Clone_Value.ty  : TyOk Try.prog (f_slices_Clone_Value.C ) := tyOk_of (by kernel_rfl)
theorem f_slices_Clone_Value.sound (k : Nat) : Sound Try.prog ⟨26, f_slices_Clone_Value.A, f_slices_Clone_Value.R, f_slices_Clone_Value.u k⟩ := by
  have h := fn_sound (k := k) («as» := f_slices_Clone_Value.A) (rs := f_slices_Clone_Value.R) (f_slices_Clone_Value.ty ) (fun E h => by cases h) mixed Try.func26 (by kernel_rfl) (by kernel_rfl)
  have e : fn (f_slices_Clone_Value.C ) k Try.f26 f_slices_Clone_Value.A f_slices_Clone_Value.R = f_slices_Clone_Value.u k := by
    funext y
    exact f_slices_Clone_Value.e  k y
  rw [e] at h
  exact h
/-! ### (*brindlewood/arguments.binding).kind$1: f83 -/
abbrev f_arguments_binding_kind_c1.A : List Sh := [(.d Y_Param), (.pi (.int .i64))]
abbrev f_arguments_binding_kind_c1.R : List Sh := [(.d .bool)]
abbrev f_arguments_binding_kind_c1.E : Type := (X_Param × (Int)) → Option (Bool)
def f_arguments_binding_kind_c1.C  : Ctx := { ty := [(3, (.int .i64)), (51, Y_Param)], nf := [(51, 3)], by_ := [], env := [], spec := [] }
noncomputable def f_arguments_binding_kind_c1.code : Code := Func.code Try.f83
noncomputable def f_arguments_binding_kind_c1.fin  := kfin (f_arguments_binding_kind_c1.C ) Try.f83 f_arguments_binding_kind_c1.A f_arguments_binding_kind_c1.R
def f_arguments_binding_kind_c1.b   (a0 : (Int) × ((List UInt8) × (List (Unit)))) (a1 : Int) : Option (Bool) :=
  some (a0.1 == a1)
def f_arguments_binding_kind_c1.f  (k : Nat) (a0 : (Int) × ((List UInt8) × (List (Unit)))) (a1 : Int) : Option (Bool) := f_arguments_binding_kind_c1.b   a0 a1
theorem f_arguments_binding_kind_c1.r  (k : Nat) (a0 : (Int) × ((List UInt8) × (List (Unit)))) (a1 : Int) : fn (f_arguments_binding_kind_c1.C ) k Try.f83 f_arguments_binding_kind_c1.A f_arguments_binding_kind_c1.R (a0, a1) = f_arguments_binding_kind_c1.b   a0 a1 := by kernel_rfl
theorem f_arguments_binding_kind_c1.e  (k : Nat) (a0 : (Int) × ((List UInt8) × (List (Unit)))) (a1 : Int) : fn (f_arguments_binding_kind_c1.C ) k Try.f83 f_arguments_binding_kind_c1.A f_arguments_binding_kind_c1.R (a0, a1) = f_arguments_binding_kind_c1.f  k a0 a1 := by
  rw [f_arguments_binding_kind_c1.r]
  rfl
def f_arguments_binding_kind_c1.u (k : Nat) : f_arguments_binding_kind_c1.E := fun y => f_arguments_binding_kind_c1.f  k y.1 y.2
theorem f_arguments_binding_kind_c1.ty  : TyOk Try.prog (f_arguments_binding_kind_c1.C ) := tyOk_of (by kernel_rfl)
theorem f_arguments_binding_kind_c1.sound (k : Nat) : Sound Try.prog ⟨83, f_arguments_binding_kind_c1.A, f_arguments_binding_kind_c1.R, f_arguments_binding_kind_c1.u k⟩ := by
  have h := fn_sound (k := k) («as» := f_arguments_binding_kind_c1.A) (rs := f_arguments_binding_kind_c1.R) (f_arguments_binding_kind_c1.ty ) (fun E h => by cases h) mixed Try.func83 (by kernel_rfl) (by kernel_rfl)
  have e : fn (f_arguments_binding_kind_c1.C ) k Try.f83 f_arguments_binding_kind_c1.A f_arguments_binding_kind_c1.R = f_arguments_binding_kind_c1.u k := by
    funext y
    exact f_arguments_binding_kind_c1.e  k y.1 y.2
  rw [e] at h
  exact h
/-! ### (*brindlewood/arguments.binding).kind: f74 -/
abbrev f_arguments_binding_kind.A : List Sh := [(.pi Y_binding), (.d (.int .i64))]
abbrev f_arguments_binding_kind.R : List Sh := [(.d (.int .i64))]
abbrev f_arguments_binding_kind.E : Type := (X_binding × (Int)) → Option (Int)
def f_arguments_binding_kind.C (c63 : f_slices_IndexFunc_Param.E) (c83 : f_arguments_binding_kind_c1.E) : Ctx := { ty := [(3, (.int .i64)), (25, (.sl 51 Y_Param)), (76, Y_binding)], nf := [(76, 3)], by_ := [(51, 48)], env := [⟨63, f_slices_IndexFunc_Param.A, f_slices_IndexFunc_Param.R, c63⟩, ⟨83, f_arguments_binding_kind_c1.A, f_arguments_binding_kind_c1.R, c83⟩], spec := [] }
noncomputable def f_arguments_binding_kind.code : Code := Func.code Try.f74
noncomputable def f_arguments_binding_kind.fin (c63 : f_slices_IndexFunc_Param.E) (c83 : f_arguments_binding_kind_c1.E) := kfin (f_arguments_binding_kind.C c63 c83) Try.f74 f_arguments_binding_kind.A f_arguments_binding_kind.R
def f_arguments_binding_kind.b (c63 : f_slices_IndexFunc_Param.E) (c83 : f_arguments_binding_kind_c1.E)  (a0 : (List X_Param) × ((List UInt8) × X_Bound)) (a1 : Int) : Option (Int) :=
  (c63 (a0.1, (fun z1 => (c83 (z1.1, a1)).bind some))).bind fun y2 =>
    some y2
def f_arguments_binding_kind.f (c63 : f_slices_IndexFunc_Param.E) (c83 : f_arguments_binding_kind_c1.E) (k : Nat) (a0 : (List X_Param) × ((List UInt8) × X_Bound)) (a1 : Int) : Option (Int) := f_arguments_binding_kind.b c63 c83  a0 a1
theorem f_arguments_binding_kind.r (c63 : f_slices_IndexFunc_Param.E) (c83 : f_arguments_binding_kind_c1.E) (k : Nat) (a0 : (List X_Param) × ((List UInt8) × X_Bound)) (a1 : Int) : fn (f_arguments_binding_kind.C c63 c83) k Try.f74 f_arguments_binding_kind.A f_arguments_binding_kind.R (a0, a1) = f_arguments_binding_kind.b c63 c83  a0 a1 := by kernel_rfl
theorem f_arguments_binding_kind.e (c63 : f_slices_IndexFunc_Param.E) (c83 : f_arguments_binding_kind_c1.E) (k : Nat) (a0 : (List X_Param) × ((List UInt8) × X_Bound)) (a1 : Int) : fn (f_arguments_binding_kind.C c63 c83) k Try.f74 f_arguments_binding_kind.A f_arguments_binding_kind.R (a0, a1) = f_arguments_binding_kind.f c63 c83 k a0 a1 := by
  rw [f_arguments_binding_kind.r]
  rfl
def f_arguments_binding_kind.u (k : Nat) : f_arguments_binding_kind.E := fun y => f_arguments_binding_kind.f (f_slices_IndexFunc_Param.u k) (f_arguments_binding_kind_c1.u k) k y.1 y.2
theorem f_arguments_binding_kind.ty (c63 : f_slices_IndexFunc_Param.E) (c83 : f_arguments_binding_kind_c1.E) : TyOk Try.prog (f_arguments_binding_kind.C c63 c83) := tyOk_of (by kernel_rfl)
theorem f_arguments_binding_kind.sound (k : Nat) : Sound Try.prog ⟨74, f_arguments_binding_kind.A, f_arguments_binding_kind.R, f_arguments_binding_kind.u k⟩ := by
  have h := fn_sound (k := k) («as» := f_arguments_binding_kind.A) (rs := f_arguments_binding_kind.R) (f_arguments_binding_kind.ty (f_slices_IndexFunc_Param.u k) (f_arguments_binding_kind_c1.u k)) (fun E h => by
    simp only [f_arguments_binding_kind.C, List.mem_cons, List.not_mem_nil, or_false] at h
    rcases h with rfl | rfl
    · exact f_slices_IndexFunc_Param.sound k
    · exact f_arguments_binding_kind_c1.sound k) mixed Try.func74 (by kernel_rfl) (by kernel_rfl)
  have e : fn (f_arguments_binding_kind.C (f_slices_IndexFunc_Param.u k) (f_arguments_binding_kind_c1.u k)) k Try.f74 f_arguments_binding_kind.A f_arguments_binding_kind.R = f_arguments_binding_kind.u k := by
    funext y
    exact f_arguments_binding_kind.e (f_slices_IndexFunc_Param.u k) (f_arguments_binding_kind_c1.u k) k y.1 y.2
  rw [e] at h
  exact h
/-! ### (*brindlewood/arguments.binding).positional: f46 -/
abbrev f_arguments_binding_positional.A : List Sh := [(.pm (.pair (.d (.sl 51 Y_Param)) (.pair (.d .str) (.pair (.o 58 Y_Value) (.pair (.d (.sl 58 Y_Value)) (.pair (.o 9 .str) (.o 58 Y_Value))))))), (.d (.sl 58 Y_Value))]
abbrev f_arguments_binding_positional.R : List Sh := [(.d .str)]
abbrev f_arguments_binding_positional.E : Type := (X_binding × (List X_Value)) → Option ((List UInt8) × X_binding)
def f_arguments_binding_positional.C (c26 : f_slices_Clone_Value.E) (c74 : f_arguments_binding_kind.E) : Ctx := { ty := [(3, (.int .i64)), (9, .str), (25, (.sl 51 Y_Param)), (36, (.sl 58 Y_Value)), (41, Y_Bound), (51, Y_Param), (58, Y_Value), (76, Y_binding)], nf := [(41, 4), (51, 3), (76, 3)], by_ := [(51, 48), (58, 96)], env := [⟨26, f_slices_Clone_Value.A, f_slices_Clone_Value.R, c26⟩, ⟨74, f_arguments_binding_kind.A, f_arguments_binding_kind.R, c74⟩], spec := [(0, [.bx 0 900000 (.pair (.d (.sl 51 Y_Param)) (.pair (.d .str) (.pair (.o 58 Y_Value) (.pair (.d (.sl 58 Y_Value)) (.pair (.o 9 .str) (.o 58 Y_Value)))))), .d 1 (.sl 58 Y_Value), .d 5 (.int .i64)]), (100005, [.bx 0 900000 (.pair (.d (.sl 51 Y_Param)) (.pair (.d .str) (.pair (.o 58 Y_Value) (.pair (.d (.sl 58 Y_Value)) (.pair (.o 9 .str) (.o 58 Y_Value)))))), .d 1 (.sl 58 Y_Value), .d 5 (.int .i64)]), (100008, [.bx 0 900000 (.pair (.d (.sl 51 Y_Param)) (.pair (.d .str) (.pair (.o 58 Y_Value) (.pair (.o 58 Y_Value) (.pair (.o 9 .str) (.o 58 Y_Value))))))])] }
noncomputable def f_arguments_binding_positional.code : Code := Func.code Try.f46
noncomputable def f_arguments_binding_positional.fin (c26 : f_slices_Clone_Value.E) (c74 : f_arguments_binding_kind.E) := kfin (f_arguments_binding_positional.C c26 c74) Try.f46 f_arguments_binding_positional.A f_arguments_binding_positional.R
def f_arguments_binding_positional.b (c26 : f_slices_Clone_Value.E) (c74 : f_arguments_binding_kind.E) (r_l0 : X_binding → (List X_Value) → (Int) → Option ((List UInt8) × X_binding)) (a0 : (List X_Param) × ((List UInt8) × X_Bound)) (a1 : List X_Value) : Option ((List UInt8) × X_binding) :=
  r_l0 (a0.1, (a0.2.1, ((List.take (List.length a0.2.2.1) a0.2.2.1), (a0.2.2.2.1, ((List.take (List.length a0.2.2.2.2.1) a0.2.2.2.2.1), (List.take (List.length a0.2.2.2.2.2) a0.2.2.2.2.2)))))) a1 (0 : Int)
def f_arguments_binding_positional.b_l0 (c26 : f_slices_Clone_Value.E) (c74 : f_arguments_binding_kind.E) (n_l0 : X_binding → (List X_Value) → (Int) → Option ((List UInt8) × X_binding)) (r_g5 : X_binding → (List X_Value) → (Int) → Option ((List UInt8) × X_binding)) (x0 : (List X_Param) × ((List UInt8) × X_Bound)) (x1 : List X_Value) (x5 : Int) : Option ((List UInt8) × X_binding) :=
  bif (decide (x5 < ((List.length x1) : Int))) then
    bif (decide (x5 < ((List.length x0.1) : Int))) then
      if 0 ≤ x5 ∧ x5 < ((List.length x0.1) : Int) then
        bif (((List.getD x0.1 (Int.toNat x5) ((0 : Int), ([], []))).1) == (0 : Int)) then
          if 0 ≤ x5 ∧ x5 < ((List.length x1) : Int) then
            if 0 ≤ x5 ∧ x5 < (((List.length x0.2.2.1) : Nat) : Int) then
              n_l0 (x0.1, (x0.2.1, ((List.take (List.length x0.2.2.1) (List.set x0.2.2.1 (0 + Int.toNat x5) (List.getD x1 (Int.toNat x5) Z_Value))), (x0.2.2.2.1, ((List.take (List.length x0.2.2.2.2.1) x0.2.2.2.2.1), (List.take (List.length x0.2.2.2.2.2) x0.2.2.2.2.2)))))) x1 (IntKind.i64.wrap (x5 + (1 : Int)))
            else none
          else none
        else
          r_g5 (x0.1, (x0.2.1, ((List.take (List.length x0.2.2.1) x0.2.2.1), (x0.2.2.2.1, ((List.take (List.length x0.2.2.2.2.1) x0.2.2.2.2.1), (List.take (List.length x0.2.2.2.2.2) x0.2.2.2.2.2)))))) x1 x5
      else none
    else
      r_g5 (x0.1, (x0.2.1, ((List.take (List.length x0.2.2.1) x0.2.2.1), (x0.2.2.2.1, ((List.take (List.length x0.2.2.2.2.1) x0.2.2.2.2.1), (List.take (List.length x0.2.2.2.2.2) x0.2.2.2.2.2)))))) x1 x5
  else
    r_g5 (x0.1, (x0.2.1, ((List.take (List.length x0.2.2.1) x0.2.2.1), (x0.2.2.2.1, ((List.take (List.length x0.2.2.2.2.1) x0.2.2.2.2.1), (List.take (List.length x0.2.2.2.2.2) x0.2.2.2.2.2)))))) x1 x5
def f_arguments_binding_positional.b_g5 (c26 : f_slices_Clone_Value.E) (c74 : f_arguments_binding_kind.E) (r_g8 : X_binding → Option ((List UInt8) × X_binding)) (x0 : (List X_Param) × ((List UInt8) × X_Bound)) (x1 : List X_Value) (x5 : Int) : Option ((List UInt8) × X_binding) :=
  if 0 ≤ x5 ∧ x5 ≤ ((List.length x1) : Int) ∧ ((List.length x1) : Int) ≤ ((List.length x1) : Int) then
    (c26 (List.drop (Int.toNat x5) (List.take (Int.toNat ((List.length x1) : Int)) x1))).bind fun y1 =>
      (c74 ((x0.1, (x0.2.1, ((List.take (List.length x0.2.2.1) x0.2.2.1), ((List.take (List.length y1) y1), ((List.take (List.length x0.2.2.2.2.1) x0.2.2.2.2.1), (List.take (List.length x0.2.2.2.2.2) x0.2.2.2.2.2)))))), (1 : Int))).bind fun y2 =>
        bif (decide ((((List.length y1) : Nat) : Int) > (0 : Int))) then
          bif (decide (y2 < (0 : Int))) then
            r_g8 (x0.1, (x0.2.1, ((List.take (List.length x0.2.2.1) x0.2.2.1), ((List.take (List.length y1) y1), ((List.take (List.length x0.2.2.2.2.1) x0.2.2.2.2.1), (List.take (List.length x0.2.2.2.2.2) x0.2.2.2.2.2))))))
          else
            if 0 ≤ y2 ∧ y2 < ((List.length x0.1) : Int) then
              bif ((((List.getD x0.1 (Int.toNat y2) ((0 : Int), ([], []))).2).1) == []) then
                r_g8 (x0.1, (x0.2.1, ((List.take (List.length x0.2.2.1) x0.2.2.1), ((List.take (List.length y1) y1), ((List.take (List.length x0.2.2.2.2.1) x0.2.2.2.2.1), (List.take (List.length x0.2.2.2.2.2) x0.2.2.2.2.2))))))
              else
                some ([], (x0.1, (x0.2.1, ((List.take (List.length x0.2.2.1) x0.2.2.1), ((List.take (List.length y1) y1), ((List.take (List.length x0.2.2.2.2.1) x0.2.2.2.2.1), (List.take (List.length x0.2.2.2.2.2) x0.2.2.2.2.2)))))))
            else none
        else
          some ([], (x0.1, (x0.2.1, ((List.take (List.length x0.2.2.1) x0.2.2.1), ((List.take (List.length y1) y1), ((List.take (List.length x0.2.2.2.2.1) x0.2.2.2.2.1), (List.take (List.length x0.2.2.2.2.2) x0.2.2.2.2.2)))))))
  else none
def f_arguments_binding_positional.b_g8 (c26 : f_slices_Clone_Value.E) (c74 : f_arguments_binding_kind.E)  (x0 : (List X_Param) × ((List UInt8) × X_Bound)) : Option ((List UInt8) × X_binding) :=
  if (List.length x0.2.1) + (List.length [40, 41, 32, 103, 111, 116, 32, 116, 111, 111, 32, 109, 97, 110, 121, 32, 97, 114, 103, 117, 109, 101, 110, 116, 115]) ≤ 9223372036854775807 then
    some ((x0.2.1 ++ [40, 41, 32, 103, 111, 116, 32, 116, 111, 111, 32, 109, 97, 110, 121, 32, 97, 114, 103, 117, 109, 101, 110, 116, 115]), (x0.1, (x0.2.1, ((List.take (List.length x0.2.2.1) x0.2.2.1), ((List.take (List.length x0.2.2.2.1) x0.2.2.2.1), ((List.take (List.length x0.2.2.2.2.1) x0.2.2.2.2.1), (List.take (List.length x0.2.2.2.2.2) x0.2.2.2.2.2)))))))
  else none
def f_arguments_binding_positional.c (c26 : f_slices_Clone_Value.E) (c74 : f_arguments_binding_kind.E) (r_l0 : X_binding → (List X_Value) → (Int) → Option ((List UInt8) × X_binding)) (a0 : (List X_Param) × ((List UInt8) × X_Bound)) (a1 : List X_Value) : Option ((List UInt8) × X_binding) :=
  r_l0 a0 a1 (0 : Int)
theorem f_arguments_binding_positional.q (c26 : f_slices_Clone_Value.E) (c74 : f_arguments_binding_kind.E) (r_l0 : X_binding → (List X_Value) → (Int) → Option ((List UInt8) × X_binding)) (a0 : (List X_Param) × ((List UInt8) × X_Bound)) (a1 : List X_Value) : f_arguments_binding_positional.b c26 c74 r_l0 a0 a1 = f_arguments_binding_positional.c c26 c74 r_l0 a0 a1 := by
  simp only [f_arguments_binding_positional.b, f_arguments_binding_positional.c, List.take_length, take_one, Nat.zero_add, Int.toNat_natCast, Int.toNat_zero, List.drop_zero, List.append_eq, Nat.le_refl, Int.le_refl, true_and, and_true, zero_le_one, if_true, prod_eta, Int.natCast_zero]
def f_arguments_binding_positional.c_l0 (c26 : f_slices_Clone_Value.E) (c74 : f_arguments_binding_kind.E) (n_l0 : X_binding → (List X_Value) → (Int) → Option ((List UInt8) × X_binding)) (r_g5 : X_binding → (List X_Value) → (Int) → Option ((List UInt8) × X_binding)) (x0 : (List X_Param) × ((List UInt8) × X_Bound)) (x1 : List X_Value) (x5 : Int) : Option ((List UInt8) × X_binding) :=
  bif (decide (x5 < ((List.length x1) : Int))) then
    bif (decide (x5 < ((List.length x0.1) : Int))) then
      if 0 ≤ x5 ∧ x5 < ((List.length x0.1) : Int) then
        bif (((List.getD x0.1 (Int.toNat x5) ((0 : Int), ([], []))).1) == (0 : Int)) then
          if 0 ≤ x5 ∧ x5 < ((List.length x1) : Int) then
            if 0 ≤ x5 ∧ x5 < ((List.length x0.2.2.1) : Int) then
              n_l0 (x0.1, (x0.2.1, ((List.take (List.length x0.2.2.1) (List.set x0.2.2.1 (0 + Int.toNat x5) (List.getD x1 (Int.toNat x5) Z_Value))), x0.2.2.2))) x1 (IntKind.i64.wrap (x5 + (1 : Int)))
            else none
          else none
        else
          r_g5 x0 x1 x5
      else none
    else
      r_g5 x0 x1 x5
  else
    r_g5 x0 x1 x5
theorem f_arguments_binding_positional.q_l0 (c26 : f_slices_Clone_Value.E) (c74 : f_arguments_binding_kind.E) (n_l0 : X_binding → (List X_Value) → (Int) → Option ((List UInt8) × X_binding)) (r_g5 : X_binding → (List X_Value) → (Int) → Option ((List UInt8) × X_binding)) (x0 : (List X_Param) × ((List UInt8) × X_Bound)) (x1 : List X_Value) (x5 : Int) : f_arguments_binding_positional.b_l0 c26 c74 n_l0 r_g5 x0 x1 x5 = f_arguments_binding_positional.c_l0 c26 c74 n_l0 r_g5 x0 x1 x5 := by
  simp only [f_arguments_binding_positional.b_l0, f_arguments_binding_positional.c_l0, List.take_length, take_one, Nat.zero_add, Int.toNat_natCast, Int.toNat_zero, List.drop_zero, List.append_eq, Nat.le_refl, Int.le_refl, true_and, and_true, zero_le_one, if_true, prod_eta, Int.natCast_zero]
def f_arguments_binding_positional.c_g5 (c26 : f_slices_Clone_Value.E) (c74 : f_arguments_binding_kind.E) (r_g8 : X_binding → Option ((List UInt8) × X_binding)) (x0 : (List X_Param) × ((List UInt8) × X_Bound)) (x1 : List X_Value) (x5 : Int) : Option ((List UInt8) × X_binding) :=
  if 0 ≤ x5 ∧ x5 ≤ ((List.length x1) : Int) then
    (c26 (List.drop (Int.toNat x5) x1)).bind fun y1 =>
      (c74 ((x0.1, (x0.2.1, (x0.2.2.1, (y1, x0.2.2.2.2)))), (1 : Int))).bind fun y2 =>
        bif (decide (((List.length y1) : Int) > (0 : Int))) then
          bif (decide (y2 < (0 : Int))) then
            r_g8 (x0.1, (x0.2.1, (x0.2.2.1, (y1, x0.2.2.2.2))))
          else
            if 0 ≤ y2 ∧ y2 < ((List.length x0.1) : Int) then
              bif ((((List.getD x0.1 (Int.toNat y2) ((0 : Int), ([], []))).2).1) == []) then
                r_g8 (x0.1, (x0.2.1, (x0.2.2.1, (y1, x0.2.2.2.2))))
              else
                some ([], (x0.1, (x0.2.1, (x0.2.2.1, (y1, x0.2.2.2.2)))))
            else none
        else
          some ([], (x0.1, (x0.2.1, (x0.2.2.1, (y1, x0.2.2.2.2)))))
  else none
theorem f_arguments_binding_positional.q_g5 (c26 : f_slices_Clone_Value.E) (c74 : f_arguments_binding_kind.E) (r_g8 : X_binding → Option ((List UInt8) × X_binding)) (x0 : (List X_Param) × ((List UInt8) × X_Bound)) (x1 : List X_Value) (x5 : Int) : f_arguments_binding_positional.b_g5 c26 c74 r_g8 x0 x1 x5 = f_arguments_binding_positional.c_g5 c26 c74 r_g8 x0 x1 x5 := by
  simp only [f_arguments_binding_positional.b_g5, f_arguments_binding_positional.c_g5, List.take_length, take_one, Nat.zero_add, Int.toNat_natCast, Int.toNat_zero, List.drop_zero, List.append_eq, Nat.le_refl, Int.le_refl, true_and, and_true, zero_le_one, if_true, prod_eta, Int.natCast_zero]
def f_arguments_binding_positional.c_g8 (c26 : f_slices_Clone_Value.E) (c74 : f_arguments_binding_kind.E)  (x0 : (List X_Param) × ((List UInt8) × X_Bound)) : Option ((List UInt8) × X_binding) :=
  if (List.length x0.2.1) + (List.length [40, 41, 32, 103, 111, 116, 32, 116, 111, 111, 32, 109, 97, 110, 121, 32, 97, 114, 103, 117, 109, 101, 110, 116, 115]) ≤ 9223372036854775807 then
    some ((x0.2.1 ++ [40, 41, 32, 103, 111, 116, 32, 116, 111, 111, 32, 109, 97, 110, 121, 32, 97, 114, 103, 117, 109, 101, 110, 116, 115]), x0)
  else none
theorem f_arguments_binding_positional.q_g8 (c26 : f_slices_Clone_Value.E) (c74 : f_arguments_binding_kind.E)  (x0 : (List X_Param) × ((List UInt8) × X_Bound)) : f_arguments_binding_positional.b_g8 c26 c74 x0 = f_arguments_binding_positional.c_g8 c26 c74 x0 := by
  simp only [f_arguments_binding_positional.b_g8, f_arguments_binding_positional.c_g8, List.take_length, take_one, Nat.zero_add, Int.toNat_natCast, Int.toNat_zero, List.drop_zero, List.append_eq, Nat.le_refl, Int.le_refl, true_and, and_true, zero_le_one, if_true, prod_eta, Int.natCast_zero]
def f_arguments_binding_positional.g8 (c26 : f_slices_Clone_Value.E) (c74 : f_arguments_binding_kind.E) (k : Nat)  (x0 : (List X_Param) × ((List UInt8) × X_Bound)) : Option ((List UInt8) × X_binding) := gate k (f_arguments_binding_positional.b_g8 c26 c74  x0)
def f_arguments_binding_positional.g5 (c26 : f_slices_Clone_Value.E) (c74 : f_arguments_binding_kind.E) (k : Nat)  (x0 : (List X_Param) × ((List UInt8) × X_Bound)) (x1 : List X_Value) (x5 : Int) : Option ((List UInt8) × X_binding) := gate k (f_arguments_binding_positional.b_g5 c26 c74 (f_arguments_binding_positional.g8 c26 c74 k ) x0 x1 x5)
def f_arguments_binding_positional.l0 (c26 : f_slices_Clone_Value.E) (c74 : f_arguments_binding_kind.E) (k : Nat)  : Nat → X_binding → (List X_Value) → (Int) → Option ((List UInt8) × X_binding)
  | 0, _, _, _ => none
  | n + 1, x0, x1, x5 => f_arguments_binding_positional.b_l0 c26 c74 (fun x0 x1 x5 => f_arguments_binding_positional.l0 c26 c74 k  n x0 x1 x5) (f_arguments_binding_positional.g5 c26 c74 k ) x0 x1 x5
def f_arguments_binding_positional.f (c26 : f_slices_Clone_Value.E) (c74 : f_arguments_binding_kind.E) (k : Nat) (a0 : (List X_Param) × ((List UInt8) × X_Bound)) (a1 : List X_Value) : Option ((List UInt8) × X_binding) := f_arguments_binding_positional.b c26 c74 (f_arguments_binding_positional.l0 c26 c74 k k) a0 a1
noncomputable def f_arguments_binding_positional.M_l0 (c26 : f_slices_Clone_Value.E) (c74 : f_arguments_binding_kind.E) (k n : Nat)  (s : St) : Option ((List UInt8) × X_binding) := atLoop (f_arguments_binding_positional.C c26 c74) k n [1, 1, 0, 0] [] f_arguments_binding_positional.code (f_arguments_binding_positional.fin c26 c74) s
noncomputable def f_arguments_binding_positional.fr_l0 (x0 : (List X_Param) × ((List UInt8) × X_Bound)) (x1 : List X_Value) (x5 : Int) : St := ⟨((((List.replicate 81 V.un).set 0 (V.bp 900000 0 [])).set 1 (V.dat (.sl 58 Y_Value) x1)).set 5 (V.dat (.int .i64) x5)), [⟨900000, 0, .box (V.st (V.dat (.sl 51 Y_Param) x0.1) (V.st (V.dat .str x0.2.1) (V.st (V.ref 16400000 0 0 (List.length x0.2.2.1)) (V.st (V.dat (.sl 58 Y_Value) x0.2.2.2.1) (V.st (V.ref 16400001 0 0 (List.length x0.2.2.2.2.1)) (V.ref 16400002 0 0 (List.length x0.2.2.2.2.2)))))))⟩, ⟨16400000, 0, .arr 58 Y_Value x0.2.2.1⟩, ⟨16400001, 0, .arr 9 .str x0.2.2.2.2.1⟩, ⟨16400002, 0, .arr 58 Y_Value x0.2.2.2.2.2⟩]⟩
noncomputable def f_arguments_binding_positional.M_g5 (c26 : f_slices_Clone_Value.E) (c74 : f_arguments_binding_kind.E) (k : Nat)  (s : St) : Option ((List UInt8) × X_binding) := atGate (f_arguments_binding_positional.C c26 c74) k [1, 1, 1, 0] [] f_arguments_binding_positional.code (f_arguments_binding_positional.fin c26 c74) s
noncomputable def f_arguments_binding_positional.fr_g5 (x0 : (List X_Param) × ((List UInt8) × X_Bound)) (x1 : List X_Value) (x5 : Int) : St := ⟨((((List.replicate 81 V.un).set 0 (V.bp 900000 0 [])).set 1 (V.dat (.sl 58 Y_Value) x1)).set 5 (V.dat (.int .i64) x5)), [⟨900000, 0, .box (V.st (V.dat (.sl 51 Y_Param) x0.1) (V.st (V.dat .str x0.2.1) (V.st (V.ref 16400000 0 0 (List.length x0.2.2.1)) (V.st (V.dat (.sl 58 Y_Value) x0.2.2.2.1) (V.st (V.ref 16400001 0 0 (List.length x0.2.2.2.2.1)) (V.ref 16400002 0 0 (List.length x0.2.2.2.2.2)))))))⟩, ⟨16400000, 0, .arr 58 Y_Value x0.2.2.1⟩, ⟨16400001, 0, .arr 9 .str x0.2.2.2.2.1⟩, ⟨16400002, 0, .arr 58 Y_Value x0.2.2.2.2.2⟩]⟩
noncomputable def f_arguments_binding_positional.M_g8 (c26 : f_slices_Clone_Value.E) (c74 : f_arguments_binding_kind.E) (k : Nat)  (s : St) : Option ((List UInt8) × X_binding) := atGate (f_arguments_binding_positional.C c26 c74) k [1, 1, 1, 1, 1, 0, 1, 0, 0] [] f_arguments_binding_positional.code (f_arguments_binding_positional.fin c26 c74) s
noncomputable def f_arguments_binding_positional.fr_g8 (x0 : (List X_Param) × ((List UInt8) × X_Bound)) : St := ⟨((List.replicate 81 V.un).set 0 (V.bp 900000 0 [])), [⟨900000, 0, .box (V.st (V.dat (.sl 51 Y_Param) x0.1) (V.st (V.dat .str x0.2.1) (V.st (V.ref 16400000 0 0 (List.length x0.2.2.1)) (V.st (V.ref 16400001 0 0 (List.length x0.2.2.2.1)) (V.st (V.ref 16400002 0 0 (List.length x0.2.2.2.2.1)) (V.ref 16400003 0 0 (List.length x0.2.2.2.2.2)))))))⟩, ⟨16400000, 0, .arr 58 Y_Value x0.2.2.1⟩, ⟨16400001, 0, .arr 58 Y_Value x0.2.2.2.1⟩, ⟨16400002, 0, .arr 9 .str x0.2.2.2.2.1⟩, ⟨16400003, 0, .arr 58 Y_Value x0.2.2.2.2.2⟩]⟩
theorem f_arguments_binding_positional.r (c26 : f_slices_Clone_Value.E) (c74 : f_arguments_binding_kind.E) (k : Nat) (a0 : (List X_Param) × ((List UInt8) × X_Bound)) (a1 : List X_Value) : fn (f_arguments_binding_positional.C c26 c74) k Try.f46 f_arguments_binding_positional.A f_arguments_binding_positional.R (a0, a1) = f_arguments_binding_positional.b c26 c74 (fun x0 x1 x5 => f_arguments_binding_positional.M_l0 c26 c74 k k  (f_arguments_binding_positional.fr_l0 x0 x1 x5)) a0 a1 := by kernel_rfl
theorem f_arguments_binding_positional.z_l0 (c26 : f_slices_Clone_Value.E) (c74 : f_arguments_binding_kind.E) (k : Nat)  (s : St) : f_arguments_binding_positional.M_l0 c26 c74 k 0  s = none := by kernel_rfl
theorem f_arguments_binding_positional.r_l0 (c26 : f_slices_Clone_Value.E) (c74 : f_arguments_binding_kind.E) (k n : Nat)  (x0 : (List X_Param) × ((List UInt8) × X_Bound)) (x1 : List X_Value) (x5 : Int) : f_arguments_binding_positional.M_l0 c26 c74 k (n + 1)  (f_arguments_binding_positional.fr_l0 x0 x1 x5) = f_arguments_binding_positional.b_l0 c26 c74 (fun x0 x1 x5 => f_arguments_binding_positional.M_l0 c26 c74 k n  (f_arguments_binding_positional.fr_l0 x0 x1 x5)) (fun x0 x1 x5 => f_arguments_binding_positional.M_g5 c26 c74 k   (f_arguments_binding_positional.fr_g5 x0 x1 x5)) x0 x1 x5 := by kernel_rfl
theorem f_arguments_binding_positional.r_g5 (c26 : f_slices_Clone_Value.E) (c74 : f_arguments_binding_kind.E) (k : Nat)  (x0 : (List X_Param) × ((List UInt8) × X_Bound)) (x1 : List X_Value) (x5 : Int) : f_arguments_binding_positional.M_g5 c26 c74 k  (f_arguments_binding_positional.fr_g5 x0 x1 x5) = gate k (f_arguments_binding_positional.b_g5 c26 c74 (fun x0 => f_arguments_binding_positional.M_g8 c26 c74 k   (f_arguments_binding_positional.fr_g8 x0)) x0 x1 x5) := by kernel_rfl
theorem f_arguments_binding_positional.r_g8 (c26 : f_slices_Clone_Value.E) (c74 : f_arguments_binding_kind.E) (k : Nat)  (x0 : (List X_Param) × ((List UInt8) × X_Bound)) : f_arguments_binding_positional.M_g8 c26 c74 k  (f_arguments_binding_positional.fr_g8 x0) = gate k (f_arguments_binding_positional.b_g8 c26 c74  x0) := by kernel_rfl
theorem f_arguments_binding_positional.e_g8 (c26 : f_slices_Clone_Value.E) (c74 : f_arguments_binding_kind.E) (k : Nat)  (x0 : (List X_Param) × ((List UInt8) × X_Bound)) : f_arguments_binding_positional.M_g8 c26 c74 k  (f_arguments_binding_positional.fr_g8 x0) = f_arguments_binding_positional.g8 c26 c74 k  x0 := by
  rw [f_arguments_binding_positional.r_g8]
  rfl
theorem f_arguments_binding_positional.e_g5 (c26 : f_slices_Clone_Value.E) (c74 : f_arguments_binding_kind.E) (k : Nat)  (x0 : (List X_Param) × ((List UInt8) × X_Bound)) (x1 : List X_Value) (x5 : Int) : f_arguments_binding_positional.M_g5 c26 c74 k  (f_arguments_binding_positional.fr_g5 x0 x1 x5) = f_arguments_binding_positional.g5 c26 c74 k  x0 x1 x5 := by
  rw [f_arguments_binding_positional.r_g5]
  simp only [f_arguments_binding_positional.e_g8]
  rfl
theorem f_arguments_binding_positional.e_l0 (c26 : f_slices_Clone_Value.E) (c74 : f_arguments_binding_kind.E) (k n : Nat)  (x0 : (List X_Param) × ((List UInt8) × X_Bound)) (x1 : List X_Value) (x5 : Int) : f_arguments_binding_positional.M_l0 c26 c74 k n  (f_arguments_binding_positional.fr_l0 x0 x1 x5) = f_arguments_binding_positional.l0 c26 c74 k  n x0 x1 x5 := by
  induction n generalizing x0 x1 x5 with
  | zero => rw [f_arguments_binding_positional.z_l0]; rfl
  | succ n ih =>
    rw [f_arguments_binding_positional.r_l0]
    simp only [f_arguments_binding_positional.e_g5, ih]
    rfl
theorem f_arguments_binding_positional.e (c26 : f_slices_Clone_Value.E) (c74 : f_arguments_binding_kind.E) (k : Nat) (a0 : (List X_Param) × ((List UInt8) × X_Bound)) (a1 : List X_Value) : fn (f_arguments_binding_positional.C c26 c74) k Try.f46 f_arguments_binding_positional.A f_arguments_binding_positional.R (a0, a1) = f_arguments_binding_positional.f c26 c74 k a0 a1 := by
  rw [f_arguments_binding_positional.r]
  simp only [f_arguments_binding_positional.e_l0]
  rfl
def f_arguments_binding_positional.u (k : Nat) : f_arguments_binding_positional.E := fun y => f_arguments_binding_positional.f (f_slices_Clone_Value.u k) (f_arguments_binding_kind.u k) k y.1 y.2
theorem f_arguments_binding_positional.ty (c26 : f_slices_Clone_Value.E) (c74 : f_arguments_binding_kind.E) : TyOk Try.prog (f_arguments_binding_positional.C c26 c74) := tyOk_of (by kernel_rfl)
theorem f_arguments_binding_positional.sound (k : Nat) : Sound Try.prog ⟨46, f_arguments_binding_positional.A, f_arguments_binding_positional.R, f_arguments_binding_positional.u k⟩ := by
  have h := fn_sound (k := k) («as» := f_arguments_binding_positional.A) (rs := f_arguments_binding_positional.R) (f_arguments_binding_positional.ty (f_slices_Clone_Value.u k) (f_arguments_binding_kind.u k)) (fun E h => by
    simp only [f_arguments_binding_positional.C, List.mem_cons, List.not_mem_nil, or_false] at h
    rcases h with rfl | rfl
    · exact f_slices_Clone_Value.sound k
    · exact f_arguments_binding_kind.sound k) mixed Try.func46 (by kernel_rfl) (by kernel_rfl)
  have e : fn (f_arguments_binding_positional.C (f_slices_Clone_Value.u k) (f_arguments_binding_kind.u k)) k Try.f46 f_arguments_binding_positional.A f_arguments_binding_positional.R = f_arguments_binding_positional.u k := by
    funext y
    exact f_arguments_binding_positional.e (f_slices_Clone_Value.u k) (f_arguments_binding_kind.u k) k y.1 y.2
  rw [e] at h
  exact h
/-! ### (*brindlewood/arguments.binding).at$1: f84 -/
abbrev f_arguments_binding_at_c1.A : List Sh := [(.d Y_Param), (.pi .str)]
abbrev f_arguments_binding_at_c1.R : List Sh := [(.d .bool)]
abbrev f_arguments_binding_at_c1.E : Type := (X_Param × (List UInt8)) → Option (Bool)
def f_arguments_binding_at_c1.C  : Ctx := { ty := [(3, (.int .i64)), (9, .str), (51, Y_Param)], nf := [(51, 3)], by_ := [], env := [], spec := [] }
noncomputable def f_arguments_binding_at_c1.code : Code := Func.code Try.f84
noncomputable def f_arguments_binding_at_c1.fin  := kfin (f_arguments_binding_at_c1.C ) Try.f84 f_arguments_binding_at_c1.A f_arguments_binding_at_c1.R
def f_arguments_binding_at_c1.b   (a0 : (Int) × ((List UInt8) × (List (Unit)))) (a1 : List UInt8) : Option (Bool) :=
  bif (a0.2.1 == a1) then
    bif (a0.1 == (0 : Int)) then
      some true
    else
      some (a0.1 == (2 : Int))
  else
    some false
def f_arguments_binding_at_c1.f  (k : Nat) (a0 : (Int) × ((List UInt8) × (List (Unit)))) (a1 : List UInt8) : Option (Bool) := f_arguments_binding_at_c1.b   a0 a1
theorem f_arguments_binding_at_c1.r  (k : Nat) (a0 : (Int) × ((List UInt8) × (List (Unit)))) (a1 : List UInt8) : fn (f_arguments_binding_at_c1.C ) k Try.f84 f_arguments_binding_at_c1.A f_arguments_binding_at_c1.R (a0, a1) = f_arguments_binding_at_c1.b   a0 a1 := by kernel_rfl
theorem f_arguments_binding_at_c1.e  (k : Nat) (a0 : (Int) × ((List UInt8) × (List (Unit)))) (a1 : List UInt8) : fn (f_arguments_binding_at_c1.C ) k Try.f84 f_arguments_binding_at_c1.A f_arguments_binding_at_c1.R (a0, a1) = f_arguments_binding_at_c1.f  k a0 a1 := by
  rw [f_arguments_binding_at_c1.r]
  rfl
def f_arguments_binding_at_c1.u (k : Nat) : f_arguments_binding_at_c1.E := fun y => f_arguments_binding_at_c1.f  k y.1 y.2
theorem f_arguments_binding_at_c1.ty  : TyOk Try.prog (f_arguments_binding_at_c1.C ) := tyOk_of (by kernel_rfl)
theorem f_arguments_binding_at_c1.sound (k : Nat) : Sound Try.prog ⟨84, f_arguments_binding_at_c1.A, f_arguments_binding_at_c1.R, f_arguments_binding_at_c1.u k⟩ := by
  have h := fn_sound (k := k) («as» := f_arguments_binding_at_c1.A) (rs := f_arguments_binding_at_c1.R) (f_arguments_binding_at_c1.ty ) (fun E h => by cases h) mixed Try.func84 (by kernel_rfl) (by kernel_rfl)
  have e : fn (f_arguments_binding_at_c1.C ) k Try.f84 f_arguments_binding_at_c1.A f_arguments_binding_at_c1.R = f_arguments_binding_at_c1.u k := by
    funext y
    exact f_arguments_binding_at_c1.e  k y.1 y.2
  rw [e] at h
  exact h
/-! ### (*brindlewood/arguments.binding).at: f75 -/
abbrev f_arguments_binding_at.A : List Sh := [(.pi Y_binding), (.d .str)]
abbrev f_arguments_binding_at.R : List Sh := [(.d (.int .i64))]
abbrev f_arguments_binding_at.E : Type := (X_binding × (List UInt8)) → Option (Int)
def f_arguments_binding_at.C (c63 : f_slices_IndexFunc_Param.E) (c84 : f_arguments_binding_at_c1.E) : Ctx := { ty := [(9, .str), (25, (.sl 51 Y_Param)), (76, Y_binding)], nf := [(76, 3)], by_ := [(51, 48)], env := [⟨63, f_slices_IndexFunc_Param.A, f_slices_IndexFunc_Param.R, c63⟩, ⟨84, f_arguments_binding_at_c1.A, f_arguments_binding_at_c1.R, c84⟩], spec := [] }
noncomputable def f_arguments_binding_at.code : Code := Func.code Try.f75
noncomputable def f_arguments_binding_at.fin (c63 : f_slices_IndexFunc_Param.E) (c84 : f_arguments_binding_at_c1.E) := kfin (f_arguments_binding_at.C c63 c84) Try.f75 f_arguments_binding_at.A f_arguments_binding_at.R
def f_arguments_binding_at.b (c63 : f_slices_IndexFunc_Param.E) (c84 : f_arguments_binding_at_c1.E)  (a0 : (List X_Param) × ((List UInt8) × X_Bound)) (a1 : List UInt8) : Option (Int) :=
  (c63 (a0.1, (fun z1 => (c84 (z1.1, a1)).bind some))).bind fun y2 =>
    some y2
def f_arguments_binding_at.f (c63 : f_slices_IndexFunc_Param.E) (c84 : f_arguments_binding_at_c1.E) (k : Nat) (a0 : (List X_Param) × ((List UInt8) × X_Bound)) (a1 : List UInt8) : Option (Int) := f_arguments_binding_at.b c63 c84  a0 a1
theorem f_arguments_binding_at.r (c63 : f_slices_IndexFunc_Param.E) (c84 : f_arguments_binding_at_c1.E) (k : Nat) (a0 : (List X_Param) × ((List UInt8) × X_Bound)) (a1 : List UInt8) : fn (f_arguments_binding_at.C c63 c84) k Try.f75 f_arguments_binding_at.A f_arguments_binding_at.R (a0, a1) = f_arguments_binding_at.b c63 c84  a0 a1 := by kernel_rfl
theorem f_arguments_binding_at.e (c63 : f_slices_IndexFunc_Param.E) (c84 : f_arguments_binding_at_c1.E) (k : Nat) (a0 : (List X_Param) × ((List UInt8) × X_Bound)) (a1 : List UInt8) : fn (f_arguments_binding_at.C c63 c84) k Try.f75 f_arguments_binding_at.A f_arguments_binding_at.R (a0, a1) = f_arguments_binding_at.f c63 c84 k a0 a1 := by
  rw [f_arguments_binding_at.r]
  rfl
def f_arguments_binding_at.u (k : Nat) : f_arguments_binding_at.E := fun y => f_arguments_binding_at.f (f_slices_IndexFunc_Param.u k) (f_arguments_binding_at_c1.u k) k y.1 y.2
theorem f_arguments_binding_at.ty (c63 : f_slices_IndexFunc_Param.E) (c84 : f_arguments_binding_at_c1.E) : TyOk Try.prog (f_arguments_binding_at.C c63 c84) := tyOk_of (by kernel_rfl)
theorem f_arguments_binding_at.sound (k : Nat) : Sound Try.prog ⟨75, f_arguments_binding_at.A, f_arguments_binding_at.R, f_arguments_binding_at.u k⟩ := by
  have h := fn_sound (k := k) («as» := f_arguments_binding_at.A) (rs := f_arguments_binding_at.R) (f_arguments_binding_at.ty (f_slices_IndexFunc_Param.u k) (f_arguments_binding_at_c1.u k)) (fun E h => by
    simp only [f_arguments_binding_at.C, List.mem_cons, List.not_mem_nil, or_false] at h
    rcases h with rfl | rfl
    · exact f_slices_IndexFunc_Param.sound k
    · exact f_arguments_binding_at_c1.sound k) mixed Try.func75 (by kernel_rfl) (by kernel_rfl)
  have e : fn (f_arguments_binding_at.C (f_slices_IndexFunc_Param.u k) (f_arguments_binding_at_c1.u k)) k Try.f75 f_arguments_binding_at.A f_arguments_binding_at.R = f_arguments_binding_at.u k := by
    funext y
    exact f_arguments_binding_at.e (f_slices_IndexFunc_Param.u k) (f_arguments_binding_at_c1.u k) k y.1 y.2
  rw [e] at h
  exact h
/-! ### slices.Index[[]string,string]: f52 -/
abbrev f_slices_Index_string.A : List Sh := [(.d (.sl 9 .str)), (.d .str)]
abbrev f_slices_Index_string.R : List Sh := [(.d (.int .i64))]
abbrev f_slices_Index_string.E : Type := ((List (List UInt8)) × (List UInt8)) → Option (Int)
def f_slices_Index_string.C  : Ctx := { ty := [(3, (.int .i64)), (9, .str), (37, (.sl 9 .str))], nf := [], by_ := [(9, 16)], env := [], spec := [(0, [.d 0 (.sl 9 .str), .d 1 .str, .d 7 (.int .i64), .d 8 (.int .i64)])] }
noncomputable def f_slices_Index_string.code : Code := Func.code Try.f52
noncomputable def f_slices_Index_string.fin  := kfin (f_slices_Index_string.C ) Try.f52 f_slices_Index_string.A f_slices_Index_string.R
def f_slices_Index_string.b  (r_l0 : (List (List UInt8)) → (List UInt8) → (Int) → (Int) → Option (Int)) (a0 : List (List UInt8)) (a1 : List UInt8) : Option (Int) :=
  r_l0 a0 a1 ((List.length a0) : Int) (0 : Int)
def f_slices_Index_string.b_l0  (n_l0 : (List (List UInt8)) → (List UInt8) → (Int) → (Int) → Option (Int)) (x0 : List (List UInt8)) (x1 : List UInt8) (x7 : Int) (x8 : Int) : Option (Int) :=
  bif (decide (x8 < x7)) then
    if 0 ≤ x8 ∧ x8 < ((List.length x0) : Int) then
      bif (x1 == (List.getD x0 (Int.toNat x8) [])) then
        some x8
      else
        n_l0 x0 x1 x7 (IntKind.i64.wrap (x8 + (1 : Int)))
    else none
  else
    some (-1 : Int)
def f_slices_Index_string.l0  (k : Nat)  : Nat → (List (List UInt8)) → (List UInt8) → (Int) → (Int) → Option (Int)
  | 0, _, _, _, _ => none
  | n + 1, x0, x1, x7, x8 => f_slices_Index_string.b_l0  (fun x0 x1 x7 x8 => f_slices_Index_string.l0  k  n x0 x1 x7 x8) x0 x1 x7 x8
def f_slices_Index_string.f  (k : Nat) (a0 : List (List UInt8)) (a1 : List UInt8) : Option (Int) := f_slices_Index_string.b  (f_slices_Index_string.l0  k k) a0 a1
noncomputable def f_slices_Index_string.M_l0  (k n : Nat)  (s : St) : Option (Int) := atLoop (f_slices_Index_string.C ) k n [1, 0, 1, 0] [] f_slices_Index_string.code (f_slices_Index_string.fin ) s
noncomputable def f_slices_Index_string.fr_l0 (x0 : List (List UInt8)) (x1 : List UInt8) (x7 : Int) (x8 : Int) : St := ⟨(((((List.replicate 19 V.un).set 0 (V.dat (.sl 9 .str) x0)).set 1 (V.dat .str x1)).set 7 (V.dat (.int .i64) x7)).set 8 (V.dat (.int .i64) x8)), []⟩
theorem f_slices_Index_string.r  (k : Nat) (a0 : List (List UInt8)) (a1 : List UInt8) : fn (f_slices_Index_string.C ) k Try.f52 f_slices_Index_string.A f_slices_Index_string.R (a0, a1) = f_slices_Index_string.b  (fun x0 x1 x7 x8 => f_slices_Index_string.M_l0  k k  (f_slices_Index_string.fr_l0 x0 x1 x7 x8)) a0 a1 := by kernel_rfl
theorem f_slices_Index_string.z_l0  (k : Nat)  (s : St) : f_slices_Index_string.M_l0  k 0  s = none := by kernel_rfl
theorem f_slices_Index_string.r_l0  (k n : Nat)  (x0 : List (List UInt8)) (x1 : List UInt8) (x7 : Int) (x8 : Int) : f_slices_Index_string.M_l0  k (n + 1)  (f_slices_Index_string.fr_l0 x0 x1 x7 x8) = f_slices_Index_string.b_l0  (fun x0 x1 x7 x8 => f_slices_Index_string.M_l0  k n  (f_slices_Index_string.fr_l0 x0 x1 x7 x8)) x0 x1 x7 x8 := by kernel_rfl
theorem f_slices_Index_string.e_l0  (k n : Nat)  (x0 : List (List UInt8)) (x1 : List UInt8) (x7 : Int) (x8 : Int) : f_slices_Index_string.M_l0  k n  (f_slices_Index_string.fr_l0 x0 x1 x7 x8) = f_slices_Index_string.l0  k  n x0 x1 x7 x8 := by
  induction n generalizing x0 x1 x7 x8 with
  | zero => rw [f_slices_Index_string.z_l0]; rfl
  | succ n ih =>
    rw [f_slices_Index_string.r_l0]
    simp only [ih]
    rfl
theorem f_slices_Index_string.e  (k : Nat) (a0 : List (List UInt8)) (a1 : List UInt8) : fn (f_slices_Index_string.C ) k Try.f52 f_slices_Index_string.A f_slices_Index_string.R (a0, a1) = f_slices_Index_string.f  k a0 a1 := by
  rw [f_slices_Index_string.r]
  simp only [f_slices_Index_string.e_l0]
  rfl
def f_slices_Index_string.u (k : Nat) : f_slices_Index_string.E := fun y => f_slices_Index_string.f  k y.1 y.2
theorem f_slices_Index_string.ty  : TyOk Try.prog (f_slices_Index_string.C ) := tyOk_of (by kernel_rfl)
theorem f_slices_Index_string.sound (k : Nat) : Sound Try.prog ⟨52, f_slices_Index_string.A, f_slices_Index_string.R, f_slices_Index_string.u k⟩ := by
  have h := fn_sound (k := k) («as» := f_slices_Index_string.A) (rs := f_slices_Index_string.R) (f_slices_Index_string.ty ) (fun E h => by cases h) mixed Try.func52 (by kernel_rfl) (by kernel_rfl)
  have e : fn (f_slices_Index_string.C ) k Try.f52 f_slices_Index_string.A f_slices_Index_string.R = f_slices_Index_string.u k := by
    funext y
    exact f_slices_Index_string.e  k y.1 y.2
  rw [e] at h
  exact h
/-! ### slices.Contains[[]string,string]: f76 -/
abbrev f_slices_Contains_string.A : List Sh := [(.d (.sl 9 .str)), (.d .str)]
abbrev f_slices_Contains_string.R : List Sh := [(.d .bool)]
abbrev f_slices_Contains_string.E : Type := ((List (List UInt8)) × (List UInt8)) → Option (Bool)
def f_slices_Contains_string.C (c52 : f_slices_Index_string.E) : Ctx := { ty := [(3, (.int .i64))], nf := [], by_ := [], env := [⟨52, f_slices_Index_string.A, f_slices_Index_string.R, c52⟩], spec := [] }
noncomputable def f_slices_Contains_string.code : Code := Func.code Try.f76
noncomputable def f_slices_Contains_string.fin (c52 : f_slices_Index_string.E) := kfin (f_slices_Contains_string.C c52) Try.f76 f_slices_Contains_string.A f_slices_Contains_string.R
def f_slices_Contains_string.b (c52 : f_slices_Index_string.E)  (a0 : List (List UInt8)) (a1 : List UInt8) : Option (Bool) :=
  (c52 (a0, a1)).bind fun y1 =>
    some (decide (y1 ≥ (0 : Int)))
def f_slices_Contains_string.f (c52 : f_slices_Index_string.E) (k : Nat) (a0 : List (List UInt8)) (a1 : List UInt8) : Option (Bool) := f_slices_Contains_string.b c52  a0 a1
theorem f_slices_Contains_string.r (c52 : f_slices_Index_string.E) (k : Nat) (a0 : List (List UInt8)) (a1 : List UInt8) : fn (f_slices_Contains_string.C c52) k Try.f76 f_slices_Contains_string.A f_slices_Contains_string.R (a0, a1) = f_slices_Contains_string.b c52  a0 a1 := by kernel_rfl
theorem f_slices_Contains_string.e (c52 : f_slices_Index_string.E) (k : Nat) (a0 : List (List UInt8)) (a1 : List UInt8) : fn (f_slices_Contains_string.C c52) k Try.f76 f_slices_Contains_string.A f_slices_Contains_string.R (a0, a1) = f_slices_Contains_string.f c52 k a0 a1 := by
  rw [f_slices_Contains_string.r]
  rfl
def f_slices_Contains_string.u (k : Nat) : f_slices_Contains_string.E := fun y => f_slices_Contains_string.f (f_slices_Index_string.u k) k y.1 y.2
theorem f_slices_Contains_string.ty (c52 : f_slices_Index_string.E) : TyOk Try.prog (f_slices_Contains_string.C c52) := tyOk_of (by kernel_rfl)
theorem f_slices_Contains_string.sound (k : Nat) : Sound Try.prog ⟨76, f_slices_Contains_string.A, f_slices_Contains_string.R, f_slices_Contains_string.u k⟩ := by
  have h := fn_sound (k := k) («as» := f_slices_Contains_string.A) (rs := f_slices_Contains_string.R) (f_slices_Contains_string.ty (f_slices_Index_string.u k)) (fun E h => by
    simp only [f_slices_Contains_string.C, List.mem_cons, List.not_mem_nil, or_false] at h
    rcases h with rfl
    · exact f_slices_Index_string.sound k) mixed Try.func76 (by kernel_rfl) (by kernel_rfl)
  have e : fn (f_slices_Contains_string.C (f_slices_Index_string.u k)) k Try.f76 f_slices_Contains_string.A f_slices_Contains_string.R = f_slices_Contains_string.u k := by
    funext y
    exact f_slices_Contains_string.e (f_slices_Index_string.u k) k y.1 y.2
  rw [e] at h
  exact h
/-! ### (*brindlewood/arguments.binding).named: f47 -/
abbrev f_arguments_binding_named.A : List Sh := [(.pm (.pair (.d (.sl 51 Y_Param)) (.pair (.d .str) (.pair (.o 58 Y_Value) (.pair (.d (.sl 58 Y_Value)) (.pair (.o 9 .str) (.o 58 Y_Value))))))), (.d .str), (.d Y_Value)]
abbrev f_arguments_binding_named.R : List Sh := [(.d .str)]
abbrev f_arguments_binding_named.E : Type := (X_binding × ((List UInt8) × X_Value)) → Option ((List UInt8) × X_binding)
def f_arguments_binding_named.C (c75 : f_arguments_binding_at.E) (c76 : f_slices_Contains_string.E) (c74 : f_arguments_binding_kind.E) : Ctx := { ty := [(3, (.int .i64)), (9, .str), (36, (.sl 58 Y_Value)), (37, (.sl 9 .str)), (41, Y_Bound), (58, Y_Value), (76, Y_binding)], nf := [(41, 4), (58, 5), (76, 3)], by_ := [(9, 16), (58, 96)], env := [⟨75, f_arguments_binding_at.A, f_arguments_binding_at.R, c75⟩, ⟨76, f_slices_Contains_string.A, f_slices_Contains_string.R, c76⟩, ⟨74, f_arguments_binding_kind.A, f_arguments_binding_kind.R, c74⟩], spec := [(100004, [.bx 0 900000 (.pair (.d (.sl 51 Y_Param)) (.pair (.d .str) (.pair (.o 58 Y_Value) (.pair (.d (.sl 58 Y_Value)) (.pair (.o 9 .str) (.o 58 Y_Value)))))), .d 1 .str]), (100006, [.bx 0 900000 (.pair (.d (.sl 51 Y_Param)) (.pair (.d .str) (.pair (.o 58 Y_Value) (.pair (.d (.sl 58 Y_Value)) (.pair (.o 9 .str) (.o 58 Y_Value)))))), .bx 5 600005 (.d Y_Value), .d 7 (.int .i64)]), (100008, [.bx 0 900000 (.pair (.d (.sl 51 Y_Param)) (.pair (.d .str) (.pair (.o 58 Y_Value) (.pair (.d (.sl 58 Y_Value)) (.pair (.o 9 .str) (.o 58 Y_Value)))))), .d 1 .str]), (100002, [.bx 0 900000 (.pair (.d (.sl 51 Y_Param)) (.pair (.d .str) (.pair (.o 58 Y_Value) (.pair (.d (.sl 58 Y_Value)) (.pair (.o 9 .str) (.o 58 Y_Value)))))), .d 1 .str, .bx 5 600005 (.d Y_Value)])] }
noncomputable def f_arguments_binding_named.code : Code := Func.code Try.f47
noncomputable def f_arguments_binding_named.fin (c75 : f_arguments_binding_at.E) (c76 : f_slices_Contains_string.E) (c74 : f_arguments_binding_kind.E) := kfin (f_arguments_binding_named.C c75 c76 c74) Try.f47 f_arguments_binding_named.A f_arguments_binding_named.R
def f_arguments_binding_named.b (c75 : f_arguments_binding_at.E) (c76 : f_slices_Contains_string.E) (c74 : f_arguments_binding_kind.E) (r_g4 : X_binding → (List UInt8) → Option ((List UInt8) × X_binding)) (r_g6 : X_binding → X_Value → (Int) → Option ((List UInt8) × X_binding)) (r_g8 : X_binding → (List UInt8) → Option ((List UInt8) × X_binding)) (r_g2 : X_binding → (List UInt8) → X_Value → Option ((List UInt8) × X_binding)) (a0 : (List X_Param) × ((List UInt8) × X_Bound)) (a1 : List UInt8) (a2 : (Int) × (X_Int × (X_Int × X_errorAddressString))) : Option ((List UInt8) × X_binding) :=
  (c75 ((a0.1, (a0.2.1, ((List.take (List.length a0.2.2.1) a0.2.2.1), (a0.2.2.2.1, ((List.take (List.length a0.2.2.2.2.1) a0.2.2.2.2.1), (List.take (List.length a0.2.2.2.2.2) a0.2.2.2.2.2)))))), a1)).bind fun y1 =>
    bif (decide (y1 ≥ (0 : Int))) then
      if 0 ≤ y1 ∧ y1 < (((List.length a0.2.2.1) : Nat) : Int) then
        bif (((List.getD a0.2.2.1 (0 + Int.toNat y1) Z_Value).1) != (9 : Int)) then
          r_g4 (a0.1, (a0.2.1, ((List.take (List.length a0.2.2.1) a0.2.2.1), (a0.2.2.2.1, ((List.take (List.length a0.2.2.2.2.1) a0.2.2.2.2.1), (List.take (List.length a0.2.2.2.2.2) a0.2.2.2.2.2)))))) a1
        else
          (c76 ((List.take (List.length a0.2.2.2.2.1) a0.2.2.2.2.1), a1)).bind fun y2 =>
            bif y2 then
              r_g4 (a0.1, (a0.2.1, ((List.take (List.length a0.2.2.1) a0.2.2.1), (a0.2.2.2.1, ((List.take (List.length a0.2.2.2.2.1) a0.2.2.2.2.1), (List.take (List.length a0.2.2.2.2.2) a0.2.2.2.2.2)))))) a1
            else
              bif (decide (y1 ≥ (0 : Int))) then
                r_g6 (a0.1, (a0.2.1, ((List.take (List.length a0.2.2.1) a0.2.2.1), (a0.2.2.2.1, ((List.take (List.length a0.2.2.2.2.1) a0.2.2.2.2.1), (List.take (List.length a0.2.2.2.2.2) a0.2.2.2.2.2)))))) a2 y1
              else
                (c74 ((a0.1, (a0.2.1, ((List.take (List.length a0.2.2.1) a0.2.2.1), (a0.2.2.2.1, ((List.take (List.length a0.2.2.2.2.1) a0.2.2.2.2.1), (List.take (List.length a0.2.2.2.2.2) a0.2.2.2.2.2)))))), (3 : Int))).bind fun y3 =>
                  bif (decide (y3 < (0 : Int))) then
                    r_g8 (a0.1, (a0.2.1, ((List.take (List.length a0.2.2.1) a0.2.2.1), (a0.2.2.2.1, ((List.take (List.length a0.2.2.2.2.1) a0.2.2.2.2.1), (List.take (List.length a0.2.2.2.2.2) a0.2.2.2.2.2)))))) a1
                  else
                    r_g2 (a0.1, (a0.2.1, ((List.take (List.length a0.2.2.1) a0.2.2.1), (a0.2.2.2.1, ((List.take (List.length a0.2.2.2.2.1) a0.2.2.2.2.1), (List.take (List.length a0.2.2.2.2.2) a0.2.2.2.2.2)))))) a1 a2
      else none
    else
      (c76 ((List.take (List.length a0.2.2.2.2.1) a0.2.2.2.2.1), a1)).bind fun y4 =>
        bif y4 then
          r_g4 (a0.1, (a0.2.1, ((List.take (List.length a0.2.2.1) a0.2.2.1), (a0.2.2.2.1, ((List.take (List.length a0.2.2.2.2.1) a0.2.2.2.2.1), (List.take (List.length a0.2.2.2.2.2) a0.2.2.2.2.2)))))) a1
        else
          bif (decide (y1 ≥ (0 : Int))) then
            r_g6 (a0.1, (a0.2.1, ((List.take (List.length a0.2.2.1) a0.2.2.1), (a0.2.2.2.1, ((List.take (List.length a0.2.2.2.2.1) a0.2.2.2.2.1), (List.take (List.length a0.2.2.2.2.2) a0.2.2.2.2.2)))))) a2 y1
          else
            (c74 ((a0.1, (a0.2.1, ((List.take (List.length a0.2.2.1) a0.2.2.1), (a0.2.2.2.1, ((List.take (List.length a0.2.2.2.2.1) a0.2.2.2.2.1), (List.take (List.length a0.2.2.2.2.2) a0.2.2.2.2.2)))))), (3 : Int))).bind fun y5 =>
              bif (decide (y5 < (0 : Int))) then
                r_g8 (a0.1, (a0.2.1, ((List.take (List.length a0.2.2.1) a0.2.2.1), (a0.2.2.2.1, ((List.take (List.length a0.2.2.2.2.1) a0.2.2.2.2.1), (List.take (List.length a0.2.2.2.2.2) a0.2.2.2.2.2)))))) a1
              else
                r_g2 (a0.1, (a0.2.1, ((List.take (List.length a0.2.2.1) a0.2.2.1), (a0.2.2.2.1, ((List.take (List.length a0.2.2.2.2.1) a0.2.2.2.2.1), (List.take (List.length a0.2.2.2.2.2) a0.2.2.2.2.2)))))) a1 a2
def f_arguments_binding_named.b_g4 (c75 : f_arguments_binding_at.E) (c76 : f_slices_Contains_string.E) (c74 : f_arguments_binding_kind.E)  (x0 : (List X_Param) × ((List UInt8) × X_Bound)) (x1 : List UInt8) : Option ((List UInt8) × X_binding) :=
  if (List.length x0.2.1) + (List.length [40, 41, 32, 103, 111, 116, 32, 116, 119, 111, 32, 118, 97, 108, 117, 101, 115, 32, 102, 111, 114, 32, 39]) ≤ 9223372036854775807 then
    if (List.length (x0.2.1 ++ [40, 41, 32, 103, 111, 116, 32, 116, 119, 111, 32, 118, 97, 108, 117, 101, 115, 32, 102, 111, 114, 32, 39])) + (List.length x1) ≤ 9223372036854775807 then
      if (List.length ((x0.2.1 ++ [40, 41, 32, 103, 111, 116, 32, 116, 119, 111, 32, 118, 97, 108, 117, 101, 115, 32, 102, 111, 114, 32, 39]) ++ x1)) + (List.length [39]) ≤ 9223372036854775807 then
        some ((((x0.2.1 ++ [40, 41, 32, 103, 111, 116, 32, 116, 119, 111, 32, 118, 97, 108, 117, 101, 115, 32, 102, 111, 114, 32, 39]) ++ x1) ++ [39]), (x0.1, (x0.2.1, ((List.take (List.length x0.2.2.1) x0.2.2.1), (x0.2.2.2.1, ((List.take (List.length x0.2.2.2.2.1) x0.2.2.2.2.1), (List.take (List.length x0.2.2.2.2.2) x0.2.2.2.2.2)))))))
      else none
    else none
  else none
def f_arguments_binding_named.b_g6 (c75 : f_arguments_binding_at.E) (c76 : f_slices_Contains_string.E) (c74 : f_arguments_binding_kind.E)  (x0 : (List X_Param) × ((List UInt8) × X_Bound)) (x5 : (Int) × (X_Int × (X_Int × X_errorAddressString))) (x7 : Int) : Option ((List UInt8) × X_binding) :=
  if 0 ≤ x7 ∧ x7 < (((List.length x0.2.2.1) : Nat) : Int) then
    some ([], (x0.1, (x0.2.1, ((List.take (List.length x0.2.2.1) (List.set x0.2.2.1 (0 + Int.toNat x7) x5)), (x0.2.2.2.1, ((List.take (List.length x0.2.2.2.2.1) x0.2.2.2.2.1), (List.take (List.length x0.2.2.2.2.2) x0.2.2.2.2.2)))))))
  else none
def f_arguments_binding_named.b_g8 (c75 : f_arguments_binding_at.E) (c76 : f_slices_Contains_string.E) (c74 : f_arguments_binding_kind.E)  (x0 : (List X_Param) × ((List UInt8) × X_Bound)) (x1 : List UInt8) : Option ((List UInt8) × X_binding) :=
  if (List.length x0.2.1) + (List.length [40, 41, 32, 103, 111, 116, 32, 97, 110, 32, 117, 110, 107, 110, 111, 119, 110, 32, 97, 114, 103, 117, 109, 101, 110, 116, 32, 39]) ≤ 9223372036854775807 then
    if (List.length (x0.2.1 ++ [40, 41, 32, 103, 111, 116, 32, 97, 110, 32, 117, 110, 107, 110, 111, 119, 110, 32, 97, 114, 103, 117, 109, 101, 110, 116, 32, 39])) + (List.length x1) ≤ 9223372036854775807 then
      if (List.length ((x0.2.1 ++ [40, 41, 32, 103, 111, 116, 32, 97, 110, 32, 117, 110, 107, 110, 111, 119, 110, 32, 97, 114, 103, 117, 109, 101, 110, 116, 32, 39]) ++ x1)) + (List.length [39]) ≤ 9223372036854775807 then
        some ((((x0.2.1 ++ [40, 41, 32, 103, 111, 116, 32, 97, 110, 32, 117, 110, 107, 110, 111, 119, 110, 32, 97, 114, 103, 117, 109, 101, 110, 116, 32, 39]) ++ x1) ++ [39]), (x0.1, (x0.2.1, ((List.take (List.length x0.2.2.1) x0.2.2.1), (x0.2.2.2.1, ((List.take (List.length x0.2.2.2.2.1) x0.2.2.2.2.1), (List.take (List.length x0.2.2.2.2.2) x0.2.2.2.2.2)))))))
      else none
    else none
  else none
def f_arguments_binding_named.b_g2 (c75 : f_arguments_binding_at.E) (c76 : f_slices_Contains_string.E) (c74 : f_arguments_binding_kind.E)  (x0 : (List X_Param) × ((List UInt8) × X_Bound)) (x1 : List UInt8) (x5 : (Int) × (X_Int × (X_Int × X_errorAddressString))) : Option ((List UInt8) × X_binding) :=
  if (List.length x0.2.2.2.2.1) ≤ (List.length x0.2.2.2.2.1) ∧ ((List.length x0.2.2.2.2.1) + (List.length (List.take 1 ([x1] : List (List UInt8))))) * 16 ≤ LIM then
    if (List.length x0.2.2.2.2.2) ≤ (List.length x0.2.2.2.2.2) ∧ ((List.length x0.2.2.2.2.2) + (List.length (List.take 1 ([x5] : List X_Value)))) * 96 ≤ LIM then
      some ([], (x0.1, (x0.2.1, ((List.take (List.length x0.2.2.1) x0.2.2.1), (x0.2.2.2.1, ((List.take (List.length (List.append (List.take (List.length x0.2.2.2.2.1) x0.2.2.2.2.1) (List.take 1 ([x1] : List (List UInt8))))) (List.append (List.take (List.length x0.2.2.2.2.1) x0.2.2.2.2.1) (List.take 1 ([x1] : List (List UInt8))))), (List.take (List.length (List.append (List.take (List.length x0.2.2.2.2.2) x0.2.2.2.2.2) (List.take 1 ([x5] : List X_Value)))) (List.append (List.take (List.length x0.2.2.2.2.2) x0.2.2.2.2.2) (List.take 1 ([x5] : List X_Value))))))))))
    else none
  else none
def f_arguments_binding_named.c (c75 : f_arguments_binding_at.E) (c76 : f_slices_Contains_string.E) (c74 : f_arguments_binding_kind.E) (r_g4 : X_binding → (List UInt8) → Option ((List UInt8) × X_binding)) (r_g6 : X_binding → X_Value → (Int) → Option ((List UInt8) × X_binding)) (r_g8 : X_binding → (List UInt8) → Option ((List UInt8) × X_binding)) (r_g2 : X_binding → (List UInt8) → X_Value → Option ((List UInt8) × X_binding)) (a0 : (List X_Param) × ((List UInt8) × X_Bound)) (a1 : List UInt8) (a2 : (Int) × (X_Int × (X_Int × X_errorAddressString))) : Option ((List UInt8) × X_binding) :=
  (c75 (a0, a1)).bind fun y1 =>
    bif (decide (y1 ≥ (0 : Int))) then
      if 0 ≤ y1 ∧ y1 < ((List.length a0.2.2.1) : Int) then
        bif (((List.getD a0.2.2.1 (0 + Int.toNat y1) Z_Value).1) != (9 : Int)) then
          r_g4 a0 a1
        else
          (c76 (a0.2.2.2.2.1, a1)).bind fun y2 =>
            bif y2 then
              r_g4 a0 a1
            else
              bif (decide (y1 ≥ (0 : Int))) then
                r_g6 a0 a2 y1
              else
                (c74 (a0, (3 : Int))).bind fun y3 =>
                  bif (decide (y3 < (0 : Int))) then
                    r_g8 a0 a1
                  else
                    r_g2 a0 a1 a2
      else none
    else
      (c76 (a0.2.2.2.2.1, a1)).bind fun y4 =>
        bif y4 then
          r_g4 a0 a1
        else
          bif (decide (y1 ≥ (0 : Int))) then
            r_g6 a0 a2 y1
          else
            (c74 (a0, (3 : Int))).bind fun y5 =>
              bif (decide (y5 < (0 : Int))) then
                r_g8 a0 a1
              else
                r_g2 a0 a1 a2
theorem f_arguments_binding_named.q (c75 : f_arguments_binding_at.E) (c76 : f_slices_Contains_string.E) (c74 : f_arguments_binding_kind.E) (r_g4 : X_binding → (List UInt8) → Option ((List UInt8) × X_binding)) (r_g6 : X_binding → X_Value → (Int) → Option ((List UInt8) × X_binding)) (r_g8 : X_binding → (List UInt8) → Option ((List UInt8) × X_binding)) (r_g2 : X_binding → (List UInt8) → X_Value → Option ((List UInt8) × X_binding)) (a0 : (List X_Param) × ((List UInt8) × X_Bound)) (a1 : List UInt8) (a2 : (Int) × (X_Int × (X_Int × X_errorAddressString))) : f_arguments_binding_named.b c75 c76 c74 r_g4 r_g6 r_g8 r_g2 a0 a1 a2 = f_arguments_binding_named.c c75 c76 c74 r_g4 r_g6 r_g8 r_g2 a0 a1 a2 := by
  simp only [f_arguments_binding_named.b, f_arguments_binding_named.c, List.take_length, take_one, Nat.zero_add, Int.toNat_natCast, Int.toNat_zero, List.drop_zero, List.append_eq, Nat.le_refl, Int.le_refl, true_and, and_true, zero_le_one, if_true, prod_eta, Int.natCast_zero]
def f_arguments_binding_named.c_g4 (c75 : f_arguments_binding_at.E) (c76 : f_slices_Contains_string.E) (c74 : f_arguments_binding_kind.E)  (x0 : (List X_Param) × ((List UInt8) × X_Bound)) (x1 : List UInt8) : Option ((List UInt8) × X_binding) :=
  if (List.length x0.2.1) + (List.length [40, 41, 32, 103, 111, 116, 32, 116, 119, 111, 32, 118, 97, 108, 117, 101, 115, 32, 102, 111, 114, 32, 39]) ≤ 9223372036854775807 then
    if (List.length (x0.2.1 ++ [40, 41, 32, 103, 111, 116, 32, 116, 119, 111, 32, 118, 97, 108, 117, 101, 115, 32, 102, 111, 114, 32, 39])) + (List.length x1) ≤ 9223372036854775807 then
      if (List.length ((x0.2.1 ++ [40, 41, 32, 103, 111, 116, 32, 116, 119, 111, 32, 118, 97, 108, 117, 101, 115, 32, 102, 111, 114, 32, 39]) ++ x1)) + (List.length [39]) ≤ 9223372036854775807 then
        some ((((x0.2.1 ++ [40, 41, 32, 103, 111, 116, 32, 116, 119, 111, 32, 118, 97, 108, 117, 101, 115, 32, 102, 111, 114, 32, 39]) ++ x1) ++ [39]), x0)
      else none
    else none
  else none
theorem f_arguments_binding_named.q_g4 (c75 : f_arguments_binding_at.E) (c76 : f_slices_Contains_string.E) (c74 : f_arguments_binding_kind.E)  (x0 : (List X_Param) × ((List UInt8) × X_Bound)) (x1 : List UInt8) : f_arguments_binding_named.b_g4 c75 c76 c74 x0 x1 = f_arguments_binding_named.c_g4 c75 c76 c74 x0 x1 := by
  simp only [f_arguments_binding_named.b_g4, f_arguments_binding_named.c_g4, List.take_length, take_one, Nat.zero_add, Int.toNat_natCast, Int.toNat_zero, List.drop_zero, List.append_eq, Nat.le_refl, Int.le_refl, true_and, and_true, zero_le_one, if_true, prod_eta, Int.natCast_zero]
def f_arguments_binding_named.c_g6 (c75 : f_arguments_binding_at.E) (c76 : f_slices_Contains_string.E) (c74 : f_arguments_binding_kind.E)  (x0 : (List X_Param) × ((List UInt8) × X_Bound)) (x5 : (Int) × (X_Int × (X_Int × X_errorAddressString))) (x7 : Int) : Option ((List UInt8) × X_binding) :=
  if 0 ≤ x7 ∧ x7 < ((List.length x0.2.2.1) : Int) then
    some ([], (x0.1, (x0.2.1, ((List.take (List.length x0.2.2.1) (List.set x0.2.2.1 (0 + Int.toNat x7) x5)), x0.2.2.2))))
  else none
theorem f_arguments_binding_named.q_g6 (c75 : f_arguments_binding_at.E) (c76 : f_slices_Contains_string.E) (c74 : f_arguments_binding_kind.E)  (x0 : (List X_Param) × ((List UInt8) × X_Bound)) (x5 : (Int) × (X_Int × (X_Int × X_errorAddressString))) (x7 : Int) : f_arguments_binding_named.b_g6 c75 c76 c74 x0 x5 x7 = f_arguments_binding_named.c_g6 c75 c76 c74 x0 x5 x7 := by
  simp only [f_arguments_binding_named.b_g6, f_arguments_binding_named.c_g6, List.take_length, take_one, Nat.zero_add, Int.toNat_natCast, Int.toNat_zero, List.drop_zero, List.append_eq, Nat.le_refl, Int.le_refl, true_and, and_true, zero_le_one, if_true, prod_eta, Int.natCast_zero]
def f_arguments_binding_named.c_g8 (c75 : f_arguments_binding_at.E) (c76 : f_slices_Contains_string.E) (c74 : f_arguments_binding_kind.E)  (x0 : (List X_Param) × ((List UInt8) × X_Bound)) (x1 : List UInt8) : Option ((List UInt8) × X_binding) :=
  if (List.length x0.2.1) + (List.length [40, 41, 32, 103, 111, 116, 32, 97, 110, 32, 117, 110, 107, 110, 111, 119, 110, 32, 97, 114, 103, 117, 109, 101, 110, 116, 32, 39]) ≤ 9223372036854775807 then
    if (List.length (x0.2.1 ++ [40, 41, 32, 103, 111, 116, 32, 97, 110, 32, 117, 110, 107, 110, 111, 119, 110, 32, 97, 114, 103, 117, 109, 101, 110, 116, 32, 39])) + (List.length x1) ≤ 9223372036854775807 then
      if (List.length ((x0.2.1 ++ [40, 41, 32, 103, 111, 116, 32, 97, 110, 32, 117, 110, 107, 110, 111, 119, 110, 32, 97, 114, 103, 117, 109, 101, 110, 116, 32, 39]) ++ x1)) + (List.length [39]) ≤ 9223372036854775807 then
        some ((((x0.2.1 ++ [40, 41, 32, 103, 111, 116, 32, 97, 110, 32, 117, 110, 107, 110, 111, 119, 110, 32, 97, 114, 103, 117, 109, 101, 110, 116, 32, 39]) ++ x1) ++ [39]), x0)
      else none
    else none
  else none
theorem f_arguments_binding_named.q_g8 (c75 : f_arguments_binding_at.E) (c76 : f_slices_Contains_string.E) (c74 : f_arguments_binding_kind.E)  (x0 : (List X_Param) × ((List UInt8) × X_Bound)) (x1 : List UInt8) : f_arguments_binding_named.b_g8 c75 c76 c74 x0 x1 = f_arguments_binding_named.c_g8 c75 c76 c74 x0 x1 := by
  simp only [f_arguments_binding_named.b_g8, f_arguments_binding_named.c_g8, List.take_length, take_one, Nat.zero_add, Int.toNat_natCast, Int.toNat_zero, List.drop_zero, List.append_eq, Nat.le_refl, Int.le_refl, true_and, and_true, zero_le_one, if_true, prod_eta, Int.natCast_zero]
def f_arguments_binding_named.c_g2 (c75 : f_arguments_binding_at.E) (c76 : f_slices_Contains_string.E) (c74 : f_arguments_binding_kind.E)  (x0 : (List X_Param) × ((List UInt8) × X_Bound)) (x1 : List UInt8) (x5 : (Int) × (X_Int × (X_Int × X_errorAddressString))) : Option ((List UInt8) × X_binding) :=
  if ((List.length x0.2.2.2.2.1) + (List.length ([x1] : List (List UInt8)))) * 16 ≤ LIM then
    if ((List.length x0.2.2.2.2.2) + (List.length ([x5] : List X_Value))) * 96 ≤ LIM then
      some ([], (x0.1, (x0.2.1, (x0.2.2.1, (x0.2.2.2.1, ((x0.2.2.2.2.1 ++ ([x1] : List (List UInt8))), (x0.2.2.2.2.2 ++ ([x5] : List X_Value))))))))
    else none
  else none
theorem f_arguments_binding_named.q_g2 (c75 : f_arguments_binding_at.E) (c76 : f_slices_Contains_string.E) (c74 : f_arguments_binding_kind.E)  (x0 : (List X_Param) × ((List UInt8) × X_Bound)) (x1 : List UInt8) (x5 : (Int) × (X_Int × (X_Int × X_errorAddressString))) : f_arguments_binding_named.b_g2 c75 c76 c74 x0 x1 x5 = f_arguments_binding_named.c_g2 c75 c76 c74 x0 x1 x5 := by
  simp only [f_arguments_binding_named.b_g2, f_arguments_binding_named.c_g2, List.take_length, take_one, Nat.zero_add, Int.toNat_natCast, Int.toNat_zero, List.drop_zero, List.append_eq, Nat.le_refl, Int.le_refl, true_and, and_true, zero_le_one, if_true, prod_eta, Int.natCast_zero]
def f_arguments_binding_named.g4 (c75 : f_arguments_binding_at.E) (c76 : f_slices_Contains_string.E) (c74 : f_arguments_binding_kind.E) (k : Nat)  (x0 : (List X_Param) × ((List UInt8) × X_Bound)) (x1 : List UInt8) : Option ((List UInt8) × X_binding) := gate k (f_arguments_binding_named.b_g4 c75 c76 c74  x0 x1)
def f_arguments_binding_named.g6 (c75 : f_arguments_binding_at.E) (c76 : f_slices_Contains_string.E) (c74 : f_arguments_binding_kind.E) (k : Nat)  (x0 : (List X_Param) × ((List UInt8) × X_Bound)) (x5 : (Int) × (X_Int × (X_Int × X_errorAddressString))) (x7 : Int) : Option ((List UInt8) × X_binding) := gate k (f_arguments_binding_named.b_g6 c75 c76 c74  x0 x5 x7)
def f_arguments_binding_named.g8 (c75 : f_arguments_binding_at.E) (c76 : f_slices_Contains_string.E) (c74 : f_arguments_binding_kind.E) (k : Nat)  (x0 : (List X_Param) × ((List UInt8) × X_Bound)) (x1 : List UInt8) : Option ((List UInt8) × X_binding) := gate k (f_arguments_binding_named.b_g8 c75 c76 c74  x0 x1)
def f_arguments_binding_named.g2 (c75 : f_arguments_binding_at.E) (c76 : f_slices_Contains_string.E) (c74 : f_arguments_binding_kind.E) (k : Nat)  (x0 : (List X_Param) × ((List UInt8) × X_Bound)) (x1 : List UInt8) (x5 : (Int) × (X_Int × (X_Int × X_errorAddressString))) : Option ((List UInt8) × X_binding) := gate k (f_arguments_binding_named.b_g2 c75 c76 c74  x0 x1 x5)
def f_arguments_binding_named.f (c75 : f_arguments_binding_at.E) (c76 : f_slices_Contains_string.E) (c74 : f_arguments_binding_kind.E) (k : Nat) (a0 : (List X_Param) × ((List UInt8) × X_Bound)) (a1 : List UInt8) (a2 : (Int) × (X_Int × (X_Int × X_errorAddressString))) : Option ((List UInt8) × X_binding) := f_arguments_binding_named.b c75 c76 c74 (f_arguments_binding_named.g4 c75 c76 c74 k) (f_arguments_binding_named.g6 c75 c76 c74 k) (f_arguments_binding_named.g8 c75 c76 c74 k) (f_arguments_binding_named.g2 c75 c76 c74 k) a0 a1 a2
noncomputable def f_arguments_binding_named.M_g4 (c75 : f_arguments_binding_at.E) (c76 : f_slices_Contains_string.E) (c74 : f_arguments_binding_kind.E) (k : Nat)  (s : St) : Option ((List UInt8) × X_binding) := atGate (f_arguments_binding_named.C c75 c76 c74) k [1, 1, 0, 0, 1, 0, 0] [] f_arguments_binding_named.code (f_arguments_binding_named.fin c75 c76 c74) s
noncomputable def f_arguments_binding_named.fr_g4 (x0 : (List X_Param) × ((List UInt8) × X_Bound)) (x1 : List UInt8) : St := ⟨(((List.replicate 90 V.un).set 0 (V.bp 900000 0 [])).set 1 (V.dat .str x1)), [⟨900000, 0, .box (V.st (V.dat (.sl 51 Y_Param) x0.1) (V.st (V.dat .str x0.2.1) (V.st (V.ref 16400000 0 0 (List.length x0.2.2.1)) (V.st (V.dat (.sl 58 Y_Value) x0.2.2.2.1) (V.st (V.ref 16400001 0 0 (List.length x0.2.2.2.2.1)) (V.ref 16400002 0 0 (List.length x0.2.2.2.2.2)))))))⟩, ⟨16400000, 0, .arr 58 Y_Value x0.2.2.1⟩, ⟨16400001, 0, .arr 9 .str x0.2.2.2.2.1⟩, ⟨16400002, 0, .arr 58 Y_Value x0.2.2.2.2.2⟩]⟩
noncomputable def f_arguments_binding_named.M_g6 (c75 : f_arguments_binding_at.E) (c76 : f_slices_Contains_string.E) (c74 : f_arguments_binding_kind.E) (k : Nat)  (s : St) : Option ((List UInt8) × X_binding) := atGate (f_arguments_binding_named.C c75 c76 c74) k [1, 1, 0, 0, 1, 1, 1, 0] [] f_arguments_binding_named.code (f_arguments_binding_named.fin c75 c76 c74) s
noncomputable def f_arguments_binding_named.fr_g6 (x0 : (List X_Param) × ((List UInt8) × X_Bound)) (x5 : (Int) × (X_Int × (X_Int × X_errorAddressString))) (x7 : Int) : St := ⟨((((List.replicate 90 V.un).set 0 (V.bp 900000 0 [])).set 5 (V.bp 600005 0 [])).set 7 (V.dat (.int .i64) x7)), [⟨600005, 0, .box (V.dat Y_Value x5)⟩, ⟨900000, 0, .box (V.st (V.dat (.sl 51 Y_Param) x0.1) (V.st (V.dat .str x0.2.1) (V.st (V.ref 16400000 0 0 (List.length x0.2.2.1)) (V.st (V.dat (.sl 58 Y_Value) x0.2.2.2.1) (V.st (V.ref 16400001 0 0 (List.length x0.2.2.2.2.1)) (V.ref 16400002 0 0 (List.length x0.2.2.2.2.2)))))))⟩, ⟨16400000, 0, .arr 58 Y_Value x0.2.2.1⟩, ⟨16400001, 0, .arr 9 .str x0.2.2.2.2.1⟩, ⟨16400002, 0, .arr 58 Y_Value x0.2.2.2.2.2⟩]⟩
noncomputable def f_arguments_binding_named.M_g8 (c75 : f_arguments_binding_at.E) (c76 : f_slices_Contains_string.E) (c74 : f_arguments_binding_kind.E) (k : Nat)  (s : St) : Option ((List UInt8) × X_binding) := atGate (f_arguments_binding_named.C c75 c76 c74) k [1, 1, 0, 0, 1, 1, 1, 1, 1, 0, 0] [] f_arguments_binding_named.code (f_arguments_binding_named.fin c75 c76 c74) s
noncomputable def f_arguments_binding_named.fr_g8 (x0 : (List X_Param) × ((List UInt8) × X_Bound)) (x1 : List UInt8) : St := ⟨(((List.replicate 90 V.un).set 0 (V.bp 900000 0 [])).set 1 (V.dat .str x1)), [⟨900000, 0, .box (V.st (V.dat (.sl 51 Y_Param) x0.1) (V.st (V.dat .str x0.2.1) (V.st (V.ref 16400000 0 0 (List.length x0.2.2.1)) (V.st (V.dat (.sl 58 Y_Value) x0.2.2.2.1) (V.st (V.ref 16400001 0 0 (List.length x0.2.2.2.2.1)) (V.ref 16400002 0 0 (List.length x0.2.2.2.2.2)))))))⟩, ⟨16400000, 0, .arr 58 Y_Value x0.2.2.1⟩, ⟨16400001, 0, .arr 9 .str x0.2.2.2.2.1⟩, ⟨16400002, 0, .arr 58 Y_Value x0.2.2.2.2.2⟩]⟩
noncomputable def f_arguments_binding_named.M_g2 (c75 : f_arguments_binding_at.E) (c76 : f_slices_Contains_string.E) (c74 : f_arguments_binding_kind.E) (k : Nat)  (s : St) : Option ((List UInt8) × X_binding) := atGate (f_arguments_binding_named.C c75 c76 c74) k [1, 1, 0, 0, 1, 1, 1, 1, 1, 1] [] f_arguments_binding_named.code (f_arguments_binding_named.fin c75 c76 c74) s
noncomputable def f_arguments_binding_named.fr_g2 (x0 : (List X_Param) × ((List UInt8) × X_Bound)) (x1 : List UInt8) (x5 : (Int) × (X_Int × (X_Int × X_errorAddressString))) : St := ⟨((((List.replicate 90 V.un).set 0 (V.bp 900000 0 [])).set 1 (V.dat .str x1)).set 5 (V.bp 600005 0 [])), [⟨600005, 0, .box (V.dat Y_Value x5)⟩, ⟨900000, 0, .box (V.st (V.dat (.sl 51 Y_Param) x0.1) (V.st (V.dat .str x0.2.1) (V.st (V.ref 16400000 0 0 (List.length x0.2.2.1)) (V.st (V.dat (.sl 58 Y_Value) x0.2.2.2.1) (V.st (V.ref 16400001 0 0 (List.length x0.2.2.2.2.1)) (V.ref 16400002 0 0 (List.length x0.2.2.2.2.2)))))))⟩, ⟨16400000, 0, .arr 58 Y_Value x0.2.2.1⟩, ⟨16400001, 0, .arr 9 .str x0.2.2.2.2.1⟩, ⟨16400002, 0, .arr 58 Y_Value x0.2.2.2.2.2⟩]⟩
theorem f_arguments_binding_named.r (c75 : f_arguments_binding_at.E) (c76 : f_slices_Contains_string.E) (c74 : f_arguments_binding_kind.E) (k : Nat) (a0 : (List X_Param) × ((List UInt8) × X_Bound)) (a1 : List UInt8) (a2 : (Int) × (X_Int × (X_Int × X_errorAddressString))) : fn (f_arguments_binding_named.C c75 c76 c74) k Try.f47 f_arguments_binding_named.A f_arguments_binding_named.R (a0, (a1, a2)) = f_arguments_binding_named.b c75 c76 c74 (fun x0 x1 => f_arguments_binding_named.M_g4 c75 c76 c74 k   (f_arguments_binding_named.fr_g4 x0 x1)) (fun x0 x5 x7 => f_arguments_binding_named.M_g6 c75 c76 c74 k   (f_arguments_binding_named.fr_g6 x0 x5 x7)) (fun x0 x1 => f_arguments_binding_named.M_g8 c75 c76 c74 k   (f_arguments_binding_named.fr_g8 x0 x1)) (fun x0 x1 x5 => f_arguments_binding_named.M_g2 c75 c76 c74 k   (f_arguments_binding_named.fr_g2 x0 x1 x5)) a0 a1 a2 := by kernel_rfl
theorem f_arguments_binding_named.r_g4 (c75 : f_arguments_binding_at.E) (c76 : f_slices_Contains_string.E) (c74 : f_arguments_binding_kind.E) (k : Nat)  (x0 : (List X_Param) × ((List UInt8) × X_Bound)) (x1 : List UInt8) : f_arguments_binding_named.M_g4 c75 c76 c74 k  (f_arguments_binding_named.fr_g4 x0 x1) = gate k (f_arguments_binding_named.b_g4 c75 c76 c74  x0 x1) := by kernel_rfl
theorem f_arguments_binding_named.r_g6 (c75 : f_arguments_binding_at.E) (c76 : f_slices_Contains_string.E) (c74 : f_arguments_binding_kind.E) (k : Nat)  (x0 : (List X_Param) × ((List UInt8) × X_Bound)) (x5 : (Int) × (X_Int × (X_Int × X_errorAddressString))) (x7 : Int) : f_arguments_binding_named.M_g6 c75 c76 c74 k  (f_arguments_binding_named.fr_g6 x0 x5 x7) = gate k (f_arguments_binding_named.b_g6 c75 c76 c74  x0 x5 x7) := by kernel_rfl
theorem f_arguments_binding_named.r_g8 (c75 : f_arguments_binding_at.E) (c76 : f_slices_Contains_string.E) (c74 : f_arguments_binding_kind.E) (k : Nat)  (x0 : (List X_Param) × ((List UInt8) × X_Bound)) (x1 : List UInt8) : f_arguments_binding_named.M_g8 c75 c76 c74 k  (f_arguments_binding_named.fr_g8 x0 x1) = gate k (f_arguments_binding_named.b_g8 c75 c76 c74  x0 x1) := by kernel_rfl
theorem f_arguments_binding_named.r_g2 (c75 : f_arguments_binding_at.E) (c76 : f_slices_Contains_string.E) (c74 : f_arguments_binding_kind.E) (k : Nat)  (x0 : (List X_Param) × ((List UInt8) × X_Bound)) (x1 : List UInt8) (x5 : (Int) × (X_Int × (X_Int × X_errorAddressString))) : f_arguments_binding_named.M_g2 c75 c76 c74 k  (f_arguments_binding_named.fr_g2 x0 x1 x5) = gate k (f_arguments_binding_named.b_g2 c75 c76 c74  x0 x1 x5) := by kernel_rfl
theorem f_arguments_binding_named.e_g4 (c75 : f_arguments_binding_at.E) (c76 : f_slices_Contains_string.E) (c74 : f_arguments_binding_kind.E) (k : Nat)  (x0 : (List X_Param) × ((List UInt8) × X_Bound)) (x1 : List UInt8) : f_arguments_binding_named.M_g4 c75 c76 c74 k  (f_arguments_binding_named.fr_g4 x0 x1) = f_arguments_binding_named.g4 c75 c76 c74 k  x0 x1 := by
  rw [f_arguments_binding_named.r_g4]
  rfl
theorem f_arguments_binding_named.e_g6 (c75 : f_arguments_binding_at.E) (c76 : f_slices_Contains_string.E) (c74 : f_arguments_binding_kind.E) (k : Nat)  (x0 : (List X_Param) × ((List UInt8) × X_Bound)) (x5 : (Int) × (X_Int × (X_Int × X_errorAddressString))) (x7 : Int) : f_arguments_binding_named.M_g6 c75 c76 c74 k  (f_arguments_binding_named.fr_g6 x0 x5 x7) = f_arguments_binding_named.g6 c75 c76 c74 k  x0 x5 x7 := by
  rw [f_arguments_binding_named.r_g6]
  rfl
theorem f_arguments_binding_named.e_g8 (c75 : f_arguments_binding_at.E) (c76 : f_slices_Contains_string.E) (c74 : f_arguments_binding_kind.E) (k : Nat)  (x0 : (List X_Param) × ((List UInt8) × X_Bound)) (x1 : List UInt8) : f_arguments_binding_named.M_g8 c75 c76 c74 k  (f_arguments_binding_named.fr_g8 x0 x1) = f_arguments_binding_named.g8 c75 c76 c74 k  x0 x1 := by
  rw [f_arguments_binding_named.r_g8]
  rfl
theorem f_arguments_binding_named.e_g2 (c75 : f_arguments_binding_at.E) (c76 : f_slices_Contains_string.E) (c74 : f_arguments_binding_kind.E) (k : Nat)  (x0 : (List X_Param) × ((List UInt8) × X_Bound)) (x1 : List UInt8) (x5 : (Int) × (X_Int × (X_Int × X_errorAddressString))) : f_arguments_binding_named.M_g2 c75 c76 c74 k  (f_arguments_binding_named.fr_g2 x0 x1 x5) = f_arguments_binding_named.g2 c75 c76 c74 k  x0 x1 x5 := by
  rw [f_arguments_binding_named.r_g2]
  rfl
theorem f_arguments_binding_named.e (c75 : f_arguments_binding_at.E) (c76 : f_slices_Contains_string.E) (c74 : f_arguments_binding_kind.E) (k : Nat) (a0 : (List X_Param) × ((List UInt8) × X_Bound)) (a1 : List UInt8) (a2 : (Int) × (X_Int × (X_Int × X_errorAddressString))) : fn (f_arguments_binding_named.C c75 c76 c74) k Try.f47 f_arguments_binding_named.A f_arguments_binding_named.R (a0, (a1, a2)) = f_arguments_binding_named.f c75 c76 c74 k a0 a1 a2 := by
  rw [f_arguments_binding_named.r]
  simp only [f_arguments_binding_named.e_g2, f_arguments_binding_named.e_g4, f_arguments_binding_named.e_g6, f_arguments_binding_named.e_g8]
  rfl
def f_arguments_binding_named.u (k : Nat) : f_arguments_binding_named.E := fun y => f_arguments_binding_named.f (f_arguments_binding_at.u k) (f_slices_Contains_string.u k) (f_arguments_binding_kind.u k) k y.1 y.2.1 y.2.2
theorem f_arguments_binding_named.ty (c75 : f_arguments_binding_at.E) (c76 : f_slices_Contains_string.E) (c74 : f_arguments_binding_kind.E) : TyOk Try.prog (f_arguments_binding_named.C c75 c76 c74) := tyOk_of (by kernel_rfl)
theorem f_arguments_binding_named.sound (k : Nat) : Sound Try.prog ⟨47, f_arguments_binding_named.A, f_arguments_binding_named.R, f_arguments_binding_named.u k⟩ := by
  have h := fn_sound (k := k) («as» := f_arguments_binding_named.A) (rs := f_arguments_binding_named.R) (f_arguments_binding_named.ty (f_arguments_binding_at.u k) (f_slices_Contains_string.u k) (f_arguments_binding_kind.u k)) (fun E h => by
    simp only [f_arguments_binding_named.C, List.mem_cons, List.not_mem_nil, or_false] at h
    rcases h with rfl | rfl | rfl
    · exact f_arguments_binding_at.sound k
    · exact f_slices_Contains_string.sound k
    · exact f_arguments_binding_kind.sound k) mixed Try.func47 (by kernel_rfl) (by kernel_rfl)
  have e : fn (f_arguments_binding_named.C (f_arguments_binding_at.u k) (f_slices_Contains_string.u k) (f_arguments_binding_kind.u k)) k Try.f47 f_arguments_binding_named.A f_arguments_binding_named.R = f_arguments_binding_named.u k := by
    funext y
    exact f_arguments_binding_named.e (f_arguments_binding_at.u k) (f_slices_Contains_string.u k) (f_arguments_binding_kind.u k) k y.1 y.2.1 y.2.2
  rw [e] at h
  exact h
/-! ### (*brindlewood/arguments.binding).rest: f48 -/
abbrev f_arguments_binding_rest.A : List Sh := [(.pm (.pair (.d (.sl 51 Y_Param)) (.pair (.d .str) (.pair (.o 58 Y_Value) (.pair (.d (.sl 58 Y_Value)) (.pair (.o 9 .str) (.o 58 Y_Value))))))), (.d (.sl 58 Y_Value))]
abbrev f_arguments_binding_rest.R : List Sh := [(.d .str)]
abbrev f_arguments_binding_rest.E : Type := (X_binding × (List X_Value)) → Option ((List UInt8) × X_binding)
def f_arguments_binding_rest.C  : Ctx := { ty := [(3, (.int .i64)), (9, .str), (25, (.sl 51 Y_Param)), (36, (.sl 58 Y_Value)), (41, Y_Bound), (49, (.sl 132 (.blob 15))), (51, Y_Param), (58, Y_Value), (76, Y_binding)], nf := [(41, 4), (51, 3), (58, 5), (76, 3)], by_ := [(51, 48), (58, 96), (132, 232)], env := [], spec := [(0, [.bx 0 900000 (.pair (.d (.sl 51 Y_Param)) (.pair (.d .str) (.pair (.o 58 Y_Value) (.pair (.d (.sl 58 Y_Value)) (.pair (.o 9 .str) (.o 58 Y_Value)))))), .d 1 (.sl 58 Y_Value), .d 11 (.sl 51 Y_Param), .d 12 (.int .i64), .d 13 (.int .i64)])] }
noncomputable def f_arguments_binding_rest.code : Code := Func.code Try.f48
noncomputable def f_arguments_binding_rest.fin  := kfin (f_arguments_binding_rest.C ) Try.f48 f_arguments_binding_rest.A f_arguments_binding_rest.R
def f_arguments_binding_rest.b  (r_l0 : X_binding → (List X_Value) → (List X_Param) → (Int) → (Int) → Option ((List UInt8) × X_binding)) (a0 : (List X_Param) × ((List UInt8) × X_Bound)) (a1 : List X_Value) : Option ((List UInt8) × X_binding) :=
  r_l0 (a0.1, (a0.2.1, ((List.take (List.length a0.2.2.1) a0.2.2.1), (a0.2.2.2.1, ((List.take (List.length a0.2.2.2.2.1) a0.2.2.2.2.1), (List.take (List.length a0.2.2.2.2.2) a0.2.2.2.2.2)))))) a1 a0.1 ((List.length a0.1) : Int) (0 : Int)
def f_arguments_binding_rest.b_l0  (n_l0 : X_binding → (List X_Value) → (List X_Param) → (Int) → (Int) → Option ((List UInt8) × X_binding)) (x0 : (List X_Param) × ((List UInt8) × X_Bound)) (x1 : List X_Value) (x11 : List X_Param) (x12 : Int) (x13 : Int) : Option ((List UInt8) × X_binding) :=
  bif (decide (x13 < x12)) then
    if 0 ≤ x13 ∧ x13 < ((List.length x11) : Int) then
      if 0 ≤ (0 : Int) ∧ (0 : Int) ≤ ((List.length (((List.getD x11 (Int.toNat x13) ((0 : Int), ([], []))).2).2)) : Int) ∧ ((List.length (((List.getD x11 (Int.toNat x13) ((0 : Int), ([], []))).2).2)) : Int) ≤ ((List.length x1) : Int) then
        if 0 ≤ ((List.length (((List.getD x11 (Int.toNat x13) ((0 : Int), ([], []))).2).2)) : Int) ∧ ((List.length (((List.getD x11 (Int.toNat x13) ((0 : Int), ([], []))).2).2)) : Int) ≤ ((List.length x1) : Int) ∧ ((List.length x1) : Int) ≤ ((List.length x1) : Int) then
          bif (((List.getD x11 (Int.toNat x13) ((0 : Int), ([], []))).1) == (1 : Int)) then
            n_l0 (x0.1, (x0.2.1, ((List.take (List.length x0.2.2.1) x0.2.2.1), (x0.2.2.2.1, ((List.take (List.length x0.2.2.2.2.1) x0.2.2.2.2.1), (List.take (List.length x0.2.2.2.2.2) x0.2.2.2.2.2)))))) (List.drop (Int.toNat ((List.length (((List.getD x11 (Int.toNat x13) ((0 : Int), ([], []))).2).2)) : Int)) (List.take (Int.toNat ((List.length x1) : Int)) x1)) x11 x12 (IntKind.i64.wrap (x13 + (1 : Int)))
          else
            bif (((List.getD x11 (Int.toNat x13) ((0 : Int), ([], []))).1) == (3 : Int)) then
              n_l0 (x0.1, (x0.2.1, ((List.take (List.length x0.2.2.1) x0.2.2.1), (x0.2.2.2.1, ((List.take (List.length x0.2.2.2.2.1) x0.2.2.2.2.1), (List.take (List.length x0.2.2.2.2.2) x0.2.2.2.2.2)))))) (List.drop (Int.toNat ((List.length (((List.getD x11 (Int.toNat x13) ((0 : Int), ([], []))).2).2)) : Int)) (List.take (Int.toNat ((List.length x1) : Int)) x1)) x11 x12 (IntKind.i64.wrap (x13 + (1 : Int)))
            else
              if 0 ≤ x13 ∧ x13 < (((List.length x0.2.2.1) : Nat) : Int) then
                bif (((List.getD x0.2.2.1 (0 + Int.toNat x13) Z_Value).1) != (9 : Int)) then
                  n_l0 (x0.1, (x0.2.1, ((List.take (List.length x0.2.2.1) x0.2.2.1), (x0.2.2.2.1, ((List.take (List.length x0.2.2.2.2.1) x0.2.2.2.2.1), (List.take (List.length x0.2.2.2.2.2) x0.2.2.2.2.2)))))) (List.drop (Int.toNat ((List.length (((List.getD x11 (Int.toNat x13) ((0 : Int), ([], []))).2).2)) : Int)) (List.take (Int.toNat ((List.length x1) : Int)) x1)) x11 x12 (IntKind.i64.wrap (x13 + (1 : Int)))
                else
                  bif (((List.length (List.drop (Int.toNat (0 : Int)) (List.take (Int.toNat ((List.length (((List.getD x11 (Int.toNat x13) ((0 : Int), ([], []))).2).2)) : Int)) x1))) : Int) == (0 : Int)) then
                    if (List.length x0.2.1) + (List.length [40, 41, 32, 110, 101, 101, 100, 115, 32, 39]) ≤ 9223372036854775807 then
                      if (List.length (x0.2.1 ++ [40, 41, 32, 110, 101, 101, 100, 115, 32, 39])) + (List.length (((List.getD x11 (Int.toNat x13) ((0 : Int), ([], []))).2).1)) ≤ 9223372036854775807 then
                        if (List.length ((x0.2.1 ++ [40, 41, 32, 110, 101, 101, 100, 115, 32, 39]) ++ (((List.getD x11 (Int.toNat x13) ((0 : Int), ([], []))).2).1))) + (List.length [39]) ≤ 9223372036854775807 then
                          some ((((x0.2.1 ++ [40, 41, 32, 110, 101, 101, 100, 115, 32, 39]) ++ (((List.getD x11 (Int.toNat x13) ((0 : Int), ([], []))).2).1)) ++ [39]), (x0.1, (x0.2.1, ((List.take (List.length x0.2.2.1) x0.2.2.1), (x0.2.2.2.1, ((List.take (List.length x0.2.2.2.2.1) x0.2.2.2.2.1), (List.take (List.length x0.2.2.2.2.2) x0.2.2.2.2.2)))))))
                        else none
                      else none
                    else none
                  else
                    if 0 ≤ (0 : Int) ∧ (0 : Int) < ((List.length (List.drop (Int.toNat (0 : Int)) (List.take (Int.toNat ((List.length (((List.getD x11 (Int.toNat x13) ((0 : Int), ([], []))).2).2)) : Int)) x1))) : Int) then
                      if 0 ≤ x13 ∧ x13 < (((List.length x0.2.2.1) : Nat) : Int) then
                        n_l0 (x0.1, (x0.2.1, ((List.take (List.length x0.2.2.1) (List.set x0.2.2.1 (0 + Int.toNat x13) (List.getD (List.drop (Int.toNat (0 : Int)) (List.take (Int.toNat ((List.length (((List.getD x11 (Int.toNat x13) ((0 : Int), ([], []))).2).2)) : Int)) x1)) (Int.toNat (0 : Int)) Z_Value))), (x0.2.2.2.1, ((List.take (List.length x0.2.2.2.2.1) x0.2.2.2.2.1), (List.take (List.length x0.2.2.2.2.2) x0.2.2.2.2.2)))))) (List.drop (Int.toNat ((List.length (((List.getD x11 (Int.toNat x13) ((0 : Int), ([], []))).2).2)) : Int)) (List.take (Int.toNat ((List.length x1) : Int)) x1)) x11 x12 (IntKind.i64.wrap (x13 + (1 : Int)))
                      else none
                    else none
              else none
        else none
      else none
    else none
  else
    some ([], (x0.1, (x0.2.1, ((List.take (List.length x0.2.2.1) x0.2.2.1), (x0.2.2.2.1, ((List.take (List.length x0.2.2.2.2.1) x0.2.2.2.2.1), (List.take (List.length x0.2.2.2.2.2) x0.2.2.2.2.2)))))))
def f_arguments_binding_rest.c  (r_l0 : X_binding → (List X_Value) → (List X_Param) → (Int) → (Int) → Option ((List UInt8) × X_binding)) (a0 : (List X_Param) × ((List UInt8) × X_Bound)) (a1 : List X_Value) : Option ((List UInt8) × X_binding) :=
  r_l0 a0 a1 a0.1 ((List.length a0.1) : Int) (0 : Int)
theorem f_arguments_binding_rest.q  (r_l0 : X_binding → (List X_Value) → (List X_Param) → (Int) → (Int) → Option ((List UInt8) × X_binding)) (a0 : (List X_Param) × ((List UInt8) × X_Bound)) (a1 : List X_Value) : f_arguments_binding_rest.b  r_l0 a0 a1 = f_arguments_binding_rest.c  r_l0 a0 a1 := by
  simp only [f_arguments_binding_rest.b, f_arguments_binding_rest.c, List.take_length, take_one, Nat.zero_add, Int.toNat_natCast, Int.toNat_zero, List.drop_zero, List.append_eq, Nat.le_refl, Int.le_refl, true_and, and_true, zero_le_one, if_true, prod_eta, Int.natCast_zero]
def f_arguments_binding_rest.c_l0  (n_l0 : X_binding → (List X_Value) → (List X_Param) → (Int) → (Int) → Option ((List UInt8) × X_binding)) (x0 : (List X_Param) × ((List UInt8) × X_Bound)) (x1 : List X_Value) (x11 : List X_Param) (x12 : Int) (x13 : Int) : Option ((List UInt8) × X_binding) :=
  bif (decide (x13 < x12)) then
    if 0 ≤ x13 ∧ x13 < ((List.length x11) : Int) then
      if (0 : Int) ≤ ((List.length (((List.getD x11 (Int.toNat x13) ((0 : Int), ([], []))).2).2)) : Int) ∧ ((List.length (((List.getD x11 (Int.toNat x13) ((0 : Int), ([], []))).2).2)) : Int) ≤ ((List.length x1) : Int) then
        if 0 ≤ ((List.length (((List.getD x11 (Int.toNat x13) ((0 : Int), ([], []))).2).2)) : Int) ∧ ((List.length (((List.getD x11 (Int.toNat x13) ((0 : Int), ([], []))).2).2)) : Int) ≤ ((List.length x1) : Int) then
          bif (((List.getD x11 (Int.toNat x13) ((0 : Int), ([], []))).1) == (1 : Int)) then
            n_l0 x0 (List.drop (List.length (((List.getD x11 (Int.toNat x13) ((0 : Int), ([], []))).2).2)) x1) x11 x12 (IntKind.i64.wrap (x13 + (1 : Int)))
          else
            bif (((List.getD x11 (Int.toNat x13) ((0 : Int), ([], []))).1) == (3 : Int)) then
              n_l0 x0 (List.drop (List.length (((List.getD x11 (Int.toNat x13) ((0 : Int), ([], []))).2).2)) x1) x11 x12 (IntKind.i64.wrap (x13 + (1 : Int)))
            else
              if 0 ≤ x13 ∧ x13 < ((List.length x0.2.2.1) : Int) then
                bif (((List.getD x0.2.2.1 (0 + Int.toNat x13) Z_Value).1) != (9 : Int)) then
                  n_l0 x0 (List.drop (List.length (((List.getD x11 (Int.toNat x13) ((0 : Int), ([], []))).2).2)) x1) x11 x12 (IntKind.i64.wrap (x13 + (1 : Int)))
                else
                  bif (((List.length (List.take (List.length (((List.getD x11 (Int.toNat x13) ((0 : Int), ([], []))).2).2)) x1)) : Int) == (0 : Int)) then
                    if (List.length x0.2.1) + (List.length [40, 41, 32, 110, 101, 101, 100, 115, 32, 39]) ≤ 9223372036854775807 then
                      if (List.length (x0.2.1 ++ [40, 41, 32, 110, 101, 101, 100, 115, 32, 39])) + (List.length (((List.getD x11 (Int.toNat x13) ((0 : Int), ([], []))).2).1)) ≤ 9223372036854775807 then
                        if (List.length ((x0.2.1 ++ [40, 41, 32, 110, 101, 101, 100, 115, 32, 39]) ++ (((List.getD x11 (Int.toNat x13) ((0 : Int), ([], []))).2).1))) + (List.length [39]) ≤ 9223372036854775807 then
                          some ((((x0.2.1 ++ [40, 41, 32, 110, 101, 101, 100, 115, 32, 39]) ++ (((List.getD x11 (Int.toNat x13) ((0 : Int), ([], []))).2).1)) ++ [39]), x0)
                        else none
                      else none
                    else none
                  else
                    if (0 : Int) < ((List.length (List.take (List.length (((List.getD x11 (Int.toNat x13) ((0 : Int), ([], []))).2).2)) x1)) : Int) then
                      if 0 ≤ x13 ∧ x13 < ((List.length x0.2.2.1) : Int) then
                        n_l0 (x0.1, (x0.2.1, ((List.take (List.length x0.2.2.1) (List.set x0.2.2.1 (0 + Int.toNat x13) (List.getD (List.take (List.length (((List.getD x11 (Int.toNat x13) ((0 : Int), ([], []))).2).2)) x1) 0 Z_Value))), x0.2.2.2))) (List.drop (List.length (((List.getD x11 (Int.toNat x13) ((0 : Int), ([], []))).2).2)) x1) x11 x12 (IntKind.i64.wrap (x13 + (1 : Int)))
                      else none
                    else none
              else none
        else none
      else none
    else none
  else
    some ([], x0)
theorem f_arguments_binding_rest.q_l0  (n_l0 : X_binding → (List X_Value) → (List X_Param) → (Int) → (Int) → Option ((List UInt8) × X_binding)) (x0 : (List X_Param) × ((List UInt8) × X_Bound)) (x1 : List X_Value) (x11 : List X_Param) (x12 : Int) (x13 : Int) : f_arguments_binding_rest.b_l0  n_l0 x0 x1 x11 x12 x13 = f_arguments_binding_rest.c_l0  n_l0 x0 x1 x11 x12 x13 := by
  simp only [f_arguments_binding_rest.b_l0, f_arguments_binding_rest.c_l0, List.take_length, take_one, Nat.zero_add, Int.toNat_natCast, Int.toNat_zero, List.drop_zero, List.append_eq, Nat.le_refl, Int.le_refl, true_and, and_true, zero_le_one, if_true, prod_eta, Int.natCast_zero]
def f_arguments_binding_rest.l0  (k : Nat)  : Nat → X_binding → (List X_Value) → (List X_Param) → (Int) → (Int) → Option ((List UInt8) × X_binding)
  | 0, _, _, _, _, _ => none
  | n + 1, x0, x1, x11, x12, x13 => f_arguments_binding_rest.b_l0  (fun x0 x1 x11 x12 x13 => f_arguments_binding_rest.l0  k  n x0 x1 x11 x12 x13) x0 x1 x11 x12 x13
def f_arguments_binding_rest.f  (k : Nat) (a0 : (List X_Param) × ((List UInt8) × X_Bound)) (a1 : List X_Value) : Option ((List UInt8) × X_binding) := f_arguments_binding_rest.b  (f_arguments_binding_rest.l0  k k) a0 a1
noncomputable def f_arguments_binding_rest.M_l0  (k n : Nat)  (s : St) : Option ((List UInt8) × X_binding) := atLoop (f_arguments_binding_rest.C ) k n [1, 0, 1, 0] [] f_arguments_binding_rest.code (f_arguments_binding_rest.fin ) s
noncomputable def f_arguments_binding_rest.fr_l0 (x0 : (List X_Param) × ((List UInt8) × X_Bound)) (x1 : List X_Value) (x11 : List X_Param) (x12 : Int) (x13 : Int) : St := ⟨((((((List.replicate 71 V.un).set 0 (V.bp 900000 0 [])).set 1 (V.dat (.sl 58 Y_Value) x1)).set 11 (V.dat (.sl 51 Y_Param) x11)).set 12 (V.dat (.int .i64) x12)).set 13 (V.dat (.int .i64) x13)), [⟨900000, 0, .box (V.st (V.dat (.sl 51 Y_Param) x0.1) (V.st (V.dat .str x0.2.1) (V.st (V.ref 16400000 0 0 (List.length x0.2.2.1)) (V.st (V.dat (.sl 58 Y_Value) x0.2.2.2.1) (V.st (V.ref 16400001 0 0 (List.length x0.2.2.2.2.1)) (V.ref 16400002 0 0 (List.length x0.2.2.2.2.2)))))))⟩, ⟨16400000, 0, .arr 58 Y_Value x0.2.2.1⟩, ⟨16400001, 0, .arr 9 .str x0.2.2.2.2.1⟩, ⟨16400002, 0, .arr 58 Y_Value x0.2.2.2.2.2⟩]⟩
theorem f_arguments_binding_rest.r  (k : Nat) (a0 : (List X_Param) × ((List UInt8) × X_Bound)) (a1 : List X_Value) : fn (f_arguments_binding_rest.C ) k Try.f48 f_arguments_binding_rest.A f_arguments_binding_rest.R (a0, a1) = f_arguments_binding_rest.b  (fun x0 x1 x11 x12 x13 => f_arguments_binding_rest.M_l0  k k  (f_arguments_binding_rest.fr_l0 x0 x1 x11 x12 x13)) a0 a1 := by kernel_rfl
theorem f_arguments_binding_rest.z_l0  (k : Nat)  (s : St) : f_arguments_binding_rest.M_l0  k 0  s = none := by kernel_rfl
theorem f_arguments_binding_rest.r_l0  (k n : Nat)  (x0 : (List X_Param) × ((List UInt8) × X_Bound)) (x1 : List X_Value) (x11 : List X_Param) (x12 : Int) (x13 : Int) : f_arguments_binding_rest.M_l0  k (n + 1)  (f_arguments_binding_rest.fr_l0 x0 x1 x11 x12 x13) = f_arguments_binding_rest.b_l0  (fun x0 x1 x11 x12 x13 => f_arguments_binding_rest.M_l0  k n  (f_arguments_binding_rest.fr_l0 x0 x1 x11 x12 x13)) x0 x1 x11 x12 x13 := by kernel_rfl
theorem f_arguments_binding_rest.e_l0  (k n : Nat)  (x0 : (List X_Param) × ((List UInt8) × X_Bound)) (x1 : List X_Value) (x11 : List X_Param) (x12 : Int) (x13 : Int) : f_arguments_binding_rest.M_l0  k n  (f_arguments_binding_rest.fr_l0 x0 x1 x11 x12 x13) = f_arguments_binding_rest.l0  k  n x0 x1 x11 x12 x13 := by
  induction n generalizing x0 x1 x11 x12 x13 with
  | zero => rw [f_arguments_binding_rest.z_l0]; rfl
  | succ n ih =>
    rw [f_arguments_binding_rest.r_l0]
    simp only [ih]
    rfl
theorem f_arguments_binding_rest.e  (k : Nat) (a0 : (List X_Param) × ((List UInt8) × X_Bound)) (a1 : List X_Value) : fn (f_arguments_binding_rest.C ) k Try.f48 f_arguments_binding_rest.A f_arguments_binding_rest.R (a0, a1) = f_arguments_binding_rest.f  k a0 a1 := by
  rw [f_arguments_binding_rest.r]
  simp only [f_arguments_binding_rest.e_l0]
  rfl
def f_arguments_binding_rest.u (k : Nat) : f_arguments_binding_rest.E := fun y => f_arguments_binding_rest.f  k y.1 y.2
theorem f_arguments_binding_rest.ty  : TyOk Try.prog (f_arguments_binding_rest.C ) := tyOk_of (by kernel_rfl)
theorem f_arguments_binding_rest.sound (k : Nat) : Sound Try.prog ⟨48, f_arguments_binding_rest.A, f_arguments_binding_rest.R, f_arguments_binding_rest.u k⟩ := by
  have h := fn_sound (k := k) («as» := f_arguments_binding_rest.A) (rs := f_arguments_binding_rest.R) (f_arguments_binding_rest.ty ) (fun E h => by cases h) mixed Try.func48 (by kernel_rfl) (by kernel_rfl)
  have e : fn (f_arguments_binding_rest.C ) k Try.f48 f_arguments_binding_rest.A f_arguments_binding_rest.R = f_arguments_binding_rest.u k := by
    funext y
    exact f_arguments_binding_rest.e  k y.1 y.2
  rw [e] at h
  exact h
end
end Go.Ab
