/- A part of the proof: GE1. -/
import Derived.Test.YtgbihmngjppomaaDoorFTy
import Derived.Test.YtgbihmngjppomaaDoorGC1
namespace Go.Ab
set_option linter.unusedVariables false
set_option linter.unusedSimpArgs false
set_option maxRecDepth 100000
noncomputable section
open Go.Proofs
/-! ### brindlewood/inline.small: f26 -/
abbrev f_inline_small.A : List Sh := [(.d Y_Value)]
abbrev f_inline_small.R : List Sh := [(.d (.int .i64)), (.d .bool)]
abbrev f_inline_small.E : Type := X_Value → Option ((Int) × (Bool))
def f_inline_small.C  : Ctx := { ty := [(3, (.int .i64)), (4, .bool), (22, (.sl 61 (.int .u32))), (24, Y_Int), (26, Y_Value), (61, (.int .u32))], nf := [(24, 2), (26, 5)], by_ := [(61, 4)], env := [], spec := [] }
noncomputable def f_inline_small.code : Code := Func.code Tryd.f26
noncomputable def f_inline_small.fin  := kfin (f_inline_small.C ) Tryd.f26 f_inline_small.A f_inline_small.R
def f_inline_small.b   (a0 : (Int) × (X_Int × (X_Int × X_errorAddressString))) : Option ((Int) × (Bool)) :=
  bif (a0.1 != (2 : Int)) then
    some ((0 : Int), false)
  else
    bif (decide (((List.length a0.2.1.2) : Int) > (1 : Int))) then
      some ((0 : Int), false)
    else
      bif (decide (((List.length a0.2.1.2) : Int) > (0 : Int))) then
        if 0 ≤ (0 : Int) ∧ (0 : Int) < ((List.length a0.2.1.2) : Int) then
          bif a0.2.1.1 then
            some ((IntKind.i64.wrap (0 - (IntKind.i64.wrap (List.getD a0.2.1.2 (Int.toNat (0 : Int)) (0 : Int))))), true)
          else
            some ((IntKind.i64.wrap (List.getD a0.2.1.2 (Int.toNat (0 : Int)) (0 : Int))), true)
        else none
      else
        bif a0.2.1.1 then
          some ((IntKind.i64.wrap (0 - (0 : Int))), true)
        else
          some ((0 : Int), true)
def f_inline_small.c   (a0 : (Int) × (X_Int × (X_Int × X_errorAddressString))) : Option ((Int) × (Bool)) :=
  bif (a0.1 != (2 : Int)) then
    some ((0 : Int), false)
  else
    bif (decide (((List.length a0.2.1.2) : Int) > (1 : Int))) then
      some ((0 : Int), false)
    else
      bif (decide (((List.length a0.2.1.2) : Int) > (0 : Int))) then
        if (0 : Int) < ((List.length a0.2.1.2) : Int) then
          bif a0.2.1.1 then
            some ((IntKind.i64.wrap (0 - (IntKind.i64.wrap (List.getD a0.2.1.2 0 (0 : Int))))), true)
          else
            some ((IntKind.i64.wrap (List.getD a0.2.1.2 0 (0 : Int))), true)
        else none
      else
        bif a0.2.1.1 then
          some ((IntKind.i64.wrap (0 - (0 : Int))), true)
        else
          some ((0 : Int), true)
theorem f_inline_small.q   (a0 : (Int) × (X_Int × (X_Int × X_errorAddressString))) : f_inline_small.b  a0 = f_inline_small.c  a0 := by
  simp only [f_inline_small.b, f_inline_small.c, List.take_length, take_one, Nat.zero_add, Int.toNat_natCast, Int.toNat_zero, List.drop_zero, List.append_eq, Nat.le_refl, Int.le_refl, true_and, and_true, zero_le_one, if_true, prod_eta, Int.natCast_zero]
def f_inline_small.f  (k : Nat) (a0 : (Int) × (X_Int × (X_Int × X_errorAddressString))) : Option ((Int) × (Bool)) := f_inline_small.b   a0
theorem f_inline_small.r  (k : Nat) (a0 : (Int) × (X_Int × (X_Int × X_errorAddressString))) : fn (f_inline_small.C ) k Tryd.f26 f_inline_small.A f_inline_small.R a0 = f_inline_small.b   a0 := by kernel_rfl
theorem f_inline_small.e  (k : Nat) (a0 : (Int) × (X_Int × (X_Int × X_errorAddressString))) : fn (f_inline_small.C ) k Tryd.f26 f_inline_small.A f_inline_small.R a0 = f_inline_small.f  k a0 := by
  rw [f_inline_small.r]
  rfl
theorem f_inline_small.ty  : TyOk Tryd.prog (f_inline_small.C ) := tyOk_of (by kernel_rfl)
def f_inline_small.u (k : Nat) : f_inline_small.E := fun y => f_inline_small.f  k y
theorem f_inline_small.sound (k : Nat) : Sound Tryd.prog ⟨26, f_inline_small.A, f_inline_small.R, f_inline_small.u k⟩ := by
  have h := fn_sound (k := k) («as» := f_inline_small.A) (rs := f_inline_small.R) (f_inline_small.ty ) (fun E h => by cases h) mixed Tryd.func26 (by kernel_rfl) (by kernel_rfl)
  have e : fn (f_inline_small.C ) k Tryd.f26 f_inline_small.A f_inline_small.R = f_inline_small.u k := by
    funext y
    exact f_inline_small.e  k y
  rw [e] at h
  exact h
/-! ### brindlewood/heap.Int: f27 -/
abbrev f_heap_Int.A : List Sh := [(.d (.int .i64))]
abbrev f_heap_Int.R : List Sh := [(.d Y_Value)]
abbrev f_heap_Int.E : Type := (Int) → Option X_Value
def f_heap_Int.C  : Ctx := { ty := [(3, (.int .i64)), (4, .bool), (22, (.sl 61 (.int .u32))), (24, Y_Int), (26, Y_Value), (61, (.int .u32)), (104, (.int .u64))], nf := [(24, 2), (26, 5)], by_ := [(61, 4)], env := [], spec := [(0, [.bx 2 600002 (.pair (.d (.int .i64)) (.pair (.pair (.d .bool) (.o 61 (.int .u32))) (.pair (.pair (.d .bool) (.o 61 (.int .u32))) (.d (.pair .str (.int .i64)))))), .bx 3 600003 (.pair (.d (.int .i64)) (.pair (.pair (.d .bool) (.o 61 (.int .u32))) (.pair (.pair (.d .bool) (.o 61 (.int .u32))) (.d (.pair .str (.int .i64)))))), .d 4 (.int .u64)])] }
noncomputable def f_heap_Int.code : Code := Func.code Tryd.f27
noncomputable def f_heap_Int.fin  := kfin (f_heap_Int.C ) Tryd.f27 f_heap_Int.A f_heap_Int.R
def f_heap_Int.b  (r_l0 : X_Value → X_Value → (Int) → Option X_Value) (a0 : Int) : Option X_Value :=
  bif (decide (a0 < (0 : Int))) then
    r_l0 ((0 : Int), ((false, ([] : List (Int))), ((false, ([] : List (Int))), ([], (0 : Int))))) ((2 : Int), ((true, ([] : List (Int))), ((false, ([] : List (Int))), ([], (0 : Int))))) (IntKind.u64.wrap (0 - (IntKind.u64.wrap a0)))
  else
    r_l0 ((0 : Int), ((false, ([] : List (Int))), ((false, ([] : List (Int))), ([], (0 : Int))))) ((2 : Int), ((false, ([] : List (Int))), ((false, ([] : List (Int))), ([], (0 : Int))))) (IntKind.u64.wrap a0)
def f_heap_Int.b_l0  (n_l0 : X_Value → X_Value → (Int) → Option X_Value) (x2 : (Int) × (X_Int × (X_Int × X_errorAddressString))) (x3 : (Int) × (X_Int × (X_Int × X_errorAddressString))) (x4 : Int) : Option X_Value :=
  bif (decide (x4 > (0 : Int))) then
    if (List.length x3.2.1.2) ≤ (List.length x3.2.1.2) ∧ ((List.length x3.2.1.2) + (List.length (List.take 1 ([(IntKind.u32.wrap x4)] : List (Int))))) * 4 ≤ LIM then
      n_l0 (x2.1, ((x2.2.1.1, (List.take (List.length x2.2.1.2) x2.2.1.2)), ((x2.2.2.1.1, (List.take (List.length x2.2.2.1.2) x2.2.2.1.2)), x2.2.2.2))) (x3.1, ((x3.2.1.1, (List.take (List.length (List.append (List.take (List.length x3.2.1.2) x3.2.1.2) (List.take 1 ([(IntKind.u32.wrap x4)] : List (Int))))) (List.append (List.take (List.length x3.2.1.2) x3.2.1.2) (List.take 1 ([(IntKind.u32.wrap x4)] : List (Int)))))), ((x3.2.2.1.1, (List.take (List.length x3.2.2.1.2) x3.2.2.1.2)), x3.2.2.2))) (Int.fdiv x4 (2 ^ min (Int.toNat (32 : Int)) IntKind.u64.bits))
    else none
  else
    some (x3.1, ((x3.2.1.1, (List.take (List.length x3.2.1.2) x3.2.1.2)), ((x3.2.2.1.1, (List.take (List.length x3.2.2.1.2) x3.2.2.1.2)), x3.2.2.2)))
def f_heap_Int.c  (r_l0 : X_Value → X_Value → (Int) → Option X_Value) (a0 : Int) : Option X_Value :=
  bif (decide (a0 < (0 : Int))) then
    r_l0 ((0 : Int), ((false, ([] : List Int)), ((false, ([] : List Int)), ([], (0 : Int))))) ((2 : Int), ((true, ([] : List Int)), ((false, ([] : List Int)), ([], (0 : Int))))) (IntKind.u64.wrap (0 - (IntKind.u64.wrap a0)))
  else
    r_l0 ((0 : Int), ((false, ([] : List Int)), ((false, ([] : List Int)), ([], (0 : Int))))) ((2 : Int), ((false, ([] : List Int)), ((false, ([] : List Int)), ([], (0 : Int))))) (IntKind.u64.wrap a0)
theorem f_heap_Int.q  (r_l0 : X_Value → X_Value → (Int) → Option X_Value) (a0 : Int) : f_heap_Int.b  r_l0 a0 = f_heap_Int.c  r_l0 a0 := by
  simp only [f_heap_Int.b, f_heap_Int.c, List.take_length, take_one, Nat.zero_add, Int.toNat_natCast, Int.toNat_zero, List.drop_zero, List.append_eq, Nat.le_refl, Int.le_refl, true_and, and_true, zero_le_one, if_true, prod_eta, Int.natCast_zero]
def f_heap_Int.c_l0  (n_l0 : X_Value → X_Value → (Int) → Option X_Value) (x2 : (Int) × (X_Int × (X_Int × X_errorAddressString))) (x3 : (Int) × (X_Int × (X_Int × X_errorAddressString))) (x4 : Int) : Option X_Value :=
  bif (decide (x4 > (0 : Int))) then
    if ((List.length x3.2.1.2) + (List.length ([(IntKind.u32.wrap x4)] : List Int))) * 4 ≤ LIM then
      n_l0 x2 (x3.1, ((x3.2.1.1, (x3.2.1.2 ++ ([(IntKind.u32.wrap x4)] : List Int))), x3.2.2)) (Int.fdiv x4 (2 ^ min (Int.toNat (32 : Int)) IntKind.u64.bits))
    else none
  else
    some x3
theorem f_heap_Int.q_l0  (n_l0 : X_Value → X_Value → (Int) → Option X_Value) (x2 : (Int) × (X_Int × (X_Int × X_errorAddressString))) (x3 : (Int) × (X_Int × (X_Int × X_errorAddressString))) (x4 : Int) : f_heap_Int.b_l0  n_l0 x2 x3 x4 = f_heap_Int.c_l0  n_l0 x2 x3 x4 := by
  simp only [f_heap_Int.b_l0, f_heap_Int.c_l0, List.take_length, take_one, Nat.zero_add, Int.toNat_natCast, Int.toNat_zero, List.drop_zero, List.append_eq, Nat.le_refl, Int.le_refl, true_and, and_true, zero_le_one, if_true, prod_eta, Int.natCast_zero]
def f_heap_Int.l0  (k : Nat)  : Nat → X_Value → X_Value → (Int) → Option X_Value
  | 0, _, _, _ => none
  | n + 1, x2, x3, x4 => f_heap_Int.b_l0  (fun x2 x3 x4 => f_heap_Int.l0  k  n x2 x3 x4) x2 x3 x4
def f_heap_Int.f  (k : Nat) (a0 : Int) : Option X_Value := f_heap_Int.b  (f_heap_Int.l0  k k) a0
noncomputable def f_heap_Int.M_l0  (k n : Nat)  (s : St) : Option X_Value := atLoop (f_heap_Int.C ) k n [1, 1, 1, 1, 0, 0] [] f_heap_Int.code (f_heap_Int.fin ) s
noncomputable def f_heap_Int.fr_l0 (x2 : (Int) × (X_Int × (X_Int × X_errorAddressString))) (x3 : (Int) × (X_Int × (X_Int × X_errorAddressString))) (x4 : Int) : St := ⟨((((List.replicate 28 V.un).set 2 (V.bp 600002 0 [])).set 3 (V.bp 600003 0 [])).set 4 (V.dat (.int .u64) x4)), [⟨600003, 0, .box (V.st (V.dat (.int .i64) x3.1) (V.st (V.st (V.dat .bool x3.2.1.1) (V.ref 11600048 0 0 (List.length x3.2.1.2))) (V.st (V.st (V.dat .bool x3.2.2.1.1) (V.ref 11600049 0 0 (List.length x3.2.2.1.2))) (V.dat (.pair .str (.int .i64)) x3.2.2.2))))⟩, ⟨11600048, 0, .arr 61 (.int .u32) x3.2.1.2⟩, ⟨11600049, 0, .arr 61 (.int .u32) x3.2.2.1.2⟩, ⟨600002, 0, .box (V.st (V.dat (.int .i64) x2.1) (V.st (V.st (V.dat .bool x2.2.1.1) (V.ref 11600032 0 0 (List.length x2.2.1.2))) (V.st (V.st (V.dat .bool x2.2.2.1.1) (V.ref 11600033 0 0 (List.length x2.2.2.1.2))) (V.dat (.pair .str (.int .i64)) x2.2.2.2))))⟩, ⟨11600032, 0, .arr 61 (.int .u32) x2.2.1.2⟩, ⟨11600033, 0, .arr 61 (.int .u32) x2.2.2.1.2⟩]⟩
theorem f_heap_Int.r  (k : Nat) (a0 : Int) : fn (f_heap_Int.C ) k Tryd.f27 f_heap_Int.A f_heap_Int.R a0 = f_heap_Int.b  (fun x2 x3 x4 => f_heap_Int.M_l0  k k  (f_heap_Int.fr_l0 x2 x3 x4)) a0 := by kernel_rfl
theorem f_heap_Int.z_l0  (k : Nat)  (s : St) : f_heap_Int.M_l0  k 0  s = none := by kernel_rfl
theorem f_heap_Int.r_l0  (k n : Nat)  (x2 : (Int) × (X_Int × (X_Int × X_errorAddressString))) (x3 : (Int) × (X_Int × (X_Int × X_errorAddressString))) (x4 : Int) : f_heap_Int.M_l0  k (n + 1)  (f_heap_Int.fr_l0 x2 x3 x4) = f_heap_Int.b_l0  (fun x2 x3 x4 => f_heap_Int.M_l0  k n  (f_heap_Int.fr_l0 x2 x3 x4)) x2 x3 x4 := by kernel_rfl
theorem f_heap_Int.e_l0  (k n : Nat)  (x2 : (Int) × (X_Int × (X_Int × X_errorAddressString))) (x3 : (Int) × (X_Int × (X_Int × X_errorAddressString))) (x4 : Int) : f_heap_Int.M_l0  k n  (f_heap_Int.fr_l0 x2 x3 x4) = f_heap_Int.l0  k  n x2 x3 x4 := by
  induction n generalizing x2 x3 x4 with
  | zero => rw [f_heap_Int.z_l0]; rfl
  | succ n ih =>
    rw [f_heap_Int.r_l0]
    simp only [ih]
    rfl
theorem f_heap_Int.e  (k : Nat) (a0 : Int) : fn (f_heap_Int.C ) k Tryd.f27 f_heap_Int.A f_heap_Int.R a0 = f_heap_Int.f  k a0 := by
  rw [f_heap_Int.r]
  simp only [f_heap_Int.e_l0]
  rfl
theorem f_heap_Int.ty  : TyOk Tryd.prog (f_heap_Int.C ) := tyOk_of (by kernel_rfl)
def f_heap_Int.u (k : Nat) : f_heap_Int.E := fun y => f_heap_Int.f  k y
theorem f_heap_Int.sound (k : Nat) : Sound Tryd.prog ⟨27, f_heap_Int.A, f_heap_Int.R, f_heap_Int.u k⟩ := by
  have h := fn_sound (k := k) («as» := f_heap_Int.A) (rs := f_heap_Int.R) (f_heap_Int.ty ) (fun E h => by cases h) mixed Tryd.func27 (by kernel_rfl) (by kernel_rfl)
  have e : fn (f_heap_Int.C ) k Tryd.f27 f_heap_Int.A f_heap_Int.R = f_heap_Int.u k := by
    funext y
    exact f_heap_Int.e  k y
  rw [e] at h
  exact h
/-! ### brindlewood/inline.Binary: f6 -/
abbrev f_inline_Binary.A : List Sh := [(.d (.int .i64)), (.d Y_Value), (.d Y_Value)]
abbrev f_inline_Binary.R : List Sh := [(.d Y_Value), (.d .bool)]
abbrev f_inline_Binary.E : Type := ((Int) × (X_Value × X_Value)) → Option (X_Value × (Bool))
def f_inline_Binary.C (c26 : f_inline_small.E) (c27 : f_heap_Int.E) : Ctx := { ty := [(3, (.int .i64)), (4, .bool), (26, Y_Value)], nf := [(26, 5)], by_ := [], env := [⟨26, f_inline_small.A, f_inline_small.R, c26⟩, ⟨27, f_heap_Int.A, f_heap_Int.R, c27⟩], spec := [(100011, [.d 0 (.int .i64), .bx 6 600006 (.pair (.d (.int .i64)) (.pair (.pair (.d .bool) (.o 61 (.int .u32))) (.pair (.pair (.d .bool) (.o 61 (.int .u32))) (.d (.pair .str (.int .i64)))))), .d 8 (.int .i64), .d 10 (.int .i64)]), (100012, [.d 0 (.int .i64), .bx 6 600006 (.pair (.d (.int .i64)) (.pair (.pair (.d .bool) (.o 61 (.int .u32))) (.pair (.pair (.d .bool) (.o 61 (.int .u32))) (.d (.pair .str (.int .i64)))))), .d 8 (.int .i64), .d 10 (.int .i64)])] }
noncomputable def f_inline_Binary.code : Code := Func.code Tryd.f6
noncomputable def f_inline_Binary.fin (c26 : f_inline_small.E) (c27 : f_heap_Int.E) := kfin (f_inline_Binary.C c26 c27) Tryd.f6 f_inline_Binary.A f_inline_Binary.R
def f_inline_Binary.b (c26 : f_inline_small.E) (c27 : f_heap_Int.E) (r_g11 : (Int) → X_Value → (Int) → (Int) → Option (X_Value × (Bool))) (a0 : Int) (a1 : (Int) × (X_Int × (X_Int × X_errorAddressString))) (a2 : (Int) × (X_Int × (X_Int × X_errorAddressString))) : Option (X_Value × (Bool)) :=
  (c26 a1).bind fun y1 =>
    (c26 a2).bind fun y2 =>
      bif (!y1.2) then
        some (((0 : Int), ((false, ([] : List (Int))), ((false, ([] : List (Int))), ([], (0 : Int))))), false)
      else
        bif (!y2.2) then
          some (((0 : Int), ((false, ([] : List (Int))), ((false, ([] : List (Int))), ([], (0 : Int))))), false)
        else
          bif (a0 == (5 : Int)) then
            (c27 (IntKind.i64.wrap (y1.1 + y2.1))).bind fun y3 =>
              some (y3, true)
          else
            bif (a0 == (6 : Int)) then
              (c27 (IntKind.i64.wrap (y1.1 - y2.1))).bind fun y4 =>
                some (y4, true)
            else
              bif (a0 == (7 : Int)) then
                bif (decide (y1.1 > (-2147483648 : Int))) then
                  bif (decide (y1.1 < (2147483648 : Int))) then
                    bif (decide (y2.1 > (-2147483648 : Int))) then
                      bif (decide (y2.1 < (2147483648 : Int))) then
                        (c27 (IntKind.i64.wrap (y1.1 * y2.1))).bind fun y5 =>
                          some (y5, true)
                      else
                        r_g11 a0 ((0 : Int), ((false, ([] : List (Int))), ((false, ([] : List (Int))), ([], (0 : Int))))) y1.1 y2.1
                    else
                      r_g11 a0 ((0 : Int), ((false, ([] : List (Int))), ((false, ([] : List (Int))), ([], (0 : Int))))) y1.1 y2.1
                  else
                    r_g11 a0 ((0 : Int), ((false, ([] : List (Int))), ((false, ([] : List (Int))), ([], (0 : Int))))) y1.1 y2.1
                else
                  r_g11 a0 ((0 : Int), ((false, ([] : List (Int))), ((false, ([] : List (Int))), ([], (0 : Int))))) y1.1 y2.1
              else
                r_g11 a0 ((0 : Int), ((false, ([] : List (Int))), ((false, ([] : List (Int))), ([], (0 : Int))))) y1.1 y2.1
def f_inline_Binary.b_g11 (c26 : f_inline_small.E) (c27 : f_heap_Int.E) (r_g12 : (Int) → X_Value → (Int) → (Int) → Option (X_Value × (Bool))) (x0 : Int) (x6 : (Int) × (X_Int × (X_Int × X_errorAddressString))) (x8 : Int) (x10 : Int) : Option (X_Value × (Bool)) :=
  bif (x0 == (9 : Int)) then
    bif (x10 != (0 : Int)) then
      r_g12 x0 (x6.1, ((x6.2.1.1, (List.take (List.length x6.2.1.2) x6.2.1.2)), ((x6.2.2.1.1, (List.take (List.length x6.2.2.1.2) x6.2.2.1.2)), x6.2.2.2))) x8 x10
    else
      some (((0 : Int), ((false, ([] : List (Int))), ((false, ([] : List (Int))), ([], (0 : Int))))), false)
  else
    bif (x0 == (10 : Int)) then
      bif (x10 != (0 : Int)) then
        r_g12 x0 (x6.1, ((x6.2.1.1, (List.take (List.length x6.2.1.2) x6.2.1.2)), ((x6.2.2.1.1, (List.take (List.length x6.2.2.1.2) x6.2.2.1.2)), x6.2.2.2))) x8 x10
      else
        some (((0 : Int), ((false, ([] : List (Int))), ((false, ([] : List (Int))), ([], (0 : Int))))), false)
    else
      some (((0 : Int), ((false, ([] : List (Int))), ((false, ([] : List (Int))), ([], (0 : Int))))), false)
def f_inline_Binary.b_g12 (c26 : f_inline_small.E) (c27 : f_heap_Int.E)  (x0 : Int) (x6 : (Int) × (X_Int × (X_Int × X_errorAddressString))) (x8 : Int) (x10 : Int) : Option (X_Value × (Bool)) :=
  if x10 = 0 then none else
    if x10 = 0 then none else
      bif ((Int.tmod x8 x10) != (0 : Int)) then
        bif ((decide ((Int.tmod x8 x10) < (0 : Int))) != (decide (x10 < (0 : Int)))) then
          bif (x0 == (10 : Int)) then
            (c27 (IntKind.i64.wrap ((Int.tmod x8 x10) + x10))).bind fun y6 =>
              some (y6, true)
          else
            (c27 (IntKind.i64.wrap ((IntKind.i64.wrap (Int.tdiv x8 x10)) - (1 : Int)))).bind fun y7 =>
              some (y7, true)
        else
          bif (x0 == (10 : Int)) then
            (c27 (Int.tmod x8 x10)).bind fun y8 =>
              some (y8, true)
          else
            (c27 (IntKind.i64.wrap (Int.tdiv x8 x10))).bind fun y9 =>
              some (y9, true)
      else
        bif (x0 == (10 : Int)) then
          (c27 (Int.tmod x8 x10)).bind fun y10 =>
            some (y10, true)
        else
          (c27 (IntKind.i64.wrap (Int.tdiv x8 x10))).bind fun y11 =>
            some (y11, true)
def f_inline_Binary.c (c26 : f_inline_small.E) (c27 : f_heap_Int.E) (r_g11 : (Int) → X_Value → (Int) → (Int) → Option (X_Value × (Bool))) (a0 : Int) (a1 : (Int) × (X_Int × (X_Int × X_errorAddressString))) (a2 : (Int) × (X_Int × (X_Int × X_errorAddressString))) : Option (X_Value × (Bool)) :=
  (c26 a1).bind fun y1 =>
    (c26 a2).bind fun y2 =>
      bif !y1.2 then
        some (((0 : Int), ((false, ([] : List Int)), ((false, ([] : List Int)), ([], (0 : Int))))), false)
      else
        bif !y2.2 then
          some (((0 : Int), ((false, ([] : List Int)), ((false, ([] : List Int)), ([], (0 : Int))))), false)
        else
          bif (a0 == (5 : Int)) then
            (c27 (IntKind.i64.wrap (y1.1 + y2.1))).bind fun y3 =>
              some (y3, true)
          else
            bif (a0 == (6 : Int)) then
              (c27 (IntKind.i64.wrap (y1.1 - y2.1))).bind fun y4 =>
                some (y4, true)
            else
              bif (a0 == (7 : Int)) then
                bif (decide (y1.1 > (-2147483648 : Int))) then
                  bif (decide (y1.1 < (2147483648 : Int))) then
                    bif (decide (y2.1 > (-2147483648 : Int))) then
                      bif (decide (y2.1 < (2147483648 : Int))) then
                        (c27 (IntKind.i64.wrap (y1.1 * y2.1))).bind fun y5 =>
                          some (y5, true)
                      else
                        r_g11 a0 ((0 : Int), ((false, ([] : List Int)), ((false, ([] : List Int)), ([], (0 : Int))))) y1.1 y2.1
                    else
                      r_g11 a0 ((0 : Int), ((false, ([] : List Int)), ((false, ([] : List Int)), ([], (0 : Int))))) y1.1 y2.1
                  else
                    r_g11 a0 ((0 : Int), ((false, ([] : List Int)), ((false, ([] : List Int)), ([], (0 : Int))))) y1.1 y2.1
                else
                  r_g11 a0 ((0 : Int), ((false, ([] : List Int)), ((false, ([] : List Int)), ([], (0 : Int))))) y1.1 y2.1
              else
                r_g11 a0 ((0 : Int), ((false, ([] : List Int)), ((false, ([] : List Int)), ([], (0 : Int))))) y1.1 y2.1
theorem f_inline_Binary.q (c26 : f_inline_small.E) (c27 : f_heap_Int.E) (r_g11 : (Int) → X_Value → (Int) → (Int) → Option (X_Value × (Bool))) (a0 : Int) (a1 : (Int) × (X_Int × (X_Int × X_errorAddressString))) (a2 : (Int) × (X_Int × (X_Int × X_errorAddressString))) : f_inline_Binary.b c26 c27 r_g11 a0 a1 a2 = f_inline_Binary.c c26 c27 r_g11 a0 a1 a2 := by
  simp only [f_inline_Binary.b, f_inline_Binary.c, List.take_length, take_one, Nat.zero_add, Int.toNat_natCast, Int.toNat_zero, List.drop_zero, List.append_eq, Nat.le_refl, Int.le_refl, true_and, and_true, zero_le_one, if_true, prod_eta, Int.natCast_zero]
def f_inline_Binary.c_g11 (c26 : f_inline_small.E) (c27 : f_heap_Int.E) (r_g12 : (Int) → X_Value → (Int) → (Int) → Option (X_Value × (Bool))) (x0 : Int) (x6 : (Int) × (X_Int × (X_Int × X_errorAddressString))) (x8 : Int) (x10 : Int) : Option (X_Value × (Bool)) :=
  bif (x0 == (9 : Int)) then
    bif (x10 != (0 : Int)) then
      r_g12 x0 x6 x8 x10
    else
      some (((0 : Int), ((false, ([] : List Int)), ((false, ([] : List Int)), ([], (0 : Int))))), false)
  else
    bif (x0 == (10 : Int)) then
      bif (x10 != (0 : Int)) then
        r_g12 x0 x6 x8 x10
      else
        some (((0 : Int), ((false, ([] : List Int)), ((false, ([] : List Int)), ([], (0 : Int))))), false)
    else
      some (((0 : Int), ((false, ([] : List Int)), ((false, ([] : List Int)), ([], (0 : Int))))), false)
theorem f_inline_Binary.q_g11 (c26 : f_inline_small.E) (c27 : f_heap_Int.E) (r_g12 : (Int) → X_Value → (Int) → (Int) → Option (X_Value × (Bool))) (x0 : Int) (x6 : (Int) × (X_Int × (X_Int × X_errorAddressString))) (x8 : Int) (x10 : Int) : f_inline_Binary.b_g11 c26 c27 r_g12 x0 x6 x8 x10 = f_inline_Binary.c_g11 c26 c27 r_g12 x0 x6 x8 x10 := by
  simp only [f_inline_Binary.b_g11, f_inline_Binary.c_g11, List.take_length, take_one, Nat.zero_add, Int.toNat_natCast, Int.toNat_zero, List.drop_zero, List.append_eq, Nat.le_refl, Int.le_refl, true_and, and_true, zero_le_one, if_true, prod_eta, Int.natCast_zero]
def f_inline_Binary.g12 (c26 : f_inline_small.E) (c27 : f_heap_Int.E) (k : Nat)  (x0 : Int) (x6 : (Int) × (X_Int × (X_Int × X_errorAddressString))) (x8 : Int) (x10 : Int) : Option (X_Value × (Bool)) := gate k (f_inline_Binary.b_g12 c26 c27  x0 x6 x8 x10)
def f_inline_Binary.g11 (c26 : f_inline_small.E) (c27 : f_heap_Int.E) (k : Nat)  (x0 : Int) (x6 : (Int) × (X_Int × (X_Int × X_errorAddressString))) (x8 : Int) (x10 : Int) : Option (X_Value × (Bool)) := gate k (f_inline_Binary.b_g11 c26 c27 (f_inline_Binary.g12 c26 c27 k ) x0 x6 x8 x10)
def f_inline_Binary.f (c26 : f_inline_small.E) (c27 : f_heap_Int.E) (k : Nat) (a0 : Int) (a1 : (Int) × (X_Int × (X_Int × X_errorAddressString))) (a2 : (Int) × (X_Int × (X_Int × X_errorAddressString))) : Option (X_Value × (Bool)) := f_inline_Binary.b c26 c27 (f_inline_Binary.g11 c26 c27 k) a0 a1 a2
noncomputable def f_inline_Binary.M_g11 (c26 : f_inline_small.E) (c27 : f_heap_Int.E) (k : Nat)  (s : St) : Option (X_Value × (Bool)) := atGate (f_inline_Binary.C c26 c27) k [1, 1, 1, 1, 0, 0, 1, 1, 1, 1, 1, 1, 0] [] f_inline_Binary.code (f_inline_Binary.fin c26 c27) s
noncomputable def f_inline_Binary.fr_g11 (x0 : Int) (x6 : (Int) × (X_Int × (X_Int × X_errorAddressString))) (x8 : Int) (x10 : Int) : St := ⟨(((((List.replicate 105 V.un).set 0 (V.dat (.int .i64) x0)).set 6 (V.bp 600006 0 [])).set 8 (V.dat (.int .i64) x8)).set 10 (V.dat (.int .i64) x10)), [⟨600006, 0, .box (V.st (V.dat (.int .i64) x6.1) (V.st (V.st (V.dat .bool x6.2.1.1) (V.ref 11600096 0 0 (List.length x6.2.1.2))) (V.st (V.st (V.dat .bool x6.2.2.1.1) (V.ref 11600097 0 0 (List.length x6.2.2.1.2))) (V.dat (.pair .str (.int .i64)) x6.2.2.2))))⟩, ⟨11600096, 0, .arr 61 (.int .u32) x6.2.1.2⟩, ⟨11600097, 0, .arr 61 (.int .u32) x6.2.2.1.2⟩]⟩
noncomputable def f_inline_Binary.M_g12 (c26 : f_inline_small.E) (c27 : f_heap_Int.E) (k : Nat)  (s : St) : Option (X_Value × (Bool)) := atGate (f_inline_Binary.C c26 c27) k [1, 1, 1, 1, 0, 0, 1, 1, 1, 1, 1, 1, 1, 0, 0] [] f_inline_Binary.code (f_inline_Binary.fin c26 c27) s
noncomputable def f_inline_Binary.fr_g12 (x0 : Int) (x6 : (Int) × (X_Int × (X_Int × X_errorAddressString))) (x8 : Int) (x10 : Int) : St := ⟨(((((List.replicate 105 V.un).set 0 (V.dat (.int .i64) x0)).set 6 (V.bp 600006 0 [])).set 8 (V.dat (.int .i64) x8)).set 10 (V.dat (.int .i64) x10)), [⟨600006, 0, .box (V.st (V.dat (.int .i64) x6.1) (V.st (V.st (V.dat .bool x6.2.1.1) (V.ref 11600096 0 0 (List.length x6.2.1.2))) (V.st (V.st (V.dat .bool x6.2.2.1.1) (V.ref 11600097 0 0 (List.length x6.2.2.1.2))) (V.dat (.pair .str (.int .i64)) x6.2.2.2))))⟩, ⟨11600096, 0, .arr 61 (.int .u32) x6.2.1.2⟩, ⟨11600097, 0, .arr 61 (.int .u32) x6.2.2.1.2⟩]⟩
theorem f_inline_Binary.r (c26 : f_inline_small.E) (c27 : f_heap_Int.E) (k : Nat) (a0 : Int) (a1 : (Int) × (X_Int × (X_Int × X_errorAddressString))) (a2 : (Int) × (X_Int × (X_Int × X_errorAddressString))) : fn (f_inline_Binary.C c26 c27) k Tryd.f6 f_inline_Binary.A f_inline_Binary.R (a0, (a1, a2)) = f_inline_Binary.b c26 c27 (fun x0 x6 x8 x10 => f_inline_Binary.M_g11 c26 c27 k   (f_inline_Binary.fr_g11 x0 x6 x8 x10)) a0 a1 a2 := by kernel_rfl
theorem f_inline_Binary.r_g11 (c26 : f_inline_small.E) (c27 : f_heap_Int.E) (k : Nat)  (x0 : Int) (x6 : (Int) × (X_Int × (X_Int × X_errorAddressString))) (x8 : Int) (x10 : Int) : f_inline_Binary.M_g11 c26 c27 k  (f_inline_Binary.fr_g11 x0 x6 x8 x10) = gate k (f_inline_Binary.b_g11 c26 c27 (fun x0 x6 x8 x10 => f_inline_Binary.M_g12 c26 c27 k   (f_inline_Binary.fr_g12 x0 x6 x8 x10)) x0 x6 x8 x10) := by kernel_rfl
theorem f_inline_Binary.r_g12 (c26 : f_inline_small.E) (c27 : f_heap_Int.E) (k : Nat)  (x0 : Int) (x6 : (Int) × (X_Int × (X_Int × X_errorAddressString))) (x8 : Int) (x10 : Int) : f_inline_Binary.M_g12 c26 c27 k  (f_inline_Binary.fr_g12 x0 x6 x8 x10) = gate k (f_inline_Binary.b_g12 c26 c27  x0 x6 x8 x10) := by kernel_rfl
theorem f_inline_Binary.e_g12 (c26 : f_inline_small.E) (c27 : f_heap_Int.E) (k : Nat)  (x0 : Int) (x6 : (Int) × (X_Int × (X_Int × X_errorAddressString))) (x8 : Int) (x10 : Int) : f_inline_Binary.M_g12 c26 c27 k  (f_inline_Binary.fr_g12 x0 x6 x8 x10) = f_inline_Binary.g12 c26 c27 k  x0 x6 x8 x10 := by
  rw [f_inline_Binary.r_g12]
  rfl
theorem f_inline_Binary.e_g11 (c26 : f_inline_small.E) (c27 : f_heap_Int.E) (k : Nat)  (x0 : Int) (x6 : (Int) × (X_Int × (X_Int × X_errorAddressString))) (x8 : Int) (x10 : Int) : f_inline_Binary.M_g11 c26 c27 k  (f_inline_Binary.fr_g11 x0 x6 x8 x10) = f_inline_Binary.g11 c26 c27 k  x0 x6 x8 x10 := by
  rw [f_inline_Binary.r_g11]
  simp only [f_inline_Binary.e_g12]
  rfl
theorem f_inline_Binary.e (c26 : f_inline_small.E) (c27 : f_heap_Int.E) (k : Nat) (a0 : Int) (a1 : (Int) × (X_Int × (X_Int × X_errorAddressString))) (a2 : (Int) × (X_Int × (X_Int × X_errorAddressString))) : fn (f_inline_Binary.C c26 c27) k Tryd.f6 f_inline_Binary.A f_inline_Binary.R (a0, (a1, a2)) = f_inline_Binary.f c26 c27 k a0 a1 a2 := by
  rw [f_inline_Binary.r]
  simp only [f_inline_Binary.e_g11]
  rfl
theorem f_inline_Binary.ty (c26 : f_inline_small.E) (c27 : f_heap_Int.E) : TyOk Tryd.prog (f_inline_Binary.C c26 c27) := tyOk_of (by kernel_rfl)
def f_inline_Binary.u (k : Nat) : f_inline_Binary.E := fun y => f_inline_Binary.f (f_inline_small.u k) (f_heap_Int.u k) k y.1 y.2.1 y.2.2
theorem f_inline_Binary.sound (k : Nat) : Sound Tryd.prog ⟨6, f_inline_Binary.A, f_inline_Binary.R, f_inline_Binary.u k⟩ := by
  have h := fn_sound (k := k) («as» := f_inline_Binary.A) (rs := f_inline_Binary.R) (f_inline_Binary.ty (f_inline_small.u k) (f_heap_Int.u k)) (fun E h => by
    simp only [f_inline_Binary.C, List.mem_cons, List.not_mem_nil, or_false] at h
    rcases h with rfl | rfl
    · exact f_inline_small.sound k
    · exact f_heap_Int.sound k) mixed Tryd.func6 (by kernel_rfl) (by kernel_rfl)
  have e : fn (f_inline_Binary.C (f_inline_small.u k) (f_heap_Int.u k)) k Tryd.f6 f_inline_Binary.A f_inline_Binary.R = f_inline_Binary.u k := by
    funext y
    exact f_inline_Binary.e (f_inline_small.u k) (f_heap_Int.u k) k y.1 y.2.1 y.2.2
  rw [e] at h
  exact h
/-! ### brindlewood/brindlewoodlaw7.small: f7 -/
abbrev f_law7_small.A : List Sh := [(.d Y_Value)]
abbrev f_law7_small.R : List Sh := [(.d .bool)]
abbrev f_law7_small.E : Type := X_Value → Option (Bool)
def f_law7_small.C  : Ctx := { ty := [(3, (.int .i64)), (22, (.sl 61 (.int .u32))), (24, Y_Int), (26, Y_Value)], nf := [(24, 2), (26, 5)], by_ := [(61, 4)], env := [], spec := [] }
noncomputable def f_law7_small.code : Code := Func.code Tryd.f7
noncomputable def f_law7_small.fin  := kfin (f_law7_small.C ) Tryd.f7 f_law7_small.A f_law7_small.R
def f_law7_small.b   (a0 : (Int) × (X_Int × (X_Int × X_errorAddressString))) : Option (Bool) :=
  bif (a0.1 == (2 : Int)) then
    some (decide (((List.length a0.2.1.2) : Int) ≤ (1 : Int)))
  else
    some false
def f_law7_small.f  (k : Nat) (a0 : (Int) × (X_Int × (X_Int × X_errorAddressString))) : Option (Bool) := f_law7_small.b   a0
theorem f_law7_small.r  (k : Nat) (a0 : (Int) × (X_Int × (X_Int × X_errorAddressString))) : fn (f_law7_small.C ) k Tryd.f7 f_law7_small.A f_law7_small.R a0 = f_law7_small.b   a0 := by kernel_rfl
theorem f_law7_small.e  (k : Nat) (a0 : (Int) × (X_Int × (X_Int × X_errorAddressString))) : fn (f_law7_small.C ) k Tryd.f7 f_law7_small.A f_law7_small.R a0 = f_law7_small.f  k a0 := by
  rw [f_law7_small.r]
  rfl
theorem f_law7_small.ty  : TyOk Tryd.prog (f_law7_small.C ) := tyOk_of (by kernel_rfl)
def f_law7_small.u (k : Nat) : f_law7_small.E := fun y => f_law7_small.f  k y
theorem f_law7_small.sound (k : Nat) : Sound Tryd.prog ⟨7, f_law7_small.A, f_law7_small.R, f_law7_small.u k⟩ := by
  have h := fn_sound (k := k) («as» := f_law7_small.A) (rs := f_law7_small.R) (f_law7_small.ty ) (fun E h => by cases h) mixed Tryd.func7 (by kernel_rfl) (by kernel_rfl)
  have e : fn (f_law7_small.C ) k Tryd.f7 f_law7_small.A f_law7_small.R = f_law7_small.u k := by
    funext y
    exact f_law7_small.e  k y
  rw [e] at h
  exact h
/-! ### brindlewood/brindlewoodref7.IsNumber: f28 -/
abbrev f_ref7_IsNumber.A : List Sh := [(.d Y_Value)]
abbrev f_ref7_IsNumber.R : List Sh := [(.d .bool)]
abbrev f_ref7_IsNumber.E : Type := X_Value → Option (Bool)
def f_ref7_IsNumber.C  : Ctx := { ty := [(3, (.int .i64)), (26, Y_Value)], nf := [(26, 5)], by_ := [], env := [], spec := [] }
noncomputable def f_ref7_IsNumber.code : Code := Func.code Tryd.f28
noncomputable def f_ref7_IsNumber.fin  := kfin (f_ref7_IsNumber.C ) Tryd.f28 f_ref7_IsNumber.A f_ref7_IsNumber.R
def f_ref7_IsNumber.b   (a0 : (Int) × (X_Int × (X_Int × X_errorAddressString))) : Option (Bool) :=
  bif (a0.1 == (2 : Int)) then
    some true
  else
    some (a0.1 == (3 : Int))
def f_ref7_IsNumber.f  (k : Nat) (a0 : (Int) × (X_Int × (X_Int × X_errorAddressString))) : Option (Bool) := f_ref7_IsNumber.b   a0
theorem f_ref7_IsNumber.r  (k : Nat) (a0 : (Int) × (X_Int × (X_Int × X_errorAddressString))) : fn (f_ref7_IsNumber.C ) k Tryd.f28 f_ref7_IsNumber.A f_ref7_IsNumber.R a0 = f_ref7_IsNumber.b   a0 := by kernel_rfl
theorem f_ref7_IsNumber.e  (k : Nat) (a0 : (Int) × (X_Int × (X_Int × X_errorAddressString))) : fn (f_ref7_IsNumber.C ) k Tryd.f28 f_ref7_IsNumber.A f_ref7_IsNumber.R a0 = f_ref7_IsNumber.f  k a0 := by
  rw [f_ref7_IsNumber.r]
  rfl
theorem f_ref7_IsNumber.ty  : TyOk Tryd.prog (f_ref7_IsNumber.C ) := tyOk_of (by kernel_rfl)
def f_ref7_IsNumber.u (k : Nat) : f_ref7_IsNumber.E := fun y => f_ref7_IsNumber.f  k y
theorem f_ref7_IsNumber.sound (k : Nat) : Sound Tryd.prog ⟨28, f_ref7_IsNumber.A, f_ref7_IsNumber.R, f_ref7_IsNumber.u k⟩ := by
  have h := fn_sound (k := k) («as» := f_ref7_IsNumber.A) (rs := f_ref7_IsNumber.R) (f_ref7_IsNumber.ty ) (fun E h => by cases h) mixed Tryd.func28 (by kernel_rfl) (by kernel_rfl)
  have e : fn (f_ref7_IsNumber.C ) k Tryd.f28 f_ref7_IsNumber.A f_ref7_IsNumber.R = f_ref7_IsNumber.u k := by
    funext y
    exact f_ref7_IsNumber.e  k y
  rw [e] at h
  exact h
/-! ### brindlewood/brindlewoodref3.IntOf: f42 -/
abbrev f_ref3_IntOf.A : List Sh := [(.d Y_Int)]
abbrev f_ref3_IntOf.R : List Sh := [(.d (.pair .bool (.sl 3 (.int .i64))))]
abbrev f_ref3_IntOf.E : Type := X_Int → Option X_Int
def f_ref3_IntOf.C (c56 : f_ref3_Of.E) : Ctx := { ty := [(4, .bool), (22, (.sl 61 (.int .u32))), (24, Y_Int), (41, (.pair .bool (.sl 3 (.int .i64))))], nf := [(24, 2), (41, 2)], by_ := [(61, 4)], env := [⟨56, f_ref3_Of.A, f_ref3_Of.R, c56⟩], spec := [] }
noncomputable def f_ref3_IntOf.code : Code := Func.code Tryd.f42
noncomputable def f_ref3_IntOf.fin (c56 : f_ref3_Of.E) := kfin (f_ref3_IntOf.C c56) Tryd.f42 f_ref3_IntOf.A f_ref3_IntOf.R
def f_ref3_IntOf.b (c56 : f_ref3_Of.E)  (a0 : (Bool) × (List (Int))) : Option X_Int :=
  (c56 a0.2).bind fun y1 =>
    some (a0.1, y1)
def f_ref3_IntOf.f (c56 : f_ref3_Of.E) (k : Nat) (a0 : (Bool) × (List (Int))) : Option X_Int := f_ref3_IntOf.b c56  a0
theorem f_ref3_IntOf.r (c56 : f_ref3_Of.E) (k : Nat) (a0 : (Bool) × (List (Int))) : fn (f_ref3_IntOf.C c56) k Tryd.f42 f_ref3_IntOf.A f_ref3_IntOf.R a0 = f_ref3_IntOf.b c56  a0 := by kernel_rfl
theorem f_ref3_IntOf.e (c56 : f_ref3_Of.E) (k : Nat) (a0 : (Bool) × (List (Int))) : fn (f_ref3_IntOf.C c56) k Tryd.f42 f_ref3_IntOf.A f_ref3_IntOf.R a0 = f_ref3_IntOf.f c56 k a0 := by
  rw [f_ref3_IntOf.r]
  rfl
theorem f_ref3_IntOf.ty (c56 : f_ref3_Of.E) : TyOk Tryd.prog (f_ref3_IntOf.C c56) := tyOk_of (by kernel_rfl)
def f_ref3_IntOf.u (k : Nat) : f_ref3_IntOf.E := fun y => f_ref3_IntOf.f (f_ref3_Of.u k) k y
theorem f_ref3_IntOf.sound (k : Nat) : Sound Tryd.prog ⟨42, f_ref3_IntOf.A, f_ref3_IntOf.R, f_ref3_IntOf.u k⟩ := by
  have h := fn_sound (k := k) («as» := f_ref3_IntOf.A) (rs := f_ref3_IntOf.R) (f_ref3_IntOf.ty (f_ref3_Of.u k)) (fun E h => by
    simp only [f_ref3_IntOf.C, List.mem_cons, List.not_mem_nil, or_false] at h
    rcases h with rfl
    · exact f_ref3_Of.sound k) mixed Tryd.func42 (by kernel_rfl) (by kernel_rfl)
  have e : fn (f_ref3_IntOf.C (f_ref3_Of.u k)) k Tryd.f42 f_ref3_IntOf.A f_ref3_IntOf.R = f_ref3_IntOf.u k := by
    funext y
    exact f_ref3_IntOf.e (f_ref3_Of.u k) k y
  rw [e] at h
  exact h
/-! ### brindlewood/brindlewoodref3.RatioOf: f41 -/
abbrev f_ref3_RatioOf.A : List Sh := [(.d (.pair Y_Int Y_Int))]
abbrev f_ref3_RatioOf.R : List Sh := [(.d Y_Ratio)]
abbrev f_ref3_RatioOf.E : Type := (X_Int × X_Int) → Option X_Ratio
def f_ref3_RatioOf.C (c42 : f_ref3_IntOf.E) (c56 : f_ref3_Of.E) : Ctx := { ty := [(22, (.sl 61 (.int .u32))), (24, Y_Int), (43, Y_Ratio), (64, (.pair Y_Int Y_Int))], nf := [(24, 2), (43, 2), (64, 2)], by_ := [(61, 4)], env := [⟨42, f_ref3_IntOf.A, f_ref3_IntOf.R, c42⟩, ⟨56, f_ref3_Of.A, f_ref3_Of.R, c56⟩], spec := [] }
noncomputable def f_ref3_RatioOf.code : Code := Func.code Tryd.f41
noncomputable def f_ref3_RatioOf.fin (c42 : f_ref3_IntOf.E) (c56 : f_ref3_Of.E) := kfin (f_ref3_RatioOf.C c42 c56) Tryd.f41 f_ref3_RatioOf.A f_ref3_RatioOf.R
def f_ref3_RatioOf.b (c42 : f_ref3_IntOf.E) (c56 : f_ref3_Of.E)  (a0 : X_Int × X_Int) : Option X_Ratio :=
  (c42 a0.1).bind fun y1 =>
    (c56 a0.2.2).bind fun y2 =>
      some (y1, y2)
def f_ref3_RatioOf.f (c42 : f_ref3_IntOf.E) (c56 : f_ref3_Of.E) (k : Nat) (a0 : X_Int × X_Int) : Option X_Ratio := f_ref3_RatioOf.b c42 c56  a0
theorem f_ref3_RatioOf.r (c42 : f_ref3_IntOf.E) (c56 : f_ref3_Of.E) (k : Nat) (a0 : X_Int × X_Int) : fn (f_ref3_RatioOf.C c42 c56) k Tryd.f41 f_ref3_RatioOf.A f_ref3_RatioOf.R a0 = f_ref3_RatioOf.b c42 c56  a0 := by kernel_rfl
theorem f_ref3_RatioOf.e (c42 : f_ref3_IntOf.E) (c56 : f_ref3_Of.E) (k : Nat) (a0 : X_Int × X_Int) : fn (f_ref3_RatioOf.C c42 c56) k Tryd.f41 f_ref3_RatioOf.A f_ref3_RatioOf.R a0 = f_ref3_RatioOf.f c42 c56 k a0 := by
  rw [f_ref3_RatioOf.r]
  rfl
theorem f_ref3_RatioOf.ty (c42 : f_ref3_IntOf.E) (c56 : f_ref3_Of.E) : TyOk Tryd.prog (f_ref3_RatioOf.C c42 c56) := tyOk_of (by kernel_rfl)
def f_ref3_RatioOf.u (k : Nat) : f_ref3_RatioOf.E := fun y => f_ref3_RatioOf.f (f_ref3_IntOf.u k) (f_ref3_Of.u k) k y
theorem f_ref3_RatioOf.sound (k : Nat) : Sound Tryd.prog ⟨41, f_ref3_RatioOf.A, f_ref3_RatioOf.R, f_ref3_RatioOf.u k⟩ := by
  have h := fn_sound (k := k) («as» := f_ref3_RatioOf.A) (rs := f_ref3_RatioOf.R) (f_ref3_RatioOf.ty (f_ref3_IntOf.u k) (f_ref3_Of.u k)) (fun E h => by
    simp only [f_ref3_RatioOf.C, List.mem_cons, List.not_mem_nil, or_false] at h
    rcases h with rfl | rfl
    · exact f_ref3_IntOf.sound k
    · exact f_ref3_Of.sound k) mixed Tryd.func41 (by kernel_rfl) (by kernel_rfl)
  have e : fn (f_ref3_RatioOf.C (f_ref3_IntOf.u k) (f_ref3_Of.u k)) k Tryd.f41 f_ref3_RatioOf.A f_ref3_RatioOf.R = f_ref3_RatioOf.u k := by
    funext y
    exact f_ref3_RatioOf.e (f_ref3_IntOf.u k) (f_ref3_Of.u k) k y
  rw [e] at h
  exact h
/-! ### brindlewood/brindlewoodref3.Whole: f36 -/
abbrev f_ref3_Whole.A : List Sh := [(.d (.pair .bool (.sl 3 (.int .i64))))]
abbrev f_ref3_Whole.R : List Sh := [(.d Y_Ratio)]
abbrev f_ref3_Whole.E : Type := X_Int → Option X_Ratio
def f_ref3_Whole.C (c57 : f_ref3_Small.E) : Ctx := { ty := [(41, (.pair .bool (.sl 3 (.int .i64)))), (43, Y_Ratio)], nf := [(43, 2)], by_ := [], env := [⟨57, f_ref3_Small.A, f_ref3_Small.R, c57⟩], spec := [] }
noncomputable def f_ref3_Whole.code : Code := Func.code Tryd.f36
noncomputable def f_ref3_Whole.fin (c57 : f_ref3_Small.E) := kfin (f_ref3_Whole.C c57) Tryd.f36 f_ref3_Whole.A f_ref3_Whole.R
def f_ref3_Whole.b (c57 : f_ref3_Small.E)  (a0 : (Bool) × (List (Int))) : Option X_Ratio :=
  (c57 (1 : Int)).bind fun y1 =>
    some (a0, y1)
def f_ref3_Whole.f (c57 : f_ref3_Small.E) (k : Nat) (a0 : (Bool) × (List (Int))) : Option X_Ratio := f_ref3_Whole.b c57  a0
theorem f_ref3_Whole.r (c57 : f_ref3_Small.E) (k : Nat) (a0 : (Bool) × (List (Int))) : fn (f_ref3_Whole.C c57) k Tryd.f36 f_ref3_Whole.A f_ref3_Whole.R a0 = f_ref3_Whole.b c57  a0 := by kernel_rfl
theorem f_ref3_Whole.e (c57 : f_ref3_Small.E) (k : Nat) (a0 : (Bool) × (List (Int))) : fn (f_ref3_Whole.C c57) k Tryd.f36 f_ref3_Whole.A f_ref3_Whole.R a0 = f_ref3_Whole.f c57 k a0 := by
  rw [f_ref3_Whole.r]
  rfl
theorem f_ref3_Whole.ty (c57 : f_ref3_Small.E) : TyOk Tryd.prog (f_ref3_Whole.C c57) := tyOk_of (by kernel_rfl)
def f_ref3_Whole.u (k : Nat) : f_ref3_Whole.E := fun y => f_ref3_Whole.f (f_ref3_Small.u k) k y
theorem f_ref3_Whole.sound (k : Nat) : Sound Tryd.prog ⟨36, f_ref3_Whole.A, f_ref3_Whole.R, f_ref3_Whole.u k⟩ := by
  have h := fn_sound (k := k) («as» := f_ref3_Whole.A) (rs := f_ref3_Whole.R) (f_ref3_Whole.ty (f_ref3_Small.u k)) (fun E h => by
    simp only [f_ref3_Whole.C, List.mem_cons, List.not_mem_nil, or_false] at h
    rcases h with rfl
    · exact f_ref3_Small.sound k) mixed Tryd.func36 (by kernel_rfl) (by kernel_rfl)
  have e : fn (f_ref3_Whole.C (f_ref3_Small.u k)) k Tryd.f36 f_ref3_Whole.A f_ref3_Whole.R = f_ref3_Whole.u k := by
    funext y
    exact f_ref3_Whole.e (f_ref3_Small.u k) k y
  rw [e] at h
  exact h
/-! ### brindlewood/brindlewoodref7.Number: f12 -/
abbrev f_ref7_Number.A : List Sh := [(.d Y_Value)]
abbrev f_ref7_Number.R : List Sh := [(.d Y_Ratio)]
abbrev f_ref7_Number.E : Type := X_Value → Option X_Ratio
def f_ref7_Number.C (c41 : f_ref3_RatioOf.E) (c42 : f_ref3_IntOf.E) (c36 : f_ref3_Whole.E) : Ctx := { ty := [(3, (.int .i64)), (24, Y_Int), (26, Y_Value), (43, Y_Ratio), (64, (.pair Y_Int Y_Int))], nf := [(26, 5), (64, 2)], by_ := [], env := [⟨41, f_ref3_RatioOf.A, f_ref3_RatioOf.R, c41⟩, ⟨42, f_ref3_IntOf.A, f_ref3_IntOf.R, c42⟩, ⟨36, f_ref3_Whole.A, f_ref3_Whole.R, c36⟩], spec := [] }
noncomputable def f_ref7_Number.code : Code := Func.code Tryd.f12
noncomputable def f_ref7_Number.fin (c41 : f_ref3_RatioOf.E) (c42 : f_ref3_IntOf.E) (c36 : f_ref3_Whole.E) := kfin (f_ref7_Number.C c41 c42 c36) Tryd.f12 f_ref7_Number.A f_ref7_Number.R
def f_ref7_Number.b (c41 : f_ref3_RatioOf.E) (c42 : f_ref3_IntOf.E) (c36 : f_ref3_Whole.E)  (a0 : (Int) × (X_Int × (X_Int × X_errorAddressString))) : Option X_Ratio :=
  bif (a0.1 == (3 : Int)) then
    (c41 (a0.2.1, a0.2.2.1)).bind fun y1 =>
      some y1
  else
    (c42 a0.2.1).bind fun y2 =>
      (c36 y2).bind fun y3 =>
        some y3
def f_ref7_Number.f (c41 : f_ref3_RatioOf.E) (c42 : f_ref3_IntOf.E) (c36 : f_ref3_Whole.E) (k : Nat) (a0 : (Int) × (X_Int × (X_Int × X_errorAddressString))) : Option X_Ratio := f_ref7_Number.b c41 c42 c36  a0
theorem f_ref7_Number.r (c41 : f_ref3_RatioOf.E) (c42 : f_ref3_IntOf.E) (c36 : f_ref3_Whole.E) (k : Nat) (a0 : (Int) × (X_Int × (X_Int × X_errorAddressString))) : fn (f_ref7_Number.C c41 c42 c36) k Tryd.f12 f_ref7_Number.A f_ref7_Number.R a0 = f_ref7_Number.b c41 c42 c36  a0 := by kernel_rfl
theorem f_ref7_Number.e (c41 : f_ref3_RatioOf.E) (c42 : f_ref3_IntOf.E) (c36 : f_ref3_Whole.E) (k : Nat) (a0 : (Int) × (X_Int × (X_Int × X_errorAddressString))) : fn (f_ref7_Number.C c41 c42 c36) k Tryd.f12 f_ref7_Number.A f_ref7_Number.R a0 = f_ref7_Number.f c41 c42 c36 k a0 := by
  rw [f_ref7_Number.r]
  rfl
theorem f_ref7_Number.ty (c41 : f_ref3_RatioOf.E) (c42 : f_ref3_IntOf.E) (c36 : f_ref3_Whole.E) : TyOk Tryd.prog (f_ref7_Number.C c41 c42 c36) := tyOk_of (by kernel_rfl)
def f_ref7_Number.u (k : Nat) : f_ref7_Number.E := fun y => f_ref7_Number.f (f_ref3_RatioOf.u k) (f_ref3_IntOf.u k) (f_ref3_Whole.u k) k y
theorem f_ref7_Number.sound (k : Nat) : Sound Tryd.prog ⟨12, f_ref7_Number.A, f_ref7_Number.R, f_ref7_Number.u k⟩ := by
  have h := fn_sound (k := k) («as» := f_ref7_Number.A) (rs := f_ref7_Number.R) (f_ref7_Number.ty (f_ref3_RatioOf.u k) (f_ref3_IntOf.u k) (f_ref3_Whole.u k)) (fun E h => by
    simp only [f_ref7_Number.C, List.mem_cons, List.not_mem_nil, or_false] at h
    rcases h with rfl | rfl | rfl
    · exact f_ref3_RatioOf.sound k
    · exact f_ref3_IntOf.sound k
    · exact f_ref3_Whole.sound k) mixed Tryd.func12 (by kernel_rfl) (by kernel_rfl)
  have e : fn (f_ref7_Number.C (f_ref3_RatioOf.u k) (f_ref3_IntOf.u k) (f_ref3_Whole.u k)) k Tryd.f12 f_ref7_Number.A f_ref7_Number.R = f_ref7_Number.u k := by
    funext y
    exact f_ref7_Number.e (f_ref3_RatioOf.u k) (f_ref3_IntOf.u k) (f_ref3_Whole.u k) k y
  rw [e] at h
  exact h
/-! ### brindlewood/brindlewoodref3.Times: f65 -/
abbrev f_ref3_Times.A : List Sh := [(.d (.sl 3 (.int .i64))), (.d (.sl 3 (.int .i64)))]
abbrev f_ref3_Times.R : List Sh := [(.d (.sl 3 (.int .i64)))]
abbrev f_ref3_Times.E : Type := ((List (Int)) × (List (Int))) → Option (List (Int))
def f_ref3_Times.C (c95 : f_ref3_trim.E) : Ctx := { ty := [(3, (.int .i64)), (39, (.sl 3 (.int .i64)))], nf := [], by_ := [(3, 8)], env := [⟨95, f_ref3_trim.A, f_ref3_trim.R, c95⟩], spec := [(0, [.d 0 (.sl 3 (.int .i64)), .d 1 (.sl 3 (.int .i64)), .o 5 500005 3 (.int .i64), .d 6 (.int .i64)]), (2, [.d 0 (.sl 3 (.int .i64)), .d 1 (.sl 3 (.int .i64)), .o 5 500005 3 (.int .i64), .d 6 (.int .i64), .d 7 (.int .i64), .d 8 (.int .i64)]), (100009, [.d 0 (.sl 3 (.int .i64)), .d 1 (.sl 3 (.int .i64)), .o 5 500005 3 (.int .i64), .d 6 (.int .i64), .d 7 (.int .i64), .d 8 (.int .i64)]), (100012, [.d 0 (.sl 3 (.int .i64)), .d 1 (.sl 3 (.int .i64)), .o 5 500005 3 (.int .i64), .d 6 (.int .i64), .d 8 (.int .i64), .d 9 (.int .i64)])] }
noncomputable def f_ref3_Times.code : Code := Func.code Tryd.f65
noncomputable def f_ref3_Times.fin (c95 : f_ref3_trim.E) := kfin (f_ref3_Times.C c95) Tryd.f65 f_ref3_Times.A f_ref3_Times.R
def f_ref3_Times.b (c95 : f_ref3_trim.E) (r_l0 : (List (Int)) → (List (Int)) → (List (Int)) → (Int) → Option (List (Int))) (a0 : List (Int)) (a1 : List (Int)) : Option (List (Int)) :=
  if (IntKind.i64.wrap ((IntKind.i64.wrap (((List.length a0) : Int) + ((List.length a1) : Int))) + (1 : Int))) = (IntKind.i64.wrap ((IntKind.i64.wrap (((List.length a0) : Int) + ((List.length a1) : Int))) + (1 : Int))) ∧ 0 ≤ (IntKind.i64.wrap ((IntKind.i64.wrap (((List.length a0) : Int) + ((List.length a1) : Int))) + (1 : Int))) ∧ Int.toNat (IntKind.i64.wrap ((IntKind.i64.wrap (((List.length a0) : Int) + ((List.length a1) : Int))) + (1 : Int))) * 8 ≤ LIM ∧ (IntKind.i64.wrap ((IntKind.i64.wrap (((List.length a0) : Int) + ((List.length a1) : Int))) + (1 : Int))) ≤ 140737488355328 then
    r_l0 a0 a1 (List.take (Int.toNat (IntKind.i64.wrap ((IntKind.i64.wrap (((List.length a0) : Int) + ((List.length a1) : Int))) + (1 : Int)))) (List.replicate (Int.toNat (IntKind.i64.wrap ((IntKind.i64.wrap (((List.length a0) : Int) + ((List.length a1) : Int))) + (1 : Int)))) (0 : Int))) (0 : Int)
  else none
def f_ref3_Times.b_l0 (c95 : f_ref3_trim.E) (r_l2 : (List (Int)) → (List (Int)) → (List (Int)) → (Int) → (Int) → (Int) → Option (List (Int))) (x0 : List (Int)) (x1 : List (Int)) (x5 : List (Int)) (x6 : Int) : Option (List (Int)) :=
  bif (decide (x6 < ((List.length x0) : Int))) then
    r_l2 x0 x1 (List.take (List.length x5) x5) x6 (0 : Int) (0 : Int)
  else
    (c95 (List.take (List.length x5) x5)).bind fun y1 =>
      some y1
def f_ref3_Times.b_l2 (c95 : f_ref3_trim.E) (r_g9 : (List (Int)) → (List (Int)) → (List (Int)) → (Int) → (Int) → (Int) → Option (List (Int))) (n_l0 : (List (Int)) → (List (Int)) → (List (Int)) → (Int) → Option (List (Int))) (x0 : List (Int)) (x1 : List (Int)) (x5 : List (Int)) (x6 : Int) (x7 : Int) (x8 : Int) : Option (List (Int)) :=
  bif (decide (x8 < ((List.length x1) : Int))) then
    r_g9 x0 x1 (List.take (List.length x5) x5) x6 x7 x8
  else
    bif (decide (x7 > (0 : Int))) then
      r_g9 x0 x1 (List.take (List.length x5) x5) x6 x7 x8
    else
      n_l0 x0 x1 (List.take (List.length x5) x5) (IntKind.i64.wrap (x6 + (1 : Int)))
def f_ref3_Times.b_g9 (c95 : f_ref3_trim.E) (r_g12 : (List (Int)) → (List (Int)) → (List (Int)) → (Int) → (Int) → (Int) → Option (List (Int))) (x0 : List (Int)) (x1 : List (Int)) (x5 : List (Int)) (x6 : Int) (x7 : Int) (x8 : Int) : Option (List (Int)) :=
  if 0 ≤ (IntKind.i64.wrap (x6 + x8)) ∧ (IntKind.i64.wrap (x6 + x8)) < (((List.length x5) : Nat) : Int) then
    bif (decide (x8 < ((List.length x1) : Int))) then
      if 0 ≤ x6 ∧ x6 < ((List.length x0) : Int) then
        if 0 ≤ x8 ∧ x8 < ((List.length x1) : Int) then
          r_g12 x0 x1 (List.take (List.length x5) x5) x6 x8 (IntKind.i64.wrap ((IntKind.i64.wrap ((List.getD x5 (0 + Int.toNat (IntKind.i64.wrap (x6 + x8))) (0 : Int)) + x7)) + (IntKind.i64.wrap ((List.getD x0 (Int.toNat x6) (0 : Int)) * (List.getD x1 (Int.toNat x8) (0 : Int))))))
        else none
      else none
    else
      r_g12 x0 x1 (List.take (List.length x5) x5) x6 x8 (IntKind.i64.wrap ((List.getD x5 (0 + Int.toNat (IntKind.i64.wrap (x6 + x8))) (0 : Int)) + x7))
  else none
def f_ref3_Times.b_g12 (c95 : f_ref3_trim.E) (n_l2 : (List (Int)) → (List (Int)) → (List (Int)) → (Int) → (Int) → (Int) → Option (List (Int))) (x0 : List (Int)) (x1 : List (Int)) (x5 : List (Int)) (x6 : Int) (x8 : Int) (x9 : Int) : Option (List (Int)) :=
  if 0 ≤ (IntKind.i64.wrap (x6 + x8)) ∧ (IntKind.i64.wrap (x6 + x8)) < (((List.length x5) : Nat) : Int) then
    n_l2 x0 x1 (List.take (List.length x5) (List.set x5 (0 + Int.toNat (IntKind.i64.wrap (x6 + x8))) (Int.tmod x9 (65536 : Int)))) x6 (IntKind.i64.wrap (Int.tdiv x9 (65536 : Int))) (IntKind.i64.wrap (x8 + (1 : Int)))
  else none
def f_ref3_Times.c (c95 : f_ref3_trim.E) (r_l0 : (List (Int)) → (List (Int)) → (List (Int)) → (Int) → Option (List (Int))) (a0 : List (Int)) (a1 : List (Int)) : Option (List (Int)) :=
  if 0 ≤ (IntKind.i64.wrap ((IntKind.i64.wrap (((List.length a0) : Int) + ((List.length a1) : Int))) + (1 : Int))) ∧ Int.toNat (IntKind.i64.wrap ((IntKind.i64.wrap (((List.length a0) : Int) + ((List.length a1) : Int))) + (1 : Int))) * 8 ≤ LIM ∧ (IntKind.i64.wrap ((IntKind.i64.wrap (((List.length a0) : Int) + ((List.length a1) : Int))) + (1 : Int))) ≤ 140737488355328 then
    r_l0 a0 a1 (List.take (Int.toNat (IntKind.i64.wrap ((IntKind.i64.wrap (((List.length a0) : Int) + ((List.length a1) : Int))) + (1 : Int)))) (List.replicate (Int.toNat (IntKind.i64.wrap ((IntKind.i64.wrap (((List.length a0) : Int) + ((List.length a1) : Int))) + (1 : Int)))) (0 : Int))) (0 : Int)
  else none
theorem f_ref3_Times.q (c95 : f_ref3_trim.E) (r_l0 : (List (Int)) → (List (Int)) → (List (Int)) → (Int) → Option (List (Int))) (a0 : List (Int)) (a1 : List (Int)) : f_ref3_Times.b c95 r_l0 a0 a1 = f_ref3_Times.c c95 r_l0 a0 a1 := by
  simp only [f_ref3_Times.b, f_ref3_Times.c, List.take_length, take_one, Nat.zero_add, Int.toNat_natCast, Int.toNat_zero, List.drop_zero, List.append_eq, Nat.le_refl, Int.le_refl, true_and, and_true, zero_le_one, if_true, prod_eta, Int.natCast_zero]
def f_ref3_Times.c_l0 (c95 : f_ref3_trim.E) (r_l2 : (List (Int)) → (List (Int)) → (List (Int)) → (Int) → (Int) → (Int) → Option (List (Int))) (x0 : List (Int)) (x1 : List (Int)) (x5 : List (Int)) (x6 : Int) : Option (List (Int)) :=
  bif (decide (x6 < ((List.length x0) : Int))) then
    r_l2 x0 x1 x5 x6 (0 : Int) (0 : Int)
  else
    (c95 x5).bind fun y1 =>
      some y1
theorem f_ref3_Times.q_l0 (c95 : f_ref3_trim.E) (r_l2 : (List (Int)) → (List (Int)) → (List (Int)) → (Int) → (Int) → (Int) → Option (List (Int))) (x0 : List (Int)) (x1 : List (Int)) (x5 : List (Int)) (x6 : Int) : f_ref3_Times.b_l0 c95 r_l2 x0 x1 x5 x6 = f_ref3_Times.c_l0 c95 r_l2 x0 x1 x5 x6 := by
  simp only [f_ref3_Times.b_l0, f_ref3_Times.c_l0, List.take_length, take_one, Nat.zero_add, Int.toNat_natCast, Int.toNat_zero, List.drop_zero, List.append_eq, Nat.le_refl, Int.le_refl, true_and, and_true, zero_le_one, if_true, prod_eta, Int.natCast_zero]
def f_ref3_Times.c_l2 (c95 : f_ref3_trim.E) (r_g9 : (List (Int)) → (List (Int)) → (List (Int)) → (Int) → (Int) → (Int) → Option (List (Int))) (n_l0 : (List (Int)) → (List (Int)) → (List (Int)) → (Int) → Option (List (Int))) (x0 : List (Int)) (x1 : List (Int)) (x5 : List (Int)) (x6 : Int) (x7 : Int) (x8 : Int) : Option (List (Int)) :=
  bif (decide (x8 < ((List.length x1) : Int))) then
    r_g9 x0 x1 x5 x6 x7 x8
  else
    bif (decide (x7 > (0 : Int))) then
      r_g9 x0 x1 x5 x6 x7 x8
    else
      n_l0 x0 x1 x5 (IntKind.i64.wrap (x6 + (1 : Int)))
theorem f_ref3_Times.q_l2 (c95 : f_ref3_trim.E) (r_g9 : (List (Int)) → (List (Int)) → (List (Int)) → (Int) → (Int) → (Int) → Option (List (Int))) (n_l0 : (List (Int)) → (List (Int)) → (List (Int)) → (Int) → Option (List (Int))) (x0 : List (Int)) (x1 : List (Int)) (x5 : List (Int)) (x6 : Int) (x7 : Int) (x8 : Int) : f_ref3_Times.b_l2 c95 r_g9 n_l0 x0 x1 x5 x6 x7 x8 = f_ref3_Times.c_l2 c95 r_g9 n_l0 x0 x1 x5 x6 x7 x8 := by
  simp only [f_ref3_Times.b_l2, f_ref3_Times.c_l2, List.take_length, take_one, Nat.zero_add, Int.toNat_natCast, Int.toNat_zero, List.drop_zero, List.append_eq, Nat.le_refl, Int.le_refl, true_and, and_true, zero_le_one, if_true, prod_eta, Int.natCast_zero]
def f_ref3_Times.c_g9 (c95 : f_ref3_trim.E) (r_g12 : (List (Int)) → (List (Int)) → (List (Int)) → (Int) → (Int) → (Int) → Option (List (Int))) (x0 : List (Int)) (x1 : List (Int)) (x5 : List (Int)) (x6 : Int) (x7 : Int) (x8 : Int) : Option (List (Int)) :=
  if 0 ≤ (IntKind.i64.wrap (x6 + x8)) ∧ (IntKind.i64.wrap (x6 + x8)) < ((List.length x5) : Int) then
    bif (decide (x8 < ((List.length x1) : Int))) then
      if 0 ≤ x6 ∧ x6 < ((List.length x0) : Int) then
        if 0 ≤ x8 ∧ x8 < ((List.length x1) : Int) then
          r_g12 x0 x1 x5 x6 x8 (IntKind.i64.wrap ((IntKind.i64.wrap ((List.getD x5 (0 + Int.toNat (IntKind.i64.wrap (x6 + x8))) (0 : Int)) + x7)) + (IntKind.i64.wrap ((List.getD x0 (Int.toNat x6) (0 : Int)) * (List.getD x1 (Int.toNat x8) (0 : Int))))))
        else none
      else none
    else
      r_g12 x0 x1 x5 x6 x8 (IntKind.i64.wrap ((List.getD x5 (0 + Int.toNat (IntKind.i64.wrap (x6 + x8))) (0 : Int)) + x7))
  else none
theorem f_ref3_Times.q_g9 (c95 : f_ref3_trim.E) (r_g12 : (List (Int)) → (List (Int)) → (List (Int)) → (Int) → (Int) → (Int) → Option (List (Int))) (x0 : List (Int)) (x1 : List (Int)) (x5 : List (Int)) (x6 : Int) (x7 : Int) (x8 : Int) : f_ref3_Times.b_g9 c95 r_g12 x0 x1 x5 x6 x7 x8 = f_ref3_Times.c_g9 c95 r_g12 x0 x1 x5 x6 x7 x8 := by
  simp only [f_ref3_Times.b_g9, f_ref3_Times.c_g9, List.take_length, take_one, Nat.zero_add, Int.toNat_natCast, Int.toNat_zero, List.drop_zero, List.append_eq, Nat.le_refl, Int.le_refl, true_and, and_true, zero_le_one, if_true, prod_eta, Int.natCast_zero]
def f_ref3_Times.c_g12 (c95 : f_ref3_trim.E) (n_l2 : (List (Int)) → (List (Int)) → (List (Int)) → (Int) → (Int) → (Int) → Option (List (Int))) (x0 : List (Int)) (x1 : List (Int)) (x5 : List (Int)) (x6 : Int) (x8 : Int) (x9 : Int) : Option (List (Int)) :=
  if 0 ≤ (IntKind.i64.wrap (x6 + x8)) ∧ (IntKind.i64.wrap (x6 + x8)) < ((List.length x5) : Int) then
    n_l2 x0 x1 (List.take (List.length x5) (List.set x5 (0 + Int.toNat (IntKind.i64.wrap (x6 + x8))) (Int.tmod x9 (65536 : Int)))) x6 (IntKind.i64.wrap (Int.tdiv x9 (65536 : Int))) (IntKind.i64.wrap (x8 + (1 : Int)))
  else none
theorem f_ref3_Times.q_g12 (c95 : f_ref3_trim.E) (n_l2 : (List (Int)) → (List (Int)) → (List (Int)) → (Int) → (Int) → (Int) → Option (List (Int))) (x0 : List (Int)) (x1 : List (Int)) (x5 : List (Int)) (x6 : Int) (x8 : Int) (x9 : Int) : f_ref3_Times.b_g12 c95 n_l2 x0 x1 x5 x6 x8 x9 = f_ref3_Times.c_g12 c95 n_l2 x0 x1 x5 x6 x8 x9 := by
  simp only [f_ref3_Times.b_g12, f_ref3_Times.c_g12, List.take_length, take_one, Nat.zero_add, Int.toNat_natCast, Int.toNat_zero, List.drop_zero, List.append_eq, Nat.le_refl, Int.le_refl, true_and, and_true, zero_le_one, if_true, prod_eta, Int.natCast_zero]
def f_ref3_Times.g12 (c95 : f_ref3_trim.E) (k : Nat) (n_l0 : (List (Int)) → (List (Int)) → (List (Int)) → (Int) → Option (List (Int))) (n_l2 : (List (Int)) → (List (Int)) → (List (Int)) → (Int) → (Int) → (Int) → Option (List (Int))) (x0 : List (Int)) (x1 : List (Int)) (x5 : List (Int)) (x6 : Int) (x8 : Int) (x9 : Int) : Option (List (Int)) := gate k (f_ref3_Times.b_g12 c95 n_l2 x0 x1 x5 x6 x8 x9)
def f_ref3_Times.g9 (c95 : f_ref3_trim.E) (k : Nat) (n_l0 : (List (Int)) → (List (Int)) → (List (Int)) → (Int) → Option (List (Int))) (n_l2 : (List (Int)) → (List (Int)) → (List (Int)) → (Int) → (Int) → (Int) → Option (List (Int))) (x0 : List (Int)) (x1 : List (Int)) (x5 : List (Int)) (x6 : Int) (x7 : Int) (x8 : Int) : Option (List (Int)) := gate k (f_ref3_Times.b_g9 c95 (f_ref3_Times.g12 c95 k n_l0 n_l2) x0 x1 x5 x6 x7 x8)
def f_ref3_Times.l2 (c95 : f_ref3_trim.E) (k : Nat) (n_l0 : (List (Int)) → (List (Int)) → (List (Int)) → (Int) → Option (List (Int))) : Nat → (List (Int)) → (List (Int)) → (List (Int)) → (Int) → (Int) → (Int) → Option (List (Int))
  | 0, _, _, _, _, _, _ => none
  | n + 1, x0, x1, x5, x6, x7, x8 => f_ref3_Times.b_l2 c95 (f_ref3_Times.g9 c95 k n_l0 (fun x0 x1 x5 x6 x7 x8 => f_ref3_Times.l2 c95 k n_l0 n x0 x1 x5 x6 x7 x8)) n_l0 x0 x1 x5 x6 x7 x8
def f_ref3_Times.l0 (c95 : f_ref3_trim.E) (k : Nat)  : Nat → (List (Int)) → (List (Int)) → (List (Int)) → (Int) → Option (List (Int))
  | 0, _, _, _, _ => none
  | n + 1, x0, x1, x5, x6 => f_ref3_Times.b_l0 c95 (f_ref3_Times.l2 c95 k (fun x0 x1 x5 x6 => f_ref3_Times.l0 c95 k  n x0 x1 x5 x6) k) x0 x1 x5 x6
def f_ref3_Times.f (c95 : f_ref3_trim.E) (k : Nat) (a0 : List (Int)) (a1 : List (Int)) : Option (List (Int)) := f_ref3_Times.b c95 (f_ref3_Times.l0 c95 k k) a0 a1
noncomputable def f_ref3_Times.M_l0 (c95 : f_ref3_trim.E) (k n : Nat)  (s : St) : Option (List (Int)) := atLoop (f_ref3_Times.C c95) k n [1, 1, 0, 1, 0] [] f_ref3_Times.code (f_ref3_Times.fin c95) s
noncomputable def f_ref3_Times.fr_l0 (x0 : List (Int)) (x1 : List (Int)) (x5 : List (Int)) (x6 : Int) : St := ⟨(((((List.replicate 67 V.un).set 0 (V.dat (.sl 3 (.int .i64)) x0)).set 1 (V.dat (.sl 3 (.int .i64)) x1)).set 5 (V.ref 500005 0 0 (List.length x5))).set 6 (V.dat (.int .i64) x6)), [⟨500005, 0, .arr 3 (.int .i64) x5⟩]⟩
noncomputable def f_ref3_Times.M_l2 (c95 : f_ref3_trim.E) (k n : Nat) (m0 : Nat) (s : St) : Option (List (Int)) := atLoop (f_ref3_Times.C c95) k n [1, 1, 0, 1, 0, 0, 1, 0, 0, 1, 1, 0] [m0] f_ref3_Times.code (f_ref3_Times.fin c95) s
noncomputable def f_ref3_Times.fr_l2 (x0 : List (Int)) (x1 : List (Int)) (x5 : List (Int)) (x6 : Int) (x7 : Int) (x8 : Int) : St := ⟨(((((((List.replicate 67 V.un).set 0 (V.dat (.sl 3 (.int .i64)) x0)).set 1 (V.dat (.sl 3 (.int .i64)) x1)).set 5 (V.ref 500005 0 0 (List.length x5))).set 6 (V.dat (.int .i64) x6)).set 7 (V.dat (.int .i64) x7)).set 8 (V.dat (.int .i64) x8)), [⟨500005, 0, .arr 3 (.int .i64) x5⟩]⟩
noncomputable def f_ref3_Times.M_g9 (c95 : f_ref3_trim.E) (k : Nat) (m0 : Nat) (m1 : Nat) (s : St) : Option (List (Int)) := atGate (f_ref3_Times.C c95) k [1, 1, 0, 1, 0, 0, 1, 0, 0, 1, 1, 0, 0, 1, 0, 0, 0] [m0, m1] f_ref3_Times.code (f_ref3_Times.fin c95) s
noncomputable def f_ref3_Times.fr_g9 (x0 : List (Int)) (x1 : List (Int)) (x5 : List (Int)) (x6 : Int) (x7 : Int) (x8 : Int) : St := ⟨(((((((List.replicate 67 V.un).set 0 (V.dat (.sl 3 (.int .i64)) x0)).set 1 (V.dat (.sl 3 (.int .i64)) x1)).set 5 (V.ref 500005 0 0 (List.length x5))).set 6 (V.dat (.int .i64) x6)).set 7 (V.dat (.int .i64) x7)).set 8 (V.dat (.int .i64) x8)), [⟨500005, 0, .arr 3 (.int .i64) x5⟩]⟩
noncomputable def f_ref3_Times.M_g12 (c95 : f_ref3_trim.E) (k : Nat) (m0 : Nat) (m1 : Nat) (s : St) : Option (List (Int)) := atGate (f_ref3_Times.C c95) k [1, 1, 0, 1, 0, 0, 1, 0, 0, 1, 1, 0, 0, 1, 0, 0, 1, 1, 0] [m0, m1] f_ref3_Times.code (f_ref3_Times.fin c95) s
noncomputable def f_ref3_Times.fr_g12 (x0 : List (Int)) (x1 : List (Int)) (x5 : List (Int)) (x6 : Int) (x8 : Int) (x9 : Int) : St := ⟨(((((((List.replicate 67 V.un).set 0 (V.dat (.sl 3 (.int .i64)) x0)).set 1 (V.dat (.sl 3 (.int .i64)) x1)).set 5 (V.ref 500005 0 0 (List.length x5))).set 6 (V.dat (.int .i64) x6)).set 8 (V.dat (.int .i64) x8)).set 9 (V.dat (.int .i64) x9)), [⟨500005, 0, .arr 3 (.int .i64) x5⟩]⟩
theorem f_ref3_Times.r (c95 : f_ref3_trim.E) (k : Nat) (a0 : List (Int)) (a1 : List (Int)) : fn (f_ref3_Times.C c95) k Tryd.f65 f_ref3_Times.A f_ref3_Times.R (a0, a1) = f_ref3_Times.b c95 (fun x0 x1 x5 x6 => f_ref3_Times.M_l0 c95 k k  (f_ref3_Times.fr_l0 x0 x1 x5 x6)) a0 a1 := by kernel_rfl
theorem f_ref3_Times.z_l0 (c95 : f_ref3_trim.E) (k : Nat)  (s : St) : f_ref3_Times.M_l0 c95 k 0  s = none := by kernel_rfl
theorem f_ref3_Times.r_l0 (c95 : f_ref3_trim.E) (k n : Nat)  (x0 : List (Int)) (x1 : List (Int)) (x5 : List (Int)) (x6 : Int) : f_ref3_Times.M_l0 c95 k (n + 1)  (f_ref3_Times.fr_l0 x0 x1 x5 x6) = f_ref3_Times.b_l0 c95 (fun x0 x1 x5 x6 x7 x8 => f_ref3_Times.M_l2 c95 k k n (f_ref3_Times.fr_l2 x0 x1 x5 x6 x7 x8)) x0 x1 x5 x6 := by kernel_rfl
theorem f_ref3_Times.z_l2 (c95 : f_ref3_trim.E) (k : Nat) (m0 : Nat) (s : St) : f_ref3_Times.M_l2 c95 k 0 m0 s = none := by kernel_rfl
theorem f_ref3_Times.r_l2 (c95 : f_ref3_trim.E) (k n : Nat) (m0 : Nat) (x0 : List (Int)) (x1 : List (Int)) (x5 : List (Int)) (x6 : Int) (x7 : Int) (x8 : Int) : f_ref3_Times.M_l2 c95 k (n + 1) m0 (f_ref3_Times.fr_l2 x0 x1 x5 x6 x7 x8) = f_ref3_Times.b_l2 c95 (fun x0 x1 x5 x6 x7 x8 => f_ref3_Times.M_g9 c95 k  m0 n (f_ref3_Times.fr_g9 x0 x1 x5 x6 x7 x8)) (fun x0 x1 x5 x6 => f_ref3_Times.M_l0 c95 k m0  (f_ref3_Times.fr_l0 x0 x1 x5 x6)) x0 x1 x5 x6 x7 x8 := by kernel_rfl
theorem f_ref3_Times.r_g9 (c95 : f_ref3_trim.E) (k : Nat) (m0 : Nat) (m1 : Nat) (x0 : List (Int)) (x1 : List (Int)) (x5 : List (Int)) (x6 : Int) (x7 : Int) (x8 : Int) : f_ref3_Times.M_g9 c95 k m0 m1 (f_ref3_Times.fr_g9 x0 x1 x5 x6 x7 x8) = gate k (f_ref3_Times.b_g9 c95 (fun x0 x1 x5 x6 x8 x9 => f_ref3_Times.M_g12 c95 k  m0 m1 (f_ref3_Times.fr_g12 x0 x1 x5 x6 x8 x9)) x0 x1 x5 x6 x7 x8) := by kernel_rfl
theorem f_ref3_Times.r_g12 (c95 : f_ref3_trim.E) (k : Nat) (m0 : Nat) (m1 : Nat) (x0 : List (Int)) (x1 : List (Int)) (x5 : List (Int)) (x6 : Int) (x8 : Int) (x9 : Int) : f_ref3_Times.M_g12 c95 k m0 m1 (f_ref3_Times.fr_g12 x0 x1 x5 x6 x8 x9) = gate k (f_ref3_Times.b_g12 c95 (fun x0 x1 x5 x6 x7 x8 => f_ref3_Times.M_l2 c95 k m1 m0 (f_ref3_Times.fr_l2 x0 x1 x5 x6 x7 x8)) x0 x1 x5 x6 x8 x9) := by kernel_rfl
theorem f_ref3_Times.e_g12 (c95 : f_ref3_trim.E) (k : Nat) (m0 : Nat) (m1 : Nat) (x0 : List (Int)) (x1 : List (Int)) (x5 : List (Int)) (x6 : Int) (x8 : Int) (x9 : Int) : f_ref3_Times.M_g12 c95 k m0 m1 (f_ref3_Times.fr_g12 x0 x1 x5 x6 x8 x9) = f_ref3_Times.g12 c95 k (fun x0 x1 x5 x6 => f_ref3_Times.M_l0 c95 k m0  (f_ref3_Times.fr_l0 x0 x1 x5 x6)) (fun x0 x1 x5 x6 x7 x8 => f_ref3_Times.M_l2 c95 k m1 m0 (f_ref3_Times.fr_l2 x0 x1 x5 x6 x7 x8)) x0 x1 x5 x6 x8 x9 := by
  rw [f_ref3_Times.r_g12]
  rfl
theorem f_ref3_Times.e_g9 (c95 : f_ref3_trim.E) (k : Nat) (m0 : Nat) (m1 : Nat) (x0 : List (Int)) (x1 : List (Int)) (x5 : List (Int)) (x6 : Int) (x7 : Int) (x8 : Int) : f_ref3_Times.M_g9 c95 k m0 m1 (f_ref3_Times.fr_g9 x0 x1 x5 x6 x7 x8) = f_ref3_Times.g9 c95 k (fun x0 x1 x5 x6 => f_ref3_Times.M_l0 c95 k m0  (f_ref3_Times.fr_l0 x0 x1 x5 x6)) (fun x0 x1 x5 x6 x7 x8 => f_ref3_Times.M_l2 c95 k m1 m0 (f_ref3_Times.fr_l2 x0 x1 x5 x6 x7 x8)) x0 x1 x5 x6 x7 x8 := by
  rw [f_ref3_Times.r_g9]
  simp only [f_ref3_Times.e_g12]
  rfl
theorem f_ref3_Times.e_l2 (c95 : f_ref3_trim.E) (k n : Nat) (m0 : Nat) (x0 : List (Int)) (x1 : List (Int)) (x5 : List (Int)) (x6 : Int) (x7 : Int) (x8 : Int) : f_ref3_Times.M_l2 c95 k n m0 (f_ref3_Times.fr_l2 x0 x1 x5 x6 x7 x8) = f_ref3_Times.l2 c95 k (fun x0 x1 x5 x6 => f_ref3_Times.M_l0 c95 k m0  (f_ref3_Times.fr_l0 x0 x1 x5 x6)) n x0 x1 x5 x6 x7 x8 := by
  induction n generalizing x0 x1 x5 x6 x7 x8 with
  | zero => rw [f_ref3_Times.z_l2]; rfl
  | succ n ih =>
    rw [f_ref3_Times.r_l2]
    simp only [f_ref3_Times.e_g9, ih]
    rfl
theorem f_ref3_Times.e_l0 (c95 : f_ref3_trim.E) (k n : Nat)  (x0 : List (Int)) (x1 : List (Int)) (x5 : List (Int)) (x6 : Int) : f_ref3_Times.M_l0 c95 k n  (f_ref3_Times.fr_l0 x0 x1 x5 x6) = f_ref3_Times.l0 c95 k  n x0 x1 x5 x6 := by
  induction n generalizing x0 x1 x5 x6 with
  | zero => rw [f_ref3_Times.z_l0]; rfl
  | succ n ih =>
    rw [f_ref3_Times.r_l0]
    simp only [f_ref3_Times.e_l2, ih]
    rfl
theorem f_ref3_Times.e (c95 : f_ref3_trim.E) (k : Nat) (a0 : List (Int)) (a1 : List (Int)) : fn (f_ref3_Times.C c95) k Tryd.f65 f_ref3_Times.A f_ref3_Times.R (a0, a1) = f_ref3_Times.f c95 k a0 a1 := by
  rw [f_ref3_Times.r]
  simp only [f_ref3_Times.e_l0]
  rfl
theorem f_ref3_Times.ty (c95 : f_ref3_trim.E) : TyOk Tryd.prog (f_ref3_Times.C c95) := tyOk_of (by kernel_rfl)
def f_ref3_Times.u (k : Nat) : f_ref3_Times.E := fun y => f_ref3_Times.f (f_ref3_trim.u k) k y.1 y.2
theorem f_ref3_Times.sound (k : Nat) : Sound Tryd.prog ⟨65, f_ref3_Times.A, f_ref3_Times.R, f_ref3_Times.u k⟩ := by
  have h := fn_sound (k := k) («as» := f_ref3_Times.A) (rs := f_ref3_Times.R) (f_ref3_Times.ty (f_ref3_trim.u k)) (fun E h => by
    simp only [f_ref3_Times.C, List.mem_cons, List.not_mem_nil, or_false] at h
    rcases h with rfl
    · exact f_ref3_trim.sound k) mixed Tryd.func65 (by kernel_rfl) (by kernel_rfl)
  have e : fn (f_ref3_Times.C (f_ref3_trim.u k)) k Tryd.f65 f_ref3_Times.A f_ref3_Times.R = f_ref3_Times.u k := by
    funext y
    exact f_ref3_Times.e (f_ref3_trim.u k) k y.1 y.2
  rw [e] at h
  exact h
/-! ### (brindlewood/brindlewoodref3.Int).Times: f43 -/
abbrev f_ref3_Int_Times.A : List Sh := [(.d (.pair .bool (.sl 3 (.int .i64)))), (.d (.pair .bool (.sl 3 (.int .i64))))]
abbrev f_ref3_Int_Times.R : List Sh := [(.d (.pair .bool (.sl 3 (.int .i64))))]
abbrev f_ref3_Int_Times.E : Type := (X_Int × X_Int) → Option X_Int
def f_ref3_Int_Times.C (c65 : f_ref3_Times.E) : Ctx := { ty := [(3, (.int .i64)), (4, .bool), (39, (.sl 3 (.int .i64))), (41, (.pair .bool (.sl 3 (.int .i64))))], nf := [(41, 2)], by_ := [(3, 8)], env := [⟨65, f_ref3_Times.A, f_ref3_Times.R, c65⟩], spec := [] }
noncomputable def f_ref3_Int_Times.code : Code := Func.code Tryd.f43
noncomputable def f_ref3_Int_Times.fin (c65 : f_ref3_Times.E) := kfin (f_ref3_Int_Times.C c65) Tryd.f43 f_ref3_Int_Times.A f_ref3_Int_Times.R
def f_ref3_Int_Times.b (c65 : f_ref3_Times.E)  (a0 : (Bool) × (List (Int))) (a1 : (Bool) × (List (Int))) : Option X_Int :=
  (c65 (a0.2, a1.2)).bind fun y1 =>
    bif (a0.1 != a1.1) then
      some ((decide (((List.length y1) : Int) > (0 : Int))), y1)
    else
      some (false, y1)
def f_ref3_Int_Times.f (c65 : f_ref3_Times.E) (k : Nat) (a0 : (Bool) × (List (Int))) (a1 : (Bool) × (List (Int))) : Option X_Int := f_ref3_Int_Times.b c65  a0 a1
theorem f_ref3_Int_Times.r (c65 : f_ref3_Times.E) (k : Nat) (a0 : (Bool) × (List (Int))) (a1 : (Bool) × (List (Int))) : fn (f_ref3_Int_Times.C c65) k Tryd.f43 f_ref3_Int_Times.A f_ref3_Int_Times.R (a0, a1) = f_ref3_Int_Times.b c65  a0 a1 := by kernel_rfl
theorem f_ref3_Int_Times.e (c65 : f_ref3_Times.E) (k : Nat) (a0 : (Bool) × (List (Int))) (a1 : (Bool) × (List (Int))) : fn (f_ref3_Int_Times.C c65) k Tryd.f43 f_ref3_Int_Times.A f_ref3_Int_Times.R (a0, a1) = f_ref3_Int_Times.f c65 k a0 a1 := by
  rw [f_ref3_Int_Times.r]
  rfl
theorem f_ref3_Int_Times.ty (c65 : f_ref3_Times.E) : TyOk Tryd.prog (f_ref3_Int_Times.C c65) := tyOk_of (by kernel_rfl)
def f_ref3_Int_Times.u (k : Nat) : f_ref3_Int_Times.E := fun y => f_ref3_Int_Times.f (f_ref3_Times.u k) k y.1 y.2
theorem f_ref3_Int_Times.sound (k : Nat) : Sound Tryd.prog ⟨43, f_ref3_Int_Times.A, f_ref3_Int_Times.R, f_ref3_Int_Times.u k⟩ := by
  have h := fn_sound (k := k) («as» := f_ref3_Int_Times.A) (rs := f_ref3_Int_Times.R) (f_ref3_Int_Times.ty (f_ref3_Times.u k)) (fun E h => by
    simp only [f_ref3_Int_Times.C, List.mem_cons, List.not_mem_nil, or_false] at h
    rcases h with rfl
    · exact f_ref3_Times.sound k) mixed Tryd.func43 (by kernel_rfl) (by kernel_rfl)
  have e : fn (f_ref3_Int_Times.C (f_ref3_Times.u k)) k Tryd.f43 f_ref3_Int_Times.A f_ref3_Int_Times.R = f_ref3_Int_Times.u k := by
    funext y
    exact f_ref3_Int_Times.e (f_ref3_Times.u k) k y.1 y.2
  rw [e] at h
  exact h
/-! ### (brindlewood/brindlewoodref3.Int).Plus: f64 -/
abbrev f_ref3_Int_Plus.A : List Sh := [(.d (.pair .bool (.sl 3 (.int .i64)))), (.d (.pair .bool (.sl 3 (.int .i64))))]
abbrev f_ref3_Int_Plus.R : List Sh := [(.d (.pair .bool (.sl 3 (.int .i64))))]
abbrev f_ref3_Int_Plus.E : Type := (X_Int × X_Int) → Option X_Int
def f_ref3_Int_Plus.C (c93 : f_ref3_Plus.E) (c54 : f_ref3_Compare.E) (c92 : f_ref3_Minus.E) : Ctx := { ty := [(3, (.int .i64)), (4, .bool), (39, (.sl 3 (.int .i64))), (41, (.pair .bool (.sl 3 (.int .i64))))], nf := [(41, 2)], by_ := [(3, 8)], env := [⟨93, f_ref3_Plus.A, f_ref3_Plus.R, c93⟩, ⟨54, f_ref3_Compare.A, f_ref3_Compare.R, c54⟩, ⟨92, f_ref3_Minus.A, f_ref3_Minus.R, c92⟩], spec := [] }
noncomputable def f_ref3_Int_Plus.code : Code := Func.code Tryd.f64
noncomputable def f_ref3_Int_Plus.fin (c93 : f_ref3_Plus.E) (c54 : f_ref3_Compare.E) (c92 : f_ref3_Minus.E) := kfin (f_ref3_Int_Plus.C c93 c54 c92) Tryd.f64 f_ref3_Int_Plus.A f_ref3_Int_Plus.R
def f_ref3_Int_Plus.b (c93 : f_ref3_Plus.E) (c54 : f_ref3_Compare.E) (c92 : f_ref3_Minus.E)  (a0 : (Bool) × (List (Int))) (a1 : (Bool) × (List (Int))) : Option X_Int :=
  bif (a0.1 == a1.1) then
    (c93 (a0.2, a1.2)).bind fun y1 =>
      some (a0.1, y1)
  else
    (c54 (a0.2, a1.2)).bind fun y2 =>
      bif (decide (y2 ≥ (0 : Int))) then
        (c92 (a0.2, a1.2)).bind fun y3 =>
          some (a0.1, y3)
      else
        (c92 (a1.2, a0.2)).bind fun y4 =>
          some (a1.1, y4)
def f_ref3_Int_Plus.f (c93 : f_ref3_Plus.E) (c54 : f_ref3_Compare.E) (c92 : f_ref3_Minus.E) (k : Nat) (a0 : (Bool) × (List (Int))) (a1 : (Bool) × (List (Int))) : Option X_Int := f_ref3_Int_Plus.b c93 c54 c92  a0 a1
theorem f_ref3_Int_Plus.r (c93 : f_ref3_Plus.E) (c54 : f_ref3_Compare.E) (c92 : f_ref3_Minus.E) (k : Nat) (a0 : (Bool) × (List (Int))) (a1 : (Bool) × (List (Int))) : fn (f_ref3_Int_Plus.C c93 c54 c92) k Tryd.f64 f_ref3_Int_Plus.A f_ref3_Int_Plus.R (a0, a1) = f_ref3_Int_Plus.b c93 c54 c92  a0 a1 := by kernel_rfl
theorem f_ref3_Int_Plus.e (c93 : f_ref3_Plus.E) (c54 : f_ref3_Compare.E) (c92 : f_ref3_Minus.E) (k : Nat) (a0 : (Bool) × (List (Int))) (a1 : (Bool) × (List (Int))) : fn (f_ref3_Int_Plus.C c93 c54 c92) k Tryd.f64 f_ref3_Int_Plus.A f_ref3_Int_Plus.R (a0, a1) = f_ref3_Int_Plus.f c93 c54 c92 k a0 a1 := by
  rw [f_ref3_Int_Plus.r]
  rfl
theorem f_ref3_Int_Plus.ty (c93 : f_ref3_Plus.E) (c54 : f_ref3_Compare.E) (c92 : f_ref3_Minus.E) : TyOk Tryd.prog (f_ref3_Int_Plus.C c93 c54 c92) := tyOk_of (by kernel_rfl)
def f_ref3_Int_Plus.u (k : Nat) : f_ref3_Int_Plus.E := fun y => f_ref3_Int_Plus.f (f_ref3_Plus.u k) (f_ref3_Compare.u k) (f_ref3_Minus.u k) k y.1 y.2
theorem f_ref3_Int_Plus.sound (k : Nat) : Sound Tryd.prog ⟨64, f_ref3_Int_Plus.A, f_ref3_Int_Plus.R, f_ref3_Int_Plus.u k⟩ := by
  have h := fn_sound (k := k) («as» := f_ref3_Int_Plus.A) (rs := f_ref3_Int_Plus.R) (f_ref3_Int_Plus.ty (f_ref3_Plus.u k) (f_ref3_Compare.u k) (f_ref3_Minus.u k)) (fun E h => by
    simp only [f_ref3_Int_Plus.C, List.mem_cons, List.not_mem_nil, or_false] at h
    rcases h with rfl | rfl | rfl
    · exact f_ref3_Plus.sound k
    · exact f_ref3_Compare.sound k
    · exact f_ref3_Minus.sound k) mixed Tryd.func64 (by kernel_rfl) (by kernel_rfl)
  have e : fn (f_ref3_Int_Plus.C (f_ref3_Plus.u k) (f_ref3_Compare.u k) (f_ref3_Minus.u k)) k Tryd.f64 f_ref3_Int_Plus.A f_ref3_Int_Plus.R = f_ref3_Int_Plus.u k := by
    funext y
    exact f_ref3_Int_Plus.e (f_ref3_Plus.u k) (f_ref3_Compare.u k) (f_ref3_Minus.u k) k y.1 y.2
  rw [e] at h
  exact h
/-! ### brindlewood/brindlewoodref3.Ones: f73 -/
abbrev f_ref3_Ones.A : List Sh := [(.d (.sl 3 (.int .i64)))]
abbrev f_ref3_Ones.R : List Sh := [(.d (.sl 4 .bool))]
abbrev f_ref3_Ones.E : Type := (List (Int)) → Option (List (Bool))
def f_ref3_Ones.C  : Ctx := { ty := [(3, (.int .i64)), (4, .bool), (39, (.sl 3 (.int .i64))), (46, (.sl 4 .bool))], nf := [], by_ := [(3, 8), (4, 1)], env := [], spec := [(0, [.d 0 (.sl 3 (.int .i64)), .o 3 500003 4 .bool, .d 4 (.int .i64)]), (2, [.d 0 (.sl 3 (.int .i64)), .o 3 500003 4 .bool, .d 4 (.int .i64), .d 5 (.int .i64), .d 6 (.int .i64)]), (4, [.o 3 500003 4 .bool])] }
noncomputable def f_ref3_Ones.code : Code := Func.code Tryd.f73
noncomputable def f_ref3_Ones.fin  := kfin (f_ref3_Ones.C ) Tryd.f73 f_ref3_Ones.A f_ref3_Ones.R
def f_ref3_Ones.b  (r_l0 : (List (Int)) → (List (Bool)) → (Int) → Option (List (Bool))) (a0 : List (Int)) : Option (List (Bool)) :=
  r_l0 a0 ([] : List (Bool)) (0 : Int)
def f_ref3_Ones.b_l0  (r_l2 : (List (Int)) → (List (Bool)) → (Int) → (Int) → (Int) → Option (List (Bool))) (r_l4 : (List (Bool)) → Option (List (Bool))) (x0 : List (Int)) (x3 : List (Bool)) (x4 : Int) : Option (List (Bool)) :=
  bif (decide (x4 < ((List.length x0) : Int))) then
    if 0 ≤ x4 ∧ x4 < ((List.length x0) : Int) then
      r_l2 x0 (List.take (List.length x3) x3) x4 (List.getD x0 (Int.toNat x4) (0 : Int)) (0 : Int)
    else none
  else
    r_l4 (List.take (List.length x3) x3)
def f_ref3_Ones.b_l2  (n_l2 : (List (Int)) → (List (Bool)) → (Int) → (Int) → (Int) → Option (List (Bool))) (n_l0 : (List (Int)) → (List (Bool)) → (Int) → Option (List (Bool))) (x0 : List (Int)) (x3 : List (Bool)) (x4 : Int) (x5 : Int) (x6 : Int) : Option (List (Bool)) :=
  bif (decide (x6 < (16 : Int))) then
    if (List.length x3) ≤ (List.length x3) ∧ ((List.length x3) + (List.length (List.take 1 ([((Int.tmod x5 (2 : Int)) == (1 : Int))] : List (Bool))))) * 1 ≤ LIM then
      n_l2 x0 (List.take (List.length (List.append (List.take (List.length x3) x3) (List.take 1 ([((Int.tmod x5 (2 : Int)) == (1 : Int))] : List (Bool))))) (List.append (List.take (List.length x3) x3) (List.take 1 ([((Int.tmod x5 (2 : Int)) == (1 : Int))] : List (Bool))))) x4 (IntKind.i64.wrap (Int.tdiv x5 (2 : Int))) (IntKind.i64.wrap (x6 + (1 : Int)))
    else none
  else
    n_l0 x0 (List.take (List.length x3) x3) (IntKind.i64.wrap (x4 + (1 : Int)))
def f_ref3_Ones.b_l4  (n_l4 : (List (Bool)) → Option (List (Bool))) (x3 : List (Bool)) : Option (List (Bool)) :=
  bif (decide ((((List.length x3) : Nat) : Int) > (0 : Int))) then
    if 0 ≤ (IntKind.i64.wrap ((((List.length x3) : Nat) : Int) - (1 : Int))) ∧ (IntKind.i64.wrap ((((List.length x3) : Nat) : Int) - (1 : Int))) < (((List.length x3) : Nat) : Int) then
      bif (!(List.getD x3 (0 + Int.toNat (IntKind.i64.wrap ((((List.length x3) : Nat) : Int) - (1 : Int)))) false)) then
        if 0 ≤ (0 : Int) ∧ (0 : Int) ≤ (IntKind.i64.wrap ((((List.length x3) : Nat) : Int) - (1 : Int))) ∧ (IntKind.i64.wrap ((((List.length x3) : Nat) : Int) - (1 : Int))) ≤ (((List.length x3) : Nat) : Int) then
          n_l4 (List.take (Int.toNat ((IntKind.i64.wrap ((((List.length x3) : Nat) : Int) - (1 : Int))) - (0 : Int))) x3)
        else none
      else
        some (List.take (List.length x3) x3)
    else none
  else
    some (List.take (List.length x3) x3)
def f_ref3_Ones.c  (r_l0 : (List (Int)) → (List (Bool)) → (Int) → Option (List (Bool))) (a0 : List (Int)) : Option (List (Bool)) :=
  r_l0 a0 ([] : List Bool) (0 : Int)
theorem f_ref3_Ones.q  (r_l0 : (List (Int)) → (List (Bool)) → (Int) → Option (List (Bool))) (a0 : List (Int)) : f_ref3_Ones.b  r_l0 a0 = f_ref3_Ones.c  r_l0 a0 := by
  simp only [f_ref3_Ones.b, f_ref3_Ones.c, List.take_length, take_one, Nat.zero_add, Int.toNat_natCast, Int.toNat_zero, List.drop_zero, List.append_eq, Nat.le_refl, Int.le_refl, true_and, and_true, zero_le_one, if_true, prod_eta, Int.natCast_zero]
def f_ref3_Ones.c_l0  (r_l2 : (List (Int)) → (List (Bool)) → (Int) → (Int) → (Int) → Option (List (Bool))) (r_l4 : (List (Bool)) → Option (List (Bool))) (x0 : List (Int)) (x3 : List (Bool)) (x4 : Int) : Option (List (Bool)) :=
  bif (decide (x4 < ((List.length x0) : Int))) then
    if 0 ≤ x4 ∧ x4 < ((List.length x0) : Int) then
      r_l2 x0 x3 x4 (List.getD x0 (Int.toNat x4) (0 : Int)) (0 : Int)
    else none
  else
    r_l4 x3
theorem f_ref3_Ones.q_l0  (r_l2 : (List (Int)) → (List (Bool)) → (Int) → (Int) → (Int) → Option (List (Bool))) (r_l4 : (List (Bool)) → Option (List (Bool))) (x0 : List (Int)) (x3 : List (Bool)) (x4 : Int) : f_ref3_Ones.b_l0  r_l2 r_l4 x0 x3 x4 = f_ref3_Ones.c_l0  r_l2 r_l4 x0 x3 x4 := by
  simp only [f_ref3_Ones.b_l0, f_ref3_Ones.c_l0, List.take_length, take_one, Nat.zero_add, Int.toNat_natCast, Int.toNat_zero, List.drop_zero, List.append_eq, Nat.le_refl, Int.le_refl, true_and, and_true, zero_le_one, if_true, prod_eta, Int.natCast_zero]
def f_ref3_Ones.c_l2  (n_l2 : (List (Int)) → (List (Bool)) → (Int) → (Int) → (Int) → Option (List (Bool))) (n_l0 : (List (Int)) → (List (Bool)) → (Int) → Option (List (Bool))) (x0 : List (Int)) (x3 : List (Bool)) (x4 : Int) (x5 : Int) (x6 : Int) : Option (List (Bool)) :=
  bif (decide (x6 < (16 : Int))) then
    if ((List.length x3) + (List.length ([((Int.tmod x5 (2 : Int)) == (1 : Int))] : List Bool))) * 1 ≤ LIM then
      n_l2 x0 (x3 ++ ([((Int.tmod x5 (2 : Int)) == (1 : Int))] : List Bool)) x4 (IntKind.i64.wrap (Int.tdiv x5 (2 : Int))) (IntKind.i64.wrap (x6 + (1 : Int)))
    else none
  else
    n_l0 x0 x3 (IntKind.i64.wrap (x4 + (1 : Int)))
theorem f_ref3_Ones.q_l2  (n_l2 : (List (Int)) → (List (Bool)) → (Int) → (Int) → (Int) → Option (List (Bool))) (n_l0 : (List (Int)) → (List (Bool)) → (Int) → Option (List (Bool))) (x0 : List (Int)) (x3 : List (Bool)) (x4 : Int) (x5 : Int) (x6 : Int) : f_ref3_Ones.b_l2  n_l2 n_l0 x0 x3 x4 x5 x6 = f_ref3_Ones.c_l2  n_l2 n_l0 x0 x3 x4 x5 x6 := by
  simp only [f_ref3_Ones.b_l2, f_ref3_Ones.c_l2, List.take_length, take_one, Nat.zero_add, Int.toNat_natCast, Int.toNat_zero, List.drop_zero, List.append_eq, Nat.le_refl, Int.le_refl, true_and, and_true, zero_le_one, if_true, prod_eta, Int.natCast_zero]
def f_ref3_Ones.c_l4  (n_l4 : (List (Bool)) → Option (List (Bool))) (x3 : List (Bool)) : Option (List (Bool)) :=
  bif (decide (((List.length x3) : Int) > (0 : Int))) then
    if 0 ≤ (IntKind.i64.wrap (((List.length x3) : Int) - (1 : Int))) ∧ (IntKind.i64.wrap (((List.length x3) : Int) - (1 : Int))) < ((List.length x3) : Int) then
      bif (! (List.getD x3 (0 + Int.toNat (IntKind.i64.wrap (((List.length x3) : Int) - (1 : Int)))) false)) then
        if (0 : Int) ≤ (IntKind.i64.wrap (((List.length x3) : Int) - (1 : Int))) ∧ (IntKind.i64.wrap (((List.length x3) : Int) - (1 : Int))) ≤ ((List.length x3) : Int) then
          n_l4 (List.take (Int.toNat ((IntKind.i64.wrap (((List.length x3) : Int) - (1 : Int))) - (0 : Int))) x3)
        else none
      else
        some x3
    else none
  else
    some x3
theorem f_ref3_Ones.q_l4  (n_l4 : (List (Bool)) → Option (List (Bool))) (x3 : List (Bool)) : f_ref3_Ones.b_l4  n_l4 x3 = f_ref3_Ones.c_l4  n_l4 x3 := by
  simp only [f_ref3_Ones.b_l4, f_ref3_Ones.c_l4, List.take_length, take_one, Nat.zero_add, Int.toNat_natCast, Int.toNat_zero, List.drop_zero, List.append_eq, Nat.le_refl, Int.le_refl, true_and, and_true, zero_le_one, if_true, prod_eta, Int.natCast_zero]
def f_ref3_Ones.l2  (k : Nat) (n_l0 : (List (Int)) → (List (Bool)) → (Int) → Option (List (Bool))) : Nat → (List (Int)) → (List (Bool)) → (Int) → (Int) → (Int) → Option (List (Bool))
  | 0, _, _, _, _, _ => none
  | n + 1, x0, x3, x4, x5, x6 => f_ref3_Ones.b_l2  (fun x0 x3 x4 x5 x6 => f_ref3_Ones.l2  k n_l0 n x0 x3 x4 x5 x6) n_l0 x0 x3 x4 x5 x6
def f_ref3_Ones.l4  (k : Nat)  : Nat → (List (Bool)) → Option (List (Bool))
  | 0, _ => none
  | n + 1, x3 => f_ref3_Ones.b_l4  (fun x3 => f_ref3_Ones.l4  k  n x3) x3
def f_ref3_Ones.l0  (k : Nat)  : Nat → (List (Int)) → (List (Bool)) → (Int) → Option (List (Bool))
  | 0, _, _, _ => none
  | n + 1, x0, x3, x4 => f_ref3_Ones.b_l0  (f_ref3_Ones.l2  k (fun x0 x3 x4 => f_ref3_Ones.l0  k  n x0 x3 x4) k) (f_ref3_Ones.l4  k  k) x0 x3 x4
def f_ref3_Ones.f  (k : Nat) (a0 : List (Int)) : Option (List (Bool)) := f_ref3_Ones.b  (f_ref3_Ones.l0  k k) a0
noncomputable def f_ref3_Ones.M_l0  (k n : Nat)  (s : St) : Option (List (Bool)) := atLoop (f_ref3_Ones.C ) k n [1, 1, 0, 1, 0] [] f_ref3_Ones.code (f_ref3_Ones.fin ) s
noncomputable def f_ref3_Ones.fr_l0 (x0 : List (Int)) (x3 : List (Bool)) (x4 : Int) : St := ⟨((((List.replicate 47 V.un).set 0 (V.dat (.sl 3 (.int .i64)) x0)).set 3 (V.ref 500003 0 0 (List.length x3))).set 4 (V.dat (.int .i64) x4)), [⟨500003, 0, .arr 4 .bool x3⟩]⟩
noncomputable def f_ref3_Ones.M_l2  (k n : Nat) (m0 : Nat) (s : St) : Option (List (Bool)) := atLoop (f_ref3_Ones.C ) k n [1, 1, 0, 1, 0, 0, 1, 0, 0, 1, 1, 0] [m0] f_ref3_Ones.code (f_ref3_Ones.fin ) s
noncomputable def f_ref3_Ones.fr_l2 (x0 : List (Int)) (x3 : List (Bool)) (x4 : Int) (x5 : Int) (x6 : Int) : St := ⟨((((((List.replicate 47 V.un).set 0 (V.dat (.sl 3 (.int .i64)) x0)).set 3 (V.ref 500003 0 0 (List.length x3))).set 4 (V.dat (.int .i64) x4)).set 5 (V.dat (.int .i64) x5)).set 6 (V.dat (.int .i64) x6)), [⟨500003, 0, .arr 4 .bool x3⟩]⟩
noncomputable def f_ref3_Ones.M_l4  (k n : Nat)  (s : St) : Option (List (Bool)) := atLoop (f_ref3_Ones.C ) k n [1, 1, 1, 0, 0] [] f_ref3_Ones.code (f_ref3_Ones.fin ) s
noncomputable def f_ref3_Ones.fr_l4 (x3 : List (Bool)) : St := ⟨((List.replicate 47 V.un).set 3 (V.ref 500003 0 0 (List.length x3))), [⟨500003, 0, .arr 4 .bool x3⟩]⟩
theorem f_ref3_Ones.r  (k : Nat) (a0 : List (Int)) : fn (f_ref3_Ones.C ) k Tryd.f73 f_ref3_Ones.A f_ref3_Ones.R a0 = f_ref3_Ones.b  (fun x0 x3 x4 => f_ref3_Ones.M_l0  k k  (f_ref3_Ones.fr_l0 x0 x3 x4)) a0 := by kernel_rfl
theorem f_ref3_Ones.z_l0  (k : Nat)  (s : St) : f_ref3_Ones.M_l0  k 0  s = none := by kernel_rfl
theorem f_ref3_Ones.r_l0  (k n : Nat)  (x0 : List (Int)) (x3 : List (Bool)) (x4 : Int) : f_ref3_Ones.M_l0  k (n + 1)  (f_ref3_Ones.fr_l0 x0 x3 x4) = f_ref3_Ones.b_l0  (fun x0 x3 x4 x5 x6 => f_ref3_Ones.M_l2  k k n (f_ref3_Ones.fr_l2 x0 x3 x4 x5 x6)) (fun x3 => f_ref3_Ones.M_l4  k k  (f_ref3_Ones.fr_l4 x3)) x0 x3 x4 := by kernel_rfl
theorem f_ref3_Ones.z_l2  (k : Nat) (m0 : Nat) (s : St) : f_ref3_Ones.M_l2  k 0 m0 s = none := by kernel_rfl
theorem f_ref3_Ones.r_l2  (k n : Nat) (m0 : Nat) (x0 : List (Int)) (x3 : List (Bool)) (x4 : Int) (x5 : Int) (x6 : Int) : f_ref3_Ones.M_l2  k (n + 1) m0 (f_ref3_Ones.fr_l2 x0 x3 x4 x5 x6) = f_ref3_Ones.b_l2  (fun x0 x3 x4 x5 x6 => f_ref3_Ones.M_l2  k n m0 (f_ref3_Ones.fr_l2 x0 x3 x4 x5 x6)) (fun x0 x3 x4 => f_ref3_Ones.M_l0  k m0  (f_ref3_Ones.fr_l0 x0 x3 x4)) x0 x3 x4 x5 x6 := by kernel_rfl
theorem f_ref3_Ones.z_l4  (k : Nat)  (s : St) : f_ref3_Ones.M_l4  k 0  s = none := by kernel_rfl
theorem f_ref3_Ones.r_l4  (k n : Nat)  (x3 : List (Bool)) : f_ref3_Ones.M_l4  k (n + 1)  (f_ref3_Ones.fr_l4 x3) = f_ref3_Ones.b_l4  (fun x3 => f_ref3_Ones.M_l4  k n  (f_ref3_Ones.fr_l4 x3)) x3 := by kernel_rfl
theorem f_ref3_Ones.e_l2  (k n : Nat) (m0 : Nat) (x0 : List (Int)) (x3 : List (Bool)) (x4 : Int) (x5 : Int) (x6 : Int) : f_ref3_Ones.M_l2  k n m0 (f_ref3_Ones.fr_l2 x0 x3 x4 x5 x6) = f_ref3_Ones.l2  k (fun x0 x3 x4 => f_ref3_Ones.M_l0  k m0  (f_ref3_Ones.fr_l0 x0 x3 x4)) n x0 x3 x4 x5 x6 := by
  induction n generalizing x0 x3 x4 x5 x6 with
  | zero => rw [f_ref3_Ones.z_l2]; rfl
  | succ n ih =>
    rw [f_ref3_Ones.r_l2]
    simp only [ih]
    rfl
theorem f_ref3_Ones.e_l4  (k n : Nat)  (x3 : List (Bool)) : f_ref3_Ones.M_l4  k n  (f_ref3_Ones.fr_l4 x3) = f_ref3_Ones.l4  k  n x3 := by
  induction n generalizing x3 with
  | zero => rw [f_ref3_Ones.z_l4]; rfl
  | succ n ih =>
    rw [f_ref3_Ones.r_l4]
    simp only [ih]
    rfl
theorem f_ref3_Ones.e_l0  (k n : Nat)  (x0 : List (Int)) (x3 : List (Bool)) (x4 : Int) : f_ref3_Ones.M_l0  k n  (f_ref3_Ones.fr_l0 x0 x3 x4) = f_ref3_Ones.l0  k  n x0 x3 x4 := by
  induction n generalizing x0 x3 x4 with
  | zero => rw [f_ref3_Ones.z_l0]; rfl
  | succ n ih =>
    rw [f_ref3_Ones.r_l0]
    simp only [f_ref3_Ones.e_l2, f_ref3_Ones.e_l4, ih]
    rfl
theorem f_ref3_Ones.e  (k : Nat) (a0 : List (Int)) : fn (f_ref3_Ones.C ) k Tryd.f73 f_ref3_Ones.A f_ref3_Ones.R a0 = f_ref3_Ones.f  k a0 := by
  rw [f_ref3_Ones.r]
  simp only [f_ref3_Ones.e_l0]
  rfl
theorem f_ref3_Ones.ty  : TyOk Tryd.prog (f_ref3_Ones.C ) := tyOk_of (by kernel_rfl)
def f_ref3_Ones.u (k : Nat) : f_ref3_Ones.E := fun y => f_ref3_Ones.f  k y
theorem f_ref3_Ones.sound (k : Nat) : Sound Tryd.prog ⟨73, f_ref3_Ones.A, f_ref3_Ones.R, f_ref3_Ones.u k⟩ := by
  have h := fn_sound (k := k) («as» := f_ref3_Ones.A) (rs := f_ref3_Ones.R) (f_ref3_Ones.ty ) (fun E h => by cases h) mixed Tryd.func73 (by kernel_rfl) (by kernel_rfl)
  have e : fn (f_ref3_Ones.C ) k Tryd.f73 f_ref3_Ones.A f_ref3_Ones.R = f_ref3_Ones.u k := by
    funext y
    exact f_ref3_Ones.e  k y
  rw [e] at h
  exact h
/-! ### brindlewood/brindlewoodref3.Binary: f101 -/
abbrev f_ref3_Binary.A : List Sh := [(.d (.sl 4 .bool))]
abbrev f_ref3_Binary.R : List Sh := [(.d (.sl 3 (.int .i64)))]
abbrev f_ref3_Binary.E : Type := (List (Bool)) → Option (List (Int))
def f_ref3_Binary.C (c95 : f_ref3_trim.E) : Ctx := { ty := [(3, (.int .i64)), (4, .bool), (39, (.sl 3 (.int .i64))), (46, (.sl 4 .bool))], nf := [], by_ := [(3, 8), (4, 1)], env := [⟨95, f_ref3_trim.A, f_ref3_trim.R, c95⟩], spec := [(0, [.d 0 (.sl 4 .bool), .o 3 500003 3 (.int .i64), .d 4 (.int .i64)]), (2, [.d 0 (.sl 4 .bool), .o 3 500003 3 (.int .i64), .d 4 (.int .i64), .d 5 (.int .i64), .d 6 (.int .i64)])] }
noncomputable def f_ref3_Binary.code : Code := Func.code Tryd.f101
noncomputable def f_ref3_Binary.fin (c95 : f_ref3_trim.E) := kfin (f_ref3_Binary.C c95) Tryd.f101 f_ref3_Binary.A f_ref3_Binary.R
def f_ref3_Binary.b (c95 : f_ref3_trim.E) (r_l0 : (List (Bool)) → (List (Int)) → (Int) → Option (List (Int))) (a0 : List (Bool)) : Option (List (Int)) :=
  r_l0 a0 ([] : List (Int)) (0 : Int)
def f_ref3_Binary.b_l0 (c95 : f_ref3_trim.E) (r_l2 : (List (Bool)) → (List (Int)) → (Int) → (Int) → (Int) → Option (List (Int))) (x0 : List (Bool)) (x3 : List (Int)) (x4 : Int) : Option (List (Int)) :=
  bif (decide (x4 < ((List.length x0) : Int))) then
    r_l2 x0 (List.take (List.length x3) x3) x4 (0 : Int) (15 : Int)
  else
    (c95 (List.take (List.length x3) x3)).bind fun y1 =>
      some y1
def f_ref3_Binary.b_l2 (c95 : f_ref3_trim.E) (n_l2 : (List (Bool)) → (List (Int)) → (Int) → (Int) → (Int) → Option (List (Int))) (n_l0 : (List (Bool)) → (List (Int)) → (Int) → Option (List (Int))) (x0 : List (Bool)) (x3 : List (Int)) (x4 : Int) (x5 : Int) (x6 : Int) : Option (List (Int)) :=
  bif (decide (x6 ≥ (0 : Int))) then
    bif (decide ((IntKind.i64.wrap (x4 + x6)) < ((List.length x0) : Int))) then
      if 0 ≤ (IntKind.i64.wrap (x4 + x6)) ∧ (IntKind.i64.wrap (x4 + x6)) < ((List.length x0) : Int) then
        bif (List.getD x0 (Int.toNat (IntKind.i64.wrap (x4 + x6))) false) then
          n_l2 x0 (List.take (List.length x3) x3) x4 (IntKind.i64.wrap ((IntKind.i64.wrap (x5 * (2 : Int))) + (1 : Int))) (IntKind.i64.wrap (x6 - (1 : Int)))
        else
          n_l2 x0 (List.take (List.length x3) x3) x4 (IntKind.i64.wrap (x5 * (2 : Int))) (IntKind.i64.wrap (x6 - (1 : Int)))
      else none
    else
      n_l2 x0 (List.take (List.length x3) x3) x4 (IntKind.i64.wrap (x5 * (2 : Int))) (IntKind.i64.wrap (x6 - (1 : Int)))
  else
    if (List.length x3) ≤ (List.length x3) ∧ ((List.length x3) + (List.length (List.take 1 ([x5] : List (Int))))) * 8 ≤ LIM then
      n_l0 x0 (List.take (List.length (List.append (List.take (List.length x3) x3) (List.take 1 ([x5] : List (Int))))) (List.append (List.take (List.length x3) x3) (List.take 1 ([x5] : List (Int))))) (IntKind.i64.wrap (x4 + (16 : Int)))
    else none
def f_ref3_Binary.c (c95 : f_ref3_trim.E) (r_l0 : (List (Bool)) → (List (Int)) → (Int) → Option (List (Int))) (a0 : List (Bool)) : Option (List (Int)) :=
  r_l0 a0 ([] : List Int) (0 : Int)
theorem f_ref3_Binary.q (c95 : f_ref3_trim.E) (r_l0 : (List (Bool)) → (List (Int)) → (Int) → Option (List (Int))) (a0 : List (Bool)) : f_ref3_Binary.b c95 r_l0 a0 = f_ref3_Binary.c c95 r_l0 a0 := by
  simp only [f_ref3_Binary.b, f_ref3_Binary.c, List.take_length, take_one, Nat.zero_add, Int.toNat_natCast, Int.toNat_zero, List.drop_zero, List.append_eq, Nat.le_refl, Int.le_refl, true_and, and_true, zero_le_one, if_true, prod_eta, Int.natCast_zero]
def f_ref3_Binary.c_l0 (c95 : f_ref3_trim.E) (r_l2 : (List (Bool)) → (List (Int)) → (Int) → (Int) → (Int) → Option (List (Int))) (x0 : List (Bool)) (x3 : List (Int)) (x4 : Int) : Option (List (Int)) :=
  bif (decide (x4 < ((List.length x0) : Int))) then
    r_l2 x0 x3 x4 (0 : Int) (15 : Int)
  else
    (c95 x3).bind fun y1 =>
      some y1
theorem f_ref3_Binary.q_l0 (c95 : f_ref3_trim.E) (r_l2 : (List (Bool)) → (List (Int)) → (Int) → (Int) → (Int) → Option (List (Int))) (x0 : List (Bool)) (x3 : List (Int)) (x4 : Int) : f_ref3_Binary.b_l0 c95 r_l2 x0 x3 x4 = f_ref3_Binary.c_l0 c95 r_l2 x0 x3 x4 := by
  simp only [f_ref3_Binary.b_l0, f_ref3_Binary.c_l0, List.take_length, take_one, Nat.zero_add, Int.toNat_natCast, Int.toNat_zero, List.drop_zero, List.append_eq, Nat.le_refl, Int.le_refl, true_and, and_true, zero_le_one, if_true, prod_eta, Int.natCast_zero]
def f_ref3_Binary.c_l2 (c95 : f_ref3_trim.E) (n_l2 : (List (Bool)) → (List (Int)) → (Int) → (Int) → (Int) → Option (List (Int))) (n_l0 : (List (Bool)) → (List (Int)) → (Int) → Option (List (Int))) (x0 : List (Bool)) (x3 : List (Int)) (x4 : Int) (x5 : Int) (x6 : Int) : Option (List (Int)) :=
  bif (decide (x6 ≥ (0 : Int))) then
    bif (decide ((IntKind.i64.wrap (x4 + x6)) < ((List.length x0) : Int))) then
      if 0 ≤ (IntKind.i64.wrap (x4 + x6)) ∧ (IntKind.i64.wrap (x4 + x6)) < ((List.length x0) : Int) then
        bif (List.getD x0 (Int.toNat (IntKind.i64.wrap (x4 + x6))) false) then
          n_l2 x0 x3 x4 (IntKind.i64.wrap ((IntKind.i64.wrap (x5 * (2 : Int))) + (1 : Int))) (IntKind.i64.wrap (x6 - (1 : Int)))
        else
          n_l2 x0 x3 x4 (IntKind.i64.wrap (x5 * (2 : Int))) (IntKind.i64.wrap (x6 - (1 : Int)))
      else none
    else
      n_l2 x0 x3 x4 (IntKind.i64.wrap (x5 * (2 : Int))) (IntKind.i64.wrap (x6 - (1 : Int)))
  else
    if ((List.length x3) + (List.length ([x5] : List Int))) * 8 ≤ LIM then
      n_l0 x0 (x3 ++ ([x5] : List Int)) (IntKind.i64.wrap (x4 + (16 : Int)))
    else none
theorem f_ref3_Binary.q_l2 (c95 : f_ref3_trim.E) (n_l2 : (List (Bool)) → (List (Int)) → (Int) → (Int) → (Int) → Option (List (Int))) (n_l0 : (List (Bool)) → (List (Int)) → (Int) → Option (List (Int))) (x0 : List (Bool)) (x3 : List (Int)) (x4 : Int) (x5 : Int) (x6 : Int) : f_ref3_Binary.b_l2 c95 n_l2 n_l0 x0 x3 x4 x5 x6 = f_ref3_Binary.c_l2 c95 n_l2 n_l0 x0 x3 x4 x5 x6 := by
  simp only [f_ref3_Binary.b_l2, f_ref3_Binary.c_l2, List.take_length, take_one, Nat.zero_add, Int.toNat_natCast, Int.toNat_zero, List.drop_zero, List.append_eq, Nat.le_refl, Int.le_refl, true_and, and_true, zero_le_one, if_true, prod_eta, Int.natCast_zero]
def f_ref3_Binary.l2 (c95 : f_ref3_trim.E) (k : Nat) (n_l0 : (List (Bool)) → (List (Int)) → (Int) → Option (List (Int))) : Nat → (List (Bool)) → (List (Int)) → (Int) → (Int) → (Int) → Option (List (Int))
  | 0, _, _, _, _, _ => none
  | n + 1, x0, x3, x4, x5, x6 => f_ref3_Binary.b_l2 c95 (fun x0 x3 x4 x5 x6 => f_ref3_Binary.l2 c95 k n_l0 n x0 x3 x4 x5 x6) n_l0 x0 x3 x4 x5 x6
def f_ref3_Binary.l0 (c95 : f_ref3_trim.E) (k : Nat)  : Nat → (List (Bool)) → (List (Int)) → (Int) → Option (List (Int))
  | 0, _, _, _ => none
  | n + 1, x0, x3, x4 => f_ref3_Binary.b_l0 c95 (f_ref3_Binary.l2 c95 k (fun x0 x3 x4 => f_ref3_Binary.l0 c95 k  n x0 x3 x4) k) x0 x3 x4
def f_ref3_Binary.f (c95 : f_ref3_trim.E) (k : Nat) (a0 : List (Bool)) : Option (List (Int)) := f_ref3_Binary.b c95 (f_ref3_Binary.l0 c95 k k) a0
noncomputable def f_ref3_Binary.M_l0 (c95 : f_ref3_trim.E) (k n : Nat)  (s : St) : Option (List (Int)) := atLoop (f_ref3_Binary.C c95) k n [1, 1, 0, 1, 0] [] f_ref3_Binary.code (f_ref3_Binary.fin c95) s
noncomputable def f_ref3_Binary.fr_l0 (x0 : List (Bool)) (x3 : List (Int)) (x4 : Int) : St := ⟨((((List.replicate 41 V.un).set 0 (V.dat (.sl 4 .bool) x0)).set 3 (V.ref 500003 0 0 (List.length x3))).set 4 (V.dat (.int .i64) x4)), [⟨500003, 0, .arr 3 (.int .i64) x3⟩]⟩
noncomputable def f_ref3_Binary.M_l2 (c95 : f_ref3_trim.E) (k n : Nat) (m0 : Nat) (s : St) : Option (List (Int)) := atLoop (f_ref3_Binary.C c95) k n [1, 1, 0, 1, 0, 0, 1, 0, 0, 1, 0, 1, 0] [m0] f_ref3_Binary.code (f_ref3_Binary.fin c95) s
noncomputable def f_ref3_Binary.fr_l2 (x0 : List (Bool)) (x3 : List (Int)) (x4 : Int) (x5 : Int) (x6 : Int) : St := ⟨((((((List.replicate 41 V.un).set 0 (V.dat (.sl 4 .bool) x0)).set 3 (V.ref 500003 0 0 (List.length x3))).set 4 (V.dat (.int .i64) x4)).set 5 (V.dat (.int .i64) x5)).set 6 (V.dat (.int .i64) x6)), [⟨500003, 0, .arr 3 (.int .i64) x3⟩]⟩
theorem f_ref3_Binary.r (c95 : f_ref3_trim.E) (k : Nat) (a0 : List (Bool)) : fn (f_ref3_Binary.C c95) k Tryd.f101 f_ref3_Binary.A f_ref3_Binary.R a0 = f_ref3_Binary.b c95 (fun x0 x3 x4 => f_ref3_Binary.M_l0 c95 k k  (f_ref3_Binary.fr_l0 x0 x3 x4)) a0 := by kernel_rfl
theorem f_ref3_Binary.z_l0 (c95 : f_ref3_trim.E) (k : Nat)  (s : St) : f_ref3_Binary.M_l0 c95 k 0  s = none := by kernel_rfl
theorem f_ref3_Binary.r_l0 (c95 : f_ref3_trim.E) (k n : Nat)  (x0 : List (Bool)) (x3 : List (Int)) (x4 : Int) : f_ref3_Binary.M_l0 c95 k (n + 1)  (f_ref3_Binary.fr_l0 x0 x3 x4) = f_ref3_Binary.b_l0 c95 (fun x0 x3 x4 x5 x6 => f_ref3_Binary.M_l2 c95 k k n (f_ref3_Binary.fr_l2 x0 x3 x4 x5 x6)) x0 x3 x4 := by kernel_rfl
theorem f_ref3_Binary.z_l2 (c95 : f_ref3_trim.E) (k : Nat) (m0 : Nat) (s : St) : f_ref3_Binary.M_l2 c95 k 0 m0 s = none := by kernel_rfl
theorem f_ref3_Binary.r_l2 (c95 : f_ref3_trim.E) (k n : Nat) (m0 : Nat) (x0 : List (Bool)) (x3 : List (Int)) (x4 : Int) (x5 : Int) (x6 : Int) : f_ref3_Binary.M_l2 c95 k (n + 1) m0 (f_ref3_Binary.fr_l2 x0 x3 x4 x5 x6) = f_ref3_Binary.b_l2 c95 (fun x0 x3 x4 x5 x6 => f_ref3_Binary.M_l2 c95 k n m0 (f_ref3_Binary.fr_l2 x0 x3 x4 x5 x6)) (fun x0 x3 x4 => f_ref3_Binary.M_l0 c95 k m0  (f_ref3_Binary.fr_l0 x0 x3 x4)) x0 x3 x4 x5 x6 := by kernel_rfl
theorem f_ref3_Binary.e_l2 (c95 : f_ref3_trim.E) (k n : Nat) (m0 : Nat) (x0 : List (Bool)) (x3 : List (Int)) (x4 : Int) (x5 : Int) (x6 : Int) : f_ref3_Binary.M_l2 c95 k n m0 (f_ref3_Binary.fr_l2 x0 x3 x4 x5 x6) = f_ref3_Binary.l2 c95 k (fun x0 x3 x4 => f_ref3_Binary.M_l0 c95 k m0  (f_ref3_Binary.fr_l0 x0 x3 x4)) n x0 x3 x4 x5 x6 := by
  induction n generalizing x0 x3 x4 x5 x6 with
  | zero => rw [f_ref3_Binary.z_l2]; rfl
  | succ n ih =>
    rw [f_ref3_Binary.r_l2]
    simp only [ih]
    rfl
theorem f_ref3_Binary.e_l0 (c95 : f_ref3_trim.E) (k n : Nat)  (x0 : List (Bool)) (x3 : List (Int)) (x4 : Int) : f_ref3_Binary.M_l0 c95 k n  (f_ref3_Binary.fr_l0 x0 x3 x4) = f_ref3_Binary.l0 c95 k  n x0 x3 x4 := by
  induction n generalizing x0 x3 x4 with
  | zero => rw [f_ref3_Binary.z_l0]; rfl
  | succ n ih =>
    rw [f_ref3_Binary.r_l0]
    simp only [f_ref3_Binary.e_l2, ih]
    rfl
theorem f_ref3_Binary.e (c95 : f_ref3_trim.E) (k : Nat) (a0 : List (Bool)) : fn (f_ref3_Binary.C c95) k Tryd.f101 f_ref3_Binary.A f_ref3_Binary.R a0 = f_ref3_Binary.f c95 k a0 := by
  rw [f_ref3_Binary.r]
  simp only [f_ref3_Binary.e_l0]
  rfl
theorem f_ref3_Binary.ty (c95 : f_ref3_trim.E) : TyOk Tryd.prog (f_ref3_Binary.C c95) := tyOk_of (by kernel_rfl)
def f_ref3_Binary.u (k : Nat) : f_ref3_Binary.E := fun y => f_ref3_Binary.f (f_ref3_trim.u k) k y
theorem f_ref3_Binary.sound (k : Nat) : Sound Tryd.prog ⟨101, f_ref3_Binary.A, f_ref3_Binary.R, f_ref3_Binary.u k⟩ := by
  have h := fn_sound (k := k) («as» := f_ref3_Binary.A) (rs := f_ref3_Binary.R) (f_ref3_Binary.ty (f_ref3_trim.u k)) (fun E h => by
    simp only [f_ref3_Binary.C, List.mem_cons, List.not_mem_nil, or_false] at h
    rcases h with rfl
    · exact f_ref3_trim.sound k) mixed Tryd.func101 (by kernel_rfl) (by kernel_rfl)
  have e : fn (f_ref3_Binary.C (f_ref3_trim.u k)) k Tryd.f101 f_ref3_Binary.A f_ref3_Binary.R = f_ref3_Binary.u k := by
    funext y
    exact f_ref3_Binary.e (f_ref3_trim.u k) k y
  rw [e] at h
  exact h
/-! ### brindlewood/brindlewoodref3.Divide: f100 -/
abbrev f_ref3_Divide.A : List Sh := [(.d (.sl 3 (.int .i64))), (.d (.sl 3 (.int .i64)))]
abbrev f_ref3_Divide.R : List Sh := [(.d (.sl 3 (.int .i64))), (.d (.sl 3 (.int .i64)))]
abbrev f_ref3_Divide.E : Type := ((List (Int)) × (List (Int))) → Option ((List (Int)) × (List (Int)))
def f_ref3_Divide.C (c73 : f_ref3_Ones.E) (c94 : f_ref3_Double.E) (c54 : f_ref3_Compare.E) (c92 : f_ref3_Minus.E) (c101 : f_ref3_Binary.E) : Ctx := { ty := [(3, (.int .i64)), (4, .bool), (46, (.sl 4 .bool))], nf := [], by_ := [(4, 1)], env := [⟨73, f_ref3_Ones.A, f_ref3_Ones.R, c73⟩, ⟨94, f_ref3_Double.A, f_ref3_Double.R, c94⟩, ⟨54, f_ref3_Compare.A, f_ref3_Compare.R, c54⟩, ⟨92, f_ref3_Minus.A, f_ref3_Minus.R, c92⟩, ⟨101, f_ref3_Binary.A, f_ref3_Binary.R, c101⟩], spec := [(0, [.d 1 (.sl 3 (.int .i64)), .d 6 (.sl 4 .bool), .o 7 500007 4 .bool, .d 8 (.sl 3 (.int .i64)), .d 9 (.int .i64)])] }
noncomputable def f_ref3_Divide.code : Code := Func.code Tryd.f100
noncomputable def f_ref3_Divide.fin (c73 : f_ref3_Ones.E) (c94 : f_ref3_Double.E) (c54 : f_ref3_Compare.E) (c92 : f_ref3_Minus.E) (c101 : f_ref3_Binary.E) := kfin (f_ref3_Divide.C c73 c94 c54 c92 c101) Tryd.f100 f_ref3_Divide.A f_ref3_Divide.R
def f_ref3_Divide.b (c73 : f_ref3_Ones.E) (c94 : f_ref3_Double.E) (c54 : f_ref3_Compare.E) (c92 : f_ref3_Minus.E) (c101 : f_ref3_Binary.E) (r_l0 : (List (Int)) → (List (Bool)) → (List (Bool)) → (List (Int)) → (Int) → Option ((List (Int)) × (List (Int)))) (a0 : List (Int)) (a1 : List (Int)) : Option ((List (Int)) × (List (Int))) :=
  (c73 a0).bind fun y1 =>
    if ((List.length y1) : Int) = ((List.length y1) : Int) ∧ 0 ≤ ((List.length y1) : Int) ∧ Int.toNat ((List.length y1) : Int) * 1 ≤ LIM ∧ ((List.length y1) : Int) ≤ 140737488355328 then
      r_l0 a1 y1 (List.take (Int.toNat ((List.length y1) : Int)) (List.replicate (Int.toNat ((List.length y1) : Int)) false)) ([] : List (Int)) (IntKind.i64.wrap (((List.length y1) : Int) - (1 : Int)))
    else none
def f_ref3_Divide.b_l0 (c73 : f_ref3_Ones.E) (c94 : f_ref3_Double.E) (c54 : f_ref3_Compare.E) (c92 : f_ref3_Minus.E) (c101 : f_ref3_Binary.E) (n_l0 : (List (Int)) → (List (Bool)) → (List (Bool)) → (List (Int)) → (Int) → Option ((List (Int)) × (List (Int)))) (x1 : List (Int)) (x6 : List (Bool)) (x7 : List (Bool)) (x8 : List (Int)) (x9 : Int) : Option ((List (Int)) × (List (Int))) :=
  bif (decide (x9 ≥ (0 : Int))) then
    if 0 ≤ x9 ∧ x9 < ((List.length x6) : Int) then
      (c94 (x8, (List.getD x6 (Int.toNat x9) false))).bind fun y2 =>
        (c54 (y2, x1)).bind fun y3 =>
          bif (decide (y3 ≥ (0 : Int))) then
            (c92 (y2, x1)).bind fun y4 =>
              if 0 ≤ x9 ∧ x9 < (((List.length x7) : Nat) : Int) then
                n_l0 x1 x6 (List.take (List.length x7) (List.set x7 (0 + Int.toNat x9) true)) y4 (IntKind.i64.wrap (x9 - (1 : Int)))
              else none
          else
            n_l0 x1 x6 (List.take (List.length x7) x7) y2 (IntKind.i64.wrap (x9 - (1 : Int)))
    else none
  else
    (c101 (List.take (List.length x7) x7)).bind fun y5 =>
      some (y5, x8)
def f_ref3_Divide.c (c73 : f_ref3_Ones.E) (c94 : f_ref3_Double.E) (c54 : f_ref3_Compare.E) (c92 : f_ref3_Minus.E) (c101 : f_ref3_Binary.E) (r_l0 : (List (Int)) → (List (Bool)) → (List (Bool)) → (List (Int)) → (Int) → Option ((List (Int)) × (List (Int)))) (a0 : List (Int)) (a1 : List (Int)) : Option ((List (Int)) × (List (Int))) :=
  (c73 a0).bind fun y1 =>
    if 0 ≤ ((List.length y1) : Int) ∧ Int.toNat ((List.length y1) : Int) * 1 ≤ LIM ∧ ((List.length y1) : Int) ≤ 140737488355328 then
      r_l0 a1 y1 (List.take (List.length y1) (List.replicate (List.length y1) false)) ([] : List Int) (IntKind.i64.wrap (((List.length y1) : Int) - (1 : Int)))
    else none
theorem f_ref3_Divide.q (c73 : f_ref3_Ones.E) (c94 : f_ref3_Double.E) (c54 : f_ref3_Compare.E) (c92 : f_ref3_Minus.E) (c101 : f_ref3_Binary.E) (r_l0 : (List (Int)) → (List (Bool)) → (List (Bool)) → (List (Int)) → (Int) → Option ((List (Int)) × (List (Int)))) (a0 : List (Int)) (a1 : List (Int)) : f_ref3_Divide.b c73 c94 c54 c92 c101 r_l0 a0 a1 = f_ref3_Divide.c c73 c94 c54 c92 c101 r_l0 a0 a1 := by
  simp only [f_ref3_Divide.b, f_ref3_Divide.c, List.take_length, take_one, Nat.zero_add, Int.toNat_natCast, Int.toNat_zero, List.drop_zero, List.append_eq, Nat.le_refl, Int.le_refl, true_and, and_true, zero_le_one, if_true, prod_eta, Int.natCast_zero]
def f_ref3_Divide.c_l0 (c73 : f_ref3_Ones.E) (c94 : f_ref3_Double.E) (c54 : f_ref3_Compare.E) (c92 : f_ref3_Minus.E) (c101 : f_ref3_Binary.E) (n_l0 : (List (Int)) → (List (Bool)) → (List (Bool)) → (List (Int)) → (Int) → Option ((List (Int)) × (List (Int)))) (x1 : List (Int)) (x6 : List (Bool)) (x7 : List (Bool)) (x8 : List (Int)) (x9 : Int) : Option ((List (Int)) × (List (Int))) :=
  bif (decide (x9 ≥ (0 : Int))) then
    if 0 ≤ x9 ∧ x9 < ((List.length x6) : Int) then
      (c94 (x8, (List.getD x6 (Int.toNat x9) false))).bind fun y2 =>
        (c54 (y2, x1)).bind fun y3 =>
          bif (decide (y3 ≥ (0 : Int))) then
            (c92 (y2, x1)).bind fun y4 =>
              if 0 ≤ x9 ∧ x9 < ((List.length x7) : Int) then
                n_l0 x1 x6 (List.take (List.length x7) (List.set x7 (0 + Int.toNat x9) true)) y4 (IntKind.i64.wrap (x9 - (1 : Int)))
              else none
          else
            n_l0 x1 x6 x7 y2 (IntKind.i64.wrap (x9 - (1 : Int)))
    else none
  else
    (c101 x7).bind fun y5 =>
      some (y5, x8)
theorem f_ref3_Divide.q_l0 (c73 : f_ref3_Ones.E) (c94 : f_ref3_Double.E) (c54 : f_ref3_Compare.E) (c92 : f_ref3_Minus.E) (c101 : f_ref3_Binary.E) (n_l0 : (List (Int)) → (List (Bool)) → (List (Bool)) → (List (Int)) → (Int) → Option ((List (Int)) × (List (Int)))) (x1 : List (Int)) (x6 : List (Bool)) (x7 : List (Bool)) (x8 : List (Int)) (x9 : Int) : f_ref3_Divide.b_l0 c73 c94 c54 c92 c101 n_l0 x1 x6 x7 x8 x9 = f_ref3_Divide.c_l0 c73 c94 c54 c92 c101 n_l0 x1 x6 x7 x8 x9 := by
  simp only [f_ref3_Divide.b_l0, f_ref3_Divide.c_l0, List.take_length, take_one, Nat.zero_add, Int.toNat_natCast, Int.toNat_zero, List.drop_zero, List.append_eq, Nat.le_refl, Int.le_refl, true_and, and_true, zero_le_one, if_true, prod_eta, Int.natCast_zero]
def f_ref3_Divide.l0 (c73 : f_ref3_Ones.E) (c94 : f_ref3_Double.E) (c54 : f_ref3_Compare.E) (c92 : f_ref3_Minus.E) (c101 : f_ref3_Binary.E) (k : Nat)  : Nat → (List (Int)) → (List (Bool)) → (List (Bool)) → (List (Int)) → (Int) → Option ((List (Int)) × (List (Int)))
  | 0, _, _, _, _, _ => none
  | n + 1, x1, x6, x7, x8, x9 => f_ref3_Divide.b_l0 c73 c94 c54 c92 c101 (fun x1 x6 x7 x8 x9 => f_ref3_Divide.l0 c73 c94 c54 c92 c101 k  n x1 x6 x7 x8 x9) x1 x6 x7 x8 x9
def f_ref3_Divide.f (c73 : f_ref3_Ones.E) (c94 : f_ref3_Double.E) (c54 : f_ref3_Compare.E) (c92 : f_ref3_Minus.E) (c101 : f_ref3_Binary.E) (k : Nat) (a0 : List (Int)) (a1 : List (Int)) : Option ((List (Int)) × (List (Int))) := f_ref3_Divide.b c73 c94 c54 c92 c101 (f_ref3_Divide.l0 c73 c94 c54 c92 c101 k k) a0 a1
noncomputable def f_ref3_Divide.M_l0 (c73 : f_ref3_Ones.E) (c94 : f_ref3_Double.E) (c54 : f_ref3_Compare.E) (c92 : f_ref3_Minus.E) (c101 : f_ref3_Binary.E) (k n : Nat)  (s : St) : Option ((List (Int)) × (List (Int))) := atLoop (f_ref3_Divide.C c73 c94 c54 c92 c101) k n [1, 1, 1, 1, 0, 1, 0] [] f_ref3_Divide.code (f_ref3_Divide.fin c73 c94 c54 c92 c101) s
noncomputable def f_ref3_Divide.fr_l0 (x1 : List (Int)) (x6 : List (Bool)) (x7 : List (Bool)) (x8 : List (Int)) (x9 : Int) : St := ⟨((((((List.replicate 41 V.un).set 1 (V.dat (.sl 3 (.int .i64)) x1)).set 6 (V.dat (.sl 4 .bool) x6)).set 7 (V.ref 500007 0 0 (List.length x7))).set 8 (V.dat (.sl 3 (.int .i64)) x8)).set 9 (V.dat (.int .i64) x9)), [⟨500007, 0, .arr 4 .bool x7⟩]⟩
theorem f_ref3_Divide.r (c73 : f_ref3_Ones.E) (c94 : f_ref3_Double.E) (c54 : f_ref3_Compare.E) (c92 : f_ref3_Minus.E) (c101 : f_ref3_Binary.E) (k : Nat) (a0 : List (Int)) (a1 : List (Int)) : fn (f_ref3_Divide.C c73 c94 c54 c92 c101) k Tryd.f100 f_ref3_Divide.A f_ref3_Divide.R (a0, a1) = f_ref3_Divide.b c73 c94 c54 c92 c101 (fun x1 x6 x7 x8 x9 => f_ref3_Divide.M_l0 c73 c94 c54 c92 c101 k k  (f_ref3_Divide.fr_l0 x1 x6 x7 x8 x9)) a0 a1 := by kernel_rfl
theorem f_ref3_Divide.z_l0 (c73 : f_ref3_Ones.E) (c94 : f_ref3_Double.E) (c54 : f_ref3_Compare.E) (c92 : f_ref3_Minus.E) (c101 : f_ref3_Binary.E) (k : Nat)  (s : St) : f_ref3_Divide.M_l0 c73 c94 c54 c92 c101 k 0  s = none := by kernel_rfl
theorem f_ref3_Divide.r_l0 (c73 : f_ref3_Ones.E) (c94 : f_ref3_Double.E) (c54 : f_ref3_Compare.E) (c92 : f_ref3_Minus.E) (c101 : f_ref3_Binary.E) (k n : Nat)  (x1 : List (Int)) (x6 : List (Bool)) (x7 : List (Bool)) (x8 : List (Int)) (x9 : Int) : f_ref3_Divide.M_l0 c73 c94 c54 c92 c101 k (n + 1)  (f_ref3_Divide.fr_l0 x1 x6 x7 x8 x9) = f_ref3_Divide.b_l0 c73 c94 c54 c92 c101 (fun x1 x6 x7 x8 x9 => f_ref3_Divide.M_l0 c73 c94 c54 c92 c101 k n  (f_ref3_Divide.fr_l0 x1 x6 x7 x8 x9)) x1 x6 x7 x8 x9 := by kernel_rfl
theorem f_ref3_Divide.e_l0 (c73 : f_ref3_Ones.E) (c94 : f_ref3_Double.E) (c54 : f_ref3_Compare.E) (c92 : f_ref3_Minus.E) (c101 : f_ref3_Binary.E) (k n : Nat)  (x1 : List (Int)) (x6 : List (Bool)) (x7 : List (Bool)) (x8 : List (Int)) (x9 : Int) : f_ref3_Divide.M_l0 c73 c94 c54 c92 c101 k n  (f_ref3_Divide.fr_l0 x1 x6 x7 x8 x9) = f_ref3_Divide.l0 c73 c94 c54 c92 c101 k  n x1 x6 x7 x8 x9 := by
  induction n generalizing x1 x6 x7 x8 x9 with
  | zero => rw [f_ref3_Divide.z_l0]; rfl
  | succ n ih =>
    rw [f_ref3_Divide.r_l0]
    simp only [ih]
    rfl
theorem f_ref3_Divide.e (c73 : f_ref3_Ones.E) (c94 : f_ref3_Double.E) (c54 : f_ref3_Compare.E) (c92 : f_ref3_Minus.E) (c101 : f_ref3_Binary.E) (k : Nat) (a0 : List (Int)) (a1 : List (Int)) : fn (f_ref3_Divide.C c73 c94 c54 c92 c101) k Tryd.f100 f_ref3_Divide.A f_ref3_Divide.R (a0, a1) = f_ref3_Divide.f c73 c94 c54 c92 c101 k a0 a1 := by
  rw [f_ref3_Divide.r]
  simp only [f_ref3_Divide.e_l0]
  rfl
theorem f_ref3_Divide.ty (c73 : f_ref3_Ones.E) (c94 : f_ref3_Double.E) (c54 : f_ref3_Compare.E) (c92 : f_ref3_Minus.E) (c101 : f_ref3_Binary.E) : TyOk Tryd.prog (f_ref3_Divide.C c73 c94 c54 c92 c101) := tyOk_of (by kernel_rfl)
def f_ref3_Divide.u (k : Nat) : f_ref3_Divide.E := fun y => f_ref3_Divide.f (f_ref3_Ones.u k) (f_ref3_Double.u k) (f_ref3_Compare.u k) (f_ref3_Minus.u k) (f_ref3_Binary.u k) k y.1 y.2
theorem f_ref3_Divide.sound (k : Nat) : Sound Tryd.prog ⟨100, f_ref3_Divide.A, f_ref3_Divide.R, f_ref3_Divide.u k⟩ := by
  have h := fn_sound (k := k) («as» := f_ref3_Divide.A) (rs := f_ref3_Divide.R) (f_ref3_Divide.ty (f_ref3_Ones.u k) (f_ref3_Double.u k) (f_ref3_Compare.u k) (f_ref3_Minus.u k) (f_ref3_Binary.u k)) (fun E h => by
    simp only [f_ref3_Divide.C, List.mem_cons, List.not_mem_nil, or_false] at h
    rcases h with rfl | rfl | rfl | rfl | rfl
    · exact f_ref3_Ones.sound k
    · exact f_ref3_Double.sound k
    · exact f_ref3_Compare.sound k
    · exact f_ref3_Minus.sound k
    · exact f_ref3_Binary.sound k) mixed Tryd.func100 (by kernel_rfl) (by kernel_rfl)
  have e : fn (f_ref3_Divide.C (f_ref3_Ones.u k) (f_ref3_Double.u k) (f_ref3_Compare.u k) (f_ref3_Minus.u k) (f_ref3_Binary.u k)) k Tryd.f100 f_ref3_Divide.A f_ref3_Divide.R = f_ref3_Divide.u k := by
    funext y
    exact f_ref3_Divide.e (f_ref3_Ones.u k) (f_ref3_Double.u k) (f_ref3_Compare.u k) (f_ref3_Minus.u k) (f_ref3_Binary.u k) k y.1 y.2
  rw [e] at h
  exact h
/-! ### (brindlewood/brindlewoodref3.Ratio).Lowest: f66 -/
abbrev f_ref3_Ratio_Lowest.A : List Sh := [(.d Y_Ratio)]
abbrev f_ref3_Ratio_Lowest.R : List Sh := [(.d Y_Ratio)]
abbrev f_ref3_Ratio_Lowest.E : Type := X_Ratio → Option X_Ratio
def f_ref3_Ratio_Lowest.C (c55 : f_ref3_Common.E) (c100 : f_ref3_Divide.E) : Ctx := { ty := [(4, .bool), (39, (.sl 3 (.int .i64))), (41, (.pair .bool (.sl 3 (.int .i64)))), (43, Y_Ratio)], nf := [(41, 2), (43, 2)], by_ := [(3, 8)], env := [⟨55, f_ref3_Common.A, f_ref3_Common.R, c55⟩, ⟨100, f_ref3_Divide.A, f_ref3_Divide.R, c100⟩], spec := [] }
noncomputable def f_ref3_Ratio_Lowest.code : Code := Func.code Tryd.f66
noncomputable def f_ref3_Ratio_Lowest.fin (c55 : f_ref3_Common.E) (c100 : f_ref3_Divide.E) := kfin (f_ref3_Ratio_Lowest.C c55 c100) Tryd.f66 f_ref3_Ratio_Lowest.A f_ref3_Ratio_Lowest.R
def f_ref3_Ratio_Lowest.b (c55 : f_ref3_Common.E) (c100 : f_ref3_Divide.E)  (a0 : X_Int × (List (Int))) : Option X_Ratio :=
  (c55 (a0.1.2, a0.2)).bind fun y1 =>
    (c100 (a0.1.2, y1)).bind fun y2 =>
      (c100 (a0.2, y1)).bind fun y3 =>
        some ((a0.1.1, y2.1), y3.1)
def f_ref3_Ratio_Lowest.f (c55 : f_ref3_Common.E) (c100 : f_ref3_Divide.E) (k : Nat) (a0 : X_Int × (List (Int))) : Option X_Ratio := f_ref3_Ratio_Lowest.b c55 c100  a0
theorem f_ref3_Ratio_Lowest.r (c55 : f_ref3_Common.E) (c100 : f_ref3_Divide.E) (k : Nat) (a0 : X_Int × (List (Int))) : fn (f_ref3_Ratio_Lowest.C c55 c100) k Tryd.f66 f_ref3_Ratio_Lowest.A f_ref3_Ratio_Lowest.R a0 = f_ref3_Ratio_Lowest.b c55 c100  a0 := by kernel_rfl
theorem f_ref3_Ratio_Lowest.e (c55 : f_ref3_Common.E) (c100 : f_ref3_Divide.E) (k : Nat) (a0 : X_Int × (List (Int))) : fn (f_ref3_Ratio_Lowest.C c55 c100) k Tryd.f66 f_ref3_Ratio_Lowest.A f_ref3_Ratio_Lowest.R a0 = f_ref3_Ratio_Lowest.f c55 c100 k a0 := by
  rw [f_ref3_Ratio_Lowest.r]
  rfl
theorem f_ref3_Ratio_Lowest.ty (c55 : f_ref3_Common.E) (c100 : f_ref3_Divide.E) : TyOk Tryd.prog (f_ref3_Ratio_Lowest.C c55 c100) := tyOk_of (by kernel_rfl)
def f_ref3_Ratio_Lowest.u (k : Nat) : f_ref3_Ratio_Lowest.E := fun y => f_ref3_Ratio_Lowest.f (f_ref3_Common.u k) (f_ref3_Divide.u k) k y
theorem f_ref3_Ratio_Lowest.sound (k : Nat) : Sound Tryd.prog ⟨66, f_ref3_Ratio_Lowest.A, f_ref3_Ratio_Lowest.R, f_ref3_Ratio_Lowest.u k⟩ := by
  have h := fn_sound (k := k) («as» := f_ref3_Ratio_Lowest.A) (rs := f_ref3_Ratio_Lowest.R) (f_ref3_Ratio_Lowest.ty (f_ref3_Common.u k) (f_ref3_Divide.u k)) (fun E h => by
    simp only [f_ref3_Ratio_Lowest.C, List.mem_cons, List.not_mem_nil, or_false] at h
    rcases h with rfl | rfl
    · exact f_ref3_Common.sound k
    · exact f_ref3_Divide.sound k) mixed Tryd.func66 (by kernel_rfl) (by kernel_rfl)
  have e : fn (f_ref3_Ratio_Lowest.C (f_ref3_Common.u k) (f_ref3_Divide.u k)) k Tryd.f66 f_ref3_Ratio_Lowest.A f_ref3_Ratio_Lowest.R = f_ref3_Ratio_Lowest.u k := by
    funext y
    exact f_ref3_Ratio_Lowest.e (f_ref3_Common.u k) (f_ref3_Divide.u k) k y
  rw [e] at h
  exact h
/-! ### (brindlewood/brindlewoodref3.Ratio).Plus: f30 -/
abbrev f_ref3_Ratio_Plus.A : List Sh := [(.d Y_Ratio), (.d Y_Ratio)]
abbrev f_ref3_Ratio_Plus.R : List Sh := [(.d Y_Ratio)]
abbrev f_ref3_Ratio_Plus.E : Type := (X_Ratio × X_Ratio) → Option X_Ratio
def f_ref3_Ratio_Plus.C (c43 : f_ref3_Int_Times.E) (c64 : f_ref3_Int_Plus.E) (c65 : f_ref3_Times.E) (c66 : f_ref3_Ratio_Lowest.E) : Ctx := { ty := [(39, (.sl 3 (.int .i64))), (41, (.pair .bool (.sl 3 (.int .i64)))), (43, Y_Ratio)], nf := [(41, 2), (43, 2)], by_ := [(3, 8)], env := [⟨43, f_ref3_Int_Times.A, f_ref3_Int_Times.R, c43⟩, ⟨64, f_ref3_Int_Plus.A, f_ref3_Int_Plus.R, c64⟩, ⟨65, f_ref3_Times.A, f_ref3_Times.R, c65⟩, ⟨66, f_ref3_Ratio_Lowest.A, f_ref3_Ratio_Lowest.R, c66⟩], spec := [] }
noncomputable def f_ref3_Ratio_Plus.code : Code := Func.code Tryd.f30
noncomputable def f_ref3_Ratio_Plus.fin (c43 : f_ref3_Int_Times.E) (c64 : f_ref3_Int_Plus.E) (c65 : f_ref3_Times.E) (c66 : f_ref3_Ratio_Lowest.E) := kfin (f_ref3_Ratio_Plus.C c43 c64 c65 c66) Tryd.f30 f_ref3_Ratio_Plus.A f_ref3_Ratio_Plus.R
def f_ref3_Ratio_Plus.b (c43 : f_ref3_Int_Times.E) (c64 : f_ref3_Int_Plus.E) (c65 : f_ref3_Times.E) (c66 : f_ref3_Ratio_Lowest.E)  (a0 : X_Int × (List (Int))) (a1 : X_Int × (List (Int))) : Option X_Ratio :=
  (c43 (a0.1, (false, a1.2))).bind fun y1 =>
    (c43 (a1.1, (false, a0.2))).bind fun y2 =>
      (c64 (y1, y2)).bind fun y3 =>
        (c65 (a0.2, a1.2)).bind fun y4 =>
          (c66 (y3, y4)).bind fun y5 =>
            some y5
def f_ref3_Ratio_Plus.f (c43 : f_ref3_Int_Times.E) (c64 : f_ref3_Int_Plus.E) (c65 : f_ref3_Times.E) (c66 : f_ref3_Ratio_Lowest.E) (k : Nat) (a0 : X_Int × (List (Int))) (a1 : X_Int × (List (Int))) : Option X_Ratio := f_ref3_Ratio_Plus.b c43 c64 c65 c66  a0 a1
theorem f_ref3_Ratio_Plus.r (c43 : f_ref3_Int_Times.E) (c64 : f_ref3_Int_Plus.E) (c65 : f_ref3_Times.E) (c66 : f_ref3_Ratio_Lowest.E) (k : Nat) (a0 : X_Int × (List (Int))) (a1 : X_Int × (List (Int))) : fn (f_ref3_Ratio_Plus.C c43 c64 c65 c66) k Tryd.f30 f_ref3_Ratio_Plus.A f_ref3_Ratio_Plus.R (a0, a1) = f_ref3_Ratio_Plus.b c43 c64 c65 c66  a0 a1 := by kernel_rfl
theorem f_ref3_Ratio_Plus.e (c43 : f_ref3_Int_Times.E) (c64 : f_ref3_Int_Plus.E) (c65 : f_ref3_Times.E) (c66 : f_ref3_Ratio_Lowest.E) (k : Nat) (a0 : X_Int × (List (Int))) (a1 : X_Int × (List (Int))) : fn (f_ref3_Ratio_Plus.C c43 c64 c65 c66) k Tryd.f30 f_ref3_Ratio_Plus.A f_ref3_Ratio_Plus.R (a0, a1) = f_ref3_Ratio_Plus.f c43 c64 c65 c66 k a0 a1 := by
  rw [f_ref3_Ratio_Plus.r]
  rfl
theorem f_ref3_Ratio_Plus.ty (c43 : f_ref3_Int_Times.E) (c64 : f_ref3_Int_Plus.E) (c65 : f_ref3_Times.E) (c66 : f_ref3_Ratio_Lowest.E) : TyOk Tryd.prog (f_ref3_Ratio_Plus.C c43 c64 c65 c66) := tyOk_of (by kernel_rfl)
def f_ref3_Ratio_Plus.u (k : Nat) : f_ref3_Ratio_Plus.E := fun y => f_ref3_Ratio_Plus.f (f_ref3_Int_Times.u k) (f_ref3_Int_Plus.u k) (f_ref3_Times.u k) (f_ref3_Ratio_Lowest.u k) k y.1 y.2
theorem f_ref3_Ratio_Plus.sound (k : Nat) : Sound Tryd.prog ⟨30, f_ref3_Ratio_Plus.A, f_ref3_Ratio_Plus.R, f_ref3_Ratio_Plus.u k⟩ := by
  have h := fn_sound (k := k) («as» := f_ref3_Ratio_Plus.A) (rs := f_ref3_Ratio_Plus.R) (f_ref3_Ratio_Plus.ty (f_ref3_Int_Times.u k) (f_ref3_Int_Plus.u k) (f_ref3_Times.u k) (f_ref3_Ratio_Lowest.u k)) (fun E h => by
    simp only [f_ref3_Ratio_Plus.C, List.mem_cons, List.not_mem_nil, or_false] at h
    rcases h with rfl | rfl | rfl | rfl
    · exact f_ref3_Int_Times.sound k
    · exact f_ref3_Int_Plus.sound k
    · exact f_ref3_Times.sound k
    · exact f_ref3_Ratio_Lowest.sound k) mixed Tryd.func30 (by kernel_rfl) (by kernel_rfl)
  have e : fn (f_ref3_Ratio_Plus.C (f_ref3_Int_Times.u k) (f_ref3_Int_Plus.u k) (f_ref3_Times.u k) (f_ref3_Ratio_Lowest.u k)) k Tryd.f30 f_ref3_Ratio_Plus.A f_ref3_Ratio_Plus.R = f_ref3_Ratio_Plus.u k := by
    funext y
    exact f_ref3_Ratio_Plus.e (f_ref3_Int_Times.u k) (f_ref3_Int_Plus.u k) (f_ref3_Times.u k) (f_ref3_Ratio_Lowest.u k) k y.1 y.2
  rw [e] at h
  exact h
/-! ### (brindlewood/brindlewoodref3.Int).Fits: f102 -/
abbrev f_ref3_Int_Fits.A : List Sh := [(.d (.pair .bool (.sl 3 (.int .i64)))), (.d (.int .i64))]
abbrev f_ref3_Int_Fits.R : List Sh := [(.d .bool)]
abbrev f_ref3_Int_Fits.E : Type := (X_Int × (Int)) → Option (Bool)
def f_ref3_Int_Fits.C  : Ctx := { ty := [(3, (.int .i64)), (39, (.sl 3 (.int .i64))), (41, (.pair .bool (.sl 3 (.int .i64))))], nf := [(41, 2)], by_ := [(3, 8)], env := [], spec := [] }
noncomputable def f_ref3_Int_Fits.code : Code := Func.code Tryd.f102
noncomputable def f_ref3_Int_Fits.fin  := kfin (f_ref3_Int_Fits.C ) Tryd.f102 f_ref3_Int_Fits.A f_ref3_Int_Fits.R
def f_ref3_Int_Fits.b   (a0 : (Bool) × (List (Int))) (a1 : Int) : Option (Bool) :=
  some (decide (((List.length a0.2) : Int) ≤ (IntKind.i64.wrap ((2 : Int) * a1))))
def f_ref3_Int_Fits.f  (k : Nat) (a0 : (Bool) × (List (Int))) (a1 : Int) : Option (Bool) := f_ref3_Int_Fits.b   a0 a1
theorem f_ref3_Int_Fits.r  (k : Nat) (a0 : (Bool) × (List (Int))) (a1 : Int) : fn (f_ref3_Int_Fits.C ) k Tryd.f102 f_ref3_Int_Fits.A f_ref3_Int_Fits.R (a0, a1) = f_ref3_Int_Fits.b   a0 a1 := by kernel_rfl
theorem f_ref3_Int_Fits.e  (k : Nat) (a0 : (Bool) × (List (Int))) (a1 : Int) : fn (f_ref3_Int_Fits.C ) k Tryd.f102 f_ref3_Int_Fits.A f_ref3_Int_Fits.R (a0, a1) = f_ref3_Int_Fits.f  k a0 a1 := by
  rw [f_ref3_Int_Fits.r]
  rfl
theorem f_ref3_Int_Fits.ty  : TyOk Tryd.prog (f_ref3_Int_Fits.C ) := tyOk_of (by kernel_rfl)
def f_ref3_Int_Fits.u (k : Nat) : f_ref3_Int_Fits.E := fun y => f_ref3_Int_Fits.f  k y.1 y.2
theorem f_ref3_Int_Fits.sound (k : Nat) : Sound Tryd.prog ⟨102, f_ref3_Int_Fits.A, f_ref3_Int_Fits.R, f_ref3_Int_Fits.u k⟩ := by
  have h := fn_sound (k := k) («as» := f_ref3_Int_Fits.A) (rs := f_ref3_Int_Fits.R) (f_ref3_Int_Fits.ty ) (fun E h => by cases h) mixed Tryd.func102 (by kernel_rfl) (by kernel_rfl)
  have e : fn (f_ref3_Int_Fits.C ) k Tryd.f102 f_ref3_Int_Fits.A f_ref3_Int_Fits.R = f_ref3_Int_Fits.u k := by
    funext y
    exact f_ref3_Int_Fits.e  k y.1 y.2
  rw [e] at h
  exact h
/-! ### (brindlewood/brindlewoodref3.Ratio).Fits: f97 -/
abbrev f_ref3_Ratio_Fits.A : List Sh := [(.d Y_Ratio)]
abbrev f_ref3_Ratio_Fits.R : List Sh := [(.d .bool)]
abbrev f_ref3_Ratio_Fits.E : Type := X_Ratio → Option (Bool)
def f_ref3_Ratio_Fits.C (c102 : f_ref3_Int_Fits.E) : Ctx := { ty := [(3, (.int .i64)), (39, (.sl 3 (.int .i64))), (41, (.pair .bool (.sl 3 (.int .i64)))), (43, Y_Ratio)], nf := [(43, 2)], by_ := [(3, 8)], env := [⟨102, f_ref3_Int_Fits.A, f_ref3_Int_Fits.R, c102⟩], spec := [] }
noncomputable def f_ref3_Ratio_Fits.code : Code := Func.code Tryd.f97
noncomputable def f_ref3_Ratio_Fits.fin (c102 : f_ref3_Int_Fits.E) := kfin (f_ref3_Ratio_Fits.C c102) Tryd.f97 f_ref3_Ratio_Fits.A f_ref3_Ratio_Fits.R
def f_ref3_Ratio_Fits.b (c102 : f_ref3_Int_Fits.E)  (a0 : X_Int × (List (Int))) : Option (Bool) :=
  (c102 (a0.1, (128 : Int))).bind fun y1 =>
    bif y1 then
      some (decide (((List.length a0.2) : Int) ≤ (256 : Int)))
    else
      some false
def f_ref3_Ratio_Fits.f (c102 : f_ref3_Int_Fits.E) (k : Nat) (a0 : X_Int × (List (Int))) : Option (Bool) := f_ref3_Ratio_Fits.b c102  a0
theorem f_ref3_Ratio_Fits.r (c102 : f_ref3_Int_Fits.E) (k : Nat) (a0 : X_Int × (List (Int))) : fn (f_ref3_Ratio_Fits.C c102) k Tryd.f97 f_ref3_Ratio_Fits.A f_ref3_Ratio_Fits.R a0 = f_ref3_Ratio_Fits.b c102  a0 := by kernel_rfl
theorem f_ref3_Ratio_Fits.e (c102 : f_ref3_Int_Fits.E) (k : Nat) (a0 : X_Int × (List (Int))) : fn (f_ref3_Ratio_Fits.C c102) k Tryd.f97 f_ref3_Ratio_Fits.A f_ref3_Ratio_Fits.R a0 = f_ref3_Ratio_Fits.f c102 k a0 := by
  rw [f_ref3_Ratio_Fits.r]
  rfl
theorem f_ref3_Ratio_Fits.ty (c102 : f_ref3_Int_Fits.E) : TyOk Tryd.prog (f_ref3_Ratio_Fits.C c102) := tyOk_of (by kernel_rfl)
def f_ref3_Ratio_Fits.u (k : Nat) : f_ref3_Ratio_Fits.E := fun y => f_ref3_Ratio_Fits.f (f_ref3_Int_Fits.u k) k y
theorem f_ref3_Ratio_Fits.sound (k : Nat) : Sound Tryd.prog ⟨97, f_ref3_Ratio_Fits.A, f_ref3_Ratio_Fits.R, f_ref3_Ratio_Fits.u k⟩ := by
  have h := fn_sound (k := k) («as» := f_ref3_Ratio_Fits.A) (rs := f_ref3_Ratio_Fits.R) (f_ref3_Ratio_Fits.ty (f_ref3_Int_Fits.u k)) (fun E h => by
    simp only [f_ref3_Ratio_Fits.C, List.mem_cons, List.not_mem_nil, or_false] at h
    rcases h with rfl
    · exact f_ref3_Int_Fits.sound k) mixed Tryd.func97 (by kernel_rfl) (by kernel_rfl)
  have e : fn (f_ref3_Ratio_Fits.C (f_ref3_Int_Fits.u k)) k Tryd.f97 f_ref3_Ratio_Fits.A f_ref3_Ratio_Fits.R = f_ref3_Ratio_Fits.u k := by
    funext y
    exact f_ref3_Ratio_Fits.e (f_ref3_Int_Fits.u k) k y
  rw [e] at h
  exact h
/-! ### brindlewood/brindlewoodref3.Limbs: f99 -/
abbrev f_ref3_Limbs.A : List Sh := [(.d (.sl 3 (.int .i64)))]
abbrev f_ref3_Limbs.R : List Sh := [(.d (.sl 61 (.int .u32)))]
abbrev f_ref3_Limbs.E : Type := (List (Int)) → Option (List (Int))
def f_ref3_Limbs.C  : Ctx := { ty := [(3, (.int .i64)), (22, (.sl 61 (.int .u32))), (39, (.sl 3 (.int .i64))), (61, (.int .u32))], nf := [], by_ := [(3, 8), (61, 4)], env := [], spec := [(0, [.d 0 (.sl 3 (.int .i64)), .o 3 500003 61 (.int .u32), .d 4 (.int .i64)]), (100008, [.d 0 (.sl 3 (.int .i64)), .o 3 500003 61 (.int .u32), .d 4 (.int .i64), .d 5 (.int .u32)])] }
noncomputable def f_ref3_Limbs.code : Code := Func.code Tryd.f99
noncomputable def f_ref3_Limbs.fin  := kfin (f_ref3_Limbs.C ) Tryd.f99 f_ref3_Limbs.A f_ref3_Limbs.R
def f_ref3_Limbs.b  (r_l0 : (List (Int)) → (List (Int)) → (Int) → Option (List (Int))) (a0 : List (Int)) : Option (List (Int)) :=
  r_l0 a0 ([] : List (Int)) (0 : Int)
def f_ref3_Limbs.b_l0  (r_g8 : (List (Int)) → (List (Int)) → (Int) → (Int) → Option (List (Int))) (x0 : List (Int)) (x3 : List (Int)) (x4 : Int) : Option (List (Int)) :=
  bif (decide (x4 < ((List.length x0) : Int))) then
    if 0 ≤ x4 ∧ x4 < ((List.length x0) : Int) then
      bif (decide ((IntKind.i64.wrap (x4 + (1 : Int))) < ((List.length x0) : Int))) then
        if 0 ≤ (IntKind.i64.wrap (x4 + (1 : Int))) ∧ (IntKind.i64.wrap (x4 + (1 : Int))) < ((List.length x0) : Int) then
          r_g8 x0 (List.take (List.length x3) x3) x4 (IntKind.u32.wrap ((IntKind.u32.wrap (List.getD x0 (Int.toNat x4) (0 : Int))) + (IntKind.u32.wrap ((IntKind.u32.wrap (List.getD x0 (Int.toNat (IntKind.i64.wrap (x4 + (1 : Int)))) (0 : Int))) * (65536 : Int)))))
        else none
      else
        r_g8 x0 (List.take (List.length x3) x3) x4 (IntKind.u32.wrap (List.getD x0 (Int.toNat x4) (0 : Int)))
    else none
  else
    some (List.take (List.length x3) x3)
def f_ref3_Limbs.b_g8  (n_l0 : (List (Int)) → (List (Int)) → (Int) → Option (List (Int))) (x0 : List (Int)) (x3 : List (Int)) (x4 : Int) (x5 : Int) : Option (List (Int)) :=
  if (List.length x3) ≤ (List.length x3) ∧ ((List.length x3) + (List.length (List.take 1 ([x5] : List (Int))))) * 4 ≤ LIM then
    n_l0 x0 (List.take (List.length (List.append (List.take (List.length x3) x3) (List.take 1 ([x5] : List (Int))))) (List.append (List.take (List.length x3) x3) (List.take 1 ([x5] : List (Int))))) (IntKind.i64.wrap (x4 + (2 : Int)))
  else none
def f_ref3_Limbs.c  (r_l0 : (List (Int)) → (List (Int)) → (Int) → Option (List (Int))) (a0 : List (Int)) : Option (List (Int)) :=
  r_l0 a0 ([] : List Int) (0 : Int)
theorem f_ref3_Limbs.q  (r_l0 : (List (Int)) → (List (Int)) → (Int) → Option (List (Int))) (a0 : List (Int)) : f_ref3_Limbs.b  r_l0 a0 = f_ref3_Limbs.c  r_l0 a0 := by
  simp only [f_ref3_Limbs.b, f_ref3_Limbs.c, List.take_length, take_one, Nat.zero_add, Int.toNat_natCast, Int.toNat_zero, List.drop_zero, List.append_eq, Nat.le_refl, Int.le_refl, true_and, and_true, zero_le_one, if_true, prod_eta, Int.natCast_zero]
def f_ref3_Limbs.c_l0  (r_g8 : (List (Int)) → (List (Int)) → (Int) → (Int) → Option (List (Int))) (x0 : List (Int)) (x3 : List (Int)) (x4 : Int) : Option (List (Int)) :=
  bif (decide (x4 < ((List.length x0) : Int))) then
    if 0 ≤ x4 ∧ x4 < ((List.length x0) : Int) then
      bif (decide ((IntKind.i64.wrap (x4 + (1 : Int))) < ((List.length x0) : Int))) then
        if 0 ≤ (IntKind.i64.wrap (x4 + (1 : Int))) ∧ (IntKind.i64.wrap (x4 + (1 : Int))) < ((List.length x0) : Int) then
          r_g8 x0 x3 x4 (IntKind.u32.wrap ((IntKind.u32.wrap (List.getD x0 (Int.toNat x4) (0 : Int))) + (IntKind.u32.wrap ((IntKind.u32.wrap (List.getD x0 (Int.toNat (IntKind.i64.wrap (x4 + (1 : Int)))) (0 : Int))) * (65536 : Int)))))
        else none
      else
        r_g8 x0 x3 x4 (IntKind.u32.wrap (List.getD x0 (Int.toNat x4) (0 : Int)))
    else none
  else
    some x3
theorem f_ref3_Limbs.q_l0  (r_g8 : (List (Int)) → (List (Int)) → (Int) → (Int) → Option (List (Int))) (x0 : List (Int)) (x3 : List (Int)) (x4 : Int) : f_ref3_Limbs.b_l0  r_g8 x0 x3 x4 = f_ref3_Limbs.c_l0  r_g8 x0 x3 x4 := by
  simp only [f_ref3_Limbs.b_l0, f_ref3_Limbs.c_l0, List.take_length, take_one, Nat.zero_add, Int.toNat_natCast, Int.toNat_zero, List.drop_zero, List.append_eq, Nat.le_refl, Int.le_refl, true_and, and_true, zero_le_one, if_true, prod_eta, Int.natCast_zero]
def f_ref3_Limbs.c_g8  (n_l0 : (List (Int)) → (List (Int)) → (Int) → Option (List (Int))) (x0 : List (Int)) (x3 : List (Int)) (x4 : Int) (x5 : Int) : Option (List (Int)) :=
  if ((List.length x3) + (List.length ([x5] : List Int))) * 4 ≤ LIM then
    n_l0 x0 (x3 ++ ([x5] : List Int)) (IntKind.i64.wrap (x4 + (2 : Int)))
  else none
theorem f_ref3_Limbs.q_g8  (n_l0 : (List (Int)) → (List (Int)) → (Int) → Option (List (Int))) (x0 : List (Int)) (x3 : List (Int)) (x4 : Int) (x5 : Int) : f_ref3_Limbs.b_g8  n_l0 x0 x3 x4 x5 = f_ref3_Limbs.c_g8  n_l0 x0 x3 x4 x5 := by
  simp only [f_ref3_Limbs.b_g8, f_ref3_Limbs.c_g8, List.take_length, take_one, Nat.zero_add, Int.toNat_natCast, Int.toNat_zero, List.drop_zero, List.append_eq, Nat.le_refl, Int.le_refl, true_and, and_true, zero_le_one, if_true, prod_eta, Int.natCast_zero]
def f_ref3_Limbs.g8  (k : Nat) (n_l0 : (List (Int)) → (List (Int)) → (Int) → Option (List (Int))) (x0 : List (Int)) (x3 : List (Int)) (x4 : Int) (x5 : Int) : Option (List (Int)) := gate k (f_ref3_Limbs.b_g8  n_l0 x0 x3 x4 x5)
def f_ref3_Limbs.l0  (k : Nat)  : Nat → (List (Int)) → (List (Int)) → (Int) → Option (List (Int))
  | 0, _, _, _ => none
  | n + 1, x0, x3, x4 => f_ref3_Limbs.b_l0  (f_ref3_Limbs.g8  k (fun x0 x3 x4 => f_ref3_Limbs.l0  k  n x0 x3 x4)) x0 x3 x4
def f_ref3_Limbs.f  (k : Nat) (a0 : List (Int)) : Option (List (Int)) := f_ref3_Limbs.b  (f_ref3_Limbs.l0  k k) a0
noncomputable def f_ref3_Limbs.M_l0  (k n : Nat)  (s : St) : Option (List (Int)) := atLoop (f_ref3_Limbs.C ) k n [1, 1, 0, 1, 0] [] f_ref3_Limbs.code (f_ref3_Limbs.fin ) s
noncomputable def f_ref3_Limbs.fr_l0 (x0 : List (Int)) (x3 : List (Int)) (x4 : Int) : St := ⟨((((List.replicate 36 V.un).set 0 (V.dat (.sl 3 (.int .i64)) x0)).set 3 (V.ref 500003 0 0 (List.length x3))).set 4 (V.dat (.int .i64) x4)), [⟨500003, 0, .arr 61 (.int .u32) x3⟩]⟩
noncomputable def f_ref3_Limbs.M_g8  (k : Nat) (m0 : Nat) (s : St) : Option (List (Int)) := atGate (f_ref3_Limbs.C ) k [1, 1, 0, 1, 0, 0, 1, 0, 0, 1, 1] [m0] f_ref3_Limbs.code (f_ref3_Limbs.fin ) s
noncomputable def f_ref3_Limbs.fr_g8 (x0 : List (Int)) (x3 : List (Int)) (x4 : Int) (x5 : Int) : St := ⟨(((((List.replicate 36 V.un).set 0 (V.dat (.sl 3 (.int .i64)) x0)).set 3 (V.ref 500003 0 0 (List.length x3))).set 4 (V.dat (.int .i64) x4)).set 5 (V.dat (.int .u32) x5)), [⟨500003, 0, .arr 61 (.int .u32) x3⟩]⟩
theorem f_ref3_Limbs.r  (k : Nat) (a0 : List (Int)) : fn (f_ref3_Limbs.C ) k Tryd.f99 f_ref3_Limbs.A f_ref3_Limbs.R a0 = f_ref3_Limbs.b  (fun x0 x3 x4 => f_ref3_Limbs.M_l0  k k  (f_ref3_Limbs.fr_l0 x0 x3 x4)) a0 := by kernel_rfl
theorem f_ref3_Limbs.z_l0  (k : Nat)  (s : St) : f_ref3_Limbs.M_l0  k 0  s = none := by kernel_rfl
theorem f_ref3_Limbs.r_l0  (k n : Nat)  (x0 : List (Int)) (x3 : List (Int)) (x4 : Int) : f_ref3_Limbs.M_l0  k (n + 1)  (f_ref3_Limbs.fr_l0 x0 x3 x4) = f_ref3_Limbs.b_l0  (fun x0 x3 x4 x5 => f_ref3_Limbs.M_g8  k  n (f_ref3_Limbs.fr_g8 x0 x3 x4 x5)) x0 x3 x4 := by kernel_rfl
theorem f_ref3_Limbs.r_g8  (k : Nat) (m0 : Nat) (x0 : List (Int)) (x3 : List (Int)) (x4 : Int) (x5 : Int) : f_ref3_Limbs.M_g8  k m0 (f_ref3_Limbs.fr_g8 x0 x3 x4 x5) = gate k (f_ref3_Limbs.b_g8  (fun x0 x3 x4 => f_ref3_Limbs.M_l0  k m0  (f_ref3_Limbs.fr_l0 x0 x3 x4)) x0 x3 x4 x5) := by kernel_rfl
theorem f_ref3_Limbs.e_g8  (k : Nat) (m0 : Nat) (x0 : List (Int)) (x3 : List (Int)) (x4 : Int) (x5 : Int) : f_ref3_Limbs.M_g8  k m0 (f_ref3_Limbs.fr_g8 x0 x3 x4 x5) = f_ref3_Limbs.g8  k (fun x0 x3 x4 => f_ref3_Limbs.M_l0  k m0  (f_ref3_Limbs.fr_l0 x0 x3 x4)) x0 x3 x4 x5 := by
  rw [f_ref3_Limbs.r_g8]
  rfl
theorem f_ref3_Limbs.e_l0  (k n : Nat)  (x0 : List (Int)) (x3 : List (Int)) (x4 : Int) : f_ref3_Limbs.M_l0  k n  (f_ref3_Limbs.fr_l0 x0 x3 x4) = f_ref3_Limbs.l0  k  n x0 x3 x4 := by
  induction n generalizing x0 x3 x4 with
  | zero => rw [f_ref3_Limbs.z_l0]; rfl
  | succ n ih =>
    rw [f_ref3_Limbs.r_l0]
    simp only [f_ref3_Limbs.e_g8, ih]
    rfl
theorem f_ref3_Limbs.e  (k : Nat) (a0 : List (Int)) : fn (f_ref3_Limbs.C ) k Tryd.f99 f_ref3_Limbs.A f_ref3_Limbs.R a0 = f_ref3_Limbs.f  k a0 := by
  rw [f_ref3_Limbs.r]
  simp only [f_ref3_Limbs.e_l0]
  rfl
theorem f_ref3_Limbs.ty  : TyOk Tryd.prog (f_ref3_Limbs.C ) := tyOk_of (by kernel_rfl)
def f_ref3_Limbs.u (k : Nat) : f_ref3_Limbs.E := fun y => f_ref3_Limbs.f  k y
theorem f_ref3_Limbs.sound (k : Nat) : Sound Tryd.prog ⟨99, f_ref3_Limbs.A, f_ref3_Limbs.R, f_ref3_Limbs.u k⟩ := by
  have h := fn_sound (k := k) («as» := f_ref3_Limbs.A) (rs := f_ref3_Limbs.R) (f_ref3_Limbs.ty ) (fun E h => by cases h) mixed Tryd.func99 (by kernel_rfl) (by kernel_rfl)
  have e : fn (f_ref3_Limbs.C ) k Tryd.f99 f_ref3_Limbs.A f_ref3_Limbs.R = f_ref3_Limbs.u k := by
    funext y
    exact f_ref3_Limbs.e  k y
  rw [e] at h
  exact h
/-! ### brindlewood/brindlewoodref7.Whole: f98 -/
abbrev f_ref7_Whole.A : List Sh := [(.d (.pair .bool (.sl 3 (.int .i64))))]
abbrev f_ref7_Whole.R : List Sh := [(.d Y_Value)]
abbrev f_ref7_Whole.E : Type := X_Int → Option X_Value
def f_ref7_Whole.C (c99 : f_ref3_Limbs.E) : Ctx := { ty := [(3, (.int .i64)), (4, .bool), (24, Y_Int), (26, Y_Value), (39, (.sl 3 (.int .i64))), (41, (.pair .bool (.sl 3 (.int .i64))))], nf := [(24, 2), (26, 5), (41, 2)], by_ := [(3, 8)], env := [⟨99, f_ref3_Limbs.A, f_ref3_Limbs.R, c99⟩], spec := [] }
noncomputable def f_ref7_Whole.code : Code := Func.code Tryd.f98
noncomputable def f_ref7_Whole.fin (c99 : f_ref3_Limbs.E) := kfin (f_ref7_Whole.C c99) Tryd.f98 f_ref7_Whole.A f_ref7_Whole.R
def f_ref7_Whole.b (c99 : f_ref3_Limbs.E)  (a0 : (Bool) × (List (Int))) : Option X_Value :=
  bif a0.1 then
    (c99 a0.2).bind fun y1 =>
      some ((2 : Int), (((decide (((List.length a0.2) : Int) > (0 : Int))), y1), ((false, ([] : List (Int))), ([], (0 : Int)))))
  else
    (c99 a0.2).bind fun y2 =>
      some ((2 : Int), ((false, y2), ((false, ([] : List (Int))), ([], (0 : Int)))))
def f_ref7_Whole.c (c99 : f_ref3_Limbs.E)  (a0 : (Bool) × (List (Int))) : Option X_Value :=
  bif a0.1 then
    (c99 a0.2).bind fun y1 =>
      some ((2 : Int), (((decide (((List.length a0.2) : Int) > (0 : Int))), y1), ((false, ([] : List Int)), ([], (0 : Int)))))
  else
    (c99 a0.2).bind fun y2 =>
      some ((2 : Int), ((false, y2), ((false, ([] : List Int)), ([], (0 : Int)))))
theorem f_ref7_Whole.q (c99 : f_ref3_Limbs.E)  (a0 : (Bool) × (List (Int))) : f_ref7_Whole.b c99 a0 = f_ref7_Whole.c c99 a0 := by
  simp only [f_ref7_Whole.b, f_ref7_Whole.c, List.take_length, take_one, Nat.zero_add, Int.toNat_natCast, Int.toNat_zero, List.drop_zero, List.append_eq, Nat.le_refl, Int.le_refl, true_and, and_true, zero_le_one, if_true, prod_eta, Int.natCast_zero]
def f_ref7_Whole.f (c99 : f_ref3_Limbs.E) (k : Nat) (a0 : (Bool) × (List (Int))) : Option X_Value := f_ref7_Whole.b c99  a0
theorem f_ref7_Whole.r (c99 : f_ref3_Limbs.E) (k : Nat) (a0 : (Bool) × (List (Int))) : fn (f_ref7_Whole.C c99) k Tryd.f98 f_ref7_Whole.A f_ref7_Whole.R a0 = f_ref7_Whole.b c99  a0 := by kernel_rfl
theorem f_ref7_Whole.e (c99 : f_ref3_Limbs.E) (k : Nat) (a0 : (Bool) × (List (Int))) : fn (f_ref7_Whole.C c99) k Tryd.f98 f_ref7_Whole.A f_ref7_Whole.R a0 = f_ref7_Whole.f c99 k a0 := by
  rw [f_ref7_Whole.r]
  rfl
theorem f_ref7_Whole.ty (c99 : f_ref3_Limbs.E) : TyOk Tryd.prog (f_ref7_Whole.C c99) := tyOk_of (by kernel_rfl)
def f_ref7_Whole.u (k : Nat) : f_ref7_Whole.E := fun y => f_ref7_Whole.f (f_ref3_Limbs.u k) k y
theorem f_ref7_Whole.sound (k : Nat) : Sound Tryd.prog ⟨98, f_ref7_Whole.A, f_ref7_Whole.R, f_ref7_Whole.u k⟩ := by
  have h := fn_sound (k := k) («as» := f_ref7_Whole.A) (rs := f_ref7_Whole.R) (f_ref7_Whole.ty (f_ref3_Limbs.u k)) (fun E h => by
    simp only [f_ref7_Whole.C, List.mem_cons, List.not_mem_nil, or_false] at h
    rcases h with rfl
    · exact f_ref3_Limbs.sound k) mixed Tryd.func98 (by kernel_rfl) (by kernel_rfl)
  have e : fn (f_ref7_Whole.C (f_ref3_Limbs.u k)) k Tryd.f98 f_ref7_Whole.A f_ref7_Whole.R = f_ref7_Whole.u k := by
    funext y
    exact f_ref7_Whole.e (f_ref3_Limbs.u k) k y
  rw [e] at h
  exact h
/-! ### brindlewood/brindlewoodref7.Value: f61 -/
abbrev f_ref7_Value.A : List Sh := [(.d Y_Ratio)]
abbrev f_ref7_Value.R : List Sh := [(.d Y_Value), (.d .bool)]
abbrev f_ref7_Value.E : Type := X_Ratio → Option (X_Value × (Bool))
def f_ref7_Value.C (c97 : f_ref3_Ratio_Fits.E) (c98 : f_ref7_Whole.E) (c57 : f_ref3_Small.E) (c54 : f_ref3_Compare.E) (c99 : f_ref3_Limbs.E) : Ctx := { ty := [(3, (.int .i64)), (24, Y_Int), (26, Y_Value), (39, (.sl 3 (.int .i64))), (41, (.pair .bool (.sl 3 (.int .i64)))), (43, Y_Ratio)], nf := [(24, 2), (26, 5), (43, 2)], by_ := [(3, 8)], env := [⟨97, f_ref3_Ratio_Fits.A, f_ref3_Ratio_Fits.R, c97⟩, ⟨98, f_ref7_Whole.A, f_ref7_Whole.R, c98⟩, ⟨57, f_ref3_Small.A, f_ref3_Small.R, c57⟩, ⟨54, f_ref3_Compare.A, f_ref3_Compare.R, c54⟩, ⟨99, f_ref3_Limbs.A, f_ref3_Limbs.R, c99⟩], spec := [] }
noncomputable def f_ref7_Value.code : Code := Func.code Tryd.f61
noncomputable def f_ref7_Value.fin (c97 : f_ref3_Ratio_Fits.E) (c98 : f_ref7_Whole.E) (c57 : f_ref3_Small.E) (c54 : f_ref3_Compare.E) (c99 : f_ref3_Limbs.E) := kfin (f_ref7_Value.C c97 c98 c57 c54 c99) Tryd.f61 f_ref7_Value.A f_ref7_Value.R
def f_ref7_Value.b (c97 : f_ref3_Ratio_Fits.E) (c98 : f_ref7_Whole.E) (c57 : f_ref3_Small.E) (c54 : f_ref3_Compare.E) (c99 : f_ref3_Limbs.E)  (a0 : X_Int × (List (Int))) : Option (X_Value × (Bool)) :=
  (c97 a0).bind fun y1 =>
    bif (!y1) then
      some (((0 : Int), ((false, ([] : List (Int))), ((false, ([] : List (Int))), ([], (0 : Int))))), false)
    else
      (c98 a0.1).bind fun y2 =>
        (c57 (1 : Int)).bind fun y3 =>
          (c54 (a0.2, y3)).bind fun y4 =>
            bif (y4 != (0 : Int)) then
              (c99 a0.2).bind fun y5 =>
                some (((3 : Int), (y2.2.1, ((false, y5), y2.2.2.2))), true)
            else
              some (y2, true)
def f_ref7_Value.c (c97 : f_ref3_Ratio_Fits.E) (c98 : f_ref7_Whole.E) (c57 : f_ref3_Small.E) (c54 : f_ref3_Compare.E) (c99 : f_ref3_Limbs.E)  (a0 : X_Int × (List (Int))) : Option (X_Value × (Bool)) :=
  (c97 a0).bind fun y1 =>
    bif !y1 then
      some (((0 : Int), ((false, ([] : List Int)), ((false, ([] : List Int)), ([], (0 : Int))))), false)
    else
      (c98 a0.1).bind fun y2 =>
        (c57 (1 : Int)).bind fun y3 =>
          (c54 (a0.2, y3)).bind fun y4 =>
            bif (y4 != (0 : Int)) then
              (c99 a0.2).bind fun y5 =>
                some (((3 : Int), (y2.2.1, ((false, y5), y2.2.2.2))), true)
            else
              some (y2, true)
theorem f_ref7_Value.q (c97 : f_ref3_Ratio_Fits.E) (c98 : f_ref7_Whole.E) (c57 : f_ref3_Small.E) (c54 : f_ref3_Compare.E) (c99 : f_ref3_Limbs.E)  (a0 : X_Int × (List (Int))) : f_ref7_Value.b c97 c98 c57 c54 c99 a0 = f_ref7_Value.c c97 c98 c57 c54 c99 a0 := by
  simp only [f_ref7_Value.b, f_ref7_Value.c, List.take_length, take_one, Nat.zero_add, Int.toNat_natCast, Int.toNat_zero, List.drop_zero, List.append_eq, Nat.le_refl, Int.le_refl, true_and, and_true, zero_le_one, if_true, prod_eta, Int.natCast_zero]
def f_ref7_Value.f (c97 : f_ref3_Ratio_Fits.E) (c98 : f_ref7_Whole.E) (c57 : f_ref3_Small.E) (c54 : f_ref3_Compare.E) (c99 : f_ref3_Limbs.E) (k : Nat) (a0 : X_Int × (List (Int))) : Option (X_Value × (Bool)) := f_ref7_Value.b c97 c98 c57 c54 c99  a0
theorem f_ref7_Value.r (c97 : f_ref3_Ratio_Fits.E) (c98 : f_ref7_Whole.E) (c57 : f_ref3_Small.E) (c54 : f_ref3_Compare.E) (c99 : f_ref3_Limbs.E) (k : Nat) (a0 : X_Int × (List (Int))) : fn (f_ref7_Value.C c97 c98 c57 c54 c99) k Tryd.f61 f_ref7_Value.A f_ref7_Value.R a0 = f_ref7_Value.b c97 c98 c57 c54 c99  a0 := by kernel_rfl
theorem f_ref7_Value.e (c97 : f_ref3_Ratio_Fits.E) (c98 : f_ref7_Whole.E) (c57 : f_ref3_Small.E) (c54 : f_ref3_Compare.E) (c99 : f_ref3_Limbs.E) (k : Nat) (a0 : X_Int × (List (Int))) : fn (f_ref7_Value.C c97 c98 c57 c54 c99) k Tryd.f61 f_ref7_Value.A f_ref7_Value.R a0 = f_ref7_Value.f c97 c98 c57 c54 c99 k a0 := by
  rw [f_ref7_Value.r]
  rfl
theorem f_ref7_Value.ty (c97 : f_ref3_Ratio_Fits.E) (c98 : f_ref7_Whole.E) (c57 : f_ref3_Small.E) (c54 : f_ref3_Compare.E) (c99 : f_ref3_Limbs.E) : TyOk Tryd.prog (f_ref7_Value.C c97 c98 c57 c54 c99) := tyOk_of (by kernel_rfl)
def f_ref7_Value.u (k : Nat) : f_ref7_Value.E := fun y => f_ref7_Value.f (f_ref3_Ratio_Fits.u k) (f_ref7_Whole.u k) (f_ref3_Small.u k) (f_ref3_Compare.u k) (f_ref3_Limbs.u k) k y
theorem f_ref7_Value.sound (k : Nat) : Sound Tryd.prog ⟨61, f_ref7_Value.A, f_ref7_Value.R, f_ref7_Value.u k⟩ := by
  have h := fn_sound (k := k) («as» := f_ref7_Value.A) (rs := f_ref7_Value.R) (f_ref7_Value.ty (f_ref3_Ratio_Fits.u k) (f_ref7_Whole.u k) (f_ref3_Small.u k) (f_ref3_Compare.u k) (f_ref3_Limbs.u k)) (fun E h => by
    simp only [f_ref7_Value.C, List.mem_cons, List.not_mem_nil, or_false] at h
    rcases h with rfl | rfl | rfl | rfl | rfl
    · exact f_ref3_Ratio_Fits.sound k
    · exact f_ref7_Whole.sound k
    · exact f_ref3_Small.sound k
    · exact f_ref3_Compare.sound k
    · exact f_ref3_Limbs.sound k) mixed Tryd.func61 (by kernel_rfl) (by kernel_rfl)
  have e : fn (f_ref7_Value.C (f_ref3_Ratio_Fits.u k) (f_ref7_Whole.u k) (f_ref3_Small.u k) (f_ref3_Compare.u k) (f_ref3_Limbs.u k)) k Tryd.f61 f_ref7_Value.A f_ref7_Value.R = f_ref7_Value.u k := by
    funext y
    exact f_ref7_Value.e (f_ref3_Ratio_Fits.u k) (f_ref7_Whole.u k) (f_ref3_Small.u k) (f_ref3_Compare.u k) (f_ref3_Limbs.u k) k y
  rw [e] at h
  exact h
/-! ### brindlewood/brindlewoodref7.Raise: f34 -/
abbrev f_ref7_Raise.A : List Sh := [(.d (.int .i64)), (.d .str)]
abbrev f_ref7_Raise.R : List Sh := [(.d Y_Step)]
abbrev f_ref7_Raise.E : Type := ((Int) × (List UInt8)) → Option X_Step
def f_ref7_Raise.C  : Ctx := { ty := [(33, Y_Step)], nf := [(33, 6)], by_ := [], env := [], spec := [] }
noncomputable def f_ref7_Raise.code : Code := Func.code Tryd.f34
noncomputable def f_ref7_Raise.fin  := kfin (f_ref7_Raise.C ) Tryd.f34 f_ref7_Raise.A f_ref7_Raise.R
def f_ref7_Raise.b   (a0 : Int) (a1 : List UInt8) : Option X_Step :=
  some ((1 : Int), (((0 : Int), ((false, ([] : List (Int))), ((false, ([] : List (Int))), ([], (0 : Int))))), (a0, (a1, (((0 : Int), ((false, ([] : List (Int))), ((false, ([] : List (Int))), ([], (0 : Int))))), ([] : List X_Value))))))
def f_ref7_Raise.c   (a0 : Int) (a1 : List UInt8) : Option X_Step :=
  some ((1 : Int), (((0 : Int), ((false, ([] : List Int)), ((false, ([] : List Int)), ([], (0 : Int))))), (a0, (a1, (((0 : Int), ((false, ([] : List Int)), ((false, ([] : List Int)), ([], (0 : Int))))), ([] : List X_Value))))))
theorem f_ref7_Raise.q   (a0 : Int) (a1 : List UInt8) : f_ref7_Raise.b  a0 a1 = f_ref7_Raise.c  a0 a1 := by
  simp only [f_ref7_Raise.b, f_ref7_Raise.c, List.take_length, take_one, Nat.zero_add, Int.toNat_natCast, Int.toNat_zero, List.drop_zero, List.append_eq, Nat.le_refl, Int.le_refl, true_and, and_true, zero_le_one, if_true, prod_eta, Int.natCast_zero]
def f_ref7_Raise.f  (k : Nat) (a0 : Int) (a1 : List UInt8) : Option X_Step := f_ref7_Raise.b   a0 a1
theorem f_ref7_Raise.r  (k : Nat) (a0 : Int) (a1 : List UInt8) : fn (f_ref7_Raise.C ) k Tryd.f34 f_ref7_Raise.A f_ref7_Raise.R (a0, a1) = f_ref7_Raise.b   a0 a1 := by kernel_rfl
theorem f_ref7_Raise.e  (k : Nat) (a0 : Int) (a1 : List UInt8) : fn (f_ref7_Raise.C ) k Tryd.f34 f_ref7_Raise.A f_ref7_Raise.R (a0, a1) = f_ref7_Raise.f  k a0 a1 := by
  rw [f_ref7_Raise.r]
  rfl
theorem f_ref7_Raise.ty  : TyOk Tryd.prog (f_ref7_Raise.C ) := tyOk_of (by kernel_rfl)
def f_ref7_Raise.u (k : Nat) : f_ref7_Raise.E := fun y => f_ref7_Raise.f  k y.1 y.2
theorem f_ref7_Raise.sound (k : Nat) : Sound Tryd.prog ⟨34, f_ref7_Raise.A, f_ref7_Raise.R, f_ref7_Raise.u k⟩ := by
  have h := fn_sound (k := k) («as» := f_ref7_Raise.A) (rs := f_ref7_Raise.R) (f_ref7_Raise.ty ) (fun E h => by cases h) mixed Tryd.func34 (by kernel_rfl) (by kernel_rfl)
  have e : fn (f_ref7_Raise.C ) k Tryd.f34 f_ref7_Raise.A f_ref7_Raise.R = f_ref7_Raise.u k := by
    funext y
    exact f_ref7_Raise.e  k y.1 y.2
  rw [e] at h
  exact h
/-! ### brindlewood/brindlewoodref7.TooLarge: f62 -/
abbrev f_ref7_TooLarge.A : List Sh := []
abbrev f_ref7_TooLarge.R : List Sh := [(.d Y_Step)]
abbrev f_ref7_TooLarge.E : Type := (Unit) → Option X_Step
def f_ref7_TooLarge.C (c34 : f_ref7_Raise.E) : Ctx := { ty := [(33, Y_Step)], nf := [], by_ := [], env := [⟨34, f_ref7_Raise.A, f_ref7_Raise.R, c34⟩], spec := [] }
noncomputable def f_ref7_TooLarge.code : Code := Func.code Tryd.f62
noncomputable def f_ref7_TooLarge.fin (c34 : f_ref7_Raise.E) := kfin (f_ref7_TooLarge.C c34) Tryd.f62 f_ref7_TooLarge.A f_ref7_TooLarge.R
def f_ref7_TooLarge.b (c34 : f_ref7_Raise.E)   : Option X_Step :=
  (c34 ((42 : Int), [118, 97, 108, 117, 101, 32, 105, 115, 32, 116, 111, 111, 32, 108, 97, 114, 103, 101])).bind fun y1 =>
    some y1
def f_ref7_TooLarge.f (c34 : f_ref7_Raise.E) (k : Nat)  : Option X_Step := f_ref7_TooLarge.b c34  
theorem f_ref7_TooLarge.r (c34 : f_ref7_Raise.E) (k : Nat)  : fn (f_ref7_TooLarge.C c34) k Tryd.f62 f_ref7_TooLarge.A f_ref7_TooLarge.R () = f_ref7_TooLarge.b c34   := by kernel_rfl
theorem f_ref7_TooLarge.e (c34 : f_ref7_Raise.E) (k : Nat)  : fn (f_ref7_TooLarge.C c34) k Tryd.f62 f_ref7_TooLarge.A f_ref7_TooLarge.R () = f_ref7_TooLarge.f c34 k  := by
  rw [f_ref7_TooLarge.r]
  rfl
theorem f_ref7_TooLarge.ty (c34 : f_ref7_Raise.E) : TyOk Tryd.prog (f_ref7_TooLarge.C c34) := tyOk_of (by kernel_rfl)
def f_ref7_TooLarge.u (k : Nat) : f_ref7_TooLarge.E := fun y => f_ref7_TooLarge.f (f_ref7_Raise.u k) k 
theorem f_ref7_TooLarge.sound (k : Nat) : Sound Tryd.prog ⟨62, f_ref7_TooLarge.A, f_ref7_TooLarge.R, f_ref7_TooLarge.u k⟩ := by
  have h := fn_sound (k := k) («as» := f_ref7_TooLarge.A) (rs := f_ref7_TooLarge.R) (f_ref7_TooLarge.ty (f_ref7_Raise.u k)) (fun E h => by
    simp only [f_ref7_TooLarge.C, List.mem_cons, List.not_mem_nil, or_false] at h
    rcases h with rfl
    · exact f_ref7_Raise.sound k) mixed Tryd.func62 (by kernel_rfl) (by kernel_rfl)
  have e : fn (f_ref7_TooLarge.C (f_ref7_Raise.u k)) k Tryd.f62 f_ref7_TooLarge.A f_ref7_TooLarge.R = f_ref7_TooLarge.u k := by
    funext y
    exact f_ref7_TooLarge.e (f_ref7_Raise.u k) k 
  rw [e] at h
  exact h
/-! ### brindlewood/brindlewoodref7.Result: f63 -/
abbrev f_ref7_Result.A : List Sh := [(.d Y_Value)]
abbrev f_ref7_Result.R : List Sh := [(.d Y_Step)]
abbrev f_ref7_Result.E : Type := X_Value → Option X_Step
def f_ref7_Result.C  : Ctx := { ty := [(26, Y_Value), (33, Y_Step)], nf := [(33, 6)], by_ := [], env := [], spec := [] }
noncomputable def f_ref7_Result.code : Code := Func.code Tryd.f63
noncomputable def f_ref7_Result.fin  := kfin (f_ref7_Result.C ) Tryd.f63 f_ref7_Result.A f_ref7_Result.R
def f_ref7_Result.b   (a0 : (Int) × (X_Int × (X_Int × X_errorAddressString))) : Option X_Step :=
  some ((0 : Int), (a0, ((0 : Int), ([], (((0 : Int), ((false, ([] : List (Int))), ((false, ([] : List (Int))), ([], (0 : Int))))), ([] : List X_Value))))))
def f_ref7_Result.c   (a0 : (Int) × (X_Int × (X_Int × X_errorAddressString))) : Option X_Step :=
  some ((0 : Int), (a0, ((0 : Int), ([], (((0 : Int), ((false, ([] : List Int)), ((false, ([] : List Int)), ([], (0 : Int))))), ([] : List X_Value))))))
theorem f_ref7_Result.q   (a0 : (Int) × (X_Int × (X_Int × X_errorAddressString))) : f_ref7_Result.b  a0 = f_ref7_Result.c  a0 := by
  simp only [f_ref7_Result.b, f_ref7_Result.c, List.take_length, take_one, Nat.zero_add, Int.toNat_natCast, Int.toNat_zero, List.drop_zero, List.append_eq, Nat.le_refl, Int.le_refl, true_and, and_true, zero_le_one, if_true, prod_eta, Int.natCast_zero]
def f_ref7_Result.f  (k : Nat) (a0 : (Int) × (X_Int × (X_Int × X_errorAddressString))) : Option X_Step := f_ref7_Result.b   a0
theorem f_ref7_Result.r  (k : Nat) (a0 : (Int) × (X_Int × (X_Int × X_errorAddressString))) : fn (f_ref7_Result.C ) k Tryd.f63 f_ref7_Result.A f_ref7_Result.R a0 = f_ref7_Result.b   a0 := by kernel_rfl
theorem f_ref7_Result.e  (k : Nat) (a0 : (Int) × (X_Int × (X_Int × X_errorAddressString))) : fn (f_ref7_Result.C ) k Tryd.f63 f_ref7_Result.A f_ref7_Result.R a0 = f_ref7_Result.f  k a0 := by
  rw [f_ref7_Result.r]
  rfl
theorem f_ref7_Result.ty  : TyOk Tryd.prog (f_ref7_Result.C ) := tyOk_of (by kernel_rfl)
def f_ref7_Result.u (k : Nat) : f_ref7_Result.E := fun y => f_ref7_Result.f  k y
theorem f_ref7_Result.sound (k : Nat) : Sound Tryd.prog ⟨63, f_ref7_Result.A, f_ref7_Result.R, f_ref7_Result.u k⟩ := by
  have h := fn_sound (k := k) («as» := f_ref7_Result.A) (rs := f_ref7_Result.R) (f_ref7_Result.ty ) (fun E h => by cases h) mixed Tryd.func63 (by kernel_rfl) (by kernel_rfl)
  have e : fn (f_ref7_Result.C ) k Tryd.f63 f_ref7_Result.A f_ref7_Result.R = f_ref7_Result.u k := by
    funext y
    exact f_ref7_Result.e  k y
  rw [e] at h
  exact h
/-! ### brindlewood/brindlewoodref7.number: f29 -/
abbrev f_ref7_number.A : List Sh := [(.d Y_Ratio)]
abbrev f_ref7_number.R : List Sh := [(.d Y_Step)]
abbrev f_ref7_number.E : Type := X_Ratio → Option X_Step
def f_ref7_number.C (c61 : f_ref7_Value.E) (c62 : f_ref7_TooLarge.E) (c63 : f_ref7_Result.E) : Ctx := { ty := [(26, Y_Value), (33, Y_Step), (43, Y_Ratio)], nf := [], by_ := [], env := [⟨61, f_ref7_Value.A, f_ref7_Value.R, c61⟩, ⟨62, f_ref7_TooLarge.A, f_ref7_TooLarge.R, c62⟩, ⟨63, f_ref7_Result.A, f_ref7_Result.R, c63⟩], spec := [] }
noncomputable def f_ref7_number.code : Code := Func.code Tryd.f29
noncomputable def f_ref7_number.fin (c61 : f_ref7_Value.E) (c62 : f_ref7_TooLarge.E) (c63 : f_ref7_Result.E) := kfin (f_ref7_number.C c61 c62 c63) Tryd.f29 f_ref7_number.A f_ref7_number.R
def f_ref7_number.b (c61 : f_ref7_Value.E) (c62 : f_ref7_TooLarge.E) (c63 : f_ref7_Result.E)  (a0 : X_Int × (List (Int))) : Option X_Step :=
  (c61 a0).bind fun y1 =>
    bif (!y1.2) then
      (c62 ()).bind fun y2 =>
        some y2
    else
      (c63 y1.1).bind fun y3 =>
        some y3
def f_ref7_number.c (c61 : f_ref7_Value.E) (c62 : f_ref7_TooLarge.E) (c63 : f_ref7_Result.E)  (a0 : X_Int × (List (Int))) : Option X_Step :=
  (c61 a0).bind fun y1 =>
    bif !y1.2 then
      (c62 ()).bind fun y2 =>
        some y2
    else
      (c63 y1.1).bind fun y3 =>
        some y3
theorem f_ref7_number.q (c61 : f_ref7_Value.E) (c62 : f_ref7_TooLarge.E) (c63 : f_ref7_Result.E)  (a0 : X_Int × (List (Int))) : f_ref7_number.b c61 c62 c63 a0 = f_ref7_number.c c61 c62 c63 a0 := by
  simp only [f_ref7_number.b, f_ref7_number.c, List.take_length, take_one, Nat.zero_add, Int.toNat_natCast, Int.toNat_zero, List.drop_zero, List.append_eq, Nat.le_refl, Int.le_refl, true_and, and_true, zero_le_one, if_true, prod_eta, Int.natCast_zero]
def f_ref7_number.f (c61 : f_ref7_Value.E) (c62 : f_ref7_TooLarge.E) (c63 : f_ref7_Result.E) (k : Nat) (a0 : X_Int × (List (Int))) : Option X_Step := f_ref7_number.b c61 c62 c63  a0
theorem f_ref7_number.r (c61 : f_ref7_Value.E) (c62 : f_ref7_TooLarge.E) (c63 : f_ref7_Result.E) (k : Nat) (a0 : X_Int × (List (Int))) : fn (f_ref7_number.C c61 c62 c63) k Tryd.f29 f_ref7_number.A f_ref7_number.R a0 = f_ref7_number.b c61 c62 c63  a0 := by kernel_rfl
theorem f_ref7_number.e (c61 : f_ref7_Value.E) (c62 : f_ref7_TooLarge.E) (c63 : f_ref7_Result.E) (k : Nat) (a0 : X_Int × (List (Int))) : fn (f_ref7_number.C c61 c62 c63) k Tryd.f29 f_ref7_number.A f_ref7_number.R a0 = f_ref7_number.f c61 c62 c63 k a0 := by
  rw [f_ref7_number.r]
  rfl
theorem f_ref7_number.ty (c61 : f_ref7_Value.E) (c62 : f_ref7_TooLarge.E) (c63 : f_ref7_Result.E) : TyOk Tryd.prog (f_ref7_number.C c61 c62 c63) := tyOk_of (by kernel_rfl)
def f_ref7_number.u (k : Nat) : f_ref7_number.E := fun y => f_ref7_number.f (f_ref7_Value.u k) (f_ref7_TooLarge.u k) (f_ref7_Result.u k) k y
theorem f_ref7_number.sound (k : Nat) : Sound Tryd.prog ⟨29, f_ref7_number.A, f_ref7_number.R, f_ref7_number.u k⟩ := by
  have h := fn_sound (k := k) («as» := f_ref7_number.A) (rs := f_ref7_number.R) (f_ref7_number.ty (f_ref7_Value.u k) (f_ref7_TooLarge.u k) (f_ref7_Result.u k)) (fun E h => by
    simp only [f_ref7_number.C, List.mem_cons, List.not_mem_nil, or_false] at h
    rcases h with rfl | rfl | rfl
    · exact f_ref7_Value.sound k
    · exact f_ref7_TooLarge.sound k
    · exact f_ref7_Result.sound k) mixed Tryd.func29 (by kernel_rfl) (by kernel_rfl)
  have e : fn (f_ref7_number.C (f_ref7_Value.u k) (f_ref7_TooLarge.u k) (f_ref7_Result.u k)) k Tryd.f29 f_ref7_number.A f_ref7_number.R = f_ref7_number.u k := by
    funext y
    exact f_ref7_number.e (f_ref7_Value.u k) (f_ref7_TooLarge.u k) (f_ref7_Result.u k) k y
  rw [e] at h
  exact h
/-! ### (brindlewood/brindlewoodref3.Int).Minus: f67 -/
abbrev f_ref3_Int_Minus.A : List Sh := [(.d (.pair .bool (.sl 3 (.int .i64))))]
abbrev f_ref3_Int_Minus.R : List Sh := [(.d (.pair .bool (.sl 3 (.int .i64))))]
abbrev f_ref3_Int_Minus.E : Type := X_Int → Option X_Int
def f_ref3_Int_Minus.C  : Ctx := { ty := [(3, (.int .i64)), (4, .bool), (39, (.sl 3 (.int .i64))), (41, (.pair .bool (.sl 3 (.int .i64))))], nf := [(41, 2)], by_ := [(3, 8)], env := [], spec := [] }
noncomputable def f_ref3_Int_Minus.code : Code := Func.code Tryd.f67
noncomputable def f_ref3_Int_Minus.fin  := kfin (f_ref3_Int_Minus.C ) Tryd.f67 f_ref3_Int_Minus.A f_ref3_Int_Minus.R
def f_ref3_Int_Minus.b   (a0 : (Bool) × (List (Int))) : Option X_Int :=
  bif (!a0.1) then
    some ((decide (((List.length a0.2) : Int) > (0 : Int))), a0.2)
  else
    some (false, a0.2)
def f_ref3_Int_Minus.c   (a0 : (Bool) × (List (Int))) : Option X_Int :=
  bif !a0.1 then
    some ((decide (((List.length a0.2) : Int) > (0 : Int))), a0.2)
  else
    some (false, a0.2)
theorem f_ref3_Int_Minus.q   (a0 : (Bool) × (List (Int))) : f_ref3_Int_Minus.b  a0 = f_ref3_Int_Minus.c  a0 := by
  simp only [f_ref3_Int_Minus.b, f_ref3_Int_Minus.c, List.take_length, take_one, Nat.zero_add, Int.toNat_natCast, Int.toNat_zero, List.drop_zero, List.append_eq, Nat.le_refl, Int.le_refl, true_and, and_true, zero_le_one, if_true, prod_eta, Int.natCast_zero]
def f_ref3_Int_Minus.f  (k : Nat) (a0 : (Bool) × (List (Int))) : Option X_Int := f_ref3_Int_Minus.b   a0
theorem f_ref3_Int_Minus.r  (k : Nat) (a0 : (Bool) × (List (Int))) : fn (f_ref3_Int_Minus.C ) k Tryd.f67 f_ref3_Int_Minus.A f_ref3_Int_Minus.R a0 = f_ref3_Int_Minus.b   a0 := by kernel_rfl
theorem f_ref3_Int_Minus.e  (k : Nat) (a0 : (Bool) × (List (Int))) : fn (f_ref3_Int_Minus.C ) k Tryd.f67 f_ref3_Int_Minus.A f_ref3_Int_Minus.R a0 = f_ref3_Int_Minus.f  k a0 := by
  rw [f_ref3_Int_Minus.r]
  rfl
theorem f_ref3_Int_Minus.ty  : TyOk Tryd.prog (f_ref3_Int_Minus.C ) := tyOk_of (by kernel_rfl)
def f_ref3_Int_Minus.u (k : Nat) : f_ref3_Int_Minus.E := fun y => f_ref3_Int_Minus.f  k y
theorem f_ref3_Int_Minus.sound (k : Nat) : Sound Tryd.prog ⟨67, f_ref3_Int_Minus.A, f_ref3_Int_Minus.R, f_ref3_Int_Minus.u k⟩ := by
  have h := fn_sound (k := k) («as» := f_ref3_Int_Minus.A) (rs := f_ref3_Int_Minus.R) (f_ref3_Int_Minus.ty ) (fun E h => by cases h) mixed Tryd.func67 (by kernel_rfl) (by kernel_rfl)
  have e : fn (f_ref3_Int_Minus.C ) k Tryd.f67 f_ref3_Int_Minus.A f_ref3_Int_Minus.R = f_ref3_Int_Minus.u k := by
    funext y
    exact f_ref3_Int_Minus.e  k y
  rw [e] at h
  exact h
/-! ### (brindlewood/brindlewoodref3.Ratio).Less: f31 -/
abbrev f_ref3_Ratio_Less.A : List Sh := [(.d Y_Ratio), (.d Y_Ratio)]
abbrev f_ref3_Ratio_Less.R : List Sh := [(.d Y_Ratio)]
abbrev f_ref3_Ratio_Less.E : Type := (X_Ratio × X_Ratio) → Option X_Ratio
def f_ref3_Ratio_Less.C (c67 : f_ref3_Int_Minus.E) (c30 : f_ref3_Ratio_Plus.E) : Ctx := { ty := [(39, (.sl 3 (.int .i64))), (41, (.pair .bool (.sl 3 (.int .i64)))), (43, Y_Ratio)], nf := [(43, 2)], by_ := [(3, 8)], env := [⟨67, f_ref3_Int_Minus.A, f_ref3_Int_Minus.R, c67⟩, ⟨30, f_ref3_Ratio_Plus.A, f_ref3_Ratio_Plus.R, c30⟩], spec := [] }
noncomputable def f_ref3_Ratio_Less.code : Code := Func.code Tryd.f31
noncomputable def f_ref3_Ratio_Less.fin (c67 : f_ref3_Int_Minus.E) (c30 : f_ref3_Ratio_Plus.E) := kfin (f_ref3_Ratio_Less.C c67 c30) Tryd.f31 f_ref3_Ratio_Less.A f_ref3_Ratio_Less.R
def f_ref3_Ratio_Less.b (c67 : f_ref3_Int_Minus.E) (c30 : f_ref3_Ratio_Plus.E)  (a0 : X_Int × (List (Int))) (a1 : X_Int × (List (Int))) : Option X_Ratio :=
  (c67 a1.1).bind fun y1 =>
    (c30 (a0, (y1, a1.2))).bind fun y2 =>
      some y2
def f_ref3_Ratio_Less.f (c67 : f_ref3_Int_Minus.E) (c30 : f_ref3_Ratio_Plus.E) (k : Nat) (a0 : X_Int × (List (Int))) (a1 : X_Int × (List (Int))) : Option X_Ratio := f_ref3_Ratio_Less.b c67 c30  a0 a1
theorem f_ref3_Ratio_Less.r (c67 : f_ref3_Int_Minus.E) (c30 : f_ref3_Ratio_Plus.E) (k : Nat) (a0 : X_Int × (List (Int))) (a1 : X_Int × (List (Int))) : fn (f_ref3_Ratio_Less.C c67 c30) k Tryd.f31 f_ref3_Ratio_Less.A f_ref3_Ratio_Less.R (a0, a1) = f_ref3_Ratio_Less.b c67 c30  a0 a1 := by kernel_rfl
theorem f_ref3_Ratio_Less.e (c67 : f_ref3_Int_Minus.E) (c30 : f_ref3_Ratio_Plus.E) (k : Nat) (a0 : X_Int × (List (Int))) (a1 : X_Int × (List (Int))) : fn (f_ref3_Ratio_Less.C c67 c30) k Tryd.f31 f_ref3_Ratio_Less.A f_ref3_Ratio_Less.R (a0, a1) = f_ref3_Ratio_Less.f c67 c30 k a0 a1 := by
  rw [f_ref3_Ratio_Less.r]
  rfl
theorem f_ref3_Ratio_Less.ty (c67 : f_ref3_Int_Minus.E) (c30 : f_ref3_Ratio_Plus.E) : TyOk Tryd.prog (f_ref3_Ratio_Less.C c67 c30) := tyOk_of (by kernel_rfl)
def f_ref3_Ratio_Less.u (k : Nat) : f_ref3_Ratio_Less.E := fun y => f_ref3_Ratio_Less.f (f_ref3_Int_Minus.u k) (f_ref3_Ratio_Plus.u k) k y.1 y.2
theorem f_ref3_Ratio_Less.sound (k : Nat) : Sound Tryd.prog ⟨31, f_ref3_Ratio_Less.A, f_ref3_Ratio_Less.R, f_ref3_Ratio_Less.u k⟩ := by
  have h := fn_sound (k := k) («as» := f_ref3_Ratio_Less.A) (rs := f_ref3_Ratio_Less.R) (f_ref3_Ratio_Less.ty (f_ref3_Int_Minus.u k) (f_ref3_Ratio_Plus.u k)) (fun E h => by
    simp only [f_ref3_Ratio_Less.C, List.mem_cons, List.not_mem_nil, or_false] at h
    rcases h with rfl | rfl
    · exact f_ref3_Int_Minus.sound k
    · exact f_ref3_Ratio_Plus.sound k) mixed Tryd.func31 (by kernel_rfl) (by kernel_rfl)
  have e : fn (f_ref3_Ratio_Less.C (f_ref3_Int_Minus.u k) (f_ref3_Ratio_Plus.u k)) k Tryd.f31 f_ref3_Ratio_Less.A f_ref3_Ratio_Less.R = f_ref3_Ratio_Less.u k := by
    funext y
    exact f_ref3_Ratio_Less.e (f_ref3_Int_Minus.u k) (f_ref3_Ratio_Plus.u k) k y.1 y.2
  rw [e] at h
  exact h
end
end Go.Ab
