/- A part of the proof: GT4. -/
import Derived.Test.YtgbihmngjppomaaDoorFTy
import Derived.Test.YtgbihmngjppomaaDoorGC1
import Derived.Test.YtgbihmngjppomaaDoorGC2
import Derived.Test.YtgbihmngjppomaaDoorGT1
import Derived.Test.YtgbihmngjppomaaDoorGT3
namespace Go.Ab
set_option linter.unusedVariables false
set_option linter.unusedSimpArgs false
set_option maxRecDepth 100000
noncomputable section
open Go.Proofs
/-! ### brindlewood/brindlewoodref7.OrdersFault: f132 -/
abbrev r7_OrdersFault.A : List Sh := [(.d (.sl 38 (.sl 3 (.int .i64))))]
abbrev r7_OrdersFault.R : List Sh := [(.d Y_Fault)]
abbrev r7_OrdersFault.E : Type := (List (List (Int))) → Option X_acceptRange
def r7_OrdersFault.C (c78 : r7_At.E) (c139 : r7_HasInt.E) : Ctx := { ty := [(3, (.int .i64)), (38, (.sl 3 (.int .i64))), (84, Y_Fault), (149, (.sl 38 (.sl 3 (.int .i64))))], nf := [(84, 2)], by_ := [(3, 8), (38, 24)], env := [⟨78, r7_At.A, r7_At.R, c78⟩, ⟨139, r7_HasInt.A, r7_HasInt.R, c139⟩], spec := [(0, [.bx 2 600002 (.d Y_Fault), .o 3 500003 3 (.int .i64), .d 14 (.sl 38 (.sl 3 (.int .i64))), .d 15 (.int .i64), .d 16 (.int .i64)]), (2, [.bx 2 600002 (.d Y_Fault), .o 3 500003 3 (.int .i64), .d 4 (.int .i64), .d 5 (.sl 3 (.int .i64)), .d 6 .bool, .d 7 (.int .i64), .d 14 (.sl 38 (.sl 3 (.int .i64))), .d 15 (.int .i64), .d 16 (.int .i64), .d 21 (.sl 3 (.int .i64)), .d 22 (.int .i64), .d 23 (.int .i64)])] }
noncomputable def r7_OrdersFault.code : Code := Func.code Tryd.f132
noncomputable def r7_OrdersFault.fin (c78 : r7_At.E) (c139 : r7_HasInt.E) := kfin (r7_OrdersFault.C c78 c139) Tryd.f132 r7_OrdersFault.A r7_OrdersFault.R
def r7_OrdersFault.b (c78 : r7_At.E) (c139 : r7_HasInt.E) (r_l0 : X_acceptRange → (List (Int)) → (List (List (Int))) → (Int) → (Int) → Option X_acceptRange) (a0 : List (List (Int))) : Option X_acceptRange :=
  bif (decide (((List.length a0) : Int) > (8 : Int))) then
    (c78 ((2 : Int), (-1 : Int))).bind fun y1 =>
      some y1
  else
    r_l0 ((0 : Int), (0 : Int)) ([] : List (Int)) a0 ((List.length a0) : Int) (0 : Int)
def r7_OrdersFault.b_l0 (c78 : r7_At.E) (c139 : r7_HasInt.E) (r_l2 : X_acceptRange → (List (Int)) → (Int) → (List (Int)) → (Bool) → (Int) → (List (List (Int))) → (Int) → (Int) → (List (Int)) → (Int) → (Int) → Option X_acceptRange) (x2 : (Int) × (Int)) (x3 : List (Int)) (x14 : List (List (Int))) (x15 : Int) (x16 : Int) : Option X_acceptRange :=
  bif (decide (x16 < x15)) then
    if 0 ≤ x16 ∧ x16 < ((List.length x14) : Int) then
      r_l2 x2 (List.take (List.length x3) x3) x16 (List.getD x14 (Int.toNat x16) []) false (0 : Int) x14 x15 x16 (List.getD x14 (Int.toNat x16) []) ((List.length (List.getD x14 (Int.toNat x16) [])) : Int) (0 : Int)
    else none
  else
    some ((0 : Int), (0 : Int))
def r7_OrdersFault.b_l2 (c78 : r7_At.E) (c139 : r7_HasInt.E) (n_l2 : X_acceptRange → (List (Int)) → (Int) → (List (Int)) → (Bool) → (Int) → (List (List (Int))) → (Int) → (Int) → (List (Int)) → (Int) → (Int) → Option X_acceptRange) (n_l0 : X_acceptRange → (List (Int)) → (List (List (Int))) → (Int) → (Int) → Option X_acceptRange) (x2 : (Int) × (Int)) (x3 : List (Int)) (x4 : Int) (x5 : List (Int)) (x6 : Bool) (x7 : Int) (x14 : List (List (Int))) (x15 : Int) (x16 : Int) (x21 : List (Int)) (x22 : Int) (x23 : Int) : Option X_acceptRange :=
  bif (decide (x23 < x22)) then
    if 0 ≤ x23 ∧ x23 < ((List.length x21) : Int) then
      bif x6 then
        n_l2 x2 (List.take (List.length x3) x3) x4 x5 true (if (List.getD x21 (Int.toNat x23) (0 : Int)) < x7 then (List.getD x21 (Int.toNat x23) (0 : Int)) else x7) x14 x15 x16 x21 x22 (IntKind.i64.wrap (x23 + (1 : Int)))
      else
        if 0 ≤ (0 : Int) ∧ (0 : Int) ≤ x23 ∧ x23 ≤ ((List.length x5) : Int) then
          (c139 ((List.drop (Int.toNat (0 : Int)) (List.take (Int.toNat x23) x5)), (List.getD x21 (Int.toNat x23) (0 : Int)))).bind fun y2 =>
            n_l2 x2 (List.take (List.length x3) x3) x4 x5 y2 (if (List.getD x21 (Int.toNat x23) (0 : Int)) < x7 then (List.getD x21 (Int.toNat x23) (0 : Int)) else x7) x14 x15 x16 x21 x22 (IntKind.i64.wrap (x23 + (1 : Int)))
        else none
    else none
  else
    bif (((List.length x5) : Int) == (0 : Int)) then
      (c78 ((10 : Int), x4)).bind fun y3 =>
        some y3
    else
      bif (decide (((List.length x5) : Int) > (40 : Int))) then
        (c78 ((2 : Int), x4)).bind fun y4 =>
          some y4
      else
        bif (decide (x7 < (0 : Int))) then
          (c78 ((4 : Int), x4)).bind fun y5 =>
            some y5
        else
          bif x6 then
            (c78 ((8 : Int), x4)).bind fun y6 =>
              some y6
          else
            if 0 ≤ (0 : Int) ∧ (0 : Int) < ((List.length x5) : Int) then
              (c139 ((List.take (List.length x3) x3), (List.getD x5 (Int.toNat (0 : Int)) (0 : Int)))).bind fun y7 =>
                bif y7 then
                  (c78 ((8 : Int), x4)).bind fun y8 =>
                    some y8
                else
                  if 0 ≤ (0 : Int) ∧ (0 : Int) < ((List.length x5) : Int) then
                    if (List.length x3) ≤ (List.length x3) ∧ ((List.length x3) + (List.length (List.take 1 ([(List.getD x5 (Int.toNat (0 : Int)) (0 : Int))] : List (Int))))) * 8 ≤ LIM then
                      n_l0 x2 (List.take (List.length (List.append (List.take (List.length x3) x3) (List.take 1 ([(List.getD x5 (Int.toNat (0 : Int)) (0 : Int))] : List (Int))))) (List.append (List.take (List.length x3) x3) (List.take 1 ([(List.getD x5 (Int.toNat (0 : Int)) (0 : Int))] : List (Int))))) x14 x15 (IntKind.i64.wrap (x16 + (1 : Int)))
                    else none
                  else none
            else none
def r7_OrdersFault.c (c78 : r7_At.E) (c139 : r7_HasInt.E) (r_l0 : X_acceptRange → (List (Int)) → (List (List (Int))) → (Int) → (Int) → Option X_acceptRange) (a0 : List (List (Int))) : Option X_acceptRange :=
  bif (decide (((List.length a0) : Int) > (8 : Int))) then
    (c78 ((2 : Int), (-1 : Int))).bind fun y1 =>
      some y1
  else
    r_l0 ((0 : Int), (0 : Int)) ([] : List Int) a0 ((List.length a0) : Int) (0 : Int)
theorem r7_OrdersFault.q (c78 : r7_At.E) (c139 : r7_HasInt.E) (r_l0 : X_acceptRange → (List (Int)) → (List (List (Int))) → (Int) → (Int) → Option X_acceptRange) (a0 : List (List (Int))) : r7_OrdersFault.b c78 c139 r_l0 a0 = r7_OrdersFault.c c78 c139 r_l0 a0 := by
  simp only [r7_OrdersFault.b, r7_OrdersFault.c, List.take_length, take_one, Nat.zero_add, Int.toNat_natCast, Int.toNat_zero, List.drop_zero, List.append_eq, Nat.le_refl, Int.le_refl, true_and, and_true, zero_le_one, if_true, prod_eta, Int.natCast_zero]
def r7_OrdersFault.l2 (c78 : r7_At.E) (c139 : r7_HasInt.E) (k : Nat) (n_l0 : X_acceptRange → (List (Int)) → (List (List (Int))) → (Int) → (Int) → Option X_acceptRange) : Nat → X_acceptRange → (List (Int)) → (Int) → (List (Int)) → (Bool) → (Int) → (List (List (Int))) → (Int) → (Int) → (List (Int)) → (Int) → (Int) → Option X_acceptRange
  | 0, _, _, _, _, _, _, _, _, _, _, _, _ => none
  | n + 1, x2, x3, x4, x5, x6, x7, x14, x15, x16, x21, x22, x23 => r7_OrdersFault.b_l2 c78 c139 (fun x2 x3 x4 x5 x6 x7 x14 x15 x16 x21 x22 x23 => r7_OrdersFault.l2 c78 c139 k n_l0 n x2 x3 x4 x5 x6 x7 x14 x15 x16 x21 x22 x23) n_l0 x2 x3 x4 x5 x6 x7 x14 x15 x16 x21 x22 x23
def r7_OrdersFault.l0 (c78 : r7_At.E) (c139 : r7_HasInt.E) (k : Nat)  : Nat → X_acceptRange → (List (Int)) → (List (List (Int))) → (Int) → (Int) → Option X_acceptRange
  | 0, _, _, _, _, _ => none
  | n + 1, x2, x3, x14, x15, x16 => r7_OrdersFault.b_l0 c78 c139 (r7_OrdersFault.l2 c78 c139 k (fun x2 x3 x14 x15 x16 => r7_OrdersFault.l0 c78 c139 k  n x2 x3 x14 x15 x16) k) x2 x3 x14 x15 x16
def r7_OrdersFault.f (c78 : r7_At.E) (c139 : r7_HasInt.E) (k : Nat) (a0 : List (List (Int))) : Option X_acceptRange := r7_OrdersFault.b c78 c139 (r7_OrdersFault.l0 c78 c139 k k) a0
noncomputable def r7_OrdersFault.M_l0 (c78 : r7_At.E) (c139 : r7_HasInt.E) (k n : Nat)  (s : St) : Option X_acceptRange := atLoop (r7_OrdersFault.C c78 c139) k n [1, 1, 1, 0, 1, 0] [] r7_OrdersFault.code (r7_OrdersFault.fin c78 c139) s
noncomputable def r7_OrdersFault.fr_l0 (x2 : (Int) × (Int)) (x3 : List (Int)) (x14 : List (List (Int))) (x15 : Int) (x16 : Int) : St := ⟨((((((List.replicate 76 V.un).set 2 (V.bp 600002 0 [])).set 3 (V.ref 500003 0 0 (List.length x3))).set 14 (V.dat (.sl 38 (.sl 3 (.int .i64))) x14)).set 15 (V.dat (.int .i64) x15)).set 16 (V.dat (.int .i64) x16)), [⟨500003, 0, .arr 3 (.int .i64) x3⟩, ⟨600002, 0, .box (V.dat Y_Fault x2)⟩]⟩
noncomputable def r7_OrdersFault.M_l2 (c78 : r7_At.E) (c139 : r7_HasInt.E) (k n : Nat) (m0 : Nat) (s : St) : Option X_acceptRange := atLoop (r7_OrdersFault.C c78 c139) k n [1, 1, 1, 0, 1, 0, 0, 1, 1, 0, 0, 1, 1, 0, 1, 0] [m0] r7_OrdersFault.code (r7_OrdersFault.fin c78 c139) s
noncomputable def r7_OrdersFault.fr_l2 (x2 : (Int) × (Int)) (x3 : List (Int)) (x4 : Int) (x5 : List (Int)) (x6 : Bool) (x7 : Int) (x14 : List (List (Int))) (x15 : Int) (x16 : Int) (x21 : List (Int)) (x22 : Int) (x23 : Int) : St := ⟨(((((((((((((List.replicate 76 V.un).set 2 (V.bp 600002 0 [])).set 3 (V.ref 500003 0 0 (List.length x3))).set 4 (V.dat (.int .i64) x4)).set 5 (V.dat (.sl 3 (.int .i64)) x5)).set 6 (V.dat .bool x6)).set 7 (V.dat (.int .i64) x7)).set 14 (V.dat (.sl 38 (.sl 3 (.int .i64))) x14)).set 15 (V.dat (.int .i64) x15)).set 16 (V.dat (.int .i64) x16)).set 21 (V.dat (.sl 3 (.int .i64)) x21)).set 22 (V.dat (.int .i64) x22)).set 23 (V.dat (.int .i64) x23)), [⟨500003, 0, .arr 3 (.int .i64) x3⟩, ⟨600002, 0, .box (V.dat Y_Fault x2)⟩]⟩
theorem r7_OrdersFault.r (c78 : r7_At.E) (c139 : r7_HasInt.E) (k : Nat) (a0 : List (List (Int))) : fn (r7_OrdersFault.C c78 c139) k Tryd.f132 r7_OrdersFault.A r7_OrdersFault.R a0 = r7_OrdersFault.b c78 c139 (fun x2 x3 x14 x15 x16 => r7_OrdersFault.M_l0 c78 c139 k k  (r7_OrdersFault.fr_l0 x2 x3 x14 x15 x16)) a0 := by kernel_rfl
theorem r7_OrdersFault.z_l0 (c78 : r7_At.E) (c139 : r7_HasInt.E) (k : Nat)  (s : St) : r7_OrdersFault.M_l0 c78 c139 k 0  s = none := by kernel_rfl
theorem r7_OrdersFault.r_l0 (c78 : r7_At.E) (c139 : r7_HasInt.E) (k n : Nat)  (x2 : (Int) × (Int)) (x3 : List (Int)) (x14 : List (List (Int))) (x15 : Int) (x16 : Int) : r7_OrdersFault.M_l0 c78 c139 k (n + 1)  (r7_OrdersFault.fr_l0 x2 x3 x14 x15 x16) = r7_OrdersFault.b_l0 c78 c139 (fun x2 x3 x4 x5 x6 x7 x14 x15 x16 x21 x22 x23 => r7_OrdersFault.M_l2 c78 c139 k k n (r7_OrdersFault.fr_l2 x2 x3 x4 x5 x6 x7 x14 x15 x16 x21 x22 x23)) x2 x3 x14 x15 x16 := by kernel_rfl
theorem r7_OrdersFault.z_l2 (c78 : r7_At.E) (c139 : r7_HasInt.E) (k : Nat) (m0 : Nat) (s : St) : r7_OrdersFault.M_l2 c78 c139 k 0 m0 s = none := by kernel_rfl
theorem r7_OrdersFault.r_l2 (c78 : r7_At.E) (c139 : r7_HasInt.E) (k n : Nat) (m0 : Nat) (x2 : (Int) × (Int)) (x3 : List (Int)) (x4 : Int) (x5 : List (Int)) (x6 : Bool) (x7 : Int) (x14 : List (List (Int))) (x15 : Int) (x16 : Int) (x21 : List (Int)) (x22 : Int) (x23 : Int) : r7_OrdersFault.M_l2 c78 c139 k (n + 1) m0 (r7_OrdersFault.fr_l2 x2 x3 x4 x5 x6 x7 x14 x15 x16 x21 x22 x23) = r7_OrdersFault.b_l2 c78 c139 (fun x2 x3 x4 x5 x6 x7 x14 x15 x16 x21 x22 x23 => r7_OrdersFault.M_l2 c78 c139 k n m0 (r7_OrdersFault.fr_l2 x2 x3 x4 x5 x6 x7 x14 x15 x16 x21 x22 x23)) (fun x2 x3 x14 x15 x16 => r7_OrdersFault.M_l0 c78 c139 k m0  (r7_OrdersFault.fr_l0 x2 x3 x14 x15 x16)) x2 x3 x4 x5 x6 x7 x14 x15 x16 x21 x22 x23 := by kernel_rfl
theorem r7_OrdersFault.e_l2 (c78 : r7_At.E) (c139 : r7_HasInt.E) (k n : Nat) (m0 : Nat) (x2 : (Int) × (Int)) (x3 : List (Int)) (x4 : Int) (x5 : List (Int)) (x6 : Bool) (x7 : Int) (x14 : List (List (Int))) (x15 : Int) (x16 : Int) (x21 : List (Int)) (x22 : Int) (x23 : Int) : r7_OrdersFault.M_l2 c78 c139 k n m0 (r7_OrdersFault.fr_l2 x2 x3 x4 x5 x6 x7 x14 x15 x16 x21 x22 x23) = r7_OrdersFault.l2 c78 c139 k (fun x2 x3 x14 x15 x16 => r7_OrdersFault.M_l0 c78 c139 k m0  (r7_OrdersFault.fr_l0 x2 x3 x14 x15 x16)) n x2 x3 x4 x5 x6 x7 x14 x15 x16 x21 x22 x23 := by
  induction n generalizing x2 x3 x4 x5 x6 x7 x14 x15 x16 x21 x22 x23 with
  | zero => rw [r7_OrdersFault.z_l2]; rfl
  | succ n ih =>
    rw [r7_OrdersFault.r_l2]
    simp only [ih]
    rfl
theorem r7_OrdersFault.e_l0 (c78 : r7_At.E) (c139 : r7_HasInt.E) (k n : Nat)  (x2 : (Int) × (Int)) (x3 : List (Int)) (x14 : List (List (Int))) (x15 : Int) (x16 : Int) : r7_OrdersFault.M_l0 c78 c139 k n  (r7_OrdersFault.fr_l0 x2 x3 x14 x15 x16) = r7_OrdersFault.l0 c78 c139 k  n x2 x3 x14 x15 x16 := by
  induction n generalizing x2 x3 x14 x15 x16 with
  | zero => rw [r7_OrdersFault.z_l0]; rfl
  | succ n ih =>
    rw [r7_OrdersFault.r_l0]
    simp only [r7_OrdersFault.e_l2, ih]
    rfl
theorem r7_OrdersFault.e (c78 : r7_At.E) (c139 : r7_HasInt.E) (k : Nat) (a0 : List (List (Int))) : fn (r7_OrdersFault.C c78 c139) k Tryd.f132 r7_OrdersFault.A r7_OrdersFault.R a0 = r7_OrdersFault.f c78 c139 k a0 := by
  rw [r7_OrdersFault.r]
  simp only [r7_OrdersFault.e_l0]
  rfl
theorem r7_OrdersFault.ty (c78 : r7_At.E) (c139 : r7_HasInt.E) : TyOk Tryd.prog (r7_OrdersFault.C c78 c139) := tyOk_of (by kernel_rfl)
def r7_OrdersFault.u (k : Nat) : r7_OrdersFault.E := fun y => r7_OrdersFault.f (r7_At.u k) (r7_HasInt.u k) k y
theorem r7_OrdersFault.sound (k : Nat) : Sound Tryd.prog ⟨132, r7_OrdersFault.A, r7_OrdersFault.R, r7_OrdersFault.u k⟩ := by
  have h := fn_sound (k := k) («as» := r7_OrdersFault.A) (rs := r7_OrdersFault.R) (r7_OrdersFault.ty (r7_At.u k) (r7_HasInt.u k)) (fun E h => by
    simp only [r7_OrdersFault.C, List.mem_cons, List.not_mem_nil, or_false] at h
    rcases h with rfl | rfl
    · exact r7_At.sound k
    · exact r7_HasInt.sound k) mixed Tryd.func132 (by kernel_rfl) (by kernel_rfl)
  have e : fn (r7_OrdersFault.C (r7_At.u k) (r7_HasInt.u k)) k Tryd.f132 r7_OrdersFault.A r7_OrdersFault.R = r7_OrdersFault.u k := by
    funext y
    exact r7_OrdersFault.e (r7_At.u k) (r7_HasInt.u k) k y
  rw [e] at h
  exact h
/-! ### brindlewood/brindlewoodref7.inTail: f140 -/
abbrev r7_inTail.A : List Sh := [(.d (.sl 38 (.sl 3 (.int .i64)))), (.d (.int .i64))]
abbrev r7_inTail.R : List Sh := [(.d .bool)]
abbrev r7_inTail.E : Type := ((List (List (Int))) × (Int)) → Option (Bool)
def r7_inTail.C (c139 : r7_HasInt.E) : Ctx := { ty := [(3, (.int .i64)), (38, (.sl 3 (.int .i64))), (149, (.sl 38 (.sl 3 (.int .i64))))], nf := [], by_ := [(3, 8), (38, 24)], env := [⟨139, r7_HasInt.A, r7_HasInt.R, c139⟩], spec := [(0, [.d 1 (.int .i64), .d 7 (.sl 38 (.sl 3 (.int .i64))), .d 8 (.int .i64), .d 9 (.int .i64)])] }
noncomputable def r7_inTail.code : Code := Func.code Tryd.f140
noncomputable def r7_inTail.fin (c139 : r7_HasInt.E) := kfin (r7_inTail.C c139) Tryd.f140 r7_inTail.A r7_inTail.R
def r7_inTail.b (c139 : r7_HasInt.E) (r_l0 : (Int) → (List (List (Int))) → (Int) → (Int) → Option (Bool)) (a0 : List (List (Int))) (a1 : Int) : Option (Bool) :=
  r_l0 a1 a0 ((List.length a0) : Int) (0 : Int)
def r7_inTail.b_l0 (c139 : r7_HasInt.E) (n_l0 : (Int) → (List (List (Int))) → (Int) → (Int) → Option (Bool)) (x1 : Int) (x7 : List (List (Int))) (x8 : Int) (x9 : Int) : Option (Bool) :=
  bif (decide (x9 < x8)) then
    if 0 ≤ x9 ∧ x9 < ((List.length x7) : Int) then
      if 0 ≤ (1 : Int) ∧ (1 : Int) ≤ ((List.length (List.getD x7 (Int.toNat x9) [])) : Int) ∧ ((List.length (List.getD x7 (Int.toNat x9) [])) : Int) ≤ ((List.length (List.getD x7 (Int.toNat x9) [])) : Int) then
        (c139 ((List.drop (Int.toNat (1 : Int)) (List.take (Int.toNat ((List.length (List.getD x7 (Int.toNat x9) [])) : Int)) (List.getD x7 (Int.toNat x9) []))), x1)).bind fun y1 =>
          bif y1 then
            some true
          else
            n_l0 x1 x7 x8 (IntKind.i64.wrap (x9 + (1 : Int)))
      else none
    else none
  else
    some false
def r7_inTail.l0 (c139 : r7_HasInt.E) (k : Nat)  : Nat → (Int) → (List (List (Int))) → (Int) → (Int) → Option (Bool)
  | 0, _, _, _, _ => none
  | n + 1, x1, x7, x8, x9 => r7_inTail.b_l0 c139 (fun x1 x7 x8 x9 => r7_inTail.l0 c139 k  n x1 x7 x8 x9) x1 x7 x8 x9
def r7_inTail.f (c139 : r7_HasInt.E) (k : Nat) (a0 : List (List (Int))) (a1 : Int) : Option (Bool) := r7_inTail.b c139 (r7_inTail.l0 c139 k k) a0 a1
noncomputable def r7_inTail.M_l0 (c139 : r7_HasInt.E) (k n : Nat)  (s : St) : Option (Bool) := atLoop (r7_inTail.C c139) k n [1, 0, 1, 0] [] r7_inTail.code (r7_inTail.fin c139) s
noncomputable def r7_inTail.fr_l0 (x1 : Int) (x7 : List (List (Int))) (x8 : Int) (x9 : Int) : St := ⟨(((((List.replicate 18 V.un).set 1 (V.dat (.int .i64) x1)).set 7 (V.dat (.sl 38 (.sl 3 (.int .i64))) x7)).set 8 (V.dat (.int .i64) x8)).set 9 (V.dat (.int .i64) x9)), []⟩
theorem r7_inTail.r (c139 : r7_HasInt.E) (k : Nat) (a0 : List (List (Int))) (a1 : Int) : fn (r7_inTail.C c139) k Tryd.f140 r7_inTail.A r7_inTail.R (a0, a1) = r7_inTail.b c139 (fun x1 x7 x8 x9 => r7_inTail.M_l0 c139 k k  (r7_inTail.fr_l0 x1 x7 x8 x9)) a0 a1 := by kernel_rfl
theorem r7_inTail.z_l0 (c139 : r7_HasInt.E) (k : Nat)  (s : St) : r7_inTail.M_l0 c139 k 0  s = none := by kernel_rfl
theorem r7_inTail.r_l0 (c139 : r7_HasInt.E) (k n : Nat)  (x1 : Int) (x7 : List (List (Int))) (x8 : Int) (x9 : Int) : r7_inTail.M_l0 c139 k (n + 1)  (r7_inTail.fr_l0 x1 x7 x8 x9) = r7_inTail.b_l0 c139 (fun x1 x7 x8 x9 => r7_inTail.M_l0 c139 k n  (r7_inTail.fr_l0 x1 x7 x8 x9)) x1 x7 x8 x9 := by kernel_rfl
theorem r7_inTail.e_l0 (c139 : r7_HasInt.E) (k n : Nat)  (x1 : Int) (x7 : List (List (Int))) (x8 : Int) (x9 : Int) : r7_inTail.M_l0 c139 k n  (r7_inTail.fr_l0 x1 x7 x8 x9) = r7_inTail.l0 c139 k  n x1 x7 x8 x9 := by
  induction n generalizing x1 x7 x8 x9 with
  | zero => rw [r7_inTail.z_l0]; rfl
  | succ n ih =>
    rw [r7_inTail.r_l0]
    simp only [ih]
    rfl
theorem r7_inTail.e (c139 : r7_HasInt.E) (k : Nat) (a0 : List (List (Int))) (a1 : Int) : fn (r7_inTail.C c139) k Tryd.f140 r7_inTail.A r7_inTail.R (a0, a1) = r7_inTail.f c139 k a0 a1 := by
  rw [r7_inTail.r]
  simp only [r7_inTail.e_l0]
  rfl
theorem r7_inTail.ty (c139 : r7_HasInt.E) : TyOk Tryd.prog (r7_inTail.C c139) := tyOk_of (by kernel_rfl)
def r7_inTail.u (k : Nat) : r7_inTail.E := fun y => r7_inTail.f (r7_HasInt.u k) k y.1 y.2
theorem r7_inTail.sound (k : Nat) : Sound Tryd.prog ⟨140, r7_inTail.A, r7_inTail.R, r7_inTail.u k⟩ := by
  have h := fn_sound (k := k) («as» := r7_inTail.A) (rs := r7_inTail.R) (r7_inTail.ty (r7_HasInt.u k)) (fun E h => by
    simp only [r7_inTail.C, List.mem_cons, List.not_mem_nil, or_false] at h
    rcases h with rfl
    · exact r7_HasInt.sound k) mixed Tryd.func140 (by kernel_rfl) (by kernel_rfl)
  have e : fn (r7_inTail.C (r7_HasInt.u k)) k Tryd.f140 r7_inTail.A r7_inTail.R = r7_inTail.u k := by
    funext y
    exact r7_inTail.e (r7_HasInt.u k) k y.1 y.2
  rw [e] at h
  exact h
/-! ### brindlewood/brindlewoodref7.Merged: f133 -/
abbrev r7_Merged.A : List Sh := [(.d (.sl 38 (.sl 3 (.int .i64))))]
abbrev r7_Merged.R : List Sh := [(.d (.sl 3 (.int .i64))), (.d (.sl 38 (.sl 3 (.int .i64))))]
abbrev r7_Merged.E : Type := (List (List (Int))) → Option ((List (Int)) × (List (List (Int))))
def r7_Merged.C (c140 : r7_inTail.E) : Ctx := { ty := [(3, (.int .i64)), (38, (.sl 3 (.int .i64))), (149, (.sl 38 (.sl 3 (.int .i64))))], nf := [], by_ := [(3, 8), (38, 24)], env := [⟨140, r7_inTail.A, r7_inTail.R, c140⟩], spec := [(0, [.o 2 500002 3 (.int .i64), .o 3 500003 38 (.sl 3 (.int .i64)), .o 4 500004 3 (.int .i64), .d 14 (.sl 38 (.sl 3 (.int .i64))), .d 15 (.int .i64), .d 16 (.int .i64)]), (2, [.o 2 500002 3 (.int .i64), .o 3 500003 38 (.sl 3 (.int .i64))]), (4, [.o 2 500002 3 (.int .i64), .o 3 500003 38 (.sl 3 (.int .i64)), .d 7 (.int .i64), .d 8 .bool, .al 41 3, .d 42 (.int .i64), .d 43 (.int .i64)]), (6, [.o 2 500002 3 (.int .i64), .d 7 (.int .i64), .o 11 500011 38 (.sl 3 (.int .i64)), .o 69 500069 38 (.sl 3 (.int .i64)), .d 70 (.int .i64), .d 71 (.int .i64)]), (100027, [.o 2 500002 3 (.int .i64), .d 7 (.int .i64), .o 11 500011 38 (.sl 3 (.int .i64)), .d 13 (.sl 3 (.int .i64)), .o 69 500069 38 (.sl 3 (.int .i64)), .d 70 (.int .i64), .d 71 (.int .i64)])] }
noncomputable def r7_Merged.code : Code := Func.code Tryd.f133
noncomputable def r7_Merged.fin (c140 : r7_inTail.E) := kfin (r7_Merged.C c140) Tryd.f133 r7_Merged.A r7_Merged.R
def r7_Merged.b (c140 : r7_inTail.E) (r_l0 : (List (Int)) → (List (List (Int))) → (List (Int)) → (List (List (Int))) → (Int) → (Int) → Option ((List (Int)) × (List (List (Int))))) (a0 : List (List (Int))) : Option ((List (Int)) × (List (List (Int)))) :=
  r_l0 ([] : List (Int)) ([] : List (List (Int))) ([] : List (Int)) a0 ((List.length a0) : Int) (0 : Int)
def r7_Merged.b_l0 (c140 : r7_inTail.E) (n_l0 : (List (Int)) → (List (List (Int))) → (List (Int)) → (List (List (Int))) → (Int) → (Int) → Option ((List (Int)) × (List (List (Int))))) (r_l2 : (List (Int)) → (List (List (Int))) → Option ((List (Int)) × (List (List (Int))))) (x2 : List (Int)) (x3 : List (List (Int))) (x4 : List (Int)) (x14 : List (List (Int))) (x15 : Int) (x16 : Int) : Option ((List (Int)) × (List (List (Int)))) :=
  bif (decide (x16 < x15)) then
    if 0 ≤ x16 ∧ x16 < ((List.length x14) : Int) then
      if (List.length x3) ≤ (List.length x3) ∧ ((List.length x3) + (List.length (List.take 1 ([(List.getD x14 (Int.toNat x16) [])] : List (List (Int)))))) * 24 ≤ LIM then
        if 0 ≤ (0 : Int) ∧ (0 : Int) < ((List.length (List.getD x14 (Int.toNat x16) [])) : Int) then
          if (List.length x4) ≤ (List.length x4) ∧ ((List.length x4) + (List.length (List.take 1 ([(List.getD (List.getD x14 (Int.toNat x16) []) (Int.toNat (0 : Int)) (0 : Int))] : List (Int))))) * 8 ≤ LIM then
            n_l0 (List.take (List.length x2) x2) (List.take (List.length (List.append (List.take (List.length x3) x3) (List.take 1 ([(List.getD x14 (Int.toNat x16) [])] : List (List (Int)))))) (List.append (List.take (List.length x3) x3) (List.take 1 ([(List.getD x14 (Int.toNat x16) [])] : List (List (Int)))))) (List.take (List.length (List.append (List.take (List.length x4) x4) (List.take 1 ([(List.getD (List.getD x14 (Int.toNat x16) []) (Int.toNat (0 : Int)) (0 : Int))] : List (Int))))) (List.append (List.take (List.length x4) x4) (List.take 1 ([(List.getD (List.getD x14 (Int.toNat x16) []) (Int.toNat (0 : Int)) (0 : Int))] : List (Int))))) x14 x15 (IntKind.i64.wrap (x16 + (1 : Int)))
          else none
        else none
      else none
    else none
  else
    bif (decide ((((List.length x4) : Nat) : Int) > (0 : Int))) then
      if (List.length x3) ≤ (List.length x3) ∧ ((List.length x3) + (List.length (List.take 1 ([(List.take (List.length x4) x4)] : List (List (Int)))))) * 24 ≤ LIM then
        r_l2 (List.take (List.length x2) x2) (List.take (List.length (List.append (List.take (List.length x3) x3) (List.take 1 ([(List.take (List.length x4) x4)] : List (List (Int)))))) (List.append (List.take (List.length x3) x3) (List.take 1 ([(List.take (List.length x4) x4)] : List (List (Int))))))
      else none
    else
      r_l2 (List.take (List.length x2) x2) (List.take (List.length x3) x3)
def r7_Merged.b_l2 (c140 : r7_inTail.E) (r_l4 : (List (Int)) → (List (List (Int))) → (Int) → (Bool) → (Int) → (Int) → Option ((List (Int)) × (List (List (Int))))) (x2 : List (Int)) (x3 : List (List (Int))) : Option ((List (Int)) × (List (List (Int)))) :=
  bif (decide ((((List.length x3) : Nat) : Int) > (0 : Int))) then
    if (List.length x3) = (List.length x3) then
      r_l4 (List.take (List.length x2) x2) (List.take (List.length x3) x3) (0 : Int) false (((List.length x3) : Nat) : Int) (0 : Int)
    else none
  else
    some ((List.take (List.length x2) x2), ([] : List (List (Int))))
def r7_Merged.b_l4 (c140 : r7_inTail.E) (n_l4 : (List (Int)) → (List (List (Int))) → (Int) → (Bool) → (Int) → (Int) → Option ((List (Int)) × (List (List (Int))))) (r_l6 : (List (Int)) → (Int) → (List (List (Int))) → (List (List (Int))) → (Int) → (Int) → Option ((List (Int)) × (List (List (Int))))) (x2 : List (Int)) (x3 : List (List (Int))) (x7 : Int) (x8 : Bool) (x42 : Int) (x43 : Int) : Option ((List (Int)) × (List (List (Int)))) :=
  bif (decide (x43 < x42)) then
    if 0 ≤ x43 ∧ x43 < (((List.length x3) : Nat) : Int) then
      bif (!x8) then
        if 0 ≤ (0 : Int) ∧ (0 : Int) < ((List.length (List.getD x3 (0 + Int.toNat x43) [])) : Int) then
          (c140 ((List.take (List.length x3) x3), (List.getD (List.getD x3 (0 + Int.toNat x43) []) (Int.toNat (0 : Int)) (0 : Int)))).bind fun y1 =>
            bif (!y1) then
              if 0 ≤ (0 : Int) ∧ (0 : Int) < ((List.length (List.getD x3 (0 + Int.toNat x43) [])) : Int) then
                if (List.length x3) = (List.length x3) then
                  n_l4 (List.take (List.length x2) x2) (List.take (List.length x3) x3) (List.getD (List.getD x3 (0 + Int.toNat x43) []) (Int.toNat (0 : Int)) (0 : Int)) true x42 (IntKind.i64.wrap (x43 + (1 : Int)))
                else none
              else none
            else
              if (List.length x3) = (List.length x3) then
                n_l4 (List.take (List.length x2) x2) (List.take (List.length x3) x3) x7 x8 x42 (IntKind.i64.wrap (x43 + (1 : Int)))
              else none
        else none
      else
        if (List.length x3) = (List.length x3) then
          n_l4 (List.take (List.length x2) x2) (List.take (List.length x3) x3) x7 x8 x42 (IntKind.i64.wrap (x43 + (1 : Int)))
        else none
    else none
  else
    bif (!x8) then
      some ((List.take (List.length x2) x2), (List.take (List.length x3) x3))
    else
      if (List.length x2) ≤ (List.length x2) ∧ ((List.length x2) + (List.length (List.take 1 ([x7] : List (Int))))) * 8 ≤ LIM then
        r_l6 (List.take (List.length (List.append (List.take (List.length x2) x2) (List.take 1 ([x7] : List (Int))))) (List.append (List.take (List.length x2) x2) (List.take 1 ([x7] : List (Int))))) x7 ([] : List (List (Int))) (List.take (List.length x3) x3) (((List.length x3) : Nat) : Int) (0 : Int)
      else none
def r7_Merged.b_l6 (c140 : r7_inTail.E) (r_g27 : (List (Int)) → (Int) → (List (List (Int))) → (List (Int)) → (List (List (Int))) → (Int) → (Int) → Option ((List (Int)) × (List (List (Int))))) (n_l6 : (List (Int)) → (Int) → (List (List (Int))) → (List (List (Int))) → (Int) → (Int) → Option ((List (Int)) × (List (List (Int))))) (n_l2 : (List (Int)) → (List (List (Int))) → Option ((List (Int)) × (List (List (Int))))) (x2 : List (Int)) (x7 : Int) (x11 : List (List (Int))) (x69 : List (List (Int))) (x70 : Int) (x71 : Int) : Option ((List (Int)) × (List (List (Int)))) :=
  bif (decide (x71 < x70)) then
    if 0 ≤ x71 ∧ x71 < (((List.length x69) : Nat) : Int) then
      if 0 ≤ (0 : Int) ∧ (0 : Int) < ((List.length (List.getD x69 (0 + Int.toNat x71) [])) : Int) then
        bif ((List.getD (List.getD x69 (0 + Int.toNat x71) []) (Int.toNat (0 : Int)) (0 : Int)) == x7) then
          if 0 ≤ (1 : Int) ∧ (1 : Int) ≤ ((List.length (List.getD x69 (0 + Int.toNat x71) [])) : Int) ∧ ((List.length (List.getD x69 (0 + Int.toNat x71) [])) : Int) ≤ ((List.length (List.getD x69 (0 + Int.toNat x71) [])) : Int) then
            bif (decide (((List.length (List.drop (Int.toNat (1 : Int)) (List.take (Int.toNat ((List.length (List.getD x69 (0 + Int.toNat x71) [])) : Int)) (List.getD x69 (0 + Int.toNat x71) [])))) : Int) > (0 : Int))) then
              r_g27 (List.take (List.length x2) x2) x7 (List.take (List.length x11) x11) (List.drop (Int.toNat (1 : Int)) (List.take (Int.toNat ((List.length (List.getD x69 (0 + Int.toNat x71) [])) : Int)) (List.getD x69 (0 + Int.toNat x71) []))) (List.take (List.length x69) x69) x70 x71
            else
              n_l6 (List.take (List.length x2) x2) x7 (List.take (List.length x11) x11) (List.take (List.length x69) x69) x70 (IntKind.i64.wrap (x71 + (1 : Int)))
          else none
        else
          bif (decide (((List.length (List.getD x69 (0 + Int.toNat x71) [])) : Int) > (0 : Int))) then
            r_g27 (List.take (List.length x2) x2) x7 (List.take (List.length x11) x11) (List.getD x69 (0 + Int.toNat x71) []) (List.take (List.length x69) x69) x70 x71
          else
            n_l6 (List.take (List.length x2) x2) x7 (List.take (List.length x11) x11) (List.take (List.length x69) x69) x70 (IntKind.i64.wrap (x71 + (1 : Int)))
      else none
    else none
  else
    n_l2 (List.take (List.length x2) x2) (List.take (List.length x11) x11)
def r7_Merged.b_g27 (c140 : r7_inTail.E) (n_l6 : (List (Int)) → (Int) → (List (List (Int))) → (List (List (Int))) → (Int) → (Int) → Option ((List (Int)) × (List (List (Int))))) (x2 : List (Int)) (x7 : Int) (x11 : List (List (Int))) (x13 : List (Int)) (x69 : List (List (Int))) (x70 : Int) (x71 : Int) : Option ((List (Int)) × (List (List (Int)))) :=
  if (List.length x11) ≤ (List.length x11) ∧ ((List.length x11) + (List.length (List.take 1 ([x13] : List (List (Int)))))) * 24 ≤ LIM then
    n_l6 (List.take (List.length x2) x2) x7 (List.take (List.length (List.append (List.take (List.length x11) x11) (List.take 1 ([x13] : List (List (Int)))))) (List.append (List.take (List.length x11) x11) (List.take 1 ([x13] : List (List (Int)))))) (List.take (List.length x69) x69) x70 (IntKind.i64.wrap (x71 + (1 : Int)))
  else none
def r7_Merged.g27 (c140 : r7_inTail.E) (k : Nat) (n_l2 : (List (Int)) → (List (List (Int))) → Option ((List (Int)) × (List (List (Int))))) (n_l6 : (List (Int)) → (Int) → (List (List (Int))) → (List (List (Int))) → (Int) → (Int) → Option ((List (Int)) × (List (List (Int))))) (x2 : List (Int)) (x7 : Int) (x11 : List (List (Int))) (x13 : List (Int)) (x69 : List (List (Int))) (x70 : Int) (x71 : Int) : Option ((List (Int)) × (List (List (Int)))) := gate k (r7_Merged.b_g27 c140 n_l6 x2 x7 x11 x13 x69 x70 x71)
def r7_Merged.l6 (c140 : r7_inTail.E) (k : Nat) (n_l2 : (List (Int)) → (List (List (Int))) → Option ((List (Int)) × (List (List (Int))))) : Nat → (List (Int)) → (Int) → (List (List (Int))) → (List (List (Int))) → (Int) → (Int) → Option ((List (Int)) × (List (List (Int))))
  | 0, _, _, _, _, _, _ => none
  | n + 1, x2, x7, x11, x69, x70, x71 => r7_Merged.b_l6 c140 (r7_Merged.g27 c140 k n_l2 (fun x2 x7 x11 x69 x70 x71 => r7_Merged.l6 c140 k n_l2 n x2 x7 x11 x69 x70 x71)) (fun x2 x7 x11 x69 x70 x71 => r7_Merged.l6 c140 k n_l2 n x2 x7 x11 x69 x70 x71) n_l2 x2 x7 x11 x69 x70 x71
def r7_Merged.l4 (c140 : r7_inTail.E) (k : Nat) (n_l2 : (List (Int)) → (List (List (Int))) → Option ((List (Int)) × (List (List (Int))))) : Nat → (List (Int)) → (List (List (Int))) → (Int) → (Bool) → (Int) → (Int) → Option ((List (Int)) × (List (List (Int))))
  | 0, _, _, _, _, _, _ => none
  | n + 1, x2, x3, x7, x8, x42, x43 => r7_Merged.b_l4 c140 (fun x2 x3 x7 x8 x42 x43 => r7_Merged.l4 c140 k n_l2 n x2 x3 x7 x8 x42 x43) (r7_Merged.l6 c140 k n_l2 k) x2 x3 x7 x8 x42 x43
def r7_Merged.l2 (c140 : r7_inTail.E) (k : Nat)  : Nat → (List (Int)) → (List (List (Int))) → Option ((List (Int)) × (List (List (Int))))
  | 0, _, _ => none
  | n + 1, x2, x3 => r7_Merged.b_l2 c140 (r7_Merged.l4 c140 k (fun x2 x3 => r7_Merged.l2 c140 k  n x2 x3) k) x2 x3
def r7_Merged.l0 (c140 : r7_inTail.E) (k : Nat)  : Nat → (List (Int)) → (List (List (Int))) → (List (Int)) → (List (List (Int))) → (Int) → (Int) → Option ((List (Int)) × (List (List (Int))))
  | 0, _, _, _, _, _, _ => none
  | n + 1, x2, x3, x4, x14, x15, x16 => r7_Merged.b_l0 c140 (fun x2 x3 x4 x14 x15 x16 => r7_Merged.l0 c140 k  n x2 x3 x4 x14 x15 x16) (r7_Merged.l2 c140 k  k) x2 x3 x4 x14 x15 x16
def r7_Merged.f (c140 : r7_inTail.E) (k : Nat) (a0 : List (List (Int))) : Option ((List (Int)) × (List (List (Int)))) := r7_Merged.b c140 (r7_Merged.l0 c140 k k) a0
noncomputable def r7_Merged.M_l0 (c140 : r7_inTail.E) (k n : Nat)  (s : St) : Option ((List (Int)) × (List (List (Int)))) := atLoop (r7_Merged.C c140) k n [1, 1, 0, 1, 0] [] r7_Merged.code (r7_Merged.fin c140) s
noncomputable def r7_Merged.fr_l0 (x2 : List (Int)) (x3 : List (List (Int))) (x4 : List (Int)) (x14 : List (List (Int))) (x15 : Int) (x16 : Int) : St := ⟨(((((((List.replicate 92 V.un).set 2 (V.ref 500002 0 0 (List.length x2))).set 3 (V.ref 500003 0 0 (List.length x3))).set 4 (V.ref 500004 0 0 (List.length x4))).set 14 (V.dat (.sl 38 (.sl 3 (.int .i64))) x14)).set 15 (V.dat (.int .i64) x15)).set 16 (V.dat (.int .i64) x16)), [⟨500004, 0, .arr 3 (.int .i64) x4⟩, ⟨500003, 0, .arr 38 (.sl 3 (.int .i64)) x3⟩, ⟨500002, 0, .arr 3 (.int .i64) x2⟩]⟩
noncomputable def r7_Merged.M_l2 (c140 : r7_inTail.E) (k n : Nat)  (s : St) : Option ((List (Int)) × (List (List (Int)))) := atLoop (r7_Merged.C c140) k n [1, 1, 1, 1, 0, 0] [] r7_Merged.code (r7_Merged.fin c140) s
noncomputable def r7_Merged.fr_l2 (x2 : List (Int)) (x3 : List (List (Int))) : St := ⟨(((List.replicate 92 V.un).set 2 (V.ref 500002 0 0 (List.length x2))).set 3 (V.ref 500003 0 0 (List.length x3))), [⟨500003, 0, .arr 38 (.sl 3 (.int .i64)) x3⟩, ⟨500002, 0, .arr 3 (.int .i64) x2⟩]⟩
noncomputable def r7_Merged.M_l4 (c140 : r7_inTail.E) (k n : Nat) (m0 : Nat) (s : St) : Option ((List (Int)) × (List (List (Int)))) := atLoop (r7_Merged.C c140) k n [1, 1, 1, 1, 0, 0, 0, 1, 0, 1, 0, 1, 0] [m0] r7_Merged.code (r7_Merged.fin c140) s
noncomputable def r7_Merged.fr_l4 (x2 : List (Int)) (x3 : List (List (Int))) (x7 : Int) (x8 : Bool) (x42 : Int) (x43 : Int) : St := ⟨((((((((List.replicate 92 V.un).set 2 (V.ref 500002 0 0 (List.length x2))).set 3 (V.ref 500003 0 0 (List.length x3))).set 7 (V.dat (.int .i64) x7)).set 8 (V.dat .bool x8)).set 41 (V.ref 500003 0 0 (List.length x3))).set 42 (V.dat (.int .i64) x42)).set 43 (V.dat (.int .i64) x43)), [⟨500003, 0, .arr 38 (.sl 3 (.int .i64)) x3⟩, ⟨500002, 0, .arr 3 (.int .i64) x2⟩]⟩
noncomputable def r7_Merged.M_l6 (c140 : r7_inTail.E) (k n : Nat) (m0 : Nat) (s : St) : Option ((List (Int)) × (List (List (Int)))) := atLoop (r7_Merged.C c140) k n [1, 1, 1, 1, 0, 0, 0, 1, 0, 1, 1, 1, 1, 1, 0, 1, 0] [m0] r7_Merged.code (r7_Merged.fin c140) s
noncomputable def r7_Merged.fr_l6 (x2 : List (Int)) (x7 : Int) (x11 : List (List (Int))) (x69 : List (List (Int))) (x70 : Int) (x71 : Int) : St := ⟨(((((((List.replicate 92 V.un).set 2 (V.ref 500002 0 0 (List.length x2))).set 7 (V.dat (.int .i64) x7)).set 11 (V.ref 500011 0 0 (List.length x11))).set 69 (V.ref 500069 0 0 (List.length x69))).set 70 (V.dat (.int .i64) x70)).set 71 (V.dat (.int .i64) x71)), [⟨500069, 0, .arr 38 (.sl 3 (.int .i64)) x69⟩, ⟨500011, 0, .arr 38 (.sl 3 (.int .i64)) x11⟩, ⟨500002, 0, .arr 3 (.int .i64) x2⟩]⟩
noncomputable def r7_Merged.M_g27 (c140 : r7_inTail.E) (k : Nat) (m0 : Nat) (m1 : Nat) (s : St) : Option ((List (Int)) × (List (List (Int)))) := atGate (r7_Merged.C c140) k [1, 1, 1, 1, 0, 0, 0, 1, 0, 1, 1, 1, 1, 1, 0, 1, 0, 0, 1, 1, 0, 0, 1, 1, 1, 0] [m0, m1] r7_Merged.code (r7_Merged.fin c140) s
noncomputable def r7_Merged.fr_g27 (x2 : List (Int)) (x7 : Int) (x11 : List (List (Int))) (x13 : List (Int)) (x69 : List (List (Int))) (x70 : Int) (x71 : Int) : St := ⟨((((((((List.replicate 92 V.un).set 2 (V.ref 500002 0 0 (List.length x2))).set 7 (V.dat (.int .i64) x7)).set 11 (V.ref 500011 0 0 (List.length x11))).set 13 (V.dat (.sl 3 (.int .i64)) x13)).set 69 (V.ref 500069 0 0 (List.length x69))).set 70 (V.dat (.int .i64) x70)).set 71 (V.dat (.int .i64) x71)), [⟨500069, 0, .arr 38 (.sl 3 (.int .i64)) x69⟩, ⟨500011, 0, .arr 38 (.sl 3 (.int .i64)) x11⟩, ⟨500002, 0, .arr 3 (.int .i64) x2⟩]⟩
theorem r7_Merged.r (c140 : r7_inTail.E) (k : Nat) (a0 : List (List (Int))) : fn (r7_Merged.C c140) k Tryd.f133 r7_Merged.A r7_Merged.R a0 = r7_Merged.b c140 (fun x2 x3 x4 x14 x15 x16 => r7_Merged.M_l0 c140 k k  (r7_Merged.fr_l0 x2 x3 x4 x14 x15 x16)) a0 := by kernel_rfl
theorem r7_Merged.z_l0 (c140 : r7_inTail.E) (k : Nat)  (s : St) : r7_Merged.M_l0 c140 k 0  s = none := by kernel_rfl
theorem r7_Merged.r_l0 (c140 : r7_inTail.E) (k n : Nat)  (x2 : List (Int)) (x3 : List (List (Int))) (x4 : List (Int)) (x14 : List (List (Int))) (x15 : Int) (x16 : Int) : r7_Merged.M_l0 c140 k (n + 1)  (r7_Merged.fr_l0 x2 x3 x4 x14 x15 x16) = r7_Merged.b_l0 c140 (fun x2 x3 x4 x14 x15 x16 => r7_Merged.M_l0 c140 k n  (r7_Merged.fr_l0 x2 x3 x4 x14 x15 x16)) (fun x2 x3 => r7_Merged.M_l2 c140 k k  (r7_Merged.fr_l2 x2 x3)) x2 x3 x4 x14 x15 x16 := by kernel_rfl
theorem r7_Merged.z_l2 (c140 : r7_inTail.E) (k : Nat)  (s : St) : r7_Merged.M_l2 c140 k 0  s = none := by kernel_rfl
theorem r7_Merged.r_l2 (c140 : r7_inTail.E) (k n : Nat)  (x2 : List (Int)) (x3 : List (List (Int))) : r7_Merged.M_l2 c140 k (n + 1)  (r7_Merged.fr_l2 x2 x3) = r7_Merged.b_l2 c140 (fun x2 x3 x7 x8 x42 x43 => r7_Merged.M_l4 c140 k k n (r7_Merged.fr_l4 x2 x3 x7 x8 x42 x43)) x2 x3 := by kernel_rfl
theorem r7_Merged.z_l4 (c140 : r7_inTail.E) (k : Nat) (m0 : Nat) (s : St) : r7_Merged.M_l4 c140 k 0 m0 s = none := by kernel_rfl
theorem r7_Merged.r_l4 (c140 : r7_inTail.E) (k n : Nat) (m0 : Nat) (x2 : List (Int)) (x3 : List (List (Int))) (x7 : Int) (x8 : Bool) (x42 : Int) (x43 : Int) : r7_Merged.M_l4 c140 k (n + 1) m0 (r7_Merged.fr_l4 x2 x3 x7 x8 x42 x43) = r7_Merged.b_l4 c140 (fun x2 x3 x7 x8 x42 x43 => r7_Merged.M_l4 c140 k n m0 (r7_Merged.fr_l4 x2 x3 x7 x8 x42 x43)) (fun x2 x7 x11 x69 x70 x71 => r7_Merged.M_l6 c140 k k m0 (r7_Merged.fr_l6 x2 x7 x11 x69 x70 x71)) x2 x3 x7 x8 x42 x43 := by kernel_rfl
theorem r7_Merged.z_l6 (c140 : r7_inTail.E) (k : Nat) (m0 : Nat) (s : St) : r7_Merged.M_l6 c140 k 0 m0 s = none := by kernel_rfl
theorem r7_Merged.r_l6 (c140 : r7_inTail.E) (k n : Nat) (m0 : Nat) (x2 : List (Int)) (x7 : Int) (x11 : List (List (Int))) (x69 : List (List (Int))) (x70 : Int) (x71 : Int) : r7_Merged.M_l6 c140 k (n + 1) m0 (r7_Merged.fr_l6 x2 x7 x11 x69 x70 x71) = r7_Merged.b_l6 c140 (fun x2 x7 x11 x13 x69 x70 x71 => r7_Merged.M_g27 c140 k  m0 n (r7_Merged.fr_g27 x2 x7 x11 x13 x69 x70 x71)) (fun x2 x7 x11 x69 x70 x71 => r7_Merged.M_l6 c140 k n m0 (r7_Merged.fr_l6 x2 x7 x11 x69 x70 x71)) (fun x2 x3 => r7_Merged.M_l2 c140 k m0  (r7_Merged.fr_l2 x2 x3)) x2 x7 x11 x69 x70 x71 := by kernel_rfl
theorem r7_Merged.r_g27 (c140 : r7_inTail.E) (k : Nat) (m0 : Nat) (m1 : Nat) (x2 : List (Int)) (x7 : Int) (x11 : List (List (Int))) (x13 : List (Int)) (x69 : List (List (Int))) (x70 : Int) (x71 : Int) : r7_Merged.M_g27 c140 k m0 m1 (r7_Merged.fr_g27 x2 x7 x11 x13 x69 x70 x71) = gate k (r7_Merged.b_g27 c140 (fun x2 x7 x11 x69 x70 x71 => r7_Merged.M_l6 c140 k m1 m0 (r7_Merged.fr_l6 x2 x7 x11 x69 x70 x71)) x2 x7 x11 x13 x69 x70 x71) := by kernel_rfl
theorem r7_Merged.e_g27 (c140 : r7_inTail.E) (k : Nat) (m0 : Nat) (m1 : Nat) (x2 : List (Int)) (x7 : Int) (x11 : List (List (Int))) (x13 : List (Int)) (x69 : List (List (Int))) (x70 : Int) (x71 : Int) : r7_Merged.M_g27 c140 k m0 m1 (r7_Merged.fr_g27 x2 x7 x11 x13 x69 x70 x71) = r7_Merged.g27 c140 k (fun x2 x3 => r7_Merged.M_l2 c140 k m0  (r7_Merged.fr_l2 x2 x3)) (fun x2 x7 x11 x69 x70 x71 => r7_Merged.M_l6 c140 k m1 m0 (r7_Merged.fr_l6 x2 x7 x11 x69 x70 x71)) x2 x7 x11 x13 x69 x70 x71 := by
  rw [r7_Merged.r_g27]
  rfl
theorem r7_Merged.e_l6 (c140 : r7_inTail.E) (k n : Nat) (m0 : Nat) (x2 : List (Int)) (x7 : Int) (x11 : List (List (Int))) (x69 : List (List (Int))) (x70 : Int) (x71 : Int) : r7_Merged.M_l6 c140 k n m0 (r7_Merged.fr_l6 x2 x7 x11 x69 x70 x71) = r7_Merged.l6 c140 k (fun x2 x3 => r7_Merged.M_l2 c140 k m0  (r7_Merged.fr_l2 x2 x3)) n x2 x7 x11 x69 x70 x71 := by
  induction n generalizing x2 x7 x11 x69 x70 x71 with
  | zero => rw [r7_Merged.z_l6]; rfl
  | succ n ih =>
    rw [r7_Merged.r_l6]
    simp only [r7_Merged.e_g27, ih]
    rfl
theorem r7_Merged.e_l4 (c140 : r7_inTail.E) (k n : Nat) (m0 : Nat) (x2 : List (Int)) (x3 : List (List (Int))) (x7 : Int) (x8 : Bool) (x42 : Int) (x43 : Int) : r7_Merged.M_l4 c140 k n m0 (r7_Merged.fr_l4 x2 x3 x7 x8 x42 x43) = r7_Merged.l4 c140 k (fun x2 x3 => r7_Merged.M_l2 c140 k m0  (r7_Merged.fr_l2 x2 x3)) n x2 x3 x7 x8 x42 x43 := by
  induction n generalizing x2 x3 x7 x8 x42 x43 with
  | zero => rw [r7_Merged.z_l4]; rfl
  | succ n ih =>
    rw [r7_Merged.r_l4]
    simp only [r7_Merged.e_l6, ih]
    rfl
theorem r7_Merged.e_l2 (c140 : r7_inTail.E) (k n : Nat)  (x2 : List (Int)) (x3 : List (List (Int))) : r7_Merged.M_l2 c140 k n  (r7_Merged.fr_l2 x2 x3) = r7_Merged.l2 c140 k  n x2 x3 := by
  induction n generalizing x2 x3 with
  | zero => rw [r7_Merged.z_l2]; rfl
  | succ n ih =>
    rw [r7_Merged.r_l2]
    simp only [r7_Merged.e_l4, ih]
    rfl
theorem r7_Merged.e_l0 (c140 : r7_inTail.E) (k n : Nat)  (x2 : List (Int)) (x3 : List (List (Int))) (x4 : List (Int)) (x14 : List (List (Int))) (x15 : Int) (x16 : Int) : r7_Merged.M_l0 c140 k n  (r7_Merged.fr_l0 x2 x3 x4 x14 x15 x16) = r7_Merged.l0 c140 k  n x2 x3 x4 x14 x15 x16 := by
  induction n generalizing x2 x3 x4 x14 x15 x16 with
  | zero => rw [r7_Merged.z_l0]; rfl
  | succ n ih =>
    rw [r7_Merged.r_l0]
    simp only [r7_Merged.e_l2, ih]
    rfl
theorem r7_Merged.e (c140 : r7_inTail.E) (k : Nat) (a0 : List (List (Int))) : fn (r7_Merged.C c140) k Tryd.f133 r7_Merged.A r7_Merged.R a0 = r7_Merged.f c140 k a0 := by
  rw [r7_Merged.r]
  simp only [r7_Merged.e_l0]
  rfl
theorem r7_Merged.ty (c140 : r7_inTail.E) : TyOk Tryd.prog (r7_Merged.C c140) := tyOk_of (by kernel_rfl)
def r7_Merged.u (k : Nat) : r7_Merged.E := fun y => r7_Merged.f (r7_inTail.u k) k y
theorem r7_Merged.sound (k : Nat) : Sound Tryd.prog ⟨133, r7_Merged.A, r7_Merged.R, r7_Merged.u k⟩ := by
  have h := fn_sound (k := k) («as» := r7_Merged.A) (rs := r7_Merged.R) (r7_Merged.ty (r7_inTail.u k)) (fun E h => by
    simp only [r7_Merged.C, List.mem_cons, List.not_mem_nil, or_false] at h
    rcases h with rfl
    · exact r7_inTail.sound k) mixed Tryd.func133 (by kernel_rfl) (by kernel_rfl)
  have e : fn (r7_Merged.C (r7_inTail.u k)) k Tryd.f133 r7_Merged.A r7_Merged.R = r7_Merged.u k := by
    funext y
    exact r7_Merged.e (r7_inTail.u k) k y
  rw [e] at h
  exact h
/-! ### brindlewood/brindlewoodref7.Order: f120 -/
abbrev r7_Order.A : List Sh := [(.d (.sl 38 (.sl 3 (.int .i64))))]
abbrev r7_Order.R : List Sh := [(.d (.sl 3 (.int .i64))), (.d Y_Fault)]
abbrev r7_Order.E : Type := (List (List (Int))) → Option ((List (Int)) × X_acceptRange)
def r7_Order.C (c132 : r7_OrdersFault.E) (c133 : r7_Merged.E) (c78 : r7_At.E) : Ctx := { ty := [(3, (.int .i64)), (38, (.sl 3 (.int .i64))), (84, Y_Fault), (149, (.sl 38 (.sl 3 (.int .i64))))], nf := [(84, 2)], by_ := [(3, 8), (38, 24)], env := [⟨132, r7_OrdersFault.A, r7_OrdersFault.R, c132⟩, ⟨133, r7_Merged.A, r7_Merged.R, c133⟩, ⟨78, r7_At.A, r7_At.R, c78⟩], spec := [] }
noncomputable def r7_Order.code : Code := Func.code Tryd.f120
noncomputable def r7_Order.fin (c132 : r7_OrdersFault.E) (c133 : r7_Merged.E) (c78 : r7_At.E) := kfin (r7_Order.C c132 c133 c78) Tryd.f120 r7_Order.A r7_Order.R
def r7_Order.b (c132 : r7_OrdersFault.E) (c133 : r7_Merged.E) (c78 : r7_At.E)  (a0 : List (List (Int))) : Option ((List (Int)) × X_acceptRange) :=
  (c132 a0).bind fun y1 =>
    bif (y1.1 != (0 : Int)) then
      some (([] : List (Int)), y1)
    else
      (c133 a0).bind fun y2 =>
        bif (decide (((List.length y2.2) : Int) > (0 : Int))) then
          (c78 ((19 : Int), (-1 : Int))).bind fun y3 =>
            some (([] : List (Int)), y3)
        else
          bif (decide (((List.length y2.1) : Int) ≥ (40 : Int))) then
            (c78 ((14 : Int), (-1 : Int))).bind fun y4 =>
              some (([] : List (Int)), y4)
          else
            some (y2.1, ((0 : Int), (0 : Int)))
def r7_Order.c (c132 : r7_OrdersFault.E) (c133 : r7_Merged.E) (c78 : r7_At.E)  (a0 : List (List (Int))) : Option ((List (Int)) × X_acceptRange) :=
  (c132 a0).bind fun y1 =>
    bif (y1.1 != (0 : Int)) then
      some (([] : List Int), y1)
    else
      (c133 a0).bind fun y2 =>
        bif (decide (((List.length y2.2) : Int) > (0 : Int))) then
          (c78 ((19 : Int), (-1 : Int))).bind fun y3 =>
            some (([] : List Int), y3)
        else
          bif (decide (((List.length y2.1) : Int) ≥ (40 : Int))) then
            (c78 ((14 : Int), (-1 : Int))).bind fun y4 =>
              some (([] : List Int), y4)
          else
            some (y2.1, ((0 : Int), (0 : Int)))
theorem r7_Order.q (c132 : r7_OrdersFault.E) (c133 : r7_Merged.E) (c78 : r7_At.E)  (a0 : List (List (Int))) : r7_Order.b c132 c133 c78 a0 = r7_Order.c c132 c133 c78 a0 := by
  simp only [r7_Order.b, r7_Order.c, List.take_length, take_one, Nat.zero_add, Int.toNat_natCast, Int.toNat_zero, List.drop_zero, List.append_eq, Nat.le_refl, Int.le_refl, true_and, and_true, zero_le_one, if_true, prod_eta, Int.natCast_zero]
def r7_Order.f (c132 : r7_OrdersFault.E) (c133 : r7_Merged.E) (c78 : r7_At.E) (k : Nat) (a0 : List (List (Int))) : Option ((List (Int)) × X_acceptRange) := r7_Order.b c132 c133 c78  a0
theorem r7_Order.r (c132 : r7_OrdersFault.E) (c133 : r7_Merged.E) (c78 : r7_At.E) (k : Nat) (a0 : List (List (Int))) : fn (r7_Order.C c132 c133 c78) k Tryd.f120 r7_Order.A r7_Order.R a0 = r7_Order.b c132 c133 c78  a0 := by kernel_rfl
theorem r7_Order.e (c132 : r7_OrdersFault.E) (c133 : r7_Merged.E) (c78 : r7_At.E) (k : Nat) (a0 : List (List (Int))) : fn (r7_Order.C c132 c133 c78) k Tryd.f120 r7_Order.A r7_Order.R a0 = r7_Order.f c132 c133 c78 k a0 := by
  rw [r7_Order.r]
  rfl
theorem r7_Order.ty (c132 : r7_OrdersFault.E) (c133 : r7_Merged.E) (c78 : r7_At.E) : TyOk Tryd.prog (r7_Order.C c132 c133 c78) := tyOk_of (by kernel_rfl)
def r7_Order.u (k : Nat) : r7_Order.E := fun y => r7_Order.f (r7_OrdersFault.u k) (r7_Merged.u k) (r7_At.u k) k y
theorem r7_Order.sound (k : Nat) : Sound Tryd.prog ⟨120, r7_Order.A, r7_Order.R, r7_Order.u k⟩ := by
  have h := fn_sound (k := k) («as» := r7_Order.A) (rs := r7_Order.R) (r7_Order.ty (r7_OrdersFault.u k) (r7_Merged.u k) (r7_At.u k)) (fun E h => by
    simp only [r7_Order.C, List.mem_cons, List.not_mem_nil, or_false] at h
    rcases h with rfl | rfl | rfl
    · exact r7_OrdersFault.sound k
    · exact r7_Merged.sound k
    · exact r7_At.sound k) mixed Tryd.func120 (by kernel_rfl) (by kernel_rfl)
  have e : fn (r7_Order.C (r7_OrdersFault.u k) (r7_Merged.u k) (r7_At.u k)) k Tryd.f120 r7_Order.A r7_Order.R = r7_Order.u k := by
    funext y
    exact r7_Order.e (r7_OrdersFault.u k) (r7_Merged.u k) (r7_At.u k) k y
  rw [e] at h
  exact h
/-! ### brindlewood/brindlewoodref7.orderOk: f87 -/
abbrev r7_orderOk.A : List Sh := [(.d Y_Heap), (.d (.int .i64))]
abbrev r7_orderOk.R : List Sh := [(.d .bool)]
abbrev r7_orderOk.E : Type := ((List X_Object) × (Int)) → Option (Bool)
def r7_orderOk.C (c120 : r7_Order.E) (c106 : r7_Ints.E) : Ctx := { ty := [(3, (.int .i64)), (38, (.sl 3 (.int .i64))), (48, (.sl 88 Y_Object)), (50, Y_Heap), (84, Y_Fault), (88, Y_Object), (149, (.sl 38 (.sl 3 (.int .i64))))], nf := [(50, 1), (84, 2), (88, 10)], by_ := [(3, 8), (38, 24), (88, 168)], env := [⟨120, r7_Order.A, r7_Order.R, c120⟩, ⟨106, r7_Ints.A, r7_Ints.R, c106⟩], spec := [(0, [.d 1 (.int .i64), .bx 2 600002 (.d Y_Heap), .bx 5 600005 (.d Y_Object), .o 6 500006 38 (.sl 3 (.int .i64)), .d 20 (.sl 3 (.int .i64)), .d 21 (.int .i64), .d 22 (.int .i64)])] }
noncomputable def r7_orderOk.code : Code := Func.code Tryd.f87
noncomputable def r7_orderOk.fin (c120 : r7_Order.E) (c106 : r7_Ints.E) := kfin (r7_orderOk.C c120 c106) Tryd.f87 r7_orderOk.A r7_orderOk.R
def r7_orderOk.b (c120 : r7_Order.E) (c106 : r7_Ints.E) (r_l0 : (Int) → (List X_Object) → X_Object → (List (List (Int))) → (List (Int)) → (Int) → (Int) → Option (Bool)) (a0 : List X_Object) (a1 : Int) : Option (Bool) :=
  if 0 ≤ a1 ∧ a1 < ((List.length a0) : Int) then
    bif (((List.getD a0 (Int.toNat a1) Z_Object).1) != (9 : Int)) then
      some true
    else
      r_l0 a1 a0 (List.getD a0 (Int.toNat a1) Z_Object) ([] : List (List (Int))) (((((List.getD a0 (Int.toNat a1) Z_Object).2).2).2).1) ((List.length (((((List.getD a0 (Int.toNat a1) Z_Object).2).2).2).1)) : Int) (0 : Int)
  else none
def r7_orderOk.b_l0 (c120 : r7_Order.E) (c106 : r7_Ints.E) (n_l0 : (Int) → (List X_Object) → X_Object → (List (List (Int))) → (List (Int)) → (Int) → (Int) → Option (Bool)) (x1 : Int) (x2 : List X_Object) (x5 : X_Object) (x6 : List (List (Int))) (x20 : List (Int)) (x21 : Int) (x22 : Int) : Option (Bool) :=
  bif (decide (x22 < x21)) then
    if 0 ≤ x22 ∧ x22 < ((List.length x20) : Int) then
      if 0 ≤ (List.getD x20 (Int.toNat x22) (0 : Int)) ∧ (List.getD x20 (Int.toNat x22) (0 : Int)) < ((List.length x2) : Int) then
        if (List.length x6) ≤ (List.length x6) ∧ ((List.length x6) + (List.length (List.take 1 ([(((((List.getD x2 (Int.toNat (List.getD x20 (Int.toNat x22) (0 : Int))) Z_Object).2).2).2).2).1] : List (List (Int)))))) * 24 ≤ LIM then
          n_l0 x1 x2 x5 (List.take (List.length (List.append (List.take (List.length x6) x6) (List.take 1 ([(((((List.getD x2 (Int.toNat (List.getD x20 (Int.toNat x22) (0 : Int))) Z_Object).2).2).2).2).1] : List (List (Int)))))) (List.append (List.take (List.length x6) x6) (List.take 1 ([(((((List.getD x2 (Int.toNat (List.getD x20 (Int.toNat x22) (0 : Int))) Z_Object).2).2).2).2).1] : List (List (Int)))))) x20 x21 (IntKind.i64.wrap (x22 + (1 : Int)))
        else none
      else none
    else none
  else
    (c120 (List.take (List.length x6) x6)).bind fun y1 =>
      bif (y1.2.1 == (0 : Int)) then
        if 1 ≤ (List.length ([x1] : List (Int))) ∧ (1 + (List.length y1.1)) * 8 ≤ LIM then
          (c106 (x5.2.2.2.2.1, (List.take (List.length (List.append (List.take 1 ([x1] : List (Int))) y1.1)) (List.append (List.take 1 ([x1] : List (Int))) y1.1)))).bind fun y2 =>
            some y2
        else none
      else
        some false
def r7_orderOk.c (c120 : r7_Order.E) (c106 : r7_Ints.E) (r_l0 : (Int) → (List X_Object) → X_Object → (List (List (Int))) → (List (Int)) → (Int) → (Int) → Option (Bool)) (a0 : List X_Object) (a1 : Int) : Option (Bool) :=
  if 0 ≤ a1 ∧ a1 < ((List.length a0) : Int) then
    bif (((List.getD a0 (Int.toNat a1) Z_Object).1) != (9 : Int)) then
      some true
    else
      r_l0 a1 a0 (List.getD a0 (Int.toNat a1) Z_Object) ([] : List (List Int)) (((((List.getD a0 (Int.toNat a1) Z_Object).2).2).2).1) ((List.length (((((List.getD a0 (Int.toNat a1) Z_Object).2).2).2).1)) : Int) (0 : Int)
  else none
theorem r7_orderOk.q (c120 : r7_Order.E) (c106 : r7_Ints.E) (r_l0 : (Int) → (List X_Object) → X_Object → (List (List (Int))) → (List (Int)) → (Int) → (Int) → Option (Bool)) (a0 : List X_Object) (a1 : Int) : r7_orderOk.b c120 c106 r_l0 a0 a1 = r7_orderOk.c c120 c106 r_l0 a0 a1 := by
  simp only [r7_orderOk.b, r7_orderOk.c, List.take_length, take_one, Nat.zero_add, Int.toNat_natCast, Int.toNat_zero, List.drop_zero, List.append_eq, Nat.le_refl, Int.le_refl, true_and, and_true, zero_le_one, if_true, prod_eta, Int.natCast_zero]
def r7_orderOk.c_l0 (c120 : r7_Order.E) (c106 : r7_Ints.E) (n_l0 : (Int) → (List X_Object) → X_Object → (List (List (Int))) → (List (Int)) → (Int) → (Int) → Option (Bool)) (x1 : Int) (x2 : List X_Object) (x5 : X_Object) (x6 : List (List (Int))) (x20 : List (Int)) (x21 : Int) (x22 : Int) : Option (Bool) :=
  bif (decide (x22 < x21)) then
    if 0 ≤ x22 ∧ x22 < ((List.length x20) : Int) then
      if 0 ≤ (List.getD x20 (Int.toNat x22) (0 : Int)) ∧ (List.getD x20 (Int.toNat x22) (0 : Int)) < ((List.length x2) : Int) then
        if ((List.length x6) + (List.length ([(((((List.getD x2 (Int.toNat (List.getD x20 (Int.toNat x22) (0 : Int))) Z_Object).2).2).2).2).1] : List (List Int)))) * 24 ≤ LIM then
          n_l0 x1 x2 x5 (x6 ++ ([(((((List.getD x2 (Int.toNat (List.getD x20 (Int.toNat x22) (0 : Int))) Z_Object).2).2).2).2).1] : List (List Int))) x20 x21 (IntKind.i64.wrap (x22 + (1 : Int)))
        else none
      else none
    else none
  else
    (c120 x6).bind fun y1 =>
      bif (y1.2.1 == (0 : Int)) then
        if 1 ≤ (List.length ([x1] : List Int)) ∧ (1 + (List.length y1.1)) * 8 ≤ LIM then
          (c106 (x5.2.2.2.2.1, (([x1] : List Int) ++ y1.1))).bind fun y2 =>
            some y2
        else none
      else
        some false
theorem r7_orderOk.q_l0 (c120 : r7_Order.E) (c106 : r7_Ints.E) (n_l0 : (Int) → (List X_Object) → X_Object → (List (List (Int))) → (List (Int)) → (Int) → (Int) → Option (Bool)) (x1 : Int) (x2 : List X_Object) (x5 : X_Object) (x6 : List (List (Int))) (x20 : List (Int)) (x21 : Int) (x22 : Int) : r7_orderOk.b_l0 c120 c106 n_l0 x1 x2 x5 x6 x20 x21 x22 = r7_orderOk.c_l0 c120 c106 n_l0 x1 x2 x5 x6 x20 x21 x22 := by
  simp only [r7_orderOk.b_l0, r7_orderOk.c_l0, List.take_length, take_one, Nat.zero_add, Int.toNat_natCast, Int.toNat_zero, List.drop_zero, List.append_eq, Nat.le_refl, Int.le_refl, true_and, and_true, zero_le_one, if_true, prod_eta, Int.natCast_zero]
def r7_orderOk.l0 (c120 : r7_Order.E) (c106 : r7_Ints.E) (k : Nat)  : Nat → (Int) → (List X_Object) → X_Object → (List (List (Int))) → (List (Int)) → (Int) → (Int) → Option (Bool)
  | 0, _, _, _, _, _, _, _ => none
  | n + 1, x1, x2, x5, x6, x20, x21, x22 => r7_orderOk.b_l0 c120 c106 (fun x1 x2 x5 x6 x20 x21 x22 => r7_orderOk.l0 c120 c106 k  n x1 x2 x5 x6 x20 x21 x22) x1 x2 x5 x6 x20 x21 x22
def r7_orderOk.f (c120 : r7_Order.E) (c106 : r7_Ints.E) (k : Nat) (a0 : List X_Object) (a1 : Int) : Option (Bool) := r7_orderOk.b c120 c106 (r7_orderOk.l0 c120 c106 k k) a0 a1
noncomputable def r7_orderOk.M_l0 (c120 : r7_Order.E) (c106 : r7_Ints.E) (k n : Nat)  (s : St) : Option (Bool) := atLoop (r7_orderOk.C c120 c106) k n [1, 1, 1, 1, 0, 1, 0] [] r7_orderOk.code (r7_orderOk.fin c120 c106) s
noncomputable def r7_orderOk.fr_l0 (x1 : Int) (x2 : List X_Object) (x5 : X_Object) (x6 : List (List (Int))) (x20 : List (Int)) (x21 : Int) (x22 : Int) : St := ⟨((((((((List.replicate 53 V.un).set 1 (V.dat (.int .i64) x1)).set 2 (V.bp 600002 0 [])).set 5 (V.bp 600005 0 [])).set 6 (V.ref 500006 0 0 (List.length x6))).set 20 (V.dat (.sl 3 (.int .i64)) x20)).set 21 (V.dat (.int .i64) x21)).set 22 (V.dat (.int .i64) x22)), [⟨500006, 0, .arr 38 (.sl 3 (.int .i64)) x6⟩, ⟨600005, 0, .box (V.dat Y_Object x5)⟩, ⟨600002, 0, .box (V.dat Y_Heap x2)⟩]⟩
theorem r7_orderOk.r (c120 : r7_Order.E) (c106 : r7_Ints.E) (k : Nat) (a0 : List X_Object) (a1 : Int) : fn (r7_orderOk.C c120 c106) k Tryd.f87 r7_orderOk.A r7_orderOk.R (a0, a1) = r7_orderOk.b c120 c106 (fun x1 x2 x5 x6 x20 x21 x22 => r7_orderOk.M_l0 c120 c106 k k  (r7_orderOk.fr_l0 x1 x2 x5 x6 x20 x21 x22)) a0 a1 := by kernel_rfl
theorem r7_orderOk.z_l0 (c120 : r7_Order.E) (c106 : r7_Ints.E) (k : Nat)  (s : St) : r7_orderOk.M_l0 c120 c106 k 0  s = none := by kernel_rfl
theorem r7_orderOk.r_l0 (c120 : r7_Order.E) (c106 : r7_Ints.E) (k n : Nat)  (x1 : Int) (x2 : List X_Object) (x5 : X_Object) (x6 : List (List (Int))) (x20 : List (Int)) (x21 : Int) (x22 : Int) : r7_orderOk.M_l0 c120 c106 k (n + 1)  (r7_orderOk.fr_l0 x1 x2 x5 x6 x20 x21 x22) = r7_orderOk.b_l0 c120 c106 (fun x1 x2 x5 x6 x20 x21 x22 => r7_orderOk.M_l0 c120 c106 k n  (r7_orderOk.fr_l0 x1 x2 x5 x6 x20 x21 x22)) x1 x2 x5 x6 x20 x21 x22 := by kernel_rfl
theorem r7_orderOk.e_l0 (c120 : r7_Order.E) (c106 : r7_Ints.E) (k n : Nat)  (x1 : Int) (x2 : List X_Object) (x5 : X_Object) (x6 : List (List (Int))) (x20 : List (Int)) (x21 : Int) (x22 : Int) : r7_orderOk.M_l0 c120 c106 k n  (r7_orderOk.fr_l0 x1 x2 x5 x6 x20 x21 x22) = r7_orderOk.l0 c120 c106 k  n x1 x2 x5 x6 x20 x21 x22 := by
  induction n generalizing x1 x2 x5 x6 x20 x21 x22 with
  | zero => rw [r7_orderOk.z_l0]; rfl
  | succ n ih =>
    rw [r7_orderOk.r_l0]
    simp only [ih]
    rfl
theorem r7_orderOk.e (c120 : r7_Order.E) (c106 : r7_Ints.E) (k : Nat) (a0 : List X_Object) (a1 : Int) : fn (r7_orderOk.C c120 c106) k Tryd.f87 r7_orderOk.A r7_orderOk.R (a0, a1) = r7_orderOk.f c120 c106 k a0 a1 := by
  rw [r7_orderOk.r]
  simp only [r7_orderOk.e_l0]
  rfl
theorem r7_orderOk.ty (c120 : r7_Order.E) (c106 : r7_Ints.E) : TyOk Tryd.prog (r7_orderOk.C c120 c106) := tyOk_of (by kernel_rfl)
def r7_orderOk.u (k : Nat) : r7_orderOk.E := fun y => r7_orderOk.f (r7_Order.u k) (r7_Ints.u k) k y.1 y.2
theorem r7_orderOk.sound (k : Nat) : Sound Tryd.prog ⟨87, r7_orderOk.A, r7_orderOk.R, r7_orderOk.u k⟩ := by
  have h := fn_sound (k := k) («as» := r7_orderOk.A) (rs := r7_orderOk.R) (r7_orderOk.ty (r7_Order.u k) (r7_Ints.u k)) (fun E h => by
    simp only [r7_orderOk.C, List.mem_cons, List.not_mem_nil, or_false] at h
    rcases h with rfl | rfl
    · exact r7_Order.sound k
    · exact r7_Ints.sound k) mixed Tryd.func87 (by kernel_rfl) (by kernel_rfl)
  have e : fn (r7_orderOk.C (r7_Order.u k) (r7_Ints.u k)) k Tryd.f87 r7_orderOk.A r7_orderOk.R = r7_orderOk.u k := by
    funext y
    exact r7_orderOk.e (r7_Order.u k) (r7_Ints.u k) k y.1 y.2
  rw [e] at h
  exact h
/-! ### brindlewood/brindlewoodref7.Problem: f45 -/
abbrev r7_Problem.A : List Sh := [(.d Y_Heap)]
abbrev r7_Problem.R : List Sh := [(.d Y_Fault)]
abbrev r7_Problem.E : Type := (List X_Object) → Option X_acceptRange
def r7_Problem.C (c78 : r7_At.E) (c79 : r7_Begin.E) (c80 : r7_SameObject.E) (c81 : r7_shape.E) (c82 : r7_sizes.E) (c83 : r7_names.E) (c84 : r7_values.E) (c85 : r7_links.E) (c86 : r7_keyRule.E) (c87 : r7_orderOk.E) (c48 : sl_Clone_Value.E) : Ctx := { ty := [(3, (.int .i64)), (9, .str), (26, Y_Value), (31, (.sl 26 Y_Value)), (38, (.sl 3 (.int .i64))), (48, (.sl 88 Y_Object)), (50, Y_Heap), (84, Y_Fault), (88, Y_Object)], nf := [(26, 5), (50, 1), (84, 2), (88, 10)], by_ := [(3, 8), (26, 96), (88, 168)], env := [⟨78, r7_At.A, r7_At.R, c78⟩, ⟨79, r7_Begin.A, r7_Begin.R, c79⟩, ⟨80, r7_SameObject.A, r7_SameObject.R, c80⟩, ⟨81, r7_shape.A, r7_shape.R, c81⟩, ⟨82, r7_sizes.A, r7_sizes.R, c82⟩, ⟨83, r7_names.A, r7_names.R, c83⟩, ⟨84, r7_values.A, r7_values.R, c84⟩, ⟨85, r7_links.A, r7_links.R, c85⟩, ⟨86, r7_keyRule.A, r7_keyRule.R, c86⟩, ⟨87, r7_orderOk.A, r7_orderOk.R, c87⟩, ⟨48, sl_Clone_Value.A, sl_Clone_Value.R, c48⟩], spec := [(0, [.bx 1 600001 (.d Y_Heap), .bx 2 600002 (.d Y_Fault), .bx 3 600003 (.d Y_Heap), .d 4 (.int .i64), .d 5 (.int .i64), .d 25 (.sl 88 Y_Object), .d 26 (.int .i64), .d 27 (.int .i64)]), (2, [.bx 1 600001 (.d Y_Heap), .bx 2 600002 (.d Y_Fault), .bx 3 600003 (.d Y_Heap), .d 4 (.int .i64), .d 5 (.int .i64), .d 6 (.int .i64), .bx 7 600007 (.d Y_Object), .d 25 (.sl 88 Y_Object), .d 26 (.int .i64), .d 27 (.int .i64), .o 71 500071 3 (.int .i64), .d 72 (.int .i64), .d 73 (.int .i64)]), (4, [.bx 1 600001 (.d Y_Heap), .bx 2 600002 (.d Y_Fault), .bx 3 600003 (.d Y_Heap), .d 4 (.int .i64), .d 5 (.int .i64), .d 25 (.sl 88 Y_Object), .d 26 (.int .i64), .d 27 (.int .i64), .o 121 500121 26 Y_Value, .d 122 (.int .i64), .d 123 (.int .i64)])] }
noncomputable def r7_Problem.code : Code := Func.code Tryd.f45
noncomputable def r7_Problem.fin (c78 : r7_At.E) (c79 : r7_Begin.E) (c80 : r7_SameObject.E) (c81 : r7_shape.E) (c82 : r7_sizes.E) (c83 : r7_names.E) (c84 : r7_values.E) (c85 : r7_links.E) (c86 : r7_keyRule.E) (c87 : r7_orderOk.E) (c48 : sl_Clone_Value.E) := kfin (r7_Problem.C c78 c79 c80 c81 c82 c83 c84 c85 c86 c87 c48) Tryd.f45 r7_Problem.A r7_Problem.R
def r7_Problem.b (c78 : r7_At.E) (c79 : r7_Begin.E) (c80 : r7_SameObject.E) (c81 : r7_shape.E) (c82 : r7_sizes.E) (c83 : r7_names.E) (c84 : r7_values.E) (c85 : r7_links.E) (c86 : r7_keyRule.E) (c87 : r7_orderOk.E) (c48 : sl_Clone_Value.E) (r_l0 : (List X_Object) → X_acceptRange → (List X_Object) → (Int) → (Int) → (List X_Object) → (Int) → (Int) → Option X_acceptRange) (a0 : List X_Object) : Option X_acceptRange :=
  bif (decide (((List.length a0) : Int) > (5000 : Int))) then
    (c78 ((2 : Int), (-1 : Int))).bind fun y1 =>
      some y1
  else
    bif (decide (((List.length a0) : Int) < (49 : Int))) then
      (c78 ((9 : Int), (-1 : Int))).bind fun y2 =>
        some y2
    else
      (c79 ()).bind fun y3 =>
        r_l0 a0 ((0 : Int), (0 : Int)) y3 (0 : Int) (0 : Int) a0 ((List.length a0) : Int) (0 : Int)
def r7_Problem.b_l0 (c78 : r7_At.E) (c79 : r7_Begin.E) (c80 : r7_SameObject.E) (c81 : r7_shape.E) (c82 : r7_sizes.E) (c83 : r7_names.E) (c84 : r7_values.E) (c85 : r7_links.E) (c86 : r7_keyRule.E) (c87 : r7_orderOk.E) (c48 : sl_Clone_Value.E) (n_l0 : (List X_Object) → X_acceptRange → (List X_Object) → (Int) → (Int) → (List X_Object) → (Int) → (Int) → Option X_acceptRange) (r_l2 : (List X_Object) → X_acceptRange → (List X_Object) → (Int) → (Int) → (Int) → X_Object → (List X_Object) → (Int) → (Int) → (List (Int)) → (Int) → (Int) → Option X_acceptRange) (x1 : List X_Object) (x2 : (Int) × (Int)) (x3 : List X_Object) (x4 : Int) (x5 : Int) (x25 : List X_Object) (x26 : Int) (x27 : Int) : Option X_acceptRange :=
  bif (decide (x27 < x26)) then
    if 0 ≤ x27 ∧ x27 < ((List.length x25) : Int) then
      bif (decide (x27 < (49 : Int))) then
        if 0 ≤ x27 ∧ x27 < ((List.length x3) : Int) then
          (c80 ((List.getD x25 (Int.toNat x27) Z_Object), (List.getD x3 (Int.toNat x27) Z_Object))).bind fun y4 =>
            bif (!y4) then
              (c78 ((19 : Int), x27)).bind fun y5 =>
                some y5
            else
              n_l0 x1 x2 x3 (IntKind.i64.wrap (x4 + ((List.length (((((List.getD x25 (Int.toNat x27) Z_Object).2).2).2).1)) : Int))) x5 x25 x26 (IntKind.i64.wrap (x27 + (1 : Int)))
        else none
      else
        bif (decide (((List.getD x25 (Int.toNat x27) Z_Object).1) < (0 : Int))) then
          (c78 ((5 : Int), x27)).bind fun y6 =>
            some y6
        else
          bif (decide (((List.getD x25 (Int.toNat x27) Z_Object).1) ≥ (21 : Int))) then
            (c78 ((5 : Int), x27)).bind fun y7 =>
              some y7
          else
            (c81 (x1, x27)).bind fun y8 =>
              (c82 (x1, x27)).bind fun y9 =>
                (c83 (x1, x27)).bind fun y10 =>
                  (c84 (x1, x27)).bind fun y11 =>
                    r_l2 x1 x2 x3 x4 x5 x27 (List.getD x25 (Int.toNat x27) Z_Object) x25 x26 x27 (List.take 4 ([y8, y9, y10, y11] : List (Int))) ((4 : Nat) : Int) (0 : Int)
    else none
  else
    bif (decide (x4 > (20000 : Int))) then
      (c78 ((14 : Int), (-1 : Int))).bind fun y20 =>
        some y20
    else
      bif (decide (x5 > (200000 : Int))) then
        (c78 ((14 : Int), (-1 : Int))).bind fun y21 =>
          some y21
      else
        some ((0 : Int), (0 : Int))
def r7_Problem.b_l2 (c78 : r7_At.E) (c79 : r7_Begin.E) (c80 : r7_SameObject.E) (c81 : r7_shape.E) (c82 : r7_sizes.E) (c83 : r7_names.E) (c84 : r7_values.E) (c85 : r7_links.E) (c86 : r7_keyRule.E) (c87 : r7_orderOk.E) (c48 : sl_Clone_Value.E) (n_l2 : (List X_Object) → X_acceptRange → (List X_Object) → (Int) → (Int) → (Int) → X_Object → (List X_Object) → (Int) → (Int) → (List (Int)) → (Int) → (Int) → Option X_acceptRange) (r_l4 : (List X_Object) → X_acceptRange → (List X_Object) → (Int) → (Int) → (List X_Object) → (Int) → (Int) → (List X_Value) → (Int) → (Int) → Option X_acceptRange) (x1 : List X_Object) (x2 : (Int) × (Int)) (x3 : List X_Object) (x4 : Int) (x5 : Int) (x6 : Int) (x7 : X_Object) (x25 : List X_Object) (x26 : Int) (x27 : Int) (x71 : List (Int)) (x72 : Int) (x73 : Int) : Option X_acceptRange :=
  bif (decide (x73 < x72)) then
    if 0 ≤ x73 ∧ x73 < (((List.length x71) : Nat) : Int) then
      bif ((List.getD x71 (0 + Int.toNat x73) (0 : Int)) != (0 : Int)) then
        (c78 ((List.getD x71 (0 + Int.toNat x73) (0 : Int)), x6)).bind fun y12 =>
          some y12
      else
        n_l2 x1 x2 x3 x4 x5 x6 x7 x25 x26 x27 (List.take (List.length x71) x71) x72 (IntKind.i64.wrap (x73 + (1 : Int)))
    else none
  else
    (c85 (x1, x6)).bind fun y13 =>
      bif (!y13) then
        (c78 ((13 : Int), x6)).bind fun y14 =>
          some y14
      else
        (c86 (x1, x6)).bind fun y15 =>
          bif (y15 != (0 : Int)) then
            (c78 (y15, x6)).bind fun y16 =>
              some y16
          else
            (c87 (x1, x6)).bind fun y17 =>
              bif (!y17) then
                (c78 ((19 : Int), x6)).bind fun y18 =>
                  some y18
              else
                (c48 x7.2.2.2.2.2.2.1).bind fun y19 =>
                  if (List.length y19) ≤ (List.length y19) ∧ ((List.length y19) + (List.length x7.2.2.2.2.2.2.2.1)) * 96 ≤ LIM then
                    r_l4 x1 x2 x3 (IntKind.i64.wrap (x4 + (IntKind.i64.wrap ((IntKind.i64.wrap (((List.length x7.2.2.2.2.2.2.1) : Int) + ((List.length x7.2.2.2.2.2.2.2.1) : Int))) + ((List.length x7.2.2.2.1) : Int))))) x5 x25 x26 x27 (List.take (List.length (List.append (List.take (List.length y19) y19) x7.2.2.2.2.2.2.2.1)) (List.append (List.take (List.length y19) y19) x7.2.2.2.2.2.2.2.1)) (((List.length (List.append (List.take (List.length y19) y19) x7.2.2.2.2.2.2.2.1)) : Nat) : Int) (0 : Int)
                  else none
def r7_Problem.b_l4 (c78 : r7_At.E) (c79 : r7_Begin.E) (c80 : r7_SameObject.E) (c81 : r7_shape.E) (c82 : r7_sizes.E) (c83 : r7_names.E) (c84 : r7_values.E) (c85 : r7_links.E) (c86 : r7_keyRule.E) (c87 : r7_orderOk.E) (c48 : sl_Clone_Value.E) (n_l4 : (List X_Object) → X_acceptRange → (List X_Object) → (Int) → (Int) → (List X_Object) → (Int) → (Int) → (List X_Value) → (Int) → (Int) → Option X_acceptRange) (n_l0 : (List X_Object) → X_acceptRange → (List X_Object) → (Int) → (Int) → (List X_Object) → (Int) → (Int) → Option X_acceptRange) (x1 : List X_Object) (x2 : (Int) × (Int)) (x3 : List X_Object) (x4 : Int) (x5 : Int) (x25 : List X_Object) (x26 : Int) (x27 : Int) (x121 : List X_Value) (x122 : Int) (x123 : Int) : Option X_acceptRange :=
  bif (decide (x123 < x122)) then
    if 0 ≤ x123 ∧ x123 < (((List.length x121) : Nat) : Int) then
      n_l4 x1 x2 x3 x4 (IntKind.i64.wrap (x5 + ((List.length (((((List.getD x121 (0 + Int.toNat x123) Z_Value).2).2).2).1)) : Int))) x25 x26 x27 (List.take (List.length x121) x121) x122 (IntKind.i64.wrap (x123 + (1 : Int)))
    else none
  else
    n_l0 x1 x2 x3 x4 x5 x25 x26 (IntKind.i64.wrap (x27 + (1 : Int)))
def r7_Problem.c_l0 (c78 : r7_At.E) (c79 : r7_Begin.E) (c80 : r7_SameObject.E) (c81 : r7_shape.E) (c82 : r7_sizes.E) (c83 : r7_names.E) (c84 : r7_values.E) (c85 : r7_links.E) (c86 : r7_keyRule.E) (c87 : r7_orderOk.E) (c48 : sl_Clone_Value.E) (n_l0 : (List X_Object) → X_acceptRange → (List X_Object) → (Int) → (Int) → (List X_Object) → (Int) → (Int) → Option X_acceptRange) (r_l2 : (List X_Object) → X_acceptRange → (List X_Object) → (Int) → (Int) → (Int) → X_Object → (List X_Object) → (Int) → (Int) → (List (Int)) → (Int) → (Int) → Option X_acceptRange) (x1 : List X_Object) (x2 : (Int) × (Int)) (x3 : List X_Object) (x4 : Int) (x5 : Int) (x25 : List X_Object) (x26 : Int) (x27 : Int) : Option X_acceptRange :=
  bif (decide (x27 < x26)) then
    if 0 ≤ x27 ∧ x27 < ((List.length x25) : Int) then
      bif (decide (x27 < (49 : Int))) then
        if 0 ≤ x27 ∧ x27 < ((List.length x3) : Int) then
          (c80 ((List.getD x25 (Int.toNat x27) Z_Object), (List.getD x3 (Int.toNat x27) Z_Object))).bind fun y4 =>
            bif !y4 then
              (c78 ((19 : Int), x27)).bind fun y5 =>
                some y5
            else
              n_l0 x1 x2 x3 (IntKind.i64.wrap (x4 + ((List.length (((((List.getD x25 (Int.toNat x27) Z_Object).2).2).2).1)) : Int))) x5 x25 x26 (IntKind.i64.wrap (x27 + (1 : Int)))
        else none
      else
        bif (decide (((List.getD x25 (Int.toNat x27) Z_Object).1) < (0 : Int))) then
          (c78 ((5 : Int), x27)).bind fun y6 =>
            some y6
        else
          bif (decide (((List.getD x25 (Int.toNat x27) Z_Object).1) ≥ (21 : Int))) then
            (c78 ((5 : Int), x27)).bind fun y7 =>
              some y7
          else
            (c81 (x1, x27)).bind fun y8 =>
              (c82 (x1, x27)).bind fun y9 =>
                (c83 (x1, x27)).bind fun y10 =>
                  (c84 (x1, x27)).bind fun y11 =>
                    r_l2 x1 x2 x3 x4 x5 x27 (List.getD x25 (Int.toNat x27) Z_Object) x25 x26 x27 (List.take 4 ([y8, y9, y10, y11] : List Int)) ((4 : Nat) : Int) (0 : Int)
    else none
  else
    bif (decide (x4 > (20000 : Int))) then
      (c78 ((14 : Int), (-1 : Int))).bind fun y20 =>
        some y20
    else
      bif (decide (x5 > (200000 : Int))) then
        (c78 ((14 : Int), (-1 : Int))).bind fun y21 =>
          some y21
      else
        some ((0 : Int), (0 : Int))
theorem r7_Problem.q_l0 (c78 : r7_At.E) (c79 : r7_Begin.E) (c80 : r7_SameObject.E) (c81 : r7_shape.E) (c82 : r7_sizes.E) (c83 : r7_names.E) (c84 : r7_values.E) (c85 : r7_links.E) (c86 : r7_keyRule.E) (c87 : r7_orderOk.E) (c48 : sl_Clone_Value.E) (n_l0 : (List X_Object) → X_acceptRange → (List X_Object) → (Int) → (Int) → (List X_Object) → (Int) → (Int) → Option X_acceptRange) (r_l2 : (List X_Object) → X_acceptRange → (List X_Object) → (Int) → (Int) → (Int) → X_Object → (List X_Object) → (Int) → (Int) → (List (Int)) → (Int) → (Int) → Option X_acceptRange) (x1 : List X_Object) (x2 : (Int) × (Int)) (x3 : List X_Object) (x4 : Int) (x5 : Int) (x25 : List X_Object) (x26 : Int) (x27 : Int) : r7_Problem.b_l0 c78 c79 c80 c81 c82 c83 c84 c85 c86 c87 c48 n_l0 r_l2 x1 x2 x3 x4 x5 x25 x26 x27 = r7_Problem.c_l0 c78 c79 c80 c81 c82 c83 c84 c85 c86 c87 c48 n_l0 r_l2 x1 x2 x3 x4 x5 x25 x26 x27 := by
  simp only [r7_Problem.b_l0, r7_Problem.c_l0, List.take_length, take_one, Nat.zero_add, Int.toNat_natCast, Int.toNat_zero, List.drop_zero, List.append_eq, Nat.le_refl, Int.le_refl, true_and, and_true, zero_le_one, if_true, prod_eta, Int.natCast_zero]
def r7_Problem.c_l2 (c78 : r7_At.E) (c79 : r7_Begin.E) (c80 : r7_SameObject.E) (c81 : r7_shape.E) (c82 : r7_sizes.E) (c83 : r7_names.E) (c84 : r7_values.E) (c85 : r7_links.E) (c86 : r7_keyRule.E) (c87 : r7_orderOk.E) (c48 : sl_Clone_Value.E) (n_l2 : (List X_Object) → X_acceptRange → (List X_Object) → (Int) → (Int) → (Int) → X_Object → (List X_Object) → (Int) → (Int) → (List (Int)) → (Int) → (Int) → Option X_acceptRange) (r_l4 : (List X_Object) → X_acceptRange → (List X_Object) → (Int) → (Int) → (List X_Object) → (Int) → (Int) → (List X_Value) → (Int) → (Int) → Option X_acceptRange) (x1 : List X_Object) (x2 : (Int) × (Int)) (x3 : List X_Object) (x4 : Int) (x5 : Int) (x6 : Int) (x7 : X_Object) (x25 : List X_Object) (x26 : Int) (x27 : Int) (x71 : List (Int)) (x72 : Int) (x73 : Int) : Option X_acceptRange :=
  bif (decide (x73 < x72)) then
    if 0 ≤ x73 ∧ x73 < ((List.length x71) : Int) then
      bif ((List.getD x71 (0 + Int.toNat x73) (0 : Int)) != (0 : Int)) then
        (c78 ((List.getD x71 (0 + Int.toNat x73) (0 : Int)), x6)).bind fun y12 =>
          some y12
      else
        n_l2 x1 x2 x3 x4 x5 x6 x7 x25 x26 x27 x71 x72 (IntKind.i64.wrap (x73 + (1 : Int)))
    else none
  else
    (c85 (x1, x6)).bind fun y13 =>
      bif !y13 then
        (c78 ((13 : Int), x6)).bind fun y14 =>
          some y14
      else
        (c86 (x1, x6)).bind fun y15 =>
          bif (y15 != (0 : Int)) then
            (c78 (y15, x6)).bind fun y16 =>
              some y16
          else
            (c87 (x1, x6)).bind fun y17 =>
              bif !y17 then
                (c78 ((19 : Int), x6)).bind fun y18 =>
                  some y18
              else
                (c48 x7.2.2.2.2.2.2.1).bind fun y19 =>
                  if ((List.length y19) + (List.length x7.2.2.2.2.2.2.2.1)) * 96 ≤ LIM then
                    r_l4 x1 x2 x3 (IntKind.i64.wrap (x4 + (IntKind.i64.wrap ((IntKind.i64.wrap (((List.length x7.2.2.2.2.2.2.1) : Int) + ((List.length x7.2.2.2.2.2.2.2.1) : Int))) + ((List.length x7.2.2.2.1) : Int))))) x5 x25 x26 x27 (y19 ++ x7.2.2.2.2.2.2.2.1) ((List.length (y19 ++ x7.2.2.2.2.2.2.2.1)) : Int) (0 : Int)
                  else none
theorem r7_Problem.q_l2 (c78 : r7_At.E) (c79 : r7_Begin.E) (c80 : r7_SameObject.E) (c81 : r7_shape.E) (c82 : r7_sizes.E) (c83 : r7_names.E) (c84 : r7_values.E) (c85 : r7_links.E) (c86 : r7_keyRule.E) (c87 : r7_orderOk.E) (c48 : sl_Clone_Value.E) (n_l2 : (List X_Object) → X_acceptRange → (List X_Object) → (Int) → (Int) → (Int) → X_Object → (List X_Object) → (Int) → (Int) → (List (Int)) → (Int) → (Int) → Option X_acceptRange) (r_l4 : (List X_Object) → X_acceptRange → (List X_Object) → (Int) → (Int) → (List X_Object) → (Int) → (Int) → (List X_Value) → (Int) → (Int) → Option X_acceptRange) (x1 : List X_Object) (x2 : (Int) × (Int)) (x3 : List X_Object) (x4 : Int) (x5 : Int) (x6 : Int) (x7 : X_Object) (x25 : List X_Object) (x26 : Int) (x27 : Int) (x71 : List (Int)) (x72 : Int) (x73 : Int) : r7_Problem.b_l2 c78 c79 c80 c81 c82 c83 c84 c85 c86 c87 c48 n_l2 r_l4 x1 x2 x3 x4 x5 x6 x7 x25 x26 x27 x71 x72 x73 = r7_Problem.c_l2 c78 c79 c80 c81 c82 c83 c84 c85 c86 c87 c48 n_l2 r_l4 x1 x2 x3 x4 x5 x6 x7 x25 x26 x27 x71 x72 x73 := by
  simp only [r7_Problem.b_l2, r7_Problem.c_l2, List.take_length, take_one, Nat.zero_add, Int.toNat_natCast, Int.toNat_zero, List.drop_zero, List.append_eq, Nat.le_refl, Int.le_refl, true_and, and_true, zero_le_one, if_true, prod_eta, Int.natCast_zero]
def r7_Problem.c_l4 (c78 : r7_At.E) (c79 : r7_Begin.E) (c80 : r7_SameObject.E) (c81 : r7_shape.E) (c82 : r7_sizes.E) (c83 : r7_names.E) (c84 : r7_values.E) (c85 : r7_links.E) (c86 : r7_keyRule.E) (c87 : r7_orderOk.E) (c48 : sl_Clone_Value.E) (n_l4 : (List X_Object) → X_acceptRange → (List X_Object) → (Int) → (Int) → (List X_Object) → (Int) → (Int) → (List X_Value) → (Int) → (Int) → Option X_acceptRange) (n_l0 : (List X_Object) → X_acceptRange → (List X_Object) → (Int) → (Int) → (List X_Object) → (Int) → (Int) → Option X_acceptRange) (x1 : List X_Object) (x2 : (Int) × (Int)) (x3 : List X_Object) (x4 : Int) (x5 : Int) (x25 : List X_Object) (x26 : Int) (x27 : Int) (x121 : List X_Value) (x122 : Int) (x123 : Int) : Option X_acceptRange :=
  bif (decide (x123 < x122)) then
    if 0 ≤ x123 ∧ x123 < ((List.length x121) : Int) then
      n_l4 x1 x2 x3 x4 (IntKind.i64.wrap (x5 + ((List.length (((((List.getD x121 (0 + Int.toNat x123) Z_Value).2).2).2).1)) : Int))) x25 x26 x27 x121 x122 (IntKind.i64.wrap (x123 + (1 : Int)))
    else none
  else
    n_l0 x1 x2 x3 x4 x5 x25 x26 (IntKind.i64.wrap (x27 + (1 : Int)))
theorem r7_Problem.q_l4 (c78 : r7_At.E) (c79 : r7_Begin.E) (c80 : r7_SameObject.E) (c81 : r7_shape.E) (c82 : r7_sizes.E) (c83 : r7_names.E) (c84 : r7_values.E) (c85 : r7_links.E) (c86 : r7_keyRule.E) (c87 : r7_orderOk.E) (c48 : sl_Clone_Value.E) (n_l4 : (List X_Object) → X_acceptRange → (List X_Object) → (Int) → (Int) → (List X_Object) → (Int) → (Int) → (List X_Value) → (Int) → (Int) → Option X_acceptRange) (n_l0 : (List X_Object) → X_acceptRange → (List X_Object) → (Int) → (Int) → (List X_Object) → (Int) → (Int) → Option X_acceptRange) (x1 : List X_Object) (x2 : (Int) × (Int)) (x3 : List X_Object) (x4 : Int) (x5 : Int) (x25 : List X_Object) (x26 : Int) (x27 : Int) (x121 : List X_Value) (x122 : Int) (x123 : Int) : r7_Problem.b_l4 c78 c79 c80 c81 c82 c83 c84 c85 c86 c87 c48 n_l4 n_l0 x1 x2 x3 x4 x5 x25 x26 x27 x121 x122 x123 = r7_Problem.c_l4 c78 c79 c80 c81 c82 c83 c84 c85 c86 c87 c48 n_l4 n_l0 x1 x2 x3 x4 x5 x25 x26 x27 x121 x122 x123 := by
  simp only [r7_Problem.b_l4, r7_Problem.c_l4, List.take_length, take_one, Nat.zero_add, Int.toNat_natCast, Int.toNat_zero, List.drop_zero, List.append_eq, Nat.le_refl, Int.le_refl, true_and, and_true, zero_le_one, if_true, prod_eta, Int.natCast_zero]
def r7_Problem.l4 (c78 : r7_At.E) (c79 : r7_Begin.E) (c80 : r7_SameObject.E) (c81 : r7_shape.E) (c82 : r7_sizes.E) (c83 : r7_names.E) (c84 : r7_values.E) (c85 : r7_links.E) (c86 : r7_keyRule.E) (c87 : r7_orderOk.E) (c48 : sl_Clone_Value.E) (k : Nat) (n_l0 : (List X_Object) → X_acceptRange → (List X_Object) → (Int) → (Int) → (List X_Object) → (Int) → (Int) → Option X_acceptRange) : Nat → (List X_Object) → X_acceptRange → (List X_Object) → (Int) → (Int) → (List X_Object) → (Int) → (Int) → (List X_Value) → (Int) → (Int) → Option X_acceptRange
  | 0, _, _, _, _, _, _, _, _, _, _, _ => none
  | n + 1, x1, x2, x3, x4, x5, x25, x26, x27, x121, x122, x123 => r7_Problem.b_l4 c78 c79 c80 c81 c82 c83 c84 c85 c86 c87 c48 (fun x1 x2 x3 x4 x5 x25 x26 x27 x121 x122 x123 => r7_Problem.l4 c78 c79 c80 c81 c82 c83 c84 c85 c86 c87 c48 k n_l0 n x1 x2 x3 x4 x5 x25 x26 x27 x121 x122 x123) n_l0 x1 x2 x3 x4 x5 x25 x26 x27 x121 x122 x123
def r7_Problem.l2 (c78 : r7_At.E) (c79 : r7_Begin.E) (c80 : r7_SameObject.E) (c81 : r7_shape.E) (c82 : r7_sizes.E) (c83 : r7_names.E) (c84 : r7_values.E) (c85 : r7_links.E) (c86 : r7_keyRule.E) (c87 : r7_orderOk.E) (c48 : sl_Clone_Value.E) (k : Nat) (n_l0 : (List X_Object) → X_acceptRange → (List X_Object) → (Int) → (Int) → (List X_Object) → (Int) → (Int) → Option X_acceptRange) : Nat → (List X_Object) → X_acceptRange → (List X_Object) → (Int) → (Int) → (Int) → X_Object → (List X_Object) → (Int) → (Int) → (List (Int)) → (Int) → (Int) → Option X_acceptRange
  | 0, _, _, _, _, _, _, _, _, _, _, _, _, _ => none
  | n + 1, x1, x2, x3, x4, x5, x6, x7, x25, x26, x27, x71, x72, x73 => r7_Problem.b_l2 c78 c79 c80 c81 c82 c83 c84 c85 c86 c87 c48 (fun x1 x2 x3 x4 x5 x6 x7 x25 x26 x27 x71 x72 x73 => r7_Problem.l2 c78 c79 c80 c81 c82 c83 c84 c85 c86 c87 c48 k n_l0 n x1 x2 x3 x4 x5 x6 x7 x25 x26 x27 x71 x72 x73) (r7_Problem.l4 c78 c79 c80 c81 c82 c83 c84 c85 c86 c87 c48 k n_l0 k) x1 x2 x3 x4 x5 x6 x7 x25 x26 x27 x71 x72 x73
def r7_Problem.l0 (c78 : r7_At.E) (c79 : r7_Begin.E) (c80 : r7_SameObject.E) (c81 : r7_shape.E) (c82 : r7_sizes.E) (c83 : r7_names.E) (c84 : r7_values.E) (c85 : r7_links.E) (c86 : r7_keyRule.E) (c87 : r7_orderOk.E) (c48 : sl_Clone_Value.E) (k : Nat)  : Nat → (List X_Object) → X_acceptRange → (List X_Object) → (Int) → (Int) → (List X_Object) → (Int) → (Int) → Option X_acceptRange
  | 0, _, _, _, _, _, _, _, _ => none
  | n + 1, x1, x2, x3, x4, x5, x25, x26, x27 => r7_Problem.b_l0 c78 c79 c80 c81 c82 c83 c84 c85 c86 c87 c48 (fun x1 x2 x3 x4 x5 x25 x26 x27 => r7_Problem.l0 c78 c79 c80 c81 c82 c83 c84 c85 c86 c87 c48 k  n x1 x2 x3 x4 x5 x25 x26 x27) (r7_Problem.l2 c78 c79 c80 c81 c82 c83 c84 c85 c86 c87 c48 k (fun x1 x2 x3 x4 x5 x25 x26 x27 => r7_Problem.l0 c78 c79 c80 c81 c82 c83 c84 c85 c86 c87 c48 k  n x1 x2 x3 x4 x5 x25 x26 x27) k) x1 x2 x3 x4 x5 x25 x26 x27
def r7_Problem.f (c78 : r7_At.E) (c79 : r7_Begin.E) (c80 : r7_SameObject.E) (c81 : r7_shape.E) (c82 : r7_sizes.E) (c83 : r7_names.E) (c84 : r7_values.E) (c85 : r7_links.E) (c86 : r7_keyRule.E) (c87 : r7_orderOk.E) (c48 : sl_Clone_Value.E) (k : Nat) (a0 : List X_Object) : Option X_acceptRange := r7_Problem.b c78 c79 c80 c81 c82 c83 c84 c85 c86 c87 c48 (r7_Problem.l0 c78 c79 c80 c81 c82 c83 c84 c85 c86 c87 c48 k k) a0
noncomputable def r7_Problem.M_l0 (c78 : r7_At.E) (c79 : r7_Begin.E) (c80 : r7_SameObject.E) (c81 : r7_shape.E) (c82 : r7_sizes.E) (c83 : r7_names.E) (c84 : r7_values.E) (c85 : r7_links.E) (c86 : r7_keyRule.E) (c87 : r7_orderOk.E) (c48 : sl_Clone_Value.E) (k n : Nat)  (s : St) : Option X_acceptRange := atLoop (r7_Problem.C c78 c79 c80 c81 c82 c83 c84 c85 c86 c87 c48) k n [1, 1, 1, 1, 1, 0, 1, 0] [] r7_Problem.code (r7_Problem.fin c78 c79 c80 c81 c82 c83 c84 c85 c86 c87 c48) s
noncomputable def r7_Problem.fr_l0 (x1 : List X_Object) (x2 : (Int) × (Int)) (x3 : List X_Object) (x4 : Int) (x5 : Int) (x25 : List X_Object) (x26 : Int) (x27 : Int) : St := ⟨(((((((((List.replicate 142 V.un).set 1 (V.bp 600001 0 [])).set 2 (V.bp 600002 0 [])).set 3 (V.bp 600003 0 [])).set 4 (V.dat (.int .i64) x4)).set 5 (V.dat (.int .i64) x5)).set 25 (V.dat (.sl 88 Y_Object) x25)).set 26 (V.dat (.int .i64) x26)).set 27 (V.dat (.int .i64) x27)), [⟨600003, 0, .box (V.dat Y_Heap x3)⟩, ⟨600002, 0, .box (V.dat Y_Fault x2)⟩, ⟨600001, 0, .box (V.dat Y_Heap x1)⟩]⟩
noncomputable def r7_Problem.M_l2 (c78 : r7_At.E) (c79 : r7_Begin.E) (c80 : r7_SameObject.E) (c81 : r7_shape.E) (c82 : r7_sizes.E) (c83 : r7_names.E) (c84 : r7_values.E) (c85 : r7_links.E) (c86 : r7_keyRule.E) (c87 : r7_orderOk.E) (c48 : sl_Clone_Value.E) (k n : Nat) (m0 : Nat) (s : St) : Option X_acceptRange := atLoop (r7_Problem.C c78 c79 c80 c81 c82 c83 c84 c85 c86 c87 c48) k n [1, 1, 1, 1, 1, 0, 1, 0, 0, 1, 1, 0, 0, 1, 1, 1, 0, 1, 0] [m0] r7_Problem.code (r7_Problem.fin c78 c79 c80 c81 c82 c83 c84 c85 c86 c87 c48) s
noncomputable def r7_Problem.fr_l2 (x1 : List X_Object) (x2 : (Int) × (Int)) (x3 : List X_Object) (x4 : Int) (x5 : Int) (x6 : Int) (x7 : X_Object) (x25 : List X_Object) (x26 : Int) (x27 : Int) (x71 : List (Int)) (x72 : Int) (x73 : Int) : St := ⟨((((((((((((((List.replicate 142 V.un).set 1 (V.bp 600001 0 [])).set 2 (V.bp 600002 0 [])).set 3 (V.bp 600003 0 [])).set 4 (V.dat (.int .i64) x4)).set 5 (V.dat (.int .i64) x5)).set 6 (V.dat (.int .i64) x6)).set 7 (V.bp 600007 0 [])).set 25 (V.dat (.sl 88 Y_Object) x25)).set 26 (V.dat (.int .i64) x26)).set 27 (V.dat (.int .i64) x27)).set 71 (V.ref 500071 0 0 (List.length x71))).set 72 (V.dat (.int .i64) x72)).set 73 (V.dat (.int .i64) x73)), [⟨500071, 0, .arr 3 (.int .i64) x71⟩, ⟨600007, 0, .box (V.dat Y_Object x7)⟩, ⟨600003, 0, .box (V.dat Y_Heap x3)⟩, ⟨600002, 0, .box (V.dat Y_Fault x2)⟩, ⟨600001, 0, .box (V.dat Y_Heap x1)⟩]⟩
noncomputable def r7_Problem.M_l4 (c78 : r7_At.E) (c79 : r7_Begin.E) (c80 : r7_SameObject.E) (c81 : r7_shape.E) (c82 : r7_sizes.E) (c83 : r7_names.E) (c84 : r7_values.E) (c85 : r7_links.E) (c86 : r7_keyRule.E) (c87 : r7_orderOk.E) (c48 : sl_Clone_Value.E) (k n : Nat) (m0 : Nat) (s : St) : Option X_acceptRange := atLoop (r7_Problem.C c78 c79 c80 c81 c82 c83 c84 c85 c86 c87 c48) k n [1, 1, 1, 1, 1, 0, 1, 0, 0, 1, 1, 0, 0, 1, 1, 1, 1, 1, 1, 1, 1, 1, 0] [m0] r7_Problem.code (r7_Problem.fin c78 c79 c80 c81 c82 c83 c84 c85 c86 c87 c48) s
noncomputable def r7_Problem.fr_l4 (x1 : List X_Object) (x2 : (Int) × (Int)) (x3 : List X_Object) (x4 : Int) (x5 : Int) (x25 : List X_Object) (x26 : Int) (x27 : Int) (x121 : List X_Value) (x122 : Int) (x123 : Int) : St := ⟨((((((((((((List.replicate 142 V.un).set 1 (V.bp 600001 0 [])).set 2 (V.bp 600002 0 [])).set 3 (V.bp 600003 0 [])).set 4 (V.dat (.int .i64) x4)).set 5 (V.dat (.int .i64) x5)).set 25 (V.dat (.sl 88 Y_Object) x25)).set 26 (V.dat (.int .i64) x26)).set 27 (V.dat (.int .i64) x27)).set 121 (V.ref 500121 0 0 (List.length x121))).set 122 (V.dat (.int .i64) x122)).set 123 (V.dat (.int .i64) x123)), [⟨500121, 0, .arr 26 Y_Value x121⟩, ⟨600003, 0, .box (V.dat Y_Heap x3)⟩, ⟨600002, 0, .box (V.dat Y_Fault x2)⟩, ⟨600001, 0, .box (V.dat Y_Heap x1)⟩]⟩
theorem r7_Problem.r (c78 : r7_At.E) (c79 : r7_Begin.E) (c80 : r7_SameObject.E) (c81 : r7_shape.E) (c82 : r7_sizes.E) (c83 : r7_names.E) (c84 : r7_values.E) (c85 : r7_links.E) (c86 : r7_keyRule.E) (c87 : r7_orderOk.E) (c48 : sl_Clone_Value.E) (k : Nat) (a0 : List X_Object) : fn (r7_Problem.C c78 c79 c80 c81 c82 c83 c84 c85 c86 c87 c48) k Tryd.f45 r7_Problem.A r7_Problem.R a0 = r7_Problem.b c78 c79 c80 c81 c82 c83 c84 c85 c86 c87 c48 (fun x1 x2 x3 x4 x5 x25 x26 x27 => r7_Problem.M_l0 c78 c79 c80 c81 c82 c83 c84 c85 c86 c87 c48 k k  (r7_Problem.fr_l0 x1 x2 x3 x4 x5 x25 x26 x27)) a0 := by kernel_rfl
theorem r7_Problem.z_l0 (c78 : r7_At.E) (c79 : r7_Begin.E) (c80 : r7_SameObject.E) (c81 : r7_shape.E) (c82 : r7_sizes.E) (c83 : r7_names.E) (c84 : r7_values.E) (c85 : r7_links.E) (c86 : r7_keyRule.E) (c87 : r7_orderOk.E) (c48 : sl_Clone_Value.E) (k : Nat)  (s : St) : r7_Problem.M_l0 c78 c79 c80 c81 c82 c83 c84 c85 c86 c87 c48 k 0  s = none := by kernel_rfl
theorem r7_Problem.r_l0 (c78 : r7_At.E) (c79 : r7_Begin.E) (c80 : r7_SameObject.E) (c81 : r7_shape.E) (c82 : r7_sizes.E) (c83 : r7_names.E) (c84 : r7_values.E) (c85 : r7_links.E) (c86 : r7_keyRule.E) (c87 : r7_orderOk.E) (c48 : sl_Clone_Value.E) (k n : Nat)  (x1 : List X_Object) (x2 : (Int) × (Int)) (x3 : List X_Object) (x4 : Int) (x5 : Int) (x25 : List X_Object) (x26 : Int) (x27 : Int) : r7_Problem.M_l0 c78 c79 c80 c81 c82 c83 c84 c85 c86 c87 c48 k (n + 1)  (r7_Problem.fr_l0 x1 x2 x3 x4 x5 x25 x26 x27) = r7_Problem.b_l0 c78 c79 c80 c81 c82 c83 c84 c85 c86 c87 c48 (fun x1 x2 x3 x4 x5 x25 x26 x27 => r7_Problem.M_l0 c78 c79 c80 c81 c82 c83 c84 c85 c86 c87 c48 k n  (r7_Problem.fr_l0 x1 x2 x3 x4 x5 x25 x26 x27)) (fun x1 x2 x3 x4 x5 x6 x7 x25 x26 x27 x71 x72 x73 => r7_Problem.M_l2 c78 c79 c80 c81 c82 c83 c84 c85 c86 c87 c48 k k n (r7_Problem.fr_l2 x1 x2 x3 x4 x5 x6 x7 x25 x26 x27 x71 x72 x73)) x1 x2 x3 x4 x5 x25 x26 x27 := by kernel_rfl
theorem r7_Problem.z_l2 (c78 : r7_At.E) (c79 : r7_Begin.E) (c80 : r7_SameObject.E) (c81 : r7_shape.E) (c82 : r7_sizes.E) (c83 : r7_names.E) (c84 : r7_values.E) (c85 : r7_links.E) (c86 : r7_keyRule.E) (c87 : r7_orderOk.E) (c48 : sl_Clone_Value.E) (k : Nat) (m0 : Nat) (s : St) : r7_Problem.M_l2 c78 c79 c80 c81 c82 c83 c84 c85 c86 c87 c48 k 0 m0 s = none := by kernel_rfl
theorem r7_Problem.r_l2 (c78 : r7_At.E) (c79 : r7_Begin.E) (c80 : r7_SameObject.E) (c81 : r7_shape.E) (c82 : r7_sizes.E) (c83 : r7_names.E) (c84 : r7_values.E) (c85 : r7_links.E) (c86 : r7_keyRule.E) (c87 : r7_orderOk.E) (c48 : sl_Clone_Value.E) (k n : Nat) (m0 : Nat) (x1 : List X_Object) (x2 : (Int) × (Int)) (x3 : List X_Object) (x4 : Int) (x5 : Int) (x6 : Int) (x7 : X_Object) (x25 : List X_Object) (x26 : Int) (x27 : Int) (x71 : List (Int)) (x72 : Int) (x73 : Int) : r7_Problem.M_l2 c78 c79 c80 c81 c82 c83 c84 c85 c86 c87 c48 k (n + 1) m0 (r7_Problem.fr_l2 x1 x2 x3 x4 x5 x6 x7 x25 x26 x27 x71 x72 x73) = r7_Problem.b_l2 c78 c79 c80 c81 c82 c83 c84 c85 c86 c87 c48 (fun x1 x2 x3 x4 x5 x6 x7 x25 x26 x27 x71 x72 x73 => r7_Problem.M_l2 c78 c79 c80 c81 c82 c83 c84 c85 c86 c87 c48 k n m0 (r7_Problem.fr_l2 x1 x2 x3 x4 x5 x6 x7 x25 x26 x27 x71 x72 x73)) (fun x1 x2 x3 x4 x5 x25 x26 x27 x121 x122 x123 => r7_Problem.M_l4 c78 c79 c80 c81 c82 c83 c84 c85 c86 c87 c48 k k m0 (r7_Problem.fr_l4 x1 x2 x3 x4 x5 x25 x26 x27 x121 x122 x123)) x1 x2 x3 x4 x5 x6 x7 x25 x26 x27 x71 x72 x73 := by kernel_rfl
theorem r7_Problem.z_l4 (c78 : r7_At.E) (c79 : r7_Begin.E) (c80 : r7_SameObject.E) (c81 : r7_shape.E) (c82 : r7_sizes.E) (c83 : r7_names.E) (c84 : r7_values.E) (c85 : r7_links.E) (c86 : r7_keyRule.E) (c87 : r7_orderOk.E) (c48 : sl_Clone_Value.E) (k : Nat) (m0 : Nat) (s : St) : r7_Problem.M_l4 c78 c79 c80 c81 c82 c83 c84 c85 c86 c87 c48 k 0 m0 s = none := by kernel_rfl
theorem r7_Problem.r_l4 (c78 : r7_At.E) (c79 : r7_Begin.E) (c80 : r7_SameObject.E) (c81 : r7_shape.E) (c82 : r7_sizes.E) (c83 : r7_names.E) (c84 : r7_values.E) (c85 : r7_links.E) (c86 : r7_keyRule.E) (c87 : r7_orderOk.E) (c48 : sl_Clone_Value.E) (k n : Nat) (m0 : Nat) (x1 : List X_Object) (x2 : (Int) × (Int)) (x3 : List X_Object) (x4 : Int) (x5 : Int) (x25 : List X_Object) (x26 : Int) (x27 : Int) (x121 : List X_Value) (x122 : Int) (x123 : Int) : r7_Problem.M_l4 c78 c79 c80 c81 c82 c83 c84 c85 c86 c87 c48 k (n + 1) m0 (r7_Problem.fr_l4 x1 x2 x3 x4 x5 x25 x26 x27 x121 x122 x123) = r7_Problem.b_l4 c78 c79 c80 c81 c82 c83 c84 c85 c86 c87 c48 (fun x1 x2 x3 x4 x5 x25 x26 x27 x121 x122 x123 => r7_Problem.M_l4 c78 c79 c80 c81 c82 c83 c84 c85 c86 c87 c48 k n m0 (r7_Problem.fr_l4 x1 x2 x3 x4 x5 x25 x26 x27 x121 x122 x123)) (fun x1 x2 x3 x4 x5 x25 x26 x27 => r7_Problem.M_l0 c78 c79 c80 c81 c82 c83 c84 c85 c86 c87 c48 k m0  (r7_Problem.fr_l0 x1 x2 x3 x4 x5 x25 x26 x27)) x1 x2 x3 x4 x5 x25 x26 x27 x121 x122 x123 := by kernel_rfl
theorem r7_Problem.e_l4 (c78 : r7_At.E) (c79 : r7_Begin.E) (c80 : r7_SameObject.E) (c81 : r7_shape.E) (c82 : r7_sizes.E) (c83 : r7_names.E) (c84 : r7_values.E) (c85 : r7_links.E) (c86 : r7_keyRule.E) (c87 : r7_orderOk.E) (c48 : sl_Clone_Value.E) (k n : Nat) (m0 : Nat) (x1 : List X_Object) (x2 : (Int) × (Int)) (x3 : List X_Object) (x4 : Int) (x5 : Int) (x25 : List X_Object) (x26 : Int) (x27 : Int) (x121 : List X_Value) (x122 : Int) (x123 : Int) : r7_Problem.M_l4 c78 c79 c80 c81 c82 c83 c84 c85 c86 c87 c48 k n m0 (r7_Problem.fr_l4 x1 x2 x3 x4 x5 x25 x26 x27 x121 x122 x123) = r7_Problem.l4 c78 c79 c80 c81 c82 c83 c84 c85 c86 c87 c48 k (fun x1 x2 x3 x4 x5 x25 x26 x27 => r7_Problem.M_l0 c78 c79 c80 c81 c82 c83 c84 c85 c86 c87 c48 k m0  (r7_Problem.fr_l0 x1 x2 x3 x4 x5 x25 x26 x27)) n x1 x2 x3 x4 x5 x25 x26 x27 x121 x122 x123 := by
  induction n generalizing x1 x2 x3 x4 x5 x25 x26 x27 x121 x122 x123 with
  | zero => rw [r7_Problem.z_l4]; rfl
  | succ n ih =>
    rw [r7_Problem.r_l4]
    simp only [ih]
    rfl
theorem r7_Problem.e_l2 (c78 : r7_At.E) (c79 : r7_Begin.E) (c80 : r7_SameObject.E) (c81 : r7_shape.E) (c82 : r7_sizes.E) (c83 : r7_names.E) (c84 : r7_values.E) (c85 : r7_links.E) (c86 : r7_keyRule.E) (c87 : r7_orderOk.E) (c48 : sl_Clone_Value.E) (k n : Nat) (m0 : Nat) (x1 : List X_Object) (x2 : (Int) × (Int)) (x3 : List X_Object) (x4 : Int) (x5 : Int) (x6 : Int) (x7 : X_Object) (x25 : List X_Object) (x26 : Int) (x27 : Int) (x71 : List (Int)) (x72 : Int) (x73 : Int) : r7_Problem.M_l2 c78 c79 c80 c81 c82 c83 c84 c85 c86 c87 c48 k n m0 (r7_Problem.fr_l2 x1 x2 x3 x4 x5 x6 x7 x25 x26 x27 x71 x72 x73) = r7_Problem.l2 c78 c79 c80 c81 c82 c83 c84 c85 c86 c87 c48 k (fun x1 x2 x3 x4 x5 x25 x26 x27 => r7_Problem.M_l0 c78 c79 c80 c81 c82 c83 c84 c85 c86 c87 c48 k m0  (r7_Problem.fr_l0 x1 x2 x3 x4 x5 x25 x26 x27)) n x1 x2 x3 x4 x5 x6 x7 x25 x26 x27 x71 x72 x73 := by
  induction n generalizing x1 x2 x3 x4 x5 x6 x7 x25 x26 x27 x71 x72 x73 with
  | zero => rw [r7_Problem.z_l2]; rfl
  | succ n ih =>
    rw [r7_Problem.r_l2]
    simp only [r7_Problem.e_l4, ih]
    rfl
theorem r7_Problem.e_l0 (c78 : r7_At.E) (c79 : r7_Begin.E) (c80 : r7_SameObject.E) (c81 : r7_shape.E) (c82 : r7_sizes.E) (c83 : r7_names.E) (c84 : r7_values.E) (c85 : r7_links.E) (c86 : r7_keyRule.E) (c87 : r7_orderOk.E) (c48 : sl_Clone_Value.E) (k n : Nat)  (x1 : List X_Object) (x2 : (Int) × (Int)) (x3 : List X_Object) (x4 : Int) (x5 : Int) (x25 : List X_Object) (x26 : Int) (x27 : Int) : r7_Problem.M_l0 c78 c79 c80 c81 c82 c83 c84 c85 c86 c87 c48 k n  (r7_Problem.fr_l0 x1 x2 x3 x4 x5 x25 x26 x27) = r7_Problem.l0 c78 c79 c80 c81 c82 c83 c84 c85 c86 c87 c48 k  n x1 x2 x3 x4 x5 x25 x26 x27 := by
  induction n generalizing x1 x2 x3 x4 x5 x25 x26 x27 with
  | zero => rw [r7_Problem.z_l0]; rfl
  | succ n ih =>
    rw [r7_Problem.r_l0]
    simp only [r7_Problem.e_l2, ih]
    rfl
theorem r7_Problem.e (c78 : r7_At.E) (c79 : r7_Begin.E) (c80 : r7_SameObject.E) (c81 : r7_shape.E) (c82 : r7_sizes.E) (c83 : r7_names.E) (c84 : r7_values.E) (c85 : r7_links.E) (c86 : r7_keyRule.E) (c87 : r7_orderOk.E) (c48 : sl_Clone_Value.E) (k : Nat) (a0 : List X_Object) : fn (r7_Problem.C c78 c79 c80 c81 c82 c83 c84 c85 c86 c87 c48) k Tryd.f45 r7_Problem.A r7_Problem.R a0 = r7_Problem.f c78 c79 c80 c81 c82 c83 c84 c85 c86 c87 c48 k a0 := by
  rw [r7_Problem.r]
  simp only [r7_Problem.e_l0]
  rfl
theorem r7_Problem.ty (c78 : r7_At.E) (c79 : r7_Begin.E) (c80 : r7_SameObject.E) (c81 : r7_shape.E) (c82 : r7_sizes.E) (c83 : r7_names.E) (c84 : r7_values.E) (c85 : r7_links.E) (c86 : r7_keyRule.E) (c87 : r7_orderOk.E) (c48 : sl_Clone_Value.E) : TyOk Tryd.prog (r7_Problem.C c78 c79 c80 c81 c82 c83 c84 c85 c86 c87 c48) := tyOk_of (by kernel_rfl)
def r7_Problem.u (k : Nat) : r7_Problem.E := fun y => r7_Problem.f (r7_At.u k) (r7_Begin.u k) (r7_SameObject.u k) (r7_shape.u k) (r7_sizes.u k) (r7_names.u k) (r7_values.u k) (r7_links.u k) (r7_keyRule.u k) (r7_orderOk.u k) (sl_Clone_Value.u k) k y
theorem r7_Problem.sound (k : Nat) : Sound Tryd.prog ⟨45, r7_Problem.A, r7_Problem.R, r7_Problem.u k⟩ := by
  have h := fn_sound (k := k) («as» := r7_Problem.A) (rs := r7_Problem.R) (r7_Problem.ty (r7_At.u k) (r7_Begin.u k) (r7_SameObject.u k) (r7_shape.u k) (r7_sizes.u k) (r7_names.u k) (r7_values.u k) (r7_links.u k) (r7_keyRule.u k) (r7_orderOk.u k) (sl_Clone_Value.u k)) (fun E h => by
    simp only [r7_Problem.C, List.mem_cons, List.not_mem_nil, or_false] at h
    rcases h with rfl | rfl | rfl | rfl | rfl | rfl | rfl | rfl | rfl | rfl | rfl
    · exact r7_At.sound k
    · exact r7_Begin.sound k
    · exact r7_SameObject.sound k
    · exact r7_shape.sound k
    · exact r7_sizes.sound k
    · exact r7_names.sound k
    · exact r7_values.sound k
    · exact r7_links.sound k
    · exact r7_keyRule.sound k
    · exact r7_orderOk.sound k
    · exact sl_Clone_Value.sound k) mixed Tryd.func45 (by kernel_rfl) (by kernel_rfl)
  have e : fn (r7_Problem.C (r7_At.u k) (r7_Begin.u k) (r7_SameObject.u k) (r7_shape.u k) (r7_sizes.u k) (r7_names.u k) (r7_values.u k) (r7_links.u k) (r7_keyRule.u k) (r7_orderOk.u k) (sl_Clone_Value.u k)) k Tryd.f45 r7_Problem.A r7_Problem.R = r7_Problem.u k := by
    funext y
    exact r7_Problem.e (r7_At.u k) (r7_Begin.u k) (r7_SameObject.u k) (r7_shape.u k) (r7_sizes.u k) (r7_names.u k) (r7_values.u k) (r7_links.u k) (r7_keyRule.u k) (r7_orderOk.u k) (sl_Clone_Value.u k) k y
  rw [e] at h
  exact h
/-! ### brindlewood/brindlewoodref7.Has: f46 -/
abbrev r7_Has.A : List Sh := [(.d Y_Heap), (.d Y_Value)]
abbrev r7_Has.R : List Sh := [(.d .bool)]
abbrev r7_Has.E : Type := ((List X_Object) × X_Value) → Option (Bool)
def r7_Has.C (c5 : r7_ValueOk.E) (c88 : r7_IsObject.E) : Ctx := { ty := [(3, (.int .i64)), (26, Y_Value), (50, Y_Heap)], nf := [(26, 5)], by_ := [], env := [⟨5, r7_ValueOk.A, r7_ValueOk.R, c5⟩, ⟨88, r7_IsObject.A, r7_IsObject.R, c88⟩], spec := [] }
noncomputable def r7_Has.code : Code := Func.code Tryd.f46
noncomputable def r7_Has.fin (c5 : r7_ValueOk.E) (c88 : r7_IsObject.E) := kfin (r7_Has.C c5 c88) Tryd.f46 r7_Has.A r7_Has.R
def r7_Has.b (c5 : r7_ValueOk.E) (c88 : r7_IsObject.E)  (a0 : List X_Object) (a1 : X_Value) : Option (Bool) :=
  (c5 a1).bind fun y1 =>
    bif y1 then
      bif (a1.1 != (6 : Int)) then
        some true
      else
        (c88 (a0, a1.2.2.2.2)).bind fun y2 =>
          some y2
    else
      some false
def r7_Has.f (c5 : r7_ValueOk.E) (c88 : r7_IsObject.E) (k : Nat) (a0 : List X_Object) (a1 : X_Value) : Option (Bool) := r7_Has.b c5 c88  a0 a1
theorem r7_Has.r (c5 : r7_ValueOk.E) (c88 : r7_IsObject.E) (k : Nat) (a0 : List X_Object) (a1 : X_Value) : fn (r7_Has.C c5 c88) k Tryd.f46 r7_Has.A r7_Has.R (a0, a1) = r7_Has.b c5 c88  a0 a1 := by kernel_rfl
theorem r7_Has.e (c5 : r7_ValueOk.E) (c88 : r7_IsObject.E) (k : Nat) (a0 : List X_Object) (a1 : X_Value) : fn (r7_Has.C c5 c88) k Tryd.f46 r7_Has.A r7_Has.R (a0, a1) = r7_Has.f c5 c88 k a0 a1 := by
  rw [r7_Has.r]
  rfl
theorem r7_Has.ty (c5 : r7_ValueOk.E) (c88 : r7_IsObject.E) : TyOk Tryd.prog (r7_Has.C c5 c88) := tyOk_of (by kernel_rfl)
def r7_Has.u (k : Nat) : r7_Has.E := fun y => r7_Has.f (r7_ValueOk.u k) (r7_IsObject.u k) k y.1 y.2
theorem r7_Has.sound (k : Nat) : Sound Tryd.prog ⟨46, r7_Has.A, r7_Has.R, r7_Has.u k⟩ := by
  have h := fn_sound (k := k) («as» := r7_Has.A) (rs := r7_Has.R) (r7_Has.ty (r7_ValueOk.u k) (r7_IsObject.u k)) (fun E h => by
    simp only [r7_Has.C, List.mem_cons, List.not_mem_nil, or_false] at h
    rcases h with rfl | rfl
    · exact r7_ValueOk.sound k
    · exact r7_IsObject.sound k) mixed Tryd.func46 (by kernel_rfl) (by kernel_rfl)
  have e : fn (r7_Has.C (r7_ValueOk.u k) (r7_IsObject.u k)) k Tryd.f46 r7_Has.A r7_Has.R = r7_Has.u k := by
    funext y
    exact r7_Has.e (r7_ValueOk.u k) (r7_IsObject.u k) k y.1 y.2
  rw [e] at h
  exact h
/-! ### brindlewood/brindlewoodref7.Usable: f14 -/
abbrev r7_Usable.A : List Sh := [(.d Y_Heap), (.d (.sl 26 Y_Value))]
abbrev r7_Usable.R : List Sh := [(.d .bool)]
abbrev r7_Usable.E : Type := ((List X_Object) × (List X_Value)) → Option (Bool)
def r7_Usable.C (c45 : r7_Problem.E) (c46 : r7_Has.E) : Ctx := { ty := [(3, (.int .i64)), (26, Y_Value), (31, (.sl 26 Y_Value)), (50, Y_Heap), (84, Y_Fault)], nf := [(84, 2)], by_ := [(26, 96)], env := [⟨45, r7_Problem.A, r7_Problem.R, c45⟩, ⟨46, r7_Has.A, r7_Has.R, c46⟩], spec := [(0, [.bx 2 600002 (.d Y_Heap), .d 11 (.sl 26 Y_Value), .d 12 (.int .i64), .d 13 (.int .i64)])] }
noncomputable def r7_Usable.code : Code := Func.code Tryd.f14
noncomputable def r7_Usable.fin (c45 : r7_Problem.E) (c46 : r7_Has.E) := kfin (r7_Usable.C c45 c46) Tryd.f14 r7_Usable.A r7_Usable.R
def r7_Usable.b (c45 : r7_Problem.E) (c46 : r7_Has.E) (r_l0 : (List X_Object) → (List X_Value) → (Int) → (Int) → Option (Bool)) (a0 : List X_Object) (a1 : List X_Value) : Option (Bool) :=
  (c45 a0).bind fun y1 =>
    bif (y1.1 != (0 : Int)) then
      some false
    else
      r_l0 a0 a1 ((List.length a1) : Int) (0 : Int)
def r7_Usable.b_l0 (c45 : r7_Problem.E) (c46 : r7_Has.E) (n_l0 : (List X_Object) → (List X_Value) → (Int) → (Int) → Option (Bool)) (x2 : List X_Object) (x11 : List X_Value) (x12 : Int) (x13 : Int) : Option (Bool) :=
  bif (decide (x13 < x12)) then
    if 0 ≤ x13 ∧ x13 < ((List.length x11) : Int) then
      (c46 (x2, (List.getD x11 (Int.toNat x13) Z_Value))).bind fun y2 =>
        bif (!y2) then
          some false
        else
          n_l0 x2 x11 x12 (IntKind.i64.wrap (x13 + (1 : Int)))
    else none
  else
    some true
def r7_Usable.c_l0 (c45 : r7_Problem.E) (c46 : r7_Has.E) (n_l0 : (List X_Object) → (List X_Value) → (Int) → (Int) → Option (Bool)) (x2 : List X_Object) (x11 : List X_Value) (x12 : Int) (x13 : Int) : Option (Bool) :=
  bif (decide (x13 < x12)) then
    if 0 ≤ x13 ∧ x13 < ((List.length x11) : Int) then
      (c46 (x2, (List.getD x11 (Int.toNat x13) Z_Value))).bind fun y2 =>
        bif !y2 then
          some false
        else
          n_l0 x2 x11 x12 (IntKind.i64.wrap (x13 + (1 : Int)))
    else none
  else
    some true
theorem r7_Usable.q_l0 (c45 : r7_Problem.E) (c46 : r7_Has.E) (n_l0 : (List X_Object) → (List X_Value) → (Int) → (Int) → Option (Bool)) (x2 : List X_Object) (x11 : List X_Value) (x12 : Int) (x13 : Int) : r7_Usable.b_l0 c45 c46 n_l0 x2 x11 x12 x13 = r7_Usable.c_l0 c45 c46 n_l0 x2 x11 x12 x13 := by
  simp only [r7_Usable.b_l0, r7_Usable.c_l0, List.take_length, take_one, Nat.zero_add, Int.toNat_natCast, Int.toNat_zero, List.drop_zero, List.append_eq, Nat.le_refl, Int.le_refl, true_and, and_true, zero_le_one, if_true, prod_eta, Int.natCast_zero]
def r7_Usable.l0 (c45 : r7_Problem.E) (c46 : r7_Has.E) (k : Nat)  : Nat → (List X_Object) → (List X_Value) → (Int) → (Int) → Option (Bool)
  | 0, _, _, _, _ => none
  | n + 1, x2, x11, x12, x13 => r7_Usable.b_l0 c45 c46 (fun x2 x11 x12 x13 => r7_Usable.l0 c45 c46 k  n x2 x11 x12 x13) x2 x11 x12 x13
def r7_Usable.f (c45 : r7_Problem.E) (c46 : r7_Has.E) (k : Nat) (a0 : List X_Object) (a1 : List X_Value) : Option (Bool) := r7_Usable.b c45 c46 (r7_Usable.l0 c45 c46 k k) a0 a1
noncomputable def r7_Usable.M_l0 (c45 : r7_Problem.E) (c46 : r7_Has.E) (k n : Nat)  (s : St) : Option (Bool) := atLoop (r7_Usable.C c45 c46) k n [1, 1, 0, 1, 0] [] r7_Usable.code (r7_Usable.fin c45 c46) s
noncomputable def r7_Usable.fr_l0 (x2 : List X_Object) (x11 : List X_Value) (x12 : Int) (x13 : Int) : St := ⟨(((((List.replicate 22 V.un).set 2 (V.bp 600002 0 [])).set 11 (V.dat (.sl 26 Y_Value) x11)).set 12 (V.dat (.int .i64) x12)).set 13 (V.dat (.int .i64) x13)), [⟨600002, 0, .box (V.dat Y_Heap x2)⟩]⟩
theorem r7_Usable.r (c45 : r7_Problem.E) (c46 : r7_Has.E) (k : Nat) (a0 : List X_Object) (a1 : List X_Value) : fn (r7_Usable.C c45 c46) k Tryd.f14 r7_Usable.A r7_Usable.R (a0, a1) = r7_Usable.b c45 c46 (fun x2 x11 x12 x13 => r7_Usable.M_l0 c45 c46 k k  (r7_Usable.fr_l0 x2 x11 x12 x13)) a0 a1 := by kernel_rfl
theorem r7_Usable.z_l0 (c45 : r7_Problem.E) (c46 : r7_Has.E) (k : Nat)  (s : St) : r7_Usable.M_l0 c45 c46 k 0  s = none := by kernel_rfl
theorem r7_Usable.r_l0 (c45 : r7_Problem.E) (c46 : r7_Has.E) (k n : Nat)  (x2 : List X_Object) (x11 : List X_Value) (x12 : Int) (x13 : Int) : r7_Usable.M_l0 c45 c46 k (n + 1)  (r7_Usable.fr_l0 x2 x11 x12 x13) = r7_Usable.b_l0 c45 c46 (fun x2 x11 x12 x13 => r7_Usable.M_l0 c45 c46 k n  (r7_Usable.fr_l0 x2 x11 x12 x13)) x2 x11 x12 x13 := by kernel_rfl
theorem r7_Usable.e_l0 (c45 : r7_Problem.E) (c46 : r7_Has.E) (k n : Nat)  (x2 : List X_Object) (x11 : List X_Value) (x12 : Int) (x13 : Int) : r7_Usable.M_l0 c45 c46 k n  (r7_Usable.fr_l0 x2 x11 x12 x13) = r7_Usable.l0 c45 c46 k  n x2 x11 x12 x13 := by
  induction n generalizing x2 x11 x12 x13 with
  | zero => rw [r7_Usable.z_l0]; rfl
  | succ n ih =>
    rw [r7_Usable.r_l0]
    simp only [ih]
    rfl
theorem r7_Usable.e (c45 : r7_Problem.E) (c46 : r7_Has.E) (k : Nat) (a0 : List X_Object) (a1 : List X_Value) : fn (r7_Usable.C c45 c46) k Tryd.f14 r7_Usable.A r7_Usable.R (a0, a1) = r7_Usable.f c45 c46 k a0 a1 := by
  rw [r7_Usable.r]
  simp only [r7_Usable.e_l0]
  rfl
theorem r7_Usable.ty (c45 : r7_Problem.E) (c46 : r7_Has.E) : TyOk Tryd.prog (r7_Usable.C c45 c46) := tyOk_of (by kernel_rfl)
def r7_Usable.u (k : Nat) : r7_Usable.E := fun y => r7_Usable.f (r7_Problem.u k) (r7_Has.u k) k y.1 y.2
theorem r7_Usable.sound (k : Nat) : Sound Tryd.prog ⟨14, r7_Usable.A, r7_Usable.R, r7_Usable.u k⟩ := by
  have h := fn_sound (k := k) («as» := r7_Usable.A) (rs := r7_Usable.R) (r7_Usable.ty (r7_Problem.u k) (r7_Has.u k)) (fun E h => by
    simp only [r7_Usable.C, List.mem_cons, List.not_mem_nil, or_false] at h
    rcases h with rfl | rfl
    · exact r7_Problem.sound k
    · exact r7_Has.sound k) mixed Tryd.func14 (by kernel_rfl) (by kernel_rfl)
  have e : fn (r7_Usable.C (r7_Problem.u k) (r7_Has.u k)) k Tryd.f14 r7_Usable.A r7_Usable.R = r7_Usable.u k := by
    funext y
    exact r7_Usable.e (r7_Problem.u k) (r7_Has.u k) k y.1 y.2
  rw [e] at h
  exact h
/-! ### brindlewood/heap.exists: f89 -/
abbrev f_heap_exists.A : List Sh := [(.d Y_Heap), (.d (.int .i64))]
abbrev f_heap_exists.R : List Sh := [(.d .bool)]
abbrev f_heap_exists.E : Type := ((List X_Object) × (Int)) → Option (Bool)
def f_heap_exists.C  : Ctx := { ty := [(3, (.int .i64)), (48, (.sl 88 Y_Object)), (50, Y_Heap), (88, Y_Object)], nf := [(50, 1), (88, 10)], by_ := [(88, 168)], env := [], spec := [] }
noncomputable def f_heap_exists.code : Code := Func.code Tryd.f89
noncomputable def f_heap_exists.fin  := kfin (f_heap_exists.C ) Tryd.f89 f_heap_exists.A f_heap_exists.R
def f_heap_exists.b   (a0 : List X_Object) (a1 : Int) : Option (Bool) :=
  bif (decide (a1 ≥ (0 : Int))) then
    bif (decide (a1 < ((List.length a0) : Int))) then
      if 0 ≤ a1 ∧ a1 < ((List.length a0) : Int) then
        some (((List.getD a0 (Int.toNat a1) Z_Object).1) != (0 : Int))
      else none
    else
      some false
  else
    some false
def f_heap_exists.c   (a0 : List X_Object) (a1 : Int) : Option (Bool) :=
  bif (decide (a1 ≥ (0 : Int))) then
    bif (decide (a1 < ((List.length a0) : Int))) then
      if 0 ≤ a1 ∧ a1 < ((List.length a0) : Int) then
        some (((List.getD a0 (Int.toNat a1) Z_Object).1) != (0 : Int))
      else none
    else
      some false
  else
    some false
theorem f_heap_exists.q   (a0 : List X_Object) (a1 : Int) : f_heap_exists.b  a0 a1 = f_heap_exists.c  a0 a1 := by
  simp only [f_heap_exists.b, f_heap_exists.c, List.take_length, take_one, Nat.zero_add, Int.toNat_natCast, Int.toNat_zero, List.drop_zero, List.append_eq, Nat.le_refl, Int.le_refl, true_and, and_true, zero_le_one, if_true, prod_eta, Int.natCast_zero]
def f_heap_exists.f  (k : Nat) (a0 : List X_Object) (a1 : Int) : Option (Bool) := f_heap_exists.b   a0 a1
theorem f_heap_exists.r  (k : Nat) (a0 : List X_Object) (a1 : Int) : fn (f_heap_exists.C ) k Tryd.f89 f_heap_exists.A f_heap_exists.R (a0, a1) = f_heap_exists.b   a0 a1 := by kernel_rfl
theorem f_heap_exists.e  (k : Nat) (a0 : List X_Object) (a1 : Int) : fn (f_heap_exists.C ) k Tryd.f89 f_heap_exists.A f_heap_exists.R (a0, a1) = f_heap_exists.f  k a0 a1 := by
  rw [f_heap_exists.r]
  rfl
theorem f_heap_exists.ty  : TyOk Tryd.prog (f_heap_exists.C ) := tyOk_of (by kernel_rfl)
def f_heap_exists.u (k : Nat) : f_heap_exists.E := fun y => f_heap_exists.f  k y.1 y.2
theorem f_heap_exists.sound (k : Nat) : Sound Tryd.prog ⟨89, f_heap_exists.A, f_heap_exists.R, f_heap_exists.u k⟩ := by
  have h := fn_sound (k := k) («as» := f_heap_exists.A) (rs := f_heap_exists.R) (f_heap_exists.ty ) (fun E h => by cases h) mixed Tryd.func89 (by kernel_rfl) (by kernel_rfl)
  have e : fn (f_heap_exists.C ) k Tryd.f89 f_heap_exists.A f_heap_exists.R = f_heap_exists.u k := by
    funext y
    exact f_heap_exists.e  k y.1 y.2
  rw [e] at h
  exact h
/-! ### brindlewood/heap.parts: f49 -/
abbrev f_heap_parts.A : List Sh := [(.d Y_Heap), (.d Y_Value), (.d (.int .i64))]
abbrev f_heap_parts.R : List Sh := [(.d (.int .i64))]
abbrev f_heap_parts.E : Type := ((List X_Object) × (X_Value × (Int))) → Option (Int)
def f_heap_parts.C (c89 : f_heap_exists.E) (c49 : f_heap_parts.E) : Ctx := { ty := [(3, (.int .i64)), (26, Y_Value), (31, (.sl 26 Y_Value)), (48, (.sl 88 Y_Object)), (50, Y_Heap), (88, Y_Object)], nf := [(26, 5), (50, 1), (88, 10)], by_ := [(26, 96), (88, 168)], env := [⟨89, f_heap_exists.A, f_heap_exists.R, c89⟩, ⟨49, f_heap_parts.A, f_heap_parts.R, c49⟩], spec := [(1, [.d 2 (.int .i64), .bx 3 600003 (.d Y_Heap), .d 7 (.int .i64), .d 43 (.sl 26 Y_Value), .d 44 (.int .i64), .d 45 (.int .i64)])] }
noncomputable def f_heap_parts.code : Code := Func.code Tryd.f49
noncomputable def f_heap_parts.fin (c89 : f_heap_exists.E) (c49 : f_heap_parts.E) := kfin (f_heap_parts.C c89 c49) Tryd.f49 f_heap_parts.A f_heap_parts.R
def f_heap_parts.b (c89 : f_heap_exists.E) (c49 : f_heap_parts.E) (r_l1 : (Int) → (List X_Object) → (Int) → (List X_Value) → (Int) → (Int) → Option (Int)) (a0 : List X_Object) (a1 : X_Value) (a2 : Int) : Option (Int) :=
  bif (a1.1 == (9 : Int)) then
    some (0 : Int)
  else
    bif (a2 == (0 : Int)) then
      some (0 : Int)
    else
      bif (a1.1 != (6 : Int)) then
        some (1 : Int)
      else
        (c89 (a0, a1.2.2.2.2)).bind fun y1 =>
          bif (!y1) then
            some (0 : Int)
          else
            if 0 ≤ a1.2.2.2.2 ∧ a1.2.2.2.2 < ((List.length a0) : Int) then
              bif (((List.getD a0 (Int.toNat a1.2.2.2.2) Z_Object).1) == (2 : Int)) then
                bif (((List.getD a0 (Int.toNat a1.2.2.2.2) Z_Object).1) == (2 : Int)) then
                  some (0 : Int)
                else
                  bif (((List.getD a0 (Int.toNat a1.2.2.2.2) Z_Object).1) == (1 : Int)) then
                    r_l1 a2 a0 (1 : Int) ((((((((List.getD a0 (Int.toNat a1.2.2.2.2) Z_Object).2).2).2).2).2).2).1) ((List.length ((((((((List.getD a0 (Int.toNat a1.2.2.2.2) Z_Object).2).2).2).2).2).2).1)) : Int) (0 : Int)
                  else
                    some (1 : Int)
              else
                bif (((List.getD a0 (Int.toNat a1.2.2.2.2) Z_Object).1) == (3 : Int)) then
                  bif (((List.getD a0 (Int.toNat a1.2.2.2.2) Z_Object).1) == (3 : Int)) then
                    some (0 : Int)
                  else
                    bif (((List.getD a0 (Int.toNat a1.2.2.2.2) Z_Object).1) == (1 : Int)) then
                      r_l1 a2 a0 (1 : Int) ((((((((List.getD a0 (Int.toNat a1.2.2.2.2) Z_Object).2).2).2).2).2).2).1) ((List.length ((((((((List.getD a0 (Int.toNat a1.2.2.2.2) Z_Object).2).2).2).2).2).2).1)) : Int) (0 : Int)
                    else
                      some (1 : Int)
                else
                  bif (((List.getD a0 (Int.toNat a1.2.2.2.2) Z_Object).1) == (4 : Int)) then
                    bif (((List.getD a0 (Int.toNat a1.2.2.2.2) Z_Object).1) == (4 : Int)) then
                      some (0 : Int)
                    else
                      bif (((List.getD a0 (Int.toNat a1.2.2.2.2) Z_Object).1) == (1 : Int)) then
                        r_l1 a2 a0 (1 : Int) ((((((((List.getD a0 (Int.toNat a1.2.2.2.2) Z_Object).2).2).2).2).2).2).1) ((List.length ((((((((List.getD a0 (Int.toNat a1.2.2.2.2) Z_Object).2).2).2).2).2).2).1)) : Int) (0 : Int)
                      else
                        some (1 : Int)
                  else
                    bif (((List.getD a0 (Int.toNat a1.2.2.2.2) Z_Object).1) == (5 : Int)) then
                      some (0 : Int)
                    else
                      bif (((List.getD a0 (Int.toNat a1.2.2.2.2) Z_Object).1) == (1 : Int)) then
                        r_l1 a2 a0 (1 : Int) ((((((((List.getD a0 (Int.toNat a1.2.2.2.2) Z_Object).2).2).2).2).2).2).1) ((List.length ((((((((List.getD a0 (Int.toNat a1.2.2.2.2) Z_Object).2).2).2).2).2).2).1)) : Int) (0 : Int)
                      else
                        some (1 : Int)
            else none
def f_heap_parts.b_l1 (c89 : f_heap_exists.E) (c49 : f_heap_parts.E) (n_l1 : (Int) → (List X_Object) → (Int) → (List X_Value) → (Int) → (Int) → Option (Int)) (x2 : Int) (x3 : List X_Object) (x7 : Int) (x43 : List X_Value) (x44 : Int) (x45 : Int) : Option (Int) :=
  bif (decide (x45 < x44)) then
    if 0 ≤ x45 ∧ x45 < ((List.length x43) : Int) then
      (c49 (x3, ((List.getD x43 (Int.toNat x45) Z_Value), (IntKind.i64.wrap (x2 - x7))))).bind fun y2 =>
        bif (y2 == (0 : Int)) then
          some (0 : Int)
        else
          n_l1 x2 x3 (IntKind.i64.wrap (x7 + y2)) x43 x44 (IntKind.i64.wrap (x45 + (1 : Int)))
    else none
  else
    some x7
def f_heap_parts.c (c89 : f_heap_exists.E) (c49 : f_heap_parts.E) (r_l1 : (Int) → (List X_Object) → (Int) → (List X_Value) → (Int) → (Int) → Option (Int)) (a0 : List X_Object) (a1 : X_Value) (a2 : Int) : Option (Int) :=
  bif (a1.1 == (9 : Int)) then
    some (0 : Int)
  else
    bif (a2 == (0 : Int)) then
      some (0 : Int)
    else
      bif (a1.1 != (6 : Int)) then
        some (1 : Int)
      else
        (c89 (a0, a1.2.2.2.2)).bind fun y1 =>
          bif !y1 then
            some (0 : Int)
          else
            if 0 ≤ a1.2.2.2.2 ∧ a1.2.2.2.2 < ((List.length a0) : Int) then
              bif (((List.getD a0 (Int.toNat a1.2.2.2.2) Z_Object).1) == (2 : Int)) then
                bif (((List.getD a0 (Int.toNat a1.2.2.2.2) Z_Object).1) == (2 : Int)) then
                  some (0 : Int)
                else
                  bif (((List.getD a0 (Int.toNat a1.2.2.2.2) Z_Object).1) == (1 : Int)) then
                    r_l1 a2 a0 (1 : Int) ((((((((List.getD a0 (Int.toNat a1.2.2.2.2) Z_Object).2).2).2).2).2).2).1) ((List.length ((((((((List.getD a0 (Int.toNat a1.2.2.2.2) Z_Object).2).2).2).2).2).2).1)) : Int) (0 : Int)
                  else
                    some (1 : Int)
              else
                bif (((List.getD a0 (Int.toNat a1.2.2.2.2) Z_Object).1) == (3 : Int)) then
                  bif (((List.getD a0 (Int.toNat a1.2.2.2.2) Z_Object).1) == (3 : Int)) then
                    some (0 : Int)
                  else
                    bif (((List.getD a0 (Int.toNat a1.2.2.2.2) Z_Object).1) == (1 : Int)) then
                      r_l1 a2 a0 (1 : Int) ((((((((List.getD a0 (Int.toNat a1.2.2.2.2) Z_Object).2).2).2).2).2).2).1) ((List.length ((((((((List.getD a0 (Int.toNat a1.2.2.2.2) Z_Object).2).2).2).2).2).2).1)) : Int) (0 : Int)
                    else
                      some (1 : Int)
                else
                  bif (((List.getD a0 (Int.toNat a1.2.2.2.2) Z_Object).1) == (4 : Int)) then
                    bif (((List.getD a0 (Int.toNat a1.2.2.2.2) Z_Object).1) == (4 : Int)) then
                      some (0 : Int)
                    else
                      bif (((List.getD a0 (Int.toNat a1.2.2.2.2) Z_Object).1) == (1 : Int)) then
                        r_l1 a2 a0 (1 : Int) ((((((((List.getD a0 (Int.toNat a1.2.2.2.2) Z_Object).2).2).2).2).2).2).1) ((List.length ((((((((List.getD a0 (Int.toNat a1.2.2.2.2) Z_Object).2).2).2).2).2).2).1)) : Int) (0 : Int)
                      else
                        some (1 : Int)
                  else
                    bif (((List.getD a0 (Int.toNat a1.2.2.2.2) Z_Object).1) == (5 : Int)) then
                      some (0 : Int)
                    else
                      bif (((List.getD a0 (Int.toNat a1.2.2.2.2) Z_Object).1) == (1 : Int)) then
                        r_l1 a2 a0 (1 : Int) ((((((((List.getD a0 (Int.toNat a1.2.2.2.2) Z_Object).2).2).2).2).2).2).1) ((List.length ((((((((List.getD a0 (Int.toNat a1.2.2.2.2) Z_Object).2).2).2).2).2).2).1)) : Int) (0 : Int)
                      else
                        some (1 : Int)
            else none
theorem f_heap_parts.q (c89 : f_heap_exists.E) (c49 : f_heap_parts.E) (r_l1 : (Int) → (List X_Object) → (Int) → (List X_Value) → (Int) → (Int) → Option (Int)) (a0 : List X_Object) (a1 : X_Value) (a2 : Int) : f_heap_parts.b c89 c49 r_l1 a0 a1 a2 = f_heap_parts.c c89 c49 r_l1 a0 a1 a2 := by
  simp only [f_heap_parts.b, f_heap_parts.c, List.take_length, take_one, Nat.zero_add, Int.toNat_natCast, Int.toNat_zero, List.drop_zero, List.append_eq, Nat.le_refl, Int.le_refl, true_and, and_true, zero_le_one, if_true, prod_eta, Int.natCast_zero]
def f_heap_parts.c_l1 (c89 : f_heap_exists.E) (c49 : f_heap_parts.E) (n_l1 : (Int) → (List X_Object) → (Int) → (List X_Value) → (Int) → (Int) → Option (Int)) (x2 : Int) (x3 : List X_Object) (x7 : Int) (x43 : List X_Value) (x44 : Int) (x45 : Int) : Option (Int) :=
  bif (decide (x45 < x44)) then
    if 0 ≤ x45 ∧ x45 < ((List.length x43) : Int) then
      (c49 (x3, ((List.getD x43 (Int.toNat x45) Z_Value), (IntKind.i64.wrap (x2 - x7))))).bind fun y2 =>
        bif (y2 == (0 : Int)) then
          some (0 : Int)
        else
          n_l1 x2 x3 (IntKind.i64.wrap (x7 + y2)) x43 x44 (IntKind.i64.wrap (x45 + (1 : Int)))
    else none
  else
    some x7
theorem f_heap_parts.q_l1 (c89 : f_heap_exists.E) (c49 : f_heap_parts.E) (n_l1 : (Int) → (List X_Object) → (Int) → (List X_Value) → (Int) → (Int) → Option (Int)) (x2 : Int) (x3 : List X_Object) (x7 : Int) (x43 : List X_Value) (x44 : Int) (x45 : Int) : f_heap_parts.b_l1 c89 c49 n_l1 x2 x3 x7 x43 x44 x45 = f_heap_parts.c_l1 c89 c49 n_l1 x2 x3 x7 x43 x44 x45 := by
  simp only [f_heap_parts.b_l1, f_heap_parts.c_l1, List.take_length, take_one, Nat.zero_add, Int.toNat_natCast, Int.toNat_zero, List.drop_zero, List.append_eq, Nat.le_refl, Int.le_refl, true_and, and_true, zero_le_one, if_true, prod_eta, Int.natCast_zero]
def f_heap_parts.l1 (c89 : f_heap_exists.E) (c49 : f_heap_parts.E) (k : Nat)  : Nat → (Int) → (List X_Object) → (Int) → (List X_Value) → (Int) → (Int) → Option (Int)
  | 0, _, _, _, _, _, _ => none
  | n + 1, x2, x3, x7, x43, x44, x45 => f_heap_parts.b_l1 c89 c49 (fun x2 x3 x7 x43 x44 x45 => f_heap_parts.l1 c89 c49 k  n x2 x3 x7 x43 x44 x45) x2 x3 x7 x43 x44 x45
def f_heap_parts.f (c89 : f_heap_exists.E) (c49 : f_heap_parts.E) (k : Nat) (a0 : List X_Object) (a1 : X_Value) (a2 : Int) : Option (Int) := f_heap_parts.b c89 c49 (f_heap_parts.l1 c89 c49 k k) a0 a1 a2
noncomputable def f_heap_parts.M_l1 (c89 : f_heap_exists.E) (c49 : f_heap_parts.E) (k n : Nat)  (s : St) : Option (Int) := atLoop (f_heap_parts.C c89 c49) k n [1, 1, 1, 1, 1, 0, 1, 1, 0, 1, 1, 1, 0, 1, 0] [] f_heap_parts.code (f_heap_parts.fin c89 c49) s
noncomputable def f_heap_parts.fr_l1 (x2 : Int) (x3 : List X_Object) (x7 : Int) (x43 : List X_Value) (x44 : Int) (x45 : Int) : St := ⟨(((((((List.replicate 62 V.un).set 2 (V.dat (.int .i64) x2)).set 3 (V.bp 600003 0 [])).set 7 (V.dat (.int .i64) x7)).set 43 (V.dat (.sl 26 Y_Value) x43)).set 44 (V.dat (.int .i64) x44)).set 45 (V.dat (.int .i64) x45)), [⟨600003, 0, .box (V.dat Y_Heap x3)⟩]⟩
theorem f_heap_parts.r (c89 : f_heap_exists.E) (c49 : f_heap_parts.E) (k : Nat) (a0 : List X_Object) (a1 : X_Value) (a2 : Int) : fn (f_heap_parts.C c89 c49) k Tryd.f49 f_heap_parts.A f_heap_parts.R (a0, (a1, a2)) = f_heap_parts.b c89 c49 (fun x2 x3 x7 x43 x44 x45 => f_heap_parts.M_l1 c89 c49 k k  (f_heap_parts.fr_l1 x2 x3 x7 x43 x44 x45)) a0 a1 a2 := by kernel_rfl
theorem f_heap_parts.z_l1 (c89 : f_heap_exists.E) (c49 : f_heap_parts.E) (k : Nat)  (s : St) : f_heap_parts.M_l1 c89 c49 k 0  s = none := by kernel_rfl
theorem f_heap_parts.r_l1 (c89 : f_heap_exists.E) (c49 : f_heap_parts.E) (k n : Nat)  (x2 : Int) (x3 : List X_Object) (x7 : Int) (x43 : List X_Value) (x44 : Int) (x45 : Int) : f_heap_parts.M_l1 c89 c49 k (n + 1)  (f_heap_parts.fr_l1 x2 x3 x7 x43 x44 x45) = f_heap_parts.b_l1 c89 c49 (fun x2 x3 x7 x43 x44 x45 => f_heap_parts.M_l1 c89 c49 k n  (f_heap_parts.fr_l1 x2 x3 x7 x43 x44 x45)) x2 x3 x7 x43 x44 x45 := by kernel_rfl
theorem f_heap_parts.e_l1 (c89 : f_heap_exists.E) (c49 : f_heap_parts.E) (k n : Nat)  (x2 : Int) (x3 : List X_Object) (x7 : Int) (x43 : List X_Value) (x44 : Int) (x45 : Int) : f_heap_parts.M_l1 c89 c49 k n  (f_heap_parts.fr_l1 x2 x3 x7 x43 x44 x45) = f_heap_parts.l1 c89 c49 k  n x2 x3 x7 x43 x44 x45 := by
  induction n generalizing x2 x3 x7 x43 x44 x45 with
  | zero => rw [f_heap_parts.z_l1]; rfl
  | succ n ih =>
    rw [f_heap_parts.r_l1]
    simp only [ih]
    rfl
theorem f_heap_parts.e (c89 : f_heap_exists.E) (c49 : f_heap_parts.E) (k : Nat) (a0 : List X_Object) (a1 : X_Value) (a2 : Int) : fn (f_heap_parts.C c89 c49) k Tryd.f49 f_heap_parts.A f_heap_parts.R (a0, (a1, a2)) = f_heap_parts.f c89 c49 k a0 a1 a2 := by
  rw [f_heap_parts.r]
  simp only [f_heap_parts.e_l1]
  rfl
theorem f_heap_parts.ty (c89 : f_heap_exists.E) (c49 : f_heap_parts.E) : TyOk Tryd.prog (f_heap_parts.C c89 c49) := tyOk_of (by kernel_rfl)
def f_heap_parts.ur (k : Nat) (g : f_heap_parts.E) : f_heap_parts.E := fun y => f_heap_parts.f (f_heap_exists.u k) g k y.1 y.2.1 y.2.2
theorem f_heap_parts.sound_r (k : Nat) (g : f_heap_parts.E) (hg : Sound Tryd.prog ⟨49, f_heap_parts.A, f_heap_parts.R, g⟩) : Sound Tryd.prog ⟨49, f_heap_parts.A, f_heap_parts.R, f_heap_parts.ur k g⟩ := by
  have h := fn_sound (k := k) («as» := f_heap_parts.A) (rs := f_heap_parts.R) (f_heap_parts.ty (f_heap_exists.u k) g) (fun E h => by
    simp only [f_heap_parts.C, List.mem_cons, List.not_mem_nil, or_false] at h
    rcases h with rfl | rfl
    · exact f_heap_exists.sound k
    · exact hg) mixed Tryd.func49 (by kernel_rfl) (by kernel_rfl)
  have e : fn (f_heap_parts.C (f_heap_exists.u k) g) k Tryd.f49 f_heap_parts.A f_heap_parts.R = f_heap_parts.ur k g := by
    funext y
    exact f_heap_parts.e (f_heap_exists.u k) g k y.1 y.2.1 y.2.2
  rw [e] at h
  exact h
def f_heap_parts.u : Nat → f_heap_parts.E
  | 0 => fun _ => none
  | k + 1 => f_heap_parts.ur (k + 1) (f_heap_parts.u k)
theorem f_heap_parts.sound : ∀ k : Nat, Sound Tryd.prog ⟨49, f_heap_parts.A, f_heap_parts.R, f_heap_parts.u k⟩
  | 0 => ⟨enters_of Tryd.func49 (c := Func.code Tryd.f49) (by kernel_rfl) (by kernel_rfl), fun x y h => by cases h⟩
  | k + 1 => f_heap_parts.sound_r (k + 1) (f_heap_parts.u k) (f_heap_parts.sound k)
/-! ### brindlewood/heap.Parts: f16 -/
abbrev f_heap_Parts.A : List Sh := [(.d Y_Heap), (.d Y_Value)]
abbrev f_heap_Parts.R : List Sh := [(.d (.int .i64))]
abbrev f_heap_Parts.E : Type := ((List X_Object) × X_Value) → Option (Int)
def f_heap_Parts.C (c49 : f_heap_parts.E) : Ctx := { ty := [(26, Y_Value), (50, Y_Heap)], nf := [], by_ := [], env := [⟨49, f_heap_parts.A, f_heap_parts.R, c49⟩], spec := [] }
noncomputable def f_heap_Parts.code : Code := Func.code Tryd.f16
noncomputable def f_heap_Parts.fin (c49 : f_heap_parts.E) := kfin (f_heap_Parts.C c49) Tryd.f16 f_heap_Parts.A f_heap_Parts.R
def f_heap_Parts.b (c49 : f_heap_parts.E)  (a0 : List X_Object) (a1 : X_Value) : Option (Int) :=
  (c49 (a0, (a1, (1000 : Int)))).bind fun y1 =>
    some y1
def f_heap_Parts.f (c49 : f_heap_parts.E) (k : Nat) (a0 : List X_Object) (a1 : X_Value) : Option (Int) := f_heap_Parts.b c49  a0 a1
theorem f_heap_Parts.r (c49 : f_heap_parts.E) (k : Nat) (a0 : List X_Object) (a1 : X_Value) : fn (f_heap_Parts.C c49) k Tryd.f16 f_heap_Parts.A f_heap_Parts.R (a0, a1) = f_heap_Parts.b c49  a0 a1 := by kernel_rfl
theorem f_heap_Parts.e (c49 : f_heap_parts.E) (k : Nat) (a0 : List X_Object) (a1 : X_Value) : fn (f_heap_Parts.C c49) k Tryd.f16 f_heap_Parts.A f_heap_Parts.R (a0, a1) = f_heap_Parts.f c49 k a0 a1 := by
  rw [f_heap_Parts.r]
  rfl
theorem f_heap_Parts.ty (c49 : f_heap_parts.E) : TyOk Tryd.prog (f_heap_Parts.C c49) := tyOk_of (by kernel_rfl)
def f_heap_Parts.u (k : Nat) : f_heap_Parts.E := fun y => f_heap_Parts.f (f_heap_parts.u k) k y.1 y.2
theorem f_heap_Parts.sound (k : Nat) : Sound Tryd.prog ⟨16, f_heap_Parts.A, f_heap_Parts.R, f_heap_Parts.u k⟩ := by
  have h := fn_sound (k := k) («as» := f_heap_Parts.A) (rs := f_heap_Parts.R) (f_heap_Parts.ty (f_heap_parts.u k)) (fun E h => by
    simp only [f_heap_Parts.C, List.mem_cons, List.not_mem_nil, or_false] at h
    rcases h with rfl
    · exact f_heap_parts.sound k) mixed Tryd.func16 (by kernel_rfl) (by kernel_rfl)
  have e : fn (f_heap_Parts.C (f_heap_parts.u k)) k Tryd.f16 f_heap_Parts.A f_heap_Parts.R = f_heap_Parts.u k := by
    funext y
    exact f_heap_Parts.e (f_heap_parts.u k) k y.1 y.2
  rw [e] at h
  exact h
/-! ### brindlewood/heap.IsKey: f17 -/
abbrev f_heap_IsKey.A : List Sh := [(.d Y_Heap), (.d Y_Value)]
abbrev f_heap_IsKey.R : List Sh := [(.d .bool)]
abbrev f_heap_IsKey.E : Type := ((List X_Object) × X_Value) → Option (Bool)
def f_heap_IsKey.C (c16 : f_heap_Parts.E) : Ctx := { ty := [(3, (.int .i64)), (26, Y_Value), (50, Y_Heap)], nf := [], by_ := [], env := [⟨16, f_heap_Parts.A, f_heap_Parts.R, c16⟩], spec := [] }
noncomputable def f_heap_IsKey.code : Code := Func.code Tryd.f17
noncomputable def f_heap_IsKey.fin (c16 : f_heap_Parts.E) := kfin (f_heap_IsKey.C c16) Tryd.f17 f_heap_IsKey.A f_heap_IsKey.R
def f_heap_IsKey.b (c16 : f_heap_Parts.E)  (a0 : List X_Object) (a1 : X_Value) : Option (Bool) :=
  (c16 (a0, a1)).bind fun y1 =>
    some (decide (y1 > (0 : Int)))
def f_heap_IsKey.f (c16 : f_heap_Parts.E) (k : Nat) (a0 : List X_Object) (a1 : X_Value) : Option (Bool) := f_heap_IsKey.b c16  a0 a1
theorem f_heap_IsKey.r (c16 : f_heap_Parts.E) (k : Nat) (a0 : List X_Object) (a1 : X_Value) : fn (f_heap_IsKey.C c16) k Tryd.f17 f_heap_IsKey.A f_heap_IsKey.R (a0, a1) = f_heap_IsKey.b c16  a0 a1 := by kernel_rfl
theorem f_heap_IsKey.e (c16 : f_heap_Parts.E) (k : Nat) (a0 : List X_Object) (a1 : X_Value) : fn (f_heap_IsKey.C c16) k Tryd.f17 f_heap_IsKey.A f_heap_IsKey.R (a0, a1) = f_heap_IsKey.f c16 k a0 a1 := by
  rw [f_heap_IsKey.r]
  rfl
theorem f_heap_IsKey.ty (c16 : f_heap_Parts.E) : TyOk Tryd.prog (f_heap_IsKey.C c16) := tyOk_of (by kernel_rfl)
def f_heap_IsKey.u (k : Nat) : f_heap_IsKey.E := fun y => f_heap_IsKey.f (f_heap_Parts.u k) k y.1 y.2
theorem f_heap_IsKey.sound (k : Nat) : Sound Tryd.prog ⟨17, f_heap_IsKey.A, f_heap_IsKey.R, f_heap_IsKey.u k⟩ := by
  have h := fn_sound (k := k) («as» := f_heap_IsKey.A) (rs := f_heap_IsKey.R) (f_heap_IsKey.ty (f_heap_Parts.u k)) (fun E h => by
    simp only [f_heap_IsKey.C, List.mem_cons, List.not_mem_nil, or_false] at h
    rcases h with rfl
    · exact f_heap_Parts.sound k) mixed Tryd.func17 (by kernel_rfl) (by kernel_rfl)
  have e : fn (f_heap_IsKey.C (f_heap_Parts.u k)) k Tryd.f17 f_heap_IsKey.A f_heap_IsKey.R = f_heap_IsKey.u k := by
    funext y
    exact f_heap_IsKey.e (f_heap_Parts.u k) k y.1 y.2
  rw [e] at h
  exact h
/-! ### brindlewood/heap.SameInt: f90 -/
abbrev f_heap_SameInt.A : List Sh := [(.d Y_Int), (.d Y_Int)]
abbrev f_heap_SameInt.R : List Sh := [(.d .bool)]
abbrev f_heap_SameInt.E : Type := (X_Int × X_Int) → Option (Bool)
def f_heap_SameInt.C (c53 : sl_Equal_uint32.E) : Ctx := { ty := [(4, .bool), (22, (.sl 61 (.int .u32))), (24, Y_Int)], nf := [(24, 2)], by_ := [(61, 4)], env := [⟨53, sl_Equal_uint32.A, sl_Equal_uint32.R, c53⟩], spec := [] }
noncomputable def f_heap_SameInt.code : Code := Func.code Tryd.f90
noncomputable def f_heap_SameInt.fin (c53 : sl_Equal_uint32.E) := kfin (f_heap_SameInt.C c53) Tryd.f90 f_heap_SameInt.A f_heap_SameInt.R
def f_heap_SameInt.b (c53 : sl_Equal_uint32.E)  (a0 : (Bool) × (List (Int))) (a1 : (Bool) × (List (Int))) : Option (Bool) :=
  bif (a0.1 == a1.1) then
    (c53 (a0.2, a1.2)).bind fun y1 =>
      some y1
  else
    some false
def f_heap_SameInt.f (c53 : sl_Equal_uint32.E) (k : Nat) (a0 : (Bool) × (List (Int))) (a1 : (Bool) × (List (Int))) : Option (Bool) := f_heap_SameInt.b c53  a0 a1
theorem f_heap_SameInt.r (c53 : sl_Equal_uint32.E) (k : Nat) (a0 : (Bool) × (List (Int))) (a1 : (Bool) × (List (Int))) : fn (f_heap_SameInt.C c53) k Tryd.f90 f_heap_SameInt.A f_heap_SameInt.R (a0, a1) = f_heap_SameInt.b c53  a0 a1 := by kernel_rfl
theorem f_heap_SameInt.e (c53 : sl_Equal_uint32.E) (k : Nat) (a0 : (Bool) × (List (Int))) (a1 : (Bool) × (List (Int))) : fn (f_heap_SameInt.C c53) k Tryd.f90 f_heap_SameInt.A f_heap_SameInt.R (a0, a1) = f_heap_SameInt.f c53 k a0 a1 := by
  rw [f_heap_SameInt.r]
  rfl
theorem f_heap_SameInt.ty (c53 : sl_Equal_uint32.E) : TyOk Tryd.prog (f_heap_SameInt.C c53) := tyOk_of (by kernel_rfl)
def f_heap_SameInt.u (k : Nat) : f_heap_SameInt.E := fun y => f_heap_SameInt.f (sl_Equal_uint32.u k) k y.1 y.2
theorem f_heap_SameInt.sound (k : Nat) : Sound Tryd.prog ⟨90, f_heap_SameInt.A, f_heap_SameInt.R, f_heap_SameInt.u k⟩ := by
  have h := fn_sound (k := k) («as» := f_heap_SameInt.A) (rs := f_heap_SameInt.R) (f_heap_SameInt.ty (sl_Equal_uint32.u k)) (fun E h => by
    simp only [f_heap_SameInt.C, List.mem_cons, List.not_mem_nil, or_false] at h
    rcases h with rfl
    · exact sl_Equal_uint32.sound k) mixed Tryd.func90 (by kernel_rfl) (by kernel_rfl)
  have e : fn (f_heap_SameInt.C (sl_Equal_uint32.u k)) k Tryd.f90 f_heap_SameInt.A f_heap_SameInt.R = f_heap_SameInt.u k := by
    funext y
    exact f_heap_SameInt.e (sl_Equal_uint32.u k) k y.1 y.2
  rw [e] at h
  exact h
end
end Go.Ab
