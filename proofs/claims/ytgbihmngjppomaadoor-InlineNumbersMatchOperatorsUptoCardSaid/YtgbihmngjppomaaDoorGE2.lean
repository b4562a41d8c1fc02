/- A part of the proof: GE2. -/
import Derived.Test.YtgbihmngjppomaaDoorFTy
import Derived.Test.YtgbihmngjppomaaDoorGC1
import Derived.Test.YtgbihmngjppomaaDoorGE1
namespace Go.Ab
set_option linter.unusedVariables false
set_option linter.unusedSimpArgs false
set_option maxRecDepth 100000
noncomputable section
open Go.Proofs
/-! ### (brindlewood/brindlewoodref3.Ratio).Times: f32 -/
abbrev f_ref3_Ratio_Times.A : List Sh := [(.d Y_Ratio), (.d Y_Ratio)]
abbrev f_ref3_Ratio_Times.R : List Sh := [(.d Y_Ratio)]
abbrev f_ref3_Ratio_Times.E : Type := (X_Ratio × X_Ratio) → Option X_Ratio
def f_ref3_Ratio_Times.C (c43 : f_ref3_Int_Times.E) (c65 : f_ref3_Times.E) (c66 : f_ref3_Ratio_Lowest.E) : Ctx := { ty := [(39, (.sl 3 (.int .i64))), (41, (.pair .bool (.sl 3 (.int .i64)))), (43, Y_Ratio)], nf := [(43, 2)], by_ := [(3, 8)], env := [⟨43, f_ref3_Int_Times.A, f_ref3_Int_Times.R, c43⟩, ⟨65, f_ref3_Times.A, f_ref3_Times.R, c65⟩, ⟨66, f_ref3_Ratio_Lowest.A, f_ref3_Ratio_Lowest.R, c66⟩], spec := [] }
noncomputable def f_ref3_Ratio_Times.code : Code := Func.code Tryd.f32
noncomputable def f_ref3_Ratio_Times.fin (c43 : f_ref3_Int_Times.E) (c65 : f_ref3_Times.E) (c66 : f_ref3_Ratio_Lowest.E) := kfin (f_ref3_Ratio_Times.C c43 c65 c66) Tryd.f32 f_ref3_Ratio_Times.A f_ref3_Ratio_Times.R
def f_ref3_Ratio_Times.b (c43 : f_ref3_Int_Times.E) (c65 : f_ref3_Times.E) (c66 : f_ref3_Ratio_Lowest.E)  (a0 : X_Int × (List (Int))) (a1 : X_Int × (List (Int))) : Option X_Ratio :=
  (c43 (a0.1, a1.1)).bind fun y1 =>
    (c65 (a0.2, a1.2)).bind fun y2 =>
      (c66 (y1, y2)).bind fun y3 =>
        some y3
def f_ref3_Ratio_Times.f (c43 : f_ref3_Int_Times.E) (c65 : f_ref3_Times.E) (c66 : f_ref3_Ratio_Lowest.E) (k : Nat) (a0 : X_Int × (List (Int))) (a1 : X_Int × (List (Int))) : Option X_Ratio := f_ref3_Ratio_Times.b c43 c65 c66  a0 a1
theorem f_ref3_Ratio_Times.r (c43 : f_ref3_Int_Times.E) (c65 : f_ref3_Times.E) (c66 : f_ref3_Ratio_Lowest.E) (k : Nat) (a0 : X_Int × (List (Int))) (a1 : X_Int × (List (Int))) : fn (f_ref3_Ratio_Times.C c43 c65 c66) k Tryd.f32 f_ref3_Ratio_Times.A f_ref3_Ratio_Times.R (a0, a1) = f_ref3_Ratio_Times.b c43 c65 c66  a0 a1 := by kernel_rfl
theorem f_ref3_Ratio_Times.e (c43 : f_ref3_Int_Times.E) (c65 : f_ref3_Times.E) (c66 : f_ref3_Ratio_Lowest.E) (k : Nat) (a0 : X_Int × (List (Int))) (a1 : X_Int × (List (Int))) : fn (f_ref3_Ratio_Times.C c43 c65 c66) k Tryd.f32 f_ref3_Ratio_Times.A f_ref3_Ratio_Times.R (a0, a1) = f_ref3_Ratio_Times.f c43 c65 c66 k a0 a1 := by
  rw [f_ref3_Ratio_Times.r]
  rfl
theorem f_ref3_Ratio_Times.ty (c43 : f_ref3_Int_Times.E) (c65 : f_ref3_Times.E) (c66 : f_ref3_Ratio_Lowest.E) : TyOk Tryd.prog (f_ref3_Ratio_Times.C c43 c65 c66) := tyOk_of (by kernel_rfl)
def f_ref3_Ratio_Times.u (k : Nat) : f_ref3_Ratio_Times.E := fun y => f_ref3_Ratio_Times.f (f_ref3_Int_Times.u k) (f_ref3_Times.u k) (f_ref3_Ratio_Lowest.u k) k y.1 y.2
theorem f_ref3_Ratio_Times.sound (k : Nat) : Sound Tryd.prog ⟨32, f_ref3_Ratio_Times.A, f_ref3_Ratio_Times.R, f_ref3_Ratio_Times.u k⟩ := by
  have h := fn_sound (k := k) («as» := f_ref3_Ratio_Times.A) (rs := f_ref3_Ratio_Times.R) (f_ref3_Ratio_Times.ty (f_ref3_Int_Times.u k) (f_ref3_Times.u k) (f_ref3_Ratio_Lowest.u k)) (fun E h => by
    simp only [f_ref3_Ratio_Times.C, List.mem_cons, List.not_mem_nil, or_false] at h
    rcases h with rfl | rfl | rfl
    · exact f_ref3_Int_Times.sound k
    · exact f_ref3_Times.sound k
    · exact f_ref3_Ratio_Lowest.sound k) mixed Tryd.func32 (by kernel_rfl) (by kernel_rfl)
  have e : fn (f_ref3_Ratio_Times.C (f_ref3_Int_Times.u k) (f_ref3_Times.u k) (f_ref3_Ratio_Lowest.u k)) k Tryd.f32 f_ref3_Ratio_Times.A f_ref3_Ratio_Times.R = f_ref3_Ratio_Times.u k := by
    funext y
    exact f_ref3_Ratio_Times.e (f_ref3_Int_Times.u k) (f_ref3_Times.u k) (f_ref3_Ratio_Lowest.u k) k y.1 y.2
  rw [e] at h
  exact h
/-! ### brindlewood/brindlewoodref7.Zero: f33 -/
abbrev f_ref7_Zero.A : List Sh := [(.d (.pair .bool (.sl 3 (.int .i64))))]
abbrev f_ref7_Zero.R : List Sh := [(.d .bool)]
abbrev f_ref7_Zero.E : Type := X_Int → Option (Bool)
def f_ref7_Zero.C  : Ctx := { ty := [(3, (.int .i64)), (39, (.sl 3 (.int .i64))), (41, (.pair .bool (.sl 3 (.int .i64))))], nf := [(41, 2)], by_ := [(3, 8)], env := [], spec := [] }
noncomputable def f_ref7_Zero.code : Code := Func.code Tryd.f33
noncomputable def f_ref7_Zero.fin  := kfin (f_ref7_Zero.C ) Tryd.f33 f_ref7_Zero.A f_ref7_Zero.R
def f_ref7_Zero.b   (a0 : (Bool) × (List (Int))) : Option (Bool) :=
  some (((List.length a0.2) : Int) == (0 : Int))
def f_ref7_Zero.f  (k : Nat) (a0 : (Bool) × (List (Int))) : Option (Bool) := f_ref7_Zero.b   a0
theorem f_ref7_Zero.r  (k : Nat) (a0 : (Bool) × (List (Int))) : fn (f_ref7_Zero.C ) k Tryd.f33 f_ref7_Zero.A f_ref7_Zero.R a0 = f_ref7_Zero.b   a0 := by kernel_rfl
theorem f_ref7_Zero.e  (k : Nat) (a0 : (Bool) × (List (Int))) : fn (f_ref7_Zero.C ) k Tryd.f33 f_ref7_Zero.A f_ref7_Zero.R a0 = f_ref7_Zero.f  k a0 := by
  rw [f_ref7_Zero.r]
  rfl
theorem f_ref7_Zero.ty  : TyOk Tryd.prog (f_ref7_Zero.C ) := tyOk_of (by kernel_rfl)
def f_ref7_Zero.u (k : Nat) : f_ref7_Zero.E := fun y => f_ref7_Zero.f  k y
theorem f_ref7_Zero.sound (k : Nat) : Sound Tryd.prog ⟨33, f_ref7_Zero.A, f_ref7_Zero.R, f_ref7_Zero.u k⟩ := by
  have h := fn_sound (k := k) («as» := f_ref7_Zero.A) (rs := f_ref7_Zero.R) (f_ref7_Zero.ty ) (fun E h => by cases h) mixed Tryd.func33 (by kernel_rfl) (by kernel_rfl)
  have e : fn (f_ref7_Zero.C ) k Tryd.f33 f_ref7_Zero.A f_ref7_Zero.R = f_ref7_Zero.u k := by
    funext y
    exact f_ref7_Zero.e  k y
  rw [e] at h
  exact h
/-! ### (brindlewood/brindlewoodref3.Ratio).Turned: f35 -/
abbrev f_ref3_Ratio_Turned.A : List Sh := [(.d Y_Ratio)]
abbrev f_ref3_Ratio_Turned.R : List Sh := [(.d Y_Ratio)]
abbrev f_ref3_Ratio_Turned.E : Type := X_Ratio → Option X_Ratio
def f_ref3_Ratio_Turned.C  : Ctx := { ty := [(4, .bool), (39, (.sl 3 (.int .i64))), (41, (.pair .bool (.sl 3 (.int .i64)))), (43, Y_Ratio)], nf := [(41, 2), (43, 2)], by_ := [(3, 8)], env := [], spec := [] }
noncomputable def f_ref3_Ratio_Turned.code : Code := Func.code Tryd.f35
noncomputable def f_ref3_Ratio_Turned.fin  := kfin (f_ref3_Ratio_Turned.C ) Tryd.f35 f_ref3_Ratio_Turned.A f_ref3_Ratio_Turned.R
def f_ref3_Ratio_Turned.b   (a0 : X_Int × (List (Int))) : Option X_Ratio :=
  some ((a0.1.1, a0.2), a0.1.2)
def f_ref3_Ratio_Turned.f  (k : Nat) (a0 : X_Int × (List (Int))) : Option X_Ratio := f_ref3_Ratio_Turned.b   a0
theorem f_ref3_Ratio_Turned.r  (k : Nat) (a0 : X_Int × (List (Int))) : fn (f_ref3_Ratio_Turned.C ) k Tryd.f35 f_ref3_Ratio_Turned.A f_ref3_Ratio_Turned.R a0 = f_ref3_Ratio_Turned.b   a0 := by kernel_rfl
theorem f_ref3_Ratio_Turned.e  (k : Nat) (a0 : X_Int × (List (Int))) : fn (f_ref3_Ratio_Turned.C ) k Tryd.f35 f_ref3_Ratio_Turned.A f_ref3_Ratio_Turned.R a0 = f_ref3_Ratio_Turned.f  k a0 := by
  rw [f_ref3_Ratio_Turned.r]
  rfl
theorem f_ref3_Ratio_Turned.ty  : TyOk Tryd.prog (f_ref3_Ratio_Turned.C ) := tyOk_of (by kernel_rfl)
def f_ref3_Ratio_Turned.u (k : Nat) : f_ref3_Ratio_Turned.E := fun y => f_ref3_Ratio_Turned.f  k y
theorem f_ref3_Ratio_Turned.sound (k : Nat) : Sound Tryd.prog ⟨35, f_ref3_Ratio_Turned.A, f_ref3_Ratio_Turned.R, f_ref3_Ratio_Turned.u k⟩ := by
  have h := fn_sound (k := k) («as» := f_ref3_Ratio_Turned.A) (rs := f_ref3_Ratio_Turned.R) (f_ref3_Ratio_Turned.ty ) (fun E h => by cases h) mixed Tryd.func35 (by kernel_rfl) (by kernel_rfl)
  have e : fn (f_ref3_Ratio_Turned.C ) k Tryd.f35 f_ref3_Ratio_Turned.A f_ref3_Ratio_Turned.R = f_ref3_Ratio_Turned.u k := by
    funext y
    exact f_ref3_Ratio_Turned.e  k y
  rw [e] at h
  exact h
/-! ### (brindlewood/brindlewoodref3.Int).Floor: f68 -/
abbrev f_ref3_Int_Floor.A : List Sh := [(.d (.pair .bool (.sl 3 (.int .i64)))), (.d (.pair .bool (.sl 3 (.int .i64))))]
abbrev f_ref3_Int_Floor.R : List Sh := [(.d (.pair .bool (.sl 3 (.int .i64)))), (.d (.pair .bool (.sl 3 (.int .i64))))]
abbrev f_ref3_Int_Floor.E : Type := (X_Int × X_Int) → Option (X_Int × X_Int)
def f_ref3_Int_Floor.C (c100 : f_ref3_Divide.E) (c57 : f_ref3_Small.E) (c93 : f_ref3_Plus.E) (c92 : f_ref3_Minus.E) : Ctx := { ty := [(3, (.int .i64)), (4, .bool), (39, (.sl 3 (.int .i64))), (41, (.pair .bool (.sl 3 (.int .i64))))], nf := [(41, 2)], by_ := [(3, 8)], env := [⟨100, f_ref3_Divide.A, f_ref3_Divide.R, c100⟩, ⟨57, f_ref3_Small.A, f_ref3_Small.R, c57⟩, ⟨93, f_ref3_Plus.A, f_ref3_Plus.R, c93⟩, ⟨92, f_ref3_Minus.A, f_ref3_Minus.R, c92⟩], spec := [(100004, [.bx 2 600002 (.d (.pair .bool (.sl 3 (.int .i64)))), .bx 3 600003 (.d (.pair .bool (.sl 3 (.int .i64)))), .bx 4 600004 (.pair (.d .bool) (.o 3 (.int .i64))), .bx 5 600005 (.pair (.d .bool) (.o 3 (.int .i64))), .d 6 (.sl 3 (.int .i64)), .d 7 (.sl 3 (.int .i64))])] }
noncomputable def f_ref3_Int_Floor.code : Code := Func.code Tryd.f68
noncomputable def f_ref3_Int_Floor.fin (c100 : f_ref3_Divide.E) (c57 : f_ref3_Small.E) (c93 : f_ref3_Plus.E) (c92 : f_ref3_Minus.E) := kfin (f_ref3_Int_Floor.C c100 c57 c93 c92) Tryd.f68 f_ref3_Int_Floor.A f_ref3_Int_Floor.R
def f_ref3_Int_Floor.b (c100 : f_ref3_Divide.E) (c57 : f_ref3_Small.E) (c93 : f_ref3_Plus.E) (c92 : f_ref3_Minus.E) (r_g4 : X_Int → X_Int → X_Int → X_Int → (List (Int)) → (List (Int)) → Option (X_Int × X_Int)) (a0 : (Bool) × (List (Int))) (a1 : (Bool) × (List (Int))) : Option (X_Int × X_Int) :=
  (c100 (a0.2, a1.2)).bind fun y1 =>
    bif (a0.1 != a1.1) then
      bif (decide (((List.length y1.2) : Int) > (0 : Int))) then
        (c57 (1 : Int)).bind fun y2 =>
          (c93 (y1.1, y2)).bind fun y3 =>
            (c92 (a1.2, y1.2)).bind fun y4 =>
              r_g4 a0 a1 (false, ([] : List (Int))) (false, ([] : List (Int))) y3 y4
      else
        r_g4 a0 a1 (false, ([] : List (Int))) (false, ([] : List (Int))) y1.1 y1.2
    else
      r_g4 a0 a1 (false, ([] : List (Int))) (false, ([] : List (Int))) y1.1 y1.2
def f_ref3_Int_Floor.b_g4 (c100 : f_ref3_Divide.E) (c57 : f_ref3_Small.E) (c93 : f_ref3_Plus.E) (c92 : f_ref3_Minus.E)  (x2 : (Bool) × (List (Int))) (x3 : (Bool) × (List (Int))) (x4 : (Bool) × (List (Int))) (x5 : (Bool) × (List (Int))) (x6 : List (Int)) (x7 : List (Int)) : Option (X_Int × X_Int) :=
  some (((x2.1 != x3.1), x6), (x3.1, x7))
def f_ref3_Int_Floor.c (c100 : f_ref3_Divide.E) (c57 : f_ref3_Small.E) (c93 : f_ref3_Plus.E) (c92 : f_ref3_Minus.E) (r_g4 : X_Int → X_Int → X_Int → X_Int → (List (Int)) → (List (Int)) → Option (X_Int × X_Int)) (a0 : (Bool) × (List (Int))) (a1 : (Bool) × (List (Int))) : Option (X_Int × X_Int) :=
  (c100 (a0.2, a1.2)).bind fun y1 =>
    bif (a0.1 != a1.1) then
      bif (decide (((List.length y1.2) : Int) > (0 : Int))) then
        (c57 (1 : Int)).bind fun y2 =>
          (c93 (y1.1, y2)).bind fun y3 =>
            (c92 (a1.2, y1.2)).bind fun y4 =>
              r_g4 a0 a1 (false, ([] : List Int)) (false, ([] : List Int)) y3 y4
      else
        r_g4 a0 a1 (false, ([] : List Int)) (false, ([] : List Int)) y1.1 y1.2
    else
      r_g4 a0 a1 (false, ([] : List Int)) (false, ([] : List Int)) y1.1 y1.2
theorem f_ref3_Int_Floor.q (c100 : f_ref3_Divide.E) (c57 : f_ref3_Small.E) (c93 : f_ref3_Plus.E) (c92 : f_ref3_Minus.E) (r_g4 : X_Int → X_Int → X_Int → X_Int → (List (Int)) → (List (Int)) → Option (X_Int × X_Int)) (a0 : (Bool) × (List (Int))) (a1 : (Bool) × (List (Int))) : f_ref3_Int_Floor.b c100 c57 c93 c92 r_g4 a0 a1 = f_ref3_Int_Floor.c c100 c57 c93 c92 r_g4 a0 a1 := by
  simp only [f_ref3_Int_Floor.b, f_ref3_Int_Floor.c, List.take_length, take_one, Nat.zero_add, Int.toNat_natCast, Int.toNat_zero, List.drop_zero, List.append_eq, Nat.le_refl, Int.le_refl, true_and, and_true, zero_le_one, if_true, prod_eta, Int.natCast_zero]
def f_ref3_Int_Floor.g4 (c100 : f_ref3_Divide.E) (c57 : f_ref3_Small.E) (c93 : f_ref3_Plus.E) (c92 : f_ref3_Minus.E) (k : Nat)  (x2 : (Bool) × (List (Int))) (x3 : (Bool) × (List (Int))) (x4 : (Bool) × (List (Int))) (x5 : (Bool) × (List (Int))) (x6 : List (Int)) (x7 : List (Int)) : Option (X_Int × X_Int) := gate k (f_ref3_Int_Floor.b_g4 c100 c57 c93 c92  x2 x3 x4 x5 x6 x7)
def f_ref3_Int_Floor.f (c100 : f_ref3_Divide.E) (c57 : f_ref3_Small.E) (c93 : f_ref3_Plus.E) (c92 : f_ref3_Minus.E) (k : Nat) (a0 : (Bool) × (List (Int))) (a1 : (Bool) × (List (Int))) : Option (X_Int × X_Int) := f_ref3_Int_Floor.b c100 c57 c93 c92 (f_ref3_Int_Floor.g4 c100 c57 c93 c92 k) a0 a1
noncomputable def f_ref3_Int_Floor.M_g4 (c100 : f_ref3_Divide.E) (c57 : f_ref3_Small.E) (c93 : f_ref3_Plus.E) (c92 : f_ref3_Minus.E) (k : Nat)  (s : St) : Option (X_Int × X_Int) := atGate (f_ref3_Int_Floor.C c100 c57 c93 c92) k [1, 1, 1, 0] [] f_ref3_Int_Floor.code (f_ref3_Int_Floor.fin c100 c57 c93 c92) s
noncomputable def f_ref3_Int_Floor.fr_g4 (x2 : (Bool) × (List (Int))) (x3 : (Bool) × (List (Int))) (x4 : (Bool) × (List (Int))) (x5 : (Bool) × (List (Int))) (x6 : List (Int)) (x7 : List (Int)) : St := ⟨(((((((List.replicate 44 V.un).set 2 (V.bp 600002 0 [])).set 3 (V.bp 600003 0 [])).set 4 (V.bp 600004 0 [])).set 5 (V.bp 600005 0 [])).set 6 (V.dat (.sl 3 (.int .i64)) x6)).set 7 (V.dat (.sl 3 (.int .i64)) x7)), [⟨600005, 0, .box (V.st (V.dat .bool x5.1) (V.ref 11600080 0 0 (List.length x5.2)))⟩, ⟨11600080, 0, .arr 3 (.int .i64) x5.2⟩, ⟨600004, 0, .box (V.st (V.dat .bool x4.1) (V.ref 11600064 0 0 (List.length x4.2)))⟩, ⟨11600064, 0, .arr 3 (.int .i64) x4.2⟩, ⟨600003, 0, .box (V.dat (.pair .bool (.sl 3 (.int .i64))) x3)⟩, ⟨600002, 0, .box (V.dat (.pair .bool (.sl 3 (.int .i64))) x2)⟩]⟩
theorem f_ref3_Int_Floor.r (c100 : f_ref3_Divide.E) (c57 : f_ref3_Small.E) (c93 : f_ref3_Plus.E) (c92 : f_ref3_Minus.E) (k : Nat) (a0 : (Bool) × (List (Int))) (a1 : (Bool) × (List (Int))) : fn (f_ref3_Int_Floor.C c100 c57 c93 c92) k Tryd.f68 f_ref3_Int_Floor.A f_ref3_Int_Floor.R (a0, a1) = f_ref3_Int_Floor.b c100 c57 c93 c92 (fun x2 x3 x4 x5 x6 x7 => f_ref3_Int_Floor.M_g4 c100 c57 c93 c92 k   (f_ref3_Int_Floor.fr_g4 x2 x3 x4 x5 x6 x7)) a0 a1 := by kernel_rfl
theorem f_ref3_Int_Floor.r_g4 (c100 : f_ref3_Divide.E) (c57 : f_ref3_Small.E) (c93 : f_ref3_Plus.E) (c92 : f_ref3_Minus.E) (k : Nat)  (x2 : (Bool) × (List (Int))) (x3 : (Bool) × (List (Int))) (x4 : (Bool) × (List (Int))) (x5 : (Bool) × (List (Int))) (x6 : List (Int)) (x7 : List (Int)) : f_ref3_Int_Floor.M_g4 c100 c57 c93 c92 k  (f_ref3_Int_Floor.fr_g4 x2 x3 x4 x5 x6 x7) = gate k (f_ref3_Int_Floor.b_g4 c100 c57 c93 c92  x2 x3 x4 x5 x6 x7) := by kernel_rfl
theorem f_ref3_Int_Floor.e_g4 (c100 : f_ref3_Divide.E) (c57 : f_ref3_Small.E) (c93 : f_ref3_Plus.E) (c92 : f_ref3_Minus.E) (k : Nat)  (x2 : (Bool) × (List (Int))) (x3 : (Bool) × (List (Int))) (x4 : (Bool) × (List (Int))) (x5 : (Bool) × (List (Int))) (x6 : List (Int)) (x7 : List (Int)) : f_ref3_Int_Floor.M_g4 c100 c57 c93 c92 k  (f_ref3_Int_Floor.fr_g4 x2 x3 x4 x5 x6 x7) = f_ref3_Int_Floor.g4 c100 c57 c93 c92 k  x2 x3 x4 x5 x6 x7 := by
  rw [f_ref3_Int_Floor.r_g4]
  rfl
theorem f_ref3_Int_Floor.e (c100 : f_ref3_Divide.E) (c57 : f_ref3_Small.E) (c93 : f_ref3_Plus.E) (c92 : f_ref3_Minus.E) (k : Nat) (a0 : (Bool) × (List (Int))) (a1 : (Bool) × (List (Int))) : fn (f_ref3_Int_Floor.C c100 c57 c93 c92) k Tryd.f68 f_ref3_Int_Floor.A f_ref3_Int_Floor.R (a0, a1) = f_ref3_Int_Floor.f c100 c57 c93 c92 k a0 a1 := by
  rw [f_ref3_Int_Floor.r]
  simp only [f_ref3_Int_Floor.e_g4]
  rfl
theorem f_ref3_Int_Floor.ty (c100 : f_ref3_Divide.E) (c57 : f_ref3_Small.E) (c93 : f_ref3_Plus.E) (c92 : f_ref3_Minus.E) : TyOk Tryd.prog (f_ref3_Int_Floor.C c100 c57 c93 c92) := tyOk_of (by kernel_rfl)
def f_ref3_Int_Floor.u (k : Nat) : f_ref3_Int_Floor.E := fun y => f_ref3_Int_Floor.f (f_ref3_Divide.u k) (f_ref3_Small.u k) (f_ref3_Plus.u k) (f_ref3_Minus.u k) k y.1 y.2
theorem f_ref3_Int_Floor.sound (k : Nat) : Sound Tryd.prog ⟨68, f_ref3_Int_Floor.A, f_ref3_Int_Floor.R, f_ref3_Int_Floor.u k⟩ := by
  have h := fn_sound (k := k) («as» := f_ref3_Int_Floor.A) (rs := f_ref3_Int_Floor.R) (f_ref3_Int_Floor.ty (f_ref3_Divide.u k) (f_ref3_Small.u k) (f_ref3_Plus.u k) (f_ref3_Minus.u k)) (fun E h => by
    simp only [f_ref3_Int_Floor.C, List.mem_cons, List.not_mem_nil, or_false] at h
    rcases h with rfl | rfl | rfl | rfl
    · exact f_ref3_Divide.sound k
    · exact f_ref3_Small.sound k
    · exact f_ref3_Plus.sound k
    · exact f_ref3_Minus.sound k) mixed Tryd.func68 (by kernel_rfl) (by kernel_rfl)
  have e : fn (f_ref3_Int_Floor.C (f_ref3_Divide.u k) (f_ref3_Small.u k) (f_ref3_Plus.u k) (f_ref3_Minus.u k)) k Tryd.f68 f_ref3_Int_Floor.A f_ref3_Int_Floor.R = f_ref3_Int_Floor.u k := by
    funext y
    exact f_ref3_Int_Floor.e (f_ref3_Divide.u k) (f_ref3_Small.u k) (f_ref3_Plus.u k) (f_ref3_Minus.u k) k y.1 y.2
  rw [e] at h
  exact h
/-! ### (brindlewood/brindlewoodref3.Ratio).Floor: f37 -/
abbrev f_ref3_Ratio_Floor.A : List Sh := [(.d Y_Ratio)]
abbrev f_ref3_Ratio_Floor.R : List Sh := [(.d (.pair .bool (.sl 3 (.int .i64))))]
abbrev f_ref3_Ratio_Floor.E : Type := X_Ratio → Option X_Int
def f_ref3_Ratio_Floor.C (c68 : f_ref3_Int_Floor.E) : Ctx := { ty := [(39, (.sl 3 (.int .i64))), (41, (.pair .bool (.sl 3 (.int .i64)))), (43, Y_Ratio)], nf := [(41, 2), (43, 2)], by_ := [(3, 8)], env := [⟨68, f_ref3_Int_Floor.A, f_ref3_Int_Floor.R, c68⟩], spec := [] }
noncomputable def f_ref3_Ratio_Floor.code : Code := Func.code Tryd.f37
noncomputable def f_ref3_Ratio_Floor.fin (c68 : f_ref3_Int_Floor.E) := kfin (f_ref3_Ratio_Floor.C c68) Tryd.f37 f_ref3_Ratio_Floor.A f_ref3_Ratio_Floor.R
def f_ref3_Ratio_Floor.b (c68 : f_ref3_Int_Floor.E)  (a0 : X_Int × (List (Int))) : Option X_Int :=
  (c68 (a0.1, (false, a0.2))).bind fun y1 =>
    some y1.1
def f_ref3_Ratio_Floor.f (c68 : f_ref3_Int_Floor.E) (k : Nat) (a0 : X_Int × (List (Int))) : Option X_Int := f_ref3_Ratio_Floor.b c68  a0
theorem f_ref3_Ratio_Floor.r (c68 : f_ref3_Int_Floor.E) (k : Nat) (a0 : X_Int × (List (Int))) : fn (f_ref3_Ratio_Floor.C c68) k Tryd.f37 f_ref3_Ratio_Floor.A f_ref3_Ratio_Floor.R a0 = f_ref3_Ratio_Floor.b c68  a0 := by kernel_rfl
theorem f_ref3_Ratio_Floor.e (c68 : f_ref3_Int_Floor.E) (k : Nat) (a0 : X_Int × (List (Int))) : fn (f_ref3_Ratio_Floor.C c68) k Tryd.f37 f_ref3_Ratio_Floor.A f_ref3_Ratio_Floor.R a0 = f_ref3_Ratio_Floor.f c68 k a0 := by
  rw [f_ref3_Ratio_Floor.r]
  rfl
theorem f_ref3_Ratio_Floor.ty (c68 : f_ref3_Int_Floor.E) : TyOk Tryd.prog (f_ref3_Ratio_Floor.C c68) := tyOk_of (by kernel_rfl)
def f_ref3_Ratio_Floor.u (k : Nat) : f_ref3_Ratio_Floor.E := fun y => f_ref3_Ratio_Floor.f (f_ref3_Int_Floor.u k) k y
theorem f_ref3_Ratio_Floor.sound (k : Nat) : Sound Tryd.prog ⟨37, f_ref3_Ratio_Floor.A, f_ref3_Ratio_Floor.R, f_ref3_Ratio_Floor.u k⟩ := by
  have h := fn_sound (k := k) («as» := f_ref3_Ratio_Floor.A) (rs := f_ref3_Ratio_Floor.R) (f_ref3_Ratio_Floor.ty (f_ref3_Int_Floor.u k)) (fun E h => by
    simp only [f_ref3_Ratio_Floor.C, List.mem_cons, List.not_mem_nil, or_false] at h
    rcases h with rfl
    · exact f_ref3_Int_Floor.sound k) mixed Tryd.func37 (by kernel_rfl) (by kernel_rfl)
  have e : fn (f_ref3_Ratio_Floor.C (f_ref3_Int_Floor.u k)) k Tryd.f37 f_ref3_Ratio_Floor.A f_ref3_Ratio_Floor.R = f_ref3_Ratio_Floor.u k := by
    funext y
    exact f_ref3_Ratio_Floor.e (f_ref3_Int_Floor.u k) k y
  rw [e] at h
  exact h
/-! ### brindlewood/brindlewoodref7.I: f39 -/
abbrev f_ref7_I.A : List Sh := [(.d Y_Value)]
abbrev f_ref7_I.R : List Sh := [(.d (.pair .bool (.sl 3 (.int .i64))))]
abbrev f_ref7_I.E : Type := X_Value → Option X_Int
def f_ref7_I.C (c42 : f_ref3_IntOf.E) : Ctx := { ty := [(24, Y_Int), (26, Y_Value), (41, (.pair .bool (.sl 3 (.int .i64))))], nf := [(26, 5)], by_ := [], env := [⟨42, f_ref3_IntOf.A, f_ref3_IntOf.R, c42⟩], spec := [] }
noncomputable def f_ref7_I.code : Code := Func.code Tryd.f39
noncomputable def f_ref7_I.fin (c42 : f_ref3_IntOf.E) := kfin (f_ref7_I.C c42) Tryd.f39 f_ref7_I.A f_ref7_I.R
def f_ref7_I.b (c42 : f_ref3_IntOf.E)  (a0 : (Int) × (X_Int × (X_Int × X_errorAddressString))) : Option X_Int :=
  (c42 a0.2.1).bind fun y1 =>
    some y1
def f_ref7_I.f (c42 : f_ref3_IntOf.E) (k : Nat) (a0 : (Int) × (X_Int × (X_Int × X_errorAddressString))) : Option X_Int := f_ref7_I.b c42  a0
theorem f_ref7_I.r (c42 : f_ref3_IntOf.E) (k : Nat) (a0 : (Int) × (X_Int × (X_Int × X_errorAddressString))) : fn (f_ref7_I.C c42) k Tryd.f39 f_ref7_I.A f_ref7_I.R a0 = f_ref7_I.b c42  a0 := by kernel_rfl
theorem f_ref7_I.e (c42 : f_ref3_IntOf.E) (k : Nat) (a0 : (Int) × (X_Int × (X_Int × X_errorAddressString))) : fn (f_ref7_I.C c42) k Tryd.f39 f_ref7_I.A f_ref7_I.R a0 = f_ref7_I.f c42 k a0 := by
  rw [f_ref7_I.r]
  rfl
theorem f_ref7_I.ty (c42 : f_ref3_IntOf.E) : TyOk Tryd.prog (f_ref7_I.C c42) := tyOk_of (by kernel_rfl)
def f_ref7_I.u (k : Nat) : f_ref7_I.E := fun y => f_ref7_I.f (f_ref3_IntOf.u k) k y
theorem f_ref7_I.sound (k : Nat) : Sound Tryd.prog ⟨39, f_ref7_I.A, f_ref7_I.R, f_ref7_I.u k⟩ := by
  have h := fn_sound (k := k) («as» := f_ref7_I.A) (rs := f_ref7_I.R) (f_ref7_I.ty (f_ref3_IntOf.u k)) (fun E h => by
    simp only [f_ref7_I.C, List.mem_cons, List.not_mem_nil, or_false] at h
    rcases h with rfl
    · exact f_ref3_IntOf.sound k) mixed Tryd.func39 (by kernel_rfl) (by kernel_rfl)
  have e : fn (f_ref7_I.C (f_ref3_IntOf.u k)) k Tryd.f39 f_ref7_I.A f_ref7_I.R = f_ref7_I.u k := by
    funext y
    exact f_ref7_I.e (f_ref3_IntOf.u k) k y
  rw [e] at h
  exact h
/-! ### brindlewood/brindlewoodref7.Negative: f69 -/
abbrev f_ref7_Negative.A : List Sh := [(.d (.pair .bool (.sl 3 (.int .i64))))]
abbrev f_ref7_Negative.R : List Sh := [(.d .bool)]
abbrev f_ref7_Negative.E : Type := X_Int → Option (Bool)
def f_ref7_Negative.C  : Ctx := { ty := [(3, (.int .i64)), (4, .bool), (39, (.sl 3 (.int .i64))), (41, (.pair .bool (.sl 3 (.int .i64))))], nf := [(41, 2)], by_ := [(3, 8)], env := [], spec := [] }
noncomputable def f_ref7_Negative.code : Code := Func.code Tryd.f69
noncomputable def f_ref7_Negative.fin  := kfin (f_ref7_Negative.C ) Tryd.f69 f_ref7_Negative.A f_ref7_Negative.R
def f_ref7_Negative.b   (a0 : (Bool) × (List (Int))) : Option (Bool) :=
  bif a0.1 then
    some (decide (((List.length a0.2) : Int) > (0 : Int)))
  else
    some false
def f_ref7_Negative.f  (k : Nat) (a0 : (Bool) × (List (Int))) : Option (Bool) := f_ref7_Negative.b   a0
theorem f_ref7_Negative.r  (k : Nat) (a0 : (Bool) × (List (Int))) : fn (f_ref7_Negative.C ) k Tryd.f69 f_ref7_Negative.A f_ref7_Negative.R a0 = f_ref7_Negative.b   a0 := by kernel_rfl
theorem f_ref7_Negative.e  (k : Nat) (a0 : (Bool) × (List (Int))) : fn (f_ref7_Negative.C ) k Tryd.f69 f_ref7_Negative.A f_ref7_Negative.R a0 = f_ref7_Negative.f  k a0 := by
  rw [f_ref7_Negative.r]
  rfl
theorem f_ref7_Negative.ty  : TyOk Tryd.prog (f_ref7_Negative.C ) := tyOk_of (by kernel_rfl)
def f_ref7_Negative.u (k : Nat) : f_ref7_Negative.E := fun y => f_ref7_Negative.f  k y
theorem f_ref7_Negative.sound (k : Nat) : Sound Tryd.prog ⟨69, f_ref7_Negative.A, f_ref7_Negative.R, f_ref7_Negative.u k⟩ := by
  have h := fn_sound (k := k) («as» := f_ref7_Negative.A) (rs := f_ref7_Negative.R) (f_ref7_Negative.ty ) (fun E h => by cases h) mixed Tryd.func69 (by kernel_rfl) (by kernel_rfl)
  have e : fn (f_ref7_Negative.C ) k Tryd.f69 f_ref7_Negative.A f_ref7_Negative.R = f_ref7_Negative.u k := by
    funext y
    exact f_ref7_Negative.e  k y
  rw [e] at h
  exact h
/-! ### brindlewood/brindlewoodref3.Number: f70 -/
abbrev f_ref3_Number.A : List Sh := [(.d (.int .i64))]
abbrev f_ref3_Number.R : List Sh := [(.d (.pair .bool (.sl 3 (.int .i64))))]
abbrev f_ref3_Number.E : Type := (Int) → Option X_Int
def f_ref3_Number.C (c101 : f_ref3_Binary.E) : Ctx := { ty := [(3, (.int .i64)), (41, (.pair .bool (.sl 3 (.int .i64)))), (46, (.sl 4 .bool))], nf := [(41, 2)], by_ := [(4, 1)], env := [⟨101, f_ref3_Binary.A, f_ref3_Binary.R, c101⟩], spec := [(0, [.d 0 (.int .i64), .bx 2 600002 (.pair (.d .bool) (.o 3 (.int .i64))), .o 3 500003 4 .bool, .d 4 .bool])] }
noncomputable def f_ref3_Number.code : Code := Func.code Tryd.f70
noncomputable def f_ref3_Number.fin (c101 : f_ref3_Binary.E) := kfin (f_ref3_Number.C c101) Tryd.f70 f_ref3_Number.A f_ref3_Number.R
def f_ref3_Number.b (c101 : f_ref3_Binary.E) (r_l0 : (Int) → X_Int → (List (Bool)) → (Bool) → Option X_Int) (a0 : Int) : Option X_Int :=
  r_l0 a0 (false, ([] : List (Int))) ([] : List (Bool)) (decide (a0 < (0 : Int)))
def f_ref3_Number.b_l0 (c101 : f_ref3_Binary.E) (n_l0 : (Int) → X_Int → (List (Bool)) → (Bool) → Option X_Int) (x0 : Int) (x2 : (Bool) × (List (Int))) (x3 : List (Bool)) (x4 : Bool) : Option X_Int :=
  bif (x0 != (0 : Int)) then
    if (List.length x3) ≤ (List.length x3) ∧ ((List.length x3) + (List.length (List.take 1 ([((Int.tmod x0 (2 : Int)) != (0 : Int))] : List (Bool))))) * 1 ≤ LIM then
      n_l0 (IntKind.i64.wrap (Int.tdiv x0 (2 : Int))) (x2.1, (List.take (List.length x2.2) x2.2)) (List.take (List.length (List.append (List.take (List.length x3) x3) (List.take 1 ([((Int.tmod x0 (2 : Int)) != (0 : Int))] : List (Bool))))) (List.append (List.take (List.length x3) x3) (List.take 1 ([((Int.tmod x0 (2 : Int)) != (0 : Int))] : List (Bool))))) x4
    else none
  else
    (c101 (List.take (List.length x3) x3)).bind fun y1 =>
      some (x4, y1)
def f_ref3_Number.c (c101 : f_ref3_Binary.E) (r_l0 : (Int) → X_Int → (List (Bool)) → (Bool) → Option X_Int) (a0 : Int) : Option X_Int :=
  r_l0 a0 (false, ([] : List Int)) ([] : List Bool) (decide (a0 < (0 : Int)))
theorem f_ref3_Number.q (c101 : f_ref3_Binary.E) (r_l0 : (Int) → X_Int → (List (Bool)) → (Bool) → Option X_Int) (a0 : Int) : f_ref3_Number.b c101 r_l0 a0 = f_ref3_Number.c c101 r_l0 a0 := by
  simp only [f_ref3_Number.b, f_ref3_Number.c, List.take_length, take_one, Nat.zero_add, Int.toNat_natCast, Int.toNat_zero, List.drop_zero, List.append_eq, Nat.le_refl, Int.le_refl, true_and, and_true, zero_le_one, if_true, prod_eta, Int.natCast_zero]
def f_ref3_Number.c_l0 (c101 : f_ref3_Binary.E) (n_l0 : (Int) → X_Int → (List (Bool)) → (Bool) → Option X_Int) (x0 : Int) (x2 : (Bool) × (List (Int))) (x3 : List (Bool)) (x4 : Bool) : Option X_Int :=
  bif (x0 != (0 : Int)) then
    if ((List.length x3) + (List.length ([((Int.tmod x0 (2 : Int)) != (0 : Int))] : List Bool))) * 1 ≤ LIM then
      n_l0 (IntKind.i64.wrap (Int.tdiv x0 (2 : Int))) x2 (x3 ++ ([((Int.tmod x0 (2 : Int)) != (0 : Int))] : List Bool)) x4
    else none
  else
    (c101 x3).bind fun y1 =>
      some (x4, y1)
theorem f_ref3_Number.q_l0 (c101 : f_ref3_Binary.E) (n_l0 : (Int) → X_Int → (List (Bool)) → (Bool) → Option X_Int) (x0 : Int) (x2 : (Bool) × (List (Int))) (x3 : List (Bool)) (x4 : Bool) : f_ref3_Number.b_l0 c101 n_l0 x0 x2 x3 x4 = f_ref3_Number.c_l0 c101 n_l0 x0 x2 x3 x4 := by
  simp only [f_ref3_Number.b_l0, f_ref3_Number.c_l0, List.take_length, take_one, Nat.zero_add, Int.toNat_natCast, Int.toNat_zero, List.drop_zero, List.append_eq, Nat.le_refl, Int.le_refl, true_and, and_true, zero_le_one, if_true, prod_eta, Int.natCast_zero]
def f_ref3_Number.l0 (c101 : f_ref3_Binary.E) (k : Nat)  : Nat → (Int) → X_Int → (List (Bool)) → (Bool) → Option X_Int
  | 0, _, _, _, _ => none
  | n + 1, x0, x2, x3, x4 => f_ref3_Number.b_l0 c101 (fun x0 x2 x3 x4 => f_ref3_Number.l0 c101 k  n x0 x2 x3 x4) x0 x2 x3 x4
def f_ref3_Number.f (c101 : f_ref3_Binary.E) (k : Nat) (a0 : Int) : Option X_Int := f_ref3_Number.b c101 (f_ref3_Number.l0 c101 k k) a0
noncomputable def f_ref3_Number.M_l0 (c101 : f_ref3_Binary.E) (k n : Nat)  (s : St) : Option X_Int := atLoop (f_ref3_Number.C c101) k n [1, 1, 1, 0, 0] [] f_ref3_Number.code (f_ref3_Number.fin c101) s
noncomputable def f_ref3_Number.fr_l0 (x0 : Int) (x2 : (Bool) × (List (Int))) (x3 : List (Bool)) (x4 : Bool) : St := ⟨(((((List.replicate 21 V.un).set 0 (V.dat (.int .i64) x0)).set 2 (V.bp 600002 0 [])).set 3 (V.ref 500003 0 0 (List.length x3))).set 4 (V.dat .bool x4)), [⟨500003, 0, .arr 4 .bool x3⟩, ⟨600002, 0, .box (V.st (V.dat .bool x2.1) (V.ref 11600032 0 0 (List.length x2.2)))⟩, ⟨11600032, 0, .arr 3 (.int .i64) x2.2⟩]⟩
theorem f_ref3_Number.r (c101 : f_ref3_Binary.E) (k : Nat) (a0 : Int) : fn (f_ref3_Number.C c101) k Tryd.f70 f_ref3_Number.A f_ref3_Number.R a0 = f_ref3_Number.b c101 (fun x0 x2 x3 x4 => f_ref3_Number.M_l0 c101 k k  (f_ref3_Number.fr_l0 x0 x2 x3 x4)) a0 := by kernel_rfl
theorem f_ref3_Number.z_l0 (c101 : f_ref3_Binary.E) (k : Nat)  (s : St) : f_ref3_Number.M_l0 c101 k 0  s = none := by kernel_rfl
theorem f_ref3_Number.r_l0 (c101 : f_ref3_Binary.E) (k n : Nat)  (x0 : Int) (x2 : (Bool) × (List (Int))) (x3 : List (Bool)) (x4 : Bool) : f_ref3_Number.M_l0 c101 k (n + 1)  (f_ref3_Number.fr_l0 x0 x2 x3 x4) = f_ref3_Number.b_l0 c101 (fun x0 x2 x3 x4 => f_ref3_Number.M_l0 c101 k n  (f_ref3_Number.fr_l0 x0 x2 x3 x4)) x0 x2 x3 x4 := by kernel_rfl
theorem f_ref3_Number.e_l0 (c101 : f_ref3_Binary.E) (k n : Nat)  (x0 : Int) (x2 : (Bool) × (List (Int))) (x3 : List (Bool)) (x4 : Bool) : f_ref3_Number.M_l0 c101 k n  (f_ref3_Number.fr_l0 x0 x2 x3 x4) = f_ref3_Number.l0 c101 k  n x0 x2 x3 x4 := by
  induction n generalizing x0 x2 x3 x4 with
  | zero => rw [f_ref3_Number.z_l0]; rfl
  | succ n ih =>
    rw [f_ref3_Number.r_l0]
    simp only [ih]
    rfl
theorem f_ref3_Number.e (c101 : f_ref3_Binary.E) (k : Nat) (a0 : Int) : fn (f_ref3_Number.C c101) k Tryd.f70 f_ref3_Number.A f_ref3_Number.R a0 = f_ref3_Number.f c101 k a0 := by
  rw [f_ref3_Number.r]
  simp only [f_ref3_Number.e_l0]
  rfl
theorem f_ref3_Number.ty (c101 : f_ref3_Binary.E) : TyOk Tryd.prog (f_ref3_Number.C c101) := tyOk_of (by kernel_rfl)
def f_ref3_Number.u (k : Nat) : f_ref3_Number.E := fun y => f_ref3_Number.f (f_ref3_Binary.u k) k y
theorem f_ref3_Number.sound (k : Nat) : Sound Tryd.prog ⟨70, f_ref3_Number.A, f_ref3_Number.R, f_ref3_Number.u k⟩ := by
  have h := fn_sound (k := k) («as» := f_ref3_Number.A) (rs := f_ref3_Number.R) (f_ref3_Number.ty (f_ref3_Binary.u k)) (fun E h => by
    simp only [f_ref3_Number.C, List.mem_cons, List.not_mem_nil, or_false] at h
    rcases h with rfl
    · exact f_ref3_Binary.sound k) mixed Tryd.func70 (by kernel_rfl) (by kernel_rfl)
  have e : fn (f_ref3_Number.C (f_ref3_Binary.u k)) k Tryd.f70 f_ref3_Number.A f_ref3_Number.R = f_ref3_Number.u k := by
    funext y
    exact f_ref3_Number.e (f_ref3_Binary.u k) k y
  rw [e] at h
  exact h
/-! ### (brindlewood/brindlewoodref3.Int).Order: f44 -/
abbrev f_ref3_Int_Order.A : List Sh := [(.d (.pair .bool (.sl 3 (.int .i64)))), (.d (.pair .bool (.sl 3 (.int .i64))))]
abbrev f_ref3_Int_Order.R : List Sh := [(.d (.int .i64))]
abbrev f_ref3_Int_Order.E : Type := (X_Int × X_Int) → Option (Int)
def f_ref3_Int_Order.C (c54 : f_ref3_Compare.E) : Ctx := { ty := [(3, (.int .i64)), (4, .bool), (39, (.sl 3 (.int .i64))), (41, (.pair .bool (.sl 3 (.int .i64))))], nf := [(41, 2)], by_ := [(3, 8)], env := [⟨54, f_ref3_Compare.A, f_ref3_Compare.R, c54⟩], spec := [(100002, [.bx 2 600002 (.d (.pair .bool (.sl 3 (.int .i64)))), .bx 3 600003 (.d (.pair .bool (.sl 3 (.int .i64)))), .d 5 .bool, .d 6 .bool]), (100008, [.bx 2 600002 (.d (.pair .bool (.sl 3 (.int .i64)))), .bx 3 600003 (.d (.pair .bool (.sl 3 (.int .i64))))])] }
noncomputable def f_ref3_Int_Order.code : Code := Func.code Tryd.f44
noncomputable def f_ref3_Int_Order.fin (c54 : f_ref3_Compare.E) := kfin (f_ref3_Int_Order.C c54) Tryd.f44 f_ref3_Int_Order.A f_ref3_Int_Order.R
def f_ref3_Int_Order.b (c54 : f_ref3_Compare.E) (r_g2 : X_Int → X_Int → (Bool) → (Bool) → Option (Int)) (a0 : (Bool) × (List (Int))) (a1 : (Bool) × (List (Int))) : Option (Int) :=
  bif a0.1 then
    bif a1.1 then
      r_g2 a0 a1 (decide (((List.length a0.2) : Int) > (0 : Int))) (decide (((List.length a1.2) : Int) > (0 : Int)))
    else
      r_g2 a0 a1 (decide (((List.length a0.2) : Int) > (0 : Int))) false
  else
    bif a1.1 then
      r_g2 a0 a1 false (decide (((List.length a1.2) : Int) > (0 : Int)))
    else
      r_g2 a0 a1 false false
def f_ref3_Int_Order.b_g2 (c54 : f_ref3_Compare.E) (r_g8 : X_Int → X_Int → Option (Int)) (x2 : (Bool) × (List (Int))) (x3 : (Bool) × (List (Int))) (x5 : Bool) (x6 : Bool) : Option (Int) :=
  bif x5 then
    bif x6 then
      (c54 (x3.2, x2.2)).bind fun y1 =>
        some y1
    else
      bif x5 then
        some (-1 : Int)
      else
        bif x6 then
          some (1 : Int)
        else
          r_g8 x2 x3
  else
    bif x5 then
      some (-1 : Int)
    else
      bif x6 then
        some (1 : Int)
      else
        r_g8 x2 x3
def f_ref3_Int_Order.b_g8 (c54 : f_ref3_Compare.E)  (x2 : (Bool) × (List (Int))) (x3 : (Bool) × (List (Int))) : Option (Int) :=
  (c54 (x2.2, x3.2)).bind fun y2 =>
    some y2
def f_ref3_Int_Order.g8 (c54 : f_ref3_Compare.E) (k : Nat)  (x2 : (Bool) × (List (Int))) (x3 : (Bool) × (List (Int))) : Option (Int) := gate k (f_ref3_Int_Order.b_g8 c54  x2 x3)
def f_ref3_Int_Order.g2 (c54 : f_ref3_Compare.E) (k : Nat)  (x2 : (Bool) × (List (Int))) (x3 : (Bool) × (List (Int))) (x5 : Bool) (x6 : Bool) : Option (Int) := gate k (f_ref3_Int_Order.b_g2 c54 (f_ref3_Int_Order.g8 c54 k ) x2 x3 x5 x6)
def f_ref3_Int_Order.f (c54 : f_ref3_Compare.E) (k : Nat) (a0 : (Bool) × (List (Int))) (a1 : (Bool) × (List (Int))) : Option (Int) := f_ref3_Int_Order.b c54 (f_ref3_Int_Order.g2 c54 k) a0 a1
noncomputable def f_ref3_Int_Order.M_g2 (c54 : f_ref3_Compare.E) (k : Nat)  (s : St) : Option (Int) := atGate (f_ref3_Int_Order.C c54) k [1, 1, 0, 0, 0] [] f_ref3_Int_Order.code (f_ref3_Int_Order.fin c54) s
noncomputable def f_ref3_Int_Order.fr_g2 (x2 : (Bool) × (List (Int))) (x3 : (Bool) × (List (Int))) (x5 : Bool) (x6 : Bool) : St := ⟨(((((List.replicate 42 V.un).set 2 (V.bp 600002 0 [])).set 3 (V.bp 600003 0 [])).set 5 (V.dat .bool x5)).set 6 (V.dat .bool x6)), [⟨600003, 0, .box (V.dat (.pair .bool (.sl 3 (.int .i64))) x3)⟩, ⟨600002, 0, .box (V.dat (.pair .bool (.sl 3 (.int .i64))) x2)⟩]⟩
noncomputable def f_ref3_Int_Order.M_g8 (c54 : f_ref3_Compare.E) (k : Nat)  (s : St) : Option (Int) := atGate (f_ref3_Int_Order.C c54) k [1, 1, 1, 0] [] f_ref3_Int_Order.code (f_ref3_Int_Order.fin c54) s
noncomputable def f_ref3_Int_Order.fr_g8 (x2 : (Bool) × (List (Int))) (x3 : (Bool) × (List (Int))) : St := ⟨(((List.replicate 42 V.un).set 2 (V.bp 600002 0 [])).set 3 (V.bp 600003 0 [])), [⟨600003, 0, .box (V.dat (.pair .bool (.sl 3 (.int .i64))) x3)⟩, ⟨600002, 0, .box (V.dat (.pair .bool (.sl 3 (.int .i64))) x2)⟩]⟩
theorem f_ref3_Int_Order.r (c54 : f_ref3_Compare.E) (k : Nat) (a0 : (Bool) × (List (Int))) (a1 : (Bool) × (List (Int))) : fn (f_ref3_Int_Order.C c54) k Tryd.f44 f_ref3_Int_Order.A f_ref3_Int_Order.R (a0, a1) = f_ref3_Int_Order.b c54 (fun x2 x3 x5 x6 => f_ref3_Int_Order.M_g2 c54 k   (f_ref3_Int_Order.fr_g2 x2 x3 x5 x6)) a0 a1 := by kernel_rfl
theorem f_ref3_Int_Order.r_g2 (c54 : f_ref3_Compare.E) (k : Nat)  (x2 : (Bool) × (List (Int))) (x3 : (Bool) × (List (Int))) (x5 : Bool) (x6 : Bool) : f_ref3_Int_Order.M_g2 c54 k  (f_ref3_Int_Order.fr_g2 x2 x3 x5 x6) = gate k (f_ref3_Int_Order.b_g2 c54 (fun x2 x3 => f_ref3_Int_Order.M_g8 c54 k   (f_ref3_Int_Order.fr_g8 x2 x3)) x2 x3 x5 x6) := by kernel_rfl
theorem f_ref3_Int_Order.r_g8 (c54 : f_ref3_Compare.E) (k : Nat)  (x2 : (Bool) × (List (Int))) (x3 : (Bool) × (List (Int))) : f_ref3_Int_Order.M_g8 c54 k  (f_ref3_Int_Order.fr_g8 x2 x3) = gate k (f_ref3_Int_Order.b_g8 c54  x2 x3) := by kernel_rfl
theorem f_ref3_Int_Order.e_g8 (c54 : f_ref3_Compare.E) (k : Nat)  (x2 : (Bool) × (List (Int))) (x3 : (Bool) × (List (Int))) : f_ref3_Int_Order.M_g8 c54 k  (f_ref3_Int_Order.fr_g8 x2 x3) = f_ref3_Int_Order.g8 c54 k  x2 x3 := by
  rw [f_ref3_Int_Order.r_g8]
  rfl
theorem f_ref3_Int_Order.e_g2 (c54 : f_ref3_Compare.E) (k : Nat)  (x2 : (Bool) × (List (Int))) (x3 : (Bool) × (List (Int))) (x5 : Bool) (x6 : Bool) : f_ref3_Int_Order.M_g2 c54 k  (f_ref3_Int_Order.fr_g2 x2 x3 x5 x6) = f_ref3_Int_Order.g2 c54 k  x2 x3 x5 x6 := by
  rw [f_ref3_Int_Order.r_g2]
  simp only [f_ref3_Int_Order.e_g8]
  rfl
theorem f_ref3_Int_Order.e (c54 : f_ref3_Compare.E) (k : Nat) (a0 : (Bool) × (List (Int))) (a1 : (Bool) × (List (Int))) : fn (f_ref3_Int_Order.C c54) k Tryd.f44 f_ref3_Int_Order.A f_ref3_Int_Order.R (a0, a1) = f_ref3_Int_Order.f c54 k a0 a1 := by
  rw [f_ref3_Int_Order.r]
  simp only [f_ref3_Int_Order.e_g2]
  rfl
theorem f_ref3_Int_Order.ty (c54 : f_ref3_Compare.E) : TyOk Tryd.prog (f_ref3_Int_Order.C c54) := tyOk_of (by kernel_rfl)
def f_ref3_Int_Order.u (k : Nat) : f_ref3_Int_Order.E := fun y => f_ref3_Int_Order.f (f_ref3_Compare.u k) k y.1 y.2
theorem f_ref3_Int_Order.sound (k : Nat) : Sound Tryd.prog ⟨44, f_ref3_Int_Order.A, f_ref3_Int_Order.R, f_ref3_Int_Order.u k⟩ := by
  have h := fn_sound (k := k) («as» := f_ref3_Int_Order.A) (rs := f_ref3_Int_Order.R) (f_ref3_Int_Order.ty (f_ref3_Compare.u k)) (fun E h => by
    simp only [f_ref3_Int_Order.C, List.mem_cons, List.not_mem_nil, or_false] at h
    rcases h with rfl
    · exact f_ref3_Compare.sound k) mixed Tryd.func44 (by kernel_rfl) (by kernel_rfl)
  have e : fn (f_ref3_Int_Order.C (f_ref3_Compare.u k)) k Tryd.f44 f_ref3_Int_Order.A f_ref3_Int_Order.R = f_ref3_Int_Order.u k := by
    funext y
    exact f_ref3_Int_Order.e (f_ref3_Compare.u k) k y.1 y.2
  rw [e] at h
  exact h
/-! ### brindlewood/brindlewoodref7.Clamp: f71 -/
abbrev f_ref7_Clamp.A : List Sh := [(.d (.pair .bool (.sl 3 (.int .i64)))), (.d (.int .i64)), (.d (.int .i64))]
abbrev f_ref7_Clamp.R : List Sh := [(.d (.int .i64))]
abbrev f_ref7_Clamp.E : Type := (X_Int × X_acceptRange) → Option (Int)
def f_ref7_Clamp.C (c70 : f_ref3_Number.E) (c44 : f_ref3_Int_Order.E) : Ctx := { ty := [(3, (.int .i64)), (4, .bool), (39, (.sl 3 (.int .i64))), (41, (.pair .bool (.sl 3 (.int .i64))))], nf := [(41, 2)], by_ := [(3, 8)], env := [⟨70, f_ref3_Number.A, f_ref3_Number.R, c70⟩, ⟨44, f_ref3_Int_Order.A, f_ref3_Int_Order.R, c44⟩], spec := [(0, [.bx 3 600003 (.d (.pair .bool (.sl 3 (.int .i64)))), .d 7 (.int .i64), .d 8 (.int .i64)])] }
noncomputable def f_ref7_Clamp.code : Code := Func.code Tryd.f71
noncomputable def f_ref7_Clamp.fin (c70 : f_ref3_Number.E) (c44 : f_ref3_Int_Order.E) := kfin (f_ref7_Clamp.C c70 c44) Tryd.f71 f_ref7_Clamp.A f_ref7_Clamp.R
def f_ref7_Clamp.b (c70 : f_ref3_Number.E) (c44 : f_ref3_Int_Order.E) (r_l0 : X_Int → (Int) → (Int) → Option (Int)) (a0 : (Bool) × (List (Int))) (a1 : Int) (a2 : Int) : Option (Int) :=
  (c70 a1).bind fun y1 =>
    (c44 (a0, y1)).bind fun y2 =>
      bif (decide (y2 ≤ (0 : Int))) then
        some a1
      else
        (c70 a2).bind fun y3 =>
          (c44 (a0, y3)).bind fun y4 =>
            bif (decide (y4 ≥ (0 : Int))) then
              some a2
            else
              r_l0 a0 (0 : Int) (IntKind.i64.wrap (((List.length a0.2) : Int) - (1 : Int)))
def f_ref7_Clamp.b_l0 (c70 : f_ref3_Number.E) (c44 : f_ref3_Int_Order.E) (n_l0 : X_Int → (Int) → (Int) → Option (Int)) (x3 : (Bool) × (List (Int))) (x7 : Int) (x8 : Int) : Option (Int) :=
  bif (decide (x8 ≥ (0 : Int))) then
    if 0 ≤ x8 ∧ x8 < ((List.length x3.2) : Int) then
      n_l0 x3 (IntKind.i64.wrap ((IntKind.i64.wrap (x7 * (65536 : Int))) + (List.getD x3.2 (Int.toNat x8) (0 : Int)))) (IntKind.i64.wrap (x8 - (1 : Int)))
    else none
  else
    bif x3.1 then
      some (IntKind.i64.wrap (0 - x7))
    else
      some x7
def f_ref7_Clamp.l0 (c70 : f_ref3_Number.E) (c44 : f_ref3_Int_Order.E) (k : Nat)  : Nat → X_Int → (Int) → (Int) → Option (Int)
  | 0, _, _, _ => none
  | n + 1, x3, x7, x8 => f_ref7_Clamp.b_l0 c70 c44 (fun x3 x7 x8 => f_ref7_Clamp.l0 c70 c44 k  n x3 x7 x8) x3 x7 x8
def f_ref7_Clamp.f (c70 : f_ref3_Number.E) (c44 : f_ref3_Int_Order.E) (k : Nat) (a0 : (Bool) × (List (Int))) (a1 : Int) (a2 : Int) : Option (Int) := f_ref7_Clamp.b c70 c44 (f_ref7_Clamp.l0 c70 c44 k k) a0 a1 a2
noncomputable def f_ref7_Clamp.M_l0 (c70 : f_ref3_Number.E) (c44 : f_ref3_Int_Order.E) (k n : Nat)  (s : St) : Option (Int) := atLoop (f_ref7_Clamp.C c70 c44) k n [1, 1, 1, 1, 0, 1, 0] [] f_ref7_Clamp.code (f_ref7_Clamp.fin c70 c44) s
noncomputable def f_ref7_Clamp.fr_l0 (x3 : (Bool) × (List (Int))) (x7 : Int) (x8 : Int) : St := ⟨((((List.replicate 42 V.un).set 3 (V.bp 600003 0 [])).set 7 (V.dat (.int .i64) x7)).set 8 (V.dat (.int .i64) x8)), [⟨600003, 0, .box (V.dat (.pair .bool (.sl 3 (.int .i64))) x3)⟩]⟩
theorem f_ref7_Clamp.r (c70 : f_ref3_Number.E) (c44 : f_ref3_Int_Order.E) (k : Nat) (a0 : (Bool) × (List (Int))) (a1 : Int) (a2 : Int) : fn (f_ref7_Clamp.C c70 c44) k Tryd.f71 f_ref7_Clamp.A f_ref7_Clamp.R (a0, (a1, a2)) = f_ref7_Clamp.b c70 c44 (fun x3 x7 x8 => f_ref7_Clamp.M_l0 c70 c44 k k  (f_ref7_Clamp.fr_l0 x3 x7 x8)) a0 a1 a2 := by kernel_rfl
theorem f_ref7_Clamp.z_l0 (c70 : f_ref3_Number.E) (c44 : f_ref3_Int_Order.E) (k : Nat)  (s : St) : f_ref7_Clamp.M_l0 c70 c44 k 0  s = none := by kernel_rfl
theorem f_ref7_Clamp.r_l0 (c70 : f_ref3_Number.E) (c44 : f_ref3_Int_Order.E) (k n : Nat)  (x3 : (Bool) × (List (Int))) (x7 : Int) (x8 : Int) : f_ref7_Clamp.M_l0 c70 c44 k (n + 1)  (f_ref7_Clamp.fr_l0 x3 x7 x8) = f_ref7_Clamp.b_l0 c70 c44 (fun x3 x7 x8 => f_ref7_Clamp.M_l0 c70 c44 k n  (f_ref7_Clamp.fr_l0 x3 x7 x8)) x3 x7 x8 := by kernel_rfl
theorem f_ref7_Clamp.e_l0 (c70 : f_ref3_Number.E) (c44 : f_ref3_Int_Order.E) (k n : Nat)  (x3 : (Bool) × (List (Int))) (x7 : Int) (x8 : Int) : f_ref7_Clamp.M_l0 c70 c44 k n  (f_ref7_Clamp.fr_l0 x3 x7 x8) = f_ref7_Clamp.l0 c70 c44 k  n x3 x7 x8 := by
  induction n generalizing x3 x7 x8 with
  | zero => rw [f_ref7_Clamp.z_l0]; rfl
  | succ n ih =>
    rw [f_ref7_Clamp.r_l0]
    simp only [ih]
    rfl
theorem f_ref7_Clamp.e (c70 : f_ref3_Number.E) (c44 : f_ref3_Int_Order.E) (k : Nat) (a0 : (Bool) × (List (Int))) (a1 : Int) (a2 : Int) : fn (f_ref7_Clamp.C c70 c44) k Tryd.f71 f_ref7_Clamp.A f_ref7_Clamp.R (a0, (a1, a2)) = f_ref7_Clamp.f c70 c44 k a0 a1 a2 := by
  rw [f_ref7_Clamp.r]
  simp only [f_ref7_Clamp.e_l0]
  rfl
theorem f_ref7_Clamp.ty (c70 : f_ref3_Number.E) (c44 : f_ref3_Int_Order.E) : TyOk Tryd.prog (f_ref7_Clamp.C c70 c44) := tyOk_of (by kernel_rfl)
def f_ref7_Clamp.u (k : Nat) : f_ref7_Clamp.E := fun y => f_ref7_Clamp.f (f_ref3_Number.u k) (f_ref3_Int_Order.u k) k y.1 y.2.1 y.2.2
theorem f_ref7_Clamp.sound (k : Nat) : Sound Tryd.prog ⟨71, f_ref7_Clamp.A, f_ref7_Clamp.R, f_ref7_Clamp.u k⟩ := by
  have h := fn_sound (k := k) («as» := f_ref7_Clamp.A) (rs := f_ref7_Clamp.R) (f_ref7_Clamp.ty (f_ref3_Number.u k) (f_ref3_Int_Order.u k)) (fun E h => by
    simp only [f_ref7_Clamp.C, List.mem_cons, List.not_mem_nil, or_false] at h
    rcases h with rfl | rfl
    · exact f_ref3_Number.sound k
    · exact f_ref3_Int_Order.sound k) mixed Tryd.func71 (by kernel_rfl) (by kernel_rfl)
  have e : fn (f_ref7_Clamp.C (f_ref3_Number.u k) (f_ref3_Int_Order.u k)) k Tryd.f71 f_ref7_Clamp.A f_ref7_Clamp.R = f_ref7_Clamp.u k := by
    funext y
    exact f_ref7_Clamp.e (f_ref3_Number.u k) (f_ref3_Int_Order.u k) k y.1 y.2.1 y.2.2
  rw [e] at h
  exact h
/-! ### (brindlewood/brindlewoodref3.Int).Raised: f72 -/
abbrev f_ref3_Int_Raised.A : List Sh := [(.d (.pair .bool (.sl 3 (.int .i64)))), (.d (.int .i64))]
abbrev f_ref3_Int_Raised.R : List Sh := [(.d (.pair .bool (.sl 3 (.int .i64)))), (.d .bool)]
abbrev f_ref3_Int_Raised.E : Type := (X_Int × (Int)) → Option (X_Int × (Bool))
def f_ref3_Int_Raised.C (c57 : f_ref3_Small.E) (c54 : f_ref3_Compare.E) (c43 : f_ref3_Int_Times.E) (c102 : f_ref3_Int_Fits.E) : Ctx := { ty := [(3, (.int .i64)), (4, .bool), (39, (.sl 3 (.int .i64))), (41, (.pair .bool (.sl 3 (.int .i64))))], nf := [(41, 2)], by_ := [(3, 8)], env := [⟨57, f_ref3_Small.A, f_ref3_Small.R, c57⟩, ⟨54, f_ref3_Compare.A, f_ref3_Compare.R, c54⟩, ⟨43, f_ref3_Int_Times.A, f_ref3_Int_Times.R, c43⟩, ⟨102, f_ref3_Int_Fits.A, f_ref3_Int_Fits.R, c102⟩], spec := [(100004, [.d 1 (.int .i64), .bx 2 600002 (.d (.pair .bool (.sl 3 (.int .i64)))), .bx 4 600004 (.pair (.d .bool) (.o 3 (.int .i64))), .bx 6 600006 (.d (.pair .bool (.sl 3 (.int .i64))))]), (0, [.d 1 (.int .i64), .bx 2 600002 (.d (.pair .bool (.sl 3 (.int .i64)))), .bx 4 600004 (.pair (.d .bool) (.o 3 (.int .i64))), .bx 6 600006 (.d (.pair .bool (.sl 3 (.int .i64))))])] }
noncomputable def f_ref3_Int_Raised.code : Code := Func.code Tryd.f72
noncomputable def f_ref3_Int_Raised.fin (c57 : f_ref3_Small.E) (c54 : f_ref3_Compare.E) (c43 : f_ref3_Int_Times.E) (c102 : f_ref3_Int_Fits.E) := kfin (f_ref3_Int_Raised.C c57 c54 c43 c102) Tryd.f72 f_ref3_Int_Raised.A f_ref3_Int_Raised.R
def f_ref3_Int_Raised.b (c57 : f_ref3_Small.E) (c54 : f_ref3_Compare.E) (c43 : f_ref3_Int_Times.E) (c102 : f_ref3_Int_Fits.E) (r_g4 : (Int) → X_Int → X_Int → X_Int → Option (X_Int × (Bool))) (a0 : (Bool) × (List (Int))) (a1 : Int) : Option (X_Int × (Bool)) :=
  bif (((List.length a0.2) : Int) == (0 : Int)) then
    bif (decide (a1 > (0 : Int))) then
      some ((false, ([] : List (Int))), true)
    else
      (c57 (1 : Int)).bind fun y1 =>
        r_g4 a1 a0 (false, ([] : List (Int))) (false, y1)
  else
    (c57 (1 : Int)).bind fun y8 =>
      r_g4 a1 a0 (false, ([] : List (Int))) (false, y8)
def f_ref3_Int_Raised.b_g4 (c57 : f_ref3_Small.E) (c54 : f_ref3_Compare.E) (c43 : f_ref3_Int_Times.E) (c102 : f_ref3_Int_Fits.E) (r_l0 : (Int) → X_Int → X_Int → X_Int → Option (X_Int × (Bool))) (x1 : Int) (x2 : (Bool) × (List (Int))) (x4 : (Bool) × (List (Int))) (x6 : (Bool) × (List (Int))) : Option (X_Int × (Bool)) :=
  (c57 (1 : Int)).bind fun y2 =>
    (c54 (x2.2, y2)).bind fun y3 =>
      bif (y3 == (0 : Int)) then
        bif x2.1 then
          (c57 (1 : Int)).bind fun y4 =>
            some ((((Int.tmod x1 (2 : Int)) == (1 : Int)), y4), true)
        else
          (c57 (1 : Int)).bind fun y5 =>
            some ((false, y5), true)
      else
        r_l0 x1 x2 (x4.1, (List.take (List.length x4.2) x4.2)) x6
def f_ref3_Int_Raised.b_l0 (c57 : f_ref3_Small.E) (c54 : f_ref3_Compare.E) (c43 : f_ref3_Int_Times.E) (c102 : f_ref3_Int_Fits.E) (n_l0 : (Int) → X_Int → X_Int → X_Int → Option (X_Int × (Bool))) (x1 : Int) (x2 : (Bool) × (List (Int))) (x4 : (Bool) × (List (Int))) (x6 : (Bool) × (List (Int))) : Option (X_Int × (Bool)) :=
  bif (decide (x1 > (0 : Int))) then
    (c43 (x6, x2)).bind fun y6 =>
      (c102 (y6, (128 : Int))).bind fun y7 =>
        bif (!y7) then
          some ((false, ([] : List (Int))), false)
        else
          n_l0 (IntKind.i64.wrap (x1 - (1 : Int))) x2 (x4.1, (List.take (List.length x4.2) x4.2)) y6
  else
    some (x6, true)
def f_ref3_Int_Raised.c (c57 : f_ref3_Small.E) (c54 : f_ref3_Compare.E) (c43 : f_ref3_Int_Times.E) (c102 : f_ref3_Int_Fits.E) (r_g4 : (Int) → X_Int → X_Int → X_Int → Option (X_Int × (Bool))) (a0 : (Bool) × (List (Int))) (a1 : Int) : Option (X_Int × (Bool)) :=
  bif (((List.length a0.2) : Int) == (0 : Int)) then
    bif (decide (a1 > (0 : Int))) then
      some ((false, ([] : List Int)), true)
    else
      (c57 (1 : Int)).bind fun y1 =>
        r_g4 a1 a0 (false, ([] : List Int)) (false, y1)
  else
    (c57 (1 : Int)).bind fun y8 =>
      r_g4 a1 a0 (false, ([] : List Int)) (false, y8)
theorem f_ref3_Int_Raised.q (c57 : f_ref3_Small.E) (c54 : f_ref3_Compare.E) (c43 : f_ref3_Int_Times.E) (c102 : f_ref3_Int_Fits.E) (r_g4 : (Int) → X_Int → X_Int → X_Int → Option (X_Int × (Bool))) (a0 : (Bool) × (List (Int))) (a1 : Int) : f_ref3_Int_Raised.b c57 c54 c43 c102 r_g4 a0 a1 = f_ref3_Int_Raised.c c57 c54 c43 c102 r_g4 a0 a1 := by
  simp only [f_ref3_Int_Raised.b, f_ref3_Int_Raised.c, List.take_length, take_one, Nat.zero_add, Int.toNat_natCast, Int.toNat_zero, List.drop_zero, List.append_eq, Nat.le_refl, Int.le_refl, true_and, and_true, zero_le_one, if_true, prod_eta, Int.natCast_zero]
def f_ref3_Int_Raised.c_g4 (c57 : f_ref3_Small.E) (c54 : f_ref3_Compare.E) (c43 : f_ref3_Int_Times.E) (c102 : f_ref3_Int_Fits.E) (r_l0 : (Int) → X_Int → X_Int → X_Int → Option (X_Int × (Bool))) (x1 : Int) (x2 : (Bool) × (List (Int))) (x4 : (Bool) × (List (Int))) (x6 : (Bool) × (List (Int))) : Option (X_Int × (Bool)) :=
  (c57 (1 : Int)).bind fun y2 =>
    (c54 (x2.2, y2)).bind fun y3 =>
      bif (y3 == (0 : Int)) then
        bif x2.1 then
          (c57 (1 : Int)).bind fun y4 =>
            some ((((Int.tmod x1 (2 : Int)) == (1 : Int)), y4), true)
        else
          (c57 (1 : Int)).bind fun y5 =>
            some ((false, y5), true)
      else
        r_l0 x1 x2 x4 x6
theorem f_ref3_Int_Raised.q_g4 (c57 : f_ref3_Small.E) (c54 : f_ref3_Compare.E) (c43 : f_ref3_Int_Times.E) (c102 : f_ref3_Int_Fits.E) (r_l0 : (Int) → X_Int → X_Int → X_Int → Option (X_Int × (Bool))) (x1 : Int) (x2 : (Bool) × (List (Int))) (x4 : (Bool) × (List (Int))) (x6 : (Bool) × (List (Int))) : f_ref3_Int_Raised.b_g4 c57 c54 c43 c102 r_l0 x1 x2 x4 x6 = f_ref3_Int_Raised.c_g4 c57 c54 c43 c102 r_l0 x1 x2 x4 x6 := by
  simp only [f_ref3_Int_Raised.b_g4, f_ref3_Int_Raised.c_g4, List.take_length, take_one, Nat.zero_add, Int.toNat_natCast, Int.toNat_zero, List.drop_zero, List.append_eq, Nat.le_refl, Int.le_refl, true_and, and_true, zero_le_one, if_true, prod_eta, Int.natCast_zero]
def f_ref3_Int_Raised.c_l0 (c57 : f_ref3_Small.E) (c54 : f_ref3_Compare.E) (c43 : f_ref3_Int_Times.E) (c102 : f_ref3_Int_Fits.E) (n_l0 : (Int) → X_Int → X_Int → X_Int → Option (X_Int × (Bool))) (x1 : Int) (x2 : (Bool) × (List (Int))) (x4 : (Bool) × (List (Int))) (x6 : (Bool) × (List (Int))) : Option (X_Int × (Bool)) :=
  bif (decide (x1 > (0 : Int))) then
    (c43 (x6, x2)).bind fun y6 =>
      (c102 (y6, (128 : Int))).bind fun y7 =>
        bif !y7 then
          some ((false, ([] : List Int)), false)
        else
          n_l0 (IntKind.i64.wrap (x1 - (1 : Int))) x2 x4 y6
  else
    some (x6, true)
theorem f_ref3_Int_Raised.q_l0 (c57 : f_ref3_Small.E) (c54 : f_ref3_Compare.E) (c43 : f_ref3_Int_Times.E) (c102 : f_ref3_Int_Fits.E) (n_l0 : (Int) → X_Int → X_Int → X_Int → Option (X_Int × (Bool))) (x1 : Int) (x2 : (Bool) × (List (Int))) (x4 : (Bool) × (List (Int))) (x6 : (Bool) × (List (Int))) : f_ref3_Int_Raised.b_l0 c57 c54 c43 c102 n_l0 x1 x2 x4 x6 = f_ref3_Int_Raised.c_l0 c57 c54 c43 c102 n_l0 x1 x2 x4 x6 := by
  simp only [f_ref3_Int_Raised.b_l0, f_ref3_Int_Raised.c_l0, List.take_length, take_one, Nat.zero_add, Int.toNat_natCast, Int.toNat_zero, List.drop_zero, List.append_eq, Nat.le_refl, Int.le_refl, true_and, and_true, zero_le_one, if_true, prod_eta, Int.natCast_zero]
def f_ref3_Int_Raised.l0 (c57 : f_ref3_Small.E) (c54 : f_ref3_Compare.E) (c43 : f_ref3_Int_Times.E) (c102 : f_ref3_Int_Fits.E) (k : Nat)  : Nat → (Int) → X_Int → X_Int → X_Int → Option (X_Int × (Bool))
  | 0, _, _, _, _ => none
  | n + 1, x1, x2, x4, x6 => f_ref3_Int_Raised.b_l0 c57 c54 c43 c102 (fun x1 x2 x4 x6 => f_ref3_Int_Raised.l0 c57 c54 c43 c102 k  n x1 x2 x4 x6) x1 x2 x4 x6
def f_ref3_Int_Raised.g4 (c57 : f_ref3_Small.E) (c54 : f_ref3_Compare.E) (c43 : f_ref3_Int_Times.E) (c102 : f_ref3_Int_Fits.E) (k : Nat)  (x1 : Int) (x2 : (Bool) × (List (Int))) (x4 : (Bool) × (List (Int))) (x6 : (Bool) × (List (Int))) : Option (X_Int × (Bool)) := gate k (f_ref3_Int_Raised.b_g4 c57 c54 c43 c102 (f_ref3_Int_Raised.l0 c57 c54 c43 c102 k  k) x1 x2 x4 x6)
def f_ref3_Int_Raised.f (c57 : f_ref3_Small.E) (c54 : f_ref3_Compare.E) (c43 : f_ref3_Int_Times.E) (c102 : f_ref3_Int_Fits.E) (k : Nat) (a0 : (Bool) × (List (Int))) (a1 : Int) : Option (X_Int × (Bool)) := f_ref3_Int_Raised.b c57 c54 c43 c102 (f_ref3_Int_Raised.g4 c57 c54 c43 c102 k) a0 a1
noncomputable def f_ref3_Int_Raised.M_g4 (c57 : f_ref3_Small.E) (c54 : f_ref3_Compare.E) (c43 : f_ref3_Int_Times.E) (c102 : f_ref3_Int_Fits.E) (k : Nat)  (s : St) : Option (X_Int × (Bool)) := atGate (f_ref3_Int_Raised.C c57 c54 c43 c102) k [1, 1, 1, 0, 0] [] f_ref3_Int_Raised.code (f_ref3_Int_Raised.fin c57 c54 c43 c102) s
noncomputable def f_ref3_Int_Raised.fr_g4 (x1 : Int) (x2 : (Bool) × (List (Int))) (x4 : (Bool) × (List (Int))) (x6 : (Bool) × (List (Int))) : St := ⟨(((((List.replicate 44 V.un).set 1 (V.dat (.int .i64) x1)).set 2 (V.bp 600002 0 [])).set 4 (V.bp 600004 0 [])).set 6 (V.bp 600006 0 [])), [⟨600006, 0, .box (V.dat (.pair .bool (.sl 3 (.int .i64))) x6)⟩, ⟨600004, 0, .box (V.st (V.dat .bool x4.1) (V.ref 11600064 0 0 (List.length x4.2)))⟩, ⟨11600064, 0, .arr 3 (.int .i64) x4.2⟩, ⟨600002, 0, .box (V.dat (.pair .bool (.sl 3 (.int .i64))) x2)⟩]⟩
noncomputable def f_ref3_Int_Raised.M_l0 (c57 : f_ref3_Small.E) (c54 : f_ref3_Compare.E) (c43 : f_ref3_Int_Times.E) (c102 : f_ref3_Int_Fits.E) (k n : Nat)  (s : St) : Option (X_Int × (Bool)) := atLoop (f_ref3_Int_Raised.C c57 c54 c43 c102) k n [1, 1, 1, 1, 0, 0] [] f_ref3_Int_Raised.code (f_ref3_Int_Raised.fin c57 c54 c43 c102) s
noncomputable def f_ref3_Int_Raised.fr_l0 (x1 : Int) (x2 : (Bool) × (List (Int))) (x4 : (Bool) × (List (Int))) (x6 : (Bool) × (List (Int))) : St := ⟨(((((List.replicate 44 V.un).set 1 (V.dat (.int .i64) x1)).set 2 (V.bp 600002 0 [])).set 4 (V.bp 600004 0 [])).set 6 (V.bp 600006 0 [])), [⟨600006, 0, .box (V.dat (.pair .bool (.sl 3 (.int .i64))) x6)⟩, ⟨600004, 0, .box (V.st (V.dat .bool x4.1) (V.ref 11600064 0 0 (List.length x4.2)))⟩, ⟨11600064, 0, .arr 3 (.int .i64) x4.2⟩, ⟨600002, 0, .box (V.dat (.pair .bool (.sl 3 (.int .i64))) x2)⟩]⟩
theorem f_ref3_Int_Raised.r (c57 : f_ref3_Small.E) (c54 : f_ref3_Compare.E) (c43 : f_ref3_Int_Times.E) (c102 : f_ref3_Int_Fits.E) (k : Nat) (a0 : (Bool) × (List (Int))) (a1 : Int) : fn (f_ref3_Int_Raised.C c57 c54 c43 c102) k Tryd.f72 f_ref3_Int_Raised.A f_ref3_Int_Raised.R (a0, a1) = f_ref3_Int_Raised.b c57 c54 c43 c102 (fun x1 x2 x4 x6 => f_ref3_Int_Raised.M_g4 c57 c54 c43 c102 k   (f_ref3_Int_Raised.fr_g4 x1 x2 x4 x6)) a0 a1 := by kernel_rfl
theorem f_ref3_Int_Raised.r_g4 (c57 : f_ref3_Small.E) (c54 : f_ref3_Compare.E) (c43 : f_ref3_Int_Times.E) (c102 : f_ref3_Int_Fits.E) (k : Nat)  (x1 : Int) (x2 : (Bool) × (List (Int))) (x4 : (Bool) × (List (Int))) (x6 : (Bool) × (List (Int))) : f_ref3_Int_Raised.M_g4 c57 c54 c43 c102 k  (f_ref3_Int_Raised.fr_g4 x1 x2 x4 x6) = gate k (f_ref3_Int_Raised.b_g4 c57 c54 c43 c102 (fun x1 x2 x4 x6 => f_ref3_Int_Raised.M_l0 c57 c54 c43 c102 k k  (f_ref3_Int_Raised.fr_l0 x1 x2 x4 x6)) x1 x2 x4 x6) := by kernel_rfl
theorem f_ref3_Int_Raised.z_l0 (c57 : f_ref3_Small.E) (c54 : f_ref3_Compare.E) (c43 : f_ref3_Int_Times.E) (c102 : f_ref3_Int_Fits.E) (k : Nat)  (s : St) : f_ref3_Int_Raised.M_l0 c57 c54 c43 c102 k 0  s = none := by kernel_rfl
theorem f_ref3_Int_Raised.r_l0 (c57 : f_ref3_Small.E) (c54 : f_ref3_Compare.E) (c43 : f_ref3_Int_Times.E) (c102 : f_ref3_Int_Fits.E) (k n : Nat)  (x1 : Int) (x2 : (Bool) × (List (Int))) (x4 : (Bool) × (List (Int))) (x6 : (Bool) × (List (Int))) : f_ref3_Int_Raised.M_l0 c57 c54 c43 c102 k (n + 1)  (f_ref3_Int_Raised.fr_l0 x1 x2 x4 x6) = f_ref3_Int_Raised.b_l0 c57 c54 c43 c102 (fun x1 x2 x4 x6 => f_ref3_Int_Raised.M_l0 c57 c54 c43 c102 k n  (f_ref3_Int_Raised.fr_l0 x1 x2 x4 x6)) x1 x2 x4 x6 := by kernel_rfl
theorem f_ref3_Int_Raised.e_l0 (c57 : f_ref3_Small.E) (c54 : f_ref3_Compare.E) (c43 : f_ref3_Int_Times.E) (c102 : f_ref3_Int_Fits.E) (k n : Nat)  (x1 : Int) (x2 : (Bool) × (List (Int))) (x4 : (Bool) × (List (Int))) (x6 : (Bool) × (List (Int))) : f_ref3_Int_Raised.M_l0 c57 c54 c43 c102 k n  (f_ref3_Int_Raised.fr_l0 x1 x2 x4 x6) = f_ref3_Int_Raised.l0 c57 c54 c43 c102 k  n x1 x2 x4 x6 := by
  induction n generalizing x1 x2 x4 x6 with
  | zero => rw [f_ref3_Int_Raised.z_l0]; rfl
  | succ n ih =>
    rw [f_ref3_Int_Raised.r_l0]
    simp only [ih]
    rfl
theorem f_ref3_Int_Raised.e_g4 (c57 : f_ref3_Small.E) (c54 : f_ref3_Compare.E) (c43 : f_ref3_Int_Times.E) (c102 : f_ref3_Int_Fits.E) (k : Nat)  (x1 : Int) (x2 : (Bool) × (List (Int))) (x4 : (Bool) × (List (Int))) (x6 : (Bool) × (List (Int))) : f_ref3_Int_Raised.M_g4 c57 c54 c43 c102 k  (f_ref3_Int_Raised.fr_g4 x1 x2 x4 x6) = f_ref3_Int_Raised.g4 c57 c54 c43 c102 k  x1 x2 x4 x6 := by
  rw [f_ref3_Int_Raised.r_g4]
  simp only [f_ref3_Int_Raised.e_l0]
  rfl
theorem f_ref3_Int_Raised.e (c57 : f_ref3_Small.E) (c54 : f_ref3_Compare.E) (c43 : f_ref3_Int_Times.E) (c102 : f_ref3_Int_Fits.E) (k : Nat) (a0 : (Bool) × (List (Int))) (a1 : Int) : fn (f_ref3_Int_Raised.C c57 c54 c43 c102) k Tryd.f72 f_ref3_Int_Raised.A f_ref3_Int_Raised.R (a0, a1) = f_ref3_Int_Raised.f c57 c54 c43 c102 k a0 a1 := by
  rw [f_ref3_Int_Raised.r]
  simp only [f_ref3_Int_Raised.e_g4]
  rfl
theorem f_ref3_Int_Raised.ty (c57 : f_ref3_Small.E) (c54 : f_ref3_Compare.E) (c43 : f_ref3_Int_Times.E) (c102 : f_ref3_Int_Fits.E) : TyOk Tryd.prog (f_ref3_Int_Raised.C c57 c54 c43 c102) := tyOk_of (by kernel_rfl)
def f_ref3_Int_Raised.u (k : Nat) : f_ref3_Int_Raised.E := fun y => f_ref3_Int_Raised.f (f_ref3_Small.u k) (f_ref3_Compare.u k) (f_ref3_Int_Times.u k) (f_ref3_Int_Fits.u k) k y.1 y.2
theorem f_ref3_Int_Raised.sound (k : Nat) : Sound Tryd.prog ⟨72, f_ref3_Int_Raised.A, f_ref3_Int_Raised.R, f_ref3_Int_Raised.u k⟩ := by
  have h := fn_sound (k := k) («as» := f_ref3_Int_Raised.A) (rs := f_ref3_Int_Raised.R) (f_ref3_Int_Raised.ty (f_ref3_Small.u k) (f_ref3_Compare.u k) (f_ref3_Int_Times.u k) (f_ref3_Int_Fits.u k)) (fun E h => by
    simp only [f_ref3_Int_Raised.C, List.mem_cons, List.not_mem_nil, or_false] at h
    rcases h with rfl | rfl | rfl | rfl
    · exact f_ref3_Small.sound k
    · exact f_ref3_Compare.sound k
    · exact f_ref3_Int_Times.sound k
    · exact f_ref3_Int_Fits.sound k) mixed Tryd.func72 (by kernel_rfl) (by kernel_rfl)
  have e : fn (f_ref3_Int_Raised.C (f_ref3_Small.u k) (f_ref3_Compare.u k) (f_ref3_Int_Times.u k) (f_ref3_Int_Fits.u k)) k Tryd.f72 f_ref3_Int_Raised.A f_ref3_Int_Raised.R = f_ref3_Int_Raised.u k := by
    funext y
    exact f_ref3_Int_Raised.e (f_ref3_Small.u k) (f_ref3_Compare.u k) (f_ref3_Int_Times.u k) (f_ref3_Int_Fits.u k) k y.1 y.2
  rw [e] at h
  exact h
/-! ### brindlewood/brindlewoodref7.power: f38 -/
abbrev f_ref7_power.A : List Sh := [(.d Y_Ratio), (.d (.pair .bool (.sl 3 (.int .i64))))]
abbrev f_ref7_power.R : List Sh := [(.d Y_Step)]
abbrev f_ref7_power.E : Type := (X_Ratio × X_Int) → Option X_Step
def f_ref7_power.C (c69 : f_ref7_Negative.E) (c33 : f_ref7_Zero.E) (c34 : f_ref7_Raise.E) (c70 : f_ref3_Number.E) (c44 : f_ref3_Int_Order.E) (c62 : f_ref7_TooLarge.E) (c71 : f_ref7_Clamp.E) (c35 : f_ref3_Ratio_Turned.E) (c72 : f_ref3_Int_Raised.E) (c29 : f_ref7_number.E) : Ctx := { ty := [(3, (.int .i64)), (33, Y_Step), (39, (.sl 3 (.int .i64))), (41, (.pair .bool (.sl 3 (.int .i64)))), (43, Y_Ratio)], nf := [(41, 2), (43, 2)], by_ := [(3, 8)], env := [⟨69, f_ref7_Negative.A, f_ref7_Negative.R, c69⟩, ⟨33, f_ref7_Zero.A, f_ref7_Zero.R, c33⟩, ⟨34, f_ref7_Raise.A, f_ref7_Raise.R, c34⟩, ⟨70, f_ref3_Number.A, f_ref3_Number.R, c70⟩, ⟨44, f_ref3_Int_Order.A, f_ref3_Int_Order.R, c44⟩, ⟨62, f_ref7_TooLarge.A, f_ref7_TooLarge.R, c62⟩, ⟨71, f_ref7_Clamp.A, f_ref7_Clamp.R, c71⟩, ⟨35, f_ref3_Ratio_Turned.A, f_ref3_Ratio_Turned.R, c35⟩, ⟨72, f_ref3_Int_Raised.A, f_ref3_Int_Raised.R, c72⟩, ⟨29, f_ref7_number.A, f_ref7_number.R, c29⟩], spec := [(100003, [.bx 2 600002 (.d Y_Ratio), .bx 3 600003 (.d (.pair .bool (.sl 3 (.int .i64)))), .bx 4 600004 (.pair (.d (.int .i64)) (.pair (.pair (.d (.int .i64)) (.pair (.pair (.d .bool) (.o 61 (.int .u32))) (.pair (.pair (.d .bool) (.o 61 (.int .u32))) (.d (.pair .str (.int .i64)))))) (.pair (.d (.int .i64)) (.pair (.d .str) (.pair (.pair (.d (.int .i64)) (.pair (.pair (.d .bool) (.o 61 (.int .u32))) (.pair (.pair (.d .bool) (.o 61 (.int .u32))) (.d (.pair .str (.int .i64)))))) (.o 26 Y_Value))))))]), (100008, [.bx 2 600002 (.d Y_Ratio), .bx 4 600004 (.pair (.d (.int .i64)) (.pair (.pair (.d (.int .i64)) (.pair (.pair (.d .bool) (.o 61 (.int .u32))) (.pair (.pair (.d .bool) (.o 61 (.int .u32))) (.d (.pair .str (.int .i64)))))) (.pair (.d (.int .i64)) (.pair (.d .str) (.pair (.pair (.d (.int .i64)) (.pair (.pair (.d .bool) (.o 61 (.int .u32))) (.pair (.pair (.d .bool) (.o 61 (.int .u32))) (.d (.pair .str (.int .i64)))))) (.o 26 Y_Value)))))), .d 5 (.int .i64)])] }
noncomputable def f_ref7_power.code : Code := Func.code Tryd.f38
noncomputable def f_ref7_power.fin (c69 : f_ref7_Negative.E) (c33 : f_ref7_Zero.E) (c34 : f_ref7_Raise.E) (c70 : f_ref3_Number.E) (c44 : f_ref3_Int_Order.E) (c62 : f_ref7_TooLarge.E) (c71 : f_ref7_Clamp.E) (c35 : f_ref3_Ratio_Turned.E) (c72 : f_ref3_Int_Raised.E) (c29 : f_ref7_number.E) := kfin (f_ref7_power.C c69 c33 c34 c70 c44 c62 c71 c35 c72 c29) Tryd.f38 f_ref7_power.A f_ref7_power.R
def f_ref7_power.b (c69 : f_ref7_Negative.E) (c33 : f_ref7_Zero.E) (c34 : f_ref7_Raise.E) (c70 : f_ref3_Number.E) (c44 : f_ref3_Int_Order.E) (c62 : f_ref7_TooLarge.E) (c71 : f_ref7_Clamp.E) (c35 : f_ref3_Ratio_Turned.E) (c72 : f_ref3_Int_Raised.E) (c29 : f_ref7_number.E) (r_g3 : X_Ratio → X_Int → X_Step → Option X_Step) (a0 : X_Int × (List (Int))) (a1 : (Bool) × (List (Int))) : Option X_Step :=
  (c69 a1).bind fun y1 =>
    bif y1 then
      (c33 a0.1).bind fun y2 =>
        bif y2 then
          (c34 ((41 : Int), [100, 105, 118, 105, 115, 105, 111, 110, 32, 98, 121, 32, 122, 101, 114, 111])).bind fun y3 =>
            some y3
        else
          r_g3 a0 a1 ((0 : Int), (((0 : Int), ((false, ([] : List (Int))), ((false, ([] : List (Int))), ([], (0 : Int))))), ((0 : Int), ([], (((0 : Int), ((false, ([] : List (Int))), ((false, ([] : List (Int))), ([], (0 : Int))))), ([] : List X_Value))))))
    else
      r_g3 a0 a1 ((0 : Int), (((0 : Int), ((false, ([] : List (Int))), ((false, ([] : List (Int))), ([], (0 : Int))))), ((0 : Int), ([], (((0 : Int), ((false, ([] : List (Int))), ((false, ([] : List (Int))), ([], (0 : Int))))), ([] : List X_Value))))))
def f_ref7_power.b_g3 (c69 : f_ref7_Negative.E) (c33 : f_ref7_Zero.E) (c34 : f_ref7_Raise.E) (c70 : f_ref3_Number.E) (c44 : f_ref3_Int_Order.E) (c62 : f_ref7_TooLarge.E) (c71 : f_ref7_Clamp.E) (c35 : f_ref3_Ratio_Turned.E) (c72 : f_ref3_Int_Raised.E) (c29 : f_ref7_number.E) (r_g8 : X_Ratio → X_Step → (Int) → Option X_Step) (x2 : X_Int × (List (Int))) (x3 : (Bool) × (List (Int))) (x4 : (Int) × (X_Value × ((Int) × ((List UInt8) × (X_Value × (List X_Value)))))) : Option X_Step :=
  (c70 (10000 : Int)).bind fun y4 =>
    (c44 (x3, y4)).bind fun y5 =>
      bif (decide (y5 > (0 : Int))) then
        (c62 ()).bind fun y6 =>
          some y6
      else
        (c70 (-10000 : Int)).bind fun y7 =>
          (c44 (x3, y7)).bind fun y8 =>
            bif (decide (y8 < (0 : Int))) then
              (c62 ()).bind fun y9 =>
                some y9
            else
              (c71 (x3, ((-10000 : Int), (10000 : Int)))).bind fun y10 =>
                bif (decide (y10 < (0 : Int))) then
                  (c35 x2).bind fun y11 =>
                    r_g8 y11 (x4.1, ((x4.2.1.1, ((x4.2.1.2.1.1, (List.take (List.length x4.2.1.2.1.2) x4.2.1.2.1.2)), ((x4.2.1.2.2.1.1, (List.take (List.length x4.2.1.2.2.1.2) x4.2.1.2.2.1.2)), x4.2.1.2.2.2))), (x4.2.2.1, (x4.2.2.2.1, ((x4.2.2.2.2.1.1, ((x4.2.2.2.2.1.2.1.1, (List.take (List.length x4.2.2.2.2.1.2.1.2) x4.2.2.2.2.1.2.1.2)), ((x4.2.2.2.2.1.2.2.1.1, (List.take (List.length x4.2.2.2.2.1.2.2.1.2) x4.2.2.2.2.1.2.2.1.2)), x4.2.2.2.2.1.2.2.2))), (List.take (List.length x4.2.2.2.2.2) x4.2.2.2.2.2)))))) (IntKind.i64.wrap (0 - y10))
                else
                  r_g8 x2 (x4.1, ((x4.2.1.1, ((x4.2.1.2.1.1, (List.take (List.length x4.2.1.2.1.2) x4.2.1.2.1.2)), ((x4.2.1.2.2.1.1, (List.take (List.length x4.2.1.2.2.1.2) x4.2.1.2.2.1.2)), x4.2.1.2.2.2))), (x4.2.2.1, (x4.2.2.2.1, ((x4.2.2.2.2.1.1, ((x4.2.2.2.2.1.2.1.1, (List.take (List.length x4.2.2.2.2.1.2.1.2) x4.2.2.2.2.1.2.1.2)), ((x4.2.2.2.2.1.2.2.1.1, (List.take (List.length x4.2.2.2.2.1.2.2.1.2) x4.2.2.2.2.1.2.2.1.2)), x4.2.2.2.2.1.2.2.2))), (List.take (List.length x4.2.2.2.2.2) x4.2.2.2.2.2)))))) y10
def f_ref7_power.b_g8 (c69 : f_ref7_Negative.E) (c33 : f_ref7_Zero.E) (c34 : f_ref7_Raise.E) (c70 : f_ref3_Number.E) (c44 : f_ref3_Int_Order.E) (c62 : f_ref7_TooLarge.E) (c71 : f_ref7_Clamp.E) (c35 : f_ref3_Ratio_Turned.E) (c72 : f_ref3_Int_Raised.E) (c29 : f_ref7_number.E)  (x2 : X_Int × (List (Int))) (x4 : (Int) × (X_Value × ((Int) × ((List UInt8) × (X_Value × (List X_Value)))))) (x5 : Int) : Option X_Step :=
  (c72 (x2.1, x5)).bind fun y12 =>
    (c72 ((false, x2.2), x5)).bind fun y13 =>
      bif (!y12.2) then
        (c62 ()).bind fun y14 =>
          some y14
      else
        bif (!y13.2) then
          (c62 ()).bind fun y15 =>
            some y15
        else
          (c29 (y12.1, y13.1.2)).bind fun y16 =>
            some y16
def f_ref7_power.c (c69 : f_ref7_Negative.E) (c33 : f_ref7_Zero.E) (c34 : f_ref7_Raise.E) (c70 : f_ref3_Number.E) (c44 : f_ref3_Int_Order.E) (c62 : f_ref7_TooLarge.E) (c71 : f_ref7_Clamp.E) (c35 : f_ref3_Ratio_Turned.E) (c72 : f_ref3_Int_Raised.E) (c29 : f_ref7_number.E) (r_g3 : X_Ratio → X_Int → X_Step → Option X_Step) (a0 : X_Int × (List (Int))) (a1 : (Bool) × (List (Int))) : Option X_Step :=
  (c69 a1).bind fun y1 =>
    bif y1 then
      (c33 a0.1).bind fun y2 =>
        bif y2 then
          (c34 ((41 : Int), [100, 105, 118, 105, 115, 105, 111, 110, 32, 98, 121, 32, 122, 101, 114, 111])).bind fun y3 =>
            some y3
        else
          r_g3 a0 a1 ((0 : Int), (((0 : Int), ((false, ([] : List Int)), ((false, ([] : List Int)), ([], (0 : Int))))), ((0 : Int), ([], (((0 : Int), ((false, ([] : List Int)), ((false, ([] : List Int)), ([], (0 : Int))))), ([] : List X_Value))))))
    else
      r_g3 a0 a1 ((0 : Int), (((0 : Int), ((false, ([] : List Int)), ((false, ([] : List Int)), ([], (0 : Int))))), ((0 : Int), ([], (((0 : Int), ((false, ([] : List Int)), ((false, ([] : List Int)), ([], (0 : Int))))), ([] : List X_Value))))))
theorem f_ref7_power.q (c69 : f_ref7_Negative.E) (c33 : f_ref7_Zero.E) (c34 : f_ref7_Raise.E) (c70 : f_ref3_Number.E) (c44 : f_ref3_Int_Order.E) (c62 : f_ref7_TooLarge.E) (c71 : f_ref7_Clamp.E) (c35 : f_ref3_Ratio_Turned.E) (c72 : f_ref3_Int_Raised.E) (c29 : f_ref7_number.E) (r_g3 : X_Ratio → X_Int → X_Step → Option X_Step) (a0 : X_Int × (List (Int))) (a1 : (Bool) × (List (Int))) : f_ref7_power.b c69 c33 c34 c70 c44 c62 c71 c35 c72 c29 r_g3 a0 a1 = f_ref7_power.c c69 c33 c34 c70 c44 c62 c71 c35 c72 c29 r_g3 a0 a1 := by
  simp only [f_ref7_power.b, f_ref7_power.c, List.take_length, take_one, Nat.zero_add, Int.toNat_natCast, Int.toNat_zero, List.drop_zero, List.append_eq, Nat.le_refl, Int.le_refl, true_and, and_true, zero_le_one, if_true, prod_eta, Int.natCast_zero]
def f_ref7_power.c_g3 (c69 : f_ref7_Negative.E) (c33 : f_ref7_Zero.E) (c34 : f_ref7_Raise.E) (c70 : f_ref3_Number.E) (c44 : f_ref3_Int_Order.E) (c62 : f_ref7_TooLarge.E) (c71 : f_ref7_Clamp.E) (c35 : f_ref3_Ratio_Turned.E) (c72 : f_ref3_Int_Raised.E) (c29 : f_ref7_number.E) (r_g8 : X_Ratio → X_Step → (Int) → Option X_Step) (x2 : X_Int × (List (Int))) (x3 : (Bool) × (List (Int))) (x4 : (Int) × (X_Value × ((Int) × ((List UInt8) × (X_Value × (List X_Value)))))) : Option X_Step :=
  (c70 (10000 : Int)).bind fun y4 =>
    (c44 (x3, y4)).bind fun y5 =>
      bif (decide (y5 > (0 : Int))) then
        (c62 ()).bind fun y6 =>
          some y6
      else
        (c70 (-10000 : Int)).bind fun y7 =>
          (c44 (x3, y7)).bind fun y8 =>
            bif (decide (y8 < (0 : Int))) then
              (c62 ()).bind fun y9 =>
                some y9
            else
              (c71 (x3, ((-10000 : Int), (10000 : Int)))).bind fun y10 =>
                bif (decide (y10 < (0 : Int))) then
                  (c35 x2).bind fun y11 =>
                    r_g8 y11 x4 (IntKind.i64.wrap (0 - y10))
                else
                  r_g8 x2 x4 y10
theorem f_ref7_power.q_g3 (c69 : f_ref7_Negative.E) (c33 : f_ref7_Zero.E) (c34 : f_ref7_Raise.E) (c70 : f_ref3_Number.E) (c44 : f_ref3_Int_Order.E) (c62 : f_ref7_TooLarge.E) (c71 : f_ref7_Clamp.E) (c35 : f_ref3_Ratio_Turned.E) (c72 : f_ref3_Int_Raised.E) (c29 : f_ref7_number.E) (r_g8 : X_Ratio → X_Step → (Int) → Option X_Step) (x2 : X_Int × (List (Int))) (x3 : (Bool) × (List (Int))) (x4 : (Int) × (X_Value × ((Int) × ((List UInt8) × (X_Value × (List X_Value)))))) : f_ref7_power.b_g3 c69 c33 c34 c70 c44 c62 c71 c35 c72 c29 r_g8 x2 x3 x4 = f_ref7_power.c_g3 c69 c33 c34 c70 c44 c62 c71 c35 c72 c29 r_g8 x2 x3 x4 := by
  simp only [f_ref7_power.b_g3, f_ref7_power.c_g3, List.take_length, take_one, Nat.zero_add, Int.toNat_natCast, Int.toNat_zero, List.drop_zero, List.append_eq, Nat.le_refl, Int.le_refl, true_and, and_true, zero_le_one, if_true, prod_eta, Int.natCast_zero]
def f_ref7_power.c_g8 (c69 : f_ref7_Negative.E) (c33 : f_ref7_Zero.E) (c34 : f_ref7_Raise.E) (c70 : f_ref3_Number.E) (c44 : f_ref3_Int_Order.E) (c62 : f_ref7_TooLarge.E) (c71 : f_ref7_Clamp.E) (c35 : f_ref3_Ratio_Turned.E) (c72 : f_ref3_Int_Raised.E) (c29 : f_ref7_number.E)  (x2 : X_Int × (List (Int))) (x4 : (Int) × (X_Value × ((Int) × ((List UInt8) × (X_Value × (List X_Value)))))) (x5 : Int) : Option X_Step :=
  (c72 (x2.1, x5)).bind fun y12 =>
    (c72 ((false, x2.2), x5)).bind fun y13 =>
      bif !y12.2 then
        (c62 ()).bind fun y14 =>
          some y14
      else
        bif !y13.2 then
          (c62 ()).bind fun y15 =>
            some y15
        else
          (c29 (y12.1, y13.1.2)).bind fun y16 =>
            some y16
theorem f_ref7_power.q_g8 (c69 : f_ref7_Negative.E) (c33 : f_ref7_Zero.E) (c34 : f_ref7_Raise.E) (c70 : f_ref3_Number.E) (c44 : f_ref3_Int_Order.E) (c62 : f_ref7_TooLarge.E) (c71 : f_ref7_Clamp.E) (c35 : f_ref3_Ratio_Turned.E) (c72 : f_ref3_Int_Raised.E) (c29 : f_ref7_number.E)  (x2 : X_Int × (List (Int))) (x4 : (Int) × (X_Value × ((Int) × ((List UInt8) × (X_Value × (List X_Value)))))) (x5 : Int) : f_ref7_power.b_g8 c69 c33 c34 c70 c44 c62 c71 c35 c72 c29 x2 x4 x5 = f_ref7_power.c_g8 c69 c33 c34 c70 c44 c62 c71 c35 c72 c29 x2 x4 x5 := by
  simp only [f_ref7_power.b_g8, f_ref7_power.c_g8, List.take_length, take_one, Nat.zero_add, Int.toNat_natCast, Int.toNat_zero, List.drop_zero, List.append_eq, Nat.le_refl, Int.le_refl, true_and, and_true, zero_le_one, if_true, prod_eta, Int.natCast_zero]
def f_ref7_power.g8 (c69 : f_ref7_Negative.E) (c33 : f_ref7_Zero.E) (c34 : f_ref7_Raise.E) (c70 : f_ref3_Number.E) (c44 : f_ref3_Int_Order.E) (c62 : f_ref7_TooLarge.E) (c71 : f_ref7_Clamp.E) (c35 : f_ref3_Ratio_Turned.E) (c72 : f_ref3_Int_Raised.E) (c29 : f_ref7_number.E) (k : Nat)  (x2 : X_Int × (List (Int))) (x4 : (Int) × (X_Value × ((Int) × ((List UInt8) × (X_Value × (List X_Value)))))) (x5 : Int) : Option X_Step := gate k (f_ref7_power.b_g8 c69 c33 c34 c70 c44 c62 c71 c35 c72 c29  x2 x4 x5)
def f_ref7_power.g3 (c69 : f_ref7_Negative.E) (c33 : f_ref7_Zero.E) (c34 : f_ref7_Raise.E) (c70 : f_ref3_Number.E) (c44 : f_ref3_Int_Order.E) (c62 : f_ref7_TooLarge.E) (c71 : f_ref7_Clamp.E) (c35 : f_ref3_Ratio_Turned.E) (c72 : f_ref3_Int_Raised.E) (c29 : f_ref7_number.E) (k : Nat)  (x2 : X_Int × (List (Int))) (x3 : (Bool) × (List (Int))) (x4 : (Int) × (X_Value × ((Int) × ((List UInt8) × (X_Value × (List X_Value)))))) : Option X_Step := gate k (f_ref7_power.b_g3 c69 c33 c34 c70 c44 c62 c71 c35 c72 c29 (f_ref7_power.g8 c69 c33 c34 c70 c44 c62 c71 c35 c72 c29 k ) x2 x3 x4)
def f_ref7_power.f (c69 : f_ref7_Negative.E) (c33 : f_ref7_Zero.E) (c34 : f_ref7_Raise.E) (c70 : f_ref3_Number.E) (c44 : f_ref3_Int_Order.E) (c62 : f_ref7_TooLarge.E) (c71 : f_ref7_Clamp.E) (c35 : f_ref3_Ratio_Turned.E) (c72 : f_ref3_Int_Raised.E) (c29 : f_ref7_number.E) (k : Nat) (a0 : X_Int × (List (Int))) (a1 : (Bool) × (List (Int))) : Option X_Step := f_ref7_power.b c69 c33 c34 c70 c44 c62 c71 c35 c72 c29 (f_ref7_power.g3 c69 c33 c34 c70 c44 c62 c71 c35 c72 c29 k) a0 a1
noncomputable def f_ref7_power.M_g3 (c69 : f_ref7_Negative.E) (c33 : f_ref7_Zero.E) (c34 : f_ref7_Raise.E) (c70 : f_ref3_Number.E) (c44 : f_ref3_Int_Order.E) (c62 : f_ref7_TooLarge.E) (c71 : f_ref7_Clamp.E) (c35 : f_ref3_Ratio_Turned.E) (c72 : f_ref3_Int_Raised.E) (c29 : f_ref7_number.E) (k : Nat)  (s : St) : Option X_Step := atGate (f_ref7_power.C c69 c33 c34 c70 c44 c62 c71 c35 c72 c29) k [1, 1, 0, 0] [] f_ref7_power.code (f_ref7_power.fin c69 c33 c34 c70 c44 c62 c71 c35 c72 c29) s
noncomputable def f_ref7_power.fr_g3 (x2 : X_Int × (List (Int))) (x3 : (Bool) × (List (Int))) (x4 : (Int) × (X_Value × ((Int) × ((List UInt8) × (X_Value × (List X_Value)))))) : St := ⟨((((List.replicate 64 V.un).set 2 (V.bp 600002 0 [])).set 3 (V.bp 600003 0 [])).set 4 (V.bp 600004 0 [])), [⟨600004, 0, .box (V.st (V.dat (.int .i64) x4.1) (V.st (V.st (V.dat (.int .i64) x4.2.1.1) (V.st (V.st (V.dat .bool x4.2.1.2.1.1) (V.ref 11600064 0 0 (List.length x4.2.1.2.1.2))) (V.st (V.st (V.dat .bool x4.2.1.2.2.1.1) (V.ref 11600065 0 0 (List.length x4.2.1.2.2.1.2))) (V.dat (.pair .str (.int .i64)) x4.2.1.2.2.2)))) (V.st (V.dat (.int .i64) x4.2.2.1) (V.st (V.dat .str x4.2.2.2.1) (V.st (V.st (V.dat (.int .i64) x4.2.2.2.2.1.1) (V.st (V.st (V.dat .bool x4.2.2.2.2.1.2.1.1) (V.ref 11600066 0 0 (List.length x4.2.2.2.2.1.2.1.2))) (V.st (V.st (V.dat .bool x4.2.2.2.2.1.2.2.1.1) (V.ref 11600067 0 0 (List.length x4.2.2.2.2.1.2.2.1.2))) (V.dat (.pair .str (.int .i64)) x4.2.2.2.2.1.2.2.2)))) (V.ref 11600068 0 0 (List.length x4.2.2.2.2.2)))))))⟩, ⟨11600064, 0, .arr 61 (.int .u32) x4.2.1.2.1.2⟩, ⟨11600065, 0, .arr 61 (.int .u32) x4.2.1.2.2.1.2⟩, ⟨11600066, 0, .arr 61 (.int .u32) x4.2.2.2.2.1.2.1.2⟩, ⟨11600067, 0, .arr 61 (.int .u32) x4.2.2.2.2.1.2.2.1.2⟩, ⟨11600068, 0, .arr 26 Y_Value x4.2.2.2.2.2⟩, ⟨600003, 0, .box (V.dat (.pair .bool (.sl 3 (.int .i64))) x3)⟩, ⟨600002, 0, .box (V.dat Y_Ratio x2)⟩]⟩
noncomputable def f_ref7_power.M_g8 (c69 : f_ref7_Negative.E) (c33 : f_ref7_Zero.E) (c34 : f_ref7_Raise.E) (c70 : f_ref3_Number.E) (c44 : f_ref3_Int_Order.E) (c62 : f_ref7_TooLarge.E) (c71 : f_ref7_Clamp.E) (c35 : f_ref3_Ratio_Turned.E) (c72 : f_ref3_Int_Raised.E) (c29 : f_ref7_number.E) (k : Nat)  (s : St) : Option X_Step := atGate (f_ref7_power.C c69 c33 c34 c70 c44 c62 c71 c35 c72 c29) k [1, 1, 1, 1, 1, 0] [] f_ref7_power.code (f_ref7_power.fin c69 c33 c34 c70 c44 c62 c71 c35 c72 c29) s
noncomputable def f_ref7_power.fr_g8 (x2 : X_Int × (List (Int))) (x4 : (Int) × (X_Value × ((Int) × ((List UInt8) × (X_Value × (List X_Value)))))) (x5 : Int) : St := ⟨((((List.replicate 64 V.un).set 2 (V.bp 600002 0 [])).set 4 (V.bp 600004 0 [])).set 5 (V.dat (.int .i64) x5)), [⟨600004, 0, .box (V.st (V.dat (.int .i64) x4.1) (V.st (V.st (V.dat (.int .i64) x4.2.1.1) (V.st (V.st (V.dat .bool x4.2.1.2.1.1) (V.ref 11600064 0 0 (List.length x4.2.1.2.1.2))) (V.st (V.st (V.dat .bool x4.2.1.2.2.1.1) (V.ref 11600065 0 0 (List.length x4.2.1.2.2.1.2))) (V.dat (.pair .str (.int .i64)) x4.2.1.2.2.2)))) (V.st (V.dat (.int .i64) x4.2.2.1) (V.st (V.dat .str x4.2.2.2.1) (V.st (V.st (V.dat (.int .i64) x4.2.2.2.2.1.1) (V.st (V.st (V.dat .bool x4.2.2.2.2.1.2.1.1) (V.ref 11600066 0 0 (List.length x4.2.2.2.2.1.2.1.2))) (V.st (V.st (V.dat .bool x4.2.2.2.2.1.2.2.1.1) (V.ref 11600067 0 0 (List.length x4.2.2.2.2.1.2.2.1.2))) (V.dat (.pair .str (.int .i64)) x4.2.2.2.2.1.2.2.2)))) (V.ref 11600068 0 0 (List.length x4.2.2.2.2.2)))))))⟩, ⟨11600064, 0, .arr 61 (.int .u32) x4.2.1.2.1.2⟩, ⟨11600065, 0, .arr 61 (.int .u32) x4.2.1.2.2.1.2⟩, ⟨11600066, 0, .arr 61 (.int .u32) x4.2.2.2.2.1.2.1.2⟩, ⟨11600067, 0, .arr 61 (.int .u32) x4.2.2.2.2.1.2.2.1.2⟩, ⟨11600068, 0, .arr 26 Y_Value x4.2.2.2.2.2⟩, ⟨600002, 0, .box (V.dat Y_Ratio x2)⟩]⟩
theorem f_ref7_power.r (c69 : f_ref7_Negative.E) (c33 : f_ref7_Zero.E) (c34 : f_ref7_Raise.E) (c70 : f_ref3_Number.E) (c44 : f_ref3_Int_Order.E) (c62 : f_ref7_TooLarge.E) (c71 : f_ref7_Clamp.E) (c35 : f_ref3_Ratio_Turned.E) (c72 : f_ref3_Int_Raised.E) (c29 : f_ref7_number.E) (k : Nat) (a0 : X_Int × (List (Int))) (a1 : (Bool) × (List (Int))) : fn (f_ref7_power.C c69 c33 c34 c70 c44 c62 c71 c35 c72 c29) k Tryd.f38 f_ref7_power.A f_ref7_power.R (a0, a1) = f_ref7_power.b c69 c33 c34 c70 c44 c62 c71 c35 c72 c29 (fun x2 x3 x4 => f_ref7_power.M_g3 c69 c33 c34 c70 c44 c62 c71 c35 c72 c29 k   (f_ref7_power.fr_g3 x2 x3 x4)) a0 a1 := by kernel_rfl
theorem f_ref7_power.r_g3 (c69 : f_ref7_Negative.E) (c33 : f_ref7_Zero.E) (c34 : f_ref7_Raise.E) (c70 : f_ref3_Number.E) (c44 : f_ref3_Int_Order.E) (c62 : f_ref7_TooLarge.E) (c71 : f_ref7_Clamp.E) (c35 : f_ref3_Ratio_Turned.E) (c72 : f_ref3_Int_Raised.E) (c29 : f_ref7_number.E) (k : Nat)  (x2 : X_Int × (List (Int))) (x3 : (Bool) × (List (Int))) (x4 : (Int) × (X_Value × ((Int) × ((List UInt8) × (X_Value × (List X_Value)))))) : f_ref7_power.M_g3 c69 c33 c34 c70 c44 c62 c71 c35 c72 c29 k  (f_ref7_power.fr_g3 x2 x3 x4) = gate k (f_ref7_power.b_g3 c69 c33 c34 c70 c44 c62 c71 c35 c72 c29 (fun x2 x4 x5 => f_ref7_power.M_g8 c69 c33 c34 c70 c44 c62 c71 c35 c72 c29 k   (f_ref7_power.fr_g8 x2 x4 x5)) x2 x3 x4) := by kernel_rfl
theorem f_ref7_power.r_g8 (c69 : f_ref7_Negative.E) (c33 : f_ref7_Zero.E) (c34 : f_ref7_Raise.E) (c70 : f_ref3_Number.E) (c44 : f_ref3_Int_Order.E) (c62 : f_ref7_TooLarge.E) (c71 : f_ref7_Clamp.E) (c35 : f_ref3_Ratio_Turned.E) (c72 : f_ref3_Int_Raised.E) (c29 : f_ref7_number.E) (k : Nat)  (x2 : X_Int × (List (Int))) (x4 : (Int) × (X_Value × ((Int) × ((List UInt8) × (X_Value × (List X_Value)))))) (x5 : Int) : f_ref7_power.M_g8 c69 c33 c34 c70 c44 c62 c71 c35 c72 c29 k  (f_ref7_power.fr_g8 x2 x4 x5) = gate k (f_ref7_power.b_g8 c69 c33 c34 c70 c44 c62 c71 c35 c72 c29  x2 x4 x5) := by kernel_rfl
theorem f_ref7_power.e_g8 (c69 : f_ref7_Negative.E) (c33 : f_ref7_Zero.E) (c34 : f_ref7_Raise.E) (c70 : f_ref3_Number.E) (c44 : f_ref3_Int_Order.E) (c62 : f_ref7_TooLarge.E) (c71 : f_ref7_Clamp.E) (c35 : f_ref3_Ratio_Turned.E) (c72 : f_ref3_Int_Raised.E) (c29 : f_ref7_number.E) (k : Nat)  (x2 : X_Int × (List (Int))) (x4 : (Int) × (X_Value × ((Int) × ((List UInt8) × (X_Value × (List X_Value)))))) (x5 : Int) : f_ref7_power.M_g8 c69 c33 c34 c70 c44 c62 c71 c35 c72 c29 k  (f_ref7_power.fr_g8 x2 x4 x5) = f_ref7_power.g8 c69 c33 c34 c70 c44 c62 c71 c35 c72 c29 k  x2 x4 x5 := by
  rw [f_ref7_power.r_g8]
  rfl
theorem f_ref7_power.e_g3 (c69 : f_ref7_Negative.E) (c33 : f_ref7_Zero.E) (c34 : f_ref7_Raise.E) (c70 : f_ref3_Number.E) (c44 : f_ref3_Int_Order.E) (c62 : f_ref7_TooLarge.E) (c71 : f_ref7_Clamp.E) (c35 : f_ref3_Ratio_Turned.E) (c72 : f_ref3_Int_Raised.E) (c29 : f_ref7_number.E) (k : Nat)  (x2 : X_Int × (List (Int))) (x3 : (Bool) × (List (Int))) (x4 : (Int) × (X_Value × ((Int) × ((List UInt8) × (X_Value × (List X_Value)))))) : f_ref7_power.M_g3 c69 c33 c34 c70 c44 c62 c71 c35 c72 c29 k  (f_ref7_power.fr_g3 x2 x3 x4) = f_ref7_power.g3 c69 c33 c34 c70 c44 c62 c71 c35 c72 c29 k  x2 x3 x4 := by
  rw [f_ref7_power.r_g3]
  simp only [f_ref7_power.e_g8]
  rfl
theorem f_ref7_power.e (c69 : f_ref7_Negative.E) (c33 : f_ref7_Zero.E) (c34 : f_ref7_Raise.E) (c70 : f_ref3_Number.E) (c44 : f_ref3_Int_Order.E) (c62 : f_ref7_TooLarge.E) (c71 : f_ref7_Clamp.E) (c35 : f_ref3_Ratio_Turned.E) (c72 : f_ref3_Int_Raised.E) (c29 : f_ref7_number.E) (k : Nat) (a0 : X_Int × (List (Int))) (a1 : (Bool) × (List (Int))) : fn (f_ref7_power.C c69 c33 c34 c70 c44 c62 c71 c35 c72 c29) k Tryd.f38 f_ref7_power.A f_ref7_power.R (a0, a1) = f_ref7_power.f c69 c33 c34 c70 c44 c62 c71 c35 c72 c29 k a0 a1 := by
  rw [f_ref7_power.r]
  simp only [f_ref7_power.e_g3]
  rfl
theorem f_ref7_power.ty (c69 : f_ref7_Negative.E) (c33 : f_ref7_Zero.E) (c34 : f_ref7_Raise.E) (c70 : f_ref3_Number.E) (c44 : f_ref3_Int_Order.E) (c62 : f_ref7_TooLarge.E) (c71 : f_ref7_Clamp.E) (c35 : f_ref3_Ratio_Turned.E) (c72 : f_ref3_Int_Raised.E) (c29 : f_ref7_number.E) : TyOk Tryd.prog (f_ref7_power.C c69 c33 c34 c70 c44 c62 c71 c35 c72 c29) := tyOk_of (by kernel_rfl)
def f_ref7_power.u (k : Nat) : f_ref7_power.E := fun y => f_ref7_power.f (f_ref7_Negative.u k) (f_ref7_Zero.u k) (f_ref7_Raise.u k) (f_ref3_Number.u k) (f_ref3_Int_Order.u k) (f_ref7_TooLarge.u k) (f_ref7_Clamp.u k) (f_ref3_Ratio_Turned.u k) (f_ref3_Int_Raised.u k) (f_ref7_number.u k) k y.1 y.2
theorem f_ref7_power.sound (k : Nat) : Sound Tryd.prog ⟨38, f_ref7_power.A, f_ref7_power.R, f_ref7_power.u k⟩ := by
  have h := fn_sound (k := k) («as» := f_ref7_power.A) (rs := f_ref7_power.R) (f_ref7_power.ty (f_ref7_Negative.u k) (f_ref7_Zero.u k) (f_ref7_Raise.u k) (f_ref3_Number.u k) (f_ref3_Int_Order.u k) (f_ref7_TooLarge.u k) (f_ref7_Clamp.u k) (f_ref3_Ratio_Turned.u k) (f_ref3_Int_Raised.u k) (f_ref7_number.u k)) (fun E h => by
    simp only [f_ref7_power.C, List.mem_cons, List.not_mem_nil, or_false] at h
    rcases h with rfl | rfl | rfl | rfl | rfl | rfl | rfl | rfl | rfl | rfl
    · exact f_ref7_Negative.sound k
    · exact f_ref7_Zero.sound k
    · exact f_ref7_Raise.sound k
    · exact f_ref3_Number.sound k
    · exact f_ref3_Int_Order.sound k
    · exact f_ref7_TooLarge.sound k
    · exact f_ref7_Clamp.sound k
    · exact f_ref3_Ratio_Turned.sound k
    · exact f_ref3_Int_Raised.sound k
    · exact f_ref7_number.sound k) mixed Tryd.func38 (by kernel_rfl) (by kernel_rfl)
  have e : fn (f_ref7_power.C (f_ref7_Negative.u k) (f_ref7_Zero.u k) (f_ref7_Raise.u k) (f_ref3_Number.u k) (f_ref3_Int_Order.u k) (f_ref7_TooLarge.u k) (f_ref7_Clamp.u k) (f_ref3_Ratio_Turned.u k) (f_ref3_Int_Raised.u k) (f_ref7_number.u k)) k Tryd.f38 f_ref7_power.A f_ref7_power.R = f_ref7_power.u k := by
    funext y
    exact f_ref7_power.e (f_ref7_Negative.u k) (f_ref7_Zero.u k) (f_ref7_Raise.u k) (f_ref3_Number.u k) (f_ref3_Int_Order.u k) (f_ref7_TooLarge.u k) (f_ref7_Clamp.u k) (f_ref3_Ratio_Turned.u k) (f_ref3_Int_Raised.u k) (f_ref7_number.u k) k y.1 y.2
  rw [e] at h
  exact h
/-! ### brindlewood/brindlewoodref7.places: f74 -/
abbrev f_ref7_places.A : List Sh := [(.d (.pair .bool (.sl 3 (.int .i64)))), (.d (.int .i64))]
abbrev f_ref7_places.R : List Sh := [(.o 4 .bool)]
abbrev f_ref7_places.E : Type := (X_Int × (Int)) → Option (List (Bool))
def f_ref7_places.C (c69 : f_ref7_Negative.E) (c57 : f_ref3_Small.E) (c92 : f_ref3_Minus.E) (c73 : f_ref3_Ones.E) : Ctx := { ty := [(3, (.int .i64)), (4, .bool), (39, (.sl 3 (.int .i64))), (41, (.pair .bool (.sl 3 (.int .i64)))), (46, (.sl 4 .bool))], nf := [(41, 2)], by_ := [(3, 8), (4, 1)], env := [⟨69, f_ref7_Negative.A, f_ref7_Negative.R, c69⟩, ⟨57, f_ref3_Small.A, f_ref3_Small.R, c57⟩, ⟨92, f_ref3_Minus.A, f_ref3_Minus.R, c92⟩, ⟨73, f_ref3_Ones.A, f_ref3_Ones.R, c73⟩], spec := [(0, [.d 1 (.int .i64), .bx 2 600002 (.d (.pair .bool (.sl 3 (.int .i64)))), .o 6 500006 4 .bool, .d 20 (.sl 4 .bool), .d 21 (.int .i64), .d 22 (.int .i64)]), (2, [.bx 2 600002 (.d (.pair .bool (.sl 3 (.int .i64)))), .o 6 500006 4 .bool, .d 36 (.int .i64), .d 37 (.int .i64)])] }
noncomputable def f_ref7_places.code : Code := Func.code Tryd.f74
noncomputable def f_ref7_places.fin (c69 : f_ref7_Negative.E) (c57 : f_ref3_Small.E) (c92 : f_ref3_Minus.E) (c73 : f_ref3_Ones.E) := kfin (f_ref7_places.C c69 c57 c92 c73) Tryd.f74 f_ref7_places.A f_ref7_places.R
def f_ref7_places.b (c69 : f_ref7_Negative.E) (c57 : f_ref3_Small.E) (c92 : f_ref3_Minus.E) (c73 : f_ref3_Ones.E) (r_l0 : (Int) → X_Int → (List (Bool)) → (List (Bool)) → (Int) → (Int) → Option (List (Bool))) (a0 : (Bool) × (List (Int))) (a1 : Int) : Option (List (Bool)) :=
  (c69 a0).bind fun y1 =>
    bif y1 then
      (c57 (1 : Int)).bind fun y2 =>
        (c92 (a0.2, y2)).bind fun y3 =>
          if a1 = a1 ∧ 0 ≤ a1 ∧ Int.toNat a1 * 1 ≤ LIM ∧ a1 ≤ 140737488355328 then
            (c73 y3).bind fun y4 =>
              r_l0 a1 a0 (List.take (Int.toNat a1) (List.replicate (Int.toNat a1) false)) y4 ((List.length y4) : Int) (0 : Int)
          else none
    else
      if a1 = a1 ∧ 0 ≤ a1 ∧ Int.toNat a1 * 1 ≤ LIM ∧ a1 ≤ 140737488355328 then
        (c73 a0.2).bind fun y6 =>
          r_l0 a1 a0 (List.take (Int.toNat a1) (List.replicate (Int.toNat a1) false)) y6 ((List.length y6) : Int) (0 : Int)
      else none
def f_ref7_places.b_l0 (c69 : f_ref7_Negative.E) (c57 : f_ref3_Small.E) (c92 : f_ref3_Minus.E) (c73 : f_ref3_Ones.E) (n_l0 : (Int) → X_Int → (List (Bool)) → (List (Bool)) → (Int) → (Int) → Option (List (Bool))) (r_l2 : X_Int → (List (Bool)) → (Int) → (Int) → Option (List (Bool))) (x1 : Int) (x2 : (Bool) × (List (Int))) (x6 : List (Bool)) (x20 : List (Bool)) (x21 : Int) (x22 : Int) : Option (List (Bool)) :=
  bif (decide (x22 < x21)) then
    if 0 ≤ x22 ∧ x22 < ((List.length x20) : Int) then
      bif (decide (x22 < x1)) then
        if 0 ≤ x22 ∧ x22 < (((List.length x6) : Nat) : Int) then
          n_l0 x1 x2 (List.take (List.length x6) (List.set x6 (0 + Int.toNat x22) (List.getD x20 (Int.toNat x22) false))) x20 x21 (IntKind.i64.wrap (x22 + (1 : Int)))
        else none
      else
        n_l0 x1 x2 (List.take (List.length x6) x6) x20 x21 (IntKind.i64.wrap (x22 + (1 : Int)))
    else none
  else
    r_l2 x2 (List.take (List.length x6) x6) (((List.length x6) : Nat) : Int) (0 : Int)
def f_ref7_places.b_l2 (c69 : f_ref7_Negative.E) (c57 : f_ref3_Small.E) (c92 : f_ref3_Minus.E) (c73 : f_ref3_Ones.E) (n_l2 : X_Int → (List (Bool)) → (Int) → (Int) → Option (List (Bool))) (x2 : (Bool) × (List (Int))) (x6 : List (Bool)) (x36 : Int) (x37 : Int) : Option (List (Bool)) :=
  bif (decide (x37 < x36)) then
    if 0 ≤ x37 ∧ x37 < (((List.length x6) : Nat) : Int) then
      (c69 x2).bind fun y5 =>
        if 0 ≤ x37 ∧ x37 < (((List.length x6) : Nat) : Int) then
          n_l2 x2 (List.take (List.length x6) (List.set x6 (0 + Int.toNat x37) ((List.getD x6 (0 + Int.toNat x37) false) != y5))) x36 (IntKind.i64.wrap (x37 + (1 : Int)))
        else none
    else none
  else
    some (List.take (List.length x6) x6)
def f_ref7_places.c (c69 : f_ref7_Negative.E) (c57 : f_ref3_Small.E) (c92 : f_ref3_Minus.E) (c73 : f_ref3_Ones.E) (r_l0 : (Int) → X_Int → (List (Bool)) → (List (Bool)) → (Int) → (Int) → Option (List (Bool))) (a0 : (Bool) × (List (Int))) (a1 : Int) : Option (List (Bool)) :=
  (c69 a0).bind fun y1 =>
    bif y1 then
      (c57 (1 : Int)).bind fun y2 =>
        (c92 (a0.2, y2)).bind fun y3 =>
          if 0 ≤ a1 ∧ Int.toNat a1 * 1 ≤ LIM ∧ a1 ≤ 140737488355328 then
            (c73 y3).bind fun y4 =>
              r_l0 a1 a0 (List.take (Int.toNat a1) (List.replicate (Int.toNat a1) false)) y4 ((List.length y4) : Int) (0 : Int)
          else none
    else
      if 0 ≤ a1 ∧ Int.toNat a1 * 1 ≤ LIM ∧ a1 ≤ 140737488355328 then
        (c73 a0.2).bind fun y6 =>
          r_l0 a1 a0 (List.take (Int.toNat a1) (List.replicate (Int.toNat a1) false)) y6 ((List.length y6) : Int) (0 : Int)
      else none
theorem f_ref7_places.q (c69 : f_ref7_Negative.E) (c57 : f_ref3_Small.E) (c92 : f_ref3_Minus.E) (c73 : f_ref3_Ones.E) (r_l0 : (Int) → X_Int → (List (Bool)) → (List (Bool)) → (Int) → (Int) → Option (List (Bool))) (a0 : (Bool) × (List (Int))) (a1 : Int) : f_ref7_places.b c69 c57 c92 c73 r_l0 a0 a1 = f_ref7_places.c c69 c57 c92 c73 r_l0 a0 a1 := by
  simp only [f_ref7_places.b, f_ref7_places.c, List.take_length, take_one, Nat.zero_add, Int.toNat_natCast, Int.toNat_zero, List.drop_zero, List.append_eq, Nat.le_refl, Int.le_refl, true_and, and_true, zero_le_one, if_true, prod_eta, Int.natCast_zero]
def f_ref7_places.c_l0 (c69 : f_ref7_Negative.E) (c57 : f_ref3_Small.E) (c92 : f_ref3_Minus.E) (c73 : f_ref3_Ones.E) (n_l0 : (Int) → X_Int → (List (Bool)) → (List (Bool)) → (Int) → (Int) → Option (List (Bool))) (r_l2 : X_Int → (List (Bool)) → (Int) → (Int) → Option (List (Bool))) (x1 : Int) (x2 : (Bool) × (List (Int))) (x6 : List (Bool)) (x20 : List (Bool)) (x21 : Int) (x22 : Int) : Option (List (Bool)) :=
  bif (decide (x22 < x21)) then
    if 0 ≤ x22 ∧ x22 < ((List.length x20) : Int) then
      bif (decide (x22 < x1)) then
        if 0 ≤ x22 ∧ x22 < ((List.length x6) : Int) then
          n_l0 x1 x2 (List.take (List.length x6) (List.set x6 (0 + Int.toNat x22) (List.getD x20 (Int.toNat x22) false))) x20 x21 (IntKind.i64.wrap (x22 + (1 : Int)))
        else none
      else
        n_l0 x1 x2 x6 x20 x21 (IntKind.i64.wrap (x22 + (1 : Int)))
    else none
  else
    r_l2 x2 x6 ((List.length x6) : Int) (0 : Int)
theorem f_ref7_places.q_l0 (c69 : f_ref7_Negative.E) (c57 : f_ref3_Small.E) (c92 : f_ref3_Minus.E) (c73 : f_ref3_Ones.E) (n_l0 : (Int) → X_Int → (List (Bool)) → (List (Bool)) → (Int) → (Int) → Option (List (Bool))) (r_l2 : X_Int → (List (Bool)) → (Int) → (Int) → Option (List (Bool))) (x1 : Int) (x2 : (Bool) × (List (Int))) (x6 : List (Bool)) (x20 : List (Bool)) (x21 : Int) (x22 : Int) : f_ref7_places.b_l0 c69 c57 c92 c73 n_l0 r_l2 x1 x2 x6 x20 x21 x22 = f_ref7_places.c_l0 c69 c57 c92 c73 n_l0 r_l2 x1 x2 x6 x20 x21 x22 := by
  simp only [f_ref7_places.b_l0, f_ref7_places.c_l0, List.take_length, take_one, Nat.zero_add, Int.toNat_natCast, Int.toNat_zero, List.drop_zero, List.append_eq, Nat.le_refl, Int.le_refl, true_and, and_true, zero_le_one, if_true, prod_eta, Int.natCast_zero]
def f_ref7_places.c_l2 (c69 : f_ref7_Negative.E) (c57 : f_ref3_Small.E) (c92 : f_ref3_Minus.E) (c73 : f_ref3_Ones.E) (n_l2 : X_Int → (List (Bool)) → (Int) → (Int) → Option (List (Bool))) (x2 : (Bool) × (List (Int))) (x6 : List (Bool)) (x36 : Int) (x37 : Int) : Option (List (Bool)) :=
  bif (decide (x37 < x36)) then
    if 0 ≤ x37 ∧ x37 < ((List.length x6) : Int) then
      (c69 x2).bind fun y5 =>
        if 0 ≤ x37 ∧ x37 < ((List.length x6) : Int) then
          n_l2 x2 (List.take (List.length x6) (List.set x6 (0 + Int.toNat x37) ((List.getD x6 (0 + Int.toNat x37) false) != y5))) x36 (IntKind.i64.wrap (x37 + (1 : Int)))
        else none
    else none
  else
    some x6
theorem f_ref7_places.q_l2 (c69 : f_ref7_Negative.E) (c57 : f_ref3_Small.E) (c92 : f_ref3_Minus.E) (c73 : f_ref3_Ones.E) (n_l2 : X_Int → (List (Bool)) → (Int) → (Int) → Option (List (Bool))) (x2 : (Bool) × (List (Int))) (x6 : List (Bool)) (x36 : Int) (x37 : Int) : f_ref7_places.b_l2 c69 c57 c92 c73 n_l2 x2 x6 x36 x37 = f_ref7_places.c_l2 c69 c57 c92 c73 n_l2 x2 x6 x36 x37 := by
  simp only [f_ref7_places.b_l2, f_ref7_places.c_l2, List.take_length, take_one, Nat.zero_add, Int.toNat_natCast, Int.toNat_zero, List.drop_zero, List.append_eq, Nat.le_refl, Int.le_refl, true_and, and_true, zero_le_one, if_true, prod_eta, Int.natCast_zero]
def f_ref7_places.l2 (c69 : f_ref7_Negative.E) (c57 : f_ref3_Small.E) (c92 : f_ref3_Minus.E) (c73 : f_ref3_Ones.E) (k : Nat)  : Nat → X_Int → (List (Bool)) → (Int) → (Int) → Option (List (Bool))
  | 0, _, _, _, _ => none
  | n + 1, x2, x6, x36, x37 => f_ref7_places.b_l2 c69 c57 c92 c73 (fun x2 x6 x36 x37 => f_ref7_places.l2 c69 c57 c92 c73 k  n x2 x6 x36 x37) x2 x6 x36 x37
def f_ref7_places.l0 (c69 : f_ref7_Negative.E) (c57 : f_ref3_Small.E) (c92 : f_ref3_Minus.E) (c73 : f_ref3_Ones.E) (k : Nat)  : Nat → (Int) → X_Int → (List (Bool)) → (List (Bool)) → (Int) → (Int) → Option (List (Bool))
  | 0, _, _, _, _, _, _ => none
  | n + 1, x1, x2, x6, x20, x21, x22 => f_ref7_places.b_l0 c69 c57 c92 c73 (fun x1 x2 x6 x20 x21 x22 => f_ref7_places.l0 c69 c57 c92 c73 k  n x1 x2 x6 x20 x21 x22) (f_ref7_places.l2 c69 c57 c92 c73 k  k) x1 x2 x6 x20 x21 x22
def f_ref7_places.f (c69 : f_ref7_Negative.E) (c57 : f_ref3_Small.E) (c92 : f_ref3_Minus.E) (c73 : f_ref3_Ones.E) (k : Nat) (a0 : (Bool) × (List (Int))) (a1 : Int) : Option (List (Bool)) := f_ref7_places.b c69 c57 c92 c73 (f_ref7_places.l0 c69 c57 c92 c73 k k) a0 a1
noncomputable def f_ref7_places.M_l0 (c69 : f_ref7_Negative.E) (c57 : f_ref3_Small.E) (c92 : f_ref3_Minus.E) (c73 : f_ref3_Ones.E) (k n : Nat)  (s : St) : Option (List (Bool)) := atLoop (f_ref7_places.C c69 c57 c92 c73) k n [1, 1, 1, 1, 0, 1, 0] [] f_ref7_places.code (f_ref7_places.fin c69 c57 c92 c73) s
noncomputable def f_ref7_places.fr_l0 (x1 : Int) (x2 : (Bool) × (List (Int))) (x6 : List (Bool)) (x20 : List (Bool)) (x21 : Int) (x22 : Int) : St := ⟨(((((((List.replicate 52 V.un).set 1 (V.dat (.int .i64) x1)).set 2 (V.bp 600002 0 [])).set 6 (V.ref 500006 0 0 (List.length x6))).set 20 (V.dat (.sl 4 .bool) x20)).set 21 (V.dat (.int .i64) x21)).set 22 (V.dat (.int .i64) x22)), [⟨500006, 0, .arr 4 .bool x6⟩, ⟨600002, 0, .box (V.dat (.pair .bool (.sl 3 (.int .i64))) x2)⟩]⟩
noncomputable def f_ref7_places.M_l2 (c69 : f_ref7_Negative.E) (c57 : f_ref3_Small.E) (c92 : f_ref3_Minus.E) (c73 : f_ref3_Ones.E) (k n : Nat)  (s : St) : Option (List (Bool)) := atLoop (f_ref7_places.C c69 c57 c92 c73) k n [1, 1, 1, 1, 1, 0, 1, 0] [] f_ref7_places.code (f_ref7_places.fin c69 c57 c92 c73) s
noncomputable def f_ref7_places.fr_l2 (x2 : (Bool) × (List (Int))) (x6 : List (Bool)) (x36 : Int) (x37 : Int) : St := ⟨(((((List.replicate 52 V.un).set 2 (V.bp 600002 0 [])).set 6 (V.ref 500006 0 0 (List.length x6))).set 36 (V.dat (.int .i64) x36)).set 37 (V.dat (.int .i64) x37)), [⟨500006, 0, .arr 4 .bool x6⟩, ⟨600002, 0, .box (V.dat (.pair .bool (.sl 3 (.int .i64))) x2)⟩]⟩
theorem f_ref7_places.r (c69 : f_ref7_Negative.E) (c57 : f_ref3_Small.E) (c92 : f_ref3_Minus.E) (c73 : f_ref3_Ones.E) (k : Nat) (a0 : (Bool) × (List (Int))) (a1 : Int) : fn (f_ref7_places.C c69 c57 c92 c73) k Tryd.f74 f_ref7_places.A f_ref7_places.R (a0, a1) = f_ref7_places.b c69 c57 c92 c73 (fun x1 x2 x6 x20 x21 x22 => f_ref7_places.M_l0 c69 c57 c92 c73 k k  (f_ref7_places.fr_l0 x1 x2 x6 x20 x21 x22)) a0 a1 := by kernel_rfl
theorem f_ref7_places.z_l0 (c69 : f_ref7_Negative.E) (c57 : f_ref3_Small.E) (c92 : f_ref3_Minus.E) (c73 : f_ref3_Ones.E) (k : Nat)  (s : St) : f_ref7_places.M_l0 c69 c57 c92 c73 k 0  s = none := by kernel_rfl
theorem f_ref7_places.r_l0 (c69 : f_ref7_Negative.E) (c57 : f_ref3_Small.E) (c92 : f_ref3_Minus.E) (c73 : f_ref3_Ones.E) (k n : Nat)  (x1 : Int) (x2 : (Bool) × (List (Int))) (x6 : List (Bool)) (x20 : List (Bool)) (x21 : Int) (x22 : Int) : f_ref7_places.M_l0 c69 c57 c92 c73 k (n + 1)  (f_ref7_places.fr_l0 x1 x2 x6 x20 x21 x22) = f_ref7_places.b_l0 c69 c57 c92 c73 (fun x1 x2 x6 x20 x21 x22 => f_ref7_places.M_l0 c69 c57 c92 c73 k n  (f_ref7_places.fr_l0 x1 x2 x6 x20 x21 x22)) (fun x2 x6 x36 x37 => f_ref7_places.M_l2 c69 c57 c92 c73 k k  (f_ref7_places.fr_l2 x2 x6 x36 x37)) x1 x2 x6 x20 x21 x22 := by kernel_rfl
theorem f_ref7_places.z_l2 (c69 : f_ref7_Negative.E) (c57 : f_ref3_Small.E) (c92 : f_ref3_Minus.E) (c73 : f_ref3_Ones.E) (k : Nat)  (s : St) : f_ref7_places.M_l2 c69 c57 c92 c73 k 0  s = none := by kernel_rfl
theorem f_ref7_places.r_l2 (c69 : f_ref7_Negative.E) (c57 : f_ref3_Small.E) (c92 : f_ref3_Minus.E) (c73 : f_ref3_Ones.E) (k n : Nat)  (x2 : (Bool) × (List (Int))) (x6 : List (Bool)) (x36 : Int) (x37 : Int) : f_ref7_places.M_l2 c69 c57 c92 c73 k (n + 1)  (f_ref7_places.fr_l2 x2 x6 x36 x37) = f_ref7_places.b_l2 c69 c57 c92 c73 (fun x2 x6 x36 x37 => f_ref7_places.M_l2 c69 c57 c92 c73 k n  (f_ref7_places.fr_l2 x2 x6 x36 x37)) x2 x6 x36 x37 := by kernel_rfl
theorem f_ref7_places.e_l2 (c69 : f_ref7_Negative.E) (c57 : f_ref3_Small.E) (c92 : f_ref3_Minus.E) (c73 : f_ref3_Ones.E) (k n : Nat)  (x2 : (Bool) × (List (Int))) (x6 : List (Bool)) (x36 : Int) (x37 : Int) : f_ref7_places.M_l2 c69 c57 c92 c73 k n  (f_ref7_places.fr_l2 x2 x6 x36 x37) = f_ref7_places.l2 c69 c57 c92 c73 k  n x2 x6 x36 x37 := by
  induction n generalizing x2 x6 x36 x37 with
  | zero => rw [f_ref7_places.z_l2]; rfl
  | succ n ih =>
    rw [f_ref7_places.r_l2]
    simp only [ih]
    rfl
theorem f_ref7_places.e_l0 (c69 : f_ref7_Negative.E) (c57 : f_ref3_Small.E) (c92 : f_ref3_Minus.E) (c73 : f_ref3_Ones.E) (k n : Nat)  (x1 : Int) (x2 : (Bool) × (List (Int))) (x6 : List (Bool)) (x20 : List (Bool)) (x21 : Int) (x22 : Int) : f_ref7_places.M_l0 c69 c57 c92 c73 k n  (f_ref7_places.fr_l0 x1 x2 x6 x20 x21 x22) = f_ref7_places.l0 c69 c57 c92 c73 k  n x1 x2 x6 x20 x21 x22 := by
  induction n generalizing x1 x2 x6 x20 x21 x22 with
  | zero => rw [f_ref7_places.z_l0]; rfl
  | succ n ih =>
    rw [f_ref7_places.r_l0]
    simp only [f_ref7_places.e_l2, ih]
    rfl
theorem f_ref7_places.e (c69 : f_ref7_Negative.E) (c57 : f_ref3_Small.E) (c92 : f_ref3_Minus.E) (c73 : f_ref3_Ones.E) (k : Nat) (a0 : (Bool) × (List (Int))) (a1 : Int) : fn (f_ref7_places.C c69 c57 c92 c73) k Tryd.f74 f_ref7_places.A f_ref7_places.R (a0, a1) = f_ref7_places.f c69 c57 c92 c73 k a0 a1 := by
  rw [f_ref7_places.r]
  simp only [f_ref7_places.e_l0]
  rfl
theorem f_ref7_places.ty (c69 : f_ref7_Negative.E) (c57 : f_ref3_Small.E) (c92 : f_ref3_Minus.E) (c73 : f_ref3_Ones.E) : TyOk Tryd.prog (f_ref7_places.C c69 c57 c92 c73) := tyOk_of (by kernel_rfl)
def f_ref7_places.u (k : Nat) : f_ref7_places.E := fun y => f_ref7_places.f (f_ref7_Negative.u k) (f_ref3_Small.u k) (f_ref3_Minus.u k) (f_ref3_Ones.u k) k y.1 y.2
theorem f_ref7_places.sound (k : Nat) : Sound Tryd.prog ⟨74, f_ref7_places.A, f_ref7_places.R, f_ref7_places.u k⟩ := by
  have h := fn_sound (k := k) («as» := f_ref7_places.A) (rs := f_ref7_places.R) (f_ref7_places.ty (f_ref7_Negative.u k) (f_ref3_Small.u k) (f_ref3_Minus.u k) (f_ref3_Ones.u k)) (fun E h => by
    simp only [f_ref7_places.C, List.mem_cons, List.not_mem_nil, or_false] at h
    rcases h with rfl | rfl | rfl | rfl
    · exact f_ref7_Negative.sound k
    · exact f_ref3_Small.sound k
    · exact f_ref3_Minus.sound k
    · exact f_ref3_Ones.sound k) mixed Tryd.func74 (by kernel_rfl) (by kernel_rfl)
  have e : fn (f_ref7_places.C (f_ref7_Negative.u k) (f_ref3_Small.u k) (f_ref3_Minus.u k) (f_ref3_Ones.u k)) k Tryd.f74 f_ref7_places.A f_ref7_places.R = f_ref7_places.u k := by
    funext y
    exact f_ref7_places.e (f_ref7_Negative.u k) (f_ref3_Small.u k) (f_ref3_Minus.u k) (f_ref3_Ones.u k) k y.1 y.2
  rw [e] at h
  exact h
/-! ### brindlewood/brindlewoodref7.fromPlaces: f76 -/
abbrev f_ref7_fromPlaces.A : List Sh := [(.o 4 .bool)]
abbrev f_ref7_fromPlaces.R : List Sh := [(.d (.pair .bool (.sl 3 (.int .i64))))]
abbrev f_ref7_fromPlaces.E : Type := (List (Bool)) → Option X_Int
def f_ref7_fromPlaces.C (c101 : f_ref3_Binary.E) (c57 : f_ref3_Small.E) (c93 : f_ref3_Plus.E) : Ctx := { ty := [(3, (.int .i64)), (4, .bool), (41, (.pair .bool (.sl 3 (.int .i64)))), (46, (.sl 4 .bool))], nf := [(41, 2)], by_ := [(4, 1)], env := [⟨101, f_ref3_Binary.A, f_ref3_Binary.R, c101⟩, ⟨57, f_ref3_Small.A, f_ref3_Small.R, c57⟩, ⟨93, f_ref3_Plus.A, f_ref3_Plus.R, c93⟩], spec := [(0, [.o 0 500000 4 .bool, .bx 2 600002 (.pair (.d .bool) (.o 3 (.int .i64))), .d 17 (.int .i64), .d 18 (.int .i64)])] }
noncomputable def f_ref7_fromPlaces.code : Code := Func.code Tryd.f76
noncomputable def f_ref7_fromPlaces.fin (c101 : f_ref3_Binary.E) (c57 : f_ref3_Small.E) (c93 : f_ref3_Plus.E) := kfin (f_ref7_fromPlaces.C c101 c57 c93) Tryd.f76 f_ref7_fromPlaces.A f_ref7_fromPlaces.R
def f_ref7_fromPlaces.b (c101 : f_ref3_Binary.E) (c57 : f_ref3_Small.E) (c93 : f_ref3_Plus.E) (r_l0 : (List (Bool)) → X_Int → (Int) → (Int) → Option X_Int) (a0 : List (Bool)) : Option X_Int :=
  if 0 ≤ (IntKind.i64.wrap ((((List.length a0) : Nat) : Int) - (1 : Int))) ∧ (IntKind.i64.wrap ((((List.length a0) : Nat) : Int) - (1 : Int))) < (((List.length a0) : Nat) : Int) then
    bif (!(List.getD a0 (0 + Int.toNat (IntKind.i64.wrap ((((List.length a0) : Nat) : Int) - (1 : Int)))) false)) then
      (c101 (List.take (List.length a0) a0)).bind fun y1 =>
        some (false, y1)
    else
      r_l0 (List.take (List.length a0) a0) (false, ([] : List (Int))) (((List.length a0) : Nat) : Int) (0 : Int)
  else none
def f_ref7_fromPlaces.b_l0 (c101 : f_ref3_Binary.E) (c57 : f_ref3_Small.E) (c93 : f_ref3_Plus.E) (n_l0 : (List (Bool)) → X_Int → (Int) → (Int) → Option X_Int) (x0 : List (Bool)) (x2 : (Bool) × (List (Int))) (x17 : Int) (x18 : Int) : Option X_Int :=
  bif (decide (x18 < x17)) then
    if 0 ≤ x18 ∧ x18 < (((List.length x0) : Nat) : Int) then
      if 0 ≤ x18 ∧ x18 < (((List.length x0) : Nat) : Int) then
        n_l0 (List.take (List.length x0) (List.set x0 (0 + Int.toNat x18) (!(List.getD x0 (0 + Int.toNat x18) false)))) (x2.1, (List.take (List.length x2.2) x2.2)) x17 (IntKind.i64.wrap (x18 + (1 : Int)))
      else none
    else none
  else
    (c101 (List.take (List.length x0) x0)).bind fun y2 =>
      (c57 (1 : Int)).bind fun y3 =>
        (c93 (y2, y3)).bind fun y4 =>
          some (true, y4)
def f_ref7_fromPlaces.c (c101 : f_ref3_Binary.E) (c57 : f_ref3_Small.E) (c93 : f_ref3_Plus.E) (r_l0 : (List (Bool)) → X_Int → (Int) → (Int) → Option X_Int) (a0 : List (Bool)) : Option X_Int :=
  if 0 ≤ (IntKind.i64.wrap (((List.length a0) : Int) - (1 : Int))) ∧ (IntKind.i64.wrap (((List.length a0) : Int) - (1 : Int))) < ((List.length a0) : Int) then
    bif (! (List.getD a0 (0 + Int.toNat (IntKind.i64.wrap (((List.length a0) : Int) - (1 : Int)))) false)) then
      (c101 a0).bind fun y1 =>
        some (false, y1)
    else
      r_l0 a0 (false, ([] : List Int)) ((List.length a0) : Int) (0 : Int)
  else none
theorem f_ref7_fromPlaces.q (c101 : f_ref3_Binary.E) (c57 : f_ref3_Small.E) (c93 : f_ref3_Plus.E) (r_l0 : (List (Bool)) → X_Int → (Int) → (Int) → Option X_Int) (a0 : List (Bool)) : f_ref7_fromPlaces.b c101 c57 c93 r_l0 a0 = f_ref7_fromPlaces.c c101 c57 c93 r_l0 a0 := by
  simp only [f_ref7_fromPlaces.b, f_ref7_fromPlaces.c, List.take_length, take_one, Nat.zero_add, Int.toNat_natCast, Int.toNat_zero, List.drop_zero, List.append_eq, Nat.le_refl, Int.le_refl, true_and, and_true, zero_le_one, if_true, prod_eta, Int.natCast_zero]
def f_ref7_fromPlaces.c_l0 (c101 : f_ref3_Binary.E) (c57 : f_ref3_Small.E) (c93 : f_ref3_Plus.E) (n_l0 : (List (Bool)) → X_Int → (Int) → (Int) → Option X_Int) (x0 : List (Bool)) (x2 : (Bool) × (List (Int))) (x17 : Int) (x18 : Int) : Option X_Int :=
  bif (decide (x18 < x17)) then
    if 0 ≤ x18 ∧ x18 < ((List.length x0) : Int) then
      if 0 ≤ x18 ∧ x18 < ((List.length x0) : Int) then
        n_l0 (List.take (List.length x0) (List.set x0 (0 + Int.toNat x18) (! (List.getD x0 (0 + Int.toNat x18) false)))) x2 x17 (IntKind.i64.wrap (x18 + (1 : Int)))
      else none
    else none
  else
    (c101 x0).bind fun y2 =>
      (c57 (1 : Int)).bind fun y3 =>
        (c93 (y2, y3)).bind fun y4 =>
          some (true, y4)
theorem f_ref7_fromPlaces.q_l0 (c101 : f_ref3_Binary.E) (c57 : f_ref3_Small.E) (c93 : f_ref3_Plus.E) (n_l0 : (List (Bool)) → X_Int → (Int) → (Int) → Option X_Int) (x0 : List (Bool)) (x2 : (Bool) × (List (Int))) (x17 : Int) (x18 : Int) : f_ref7_fromPlaces.b_l0 c101 c57 c93 n_l0 x0 x2 x17 x18 = f_ref7_fromPlaces.c_l0 c101 c57 c93 n_l0 x0 x2 x17 x18 := by
  simp only [f_ref7_fromPlaces.b_l0, f_ref7_fromPlaces.c_l0, List.take_length, take_one, Nat.zero_add, Int.toNat_natCast, Int.toNat_zero, List.drop_zero, List.append_eq, Nat.le_refl, Int.le_refl, true_and, and_true, zero_le_one, if_true, prod_eta, Int.natCast_zero]
def f_ref7_fromPlaces.l0 (c101 : f_ref3_Binary.E) (c57 : f_ref3_Small.E) (c93 : f_ref3_Plus.E) (k : Nat)  : Nat → (List (Bool)) → X_Int → (Int) → (Int) → Option X_Int
  | 0, _, _, _, _ => none
  | n + 1, x0, x2, x17, x18 => f_ref7_fromPlaces.b_l0 c101 c57 c93 (fun x0 x2 x17 x18 => f_ref7_fromPlaces.l0 c101 c57 c93 k  n x0 x2 x17 x18) x0 x2 x17 x18
def f_ref7_fromPlaces.f (c101 : f_ref3_Binary.E) (c57 : f_ref3_Small.E) (c93 : f_ref3_Plus.E) (k : Nat) (a0 : List (Bool)) : Option X_Int := f_ref7_fromPlaces.b c101 c57 c93 (f_ref7_fromPlaces.l0 c101 c57 c93 k k) a0
noncomputable def f_ref7_fromPlaces.M_l0 (c101 : f_ref3_Binary.E) (c57 : f_ref3_Small.E) (c93 : f_ref3_Plus.E) (k n : Nat)  (s : St) : Option X_Int := atLoop (f_ref7_fromPlaces.C c101 c57 c93) k n [1, 1, 1, 0, 1, 0] [] f_ref7_fromPlaces.code (f_ref7_fromPlaces.fin c101 c57 c93) s
noncomputable def f_ref7_fromPlaces.fr_l0 (x0 : List (Bool)) (x2 : (Bool) × (List (Int))) (x17 : Int) (x18 : Int) : St := ⟨(((((List.replicate 35 V.un).set 0 (V.ref 500000 0 0 (List.length x0))).set 2 (V.bp 600002 0 [])).set 17 (V.dat (.int .i64) x17)).set 18 (V.dat (.int .i64) x18)), [⟨600002, 0, .box (V.st (V.dat .bool x2.1) (V.ref 11600032 0 0 (List.length x2.2)))⟩, ⟨11600032, 0, .arr 3 (.int .i64) x2.2⟩, ⟨500000, 0, .arr 4 .bool x0⟩]⟩
theorem f_ref7_fromPlaces.r (c101 : f_ref3_Binary.E) (c57 : f_ref3_Small.E) (c93 : f_ref3_Plus.E) (k : Nat) (a0 : List (Bool)) : fn (f_ref7_fromPlaces.C c101 c57 c93) k Tryd.f76 f_ref7_fromPlaces.A f_ref7_fromPlaces.R a0 = f_ref7_fromPlaces.b c101 c57 c93 (fun x0 x2 x17 x18 => f_ref7_fromPlaces.M_l0 c101 c57 c93 k k  (f_ref7_fromPlaces.fr_l0 x0 x2 x17 x18)) a0 := by kernel_rfl
theorem f_ref7_fromPlaces.z_l0 (c101 : f_ref3_Binary.E) (c57 : f_ref3_Small.E) (c93 : f_ref3_Plus.E) (k : Nat)  (s : St) : f_ref7_fromPlaces.M_l0 c101 c57 c93 k 0  s = none := by kernel_rfl
theorem f_ref7_fromPlaces.r_l0 (c101 : f_ref3_Binary.E) (c57 : f_ref3_Small.E) (c93 : f_ref3_Plus.E) (k n : Nat)  (x0 : List (Bool)) (x2 : (Bool) × (List (Int))) (x17 : Int) (x18 : Int) : f_ref7_fromPlaces.M_l0 c101 c57 c93 k (n + 1)  (f_ref7_fromPlaces.fr_l0 x0 x2 x17 x18) = f_ref7_fromPlaces.b_l0 c101 c57 c93 (fun x0 x2 x17 x18 => f_ref7_fromPlaces.M_l0 c101 c57 c93 k n  (f_ref7_fromPlaces.fr_l0 x0 x2 x17 x18)) x0 x2 x17 x18 := by kernel_rfl
theorem f_ref7_fromPlaces.e_l0 (c101 : f_ref3_Binary.E) (c57 : f_ref3_Small.E) (c93 : f_ref3_Plus.E) (k n : Nat)  (x0 : List (Bool)) (x2 : (Bool) × (List (Int))) (x17 : Int) (x18 : Int) : f_ref7_fromPlaces.M_l0 c101 c57 c93 k n  (f_ref7_fromPlaces.fr_l0 x0 x2 x17 x18) = f_ref7_fromPlaces.l0 c101 c57 c93 k  n x0 x2 x17 x18 := by
  induction n generalizing x0 x2 x17 x18 with
  | zero => rw [f_ref7_fromPlaces.z_l0]; rfl
  | succ n ih =>
    rw [f_ref7_fromPlaces.r_l0]
    simp only [ih]
    rfl
theorem f_ref7_fromPlaces.e (c101 : f_ref3_Binary.E) (c57 : f_ref3_Small.E) (c93 : f_ref3_Plus.E) (k : Nat) (a0 : List (Bool)) : fn (f_ref7_fromPlaces.C c101 c57 c93) k Tryd.f76 f_ref7_fromPlaces.A f_ref7_fromPlaces.R a0 = f_ref7_fromPlaces.f c101 c57 c93 k a0 := by
  rw [f_ref7_fromPlaces.r]
  simp only [f_ref7_fromPlaces.e_l0]
  rfl
theorem f_ref7_fromPlaces.ty (c101 : f_ref3_Binary.E) (c57 : f_ref3_Small.E) (c93 : f_ref3_Plus.E) : TyOk Tryd.prog (f_ref7_fromPlaces.C c101 c57 c93) := tyOk_of (by kernel_rfl)
def f_ref7_fromPlaces.u (k : Nat) : f_ref7_fromPlaces.E := fun y => f_ref7_fromPlaces.f (f_ref3_Binary.u k) (f_ref3_Small.u k) (f_ref3_Plus.u k) k y
theorem f_ref7_fromPlaces.sound (k : Nat) : Sound Tryd.prog ⟨76, f_ref7_fromPlaces.A, f_ref7_fromPlaces.R, f_ref7_fromPlaces.u k⟩ := by
  have h := fn_sound (k := k) («as» := f_ref7_fromPlaces.A) (rs := f_ref7_fromPlaces.R) (f_ref7_fromPlaces.ty (f_ref3_Binary.u k) (f_ref3_Small.u k) (f_ref3_Plus.u k)) (fun E h => by
    simp only [f_ref7_fromPlaces.C, List.mem_cons, List.not_mem_nil, or_false] at h
    rcases h with rfl | rfl | rfl
    · exact f_ref3_Binary.sound k
    · exact f_ref3_Small.sound k
    · exact f_ref3_Plus.sound k) mixed Tryd.func76 (by kernel_rfl) (by kernel_rfl)
  have e : fn (f_ref7_fromPlaces.C (f_ref3_Binary.u k) (f_ref3_Small.u k) (f_ref3_Plus.u k)) k Tryd.f76 f_ref7_fromPlaces.A f_ref7_fromPlaces.R = f_ref7_fromPlaces.u k := by
    funext y
    exact f_ref7_fromPlaces.e (f_ref3_Binary.u k) (f_ref3_Small.u k) (f_ref3_Plus.u k) k y
  rw [e] at h
  exact h
/-! ### brindlewood/brindlewoodref7.integer: f75 -/
abbrev f_ref7_integer.A : List Sh := [(.d (.pair .bool (.sl 3 (.int .i64))))]
abbrev f_ref7_integer.R : List Sh := [(.d Y_Step)]
abbrev f_ref7_integer.E : Type := X_Int → Option X_Step
def f_ref7_integer.C (c36 : f_ref3_Whole.E) (c29 : f_ref7_number.E) : Ctx := { ty := [(33, Y_Step), (41, (.pair .bool (.sl 3 (.int .i64))))], nf := [], by_ := [], env := [⟨36, f_ref3_Whole.A, f_ref3_Whole.R, c36⟩, ⟨29, f_ref7_number.A, f_ref7_number.R, c29⟩], spec := [] }
noncomputable def f_ref7_integer.code : Code := Func.code Tryd.f75
noncomputable def f_ref7_integer.fin (c36 : f_ref3_Whole.E) (c29 : f_ref7_number.E) := kfin (f_ref7_integer.C c36 c29) Tryd.f75 f_ref7_integer.A f_ref7_integer.R
def f_ref7_integer.b (c36 : f_ref3_Whole.E) (c29 : f_ref7_number.E)  (a0 : (Bool) × (List (Int))) : Option X_Step :=
  (c36 a0).bind fun y1 =>
    (c29 y1).bind fun y2 =>
      some y2
def f_ref7_integer.f (c36 : f_ref3_Whole.E) (c29 : f_ref7_number.E) (k : Nat) (a0 : (Bool) × (List (Int))) : Option X_Step := f_ref7_integer.b c36 c29  a0
theorem f_ref7_integer.r (c36 : f_ref3_Whole.E) (c29 : f_ref7_number.E) (k : Nat) (a0 : (Bool) × (List (Int))) : fn (f_ref7_integer.C c36 c29) k Tryd.f75 f_ref7_integer.A f_ref7_integer.R a0 = f_ref7_integer.b c36 c29  a0 := by kernel_rfl
theorem f_ref7_integer.e (c36 : f_ref3_Whole.E) (c29 : f_ref7_number.E) (k : Nat) (a0 : (Bool) × (List (Int))) : fn (f_ref7_integer.C c36 c29) k Tryd.f75 f_ref7_integer.A f_ref7_integer.R a0 = f_ref7_integer.f c36 c29 k a0 := by
  rw [f_ref7_integer.r]
  rfl
theorem f_ref7_integer.ty (c36 : f_ref3_Whole.E) (c29 : f_ref7_number.E) : TyOk Tryd.prog (f_ref7_integer.C c36 c29) := tyOk_of (by kernel_rfl)
def f_ref7_integer.u (k : Nat) : f_ref7_integer.E := fun y => f_ref7_integer.f (f_ref3_Whole.u k) (f_ref7_number.u k) k y
theorem f_ref7_integer.sound (k : Nat) : Sound Tryd.prog ⟨75, f_ref7_integer.A, f_ref7_integer.R, f_ref7_integer.u k⟩ := by
  have h := fn_sound (k := k) («as» := f_ref7_integer.A) (rs := f_ref7_integer.R) (f_ref7_integer.ty (f_ref3_Whole.u k) (f_ref7_number.u k)) (fun E h => by
    simp only [f_ref7_integer.C, List.mem_cons, List.not_mem_nil, or_false] at h
    rcases h with rfl | rfl
    · exact f_ref3_Whole.sound k
    · exact f_ref7_number.sound k) mixed Tryd.func75 (by kernel_rfl) (by kernel_rfl)
  have e : fn (f_ref7_integer.C (f_ref3_Whole.u k) (f_ref7_number.u k)) k Tryd.f75 f_ref7_integer.A f_ref7_integer.R = f_ref7_integer.u k := by
    funext y
    exact f_ref7_integer.e (f_ref3_Whole.u k) (f_ref7_number.u k) k y
  rw [e] at h
  exact h
/-! ### brindlewood/brindlewoodref7.N: f77 -/
abbrev f_ref7_N.A : List Sh := [(.d (.int .i64))]
abbrev f_ref7_N.R : List Sh := [(.d Y_Value)]
abbrev f_ref7_N.E : Type := (Int) → Option X_Value
def f_ref7_N.C (c70 : f_ref3_Number.E) (c98 : f_ref7_Whole.E) : Ctx := { ty := [(26, Y_Value)], nf := [], by_ := [], env := [⟨70, f_ref3_Number.A, f_ref3_Number.R, c70⟩, ⟨98, f_ref7_Whole.A, f_ref7_Whole.R, c98⟩], spec := [] }
noncomputable def f_ref7_N.code : Code := Func.code Tryd.f77
noncomputable def f_ref7_N.fin (c70 : f_ref3_Number.E) (c98 : f_ref7_Whole.E) := kfin (f_ref7_N.C c70 c98) Tryd.f77 f_ref7_N.A f_ref7_N.R
def f_ref7_N.b (c70 : f_ref3_Number.E) (c98 : f_ref7_Whole.E)  (a0 : Int) : Option X_Value :=
  (c70 a0).bind fun y1 =>
    (c98 y1).bind fun y2 =>
      some y2
def f_ref7_N.f (c70 : f_ref3_Number.E) (c98 : f_ref7_Whole.E) (k : Nat) (a0 : Int) : Option X_Value := f_ref7_N.b c70 c98  a0
theorem f_ref7_N.r (c70 : f_ref3_Number.E) (c98 : f_ref7_Whole.E) (k : Nat) (a0 : Int) : fn (f_ref7_N.C c70 c98) k Tryd.f77 f_ref7_N.A f_ref7_N.R a0 = f_ref7_N.b c70 c98  a0 := by kernel_rfl
theorem f_ref7_N.e (c70 : f_ref3_Number.E) (c98 : f_ref7_Whole.E) (k : Nat) (a0 : Int) : fn (f_ref7_N.C c70 c98) k Tryd.f77 f_ref7_N.A f_ref7_N.R a0 = f_ref7_N.f c70 c98 k a0 := by
  rw [f_ref7_N.r]
  rfl
theorem f_ref7_N.ty (c70 : f_ref3_Number.E) (c98 : f_ref7_Whole.E) : TyOk Tryd.prog (f_ref7_N.C c70 c98) := tyOk_of (by kernel_rfl)
def f_ref7_N.u (k : Nat) : f_ref7_N.E := fun y => f_ref7_N.f (f_ref3_Number.u k) (f_ref7_Whole.u k) k y
theorem f_ref7_N.sound (k : Nat) : Sound Tryd.prog ⟨77, f_ref7_N.A, f_ref7_N.R, f_ref7_N.u k⟩ := by
  have h := fn_sound (k := k) («as» := f_ref7_N.A) (rs := f_ref7_N.R) (f_ref7_N.ty (f_ref3_Number.u k) (f_ref7_Whole.u k)) (fun E h => by
    simp only [f_ref7_N.C, List.mem_cons, List.not_mem_nil, or_false] at h
    rcases h with rfl | rfl
    · exact f_ref3_Number.sound k
    · exact f_ref7_Whole.sound k) mixed Tryd.func77 (by kernel_rfl) (by kernel_rfl)
  have e : fn (f_ref7_N.C (f_ref3_Number.u k) (f_ref7_Whole.u k)) k Tryd.f77 f_ref7_N.A f_ref7_N.R = f_ref7_N.u k := by
    funext y
    exact f_ref7_N.e (f_ref3_Number.u k) (f_ref7_Whole.u k) k y
  rw [e] at h
  exact h
end
end Go.Ab
