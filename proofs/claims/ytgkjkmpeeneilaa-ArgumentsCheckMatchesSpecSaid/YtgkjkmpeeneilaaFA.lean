/- A part of the proof: FA. -/
import Derived.Test.YtgkjkmpeeneilaaFTy
namespace Go.Ab
set_option linter.unusedVariables false
set_option maxRecDepth 100000
noncomputable section
open Go.Proofs
/-! ### slices.Index[[]int,int]: f10 -/
abbrev F10.A : List Sh := [(.d (.sl 3 (.int .i64))), (.d (.int .i64))]
abbrev F10.R : List Sh := [(.d (.int .i64))]
abbrev F10.E : Type := ((List (Int)) × (Int)) → Option (Int)
def F10.C  : Ctx := { ty := [(3, (.int .i64)), (22, (.sl 3 (.int .i64)))], nf := [], by_ := [(3, 8)], env := [], spec := [(0, [.d 0 (.sl 3 (.int .i64)), .d 1 (.int .i64), .d 7 (.int .i64), .d 8 (.int .i64)])] }
noncomputable def F10.code : Code := Func.code Try.f10
noncomputable def F10.fin  := kfin (F10.C ) Try.f10 F10.A F10.R
def F10.b  (r_l0 : (List (Int)) → (Int) → (Int) → (Int) → Option (Int)) (a0 : List (Int)) (a1 : Int) : Option (Int) :=
  r_l0 a0 a1 ((List.length a0) : Int) (0 : Int)
def F10.b_l0  (n_l0 : (List (Int)) → (Int) → (Int) → (Int) → Option (Int)) (x0 : List (Int)) (x1 : Int) (x7 : Int) (x8 : Int) : Option (Int) :=
  bif (decide (x8 < x7)) then
    if 0 ≤ x8 ∧ x8 < ((List.length x0) : Int) then
      bif (x1 == (List.getD x0 (Int.toNat x8) (0 : Int))) then
        some x8
      else
        n_l0 x0 x1 x7 (IntKind.i64.wrap (x8 + (1 : Int)))
    else none
  else
    some (-1 : Int)
def F10.l0  (k : Nat)  : Nat → (List (Int)) → (Int) → (Int) → (Int) → Option (Int)
  | 0, _, _, _, _ => none
  | n + 1, x0, x1, x7, x8 => F10.b_l0  (fun x0 x1 x7 x8 => F10.l0  k  n x0 x1 x7 x8) x0 x1 x7 x8
def F10.f  (k : Nat) (a0 : List (Int)) (a1 : Int) : Option (Int) := F10.b  (F10.l0  k k) a0 a1
noncomputable def F10.M_l0  (k n : Nat)  (s : St) : Option (Int) := atLoop (F10.C ) k n [1, 0, 1, 0] [] F10.code (F10.fin ) s
noncomputable def F10.fr_l0 (x0 : List (Int)) (x1 : Int) (x7 : Int) (x8 : Int) : St := ⟨(((((List.replicate 19 V.un).set 0 (V.dat (.sl 3 (.int .i64)) x0)).set 1 (V.dat (.int .i64) x1)).set 7 (V.dat (.int .i64) x7)).set 8 (V.dat (.int .i64) x8)), []⟩
theorem F10.r  (k : Nat) (a0 : List (Int)) (a1 : Int) : fn (F10.C ) k Try.f10 F10.A F10.R (a0, a1) = F10.b  (fun x0 x1 x7 x8 => F10.M_l0  k k  (F10.fr_l0 x0 x1 x7 x8)) a0 a1 := by kernel_rfl
theorem F10.z_l0  (k : Nat)  (s : St) : F10.M_l0  k 0  s = none := by kernel_rfl
theorem F10.r_l0  (k n : Nat)  (x0 : List (Int)) (x1 : Int) (x7 : Int) (x8 : Int) : F10.M_l0  k (n + 1)  (F10.fr_l0 x0 x1 x7 x8) = F10.b_l0  (fun x0 x1 x7 x8 => F10.M_l0  k n  (F10.fr_l0 x0 x1 x7 x8)) x0 x1 x7 x8 := by kernel_rfl
theorem F10.e_l0  (k n : Nat)  (x0 : List (Int)) (x1 : Int) (x7 : Int) (x8 : Int) : F10.M_l0  k n  (F10.fr_l0 x0 x1 x7 x8) = F10.l0  k  n x0 x1 x7 x8 := by
  induction n generalizing x0 x1 x7 x8 with
  | zero => rw [F10.z_l0]; rfl
  | succ n ih =>
    rw [F10.r_l0]
    simp only [ih]
    rfl
theorem F10.e  (k : Nat) (a0 : List (Int)) (a1 : Int) : fn (F10.C ) k Try.f10 F10.A F10.R (a0, a1) = F10.f  k a0 a1 := by
  rw [F10.r]
  simp only [F10.e_l0]
  rfl
def F10.u (k : Nat) : F10.E := fun y => F10.f  k y.1 y.2
theorem F10.ty  : TyOk Try.prog (F10.C ) := tyOk_of (by kernel_rfl)
theorem F10.sound (k : Nat) : Sound Try.prog ⟨10, F10.A, F10.R, F10.u k⟩ := by
  have h := fn_sound (k := k) («as» := F10.A) (rs := F10.R) (F10.ty ) (fun E h => by cases h) mixed Try.func10 (by kernel_rfl) (by kernel_rfl)
  have e : fn (F10.C ) k Try.f10 F10.A F10.R = F10.u k := by
    funext y
    exact F10.e  k y.1 y.2
  rw [e] at h
  exact h
/-! ### brindlewood/arguments.fault: f30 -/
abbrev F30.A : List Sh := [(.d (.int .i64)), (.d (.int .i64))]
abbrev F30.R : List Sh := [(.d Y26)]
abbrev F30.E : Type := X26 → Option X26
def F30.C  : Ctx := { ty := [(27, Y26)], nf := [(27, 2)], by_ := [], env := [], spec := [] }
noncomputable def F30.code : Code := Func.code Try.f30
noncomputable def F30.fin  := kfin (F30.C ) Try.f30 F30.A F30.R
def F30.b   (a0 : Int) (a1 : Int) : Option X26 :=
  some (a0, a1)
def F30.f  (k : Nat) (a0 : Int) (a1 : Int) : Option X26 := F30.b   a0 a1
theorem F30.r  (k : Nat) (a0 : Int) (a1 : Int) : fn (F30.C ) k Try.f30 F30.A F30.R (a0, a1) = F30.b   a0 a1 := by kernel_rfl
theorem F30.e  (k : Nat) (a0 : Int) (a1 : Int) : fn (F30.C ) k Try.f30 F30.A F30.R (a0, a1) = F30.f  k a0 a1 := by
  rw [F30.r]
  rfl
def F30.u (k : Nat) : F30.E := fun y => F30.f  k y.1 y.2
theorem F30.ty  : TyOk Try.prog (F30.C ) := tyOk_of (by kernel_rfl)
theorem F30.sound (k : Nat) : Sound Try.prog ⟨30, F30.A, F30.R, F30.u k⟩ := by
  have h := fn_sound (k := k) («as» := F30.A) (rs := F30.R) (F30.ty ) (fun E h => by cases h) mixed Try.func30 (by kernel_rfl) (by kernel_rfl)
  have e : fn (F30.C ) k Try.f30 F30.A F30.R = F30.u k := by
    funext y
    exact F30.e  k y.1 y.2
  rw [e] at h
  exact h
/-! ### brindlewood/brindlewoodref7.At: f34 -/
abbrev F34.A : List Sh := [(.d (.int .i64)), (.d (.int .i64))]
abbrev F34.R : List Sh := [(.d Y26)]
abbrev F34.E : Type := X26 → Option X26
def F34.C  : Ctx := { ty := [(27, Y26)], nf := [(27, 2)], by_ := [], env := [], spec := [] }
noncomputable def F34.code : Code := Func.code Try.f34
noncomputable def F34.fin  := kfin (F34.C ) Try.f34 F34.A F34.R
def F34.b   (a0 : Int) (a1 : Int) : Option X26 :=
  some (a0, a1)
def F34.f  (k : Nat) (a0 : Int) (a1 : Int) : Option X26 := F34.b   a0 a1
theorem F34.r  (k : Nat) (a0 : Int) (a1 : Int) : fn (F34.C ) k Try.f34 F34.A F34.R (a0, a1) = F34.b   a0 a1 := by kernel_rfl
theorem F34.e  (k : Nat) (a0 : Int) (a1 : Int) : fn (F34.C ) k Try.f34 F34.A F34.R (a0, a1) = F34.f  k a0 a1 := by
  rw [F34.r]
  rfl
def F34.u (k : Nat) : F34.E := fun y => F34.f  k y.1 y.2
theorem F34.ty  : TyOk Try.prog (F34.C ) := tyOk_of (by kernel_rfl)
theorem F34.sound (k : Nat) : Sound Try.prog ⟨34, F34.A, F34.R, F34.u k⟩ := by
  have h := fn_sound (k := k) («as» := F34.A) (rs := F34.R) (F34.ty ) (fun E h => by cases h) mixed Try.func34 (by kernel_rfl) (by kernel_rfl)
  have e : fn (F34.C ) k Try.f34 F34.A F34.R = F34.u k := by
    funext y
    exact F34.e  k y.1 y.2
  rw [e] at h
  exact h
/-! ### brindlewood/arguments.isName$1: f62 -/
abbrev F62.A : List Sh := [(.d (.int .u8))]
abbrev F62.R : List Sh := [(.d .bool)]
abbrev F62.E : Type := (Int) → Option (Bool)
def F62.C  : Ctx := { ty := [(5, (.int .u8))], nf := [], by_ := [], env := [], spec := [] }
noncomputable def F62.code : Code := Func.code Try.f62
noncomputable def F62.fin  := kfin (F62.C ) Try.f62 F62.A F62.R
def F62.b   (a0 : Int) : Option (Bool) :=
  bif (decide (a0 < (97 : Int))) then
    bif (decide (a0 < (65 : Int))) then
      bif (decide (a0 < (48 : Int))) then
        some (a0 != (95 : Int))
      else
        bif (decide (a0 > (57 : Int))) then
          some (a0 != (95 : Int))
        else
          some false
    else
      bif (decide (a0 > (90 : Int))) then
        bif (decide (a0 < (48 : Int))) then
          some (a0 != (95 : Int))
        else
          bif (decide (a0 > (57 : Int))) then
            some (a0 != (95 : Int))
          else
            some false
      else
        some false
  else
    bif (decide (a0 > (122 : Int))) then
      bif (decide (a0 < (65 : Int))) then
        bif (decide (a0 < (48 : Int))) then
          some (a0 != (95 : Int))
        else
          bif (decide (a0 > (57 : Int))) then
            some (a0 != (95 : Int))
          else
            some false
      else
        bif (decide (a0 > (90 : Int))) then
          bif (decide (a0 < (48 : Int))) then
            some (a0 != (95 : Int))
          else
            bif (decide (a0 > (57 : Int))) then
              some (a0 != (95 : Int))
            else
              some false
        else
          some false
    else
      some false
def F62.f  (k : Nat) (a0 : Int) : Option (Bool) := F62.b   a0
theorem F62.r  (k : Nat) (a0 : Int) : fn (F62.C ) k Try.f62 F62.A F62.R a0 = F62.b   a0 := by kernel_rfl
theorem F62.e  (k : Nat) (a0 : Int) : fn (F62.C ) k Try.f62 F62.A F62.R a0 = F62.f  k a0 := by
  rw [F62.r]
  rfl
def F62.u (k : Nat) : F62.E := fun y => F62.f  k y
theorem F62.ty  : TyOk Try.prog (F62.C ) := tyOk_of (by kernel_rfl)
theorem F62.sound (k : Nat) : Sound Try.prog ⟨62, F62.A, F62.R, F62.u k⟩ := by
  have h := fn_sound (k := k) («as» := F62.A) (rs := F62.R) (F62.ty ) (fun E h => by cases h) mixed Try.func62 (by kernel_rfl) (by kernel_rfl)
  have e : fn (F62.C ) k Try.f62 F62.A F62.R = F62.u k := by
    funext y
    exact F62.e  k y
  rw [e] at h
  exact h
/-! ### slices.IndexFunc[[]byte,byte]: f81 -/
abbrev F81.A : List Sh := [(.d (.sl 5 (.int .u8))), (.fn (.pair (.int .u8) .unit) .bool)]
abbrev F81.R : List Sh := [(.d (.int .i64))]
abbrev F81.E : Type := ((List (Int)) × (((Int) × (Unit)) → Option (Bool))) → Option (Int)
def F81.C  : Ctx := { ty := [(3, (.int .i64)), (5, (.int .u8)), (93, (.sl 5 (.int .u8)))], nf := [], by_ := [(5, 1)], env := [], spec := [(0, [.d 0 (.sl 5 (.int .u8)), .cp 1, .d 7 (.int .i64), .d 8 (.int .i64)])] }
noncomputable def F81.code : Code := Func.code Try.f81
noncomputable def F81.fin  := kfin (F81.C ) Try.f81 F81.A F81.R
def F81.b  (r_l0 : (List (Int)) → (((Int) × (Unit)) → Option (Bool)) → (Int) → (Int) → Option (Int)) (a0 : List (Int)) (a1 : ((Int) × (Unit)) → Option (Bool)) : Option (Int) :=
  r_l0 a0 a1 ((List.length a0) : Int) (0 : Int)
def F81.b_l0  (n_l0 : (List (Int)) → (((Int) × (Unit)) → Option (Bool)) → (Int) → (Int) → Option (Int)) (x0 : List (Int)) (x1 : ((Int) × (Unit)) → Option (Bool)) (x7 : Int) (x8 : Int) : Option (Int) :=
  bif (decide (x8 < x7)) then
    if 0 ≤ x8 ∧ x8 < ((List.length x0) : Int) then
      (x1 ((List.getD x0 (Int.toNat x8) (0 : Int)), ())).bind fun y1 =>
        bif y1 then
          some x8
        else
          n_l0 x0 x1 x7 (IntKind.i64.wrap (x8 + (1 : Int)))
    else none
  else
    some (-1 : Int)
def F81.l0  (k : Nat)  : Nat → (List (Int)) → (((Int) × (Unit)) → Option (Bool)) → (Int) → (Int) → Option (Int)
  | 0, _, _, _, _ => none
  | n + 1, x0, x1, x7, x8 => F81.b_l0  (fun x0 x1 x7 x8 => F81.l0  k  n x0 x1 x7 x8) x0 x1 x7 x8
def F81.f  (k : Nat) (a0 : List (Int)) (a1 : ((Int) × (Unit)) → Option (Bool)) : Option (Int) := F81.b  (F81.l0  k k) a0 a1
noncomputable def F81.M_l0  (k n : Nat)  (s : St) : Option (Int) := atLoop (F81.C ) k n [1, 0, 1, 0] [] F81.code (F81.fin ) s
noncomputable def F81.fr_l0 (x0 : List (Int)) (x1 : ((Int) × (Unit)) → Option (Bool)) (x7 : Int) (x8 : Int) : St := ⟨(((((List.replicate 19 V.un).set 0 (V.dat (.sl 5 (.int .u8)) x0)).set 1 (V.fnv (.pair (.int .u8) .unit) .bool x1)).set 7 (V.dat (.int .i64) x7)).set 8 (V.dat (.int .i64) x8)), []⟩
theorem F81.r  (k : Nat) (a0 : List (Int)) (a1 : ((Int) × (Unit)) → Option (Bool)) : fn (F81.C ) k Try.f81 F81.A F81.R (a0, a1) = F81.b  (fun x0 x1 x7 x8 => F81.M_l0  k k  (F81.fr_l0 x0 x1 x7 x8)) a0 a1 := by kernel_rfl
theorem F81.z_l0  (k : Nat)  (s : St) : F81.M_l0  k 0  s = none := by kernel_rfl
theorem F81.r_l0  (k n : Nat)  (x0 : List (Int)) (x1 : ((Int) × (Unit)) → Option (Bool)) (x7 : Int) (x8 : Int) : F81.M_l0  k (n + 1)  (F81.fr_l0 x0 x1 x7 x8) = F81.b_l0  (fun x0 x1 x7 x8 => F81.M_l0  k n  (F81.fr_l0 x0 x1 x7 x8)) x0 x1 x7 x8 := by kernel_rfl
theorem F81.e_l0  (k n : Nat)  (x0 : List (Int)) (x1 : ((Int) × (Unit)) → Option (Bool)) (x7 : Int) (x8 : Int) : F81.M_l0  k n  (F81.fr_l0 x0 x1 x7 x8) = F81.l0  k  n x0 x1 x7 x8 := by
  induction n generalizing x0 x1 x7 x8 with
  | zero => rw [F81.z_l0]; rfl
  | succ n ih =>
    rw [F81.r_l0]
    simp only [ih]
    rfl
theorem F81.e  (k : Nat) (a0 : List (Int)) (a1 : ((Int) × (Unit)) → Option (Bool)) : fn (F81.C ) k Try.f81 F81.A F81.R (a0, a1) = F81.f  k a0 a1 := by
  rw [F81.r]
  simp only [F81.e_l0]
  rfl
def F81.u (k : Nat) : F81.E := fun y => F81.f  k y.1 y.2
theorem F81.ty  : TyOk Try.prog (F81.C ) := tyOk_of (by kernel_rfl)
theorem F81.sound (k : Nat) : Sound Try.prog ⟨81, F81.A, F81.R, F81.u k⟩ := by
  have h := fn_sound (k := k) («as» := F81.A) (rs := F81.R) (F81.ty ) (fun E h => by cases h) mixed Try.func81 (by kernel_rfl) (by kernel_rfl)
  have e : fn (F81.C ) k Try.f81 F81.A F81.R = F81.u k := by
    funext y
    exact F81.e  k y.1 y.2
  rw [e] at h
  exact h
/-! ### slices.ContainsFunc[[]byte,byte]: f61 -/
abbrev F61.A : List Sh := [(.d (.sl 5 (.int .u8))), (.fn (.pair (.int .u8) .unit) .bool)]
abbrev F61.R : List Sh := [(.d .bool)]
abbrev F61.E : Type := ((List (Int)) × (((Int) × (Unit)) → Option (Bool))) → Option (Bool)
def F61.C (c81 : F81.E) : Ctx := { ty := [(3, (.int .i64))], nf := [], by_ := [], env := [⟨81, F81.A, F81.R, c81⟩], spec := [] }
noncomputable def F61.code : Code := Func.code Try.f61
noncomputable def F61.fin (c81 : F81.E) := kfin (F61.C c81) Try.f61 F61.A F61.R
def F61.b (c81 : F81.E)  (a0 : List (Int)) (a1 : ((Int) × (Unit)) → Option (Bool)) : Option (Bool) :=
  (c81 (a0, a1)).bind fun y1 =>
    some (decide (y1 ≥ (0 : Int)))
def F61.f (c81 : F81.E) (k : Nat) (a0 : List (Int)) (a1 : ((Int) × (Unit)) → Option (Bool)) : Option (Bool) := F61.b c81  a0 a1
theorem F61.r (c81 : F81.E) (k : Nat) (a0 : List (Int)) (a1 : ((Int) × (Unit)) → Option (Bool)) : fn (F61.C c81) k Try.f61 F61.A F61.R (a0, a1) = F61.b c81  a0 a1 := by kernel_rfl
theorem F61.e (c81 : F81.E) (k : Nat) (a0 : List (Int)) (a1 : ((Int) × (Unit)) → Option (Bool)) : fn (F61.C c81) k Try.f61 F61.A F61.R (a0, a1) = F61.f c81 k a0 a1 := by
  rw [F61.r]
  rfl
def F61.u (k : Nat) : F61.E := fun y => F61.f (F81.u k) k y.1 y.2
theorem F61.ty (c81 : F81.E) : TyOk Try.prog (F61.C c81) := tyOk_of (by kernel_rfl)
theorem F61.sound (k : Nat) : Sound Try.prog ⟨61, F61.A, F61.R, F61.u k⟩ := by
  have h := fn_sound (k := k) («as» := F61.A) (rs := F61.R) (F61.ty (F81.u k)) (fun E h => by
    simp only [F61.C, List.mem_cons, List.not_mem_nil, or_false] at h
    rcases h with rfl
    · exact F81.sound k) mixed Try.func61 (by kernel_rfl) (by kernel_rfl)
  have e : fn (F61.C (F81.u k)) k Try.f61 F61.A F61.R = F61.u k := by
    funext y
    exact F61.e (F81.u k) k y.1 y.2
  rw [e] at h
  exact h
/-! ### brindlewood/arguments.isName: f31 -/
abbrev F31.A : List Sh := [(.d .str)]
abbrev F31.R : List Sh := [(.d .bool)]
abbrev F31.E : Type := (List UInt8) → Option (Bool)
def F31.C (c61 : F61.E) (c62 : F62.E) : Ctx := { ty := [(3, (.int .i64)), (5, (.int .u8)), (9, .str), (93, (.sl 5 (.int .u8)))], nf := [], by_ := [(5, 1)], env := [⟨61, F61.A, F61.R, c61⟩, ⟨62, F62.A, F62.R, c62⟩], spec := [(100003, [.d 0 .str])] }
noncomputable def F31.code : Code := Func.code Try.f31
noncomputable def F31.fin (c61 : F61.E) (c62 : F62.E) := kfin (F31.C c61 c62) Try.f31 F31.A F31.R
def F31.b (c61 : F61.E) (c62 : F62.E) (r_g3 : (List UInt8) → Option (Bool)) (a0 : List UInt8) : Option (Bool) :=
  bif (a0 == []) then
    some false
  else
    bif (decide (((List.length a0) : Int) > (24 : Int))) then
      some false
    else
      if 0 ≤ (0 : Int) ∧ (0 : Int) < ((List.length a0) : Int) then
        bif (decide (((List.getD a0 (Int.toNat (0 : Int)) 0).toNat : Int) ≥ (48 : Int))) then
          if 0 ≤ (0 : Int) ∧ (0 : Int) < ((List.length a0) : Int) then
            bif (decide (((List.getD a0 (Int.toNat (0 : Int)) 0).toNat : Int) ≤ (57 : Int))) then
              some false
            else
              r_g3 a0
          else none
        else
          r_g3 a0
      else none
def F31.b_g3 (c61 : F61.E) (c62 : F62.E)  (x0 : List UInt8) : Option (Bool) :=
  (c61 ((List.map (fun c : UInt8 => (c.toNat : Int)) x0), (fun z1 => (c62 z1.1).bind some))).bind fun y2 =>
    some (!y2)
def F31.g3 (c61 : F61.E) (c62 : F62.E) (k : Nat)  (x0 : List UInt8) : Option (Bool) := gate k (F31.b_g3 c61 c62  x0)
def F31.f (c61 : F61.E) (c62 : F62.E) (k : Nat) (a0 : List UInt8) : Option (Bool) := F31.b c61 c62 (F31.g3 c61 c62 k) a0
noncomputable def F31.M_g3 (c61 : F61.E) (c62 : F62.E) (k : Nat)  (s : St) : Option (Bool) := atGate (F31.C c61 c62) k [1, 1, 0] [] F31.code (F31.fin c61 c62) s
noncomputable def F31.fr_g3 (x0 : List UInt8) : St := ⟨((List.replicate 24 V.un).set 0 (V.dat .str x0)), []⟩
theorem F31.r (c61 : F61.E) (c62 : F62.E) (k : Nat) (a0 : List UInt8) : fn (F31.C c61 c62) k Try.f31 F31.A F31.R a0 = F31.b c61 c62 (fun x0 => F31.M_g3 c61 c62 k   (F31.fr_g3 x0)) a0 := by kernel_rfl
theorem F31.r_g3 (c61 : F61.E) (c62 : F62.E) (k : Nat)  (x0 : List UInt8) : F31.M_g3 c61 c62 k  (F31.fr_g3 x0) = gate k (F31.b_g3 c61 c62  x0) := by kernel_rfl
theorem F31.e_g3 (c61 : F61.E) (c62 : F62.E) (k : Nat)  (x0 : List UInt8) : F31.M_g3 c61 c62 k  (F31.fr_g3 x0) = F31.g3 c61 c62 k  x0 := by
  rw [F31.r_g3]
  rfl
theorem F31.e (c61 : F61.E) (c62 : F62.E) (k : Nat) (a0 : List UInt8) : fn (F31.C c61 c62) k Try.f31 F31.A F31.R a0 = F31.f c61 c62 k a0 := by
  rw [F31.r]
  simp only [F31.e_g3]
  rfl
def F31.u (k : Nat) : F31.E := fun y => F31.f (F61.u k) (F62.u k) k y
theorem F31.ty (c61 : F61.E) (c62 : F62.E) : TyOk Try.prog (F31.C c61 c62) := tyOk_of (by kernel_rfl)
theorem F31.sound (k : Nat) : Sound Try.prog ⟨31, F31.A, F31.R, F31.u k⟩ := by
  have h := fn_sound (k := k) («as» := F31.A) (rs := F31.R) (F31.ty (F61.u k) (F62.u k)) (fun E h => by
    simp only [F31.C, List.mem_cons, List.not_mem_nil, or_false] at h
    rcases h with rfl | rfl
    · exact F61.sound k
    · exact F62.sound k) mixed Try.func31 (by kernel_rfl) (by kernel_rfl)
  have e : fn (F31.C (F61.u k) (F62.u k)) k Try.f31 F31.A F31.R = F31.u k := by
    funext y
    exact F31.e (F61.u k) (F62.u k) k y
  rw [e] at h
  exact h
/-! ### slices.IndexFunc[[]brindlewood/api.Param,brindlewood/api.Param]: f63 -/
abbrev F63.A : List Sh := [(.d (.sl 51 Y50)), (.fn (.pair Y50 .unit) .bool)]
abbrev F63.R : List Sh := [(.d (.int .i64))]
abbrev F63.E : Type := ((List X50) × ((X50 × (Unit)) → Option (Bool))) → Option (Int)
def F63.C  : Ctx := { ty := [(3, (.int .i64)), (25, (.sl 51 Y50)), (51, Y50)], nf := [], by_ := [(51, 48)], env := [], spec := [(0, [.d 0 (.sl 51 Y50), .cp 1, .d 7 (.int .i64), .d 8 (.int .i64)])] }
noncomputable def F63.code : Code := Func.code Try.f63
noncomputable def F63.fin  := kfin (F63.C ) Try.f63 F63.A F63.R
def F63.b  (r_l0 : (List X50) → ((X50 × (Unit)) → Option (Bool)) → (Int) → (Int) → Option (Int)) (a0 : List X50) (a1 : (X50 × (Unit)) → Option (Bool)) : Option (Int) :=
  r_l0 a0 a1 ((List.length a0) : Int) (0 : Int)
def F63.b_l0  (n_l0 : (List X50) → ((X50 × (Unit)) → Option (Bool)) → (Int) → (Int) → Option (Int)) (x0 : List X50) (x1 : (X50 × (Unit)) → Option (Bool)) (x7 : Int) (x8 : Int) : Option (Int) :=
  bif (decide (x8 < x7)) then
    if 0 ≤ x8 ∧ x8 < ((List.length x0) : Int) then
      (x1 ((List.getD x0 (Int.toNat x8) ((0 : Int), ([], []))), ())).bind fun y1 =>
        bif y1 then
          some x8
        else
          n_l0 x0 x1 x7 (IntKind.i64.wrap (x8 + (1 : Int)))
    else none
  else
    some (-1 : Int)
def F63.l0  (k : Nat)  : Nat → (List X50) → ((X50 × (Unit)) → Option (Bool)) → (Int) → (Int) → Option (Int)
  | 0, _, _, _, _ => none
  | n + 1, x0, x1, x7, x8 => F63.b_l0  (fun x0 x1 x7 x8 => F63.l0  k  n x0 x1 x7 x8) x0 x1 x7 x8
def F63.f  (k : Nat) (a0 : List X50) (a1 : (X50 × (Unit)) → Option (Bool)) : Option (Int) := F63.b  (F63.l0  k k) a0 a1
noncomputable def F63.M_l0  (k n : Nat)  (s : St) : Option (Int) := atLoop (F63.C ) k n [1, 0, 1, 0] [] F63.code (F63.fin ) s
noncomputable def F63.fr_l0 (x0 : List X50) (x1 : (X50 × (Unit)) → Option (Bool)) (x7 : Int) (x8 : Int) : St := ⟨(((((List.replicate 19 V.un).set 0 (V.dat (.sl 51 Y50) x0)).set 1 (V.fnv (.pair Y50 .unit) .bool x1)).set 7 (V.dat (.int .i64) x7)).set 8 (V.dat (.int .i64) x8)), []⟩
theorem F63.r  (k : Nat) (a0 : List X50) (a1 : (X50 × (Unit)) → Option (Bool)) : fn (F63.C ) k Try.f63 F63.A F63.R (a0, a1) = F63.b  (fun x0 x1 x7 x8 => F63.M_l0  k k  (F63.fr_l0 x0 x1 x7 x8)) a0 a1 := by kernel_rfl
theorem F63.z_l0  (k : Nat)  (s : St) : F63.M_l0  k 0  s = none := by kernel_rfl
theorem F63.r_l0  (k n : Nat)  (x0 : List X50) (x1 : (X50 × (Unit)) → Option (Bool)) (x7 : Int) (x8 : Int) : F63.M_l0  k (n + 1)  (F63.fr_l0 x0 x1 x7 x8) = F63.b_l0  (fun x0 x1 x7 x8 => F63.M_l0  k n  (F63.fr_l0 x0 x1 x7 x8)) x0 x1 x7 x8 := by kernel_rfl
theorem F63.e_l0  (k n : Nat)  (x0 : List X50) (x1 : (X50 × (Unit)) → Option (Bool)) (x7 : Int) (x8 : Int) : F63.M_l0  k n  (F63.fr_l0 x0 x1 x7 x8) = F63.l0  k  n x0 x1 x7 x8 := by
  induction n generalizing x0 x1 x7 x8 with
  | zero => rw [F63.z_l0]; rfl
  | succ n ih =>
    rw [F63.r_l0]
    simp only [ih]
    rfl
theorem F63.e  (k : Nat) (a0 : List X50) (a1 : (X50 × (Unit)) → Option (Bool)) : fn (F63.C ) k Try.f63 F63.A F63.R (a0, a1) = F63.f  k a0 a1 := by
  rw [F63.r]
  simp only [F63.e_l0]
  rfl
def F63.u (k : Nat) : F63.E := fun y => F63.f  k y.1 y.2
theorem F63.ty  : TyOk Try.prog (F63.C ) := tyOk_of (by kernel_rfl)
theorem F63.sound (k : Nat) : Sound Try.prog ⟨63, F63.A, F63.R, F63.u k⟩ := by
  have h := fn_sound (k := k) («as» := F63.A) (rs := F63.R) (F63.ty ) (fun E h => by cases h) mixed Try.func63 (by kernel_rfl) (by kernel_rfl)
  have e : fn (F63.C ) k Try.f63 F63.A F63.R = F63.u k := by
    funext y
    exact F63.e  k y.1 y.2
  rw [e] at h
  exact h
/-! ### slices.ContainsFunc[[]brindlewood/api.Param,brindlewood/api.Param]: f32 -/
abbrev F32.A : List Sh := [(.d (.sl 51 Y50)), (.fn (.pair Y50 .unit) .bool)]
abbrev F32.R : List Sh := [(.d .bool)]
abbrev F32.E : Type := ((List X50) × ((X50 × (Unit)) → Option (Bool))) → Option (Bool)
def F32.C (c63 : F63.E) : Ctx := { ty := [(3, (.int .i64))], nf := [], by_ := [], env := [⟨63, F63.A, F63.R, c63⟩], spec := [] }
noncomputable def F32.code : Code := Func.code Try.f32
noncomputable def F32.fin (c63 : F63.E) := kfin (F32.C c63) Try.f32 F32.A F32.R
def F32.b (c63 : F63.E)  (a0 : List X50) (a1 : (X50 × (Unit)) → Option (Bool)) : Option (Bool) :=
  (c63 (a0, a1)).bind fun y1 =>
    some (decide (y1 ≥ (0 : Int)))
def F32.f (c63 : F63.E) (k : Nat) (a0 : List X50) (a1 : (X50 × (Unit)) → Option (Bool)) : Option (Bool) := F32.b c63  a0 a1
theorem F32.r (c63 : F63.E) (k : Nat) (a0 : List X50) (a1 : (X50 × (Unit)) → Option (Bool)) : fn (F32.C c63) k Try.f32 F32.A F32.R (a0, a1) = F32.b c63  a0 a1 := by kernel_rfl
theorem F32.e (c63 : F63.E) (k : Nat) (a0 : List X50) (a1 : (X50 × (Unit)) → Option (Bool)) : fn (F32.C c63) k Try.f32 F32.A F32.R (a0, a1) = F32.f c63 k a0 a1 := by
  rw [F32.r]
  rfl
def F32.u (k : Nat) : F32.E := fun y => F32.f (F63.u k) k y.1 y.2
theorem F32.ty (c63 : F63.E) : TyOk Try.prog (F32.C c63) := tyOk_of (by kernel_rfl)
theorem F32.sound (k : Nat) : Sound Try.prog ⟨32, F32.A, F32.R, F32.u k⟩ := by
  have h := fn_sound (k := k) («as» := F32.A) (rs := F32.R) (F32.ty (F63.u k)) (fun E h => by
    simp only [F32.C, List.mem_cons, List.not_mem_nil, or_false] at h
    rcases h with rfl
    · exact F63.sound k) mixed Try.func32 (by kernel_rfl) (by kernel_rfl)
  have e : fn (F32.C (F63.u k)) k Try.f32 F32.A F32.R = F32.u k := by
    funext y
    exact F32.e (F63.u k) k y.1 y.2
  rw [e] at h
  exact h
/-! ### brindlewood/arguments.Check$1: f33 -/
abbrev F33.A : List Sh := [(.d Y50), (.pi Y50)]
abbrev F33.R : List Sh := [(.d .bool)]
abbrev F33.E : Type := (X50 × X50) → Option (Bool)
def F33.C  : Ctx := { ty := [(9, .str), (51, Y50)], nf := [(51, 3)], by_ := [], env := [], spec := [] }
noncomputable def F33.code : Code := Func.code Try.f33
noncomputable def F33.fin  := kfin (F33.C ) Try.f33 F33.A F33.R
def F33.b   (a0 : (Int) × ((List UInt8) × (List (Unit)))) (a1 : (Int) × ((List UInt8) × (List (Unit)))) : Option (Bool) :=
  some (a0.2.1 == a1.2.1)
def F33.f  (k : Nat) (a0 : (Int) × ((List UInt8) × (List (Unit)))) (a1 : (Int) × ((List UInt8) × (List (Unit)))) : Option (Bool) := F33.b   a0 a1
theorem F33.r  (k : Nat) (a0 : (Int) × ((List UInt8) × (List (Unit)))) (a1 : (Int) × ((List UInt8) × (List (Unit)))) : fn (F33.C ) k Try.f33 F33.A F33.R (a0, a1) = F33.b   a0 a1 := by kernel_rfl
theorem F33.e  (k : Nat) (a0 : (Int) × ((List UInt8) × (List (Unit)))) (a1 : (Int) × ((List UInt8) × (List (Unit)))) : fn (F33.C ) k Try.f33 F33.A F33.R (a0, a1) = F33.f  k a0 a1 := by
  rw [F33.r]
  rfl
def F33.u (k : Nat) : F33.E := fun y => F33.f  k y.1 y.2
theorem F33.ty  : TyOk Try.prog (F33.C ) := tyOk_of (by kernel_rfl)
theorem F33.sound (k : Nat) : Sound Try.prog ⟨33, F33.A, F33.R, F33.u k⟩ := by
  have h := fn_sound (k := k) («as» := F33.A) (rs := F33.R) (F33.ty ) (fun E h => by cases h) mixed Try.func33 (by kernel_rfl) (by kernel_rfl)
  have e : fn (F33.C ) k Try.f33 F33.A F33.R = F33.u k := by
    funext y
    exact F33.e  k y.1 y.2
  rw [e] at h
  exact h
/-! ### brindlewood/brindlewoodref7.NameOk: f35 -/
abbrev F35.A : List Sh := [(.d .str)]
abbrev F35.R : List Sh := [(.d .bool)]
abbrev F35.E : Type := (List UInt8) → Option (Bool)
def F35.C  : Ctx := { ty := [(3, (.int .i64)), (5, (.int .u8)), (9, .str)], nf := [], by_ := [], env := [], spec := [(0, [.d 0 .str, .d 3 (.int .i64)]), (100008, [.d 0 .str, .d 3 (.int .i64), .d 4 (.int .u8), .d 5 .bool])] }
noncomputable def F35.code : Code := Func.code Try.f35
noncomputable def F35.fin  := kfin (F35.C ) Try.f35 F35.A F35.R
def F35.b  (r_l0 : (List UInt8) → (Int) → Option (Bool)) (a0 : List UInt8) : Option (Bool) :=
  bif (decide (((List.length a0) : Int) < (1 : Int))) then
    some false
  else
    bif (decide (((List.length a0) : Int) > (24 : Int))) then
      some false
    else
      r_l0 a0 (0 : Int)
def F35.b_l0  (r_g8 : (List UInt8) → (Int) → (Int) → (Bool) → Option (Bool)) (x0 : List UInt8) (x3 : Int) : Option (Bool) :=
  bif (decide (x3 < ((List.length x0) : Int))) then
    if 0 ≤ x3 ∧ x3 < ((List.length x0) : Int) then
      bif (((List.getD x0 (Int.toNat x3) 0).toNat : Int) == (95 : Int)) then
        r_g8 x0 x3 ((List.getD x0 (Int.toNat x3) 0).toNat : Int) true
      else
        bif (decide ((97 : Int) ≤ ((List.getD x0 (Int.toNat x3) 0).toNat : Int))) then
          bif (decide (((List.getD x0 (Int.toNat x3) 0).toNat : Int) ≤ (122 : Int))) then
            r_g8 x0 x3 ((List.getD x0 (Int.toNat x3) 0).toNat : Int) true
          else
            bif (decide ((65 : Int) ≤ ((List.getD x0 (Int.toNat x3) 0).toNat : Int))) then
              r_g8 x0 x3 ((List.getD x0 (Int.toNat x3) 0).toNat : Int) (decide (((List.getD x0 (Int.toNat x3) 0).toNat : Int) ≤ (90 : Int)))
            else
              r_g8 x0 x3 ((List.getD x0 (Int.toNat x3) 0).toNat : Int) false
        else
          bif (decide ((65 : Int) ≤ ((List.getD x0 (Int.toNat x3) 0).toNat : Int))) then
            r_g8 x0 x3 ((List.getD x0 (Int.toNat x3) 0).toNat : Int) (decide (((List.getD x0 (Int.toNat x3) 0).toNat : Int) ≤ (90 : Int)))
          else
            r_g8 x0 x3 ((List.getD x0 (Int.toNat x3) 0).toNat : Int) false
    else none
  else
    some true
def F35.b_g8  (n_l0 : (List UInt8) → (Int) → Option (Bool)) (x0 : List UInt8) (x3 : Int) (x4 : Int) (x5 : Bool) : Option (Bool) :=
  bif (!x5) then
    bif (x3 == (0 : Int)) then
      some false
    else
      bif (decide (x4 < (48 : Int))) then
        some false
      else
        bif (decide (x4 > (57 : Int))) then
          some false
        else
          n_l0 x0 (IntKind.i64.wrap (x3 + (1 : Int)))
  else
    n_l0 x0 (IntKind.i64.wrap (x3 + (1 : Int)))
def F35.g8  (k : Nat) (n_l0 : (List UInt8) → (Int) → Option (Bool)) (x0 : List UInt8) (x3 : Int) (x4 : Int) (x5 : Bool) : Option (Bool) := gate k (F35.b_g8  n_l0 x0 x3 x4 x5)
def F35.l0  (k : Nat)  : Nat → (List UInt8) → (Int) → Option (Bool)
  | 0, _, _ => none
  | n + 1, x0, x3 => F35.b_l0  (F35.g8  k (fun x0 x3 => F35.l0  k  n x0 x3)) x0 x3
def F35.f  (k : Nat) (a0 : List UInt8) : Option (Bool) := F35.b  (F35.l0  k k) a0
noncomputable def F35.M_l0  (k n : Nat)  (s : St) : Option (Bool) := atLoop (F35.C ) k n [1, 1, 0, 1, 0] [] F35.code (F35.fin ) s
noncomputable def F35.fr_l0 (x0 : List UInt8) (x3 : Int) : St := ⟨(((List.replicate 55 V.un).set 0 (V.dat .str x0)).set 3 (V.dat (.int .i64) x3)), []⟩
noncomputable def F35.M_g8  (k : Nat) (m0 : Nat) (s : St) : Option (Bool) := atGate (F35.C ) k [1, 1, 0, 1, 0, 0, 1, 0, 0, 1, 1, 0] [m0] F35.code (F35.fin ) s
noncomputable def F35.fr_g8 (x0 : List UInt8) (x3 : Int) (x4 : Int) (x5 : Bool) : St := ⟨(((((List.replicate 55 V.un).set 0 (V.dat .str x0)).set 3 (V.dat (.int .i64) x3)).set 4 (V.dat (.int .u8) x4)).set 5 (V.dat .bool x5)), []⟩
theorem F35.r  (k : Nat) (a0 : List UInt8) : fn (F35.C ) k Try.f35 F35.A F35.R a0 = F35.b  (fun x0 x3 => F35.M_l0  k k  (F35.fr_l0 x0 x3)) a0 := by kernel_rfl
theorem F35.z_l0  (k : Nat)  (s : St) : F35.M_l0  k 0  s = none := by kernel_rfl
theorem F35.r_l0  (k n : Nat)  (x0 : List UInt8) (x3 : Int) : F35.M_l0  k (n + 1)  (F35.fr_l0 x0 x3) = F35.b_l0  (fun x0 x3 x4 x5 => F35.M_g8  k  n (F35.fr_g8 x0 x3 x4 x5)) x0 x3 := by kernel_rfl
theorem F35.r_g8  (k : Nat) (m0 : Nat) (x0 : List UInt8) (x3 : Int) (x4 : Int) (x5 : Bool) : F35.M_g8  k m0 (F35.fr_g8 x0 x3 x4 x5) = gate k (F35.b_g8  (fun x0 x3 => F35.M_l0  k m0  (F35.fr_l0 x0 x3)) x0 x3 x4 x5) := by kernel_rfl
theorem F35.e_g8  (k : Nat) (m0 : Nat) (x0 : List UInt8) (x3 : Int) (x4 : Int) (x5 : Bool) : F35.M_g8  k m0 (F35.fr_g8 x0 x3 x4 x5) = F35.g8  k (fun x0 x3 => F35.M_l0  k m0  (F35.fr_l0 x0 x3)) x0 x3 x4 x5 := by
  rw [F35.r_g8]
  rfl
theorem F35.e_l0  (k n : Nat)  (x0 : List UInt8) (x3 : Int) : F35.M_l0  k n  (F35.fr_l0 x0 x3) = F35.l0  k  n x0 x3 := by
  induction n generalizing x0 x3 with
  | zero => rw [F35.z_l0]; rfl
  | succ n ih =>
    rw [F35.r_l0]
    simp only [F35.e_g8, ih]
    rfl
theorem F35.e  (k : Nat) (a0 : List UInt8) : fn (F35.C ) k Try.f35 F35.A F35.R a0 = F35.f  k a0 := by
  rw [F35.r]
  simp only [F35.e_l0]
  rfl
def F35.u (k : Nat) : F35.E := fun y => F35.f  k y
theorem F35.ty  : TyOk Try.prog (F35.C ) := tyOk_of (by kernel_rfl)
theorem F35.sound (k : Nat) : Sound Try.prog ⟨35, F35.A, F35.R, F35.u k⟩ := by
  have h := fn_sound (k := k) («as» := F35.A) (rs := F35.R) (F35.ty ) (fun E h => by cases h) mixed Try.func35 (by kernel_rfl) (by kernel_rfl)
  have e : fn (F35.C ) k Try.f35 F35.A F35.R = F35.u k := by
    funext y
    exact F35.e  k y
  rw [e] at h
  exact h
end
end Go.Ab
