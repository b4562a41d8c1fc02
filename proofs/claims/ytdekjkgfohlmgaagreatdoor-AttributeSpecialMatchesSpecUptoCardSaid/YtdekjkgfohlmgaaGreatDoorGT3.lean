/- A part of the proof: GT3. -/
import Derived.Test.YtdekjkgfohlmgaaGreatDoorFLs
import Derived.Test.YtdekjkgfohlmgaaGreatDoorGT1
import Derived.Test.YtdekjkgfohlmgaaGreatDoorGT2
namespace Go.Ab
set_option linter.unusedVariables false
set_option linter.unusedSimpArgs false
set_option maxRecDepth 100000
noncomputable section
open Go.Proofs
/-! ### brindlewood/brindlewoodref7.PartsOf: f156 -/
abbrev F156.A : List Sh := [(.d Y_Heap), (.d Y_Value), (.d (.int .i64))]
abbrev F156.R : List Sh := [(.d (.sl 29 Y_Value)), (.d .bool)]
abbrev F156.E : Type := (LO × (X_Value × Int)) → Option (LV × Bool)
section
variable (c54 : F54.E) (c78 : F78.E)
variable (k n : Nat)
def F156.C : Ctx := cx [⟨54, F54.A, F54.R, c54⟩, ⟨78, F78.A, F78.R, c78⟩] [(0, [.d 2 (.int .i64), .bx 3 600003 (.d Y_Heap), .o 8 500008 29 Y_Value, .d 9 (.sl 29 Y_Value)])]
noncomputable def F156.M_l0 (s : St) : Option (LV × Bool) := lpAt (F156.C c54 c78) k n [1, 1, 1, 0, 0] [] Tryz.f156 F156.A F156.R s
noncomputable def F156.fr_l0 (x2 : Int) (x3 : LO) (x8 : LV) (x9 : LV) : St := ⟨(((((List.replicate 77 V.un).set 2 (V.dat (.int .i64) x2)).set 3 (V.bp 600003 0 [])).set 8 (V.ref 500008 0 0 (List.length x8))).set 9 (V.dat (.sl 29 Y_Value) x9)), [⟨500008, 0, .arr 29 Y_Value x8⟩, ⟨600003, 0, .box (V.dat Y_Heap x3)⟩]⟩
section
variable (n_l0 : Int → LO → LV → LV → Option (LV × Bool)) (x2 : Int) (x3 : LO) (x8 x9 : LV)
def F156.b_l0 : Option (LV × Bool) :=
 bif (decide (((List.length x9) : Int) > (0 : Int))) then
 bif (decide ((((List.length x8) : Nat) : Int) ≤ x2)) then
 if 0 ≤ (0 : Int) ∧ (0 : Int) < ((List.length x9) : Int) then
 if 0 ≤ (1 : Int) ∧ (1 : Int) ≤ ((List.length x9) : Int) ∧ ((List.length x9) : Int) ≤ ((List.length x9) : Int) then
 if (List.length x8) ≤ (List.length x8) ∧ ((List.length x8) + (List.length (List.take 1 ([(List.getD x9 (Int.toNat (0 : Int)) Z_Value)] : LV)))) * 96 ≤ LIM then
 (c54 (x3, (List.getD x9 (Int.toNat (0 : Int)) Z_Value))).bind fun y1 =>
 bif (((List.getD x9 (Int.toNat (0 : Int)) Z_Value).1) == (9 : Int)) then
 some ((List.take (List.length (List.append (List.take (List.length x8) x8) (List.take 1 ([(List.getD x9 (Int.toNat (0 : Int)) Z_Value)] : LV)))) (List.append (List.take (List.length x8) x8) (List.take 1 ([(List.getD x9 (Int.toNat (0 : Int)) Z_Value)] : LV)))), false)
 else
 bif (y1.1 == (2 : Int)) then
 some ((List.take (List.length (List.append (List.take (List.length x8) x8) (List.take 1 ([(List.getD x9 (Int.toNat (0 : Int)) Z_Value)] : LV)))) (List.append (List.take (List.length x8) x8) (List.take 1 ([(List.getD x9 (Int.toNat (0 : Int)) Z_Value)] : LV)))), false)
 else
 bif (y1.1 == (3 : Int)) then
 some ((List.take (List.length (List.append (List.take (List.length x8) x8) (List.take 1 ([(List.getD x9 (Int.toNat (0 : Int)) Z_Value)] : LV)))) (List.append (List.take (List.length x8) x8) (List.take 1 ([(List.getD x9 (Int.toNat (0 : Int)) Z_Value)] : LV)))), false)
 else
 bif (y1.1 == (4 : Int)) then
 some ((List.take (List.length (List.append (List.take (List.length x8) x8) (List.take 1 ([(List.getD x9 (Int.toNat (0 : Int)) Z_Value)] : LV)))) (List.append (List.take (List.length x8) x8) (List.take 1 ([(List.getD x9 (Int.toNat (0 : Int)) Z_Value)] : LV)))), false)
 else
 bif (y1.1 == (5 : Int)) then
 some ((List.take (List.length (List.append (List.take (List.length x8) x8) (List.take 1 ([(List.getD x9 (Int.toNat (0 : Int)) Z_Value)] : LV)))) (List.append (List.take (List.length x8) x8) (List.take 1 ([(List.getD x9 (Int.toNat (0 : Int)) Z_Value)] : LV)))), false)
 else
 bif (y1.1 == (1 : Int)) then
 if 0 ≤ (0 : Int) ∧ (0 : Int) ≤ (if (IntKind.i64.wrap (x2 + (1 : Int))) < ((List.length y1.2.2.2.2.2.2.1) : Int) then (IntKind.i64.wrap (x2 + (1 : Int))) else ((List.length y1.2.2.2.2.2.2.1) : Int)) ∧ (if (IntKind.i64.wrap (x2 + (1 : Int))) < ((List.length y1.2.2.2.2.2.2.1) : Int) then (IntKind.i64.wrap (x2 + (1 : Int))) else ((List.length y1.2.2.2.2.2.2.1) : Int)) ≤ ((List.length y1.2.2.2.2.2.2.1) : Int) then
 (c78 (List.drop (Int.toNat (0 : Int)) (List.take (Int.toNat (if (IntKind.i64.wrap (x2 + (1 : Int))) < ((List.length y1.2.2.2.2.2.2.1) : Int) then (IntKind.i64.wrap (x2 + (1 : Int))) else ((List.length y1.2.2.2.2.2.2.1) : Int))) y1.2.2.2.2.2.2.1))).bind fun y2 =>
 if (List.length y2) ≤ (List.length y2) ∧ ((List.length y2) + (List.length (List.drop (Int.toNat (1 : Int)) (List.take (Int.toNat ((List.length x9) : Int)) x9)))) * 96 ≤ LIM then
 n_l0 x2 x3 (List.take (List.length (List.append (List.take (List.length x8) x8) (List.take 1 ([(List.getD x9 (Int.toNat (0 : Int)) Z_Value)] : LV)))) (List.append (List.take (List.length x8) x8) (List.take 1 ([(List.getD x9 (Int.toNat (0 : Int)) Z_Value)] : LV)))) (List.take (List.length (List.append (List.take (List.length y2) y2) (List.drop (Int.toNat (1 : Int)) (List.take (Int.toNat ((List.length x9) : Int)) x9)))) (List.append (List.take (List.length y2) y2) (List.drop (Int.toNat (1 : Int)) (List.take (Int.toNat ((List.length x9) : Int)) x9))))
 else none
 else none
 else
 n_l0 x2 x3 (List.take (List.length (List.append (List.take (List.length x8) x8) (List.take 1 ([(List.getD x9 (Int.toNat (0 : Int)) Z_Value)] : LV)))) (List.append (List.take (List.length x8) x8) (List.take 1 ([(List.getD x9 (Int.toNat (0 : Int)) Z_Value)] : LV)))) (List.drop (Int.toNat (1 : Int)) (List.take (Int.toNat ((List.length x9) : Int)) x9))
 else none
 else none
 else none
 else
 some ((List.take (List.length x8) x8), true)
 else
 some ((List.take (List.length x8) x8), true)
def F156.c_l0 : Option (LV × Bool) :=
 bif (decide (((List.length x9) : Int) > (0 : Int))) then
 bif (decide (((List.length x8) : Int) ≤ x2)) then
 if (0 : Int) < ((List.length x9) : Int) then
 if (1 : Int) ≤ ((List.length x9) : Int) then
 if ((List.length x8) + (List.length ([(List.getD x9 0 Z_Value)] : LV))) * 96 ≤ LIM then
 (c54 (x3, (List.getD x9 0 Z_Value))).bind fun y1 =>
 bif (((List.getD x9 0 Z_Value).1) == (9 : Int)) then
 some ((x8 ++ ([(List.getD x9 0 Z_Value)] : LV)), false)
 else
 bif (y1.1 == (2 : Int)) then
 some ((x8 ++ ([(List.getD x9 0 Z_Value)] : LV)), false)
 else
 bif (y1.1 == (3 : Int)) then
 some ((x8 ++ ([(List.getD x9 0 Z_Value)] : LV)), false)
 else
 bif (y1.1 == (4 : Int)) then
 some ((x8 ++ ([(List.getD x9 0 Z_Value)] : LV)), false)
 else
 bif (y1.1 == (5 : Int)) then
 some ((x8 ++ ([(List.getD x9 0 Z_Value)] : LV)), false)
 else
 bif (y1.1 == (1 : Int)) then
 if (0 : Int) ≤ (if (IntKind.i64.wrap (x2 + (1 : Int))) < ((List.length y1.2.2.2.2.2.2.1) : Int) then (IntKind.i64.wrap (x2 + (1 : Int))) else ((List.length y1.2.2.2.2.2.2.1) : Int)) ∧ (if (IntKind.i64.wrap (x2 + (1 : Int))) < ((List.length y1.2.2.2.2.2.2.1) : Int) then (IntKind.i64.wrap (x2 + (1 : Int))) else ((List.length y1.2.2.2.2.2.2.1) : Int)) ≤ ((List.length y1.2.2.2.2.2.2.1) : Int) then
 (c78 (List.take (Int.toNat (if (IntKind.i64.wrap (x2 + (1 : Int))) < ((List.length y1.2.2.2.2.2.2.1) : Int) then (IntKind.i64.wrap (x2 + (1 : Int))) else ((List.length y1.2.2.2.2.2.2.1) : Int))) y1.2.2.2.2.2.2.1)).bind fun y2 =>
 if ((List.length y2) + (List.length (List.drop (Int.toNat (1 : Int)) x9))) * 96 ≤ LIM then
 n_l0 x2 x3 (x8 ++ ([(List.getD x9 0 Z_Value)] : LV)) (y2 ++ (List.drop (Int.toNat (1 : Int)) x9))
 else none
 else none
 else
 n_l0 x2 x3 (x8 ++ ([(List.getD x9 0 Z_Value)] : LV)) (List.drop (Int.toNat (1 : Int)) x9)
 else none
 else none
 else none
 else
 some (x8, true)
 else
 some (x8, true)
theorem F156.q_l0 : F156.b_l0 c54 c78 n_l0 x2 x3 x8 x9 = F156.c_l0 c54 c78 n_l0 x2 x3 x8 x9 := by
  simp only [F156.b_l0, F156.c_l0, qq]
def F156.l0 (k : Nat) : Nat → Int → LO → LV → LV → Option (LV × Bool)
  | 0, _, _, _, _ => none
  | n + 1, x2, x3, x8, x9 => F156.b_l0 c54 c78 (fun x2 x3 x8 x9 => F156.l0 k n x2 x3 x8 x9) x2 x3 x8 x9
theorem F156.e_l0 : F156.M_l0 c54 c78 k n (F156.fr_l0 x2 x3 x8 x9) = F156.l0 c54 c78 k n x2 x3 x8 x9 := by
  induction n generalizing x2 x3 x8 x9 with
  | zero => exact lpAt0
  | succ n ih =>
    refine Eq.trans (b := F156.b_l0 c54 c78 (fun x2 x3 x8 x9 => F156.M_l0 c54 c78 k n (F156.fr_l0 x2 x3 x8 x9)) x2 x3 x8 x9) (by kernel_rfl) ?_
    simp only [ih]
    rfl
end
variable (r_l0 : Int → LO → LV → LV → Option (LV × Bool)) (a0 : LO) (a1 : Int × (X_Int × (X_Int × X_errorAddressString))) (a2 : Int)
def F156.b (c54 : F54.E) (c78 : F78.E) (r_l0 : Int → LO → LV → LV → Option (LV × Bool)) (a0 : LO) (a1 : Int × (X_Int × (X_Int × X_errorAddressString))) (a2 : Int) : Option (LV × Bool) :=
 r_l0 a2 a0 ([] : LV) (List.take 1 ([a1] : LV))
def F156.c (c54 : F54.E) (c78 : F78.E) (r_l0 : Int → LO → LV → LV → Option (LV × Bool)) (a0 : LO) (a1 : Int × (X_Int × (X_Int × X_errorAddressString))) (a2 : Int) : Option (LV × Bool) :=
 r_l0 a2 a0 ([] : LV) ([a1] : LV)
theorem F156.q : F156.b c54 c78 r_l0 a0 a1 a2 = F156.c c54 c78 r_l0 a0 a1 a2 := by
  simp only [F156.b, F156.c, qq]
def F156.f : Option (LV × Bool) := F156.b c54 c78 (F156.l0 c54 c78 k k) a0 a1 a2
theorem F156.e : fn (F156.C c54 c78) k Tryz.f156 F156.A F156.R (a0, (a1, a2)) = F156.f c54 c78 k a0 a1 a2 := by
  refine Eq.trans (b := F156.b c54 c78 (fun x2 x3 x8 x9 => F156.M_l0 c54 c78 k k (F156.fr_l0 x2 x3 x8 x9)) a0 a1 a2) (by kernel_rfl) ?_
  simp only [F156.e_l0]
  rfl
end
def F156.u (k : Nat) : F156.E := fun y => F156.f (F54.u k) (F78.u k) k y.1 y.2.1 y.2.2
theorem F156.sound (k : Nat) : Sound Tryz.prog ⟨156, F156.A, F156.R, F156.u k⟩ := sn gr Tryz.func156 (fun y => F156.e (F54.u k) (F78.u k) k y.1 y.2.1 y.2.2) (al (F54.sound k) (al (F78.sound k) al0))
/-! ### brindlewood/brindlewoodref7.Keyed: f118 -/
abbrev F118.A : List Sh := [(.d Y_Heap), (.d Y_Value)]
abbrev F118.R : List Sh := [(.d .bool)]
abbrev F118.E : Type := (LO × X_Value) → Option Bool
section
variable (c156 : F156.E)
variable (k n : Nat)
def F118.C : Ctx := cx [⟨156, F156.A, F156.R, c156⟩] []
variable (a0 : LO) (a1 : Int × (X_Int × (X_Int × X_errorAddressString)))
def F118.b : Option Bool :=
 (c156 (a0, (a1, (1000 : Int)))).bind fun y1 =>
 bif y1.2 then
 some (decide (((List.length y1.1) : Int) ≤ (1000 : Int)))
 else
 some false
def F118.f (k : Nat) (a0 : LO) (a1 : Int × (X_Int × (X_Int × X_errorAddressString))) : Option Bool := F118.b c156 a0 a1
theorem F118.e : fn (F118.C c156) k Tryz.f118 F118.A F118.R (a0, a1) = F118.f c156 k a0 a1 := by
  kernel_rfl
end
def F118.u (k : Nat) : F118.E := fun y => F118.f (F156.u k) k y.1 y.2
theorem F118.sound (k : Nat) : Sound Tryz.prog ⟨118, F118.A, F118.R, F118.u k⟩ := sn gr Tryz.func118 (fun y => F118.e (F156.u k) k y.1 y.2) (al (F156.sound k) al0)
/-! ### brindlewood/brindlewoodref7.SameKey: f157 -/
abbrev F157.A : List Sh := [(.d Y_Heap), (.d Y_Value), (.d Y_Value)]
abbrev F157.R : List Sh := [(.d .bool)]
abbrev F157.E : Type := (LO × (X_Value × X_Value)) → Option Bool
section
variable (c54 : F54.E) (c14 : F14.E) (c157 : F157.E)
variable (k n : Nat)
def F157.C : Ctx := cx [⟨54, F54.A, F54.R, c54⟩, ⟨14, F14.A, F14.R, c14⟩, ⟨157, F157.A, F157.R, c157⟩] [(0, [.bx 3 600003 (.d Y_Heap), .bx 7 600007 (.d Y_Object), .bx 8 600008 (.d Y_Object), .d 36 (.int .i64), .d 37 (.int .i64)])]
noncomputable def F157.M_l0 (s : St) : Option Bool := lpAt (F157.C c54 c14 c157) k n [1, 1, 1, 1, 0, 1, 0] [] Tryz.f157 F157.A F157.R s
noncomputable def F157.fr_l0 (x3 : LO) (x7 : Int × (LB × (Int × (LI × (LI × (LLB × (LV × (LV × X_acceptRange)))))))) (x8 : Int × (LB × (Int × (LI × (LI × (LLB × (LV × (LV × X_acceptRange)))))))) (x36 : Int) (x37 : Int) : St := ⟨((((((List.replicate 54 V.un).set 3 (V.bp 600003 0 [])).set 7 (V.bp 600007 0 [])).set 8 (V.bp 600008 0 [])).set 36 (V.dat (.int .i64) x36)).set 37 (V.dat (.int .i64) x37)), [⟨600008, 0, .box (V.dat Y_Object x8)⟩, ⟨600007, 0, .box (V.dat Y_Object x7)⟩, ⟨600003, 0, .box (V.dat Y_Heap x3)⟩]⟩
section
variable (n_l0 : LO → X_Object → X_Object → Int → Int → Option Bool) (x3 : LO) (x7 x8 : Int × (LB × (Int × (LI × (LI × (LLB × (LV × (LV × X_acceptRange)))))))) (x36 x37 : Int)
def F157.b_l0 (c54 : F54.E) (c14 : F14.E) (c157 : F157.E) (n_l0 : LO → X_Object → X_Object → Int → Int → Option Bool) (x3 : LO) (x7 : Int × (LB × (Int × (LI × (LI × (LLB × (LV × (LV × X_acceptRange)))))))) (x8 : Int × (LB × (Int × (LI × (LI × (LLB × (LV × (LV × X_acceptRange)))))))) (x36 : Int) (x37 : Int) : Option Bool :=
 bif (decide (x37 < x36)) then
 if 0 ≤ x37 ∧ x37 < ((List.length x7.2.2.2.2.2.2.1) : Int) then
 if 0 ≤ x37 ∧ x37 < ((List.length x8.2.2.2.2.2.2.1) : Int) then
 (c157 (x3, ((List.getD x7.2.2.2.2.2.2.1 (Int.toNat x37) Z_Value), (List.getD x8.2.2.2.2.2.2.1 (Int.toNat x37) Z_Value)))).bind fun y5 =>
 bif (!y5) then
 some false
 else
 n_l0 x3 x7 x8 x36 (IntKind.i64.wrap (x37 + (1 : Int)))
 else none
 else none
 else
 some true
def F157.l0 (k : Nat) : Nat → LO → X_Object → X_Object → Int → Int → Option Bool
  | 0, _, _, _, _, _ => none
  | n + 1, x3, x7, x8, x36, x37 => F157.b_l0 c54 c14 c157 (fun x3 x7 x8 x36 x37 => F157.l0 k n x3 x7 x8 x36 x37) x3 x7 x8 x36 x37
theorem F157.e_l0 : F157.M_l0 c54 c14 c157 k n (F157.fr_l0 x3 x7 x8 x36 x37) = F157.l0 c54 c14 c157 k n x3 x7 x8 x36 x37 := by
  induction n generalizing x3 x7 x8 x36 x37 with
  | zero => exact lpAt0
  | succ n ih =>
    refine Eq.trans (b := F157.b_l0 c54 c14 c157 (fun x3 x7 x8 x36 x37 => F157.M_l0 c54 c14 c157 k n (F157.fr_l0 x3 x7 x8 x36 x37)) x3 x7 x8 x36 x37) (by kernel_rfl) ?_
    simp only [ih]
    rfl
end
variable (r_l0 : LO → X_Object → X_Object → Int → Int → Option Bool) (a0 : LO) (a1 a2 : Int × (X_Int × (X_Int × X_errorAddressString)))
def F157.b (c157 : F157.E) (r_l0 : LO → X_Object → X_Object → Int → Int → Option Bool) (a0 : LO) (a1 : Int × (X_Int × (X_Int × X_errorAddressString))) (a2 : Int × (X_Int × (X_Int × X_errorAddressString))) : Option Bool :=
 (c54 (a0, a1)).bind fun y1 =>
 (c54 (a0, a2)).bind fun y2 =>
 bif (y1.1 != (1 : Int)) then
 (c14 (a1, a2)).bind fun y3 =>
 some y3
 else
 bif (y2.1 != (1 : Int)) then
 (c14 (a1, a2)).bind fun y4 =>
 some y4
 else
 bif (((List.length y1.2.2.2.2.2.2.1) : Int) != ((List.length y2.2.2.2.2.2.2.1) : Int)) then
 some false
 else
 r_l0 a0 y1 y2 ((List.length y1.2.2.2.2.2.2.1) : Int) (0 : Int)
def F157.f : Option Bool := F157.b c54 c14 c157 (F157.l0 c54 c14 c157 k k) a0 a1 a2
theorem F157.e : fn (F157.C c54 c14 c157) k Tryz.f157 F157.A F157.R (a0, (a1, a2)) = F157.f c54 c14 c157 k a0 a1 a2 := by
  refine Eq.trans (b := F157.b c54 c14 c157 (fun x3 x7 x8 x36 x37 => F157.M_l0 c54 c14 c157 k k (F157.fr_l0 x3 x7 x8 x36 x37)) a0 a1 a2) (by kernel_rfl) ?_
  simp only [F157.e_l0]
  rfl
end
def F157.ur (k : Nat) (g : F157.E) : F157.E := fun y => F157.f (F54.u k) (F14.u k) g k y.1 y.2.1 y.2.2
theorem F157.sound_r (k : Nat) (g : F157.E) (hg : Sound Tryz.prog ⟨157, F157.A, F157.R, g⟩) : Sound Tryz.prog ⟨157, F157.A, F157.R, F157.ur k g⟩ := sn gr Tryz.func157 (fun y => F157.e (F54.u k) (F14.u k) g k y.1 y.2.1 y.2.2) (al (F54.sound k) (al (F14.sound k) (al hg al0)))
def F157.u : Nat → F157.E
  | 0 => fun _ => none
  | k + 1 => F157.ur (k + 1) (F157.u k)
theorem F157.sound : ∀ k : Nat, Sound Tryz.prog ⟨157, F157.A, F157.R, F157.u k⟩
  | 0 => ⟨enters_of Tryz.func157 (c := Func.code Tryz.f157) (by kernel_rfl) (by kernel_rfl), fun x y h => by cases h⟩
  | k + 1 => F157.sound_r (k + 1) (F157.u k) (F157.sound k)
/-! ### brindlewood/brindlewoodref7.Place: f119 -/
abbrev F119.A : List Sh := [(.d Y_Heap), (.d (.sl 29 Y_Value)), (.d Y_Value)]
abbrev F119.R : List Sh := [(.d (.int .i64))]
abbrev F119.E : Type := (LO × (LV × X_Value)) → Option Int
section
variable (c157 : F157.E)
variable (k n : Nat)
def F119.C : Ctx := cx [⟨157, F157.A, F157.R, c157⟩] [(0, [.d 1 (.sl 29 Y_Value), .bx 3 600003 (.d Y_Heap), .bx 5 600005 (.d Y_Value), .d 9 (.int .i64), .d 10 (.int .i64)])]
noncomputable def F119.M_l0 (s : St) : Option Int := lpAt (F119.C c157) k n [1, 0, 1, 0] [] Tryz.f119 F119.A F119.R s
noncomputable def F119.fr_l0 (x1 : LV) (x3 : LO) (x5 : Int × (X_Int × (X_Int × X_errorAddressString))) (x9 : Int) (x10 : Int) : St := ⟨((((((List.replicate 22 V.un).set 1 (V.dat (.sl 29 Y_Value) x1)).set 3 (V.bp 600003 0 [])).set 5 (V.bp 600005 0 [])).set 9 (V.dat (.int .i64) x9)).set 10 (V.dat (.int .i64) x10)), [⟨600005, 0, .box (V.dat Y_Value x5)⟩, ⟨600003, 0, .box (V.dat Y_Heap x3)⟩]⟩
section
variable (n_l0 : LV → LO → X_Value → Int → Int → Option Int) (x1 : LV) (x3 : LO) (x5 : Int × (X_Int × (X_Int × X_errorAddressString))) (x9 x10 : Int)
def F119.b_l0 : Option Int :=
 bif (decide (x10 < x9)) then
 if 0 ≤ x10 ∧ x10 < ((List.length x1) : Int) then
 (c157 (x3, ((List.getD x1 (Int.toNat x10) Z_Value), x5))).bind fun y1 =>
 bif y1 then
 some x10
 else
 n_l0 x1 x3 x5 x9 (IntKind.i64.wrap (x10 + (1 : Int)))
 else none
 else
 some (-1 : Int)
def F119.l0 (k : Nat) : Nat → LV → LO → X_Value → Int → Int → Option Int
  | 0, _, _, _, _, _ => none
  | n + 1, x1, x3, x5, x9, x10 => F119.b_l0 c157 (fun x1 x3 x5 x9 x10 => F119.l0 k n x1 x3 x5 x9 x10) x1 x3 x5 x9 x10
theorem F119.e_l0 : F119.M_l0 c157 k n (F119.fr_l0 x1 x3 x5 x9 x10) = F119.l0 c157 k n x1 x3 x5 x9 x10 := by
  induction n generalizing x1 x3 x5 x9 x10 with
  | zero => exact lpAt0
  | succ n ih =>
    refine Eq.trans (b := F119.b_l0 c157 (fun x1 x3 x5 x9 x10 => F119.M_l0 c157 k n (F119.fr_l0 x1 x3 x5 x9 x10)) x1 x3 x5 x9 x10) (by kernel_rfl) ?_
    simp only [ih]
    rfl
end
variable (r_l0 : LV → LO → X_Value → Int → Int → Option Int) (a0 : LO) (a1 : LV) (a2 : Int × (X_Int × (X_Int × X_errorAddressString)))
def F119.b (c157 : F157.E) (r_l0 : LV → LO → X_Value → Int → Int → Option Int) (a0 : LO) (a1 : LV) (a2 : Int × (X_Int × (X_Int × X_errorAddressString))) : Option Int :=
 r_l0 a1 a0 a2 ((List.length a1) : Int) (0 : Int)
def F119.f : Option Int := F119.b c157 (F119.l0 c157 k k) a0 a1 a2
theorem F119.e : fn (F119.C c157) k Tryz.f119 F119.A F119.R (a0, (a1, a2)) = F119.f c157 k a0 a1 a2 := by
  refine Eq.trans (b := F119.b c157 (fun x1 x3 x5 x9 x10 => F119.M_l0 c157 k k (F119.fr_l0 x1 x3 x5 x9 x10)) a0 a1 a2) (by kernel_rfl) ?_
  simp only [F119.e_l0]
  rfl
end
def F119.u (k : Nat) : F119.E := fun y => F119.f (F157.u k) k y.1 y.2.1 y.2.2
theorem F119.sound (k : Nat) : Sound Tryz.prog ⟨119, F119.A, F119.R, F119.u k⟩ := sn gr Tryz.func119 (fun y => F119.e (F157.u k) k y.1 y.2.1 y.2.2) (al (F157.sound k) al0)
/-! ### brindlewood/brindlewoodref7.keyRule: f76 -/
abbrev F76.A : List Sh := [(.d Y_Heap), (.d (.int .i64))]
abbrev F76.R : List Sh := [(.d (.int .i64))]
abbrev F76.E : Type := (LO × Int) → Option Int
section
variable (c118 : F118.E) (c119 : F119.E)
variable (k n : Nat)
def F76.C : Ctx := cx [⟨118, F118.A, F118.R, c118⟩, ⟨119, F119.A, F119.R, c119⟩] [(0, [.bx 2 600002 (.d Y_Heap), .d 5 (.sl 29 Y_Value), .d 14 (.sl 29 Y_Value), .d 15 (.int .i64), .d 16 (.int .i64)])]
noncomputable def F76.M_l0 (s : St) : Option Int := lpAt (F76.C c118 c119) k n [1, 1, 0, 1, 0] [] Tryz.f76 F76.A F76.R s
noncomputable def F76.fr_l0 (x2 : LO) (x5 : LV) (x14 : LV) (x15 : Int) (x16 : Int) : St := ⟨((((((List.replicate 33 V.un).set 2 (V.bp 600002 0 [])).set 5 (V.dat (.sl 29 Y_Value) x5)).set 14 (V.dat (.sl 29 Y_Value) x14)).set 15 (V.dat (.int .i64) x15)).set 16 (V.dat (.int .i64) x16)), [⟨600002, 0, .box (V.dat Y_Heap x2)⟩]⟩
section
variable (n_l0 : LO → LV → LV → Int → Int → Option Int) (x2 : LO) (x5 x14 : LV) (x15 x16 : Int)
def F76.b_l0 : Option Int :=
 bif (decide (x16 < x15)) then
 if 0 ≤ x16 ∧ x16 < ((List.length x14) : Int) then
 (c118 (x2, (List.getD x14 (Int.toNat x16) Z_Value))).bind fun y1 =>
 bif (!y1) then
 some (27 : Int)
 else
 if 0 ≤ (0 : Int) ∧ (0 : Int) ≤ x16 ∧ x16 ≤ ((List.length x5) : Int) then
 (c119 (x2, ((List.drop (Int.toNat (0 : Int)) (List.take (Int.toNat x16) x5)), (List.getD x14 (Int.toNat x16) Z_Value)))).bind fun y2 =>
 bif (decide (y2 ≥ (0 : Int))) then
 some (8 : Int)
 else
 n_l0 x2 x5 x14 x15 (IntKind.i64.wrap (x16 + (1 : Int)))
 else none
 else none
 else
 some (0 : Int)
def F76.c_l0 : Option Int :=
 bif (decide (x16 < x15)) then
 if 0 ≤ x16 ∧ x16 < ((List.length x14) : Int) then
 (c118 (x2, (List.getD x14 (Int.toNat x16) Z_Value))).bind fun y1 =>
 bif !y1 then
 some (27 : Int)
 else
 if (0 : Int) ≤ x16 ∧ x16 ≤ ((List.length x5) : Int) then
 (c119 (x2, ((List.take (Int.toNat x16) x5), (List.getD x14 (Int.toNat x16) Z_Value)))).bind fun y2 =>
 bif (decide (y2 ≥ (0 : Int))) then
 some (8 : Int)
 else
 n_l0 x2 x5 x14 x15 (IntKind.i64.wrap (x16 + (1 : Int)))
 else none
 else none
 else
 some (0 : Int)
theorem F76.q_l0 : F76.b_l0 c118 c119 n_l0 x2 x5 x14 x15 x16 = F76.c_l0 c118 c119 n_l0 x2 x5 x14 x15 x16 := by
  simp only [F76.b_l0, F76.c_l0, qq]
def F76.l0 (k : Nat) : Nat → LO → LV → LV → Int → Int → Option Int
  | 0, _, _, _, _, _ => none
  | n + 1, x2, x5, x14, x15, x16 => F76.b_l0 c118 c119 (fun x2 x5 x14 x15 x16 => F76.l0 k n x2 x5 x14 x15 x16) x2 x5 x14 x15 x16
theorem F76.e_l0 : F76.M_l0 c118 c119 k n (F76.fr_l0 x2 x5 x14 x15 x16) = F76.l0 c118 c119 k n x2 x5 x14 x15 x16 := by
  induction n generalizing x2 x5 x14 x15 x16 with
  | zero => exact lpAt0
  | succ n ih =>
    refine Eq.trans (b := F76.b_l0 c118 c119 (fun x2 x5 x14 x15 x16 => F76.M_l0 c118 c119 k n (F76.fr_l0 x2 x5 x14 x15 x16)) x2 x5 x14 x15 x16) (by kernel_rfl) ?_
    simp only [ih]
    rfl
end
variable (r_l0 : LO → LV → LV → Int → Int → Option Int) (a0 : LO) (a1 : Int)
def F76.b (c118 : F118.E) (c119 : F119.E) (r_l0 : LO → LV → LV → Int → Int → Option Int) (a0 : LO) (a1 : Int) : Option Int :=
 if 0 ≤ a1 ∧ a1 < ((List.length a0) : Int) then
 r_l0 a0 (((((((((List.getD a0 (Int.toNat a1) Z_Object).2).2).2).2).2).2).2).1) (((((((((List.getD a0 (Int.toNat a1) Z_Object).2).2).2).2).2).2).2).1) ((List.length (((((((((List.getD a0 (Int.toNat a1) Z_Object).2).2).2).2).2).2).2).1)) : Int) (0 : Int)
 else none
def F76.f : Option Int := F76.b c118 c119 (F76.l0 c118 c119 k k) a0 a1
theorem F76.e : fn (F76.C c118 c119) k Tryz.f76 F76.A F76.R (a0, a1) = F76.f c118 c119 k a0 a1 := by
  refine Eq.trans (b := F76.b c118 c119 (fun x2 x5 x14 x15 x16 => F76.M_l0 c118 c119 k k (F76.fr_l0 x2 x5 x14 x15 x16)) a0 a1) (by kernel_rfl) ?_
  simp only [F76.e_l0]
  rfl
end
def F76.u (k : Nat) : F76.E := fun y => F76.f (F118.u k) (F119.u k) k y.1 y.2
theorem F76.sound (k : Nat) : Sound Tryz.prog ⟨76, F76.A, F76.R, F76.u k⟩ := sn gr Tryz.func76 (fun y => F76.e (F118.u k) (F119.u k) k y.1 y.2) (al (F118.sound k) (al (F119.sound k) al0))
/-! ### brindlewood/brindlewoodref7.HasInt: f178 -/
abbrev F178.A : List Sh := [(.d (.sl 3 (.int .i64))), (.d (.int .i64))]
abbrev F178.R : List Sh := [(.d .bool)]
abbrev F178.E : Type := (LI × Int) → Option Bool
section
variable (c116 : F116.E)
variable (k n : Nat)
def F178.C : Ctx := cx [⟨116, F116.A, F116.R, c116⟩] []
variable (a0 : LI) (a1 : Int)
def F178.b : Option Bool :=
 (c116 (a0, a1)).bind fun y1 =>
 some y1
def F178.f (k : Nat) (a0 : LI) (a1 : Int) : Option Bool := F178.b c116 a0 a1
theorem F178.e : fn (F178.C c116) k Tryz.f178 F178.A F178.R (a0, a1) = F178.f c116 k a0 a1 := by
  kernel_rfl
end
def F178.u (k : Nat) : F178.E := fun y => F178.f (F116.u k) k y.1 y.2
theorem F178.sound (k : Nat) : Sound Tryz.prog ⟨178, F178.A, F178.R, F178.u k⟩ := sn gr Tryz.func178 (fun y => F178.e (F116.u k) k y.1 y.2) (al (F116.sound k) al0)
/-! ### brindlewood/brindlewoodref7.OrdersFault: f158 -/
abbrev F158.A : List Sh := [(.d (.sl 54 (.sl 3 (.int .i64))))]
abbrev F158.R : List Sh := [(.d Y_Fault)]
abbrev F158.E : Type := LLI → Option X_acceptRange
section
variable (c69 : F69.E) (c178 : F178.E)
variable (k n m0 : Nat)
def F158.C : Ctx := cx [⟨69, F69.A, F69.R, c69⟩, ⟨178, F178.A, F178.R, c178⟩] [(0, [.bx 2 600002 (.d Y_Fault), .o 3 500003 3 (.int .i64), .d 14 (.sl 54 (.sl 3 (.int .i64))), .d 15 (.int .i64), .d 16 (.int .i64)]), (2, [.bx 2 600002 (.d Y_Fault), .o 3 500003 3 (.int .i64), .d 4 (.int .i64), .d 5 (.sl 3 (.int .i64)), .d 6 .bool, .d 7 (.int .i64), .d 14 (.sl 54 (.sl 3 (.int .i64))), .d 15 (.int .i64), .d 16 (.int .i64), .d 21 (.sl 3 (.int .i64)), .d 22 (.int .i64), .d 23 (.int .i64)])]
noncomputable def F158.M_l0 (s : St) : Option X_acceptRange := lpAt (F158.C c69 c178) k n [1, 1, 1, 0, 1, 0] [] Tryz.f158 F158.A F158.R s
noncomputable def F158.fr_l0 (x2 : Int × Int) (x3 : LI) (x14 : LLI) (x15 : Int) (x16 : Int) : St := ⟨((((((List.replicate 76 V.un).set 2 (V.bp 600002 0 [])).set 3 (V.ref 500003 0 0 (List.length x3))).set 14 (V.dat (.sl 54 (.sl 3 (.int .i64))) x14)).set 15 (V.dat (.int .i64) x15)).set 16 (V.dat (.int .i64) x16)), [⟨500003, 0, .arr 3 (.int .i64) x3⟩, ⟨600002, 0, .box (V.dat Y_Fault x2)⟩]⟩
noncomputable def F158.M_l2 (s : St) : Option X_acceptRange := lpAt (F158.C c69 c178) k n [1, 1, 1, 0, 1, 0, 0, 1, 1, 0, 0, 1, 1, 0, 1, 0] [m0] Tryz.f158 F158.A F158.R s
noncomputable def F158.fr_l2 (x2 : Int × Int) (x3 : LI) (x4 : Int) (x5 : LI) (x6 : Bool) (x7 : Int) (x14 : LLI) (x15 : Int) (x16 : Int) (x21 : LI) (x22 : Int) (x23 : Int) : St := ⟨(((((((((((((List.replicate 76 V.un).set 2 (V.bp 600002 0 [])).set 3 (V.ref 500003 0 0 (List.length x3))).set 4 (V.dat (.int .i64) x4)).set 5 (V.dat (.sl 3 (.int .i64)) x5)).set 6 (V.dat .bool x6)).set 7 (V.dat (.int .i64) x7)).set 14 (V.dat (.sl 54 (.sl 3 (.int .i64))) x14)).set 15 (V.dat (.int .i64) x15)).set 16 (V.dat (.int .i64) x16)).set 21 (V.dat (.sl 3 (.int .i64)) x21)).set 22 (V.dat (.int .i64) x22)).set 23 (V.dat (.int .i64) x23)), [⟨500003, 0, .arr 3 (.int .i64) x3⟩, ⟨600002, 0, .box (V.dat Y_Fault x2)⟩]⟩
section
variable (n_l2 : X_acceptRange → LI → Int → LI → Bool → Int → LLI → Int → Int → LI → Int → Int → Option X_acceptRange) (n_l0 : X_acceptRange → LI → LLI → Int → Int → Option X_acceptRange) (x2 : Int × Int) (x3 : LI) (x4 : Int) (x5 : LI) (x6 : Bool) (x7 : Int) (x14 : LLI) (x15 x16 : Int) (x21 : LI) (x22 x23 : Int)
def F158.b_l2 : Option X_acceptRange :=
 bif (decide (x23 < x22)) then
 if 0 ≤ x23 ∧ x23 < ((List.length x21) : Int) then
 bif x6 then
 n_l2 x2 (List.take (List.length x3) x3) x4 x5 true (if (List.getD x21 (Int.toNat x23) (0 : Int)) < x7 then (List.getD x21 (Int.toNat x23) (0 : Int)) else x7) x14 x15 x16 x21 x22 (IntKind.i64.wrap (x23 + (1 : Int)))
 else
 if 0 ≤ (0 : Int) ∧ (0 : Int) ≤ x23 ∧ x23 ≤ ((List.length x5) : Int) then
 (c178 ((List.drop (Int.toNat (0 : Int)) (List.take (Int.toNat x23) x5)), (List.getD x21 (Int.toNat x23) (0 : Int)))).bind fun y2 =>
 n_l2 x2 (List.take (List.length x3) x3) x4 x5 y2 (if (List.getD x21 (Int.toNat x23) (0 : Int)) < x7 then (List.getD x21 (Int.toNat x23) (0 : Int)) else x7) x14 x15 x16 x21 x22 (IntKind.i64.wrap (x23 + (1 : Int)))
 else none
 else none
 else
 bif (((List.length x5) : Int) == (0 : Int)) then
 (c69 ((10 : Int), x4)).bind fun y3 =>
 some y3
 else
 bif (decide (((List.length x5) : Int) > (40 : Int))) then
 (c69 ((2 : Int), x4)).bind fun y4 =>
 some y4
 else
 bif (decide (x7 < (0 : Int))) then
 (c69 ((4 : Int), x4)).bind fun y5 =>
 some y5
 else
 bif x6 then
 (c69 ((8 : Int), x4)).bind fun y6 =>
 some y6
 else
 if 0 ≤ (0 : Int) ∧ (0 : Int) < ((List.length x5) : Int) then
 (c178 ((List.take (List.length x3) x3), (List.getD x5 (Int.toNat (0 : Int)) (0 : Int)))).bind fun y7 =>
 bif y7 then
 (c69 ((8 : Int), x4)).bind fun y8 =>
 some y8
 else
 if 0 ≤ (0 : Int) ∧ (0 : Int) < ((List.length x5) : Int) then
 if (List.length x3) ≤ (List.length x3) ∧ ((List.length x3) + (List.length (List.take 1 ([(List.getD x5 (Int.toNat (0 : Int)) (0 : Int))] : LI)))) * 8 ≤ LIM then
 n_l0 x2 (List.take (List.length (List.append (List.take (List.length x3) x3) (List.take 1 ([(List.getD x5 (Int.toNat (0 : Int)) (0 : Int))] : LI)))) (List.append (List.take (List.length x3) x3) (List.take 1 ([(List.getD x5 (Int.toNat (0 : Int)) (0 : Int))] : LI)))) x14 x15 (IntKind.i64.wrap (x16 + (1 : Int)))
 else none
 else none
 else none
def F158.l2 (k : Nat) (n_l0 : X_acceptRange → LI → LLI → Int → Int → Option X_acceptRange) : Nat → X_acceptRange → LI → Int → LI → Bool → Int → LLI → Int → Int → LI → Int → Int → Option X_acceptRange
  | 0, _, _, _, _, _, _, _, _, _, _, _, _ => none
  | n + 1, x2, x3, x4, x5, x6, x7, x14, x15, x16, x21, x22, x23 => F158.b_l2 c69 c178 (fun x2 x3 x4 x5 x6 x7 x14 x15 x16 x21 x22 x23 => F158.l2 k n_l0 n x2 x3 x4 x5 x6 x7 x14 x15 x16 x21 x22 x23) n_l0 x2 x3 x4 x5 x6 x7 x14 x15 x16 x21 x22 x23
theorem F158.e_l2 : F158.M_l2 c69 c178 k n m0 (F158.fr_l2 x2 x3 x4 x5 x6 x7 x14 x15 x16 x21 x22 x23) = F158.l2 c69 c178 k (fun x2 x3 x14 x15 x16 => F158.M_l0 c69 c178 k m0 (F158.fr_l0 x2 x3 x14 x15 x16)) n x2 x3 x4 x5 x6 x7 x14 x15 x16 x21 x22 x23 := by
  induction n generalizing x2 x3 x4 x5 x6 x7 x14 x15 x16 x21 x22 x23 with
  | zero => exact lpAt0
  | succ n ih =>
    refine Eq.trans (b := F158.b_l2 c69 c178 (fun x2 x3 x4 x5 x6 x7 x14 x15 x16 x21 x22 x23 => F158.M_l2 c69 c178 k n m0 (F158.fr_l2 x2 x3 x4 x5 x6 x7 x14 x15 x16 x21 x22 x23)) (fun x2 x3 x14 x15 x16 => F158.M_l0 c69 c178 k m0 (F158.fr_l0 x2 x3 x14 x15 x16)) x2 x3 x4 x5 x6 x7 x14 x15 x16 x21 x22 x23) (by kernel_rfl) ?_
    simp only [ih]
    rfl
end
section
variable (r_l2 : X_acceptRange → LI → Int → LI → Bool → Int → LLI → Int → Int → LI → Int → Int → Option X_acceptRange) (x2 : Int × Int) (x3 : LI) (x14 : LLI) (x15 x16 : Int)
def F158.b_l0 (c69 : F69.E) (c178 : F178.E) (r_l2 : X_acceptRange → LI → Int → LI → Bool → Int → LLI → Int → Int → LI → Int → Int → Option X_acceptRange) (x2 : Int × Int) (x3 : LI) (x14 : LLI) (x15 : Int) (x16 : Int) : Option X_acceptRange :=
 bif (decide (x16 < x15)) then
 if 0 ≤ x16 ∧ x16 < ((List.length x14) : Int) then
 r_l2 x2 (List.take (List.length x3) x3) x16 (List.getD x14 (Int.toNat x16) []) false (0 : Int) x14 x15 x16 (List.getD x14 (Int.toNat x16) []) ((List.length (List.getD x14 (Int.toNat x16) [])) : Int) (0 : Int)
 else none
 else
 some ((0 : Int), (0 : Int))
def F158.l0 : Nat → X_acceptRange → LI → LLI → Int → Int → Option X_acceptRange
  | 0, _, _, _, _, _ => none
  | n + 1, x2, x3, x14, x15, x16 => F158.b_l0 c69 c178 (F158.l2 c69 c178 k (fun x2 x3 x14 x15 x16 => F158.l0 n x2 x3 x14 x15 x16) k) x2 x3 x14 x15 x16
theorem F158.e_l0 : F158.M_l0 c69 c178 k n (F158.fr_l0 x2 x3 x14 x15 x16) = F158.l0 c69 c178 k n x2 x3 x14 x15 x16 := by
  induction n generalizing x2 x3 x14 x15 x16 with
  | zero => exact lpAt0
  | succ n ih =>
    refine Eq.trans (b := F158.b_l0 c69 c178 (fun x2 x3 x4 x5 x6 x7 x14 x15 x16 x21 x22 x23 => F158.M_l2 c69 c178 k k n (F158.fr_l2 x2 x3 x4 x5 x6 x7 x14 x15 x16 x21 x22 x23)) x2 x3 x14 x15 x16) (by kernel_rfl) ?_
    simp only [F158.e_l2, ih]
    rfl
end
variable (r_l0 : X_acceptRange → LI → LLI → Int → Int → Option X_acceptRange) (a0 : LLI)
def F158.b (c178 : F178.E) (r_l0 : X_acceptRange → LI → LLI → Int → Int → Option X_acceptRange) (a0 : LLI) : Option X_acceptRange :=
 bif (decide (((List.length a0) : Int) > (8 : Int))) then
 (c69 ((2 : Int), (-1 : Int))).bind fun y1 =>
 some y1
 else
 r_l0 ((0 : Int), (0 : Int)) ([] : LI) a0 ((List.length a0) : Int) (0 : Int)
def F158.f : Option X_acceptRange := F158.b c69 c178 (F158.l0 c69 c178 k k) a0
theorem F158.e : fn (F158.C c69 c178) k Tryz.f158 F158.A F158.R a0 = F158.f c69 c178 k a0 := by
  refine Eq.trans (b := F158.b c69 c178 (fun x2 x3 x14 x15 x16 => F158.M_l0 c69 c178 k k (F158.fr_l0 x2 x3 x14 x15 x16)) a0) (by kernel_rfl) ?_
  simp only [F158.e_l0]
  rfl
end
def F158.u (k : Nat) : F158.E := fun y => F158.f (F69.u k) (F178.u k) k y
theorem F158.sound (k : Nat) : Sound Tryz.prog ⟨158, F158.A, F158.R, F158.u k⟩ := sn gr Tryz.func158 (fun y => F158.e (F69.u k) (F178.u k) k y) (al (F69.sound k) (al (F178.sound k) al0))
/-! ### brindlewood/brindlewoodref7.inTail: f179 -/
abbrev F179.A : List Sh := [(.d (.sl 54 (.sl 3 (.int .i64)))), (.d (.int .i64))]
abbrev F179.R : List Sh := [(.d .bool)]
abbrev F179.E : Type := (LLI × Int) → Option Bool
section
variable (c178 : F178.E)
variable (k n : Nat)
def F179.C : Ctx := cx [⟨178, F178.A, F178.R, c178⟩] [(0, [.d 1 (.int .i64), .d 7 (.sl 54 (.sl 3 (.int .i64))), .d 8 (.int .i64), .d 9 (.int .i64)])]
noncomputable def F179.M_l0 (s : St) : Option Bool := lpAt (F179.C c178) k n [1, 0, 1, 0] [] Tryz.f179 F179.A F179.R s
noncomputable def F179.fr_l0 (x1 : Int) (x7 : LLI) (x8 : Int) (x9 : Int) : St := ⟨(((((List.replicate 18 V.un).set 1 (V.dat (.int .i64) x1)).set 7 (V.dat (.sl 54 (.sl 3 (.int .i64))) x7)).set 8 (V.dat (.int .i64) x8)).set 9 (V.dat (.int .i64) x9)), []⟩
section
variable (n_l0 : Int → LLI → Int → Int → Option Bool) (x1 : Int) (x7 : LLI) (x8 x9 : Int)
def F179.b_l0 : Option Bool :=
 bif (decide (x9 < x8)) then
 if 0 ≤ x9 ∧ x9 < ((List.length x7) : Int) then
 if 0 ≤ (1 : Int) ∧ (1 : Int) ≤ ((List.length (List.getD x7 (Int.toNat x9) [])) : Int) ∧ ((List.length (List.getD x7 (Int.toNat x9) [])) : Int) ≤ ((List.length (List.getD x7 (Int.toNat x9) [])) : Int) then
 (c178 ((List.drop (Int.toNat (1 : Int)) (List.take (Int.toNat ((List.length (List.getD x7 (Int.toNat x9) [])) : Int)) (List.getD x7 (Int.toNat x9) []))), x1)).bind fun y1 =>
 bif y1 then
 some true
 else
 n_l0 x1 x7 x8 (IntKind.i64.wrap (x9 + (1 : Int)))
 else none
 else none
 else
 some false
def F179.l0 (k : Nat) : Nat → Int → LLI → Int → Int → Option Bool
  | 0, _, _, _, _ => none
  | n + 1, x1, x7, x8, x9 => F179.b_l0 c178 (fun x1 x7 x8 x9 => F179.l0 k n x1 x7 x8 x9) x1 x7 x8 x9
theorem F179.e_l0 : F179.M_l0 c178 k n (F179.fr_l0 x1 x7 x8 x9) = F179.l0 c178 k n x1 x7 x8 x9 := by
  induction n generalizing x1 x7 x8 x9 with
  | zero => exact lpAt0
  | succ n ih =>
    refine Eq.trans (b := F179.b_l0 c178 (fun x1 x7 x8 x9 => F179.M_l0 c178 k n (F179.fr_l0 x1 x7 x8 x9)) x1 x7 x8 x9) (by kernel_rfl) ?_
    simp only [ih]
    rfl
end
variable (r_l0 : Int → LLI → Int → Int → Option Bool) (a0 : LLI) (a1 : Int)
def F179.b (c178 : F178.E) (r_l0 : Int → LLI → Int → Int → Option Bool) (a0 : LLI) (a1 : Int) : Option Bool :=
 r_l0 a1 a0 ((List.length a0) : Int) (0 : Int)
def F179.f : Option Bool := F179.b c178 (F179.l0 c178 k k) a0 a1
theorem F179.e : fn (F179.C c178) k Tryz.f179 F179.A F179.R (a0, a1) = F179.f c178 k a0 a1 := by
  refine Eq.trans (b := F179.b c178 (fun x1 x7 x8 x9 => F179.M_l0 c178 k k (F179.fr_l0 x1 x7 x8 x9)) a0 a1) (by kernel_rfl) ?_
  simp only [F179.e_l0]
  rfl
end
def F179.u (k : Nat) : F179.E := fun y => F179.f (F178.u k) k y.1 y.2
theorem F179.sound (k : Nat) : Sound Tryz.prog ⟨179, F179.A, F179.R, F179.u k⟩ := sn gr Tryz.func179 (fun y => F179.e (F178.u k) k y.1 y.2) (al (F178.sound k) al0)
/-! ### brindlewood/brindlewoodref7.Merged: f159 -/
abbrev F159.A : List Sh := [(.d (.sl 54 (.sl 3 (.int .i64))))]
abbrev F159.R : List Sh := [(.d (.sl 3 (.int .i64))), (.d (.sl 54 (.sl 3 (.int .i64))))]
abbrev F159.E : Type := LLI → Option (LI × LLI)
section
variable (c179 : F179.E)
variable (k n m0 m1 : Nat)
def F159.C : Ctx := cx [⟨179, F179.A, F179.R, c179⟩] [(0, [.o 2 500002 3 (.int .i64), .o 3 500003 54 (.sl 3 (.int .i64)), .o 4 500004 3 (.int .i64), .d 14 (.sl 54 (.sl 3 (.int .i64))), .d 15 (.int .i64), .d 16 (.int .i64)]), (2, [.o 2 500002 3 (.int .i64), .o 3 500003 54 (.sl 3 (.int .i64))]), (4, [.o 2 500002 3 (.int .i64), .o 3 500003 54 (.sl 3 (.int .i64)), .d 7 (.int .i64), .d 8 .bool, .al 41 3, .d 42 (.int .i64), .d 43 (.int .i64)]), (6, [.o 2 500002 3 (.int .i64), .d 7 (.int .i64), .o 11 500011 54 (.sl 3 (.int .i64)), .o 69 500069 54 (.sl 3 (.int .i64)), .d 70 (.int .i64), .d 71 (.int .i64)]), (100027, [.o 2 500002 3 (.int .i64), .d 7 (.int .i64), .o 11 500011 54 (.sl 3 (.int .i64)), .d 13 (.sl 3 (.int .i64)), .o 69 500069 54 (.sl 3 (.int .i64)), .d 70 (.int .i64), .d 71 (.int .i64)])]
noncomputable def F159.M_l0 (s : St) : Option (LI × LLI) := lpAt (F159.C c179) k n [1, 1, 0, 1, 0] [] Tryz.f159 F159.A F159.R s
noncomputable def F159.fr_l0 (x2 : LI) (x3 : LLI) (x4 : LI) (x14 : LLI) (x15 : Int) (x16 : Int) : St := ⟨(((((((List.replicate 92 V.un).set 2 (V.ref 500002 0 0 (List.length x2))).set 3 (V.ref 500003 0 0 (List.length x3))).set 4 (V.ref 500004 0 0 (List.length x4))).set 14 (V.dat (.sl 54 (.sl 3 (.int .i64))) x14)).set 15 (V.dat (.int .i64) x15)).set 16 (V.dat (.int .i64) x16)), [⟨500004, 0, .arr 3 (.int .i64) x4⟩, ⟨500003, 0, .arr 54 (.sl 3 (.int .i64)) x3⟩, ⟨500002, 0, .arr 3 (.int .i64) x2⟩]⟩
noncomputable def F159.M_l2 (s : St) : Option (LI × LLI) := lpAt (F159.C c179) k n [1, 1, 1, 1, 0, 0] [] Tryz.f159 F159.A F159.R s
noncomputable def F159.fr_l2 (x2 : LI) (x3 : LLI) : St := ⟨(((List.replicate 92 V.un).set 2 (V.ref 500002 0 0 (List.length x2))).set 3 (V.ref 500003 0 0 (List.length x3))), [⟨500003, 0, .arr 54 (.sl 3 (.int .i64)) x3⟩, ⟨500002, 0, .arr 3 (.int .i64) x2⟩]⟩
noncomputable def F159.M_l4 (s : St) : Option (LI × LLI) := lpAt (F159.C c179) k n [1, 1, 1, 1, 0, 0, 0, 1, 0, 1, 0, 1, 0] [m0] Tryz.f159 F159.A F159.R s
noncomputable def F159.fr_l4 (x2 : LI) (x3 : LLI) (x7 : Int) (x8 : Bool) (x42 : Int) (x43 : Int) : St := ⟨((((((((List.replicate 92 V.un).set 2 (V.ref 500002 0 0 (List.length x2))).set 3 (V.ref 500003 0 0 (List.length x3))).set 7 (V.dat (.int .i64) x7)).set 8 (V.dat .bool x8)).set 41 (V.ref 500003 0 0 (List.length x3))).set 42 (V.dat (.int .i64) x42)).set 43 (V.dat (.int .i64) x43)), [⟨500003, 0, .arr 54 (.sl 3 (.int .i64)) x3⟩, ⟨500002, 0, .arr 3 (.int .i64) x2⟩]⟩
noncomputable def F159.M_l6 (s : St) : Option (LI × LLI) := lpAt (F159.C c179) k n [1, 1, 1, 1, 0, 0, 0, 1, 0, 1, 1, 1, 1, 1, 0, 1, 0] [m0] Tryz.f159 F159.A F159.R s
noncomputable def F159.fr_l6 (x2 : LI) (x7 : Int) (x11 : LLI) (x69 : LLI) (x70 : Int) (x71 : Int) : St := ⟨(((((((List.replicate 92 V.un).set 2 (V.ref 500002 0 0 (List.length x2))).set 7 (V.dat (.int .i64) x7)).set 11 (V.ref 500011 0 0 (List.length x11))).set 69 (V.ref 500069 0 0 (List.length x69))).set 70 (V.dat (.int .i64) x70)).set 71 (V.dat (.int .i64) x71)), [⟨500069, 0, .arr 54 (.sl 3 (.int .i64)) x69⟩, ⟨500011, 0, .arr 54 (.sl 3 (.int .i64)) x11⟩, ⟨500002, 0, .arr 3 (.int .i64) x2⟩]⟩
noncomputable def F159.M_g27 (s : St) : Option (LI × LLI) := gtAt (F159.C c179) k [1, 1, 1, 1, 0, 0, 0, 1, 0, 1, 1, 1, 1, 1, 0, 1, 0, 0, 1, 1, 0, 0, 1, 1, 1, 0] [m0, m1] Tryz.f159 F159.A F159.R s
noncomputable def F159.fr_g27 (x2 : LI) (x7 : Int) (x11 : LLI) (x13 : LI) (x69 : LLI) (x70 : Int) (x71 : Int) : St := ⟨((((((((List.replicate 92 V.un).set 2 (V.ref 500002 0 0 (List.length x2))).set 7 (V.dat (.int .i64) x7)).set 11 (V.ref 500011 0 0 (List.length x11))).set 13 (V.dat (.sl 3 (.int .i64)) x13)).set 69 (V.ref 500069 0 0 (List.length x69))).set 70 (V.dat (.int .i64) x70)).set 71 (V.dat (.int .i64) x71)), [⟨500069, 0, .arr 54 (.sl 3 (.int .i64)) x69⟩, ⟨500011, 0, .arr 54 (.sl 3 (.int .i64)) x11⟩, ⟨500002, 0, .arr 3 (.int .i64) x2⟩]⟩
section
variable (n_l6 : LI → Int → LLI → LLI → Int → Int → Option (LI × LLI)) (x2 : LI) (x7 : Int) (x11 : LLI) (x13 : LI) (x69 : LLI) (x70 x71 : Int)
def F159.b_g27 (c179 : F179.E) (n_l6 : LI → Int → LLI → LLI → Int → Int → Option (LI × LLI)) (x2 : LI) (x7 : Int) (x11 : LLI) (x13 : LI) (x69 : LLI) (x70 : Int) (x71 : Int) : Option (LI × LLI) :=
 if (List.length x11) ≤ (List.length x11) ∧ ((List.length x11) + (List.length (List.take 1 ([x13] : LLI)))) * 24 ≤ LIM then
 n_l6 (List.take (List.length x2) x2) x7 (List.take (List.length (List.append (List.take (List.length x11) x11) (List.take 1 ([x13] : LLI)))) (List.append (List.take (List.length x11) x11) (List.take 1 ([x13] : LLI)))) (List.take (List.length x69) x69) x70 (IntKind.i64.wrap (x71 + (1 : Int)))
 else none
def F159.g27 (n_l2 : LI → LLI → Option (LI × LLI)) (n_l6 : LI → Int → LLI → LLI → Int → Int → Option (LI × LLI)) (x2 : LI) (x7 : Int) (x11 : LLI) (x13 : LI) (x69 : LLI) (x70 : Int) (x71 : Int) : Option (LI × LLI) := gate k (F159.b_g27 c179 n_l6 x2 x7 x11 x13 x69 x70 x71)
theorem F159.e_g27 : F159.M_g27 c179 k m0 m1 (F159.fr_g27 x2 x7 x11 x13 x69 x70 x71) = F159.g27 c179 k (fun x2 x3 => F159.M_l2 c179 k m0 (F159.fr_l2 x2 x3)) (fun x2 x7 x11 x69 x70 x71 => F159.M_l6 c179 k m1 m0 (F159.fr_l6 x2 x7 x11 x69 x70 x71)) x2 x7 x11 x13 x69 x70 x71 := by
  kernel_rfl
end
section
variable (r_g27 : LI → Int → LLI → LI → LLI → Int → Int → Option (LI × LLI)) (n_l6 : LI → Int → LLI → LLI → Int → Int → Option (LI × LLI)) (n_l2 : LI → LLI → Option (LI × LLI)) (x2 : LI) (x7 : Int) (x11 x69 : LLI) (x70 x71 : Int)
def F159.b_l6 (c179 : F179.E) (r_g27 : LI → Int → LLI → LI → LLI → Int → Int → Option (LI × LLI)) (n_l6 : LI → Int → LLI → LLI → Int → Int → Option (LI × LLI)) (n_l2 : LI → LLI → Option (LI × LLI)) (x2 : LI) (x7 : Int) (x11 : LLI) (x69 : LLI) (x70 : Int) (x71 : Int) : Option (LI × LLI) :=
 bif (decide (x71 < x70)) then
 if 0 ≤ x71 ∧ x71 < (((List.length x69) : Nat) : Int) then
 if 0 ≤ (0 : Int) ∧ (0 : Int) < ((List.length (List.getD x69 (0 + Int.toNat x71) [])) : Int) then
 bif ((List.getD (List.getD x69 (0 + Int.toNat x71) []) (Int.toNat (0 : Int)) (0 : Int)) == x7) then
 if 0 ≤ (1 : Int) ∧ (1 : Int) ≤ ((List.length (List.getD x69 (0 + Int.toNat x71) [])) : Int) ∧ ((List.length (List.getD x69 (0 + Int.toNat x71) [])) : Int) ≤ ((List.length (List.getD x69 (0 + Int.toNat x71) [])) : Int) then
 bif (decide (((List.length (List.drop (Int.toNat (1 : Int)) (List.take (Int.toNat ((List.length (List.getD x69 (0 + Int.toNat x71) [])) : Int)) (List.getD x69 (0 + Int.toNat x71) [])))) : Int) > (0 : Int))) then
 r_g27 (List.take (List.length x2) x2) x7 (List.take (List.length x11) x11) (List.drop (Int.toNat (1 : Int)) (List.take (Int.toNat ((List.length (List.getD x69 (0 + Int.toNat x71) [])) : Int)) (List.getD x69 (0 + Int.toNat x71) []))) (List.take (List.length x69) x69) x70 x71
 else
 n_l6 (List.take (List.length x2) x2) x7 (List.take (List.length x11) x11) (List.take (List.length x69) x69) x70 (IntKind.i64.wrap (x71 + (1 : Int)))
 else none
 else
 bif (decide (((List.length (List.getD x69 (0 + Int.toNat x71) [])) : Int) > (0 : Int))) then
 r_g27 (List.take (List.length x2) x2) x7 (List.take (List.length x11) x11) (List.getD x69 (0 + Int.toNat x71) []) (List.take (List.length x69) x69) x70 x71
 else
 n_l6 (List.take (List.length x2) x2) x7 (List.take (List.length x11) x11) (List.take (List.length x69) x69) x70 (IntKind.i64.wrap (x71 + (1 : Int)))
 else none
 else none
 else
 n_l2 (List.take (List.length x2) x2) (List.take (List.length x11) x11)
def F159.l6 : Nat → LI → Int → LLI → LLI → Int → Int → Option (LI × LLI)
  | 0, _, _, _, _, _, _ => none
  | n + 1, x2, x7, x11, x69, x70, x71 => F159.b_l6 c179 (F159.g27 c179 k n_l2 (fun x2 x7 x11 x69 x70 x71 => F159.l6 n x2 x7 x11 x69 x70 x71)) (fun x2 x7 x11 x69 x70 x71 => F159.l6 n x2 x7 x11 x69 x70 x71) n_l2 x2 x7 x11 x69 x70 x71
theorem F159.e_l6 : F159.M_l6 c179 k n m0 (F159.fr_l6 x2 x7 x11 x69 x70 x71) = F159.l6 c179 k (fun x2 x3 => F159.M_l2 c179 k m0 (F159.fr_l2 x2 x3)) n x2 x7 x11 x69 x70 x71 := by
  induction n generalizing x2 x7 x11 x69 x70 x71 with
  | zero => exact lpAt0
  | succ n ih =>
    refine Eq.trans (b := F159.b_l6 c179 (fun x2 x7 x11 x13 x69 x70 x71 => F159.M_g27 c179 k m0 n (F159.fr_g27 x2 x7 x11 x13 x69 x70 x71)) (fun x2 x7 x11 x69 x70 x71 => F159.M_l6 c179 k n m0 (F159.fr_l6 x2 x7 x11 x69 x70 x71)) (fun x2 x3 => F159.M_l2 c179 k m0 (F159.fr_l2 x2 x3)) x2 x7 x11 x69 x70 x71) (by kernel_rfl) ?_
    simp only [F159.e_g27, ih]
    rfl
end
section
variable (n_l4 : LI → LLI → Int → Bool → Int → Int → Option (LI × LLI)) (r_l6 : LI → Int → LLI → LLI → Int → Int → Option (LI × LLI)) (x2 : LI) (x3 : LLI) (x7 : Int) (x8 : Bool) (x42 x43 : Int)
def F159.b_l4 : Option (LI × LLI) :=
 bif (decide (x43 < x42)) then
 if 0 ≤ x43 ∧ x43 < (((List.length x3) : Nat) : Int) then
 bif (!x8) then
 if 0 ≤ (0 : Int) ∧ (0 : Int) < ((List.length (List.getD x3 (0 + Int.toNat x43) [])) : Int) then
 (c179 ((List.take (List.length x3) x3), (List.getD (List.getD x3 (0 + Int.toNat x43) []) (Int.toNat (0 : Int)) (0 : Int)))).bind fun y1 =>
 bif (!y1) then
 if 0 ≤ (0 : Int) ∧ (0 : Int) < ((List.length (List.getD x3 (0 + Int.toNat x43) [])) : Int) then
 if (List.length x3) = (List.length x3) then
 n_l4 (List.take (List.length x2) x2) (List.take (List.length x3) x3) (List.getD (List.getD x3 (0 + Int.toNat x43) []) (Int.toNat (0 : Int)) (0 : Int)) true x42 (IntKind.i64.wrap (x43 + (1 : Int)))
 else none
 else none
 else
 if (List.length x3) = (List.length x3) then
 n_l4 (List.take (List.length x2) x2) (List.take (List.length x3) x3) x7 x8 x42 (IntKind.i64.wrap (x43 + (1 : Int)))
 else none
 else none
 else
 if (List.length x3) = (List.length x3) then
 n_l4 (List.take (List.length x2) x2) (List.take (List.length x3) x3) x7 x8 x42 (IntKind.i64.wrap (x43 + (1 : Int)))
 else none
 else none
 else
 bif (!x8) then
 some ((List.take (List.length x2) x2), (List.take (List.length x3) x3))
 else
 if (List.length x2) ≤ (List.length x2) ∧ ((List.length x2) + (List.length (List.take 1 ([x7] : LI)))) * 8 ≤ LIM then
 r_l6 (List.take (List.length (List.append (List.take (List.length x2) x2) (List.take 1 ([x7] : LI)))) (List.append (List.take (List.length x2) x2) (List.take 1 ([x7] : LI)))) x7 ([] : LLI) (List.take (List.length x3) x3) (((List.length x3) : Nat) : Int) (0 : Int)
 else none
def F159.l4 (n_l2 : LI → LLI → Option (LI × LLI)) : Nat → LI → LLI → Int → Bool → Int → Int → Option (LI × LLI)
  | 0, _, _, _, _, _, _ => none
  | n + 1, x2, x3, x7, x8, x42, x43 => F159.b_l4 c179 (fun x2 x3 x7 x8 x42 x43 => F159.l4 n_l2 n x2 x3 x7 x8 x42 x43) (F159.l6 c179 k n_l2 k) x2 x3 x7 x8 x42 x43
theorem F159.e_l4 : F159.M_l4 c179 k n m0 (F159.fr_l4 x2 x3 x7 x8 x42 x43) = F159.l4 c179 k (fun x2 x3 => F159.M_l2 c179 k m0 (F159.fr_l2 x2 x3)) n x2 x3 x7 x8 x42 x43 := by
  induction n generalizing x2 x3 x7 x8 x42 x43 with
  | zero => exact lpAt0
  | succ n ih =>
    refine Eq.trans (b := F159.b_l4 c179 (fun x2 x3 x7 x8 x42 x43 => F159.M_l4 c179 k n m0 (F159.fr_l4 x2 x3 x7 x8 x42 x43)) (fun x2 x7 x11 x69 x70 x71 => F159.M_l6 c179 k k m0 (F159.fr_l6 x2 x7 x11 x69 x70 x71)) x2 x3 x7 x8 x42 x43) (by kernel_rfl) ?_
    simp only [F159.e_l6, ih]
    rfl
end
section
variable (r_l4 : LI → LLI → Int → Bool → Int → Int → Option (LI × LLI)) (x2 : LI) (x3 : LLI)
def F159.b_l2 (c179 : F179.E) (r_l4 : LI → LLI → Int → Bool → Int → Int → Option (LI × LLI)) (x2 : LI) (x3 : LLI) : Option (LI × LLI) :=
 bif (decide ((((List.length x3) : Nat) : Int) > (0 : Int))) then
 if (List.length x3) = (List.length x3) then
 r_l4 (List.take (List.length x2) x2) (List.take (List.length x3) x3) (0 : Int) false (((List.length x3) : Nat) : Int) (0 : Int)
 else none
 else
 some ((List.take (List.length x2) x2), ([] : LLI))
def F159.l2 : Nat → LI → LLI → Option (LI × LLI)
  | 0, _, _ => none
  | n + 1, x2, x3 => F159.b_l2 c179 (F159.l4 c179 k (fun x2 x3 => F159.l2 n x2 x3) k) x2 x3
theorem F159.e_l2 : F159.M_l2 c179 k n (F159.fr_l2 x2 x3) = F159.l2 c179 k n x2 x3 := by
  induction n generalizing x2 x3 with
  | zero => exact lpAt0
  | succ n ih =>
    refine Eq.trans (b := F159.b_l2 c179 (fun x2 x3 x7 x8 x42 x43 => F159.M_l4 c179 k k n (F159.fr_l4 x2 x3 x7 x8 x42 x43)) x2 x3) (by kernel_rfl) ?_
    simp only [F159.e_l4, ih]
    rfl
end
section
variable (n_l0 : LI → LLI → LI → LLI → Int → Int → Option (LI × LLI)) (r_l2 : LI → LLI → Option (LI × LLI)) (x2 : LI) (x3 : LLI) (x4 : LI) (x14 : LLI) (x15 x16 : Int)
def F159.b_l0 (c179 : F179.E) (n_l0 : LI → LLI → LI → LLI → Int → Int → Option (LI × LLI)) (r_l2 : LI → LLI → Option (LI × LLI)) (x2 : LI) (x3 : LLI) (x4 : LI) (x14 : LLI) (x15 : Int) (x16 : Int) : Option (LI × LLI) :=
 bif (decide (x16 < x15)) then
 if 0 ≤ x16 ∧ x16 < ((List.length x14) : Int) then
 if (List.length x3) ≤ (List.length x3) ∧ ((List.length x3) + (List.length (List.take 1 ([(List.getD x14 (Int.toNat x16) [])] : LLI)))) * 24 ≤ LIM then
 if 0 ≤ (0 : Int) ∧ (0 : Int) < ((List.length (List.getD x14 (Int.toNat x16) [])) : Int) then
 if (List.length x4) ≤ (List.length x4) ∧ ((List.length x4) + (List.length (List.take 1 ([(List.getD (List.getD x14 (Int.toNat x16) []) (Int.toNat (0 : Int)) (0 : Int))] : LI)))) * 8 ≤ LIM then
 n_l0 (List.take (List.length x2) x2) (List.take (List.length (List.append (List.take (List.length x3) x3) (List.take 1 ([(List.getD x14 (Int.toNat x16) [])] : LLI)))) (List.append (List.take (List.length x3) x3) (List.take 1 ([(List.getD x14 (Int.toNat x16) [])] : LLI)))) (List.take (List.length (List.append (List.take (List.length x4) x4) (List.take 1 ([(List.getD (List.getD x14 (Int.toNat x16) []) (Int.toNat (0 : Int)) (0 : Int))] : LI)))) (List.append (List.take (List.length x4) x4) (List.take 1 ([(List.getD (List.getD x14 (Int.toNat x16) []) (Int.toNat (0 : Int)) (0 : Int))] : LI)))) x14 x15 (IntKind.i64.wrap (x16 + (1 : Int)))
 else none
 else none
 else none
 else none
 else
 bif (decide ((((List.length x4) : Nat) : Int) > (0 : Int))) then
 if (List.length x3) ≤ (List.length x3) ∧ ((List.length x3) + (List.length (List.take 1 ([(List.take (List.length x4) x4)] : LLI)))) * 24 ≤ LIM then
 r_l2 (List.take (List.length x2) x2) (List.take (List.length (List.append (List.take (List.length x3) x3) (List.take 1 ([(List.take (List.length x4) x4)] : LLI)))) (List.append (List.take (List.length x3) x3) (List.take 1 ([(List.take (List.length x4) x4)] : LLI))))
 else none
 else
 r_l2 (List.take (List.length x2) x2) (List.take (List.length x3) x3)
def F159.l0 : Nat → LI → LLI → LI → LLI → Int → Int → Option (LI × LLI)
  | 0, _, _, _, _, _, _ => none
  | n + 1, x2, x3, x4, x14, x15, x16 => F159.b_l0 c179 (fun x2 x3 x4 x14 x15 x16 => F159.l0 n x2 x3 x4 x14 x15 x16) (F159.l2 c179 k k) x2 x3 x4 x14 x15 x16
theorem F159.e_l0 : F159.M_l0 c179 k n (F159.fr_l0 x2 x3 x4 x14 x15 x16) = F159.l0 c179 k n x2 x3 x4 x14 x15 x16 := by
  induction n generalizing x2 x3 x4 x14 x15 x16 with
  | zero => exact lpAt0
  | succ n ih =>
    refine Eq.trans (b := F159.b_l0 c179 (fun x2 x3 x4 x14 x15 x16 => F159.M_l0 c179 k n (F159.fr_l0 x2 x3 x4 x14 x15 x16)) (fun x2 x3 => F159.M_l2 c179 k k (F159.fr_l2 x2 x3)) x2 x3 x4 x14 x15 x16) (by kernel_rfl) ?_
    simp only [F159.e_l2, ih]
    rfl
end
variable (r_l0 : LI → LLI → LI → LLI → Int → Int → Option (LI × LLI)) (a0 : LLI)
def F159.b (c179 : F179.E) (r_l0 : LI → LLI → LI → LLI → Int → Int → Option (LI × LLI)) (a0 : LLI) : Option (LI × LLI) :=
 r_l0 ([] : LI) ([] : LLI) ([] : LI) a0 ((List.length a0) : Int) (0 : Int)
def F159.f : Option (LI × LLI) := F159.b c179 (F159.l0 c179 k k) a0
theorem F159.e : fn (F159.C c179) k Tryz.f159 F159.A F159.R a0 = F159.f c179 k a0 := by
  refine Eq.trans (b := F159.b c179 (fun x2 x3 x4 x14 x15 x16 => F159.M_l0 c179 k k (F159.fr_l0 x2 x3 x4 x14 x15 x16)) a0) (by kernel_rfl) ?_
  simp only [F159.e_l0]
  rfl
end
def F159.u (k : Nat) : F159.E := fun y => F159.f (F179.u k) k y
theorem F159.sound (k : Nat) : Sound Tryz.prog ⟨159, F159.A, F159.R, F159.u k⟩ := sn gr Tryz.func159 (fun y => F159.e (F179.u k) k y) (al (F179.sound k) al0)
/-! ### brindlewood/brindlewoodref7.Order: f120 -/
abbrev F120.A : List Sh := [(.d (.sl 54 (.sl 3 (.int .i64))))]
abbrev F120.R : List Sh := [(.d (.sl 3 (.int .i64))), (.d Y_Fault)]
abbrev F120.E : Type := LLI → Option (LI × X_acceptRange)
section
variable (c158 : F158.E) (c159 : F159.E) (c69 : F69.E)
variable (k n : Nat)
def F120.C : Ctx := cx [⟨158, F158.A, F158.R, c158⟩, ⟨159, F159.A, F159.R, c159⟩, ⟨69, F69.A, F69.R, c69⟩] []
variable (a0 : LLI)
def F120.b : Option (LI × X_acceptRange) :=
 (c158 a0).bind fun y1 =>
 bif (y1.1 != (0 : Int)) then
 some (([] : LI), y1)
 else
 (c159 a0).bind fun y2 =>
 bif (decide (((List.length y2.2) : Int) > (0 : Int))) then
 (c69 ((19 : Int), (-1 : Int))).bind fun y3 =>
 some (([] : LI), y3)
 else
 bif (decide (((List.length y2.1) : Int) ≥ (40 : Int))) then
 (c69 ((14 : Int), (-1 : Int))).bind fun y4 =>
 some (([] : LI), y4)
 else
 some (y2.1, ((0 : Int), (0 : Int)))
def F120.f (k : Nat) (a0 : LLI) : Option (LI × X_acceptRange) := F120.b c158 c159 c69 a0
theorem F120.e : fn (F120.C c158 c159 c69) k Tryz.f120 F120.A F120.R a0 = F120.f c158 c159 c69 k a0 := by
  kernel_rfl
end
def F120.u (k : Nat) : F120.E := fun y => F120.f (F158.u k) (F159.u k) (F69.u k) k y
theorem F120.sound (k : Nat) : Sound Tryz.prog ⟨120, F120.A, F120.R, F120.u k⟩ := sn gr Tryz.func120 (fun y => F120.e (F158.u k) (F159.u k) (F69.u k) k y) (al (F158.sound k) (al (F159.sound k) (al (F69.sound k) al0)))
/-! ### brindlewood/brindlewoodref7.orderOk: f77 -/
abbrev F77.A : List Sh := [(.d Y_Heap), (.d (.int .i64))]
abbrev F77.R : List Sh := [(.d .bool)]
abbrev F77.E : Type := (LO × Int) → Option Bool
section
variable (c120 : F120.E) (c96 : F96.E)
variable (k n : Nat)
def F77.C : Ctx := cx [⟨120, F120.A, F120.R, c120⟩, ⟨96, F96.A, F96.R, c96⟩] [(0, [.d 1 (.int .i64), .bx 2 600002 (.d Y_Heap), .bx 5 600005 (.d Y_Object), .o 6 500006 54 (.sl 3 (.int .i64)), .d 20 (.sl 3 (.int .i64)), .d 21 (.int .i64), .d 22 (.int .i64)])]
noncomputable def F77.M_l0 (s : St) : Option Bool := lpAt (F77.C c120 c96) k n [1, 1, 1, 1, 0, 1, 0] [] Tryz.f77 F77.A F77.R s
noncomputable def F77.fr_l0 (x1 : Int) (x2 : LO) (x5 : Int × (LB × (Int × (LI × (LI × (LLB × (LV × (LV × X_acceptRange)))))))) (x6 : LLI) (x20 : LI) (x21 : Int) (x22 : Int) : St := ⟨((((((((List.replicate 53 V.un).set 1 (V.dat (.int .i64) x1)).set 2 (V.bp 600002 0 [])).set 5 (V.bp 600005 0 [])).set 6 (V.ref 500006 0 0 (List.length x6))).set 20 (V.dat (.sl 3 (.int .i64)) x20)).set 21 (V.dat (.int .i64) x21)).set 22 (V.dat (.int .i64) x22)), [⟨500006, 0, .arr 54 (.sl 3 (.int .i64)) x6⟩, ⟨600005, 0, .box (V.dat Y_Object x5)⟩, ⟨600002, 0, .box (V.dat Y_Heap x2)⟩]⟩
section
variable (n_l0 : Int → LO → X_Object → LLI → LI → Int → Int → Option Bool) (x1 : Int) (x2 : LO) (x5 : Int × (LB × (Int × (LI × (LI × (LLB × (LV × (LV × X_acceptRange)))))))) (x6 : LLI) (x20 : LI) (x21 x22 : Int)
def F77.b_l0 : Option Bool :=
 bif (decide (x22 < x21)) then
 if 0 ≤ x22 ∧ x22 < ((List.length x20) : Int) then
 if 0 ≤ (List.getD x20 (Int.toNat x22) (0 : Int)) ∧ (List.getD x20 (Int.toNat x22) (0 : Int)) < ((List.length x2) : Int) then
 if (List.length x6) ≤ (List.length x6) ∧ ((List.length x6) + (List.length (List.take 1 ([(((((List.getD x2 (Int.toNat (List.getD x20 (Int.toNat x22) (0 : Int))) Z_Object).2).2).2).2).1] : LLI)))) * 24 ≤ LIM then
 n_l0 x1 x2 x5 (List.take (List.length (List.append (List.take (List.length x6) x6) (List.take 1 ([(((((List.getD x2 (Int.toNat (List.getD x20 (Int.toNat x22) (0 : Int))) Z_Object).2).2).2).2).1] : LLI)))) (List.append (List.take (List.length x6) x6) (List.take 1 ([(((((List.getD x2 (Int.toNat (List.getD x20 (Int.toNat x22) (0 : Int))) Z_Object).2).2).2).2).1] : LLI)))) x20 x21 (IntKind.i64.wrap (x22 + (1 : Int)))
 else none
 else none
 else none
 else
 (c120 (List.take (List.length x6) x6)).bind fun y1 =>
 bif (y1.2.1 == (0 : Int)) then
 if 1 ≤ (List.length ([x1] : LI)) ∧ (1 + (List.length y1.1)) * 8 ≤ LIM then
 (c96 (x5.2.2.2.2.1, (List.take (List.length (List.append (List.take 1 ([x1] : LI)) y1.1)) (List.append (List.take 1 ([x1] : LI)) y1.1)))).bind fun y2 =>
 some y2
 else none
 else
 some false
def F77.c_l0 : Option Bool :=
 bif (decide (x22 < x21)) then
 if 0 ≤ x22 ∧ x22 < ((List.length x20) : Int) then
 if 0 ≤ (List.getD x20 (Int.toNat x22) (0 : Int)) ∧ (List.getD x20 (Int.toNat x22) (0 : Int)) < ((List.length x2) : Int) then
 if ((List.length x6) + (List.length ([(((((List.getD x2 (Int.toNat (List.getD x20 (Int.toNat x22) (0 : Int))) Z_Object).2).2).2).2).1] : LLI))) * 24 ≤ LIM then
 n_l0 x1 x2 x5 (x6 ++ ([(((((List.getD x2 (Int.toNat (List.getD x20 (Int.toNat x22) (0 : Int))) Z_Object).2).2).2).2).1] : LLI)) x20 x21 (IntKind.i64.wrap (x22 + (1 : Int)))
 else none
 else none
 else none
 else
 (c120 x6).bind fun y1 =>
 bif (y1.2.1 == (0 : Int)) then
 if 1 ≤ (List.length ([x1] : LI)) ∧ (1 + (List.length y1.1)) * 8 ≤ LIM then
 (c96 (x5.2.2.2.2.1, (([x1] : LI) ++ y1.1))).bind fun y2 =>
 some y2
 else none
 else
 some false
theorem F77.q_l0 : F77.b_l0 c120 c96 n_l0 x1 x2 x5 x6 x20 x21 x22 = F77.c_l0 c120 c96 n_l0 x1 x2 x5 x6 x20 x21 x22 := by
  simp only [F77.b_l0, F77.c_l0, qq]
def F77.l0 (k : Nat) : Nat → Int → LO → X_Object → LLI → LI → Int → Int → Option Bool
  | 0, _, _, _, _, _, _, _ => none
  | n + 1, x1, x2, x5, x6, x20, x21, x22 => F77.b_l0 c120 c96 (fun x1 x2 x5 x6 x20 x21 x22 => F77.l0 k n x1 x2 x5 x6 x20 x21 x22) x1 x2 x5 x6 x20 x21 x22
theorem F77.e_l0 : F77.M_l0 c120 c96 k n (F77.fr_l0 x1 x2 x5 x6 x20 x21 x22) = F77.l0 c120 c96 k n x1 x2 x5 x6 x20 x21 x22 := by
  induction n generalizing x1 x2 x5 x6 x20 x21 x22 with
  | zero => exact lpAt0
  | succ n ih =>
    refine Eq.trans (b := F77.b_l0 c120 c96 (fun x1 x2 x5 x6 x20 x21 x22 => F77.M_l0 c120 c96 k n (F77.fr_l0 x1 x2 x5 x6 x20 x21 x22)) x1 x2 x5 x6 x20 x21 x22) (by kernel_rfl) ?_
    simp only [ih]
    rfl
end
variable (r_l0 : Int → LO → X_Object → LLI → LI → Int → Int → Option Bool) (a0 : LO) (a1 : Int)
def F77.b (c120 : F120.E) (c96 : F96.E) (r_l0 : Int → LO → X_Object → LLI → LI → Int → Int → Option Bool) (a0 : LO) (a1 : Int) : Option Bool :=
 if 0 ≤ a1 ∧ a1 < ((List.length a0) : Int) then
 bif (((List.getD a0 (Int.toNat a1) Z_Object).1) != (9 : Int)) then
 some true
 else
 r_l0 a1 a0 (List.getD a0 (Int.toNat a1) Z_Object) ([] : LLI) (((((List.getD a0 (Int.toNat a1) Z_Object).2).2).2).1) ((List.length (((((List.getD a0 (Int.toNat a1) Z_Object).2).2).2).1)) : Int) (0 : Int)
 else none
def F77.f : Option Bool := F77.b c120 c96 (F77.l0 c120 c96 k k) a0 a1
theorem F77.e : fn (F77.C c120 c96) k Tryz.f77 F77.A F77.R (a0, a1) = F77.f c120 c96 k a0 a1 := by
  refine Eq.trans (b := F77.b c120 c96 (fun x1 x2 x5 x6 x20 x21 x22 => F77.M_l0 c120 c96 k k (F77.fr_l0 x1 x2 x5 x6 x20 x21 x22)) a0 a1) (by kernel_rfl) ?_
  simp only [F77.e_l0]
  rfl
end
def F77.u (k : Nat) : F77.E := fun y => F77.f (F120.u k) (F96.u k) k y.1 y.2
theorem F77.sound (k : Nat) : Sound Tryz.prog ⟨77, F77.A, F77.R, F77.u k⟩ := sn gr Tryz.func77 (fun y => F77.e (F120.u k) (F96.u k) k y.1 y.2) (al (F120.sound k) (al (F96.sound k) al0))
/-! ### brindlewood/brindlewoodref7.Problem: f24 -/
abbrev F24.A : List Sh := [(.d Y_Heap)]
abbrev F24.R : List Sh := [(.d Y_Fault)]
abbrev F24.E : Type := LO → Option X_acceptRange
section
variable (c69 : F69.E) (c70 : F70.E) (c49 : F49.E) (c71 : F71.E) (c72 : F72.E) (c73 : F73.E) (c74 : F74.E) (c75 : F75.E) (c76 : F76.E) (c77 : F77.E) (c78 : F78.E)
variable (k n m0 : Nat)
def F24.C : Ctx := cx [⟨69, F69.A, F69.R, c69⟩, ⟨70, F70.A, F70.R, c70⟩, ⟨49, F49.A, F49.R, c49⟩, ⟨71, F71.A, F71.R, c71⟩, ⟨72, F72.A, F72.R, c72⟩, ⟨73, F73.A, F73.R, c73⟩, ⟨74, F74.A, F74.R, c74⟩, ⟨75, F75.A, F75.R, c75⟩, ⟨76, F76.A, F76.R, c76⟩, ⟨77, F77.A, F77.R, c77⟩, ⟨78, F78.A, F78.R, c78⟩] [(0, [.bx 1 600001 (.d Y_Heap), .bx 2 600002 (.d Y_Fault), .bx 3 600003 (.d Y_Heap), .d 4 (.int .i64), .d 5 (.int .i64), .d 25 (.sl 56 Y_Object), .d 26 (.int .i64), .d 27 (.int .i64)]), (2, [.bx 1 600001 (.d Y_Heap), .bx 2 600002 (.d Y_Fault), .bx 3 600003 (.d Y_Heap), .d 4 (.int .i64), .d 5 (.int .i64), .d 6 (.int .i64), .bx 7 600007 (.d Y_Object), .d 25 (.sl 56 Y_Object), .d 26 (.int .i64), .d 27 (.int .i64), .o 71 500071 3 (.int .i64), .d 72 (.int .i64), .d 73 (.int .i64)]), (4, [.bx 1 600001 (.d Y_Heap), .bx 2 600002 (.d Y_Fault), .bx 3 600003 (.d Y_Heap), .d 4 (.int .i64), .d 5 (.int .i64), .d 25 (.sl 56 Y_Object), .d 26 (.int .i64), .d 27 (.int .i64), .o 121 500121 29 Y_Value, .d 122 (.int .i64), .d 123 (.int .i64)])]
noncomputable def F24.M_l0 (s : St) : Option X_acceptRange := lpAt (F24.C c69 c70 c49 c71 c72 c73 c74 c75 c76 c77 c78) k n [1, 1, 1, 1, 1, 0, 1, 0] [] Tryz.f24 F24.A F24.R s
noncomputable def F24.fr_l0 (x1 : LO) (x2 : Int × Int) (x3 : LO) (x4 : Int) (x5 : Int) (x25 : LO) (x26 : Int) (x27 : Int) : St := ⟨(((((((((List.replicate 142 V.un).set 1 (V.bp 600001 0 [])).set 2 (V.bp 600002 0 [])).set 3 (V.bp 600003 0 [])).set 4 (V.dat (.int .i64) x4)).set 5 (V.dat (.int .i64) x5)).set 25 (V.dat (.sl 56 Y_Object) x25)).set 26 (V.dat (.int .i64) x26)).set 27 (V.dat (.int .i64) x27)), [⟨600003, 0, .box (V.dat Y_Heap x3)⟩, ⟨600002, 0, .box (V.dat Y_Fault x2)⟩, ⟨600001, 0, .box (V.dat Y_Heap x1)⟩]⟩
noncomputable def F24.M_l2 (s : St) : Option X_acceptRange := lpAt (F24.C c69 c70 c49 c71 c72 c73 c74 c75 c76 c77 c78) k n [1, 1, 1, 1, 1, 0, 1, 0, 0, 1, 1, 0, 0, 1, 1, 1, 0, 1, 0] [m0] Tryz.f24 F24.A F24.R s
noncomputable def F24.fr_l2 (x1 : LO) (x2 : Int × Int) (x3 : LO) (x4 : Int) (x5 : Int) (x6 : Int) (x7 : Int × (LB × (Int × (LI × (LI × (LLB × (LV × (LV × X_acceptRange)))))))) (x25 : LO) (x26 : Int) (x27 : Int) (x71 : LI) (x72 : Int) (x73 : Int) : St := ⟨((((((((((((((List.replicate 142 V.un).set 1 (V.bp 600001 0 [])).set 2 (V.bp 600002 0 [])).set 3 (V.bp 600003 0 [])).set 4 (V.dat (.int .i64) x4)).set 5 (V.dat (.int .i64) x5)).set 6 (V.dat (.int .i64) x6)).set 7 (V.bp 600007 0 [])).set 25 (V.dat (.sl 56 Y_Object) x25)).set 26 (V.dat (.int .i64) x26)).set 27 (V.dat (.int .i64) x27)).set 71 (V.ref 500071 0 0 (List.length x71))).set 72 (V.dat (.int .i64) x72)).set 73 (V.dat (.int .i64) x73)), [⟨500071, 0, .arr 3 (.int .i64) x71⟩, ⟨600007, 0, .box (V.dat Y_Object x7)⟩, ⟨600003, 0, .box (V.dat Y_Heap x3)⟩, ⟨600002, 0, .box (V.dat Y_Fault x2)⟩, ⟨600001, 0, .box (V.dat Y_Heap x1)⟩]⟩
noncomputable def F24.M_l4 (s : St) : Option X_acceptRange := lpAt (F24.C c69 c70 c49 c71 c72 c73 c74 c75 c76 c77 c78) k n [1, 1, 1, 1, 1, 0, 1, 0, 0, 1, 1, 0, 0, 1, 1, 1, 1, 1, 1, 1, 1, 1, 0] [m0] Tryz.f24 F24.A F24.R s
noncomputable def F24.fr_l4 (x1 : LO) (x2 : Int × Int) (x3 : LO) (x4 : Int) (x5 : Int) (x25 : LO) (x26 : Int) (x27 : Int) (x121 : LV) (x122 : Int) (x123 : Int) : St := ⟨((((((((((((List.replicate 142 V.un).set 1 (V.bp 600001 0 [])).set 2 (V.bp 600002 0 [])).set 3 (V.bp 600003 0 [])).set 4 (V.dat (.int .i64) x4)).set 5 (V.dat (.int .i64) x5)).set 25 (V.dat (.sl 56 Y_Object) x25)).set 26 (V.dat (.int .i64) x26)).set 27 (V.dat (.int .i64) x27)).set 121 (V.ref 500121 0 0 (List.length x121))).set 122 (V.dat (.int .i64) x122)).set 123 (V.dat (.int .i64) x123)), [⟨500121, 0, .arr 29 Y_Value x121⟩, ⟨600003, 0, .box (V.dat Y_Heap x3)⟩, ⟨600002, 0, .box (V.dat Y_Fault x2)⟩, ⟨600001, 0, .box (V.dat Y_Heap x1)⟩]⟩
section
variable (n_l4 : LO → X_acceptRange → LO → Int → Int → LO → Int → Int → LV → Int → Int → Option X_acceptRange) (n_l0 : LO → X_acceptRange → LO → Int → Int → LO → Int → Int → Option X_acceptRange) (x1 : LO) (x2 : Int × Int) (x3 : LO) (x4 x5 : Int) (x25 : LO) (x26 x27 : Int) (x121 : LV) (x122 x123 : Int)
def F24.b_l4 (c69 : F69.E) (c70 : F70.E) (c49 : F49.E) (c71 : F71.E) (c72 : F72.E) (c73 : F73.E) (c74 : F74.E) (c75 : F75.E) (c76 : F76.E) (c77 : F77.E) (c78 : F78.E) (n_l4 : LO → X_acceptRange → LO → Int → Int → LO → Int → Int → LV → Int → Int → Option X_acceptRange) (n_l0 : LO → X_acceptRange → LO → Int → Int → LO → Int → Int → Option X_acceptRange) (x1 : LO) (x2 : Int × Int) (x3 : LO) (x4 : Int) (x5 : Int) (x25 : LO) (x26 : Int) (x27 : Int) (x121 : LV) (x122 : Int) (x123 : Int) : Option X_acceptRange :=
 bif (decide (x123 < x122)) then
 if 0 ≤ x123 ∧ x123 < (((List.length x121) : Nat) : Int) then
 n_l4 x1 x2 x3 x4 (IntKind.i64.wrap (x5 + ((List.length (((((List.getD x121 (0 + Int.toNat x123) Z_Value).2).2).2).1)) : Int))) x25 x26 x27 (List.take (List.length x121) x121) x122 (IntKind.i64.wrap (x123 + (1 : Int)))
 else none
 else
 n_l0 x1 x2 x3 x4 x5 x25 x26 (IntKind.i64.wrap (x27 + (1 : Int)))
def F24.c_l4 (c69 : F69.E) (c70 : F70.E) (c49 : F49.E) (c71 : F71.E) (c72 : F72.E) (c73 : F73.E) (c74 : F74.E) (c75 : F75.E) (c76 : F76.E) (c77 : F77.E) (c78 : F78.E) (n_l4 : LO → X_acceptRange → LO → Int → Int → LO → Int → Int → LV → Int → Int → Option X_acceptRange) (n_l0 : LO → X_acceptRange → LO → Int → Int → LO → Int → Int → Option X_acceptRange) (x1 : LO) (x2 : Int × Int) (x3 : LO) (x4 : Int) (x5 : Int) (x25 : LO) (x26 : Int) (x27 : Int) (x121 : LV) (x122 : Int) (x123 : Int) : Option X_acceptRange :=
 bif (decide (x123 < x122)) then
 if 0 ≤ x123 ∧ x123 < ((List.length x121) : Int) then
 n_l4 x1 x2 x3 x4 (IntKind.i64.wrap (x5 + ((List.length (((((List.getD x121 (0 + Int.toNat x123) Z_Value).2).2).2).1)) : Int))) x25 x26 x27 x121 x122 (IntKind.i64.wrap (x123 + (1 : Int)))
 else none
 else
 n_l0 x1 x2 x3 x4 x5 x25 x26 (IntKind.i64.wrap (x27 + (1 : Int)))
theorem F24.q_l4 : F24.b_l4 c69 c70 c49 c71 c72 c73 c74 c75 c76 c77 c78 n_l4 n_l0 x1 x2 x3 x4 x5 x25 x26 x27 x121 x122 x123 = F24.c_l4 c69 c70 c49 c71 c72 c73 c74 c75 c76 c77 c78 n_l4 n_l0 x1 x2 x3 x4 x5 x25 x26 x27 x121 x122 x123 := by
  simp only [F24.b_l4, F24.c_l4, qq]
def F24.l4 (k : Nat) (n_l0 : LO → X_acceptRange → LO → Int → Int → LO → Int → Int → Option X_acceptRange) : Nat → LO → X_acceptRange → LO → Int → Int → LO → Int → Int → LV → Int → Int → Option X_acceptRange
  | 0, _, _, _, _, _, _, _, _, _, _, _ => none
  | n + 1, x1, x2, x3, x4, x5, x25, x26, x27, x121, x122, x123 => F24.b_l4 c69 c70 c49 c71 c72 c73 c74 c75 c76 c77 c78 (fun x1 x2 x3 x4 x5 x25 x26 x27 x121 x122 x123 => F24.l4 k n_l0 n x1 x2 x3 x4 x5 x25 x26 x27 x121 x122 x123) n_l0 x1 x2 x3 x4 x5 x25 x26 x27 x121 x122 x123
theorem F24.e_l4 : F24.M_l4 c69 c70 c49 c71 c72 c73 c74 c75 c76 c77 c78 k n m0 (F24.fr_l4 x1 x2 x3 x4 x5 x25 x26 x27 x121 x122 x123) = F24.l4 c69 c70 c49 c71 c72 c73 c74 c75 c76 c77 c78 k (fun x1 x2 x3 x4 x5 x25 x26 x27 => F24.M_l0 c69 c70 c49 c71 c72 c73 c74 c75 c76 c77 c78 k m0 (F24.fr_l0 x1 x2 x3 x4 x5 x25 x26 x27)) n x1 x2 x3 x4 x5 x25 x26 x27 x121 x122 x123 := by
  induction n generalizing x1 x2 x3 x4 x5 x25 x26 x27 x121 x122 x123 with
  | zero => exact lpAt0
  | succ n ih =>
    refine Eq.trans (b := F24.b_l4 c69 c70 c49 c71 c72 c73 c74 c75 c76 c77 c78 (fun x1 x2 x3 x4 x5 x25 x26 x27 x121 x122 x123 => F24.M_l4 c69 c70 c49 c71 c72 c73 c74 c75 c76 c77 c78 k n m0 (F24.fr_l4 x1 x2 x3 x4 x5 x25 x26 x27 x121 x122 x123)) (fun x1 x2 x3 x4 x5 x25 x26 x27 => F24.M_l0 c69 c70 c49 c71 c72 c73 c74 c75 c76 c77 c78 k m0 (F24.fr_l0 x1 x2 x3 x4 x5 x25 x26 x27)) x1 x2 x3 x4 x5 x25 x26 x27 x121 x122 x123) (by kernel_rfl) ?_
    simp only [ih]
    rfl
end
section
variable (n_l2 : LO → X_acceptRange → LO → Int → Int → Int → X_Object → LO → Int → Int → LI → Int → Int → Option X_acceptRange) (r_l4 : LO → X_acceptRange → LO → Int → Int → LO → Int → Int → LV → Int → Int → Option X_acceptRange) (x1 : LO) (x2 : Int × Int) (x3 : LO) (x4 x5 x6 : Int) (x7 : Int × (LB × (Int × (LI × (LI × (LLB × (LV × (LV × X_acceptRange)))))))) (x25 : LO) (x26 x27 : Int) (x71 : LI) (x72 x73 : Int)
def F24.b_l2 (c70 : F70.E) (c49 : F49.E) (c71 : F71.E) (c72 : F72.E) (c73 : F73.E) (c74 : F74.E) (c75 : F75.E) (c76 : F76.E) (c77 : F77.E) (c78 : F78.E) (n_l2 : LO → X_acceptRange → LO → Int → Int → Int → X_Object → LO → Int → Int → LI → Int → Int → Option X_acceptRange) (r_l4 : LO → X_acceptRange → LO → Int → Int → LO → Int → Int → LV → Int → Int → Option X_acceptRange) (x1 : LO) (x2 : Int × Int) (x3 : LO) (x4 : Int) (x5 : Int) (x6 : Int) (x7 : Int × (LB × (Int × (LI × (LI × (LLB × (LV × (LV × X_acceptRange)))))))) (x25 : LO) (x26 : Int) (x27 : Int) (x71 : LI) (x72 : Int) (x73 : Int) : Option X_acceptRange :=
 bif (decide (x73 < x72)) then
 if 0 ≤ x73 ∧ x73 < (((List.length x71) : Nat) : Int) then
 bif ((List.getD x71 (0 + Int.toNat x73) (0 : Int)) != (0 : Int)) then
 (c69 ((List.getD x71 (0 + Int.toNat x73) (0 : Int)), x6)).bind fun y12 =>
 some y12
 else
 n_l2 x1 x2 x3 x4 x5 x6 x7 x25 x26 x27 (List.take (List.length x71) x71) x72 (IntKind.i64.wrap (x73 + (1 : Int)))
 else none
 else
 (c75 (x1, x6)).bind fun y13 =>
 bif (!y13) then
 (c69 ((13 : Int), x6)).bind fun y14 =>
 some y14
 else
 (c76 (x1, x6)).bind fun y15 =>
 bif (y15 != (0 : Int)) then
 (c69 (y15, x6)).bind fun y16 =>
 some y16
 else
 (c77 (x1, x6)).bind fun y17 =>
 bif (!y17) then
 (c69 ((19 : Int), x6)).bind fun y18 =>
 some y18
 else
 (c78 x7.2.2.2.2.2.2.1).bind fun y19 =>
 if (List.length y19) ≤ (List.length y19) ∧ ((List.length y19) + (List.length x7.2.2.2.2.2.2.2.1)) * 96 ≤ LIM then
 r_l4 x1 x2 x3 (IntKind.i64.wrap (x4 + (IntKind.i64.wrap ((IntKind.i64.wrap (((List.length x7.2.2.2.2.2.2.1) : Int) + ((List.length x7.2.2.2.2.2.2.2.1) : Int))) + ((List.length x7.2.2.2.1) : Int))))) x5 x25 x26 x27 (List.take (List.length (List.append (List.take (List.length y19) y19) x7.2.2.2.2.2.2.2.1)) (List.append (List.take (List.length y19) y19) x7.2.2.2.2.2.2.2.1)) (((List.length (List.append (List.take (List.length y19) y19) x7.2.2.2.2.2.2.2.1)) : Nat) : Int) (0 : Int)
 else none
def F24.c_l2 (c70 : F70.E) (c49 : F49.E) (c71 : F71.E) (c72 : F72.E) (c73 : F73.E) (c74 : F74.E) (c75 : F75.E) (c76 : F76.E) (c77 : F77.E) (c78 : F78.E) (n_l2 : LO → X_acceptRange → LO → Int → Int → Int → X_Object → LO → Int → Int → LI → Int → Int → Option X_acceptRange) (r_l4 : LO → X_acceptRange → LO → Int → Int → LO → Int → Int → LV → Int → Int → Option X_acceptRange) (x1 : LO) (x2 : Int × Int) (x3 : LO) (x4 : Int) (x5 : Int) (x6 : Int) (x7 : Int × (LB × (Int × (LI × (LI × (LLB × (LV × (LV × X_acceptRange)))))))) (x25 : LO) (x26 : Int) (x27 : Int) (x71 : LI) (x72 : Int) (x73 : Int) : Option X_acceptRange :=
 bif (decide (x73 < x72)) then
 if 0 ≤ x73 ∧ x73 < ((List.length x71) : Int) then
 bif ((List.getD x71 (0 + Int.toNat x73) (0 : Int)) != (0 : Int)) then
 (c69 ((List.getD x71 (0 + Int.toNat x73) (0 : Int)), x6)).bind fun y12 =>
 some y12
 else
 n_l2 x1 x2 x3 x4 x5 x6 x7 x25 x26 x27 x71 x72 (IntKind.i64.wrap (x73 + (1 : Int)))
 else none
 else
 (c75 (x1, x6)).bind fun y13 =>
 bif !y13 then
 (c69 ((13 : Int), x6)).bind fun y14 =>
 some y14
 else
 (c76 (x1, x6)).bind fun y15 =>
 bif (y15 != (0 : Int)) then
 (c69 (y15, x6)).bind fun y16 =>
 some y16
 else
 (c77 (x1, x6)).bind fun y17 =>
 bif !y17 then
 (c69 ((19 : Int), x6)).bind fun y18 =>
 some y18
 else
 (c78 x7.2.2.2.2.2.2.1).bind fun y19 =>
 if ((List.length y19) + (List.length x7.2.2.2.2.2.2.2.1)) * 96 ≤ LIM then
 r_l4 x1 x2 x3 (IntKind.i64.wrap (x4 + (IntKind.i64.wrap ((IntKind.i64.wrap (((List.length x7.2.2.2.2.2.2.1) : Int) + ((List.length x7.2.2.2.2.2.2.2.1) : Int))) + ((List.length x7.2.2.2.1) : Int))))) x5 x25 x26 x27 (y19 ++ x7.2.2.2.2.2.2.2.1) ((List.length (y19 ++ x7.2.2.2.2.2.2.2.1)) : Int) (0 : Int)
 else none
theorem F24.q_l2 : F24.b_l2 c69 c70 c49 c71 c72 c73 c74 c75 c76 c77 c78 n_l2 r_l4 x1 x2 x3 x4 x5 x6 x7 x25 x26 x27 x71 x72 x73 = F24.c_l2 c69 c70 c49 c71 c72 c73 c74 c75 c76 c77 c78 n_l2 r_l4 x1 x2 x3 x4 x5 x6 x7 x25 x26 x27 x71 x72 x73 := by
  simp only [F24.b_l2, F24.c_l2, qq]
def F24.l2 (n_l0 : LO → X_acceptRange → LO → Int → Int → LO → Int → Int → Option X_acceptRange) : Nat → LO → X_acceptRange → LO → Int → Int → Int → X_Object → LO → Int → Int → LI → Int → Int → Option X_acceptRange
  | 0, _, _, _, _, _, _, _, _, _, _, _, _, _ => none
  | n + 1, x1, x2, x3, x4, x5, x6, x7, x25, x26, x27, x71, x72, x73 => F24.b_l2 c69 c70 c49 c71 c72 c73 c74 c75 c76 c77 c78 (fun x1 x2 x3 x4 x5 x6 x7 x25 x26 x27 x71 x72 x73 => F24.l2 n_l0 n x1 x2 x3 x4 x5 x6 x7 x25 x26 x27 x71 x72 x73) (F24.l4 c69 c70 c49 c71 c72 c73 c74 c75 c76 c77 c78 k n_l0 k) x1 x2 x3 x4 x5 x6 x7 x25 x26 x27 x71 x72 x73
theorem F24.e_l2 : F24.M_l2 c69 c70 c49 c71 c72 c73 c74 c75 c76 c77 c78 k n m0 (F24.fr_l2 x1 x2 x3 x4 x5 x6 x7 x25 x26 x27 x71 x72 x73) = F24.l2 c69 c70 c49 c71 c72 c73 c74 c75 c76 c77 c78 k (fun x1 x2 x3 x4 x5 x25 x26 x27 => F24.M_l0 c69 c70 c49 c71 c72 c73 c74 c75 c76 c77 c78 k m0 (F24.fr_l0 x1 x2 x3 x4 x5 x25 x26 x27)) n x1 x2 x3 x4 x5 x6 x7 x25 x26 x27 x71 x72 x73 := by
  induction n generalizing x1 x2 x3 x4 x5 x6 x7 x25 x26 x27 x71 x72 x73 with
  | zero => exact lpAt0
  | succ n ih =>
    refine Eq.trans (b := F24.b_l2 c69 c70 c49 c71 c72 c73 c74 c75 c76 c77 c78 (fun x1 x2 x3 x4 x5 x6 x7 x25 x26 x27 x71 x72 x73 => F24.M_l2 c69 c70 c49 c71 c72 c73 c74 c75 c76 c77 c78 k n m0 (F24.fr_l2 x1 x2 x3 x4 x5 x6 x7 x25 x26 x27 x71 x72 x73)) (fun x1 x2 x3 x4 x5 x25 x26 x27 x121 x122 x123 => F24.M_l4 c69 c70 c49 c71 c72 c73 c74 c75 c76 c77 c78 k k m0 (F24.fr_l4 x1 x2 x3 x4 x5 x25 x26 x27 x121 x122 x123)) x1 x2 x3 x4 x5 x6 x7 x25 x26 x27 x71 x72 x73) (by kernel_rfl) ?_
    simp only [F24.e_l4, ih]
    rfl
end
section
variable (n_l0 : LO → X_acceptRange → LO → Int → Int → LO → Int → Int → Option X_acceptRange) (r_l2 : LO → X_acceptRange → LO → Int → Int → Int → X_Object → LO → Int → Int → LI → Int → Int → Option X_acceptRange) (x1 : LO) (x2 : Int × Int) (x3 : LO) (x4 x5 : Int) (x25 : LO) (x26 x27 : Int)
def F24.b_l0 (c70 : F70.E) (c49 : F49.E) (c71 : F71.E) (c72 : F72.E) (c73 : F73.E) (c74 : F74.E) (c75 : F75.E) (c76 : F76.E) (c77 : F77.E) (c78 : F78.E) (n_l0 : LO → X_acceptRange → LO → Int → Int → LO → Int → Int → Option X_acceptRange) (r_l2 : LO → X_acceptRange → LO → Int → Int → Int → X_Object → LO → Int → Int → LI → Int → Int → Option X_acceptRange) (x1 : LO) (x2 : Int × Int) (x3 : LO) (x4 : Int) (x5 : Int) (x25 : LO) (x26 : Int) (x27 : Int) : Option X_acceptRange :=
 bif (decide (x27 < x26)) then
 if 0 ≤ x27 ∧ x27 < ((List.length x25) : Int) then
 bif (decide (x27 < (49 : Int))) then
 if 0 ≤ x27 ∧ x27 < ((List.length x3) : Int) then
 (c49 ((List.getD x25 (Int.toNat x27) Z_Object), (List.getD x3 (Int.toNat x27) Z_Object))).bind fun y4 =>
 bif (!y4) then
 (c69 ((19 : Int), x27)).bind fun y5 =>
 some y5
 else
 n_l0 x1 x2 x3 (IntKind.i64.wrap (x4 + ((List.length (((((List.getD x25 (Int.toNat x27) Z_Object).2).2).2).1)) : Int))) x5 x25 x26 (IntKind.i64.wrap (x27 + (1 : Int)))
 else none
 else
 bif (decide (((List.getD x25 (Int.toNat x27) Z_Object).1) < (0 : Int))) then
 (c69 ((5 : Int), x27)).bind fun y6 =>
 some y6
 else
 bif (decide (((List.getD x25 (Int.toNat x27) Z_Object).1) ≥ (21 : Int))) then
 (c69 ((5 : Int), x27)).bind fun y7 =>
 some y7
 else
 (c71 (x1, x27)).bind fun y8 =>
 (c72 (x1, x27)).bind fun y9 =>
 (c73 (x1, x27)).bind fun y10 =>
 (c74 (x1, x27)).bind fun y11 =>
 r_l2 x1 x2 x3 x4 x5 x27 (List.getD x25 (Int.toNat x27) Z_Object) x25 x26 x27 (List.take 4 ([y8, y9, y10, y11] : LI)) ((4 : Nat) : Int) (0 : Int)
 else none
 else
 bif (decide (x4 > (20000 : Int))) then
 (c69 ((14 : Int), (-1 : Int))).bind fun y20 =>
 some y20
 else
 bif (decide (x5 > (200000 : Int))) then
 (c69 ((14 : Int), (-1 : Int))).bind fun y21 =>
 some y21
 else
 some ((0 : Int), (0 : Int))
def F24.l0 : Nat → LO → X_acceptRange → LO → Int → Int → LO → Int → Int → Option X_acceptRange
  | 0, _, _, _, _, _, _, _, _ => none
  | n + 1, x1, x2, x3, x4, x5, x25, x26, x27 => F24.b_l0 c69 c70 c49 c71 c72 c73 c74 c75 c76 c77 c78 (fun x1 x2 x3 x4 x5 x25 x26 x27 => F24.l0 n x1 x2 x3 x4 x5 x25 x26 x27) (F24.l2 c69 c70 c49 c71 c72 c73 c74 c75 c76 c77 c78 k (fun x1 x2 x3 x4 x5 x25 x26 x27 => F24.l0 n x1 x2 x3 x4 x5 x25 x26 x27) k) x1 x2 x3 x4 x5 x25 x26 x27
theorem F24.e_l0 : F24.M_l0 c69 c70 c49 c71 c72 c73 c74 c75 c76 c77 c78 k n (F24.fr_l0 x1 x2 x3 x4 x5 x25 x26 x27) = F24.l0 c69 c70 c49 c71 c72 c73 c74 c75 c76 c77 c78 k n x1 x2 x3 x4 x5 x25 x26 x27 := by
  induction n generalizing x1 x2 x3 x4 x5 x25 x26 x27 with
  | zero => exact lpAt0
  | succ n ih =>
    refine Eq.trans (b := F24.b_l0 c69 c70 c49 c71 c72 c73 c74 c75 c76 c77 c78 (fun x1 x2 x3 x4 x5 x25 x26 x27 => F24.M_l0 c69 c70 c49 c71 c72 c73 c74 c75 c76 c77 c78 k n (F24.fr_l0 x1 x2 x3 x4 x5 x25 x26 x27)) (fun x1 x2 x3 x4 x5 x6 x7 x25 x26 x27 x71 x72 x73 => F24.M_l2 c69 c70 c49 c71 c72 c73 c74 c75 c76 c77 c78 k k n (F24.fr_l2 x1 x2 x3 x4 x5 x6 x7 x25 x26 x27 x71 x72 x73)) x1 x2 x3 x4 x5 x25 x26 x27) (by kernel_rfl) ?_
    simp only [F24.e_l2, ih]
    rfl
end
variable (r_l0 : LO → X_acceptRange → LO → Int → Int → LO → Int → Int → Option X_acceptRange) (a0 : LO)
def F24.b (c49 : F49.E) (c71 : F71.E) (c72 : F72.E) (c73 : F73.E) (c74 : F74.E) (c75 : F75.E) (c76 : F76.E) (c77 : F77.E) (c78 : F78.E) (r_l0 : LO → X_acceptRange → LO → Int → Int → LO → Int → Int → Option X_acceptRange) (a0 : LO) : Option X_acceptRange :=
 bif (decide (((List.length a0) : Int) > (5000 : Int))) then
 (c69 ((2 : Int), (-1 : Int))).bind fun y1 =>
 some y1
 else
 bif (decide (((List.length a0) : Int) < (49 : Int))) then
 (c69 ((9 : Int), (-1 : Int))).bind fun y2 =>
 some y2
 else
 (c70 ()).bind fun y3 =>
 r_l0 a0 ((0 : Int), (0 : Int)) y3 (0 : Int) (0 : Int) a0 ((List.length a0) : Int) (0 : Int)
def F24.f : Option X_acceptRange := F24.b c69 c70 c49 c71 c72 c73 c74 c75 c76 c77 c78 (F24.l0 c69 c70 c49 c71 c72 c73 c74 c75 c76 c77 c78 k k) a0
theorem F24.e : fn (F24.C c69 c70 c49 c71 c72 c73 c74 c75 c76 c77 c78) k Tryz.f24 F24.A F24.R a0 = F24.f c69 c70 c49 c71 c72 c73 c74 c75 c76 c77 c78 k a0 := by
  refine Eq.trans (b := F24.b c69 c70 c49 c71 c72 c73 c74 c75 c76 c77 c78 (fun x1 x2 x3 x4 x5 x25 x26 x27 => F24.M_l0 c69 c70 c49 c71 c72 c73 c74 c75 c76 c77 c78 k k (F24.fr_l0 x1 x2 x3 x4 x5 x25 x26 x27)) a0) (by kernel_rfl) ?_
  simp only [F24.e_l0]
  rfl
end
def F24.u (k : Nat) : F24.E := fun y => F24.f (F69.u k) (F70.u k) (F49.u k) (F71.u k) (F72.u k) (F73.u k) (F74.u k) (F75.u k) (F76.u k) (F77.u k) (F78.u k) k y
theorem F24.sound (k : Nat) : Sound Tryz.prog ⟨24, F24.A, F24.R, F24.u k⟩ := sn gr Tryz.func24 (fun y => F24.e (F69.u k) (F70.u k) (F49.u k) (F71.u k) (F72.u k) (F73.u k) (F74.u k) (F75.u k) (F76.u k) (F77.u k) (F78.u k) k y) (al (F69.sound k) (al (F70.sound k) (al (F49.sound k) (al (F71.sound k) (al (F72.sound k) (al (F73.sound k) (al (F74.sound k) (al (F75.sound k) (al (F76.sound k) (al (F77.sound k) (al (F78.sound k) al0)))))))))))
/-! ### brindlewood/brindlewoodref7.Has: f25 -/
abbrev F25.A : List Sh := [(.d Y_Heap), (.d Y_Value)]
abbrev F25.R : List Sh := [(.d .bool)]
abbrev F25.E : Type := (LO × X_Value) → Option Bool
section
variable (c79 : F79.E) (c21 : F21.E)
variable (k n : Nat)
def F25.C : Ctx := cx [⟨79, F79.A, F79.R, c79⟩, ⟨21, F21.A, F21.R, c21⟩] []
variable (a0 : LO) (a1 : Int × (X_Int × (X_Int × X_errorAddressString)))
def F25.b : Option Bool :=
 (c79 a1).bind fun y1 =>
 bif y1 then
 bif (a1.1 != (6 : Int)) then
 some true
 else
 (c21 (a0, a1.2.2.2.2)).bind fun y2 =>
 some y2
 else
 some false
def F25.f (k : Nat) (a0 : LO) (a1 : Int × (X_Int × (X_Int × X_errorAddressString))) : Option Bool := F25.b c79 c21 a0 a1
theorem F25.e : fn (F25.C c79 c21) k Tryz.f25 F25.A F25.R (a0, a1) = F25.f c79 c21 k a0 a1 := by
  kernel_rfl
end
def F25.u (k : Nat) : F25.E := fun y => F25.f (F79.u k) (F21.u k) k y.1 y.2
theorem F25.sound (k : Nat) : Sound Tryz.prog ⟨25, F25.A, F25.R, F25.u k⟩ := sn gr Tryz.func25 (fun y => F25.e (F79.u k) (F21.u k) k y.1 y.2) (al (F79.sound k) (al (F21.sound k) al0))
/-! ### brindlewood/brindlewoodref7.Usable: f5 -/
abbrev F5.A : List Sh := [(.d Y_Heap), (.d (.sl 29 Y_Value))]
abbrev F5.R : List Sh := [(.d .bool)]
abbrev F5.E : Type := (LO × LV) → Option Bool
section
variable (c24 : F24.E) (c25 : F25.E)
variable (k n : Nat)
def F5.C : Ctx := cx [⟨24, F24.A, F24.R, c24⟩, ⟨25, F25.A, F25.R, c25⟩] [(0, [.bx 2 600002 (.d Y_Heap), .d 11 (.sl 29 Y_Value), .d 12 (.int .i64), .d 13 (.int .i64)])]
noncomputable def F5.M_l0 (s : St) : Option Bool := lpAt (F5.C c24 c25) k n [1, 1, 0, 1, 0] [] Tryz.f5 F5.A F5.R s
noncomputable def F5.fr_l0 (x2 : LO) (x11 : LV) (x12 : Int) (x13 : Int) : St := ⟨(((((List.replicate 22 V.un).set 2 (V.bp 600002 0 [])).set 11 (V.dat (.sl 29 Y_Value) x11)).set 12 (V.dat (.int .i64) x12)).set 13 (V.dat (.int .i64) x13)), [⟨600002, 0, .box (V.dat Y_Heap x2)⟩]⟩
section
variable (n_l0 : LO → LV → Int → Int → Option Bool) (x2 : LO) (x11 : LV) (x12 x13 : Int)
def F5.b_l0 (c24 : F24.E) (c25 : F25.E) (n_l0 : LO → LV → Int → Int → Option Bool) (x2 : LO) (x11 : LV) (x12 : Int) (x13 : Int) : Option Bool :=
 bif (decide (x13 < x12)) then
 if 0 ≤ x13 ∧ x13 < ((List.length x11) : Int) then
 (c25 (x2, (List.getD x11 (Int.toNat x13) Z_Value))).bind fun y2 =>
 bif (!y2) then
 some false
 else
 n_l0 x2 x11 x12 (IntKind.i64.wrap (x13 + (1 : Int)))
 else none
 else
 some true
def F5.l0 (k : Nat) : Nat → LO → LV → Int → Int → Option Bool
  | 0, _, _, _, _ => none
  | n + 1, x2, x11, x12, x13 => F5.b_l0 c24 c25 (fun x2 x11 x12 x13 => F5.l0 k n x2 x11 x12 x13) x2 x11 x12 x13
theorem F5.e_l0 : F5.M_l0 c24 c25 k n (F5.fr_l0 x2 x11 x12 x13) = F5.l0 c24 c25 k n x2 x11 x12 x13 := by
  induction n generalizing x2 x11 x12 x13 with
  | zero => exact lpAt0
  | succ n ih =>
    refine Eq.trans (b := F5.b_l0 c24 c25 (fun x2 x11 x12 x13 => F5.M_l0 c24 c25 k n (F5.fr_l0 x2 x11 x12 x13)) x2 x11 x12 x13) (by kernel_rfl) ?_
    simp only [ih]
    rfl
end
variable (r_l0 : LO → LV → Int → Int → Option Bool) (a0 : LO) (a1 : LV)
def F5.b (c25 : F25.E) (r_l0 : LO → LV → Int → Int → Option Bool) (a0 : LO) (a1 : LV) : Option Bool :=
 (c24 a0).bind fun y1 =>
 bif (y1.1 != (0 : Int)) then
 some false
 else
 r_l0 a0 a1 ((List.length a1) : Int) (0 : Int)
def F5.f : Option Bool := F5.b c24 c25 (F5.l0 c24 c25 k k) a0 a1
theorem F5.e : fn (F5.C c24 c25) k Tryz.f5 F5.A F5.R (a0, a1) = F5.f c24 c25 k a0 a1 := by
  refine Eq.trans (b := F5.b c24 c25 (fun x2 x11 x12 x13 => F5.M_l0 c24 c25 k k (F5.fr_l0 x2 x11 x12 x13)) a0 a1) (by kernel_rfl) ?_
  simp only [F5.e_l0]
  rfl
end
def F5.u (k : Nat) : F5.E := fun y => F5.f (F24.u k) (F25.u k) k y.1 y.2
theorem F5.sound (k : Nat) : Sound Tryz.prog ⟨5, F5.A, F5.R, F5.u k⟩ := sn gr Tryz.func5 (fun y => F5.e (F24.u k) (F25.u k) k y.1 y.2) (al (F24.sound k) (al (F25.sound k) al0))
end
end Go.Ab
