/- A part of the proof: FB2. -/
import Derived.Test.YtgkjkmpeeneilaaFTy
import Derived.Test.YtgkjkmpeeneilaaFB1
namespace Go.Ab
set_option linter.unusedVariables false
set_option linter.unusedSimpArgs false
set_option maxRecDepth 100000
noncomputable section
open Go.Proofs
/-! ### brindlewood/brindlewoodlaw7.LineageKeepsOrders: f6 -/
abbrev f_law7_LineageKeepsOrders.A : List Sh := [(.d (.sl 22 (.sl 3 (.int .i64))))]
abbrev f_law7_LineageKeepsOrders.R : List Sh := [(.d .bool)]
abbrev f_law7_LineageKeepsOrders.E : Type := (List (List (Int))) → Option (Bool)
def f_law7_LineageKeepsOrders.C (c14 : f_lineage_Order.E) (c17 : f_ref7_HasInt.E) (c11 : f_lineage_Before.E) (c16 : f_ref7_Ints.E) : Ctx := { ty := [(3, (.int .i64)), (22, (.sl 3 (.int .i64))), (27, Y_Fault), (30, (.sl 22 (.sl 3 (.int .i64))))], nf := [(27, 2)], by_ := [(3, 8), (22, 24)], env := [⟨14, f_lineage_Order.A, f_lineage_Order.R, c14⟩, ⟨17, f_ref7_HasInt.A, f_ref7_HasInt.R, c17⟩, ⟨11, f_lineage_Before.A, f_lineage_Before.R, c11⟩, ⟨16, f_ref7_Ints.A, f_ref7_Ints.R, c16⟩], spec := [(0, [.d 0 (.sl 22 (.sl 3 (.int .i64))), .d 3 (.sl 3 (.int .i64)), .o 5 500005 3 (.int .i64), .d 22 (.sl 22 (.sl 3 (.int .i64))), .d 23 (.int .i64), .d 24 (.int .i64)]), (2, [.d 0 (.sl 22 (.sl 3 (.int .i64))), .d 3 (.sl 3 (.int .i64)), .o 5 500005 3 (.int .i64), .d 6 (.int .i64), .d 7 (.sl 3 (.int .i64)), .d 22 (.sl 22 (.sl 3 (.int .i64))), .d 23 (.int .i64), .d 24 (.int .i64), .d 29 (.sl 3 (.int .i64)), .d 30 (.int .i64), .d 31 (.int .i64)]), (100013, [.d 0 (.sl 22 (.sl 3 (.int .i64))), .d 3 (.sl 3 (.int .i64)), .o 5 500005 3 (.int .i64), .d 6 (.int .i64), .d 7 (.sl 3 (.int .i64)), .d 8 (.int .i64), .d 9 (.int .i64), .d 22 (.sl 22 (.sl 3 (.int .i64))), .d 23 (.int .i64), .d 24 (.int .i64), .d 29 (.sl 3 (.int .i64)), .d 30 (.int .i64), .d 31 (.int .i64)]), (4, [.d 3 (.sl 3 (.int .i64)), .o 5 500005 3 (.int .i64), .d 76 (.sl 3 (.int .i64)), .d 77 (.int .i64), .d 78 (.int .i64)])] }
noncomputable def f_law7_LineageKeepsOrders.code : Code := Func.code Try.f6
noncomputable def f_law7_LineageKeepsOrders.fin (c14 : f_lineage_Order.E) (c17 : f_ref7_HasInt.E) (c11 : f_lineage_Before.E) (c16 : f_ref7_Ints.E) := kfin (f_law7_LineageKeepsOrders.C c14 c17 c11 c16) Try.f6 f_law7_LineageKeepsOrders.A f_law7_LineageKeepsOrders.R
def f_law7_LineageKeepsOrders.b (c14 : f_lineage_Order.E) (c17 : f_ref7_HasInt.E) (c11 : f_lineage_Before.E) (c16 : f_ref7_Ints.E) (r_l0 : (List (List (Int))) → (List (Int)) → (List (Int)) → (List (List (Int))) → (Int) → (Int) → Option (Bool)) (a0 : List (List (Int))) : Option (Bool) :=
  (c14 a0).bind fun y1 =>
    bif (y1.2.1 != (0 : Int)) then
      some true
    else
      r_l0 a0 y1.1 ([] : List (Int)) a0 ((List.length a0) : Int) (0 : Int)
def f_law7_LineageKeepsOrders.b_l0 (c14 : f_lineage_Order.E) (c17 : f_ref7_HasInt.E) (c11 : f_lineage_Before.E) (c16 : f_ref7_Ints.E) (r_l2 : (List (List (Int))) → (List (Int)) → (List (Int)) → (Int) → (List (Int)) → (List (List (Int))) → (Int) → (Int) → (List (Int)) → (Int) → (Int) → Option (Bool)) (r_l4 : (List (Int)) → (List (Int)) → (List (Int)) → (Int) → (Int) → Option (Bool)) (x0 : List (List (Int))) (x3 : List (Int)) (x5 : List (Int)) (x22 : List (List (Int))) (x23 : Int) (x24 : Int) : Option (Bool) :=
  bif (decide (x24 < x23)) then
    if 0 ≤ x24 ∧ x24 < ((List.length x22) : Int) then
      r_l2 x0 x3 (List.take (List.length x5) x5) x24 (List.getD x22 (Int.toNat x24) []) x22 x23 x24 (List.getD x22 (Int.toNat x24) []) ((List.length (List.getD x22 (Int.toNat x24) [])) : Int) (0 : Int)
    else none
  else
    r_l4 x3 (List.take (List.length x5) x5) x3 ((List.length x3) : Int) (0 : Int)
def f_law7_LineageKeepsOrders.b_l2 (c14 : f_lineage_Order.E) (c17 : f_ref7_HasInt.E) (c11 : f_lineage_Before.E) (c16 : f_ref7_Ints.E) (r_g13 : (List (List (Int))) → (List (Int)) → (List (Int)) → (Int) → (List (Int)) → (Int) → (Int) → (List (List (Int))) → (Int) → (Int) → (List (Int)) → (Int) → (Int) → Option (Bool)) (n_l0 : (List (List (Int))) → (List (Int)) → (List (Int)) → (List (List (Int))) → (Int) → (Int) → Option (Bool)) (x0 : List (List (Int))) (x3 : List (Int)) (x5 : List (Int)) (x6 : Int) (x7 : List (Int)) (x22 : List (List (Int))) (x23 : Int) (x24 : Int) (x29 : List (Int)) (x30 : Int) (x31 : Int) : Option (Bool) :=
  bif (decide (x31 < x30)) then
    if 0 ≤ x31 ∧ x31 < ((List.length x29) : Int) then
      (c17 ((List.take (List.length x5) x5), (List.getD x29 (Int.toNat x31) (0 : Int)))).bind fun y2 =>
        bif (!y2) then
          if (List.length x5) ≤ (List.length x5) ∧ ((List.length x5) + (List.length (List.take 1 [(List.getD x29 (Int.toNat x31) (0 : Int))]))) * 8 ≤ LIM then
            r_g13 x0 x3 (List.take (List.length (List.append (List.take (List.length x5) x5) (List.take 1 [(List.getD x29 (Int.toNat x31) (0 : Int))]))) (List.append (List.take (List.length x5) x5) (List.take 1 [(List.getD x29 (Int.toNat x31) (0 : Int))]))) x6 x7 x31 (List.getD x29 (Int.toNat x31) (0 : Int)) x22 x23 x24 x29 x30 x31
          else none
        else
          r_g13 x0 x3 (List.take (List.length x5) x5) x6 x7 x31 (List.getD x29 (Int.toNat x31) (0 : Int)) x22 x23 x24 x29 x30 x31
    else none
  else
    bif (decide (x6 > (0 : Int))) then
      if 0 ≤ (IntKind.i64.wrap (x6 - (1 : Int))) ∧ (IntKind.i64.wrap (x6 - (1 : Int))) < ((List.length x0) : Int) then
        if 0 ≤ (0 : Int) ∧ (0 : Int) < ((List.length (List.getD x0 (Int.toNat (IntKind.i64.wrap (x6 - (1 : Int)))) [])) : Int) then
          if 0 ≤ (0 : Int) ∧ (0 : Int) < ((List.length x7) : Int) then
            (c11 (x3, ((List.getD (List.getD x0 (Int.toNat (IntKind.i64.wrap (x6 - (1 : Int)))) []) (Int.toNat (0 : Int)) (0 : Int)), (List.getD x7 (Int.toNat (0 : Int)) (0 : Int))))).bind fun y4 =>
              bif (!y4) then
                some false
              else
                n_l0 x0 x3 (List.take (List.length x5) x5) x22 x23 (IntKind.i64.wrap (x24 + (1 : Int)))
          else none
        else none
      else none
    else
      n_l0 x0 x3 (List.take (List.length x5) x5) x22 x23 (IntKind.i64.wrap (x24 + (1 : Int)))
def f_law7_LineageKeepsOrders.b_g13 (c14 : f_lineage_Order.E) (c17 : f_ref7_HasInt.E) (c11 : f_lineage_Before.E) (c16 : f_ref7_Ints.E) (n_l2 : (List (List (Int))) → (List (Int)) → (List (Int)) → (Int) → (List (Int)) → (List (List (Int))) → (Int) → (Int) → (List (Int)) → (Int) → (Int) → Option (Bool)) (x0 : List (List (Int))) (x3 : List (Int)) (x5 : List (Int)) (x6 : Int) (x7 : List (Int)) (x8 : Int) (x9 : Int) (x22 : List (List (Int))) (x23 : Int) (x24 : Int) (x29 : List (Int)) (x30 : Int) (x31 : Int) : Option (Bool) :=
  bif (decide (x8 > (0 : Int))) then
    if 0 ≤ (IntKind.i64.wrap (x8 - (1 : Int))) ∧ (IntKind.i64.wrap (x8 - (1 : Int))) < ((List.length x7) : Int) then
      (c11 (x3, ((List.getD x7 (Int.toNat (IntKind.i64.wrap (x8 - (1 : Int)))) (0 : Int)), x9))).bind fun y3 =>
        bif (!y3) then
          some false
        else
          n_l2 x0 x3 (List.take (List.length x5) x5) x6 x7 x22 x23 x24 x29 x30 (IntKind.i64.wrap (x31 + (1 : Int)))
    else none
  else
    n_l2 x0 x3 (List.take (List.length x5) x5) x6 x7 x22 x23 x24 x29 x30 (IntKind.i64.wrap (x31 + (1 : Int)))
def f_law7_LineageKeepsOrders.b_l4 (c14 : f_lineage_Order.E) (c17 : f_ref7_HasInt.E) (c11 : f_lineage_Before.E) (c16 : f_ref7_Ints.E) (n_l4 : (List (Int)) → (List (Int)) → (List (Int)) → (Int) → (Int) → Option (Bool)) (x3 : List (Int)) (x5 : List (Int)) (x76 : List (Int)) (x77 : Int) (x78 : Int) : Option (Bool) :=
  bif (decide (x78 < x77)) then
    if 0 ≤ x78 ∧ x78 < ((List.length x76) : Int) then
      (c17 ((List.take (List.length x5) x5), (List.getD x76 (Int.toNat x78) (0 : Int)))).bind fun y5 =>
        bif (!y5) then
          some false
        else
          n_l4 x3 (List.take (List.length x5) x5) x76 x77 (IntKind.i64.wrap (x78 + (1 : Int)))
    else none
  else
    bif (((List.length x3) : Int) != (((List.length x5) : Nat) : Int)) then
      some false
    else
      bif (((List.length x3) : Int) == (0 : Int)) then
        some true
      else
        (c14 (List.take 1 [x3])).bind fun y6 =>
          bif (y6.2.1 == (0 : Int)) then
            (c16 (y6.1, x3)).bind fun y7 =>
              some y7
          else
            some false
def f_law7_LineageKeepsOrders.g13 (c14 : f_lineage_Order.E) (c17 : f_ref7_HasInt.E) (c11 : f_lineage_Before.E) (c16 : f_ref7_Ints.E) (k : Nat) (n_l0 : (List (List (Int))) → (List (Int)) → (List (Int)) → (List (List (Int))) → (Int) → (Int) → Option (Bool)) (n_l2 : (List (List (Int))) → (List (Int)) → (List (Int)) → (Int) → (List (Int)) → (List (List (Int))) → (Int) → (Int) → (List (Int)) → (Int) → (Int) → Option (Bool)) (x0 : List (List (Int))) (x3 : List (Int)) (x5 : List (Int)) (x6 : Int) (x7 : List (Int)) (x8 : Int) (x9 : Int) (x22 : List (List (Int))) (x23 : Int) (x24 : Int) (x29 : List (Int)) (x30 : Int) (x31 : Int) : Option (Bool) := gate k (f_law7_LineageKeepsOrders.b_g13 c14 c17 c11 c16 n_l2 x0 x3 x5 x6 x7 x8 x9 x22 x23 x24 x29 x30 x31)
def f_law7_LineageKeepsOrders.l2 (c14 : f_lineage_Order.E) (c17 : f_ref7_HasInt.E) (c11 : f_lineage_Before.E) (c16 : f_ref7_Ints.E) (k : Nat) (n_l0 : (List (List (Int))) → (List (Int)) → (List (Int)) → (List (List (Int))) → (Int) → (Int) → Option (Bool)) : Nat → (List (List (Int))) → (List (Int)) → (List (Int)) → (Int) → (List (Int)) → (List (List (Int))) → (Int) → (Int) → (List (Int)) → (Int) → (Int) → Option (Bool)
  | 0, _, _, _, _, _, _, _, _, _, _, _ => none
  | n + 1, x0, x3, x5, x6, x7, x22, x23, x24, x29, x30, x31 => f_law7_LineageKeepsOrders.b_l2 c14 c17 c11 c16 (f_law7_LineageKeepsOrders.g13 c14 c17 c11 c16 k n_l0 (fun x0 x3 x5 x6 x7 x22 x23 x24 x29 x30 x31 => f_law7_LineageKeepsOrders.l2 c14 c17 c11 c16 k n_l0 n x0 x3 x5 x6 x7 x22 x23 x24 x29 x30 x31)) n_l0 x0 x3 x5 x6 x7 x22 x23 x24 x29 x30 x31
def f_law7_LineageKeepsOrders.l4 (c14 : f_lineage_Order.E) (c17 : f_ref7_HasInt.E) (c11 : f_lineage_Before.E) (c16 : f_ref7_Ints.E) (k : Nat)  : Nat → (List (Int)) → (List (Int)) → (List (Int)) → (Int) → (Int) → Option (Bool)
  | 0, _, _, _, _, _ => none
  | n + 1, x3, x5, x76, x77, x78 => f_law7_LineageKeepsOrders.b_l4 c14 c17 c11 c16 (fun x3 x5 x76 x77 x78 => f_law7_LineageKeepsOrders.l4 c14 c17 c11 c16 k  n x3 x5 x76 x77 x78) x3 x5 x76 x77 x78
def f_law7_LineageKeepsOrders.l0 (c14 : f_lineage_Order.E) (c17 : f_ref7_HasInt.E) (c11 : f_lineage_Before.E) (c16 : f_ref7_Ints.E) (k : Nat)  : Nat → (List (List (Int))) → (List (Int)) → (List (Int)) → (List (List (Int))) → (Int) → (Int) → Option (Bool)
  | 0, _, _, _, _, _, _ => none
  | n + 1, x0, x3, x5, x22, x23, x24 => f_law7_LineageKeepsOrders.b_l0 c14 c17 c11 c16 (f_law7_LineageKeepsOrders.l2 c14 c17 c11 c16 k (fun x0 x3 x5 x22 x23 x24 => f_law7_LineageKeepsOrders.l0 c14 c17 c11 c16 k  n x0 x3 x5 x22 x23 x24) k) (f_law7_LineageKeepsOrders.l4 c14 c17 c11 c16 k  k) x0 x3 x5 x22 x23 x24
def f_law7_LineageKeepsOrders.f (c14 : f_lineage_Order.E) (c17 : f_ref7_HasInt.E) (c11 : f_lineage_Before.E) (c16 : f_ref7_Ints.E) (k : Nat) (a0 : List (List (Int))) : Option (Bool) := f_law7_LineageKeepsOrders.b c14 c17 c11 c16 (f_law7_LineageKeepsOrders.l0 c14 c17 c11 c16 k k) a0
noncomputable def f_law7_LineageKeepsOrders.M_l0 (c14 : f_lineage_Order.E) (c17 : f_ref7_HasInt.E) (c11 : f_lineage_Before.E) (c16 : f_ref7_Ints.E) (k n : Nat)  (s : St) : Option (Bool) := atLoop (f_law7_LineageKeepsOrders.C c14 c17 c11 c16) k n [1, 1, 1, 1, 0, 1, 0] [] f_law7_LineageKeepsOrders.code (f_law7_LineageKeepsOrders.fin c14 c17 c11 c16) s
noncomputable def f_law7_LineageKeepsOrders.fr_l0 (x0 : List (List (Int))) (x3 : List (Int)) (x5 : List (Int)) (x22 : List (List (Int))) (x23 : Int) (x24 : Int) : St := ⟨(((((((List.replicate 109 V.un).set 0 (V.dat (.sl 22 (.sl 3 (.int .i64))) x0)).set 3 (V.dat (.sl 3 (.int .i64)) x3)).set 5 (V.ref 500005 0 0 (List.length x5))).set 22 (V.dat (.sl 22 (.sl 3 (.int .i64))) x22)).set 23 (V.dat (.int .i64) x23)).set 24 (V.dat (.int .i64) x24)), [⟨500005, 0, .arr 3 (.int .i64) x5⟩]⟩
noncomputable def f_law7_LineageKeepsOrders.M_l2 (c14 : f_lineage_Order.E) (c17 : f_ref7_HasInt.E) (c11 : f_lineage_Before.E) (c16 : f_ref7_Ints.E) (k n : Nat) (m0 : Nat) (s : St) : Option (Bool) := atLoop (f_law7_LineageKeepsOrders.C c14 c17 c11 c16) k n [1, 1, 1, 1, 0, 1, 0, 0, 1, 1, 0, 0, 1, 0, 1, 0] [m0] f_law7_LineageKeepsOrders.code (f_law7_LineageKeepsOrders.fin c14 c17 c11 c16) s
noncomputable def f_law7_LineageKeepsOrders.fr_l2 (x0 : List (List (Int))) (x3 : List (Int)) (x5 : List (Int)) (x6 : Int) (x7 : List (Int)) (x22 : List (List (Int))) (x23 : Int) (x24 : Int) (x29 : List (Int)) (x30 : Int) (x31 : Int) : St := ⟨((((((((((((List.replicate 109 V.un).set 0 (V.dat (.sl 22 (.sl 3 (.int .i64))) x0)).set 3 (V.dat (.sl 3 (.int .i64)) x3)).set 5 (V.ref 500005 0 0 (List.length x5))).set 6 (V.dat (.int .i64) x6)).set 7 (V.dat (.sl 3 (.int .i64)) x7)).set 22 (V.dat (.sl 22 (.sl 3 (.int .i64))) x22)).set 23 (V.dat (.int .i64) x23)).set 24 (V.dat (.int .i64) x24)).set 29 (V.dat (.sl 3 (.int .i64)) x29)).set 30 (V.dat (.int .i64) x30)).set 31 (V.dat (.int .i64) x31)), [⟨500005, 0, .arr 3 (.int .i64) x5⟩]⟩
noncomputable def f_law7_LineageKeepsOrders.M_g13 (c14 : f_lineage_Order.E) (c17 : f_ref7_HasInt.E) (c11 : f_lineage_Before.E) (c16 : f_ref7_Ints.E) (k : Nat) (m0 : Nat) (m1 : Nat) (s : St) : Option (Bool) := atGate (f_law7_LineageKeepsOrders.C c14 c17 c11 c16) k [1, 1, 1, 1, 0, 1, 0, 0, 1, 1, 0, 0, 1, 0, 1, 0, 0, 1, 1, 0, 0, 1, 1, 0] [m0, m1] f_law7_LineageKeepsOrders.code (f_law7_LineageKeepsOrders.fin c14 c17 c11 c16) s
noncomputable def f_law7_LineageKeepsOrders.fr_g13 (x0 : List (List (Int))) (x3 : List (Int)) (x5 : List (Int)) (x6 : Int) (x7 : List (Int)) (x8 : Int) (x9 : Int) (x22 : List (List (Int))) (x23 : Int) (x24 : Int) (x29 : List (Int)) (x30 : Int) (x31 : Int) : St := ⟨((((((((((((((List.replicate 109 V.un).set 0 (V.dat (.sl 22 (.sl 3 (.int .i64))) x0)).set 3 (V.dat (.sl 3 (.int .i64)) x3)).set 5 (V.ref 500005 0 0 (List.length x5))).set 6 (V.dat (.int .i64) x6)).set 7 (V.dat (.sl 3 (.int .i64)) x7)).set 8 (V.dat (.int .i64) x8)).set 9 (V.dat (.int .i64) x9)).set 22 (V.dat (.sl 22 (.sl 3 (.int .i64))) x22)).set 23 (V.dat (.int .i64) x23)).set 24 (V.dat (.int .i64) x24)).set 29 (V.dat (.sl 3 (.int .i64)) x29)).set 30 (V.dat (.int .i64) x30)).set 31 (V.dat (.int .i64) x31)), [⟨500005, 0, .arr 3 (.int .i64) x5⟩]⟩
noncomputable def f_law7_LineageKeepsOrders.M_l4 (c14 : f_lineage_Order.E) (c17 : f_ref7_HasInt.E) (c11 : f_lineage_Before.E) (c16 : f_ref7_Ints.E) (k n : Nat)  (s : St) : Option (Bool) := atLoop (f_law7_LineageKeepsOrders.C c14 c17 c11 c16) k n [1, 1, 1, 1, 1, 0, 1, 0] [] f_law7_LineageKeepsOrders.code (f_law7_LineageKeepsOrders.fin c14 c17 c11 c16) s
noncomputable def f_law7_LineageKeepsOrders.fr_l4 (x3 : List (Int)) (x5 : List (Int)) (x76 : List (Int)) (x77 : Int) (x78 : Int) : St := ⟨((((((List.replicate 109 V.un).set 3 (V.dat (.sl 3 (.int .i64)) x3)).set 5 (V.ref 500005 0 0 (List.length x5))).set 76 (V.dat (.sl 3 (.int .i64)) x76)).set 77 (V.dat (.int .i64) x77)).set 78 (V.dat (.int .i64) x78)), [⟨500005, 0, .arr 3 (.int .i64) x5⟩]⟩
theorem f_law7_LineageKeepsOrders.r (c14 : f_lineage_Order.E) (c17 : f_ref7_HasInt.E) (c11 : f_lineage_Before.E) (c16 : f_ref7_Ints.E) (k : Nat) (a0 : List (List (Int))) : fn (f_law7_LineageKeepsOrders.C c14 c17 c11 c16) k Try.f6 f_law7_LineageKeepsOrders.A f_law7_LineageKeepsOrders.R a0 = f_law7_LineageKeepsOrders.b c14 c17 c11 c16 (fun x0 x3 x5 x22 x23 x24 => f_law7_LineageKeepsOrders.M_l0 c14 c17 c11 c16 k k  (f_law7_LineageKeepsOrders.fr_l0 x0 x3 x5 x22 x23 x24)) a0 := by kernel_rfl
theorem f_law7_LineageKeepsOrders.z_l0 (c14 : f_lineage_Order.E) (c17 : f_ref7_HasInt.E) (c11 : f_lineage_Before.E) (c16 : f_ref7_Ints.E) (k : Nat)  (s : St) : f_law7_LineageKeepsOrders.M_l0 c14 c17 c11 c16 k 0  s = none := by kernel_rfl
theorem f_law7_LineageKeepsOrders.r_l0 (c14 : f_lineage_Order.E) (c17 : f_ref7_HasInt.E) (c11 : f_lineage_Before.E) (c16 : f_ref7_Ints.E) (k n : Nat)  (x0 : List (List (Int))) (x3 : List (Int)) (x5 : List (Int)) (x22 : List (List (Int))) (x23 : Int) (x24 : Int) : f_law7_LineageKeepsOrders.M_l0 c14 c17 c11 c16 k (n + 1)  (f_law7_LineageKeepsOrders.fr_l0 x0 x3 x5 x22 x23 x24) = f_law7_LineageKeepsOrders.b_l0 c14 c17 c11 c16 (fun x0 x3 x5 x6 x7 x22 x23 x24 x29 x30 x31 => f_law7_LineageKeepsOrders.M_l2 c14 c17 c11 c16 k k n (f_law7_LineageKeepsOrders.fr_l2 x0 x3 x5 x6 x7 x22 x23 x24 x29 x30 x31)) (fun x3 x5 x76 x77 x78 => f_law7_LineageKeepsOrders.M_l4 c14 c17 c11 c16 k k  (f_law7_LineageKeepsOrders.fr_l4 x3 x5 x76 x77 x78)) x0 x3 x5 x22 x23 x24 := by kernel_rfl
theorem f_law7_LineageKeepsOrders.z_l2 (c14 : f_lineage_Order.E) (c17 : f_ref7_HasInt.E) (c11 : f_lineage_Before.E) (c16 : f_ref7_Ints.E) (k : Nat) (m0 : Nat) (s : St) : f_law7_LineageKeepsOrders.M_l2 c14 c17 c11 c16 k 0 m0 s = none := by kernel_rfl
theorem f_law7_LineageKeepsOrders.r_l2 (c14 : f_lineage_Order.E) (c17 : f_ref7_HasInt.E) (c11 : f_lineage_Before.E) (c16 : f_ref7_Ints.E) (k n : Nat) (m0 : Nat) (x0 : List (List (Int))) (x3 : List (Int)) (x5 : List (Int)) (x6 : Int) (x7 : List (Int)) (x22 : List (List (Int))) (x23 : Int) (x24 : Int) (x29 : List (Int)) (x30 : Int) (x31 : Int) : f_law7_LineageKeepsOrders.M_l2 c14 c17 c11 c16 k (n + 1) m0 (f_law7_LineageKeepsOrders.fr_l2 x0 x3 x5 x6 x7 x22 x23 x24 x29 x30 x31) = f_law7_LineageKeepsOrders.b_l2 c14 c17 c11 c16 (fun x0 x3 x5 x6 x7 x8 x9 x22 x23 x24 x29 x30 x31 => f_law7_LineageKeepsOrders.M_g13 c14 c17 c11 c16 k  m0 n (f_law7_LineageKeepsOrders.fr_g13 x0 x3 x5 x6 x7 x8 x9 x22 x23 x24 x29 x30 x31)) (fun x0 x3 x5 x22 x23 x24 => f_law7_LineageKeepsOrders.M_l0 c14 c17 c11 c16 k m0  (f_law7_LineageKeepsOrders.fr_l0 x0 x3 x5 x22 x23 x24)) x0 x3 x5 x6 x7 x22 x23 x24 x29 x30 x31 := by kernel_rfl
theorem f_law7_LineageKeepsOrders.r_g13 (c14 : f_lineage_Order.E) (c17 : f_ref7_HasInt.E) (c11 : f_lineage_Before.E) (c16 : f_ref7_Ints.E) (k : Nat) (m0 : Nat) (m1 : Nat) (x0 : List (List (Int))) (x3 : List (Int)) (x5 : List (Int)) (x6 : Int) (x7 : List (Int)) (x8 : Int) (x9 : Int) (x22 : List (List (Int))) (x23 : Int) (x24 : Int) (x29 : List (Int)) (x30 : Int) (x31 : Int) : f_law7_LineageKeepsOrders.M_g13 c14 c17 c11 c16 k m0 m1 (f_law7_LineageKeepsOrders.fr_g13 x0 x3 x5 x6 x7 x8 x9 x22 x23 x24 x29 x30 x31) = gate k (f_law7_LineageKeepsOrders.b_g13 c14 c17 c11 c16 (fun x0 x3 x5 x6 x7 x22 x23 x24 x29 x30 x31 => f_law7_LineageKeepsOrders.M_l2 c14 c17 c11 c16 k m1 m0 (f_law7_LineageKeepsOrders.fr_l2 x0 x3 x5 x6 x7 x22 x23 x24 x29 x30 x31)) x0 x3 x5 x6 x7 x8 x9 x22 x23 x24 x29 x30 x31) := by kernel_rfl
theorem f_law7_LineageKeepsOrders.z_l4 (c14 : f_lineage_Order.E) (c17 : f_ref7_HasInt.E) (c11 : f_lineage_Before.E) (c16 : f_ref7_Ints.E) (k : Nat)  (s : St) : f_law7_LineageKeepsOrders.M_l4 c14 c17 c11 c16 k 0  s = none := by kernel_rfl
theorem f_law7_LineageKeepsOrders.r_l4 (c14 : f_lineage_Order.E) (c17 : f_ref7_HasInt.E) (c11 : f_lineage_Before.E) (c16 : f_ref7_Ints.E) (k n : Nat)  (x3 : List (Int)) (x5 : List (Int)) (x76 : List (Int)) (x77 : Int) (x78 : Int) : f_law7_LineageKeepsOrders.M_l4 c14 c17 c11 c16 k (n + 1)  (f_law7_LineageKeepsOrders.fr_l4 x3 x5 x76 x77 x78) = f_law7_LineageKeepsOrders.b_l4 c14 c17 c11 c16 (fun x3 x5 x76 x77 x78 => f_law7_LineageKeepsOrders.M_l4 c14 c17 c11 c16 k n  (f_law7_LineageKeepsOrders.fr_l4 x3 x5 x76 x77 x78)) x3 x5 x76 x77 x78 := by kernel_rfl
theorem f_law7_LineageKeepsOrders.e_g13 (c14 : f_lineage_Order.E) (c17 : f_ref7_HasInt.E) (c11 : f_lineage_Before.E) (c16 : f_ref7_Ints.E) (k : Nat) (m0 : Nat) (m1 : Nat) (x0 : List (List (Int))) (x3 : List (Int)) (x5 : List (Int)) (x6 : Int) (x7 : List (Int)) (x8 : Int) (x9 : Int) (x22 : List (List (Int))) (x23 : Int) (x24 : Int) (x29 : List (Int)) (x30 : Int) (x31 : Int) : f_law7_LineageKeepsOrders.M_g13 c14 c17 c11 c16 k m0 m1 (f_law7_LineageKeepsOrders.fr_g13 x0 x3 x5 x6 x7 x8 x9 x22 x23 x24 x29 x30 x31) = f_law7_LineageKeepsOrders.g13 c14 c17 c11 c16 k (fun x0 x3 x5 x22 x23 x24 => f_law7_LineageKeepsOrders.M_l0 c14 c17 c11 c16 k m0  (f_law7_LineageKeepsOrders.fr_l0 x0 x3 x5 x22 x23 x24)) (fun x0 x3 x5 x6 x7 x22 x23 x24 x29 x30 x31 => f_law7_LineageKeepsOrders.M_l2 c14 c17 c11 c16 k m1 m0 (f_law7_LineageKeepsOrders.fr_l2 x0 x3 x5 x6 x7 x22 x23 x24 x29 x30 x31)) x0 x3 x5 x6 x7 x8 x9 x22 x23 x24 x29 x30 x31 := by
  rw [f_law7_LineageKeepsOrders.r_g13]
  rfl
theorem f_law7_LineageKeepsOrders.e_l2 (c14 : f_lineage_Order.E) (c17 : f_ref7_HasInt.E) (c11 : f_lineage_Before.E) (c16 : f_ref7_Ints.E) (k n : Nat) (m0 : Nat) (x0 : List (List (Int))) (x3 : List (Int)) (x5 : List (Int)) (x6 : Int) (x7 : List (Int)) (x22 : List (List (Int))) (x23 : Int) (x24 : Int) (x29 : List (Int)) (x30 : Int) (x31 : Int) : f_law7_LineageKeepsOrders.M_l2 c14 c17 c11 c16 k n m0 (f_law7_LineageKeepsOrders.fr_l2 x0 x3 x5 x6 x7 x22 x23 x24 x29 x30 x31) = f_law7_LineageKeepsOrders.l2 c14 c17 c11 c16 k (fun x0 x3 x5 x22 x23 x24 => f_law7_LineageKeepsOrders.M_l0 c14 c17 c11 c16 k m0  (f_law7_LineageKeepsOrders.fr_l0 x0 x3 x5 x22 x23 x24)) n x0 x3 x5 x6 x7 x22 x23 x24 x29 x30 x31 := by
  induction n generalizing x0 x3 x5 x6 x7 x22 x23 x24 x29 x30 x31 with
  | zero => rw [f_law7_LineageKeepsOrders.z_l2]; rfl
  | succ n ih =>
    rw [f_law7_LineageKeepsOrders.r_l2]
    simp only [f_law7_LineageKeepsOrders.e_g13, ih]
    rfl
theorem f_law7_LineageKeepsOrders.e_l4 (c14 : f_lineage_Order.E) (c17 : f_ref7_HasInt.E) (c11 : f_lineage_Before.E) (c16 : f_ref7_Ints.E) (k n : Nat)  (x3 : List (Int)) (x5 : List (Int)) (x76 : List (Int)) (x77 : Int) (x78 : Int) : f_law7_LineageKeepsOrders.M_l4 c14 c17 c11 c16 k n  (f_law7_LineageKeepsOrders.fr_l4 x3 x5 x76 x77 x78) = f_law7_LineageKeepsOrders.l4 c14 c17 c11 c16 k  n x3 x5 x76 x77 x78 := by
  induction n generalizing x3 x5 x76 x77 x78 with
  | zero => rw [f_law7_LineageKeepsOrders.z_l4]; rfl
  | succ n ih =>
    rw [f_law7_LineageKeepsOrders.r_l4]
    simp only [ih]
    rfl
theorem f_law7_LineageKeepsOrders.e_l0 (c14 : f_lineage_Order.E) (c17 : f_ref7_HasInt.E) (c11 : f_lineage_Before.E) (c16 : f_ref7_Ints.E) (k n : Nat)  (x0 : List (List (Int))) (x3 : List (Int)) (x5 : List (Int)) (x22 : List (List (Int))) (x23 : Int) (x24 : Int) : f_law7_LineageKeepsOrders.M_l0 c14 c17 c11 c16 k n  (f_law7_LineageKeepsOrders.fr_l0 x0 x3 x5 x22 x23 x24) = f_law7_LineageKeepsOrders.l0 c14 c17 c11 c16 k  n x0 x3 x5 x22 x23 x24 := by
  induction n generalizing x0 x3 x5 x22 x23 x24 with
  | zero => rw [f_law7_LineageKeepsOrders.z_l0]; rfl
  | succ n ih =>
    rw [f_law7_LineageKeepsOrders.r_l0]
    simp only [f_law7_LineageKeepsOrders.e_l2, f_law7_LineageKeepsOrders.e_l4, ih]
    rfl
theorem f_law7_LineageKeepsOrders.e (c14 : f_lineage_Order.E) (c17 : f_ref7_HasInt.E) (c11 : f_lineage_Before.E) (c16 : f_ref7_Ints.E) (k : Nat) (a0 : List (List (Int))) : fn (f_law7_LineageKeepsOrders.C c14 c17 c11 c16) k Try.f6 f_law7_LineageKeepsOrders.A f_law7_LineageKeepsOrders.R a0 = f_law7_LineageKeepsOrders.f c14 c17 c11 c16 k a0 := by
  rw [f_law7_LineageKeepsOrders.r]
  simp only [f_law7_LineageKeepsOrders.e_l0]
  rfl
def f_law7_LineageKeepsOrders.u (k : Nat) : f_law7_LineageKeepsOrders.E := fun y => f_law7_LineageKeepsOrders.f (f_lineage_Order.u k) (f_ref7_HasInt.u k) (f_lineage_Before.u k) (f_ref7_Ints.u k) k y
theorem f_law7_LineageKeepsOrders.ty (c14 : f_lineage_Order.E) (c17 : f_ref7_HasInt.E) (c11 : f_lineage_Before.E) (c16 : f_ref7_Ints.E) : TyOk Try.prog (f_law7_LineageKeepsOrders.C c14 c17 c11 c16) := tyOk_of (by kernel_rfl)
theorem f_law7_LineageKeepsOrders.sound (k : Nat) : Sound Try.prog ⟨6, f_law7_LineageKeepsOrders.A, f_law7_LineageKeepsOrders.R, f_law7_LineageKeepsOrders.u k⟩ := by
  have h := fn_sound (k := k) («as» := f_law7_LineageKeepsOrders.A) (rs := f_law7_LineageKeepsOrders.R) (f_law7_LineageKeepsOrders.ty (f_lineage_Order.u k) (f_ref7_HasInt.u k) (f_lineage_Before.u k) (f_ref7_Ints.u k)) (fun E h => by
    simp only [f_law7_LineageKeepsOrders.C, List.mem_cons, List.not_mem_nil, or_false] at h
    rcases h with rfl | rfl | rfl | rfl
    · exact f_lineage_Order.sound k
    · exact f_ref7_HasInt.sound k
    · exact f_lineage_Before.sound k
    · exact f_ref7_Ints.sound k) mixed Try.func6 (by kernel_rfl) (by kernel_rfl)
  have e : fn (f_law7_LineageKeepsOrders.C (f_lineage_Order.u k) (f_ref7_HasInt.u k) (f_lineage_Before.u k) (f_ref7_Ints.u k)) k Try.f6 f_law7_LineageKeepsOrders.A f_law7_LineageKeepsOrders.R = f_law7_LineageKeepsOrders.u k := by
    funext y
    exact f_law7_LineageKeepsOrders.e (f_lineage_Order.u k) (f_ref7_HasInt.u k) (f_lineage_Before.u k) (f_ref7_Ints.u k) k y
  rw [e] at h
  exact h
end
end Go.Ab
