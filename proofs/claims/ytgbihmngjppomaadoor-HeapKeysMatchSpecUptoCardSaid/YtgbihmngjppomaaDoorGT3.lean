/- A part of the proof: GT3. -/
import Derived.Test.YtgbihmngjppomaaDoorFTy
import Derived.Test.YtgbihmngjppomaaDoorGC2
import Derived.Test.YtgbihmngjppomaaDoorGT1
import Derived.Test.YtgbihmngjppomaaDoorGT2
namespace Go.Ab
set_option linter.unusedVariables false
set_option linter.unusedSimpArgs false
set_option maxRecDepth 100000
noncomputable section
open Go.Proofs
/-! ### brindlewood/brindlewoodref7.links: f85 -/
abbrev r7_links.A : List Sh := [(.d Y_Heap), (.d (.int .i64))]
abbrev r7_links.R : List Sh := [(.d .bool)]
abbrev r7_links.E : Type := ((List X_Object) × (Int)) → Option (Bool)
def r7_links.C (c113 : r7_RangeOk.E) (c114 : r7_callable.E) (c115 : r7_isClass.E) (c116 : r7_Open.E) (c117 : sl_Contains_int.E) (c118 : r7_exceptionOk.E) (c47 : r7_Obj.E) (c88 : r7_IsObject.E) : Ctx := { ty := [(3, (.int .i64)), (4, .bool), (24, Y_Int), (26, Y_Value), (31, (.sl 26 Y_Value)), (38, (.sl 3 (.int .i64))), (48, (.sl 88 Y_Object)), (50, Y_Heap), (88, Y_Object)], nf := [(24, 2), (26, 5), (50, 1), (88, 10)], by_ := [(3, 8), (26, 96), (88, 168)], env := [⟨113, r7_RangeOk.A, r7_RangeOk.R, c113⟩, ⟨114, r7_callable.A, r7_callable.R, c114⟩, ⟨115, r7_isClass.A, r7_isClass.R, c115⟩, ⟨116, r7_Open.A, r7_Open.R, c116⟩, ⟨117, sl_Contains_int.A, sl_Contains_int.R, c117⟩, ⟨118, r7_exceptionOk.A, r7_exceptionOk.R, c118⟩, ⟨47, r7_Obj.A, r7_Obj.R, c47⟩, ⟨88, r7_IsObject.A, r7_IsObject.R, c88⟩], spec := [(1, [.bx 2 600002 (.d Y_Heap), .bx 5 600005 (.d Y_Object), .d 30 (.sl 3 (.int .i64)), .d 31 (.int .i64), .d 32 (.int .i64)]), (100015, [.bx 2 600002 (.d Y_Heap), .bx 5 600005 (.d Y_Object)]), (3, [.d 1 (.int .i64), .bx 2 600002 (.d Y_Heap), .bx 5 600005 (.d Y_Object), .d 64 (.sl 3 (.int .i64)), .d 65 (.int .i64), .d 66 (.int .i64)]), (100025, [.d 1 (.int .i64), .bx 2 600002 (.d Y_Heap), .bx 5 600005 (.d Y_Object)]), (100027, [.bx 2 600002 (.d Y_Heap), .bx 5 600005 (.d Y_Object)]), (100035, [.bx 2 600002 (.d Y_Heap), .bx 10 600010 (.d Y_Value), .d 12 (.int .i64)]), (100037, [.bx 2 600002 (.d Y_Heap), .bx 5 600005 (.d Y_Object)]), (100042, [.bx 5 600005 (.d Y_Object)]), (100044, [.bx 5 600005 (.d Y_Object)]), (100039, [.bx 5 600005 (.d Y_Object), .bx 14 600014 (.d Y_Object)]), (100047, [.bx 2 600002 (.d Y_Heap), .bx 5 600005 (.d Y_Object)]), (100050, [.bx 2 600002 (.d Y_Heap), .bx 5 600005 (.d Y_Object)]), (100052, [.bx 5 600005 (.d Y_Object)])] }
noncomputable def r7_links.code : Code := Func.code Tryd.f85
noncomputable def r7_links.fin (c113 : r7_RangeOk.E) (c114 : r7_callable.E) (c115 : r7_isClass.E) (c116 : r7_Open.E) (c117 : sl_Contains_int.E) (c118 : r7_exceptionOk.E) (c47 : r7_Obj.E) (c88 : r7_IsObject.E) := kfin (r7_links.C c113 c114 c115 c116 c117 c118 c47 c88) Tryd.f85 r7_links.A r7_links.R
def r7_links.b (c113 : r7_RangeOk.E) (c114 : r7_callable.E) (c115 : r7_isClass.E) (c116 : r7_Open.E) (c117 : sl_Contains_int.E) (c118 : r7_exceptionOk.E) (c47 : r7_Obj.E) (c88 : r7_IsObject.E) (r_l1 : (List X_Object) → X_Object → (List (Int)) → (Int) → (Int) → Option (Bool)) (r_g15 : (List X_Object) → X_Object → Option (Bool)) (r_l3 : (Int) → (List X_Object) → X_Object → (List (Int)) → (Int) → (Int) → Option (Bool)) (r_g25 : (Int) → (List X_Object) → X_Object → Option (Bool)) (r_g27 : (List X_Object) → X_Object → Option (Bool)) (r_g37 : (List X_Object) → X_Object → Option (Bool)) (r_g47 : (List X_Object) → X_Object → Option (Bool)) (r_g50 : (List X_Object) → X_Object → Option (Bool)) (r_g52 : X_Object → Option (Bool)) (a0 : List X_Object) (a1 : Int) : Option (Bool) :=
  if 0 ≤ a1 ∧ a1 < ((List.length a0) : Int) then
    bif (((List.getD a0 (Int.toNat a1) Z_Object).1) == (5 : Int)) then
      (c113 (List.getD a0 (Int.toNat a1) Z_Object)).bind fun y1 =>
        some y1
    else
      bif (((List.getD a0 (Int.toNat a1) Z_Object).1) == (7 : Int)) then
        r_l1 a0 (List.getD a0 (Int.toNat a1) Z_Object) (((((List.getD a0 (Int.toNat a1) Z_Object).2).2).2).1) ((List.length (((((List.getD a0 (Int.toNat a1) Z_Object).2).2).2).1)) : Int) (0 : Int)
      else
        bif (((List.getD a0 (Int.toNat a1) Z_Object).1) == (8 : Int)) then
          bif (((List.getD a0 (Int.toNat a1) Z_Object).1) == (8 : Int)) then
            r_g15 a0 (List.getD a0 (Int.toNat a1) Z_Object)
          else
            bif (((List.getD a0 (Int.toNat a1) Z_Object).1) == (9 : Int)) then
              r_l3 a1 a0 (List.getD a0 (Int.toNat a1) Z_Object) (((((List.getD a0 (Int.toNat a1) Z_Object).2).2).2).1) ((List.length (((((List.getD a0 (Int.toNat a1) Z_Object).2).2).2).1)) : Int) (0 : Int)
            else
              bif (((List.getD a0 (Int.toNat a1) Z_Object).1) == (10 : Int)) then
                r_g25 a1 a0 (List.getD a0 (Int.toNat a1) Z_Object)
              else
                bif (((List.getD a0 (Int.toNat a1) Z_Object).1) == (15 : Int)) then
                  r_g27 a0 (List.getD a0 (Int.toNat a1) Z_Object)
                else
                  bif (((List.getD a0 (Int.toNat a1) Z_Object).1) == (16 : Int)) then
                    r_g37 a0 (List.getD a0 (Int.toNat a1) Z_Object)
                  else
                    bif (((List.getD a0 (Int.toNat a1) Z_Object).1) == (18 : Int)) then
                      bif (decide (((((((((((List.getD a0 (Int.toNat a1) Z_Object).2).2).2).2).2).2).2).2).2) > (0 : Int))) then
                        r_g47 a0 (List.getD a0 (Int.toNat a1) Z_Object)
                      else
                        some true
                    else
                      bif (((List.getD a0 (Int.toNat a1) Z_Object).1) == (19 : Int)) then
                        r_g50 a0 (List.getD a0 (Int.toNat a1) Z_Object)
                      else
                        bif (((List.getD a0 (Int.toNat a1) Z_Object).1) == (20 : Int)) then
                          r_g52 (List.getD a0 (Int.toNat a1) Z_Object)
                        else
                          some true
        else
          bif (((List.getD a0 (Int.toNat a1) Z_Object).1) == (14 : Int)) then
            r_g15 a0 (List.getD a0 (Int.toNat a1) Z_Object)
          else
            bif (((List.getD a0 (Int.toNat a1) Z_Object).1) == (9 : Int)) then
              r_l3 a1 a0 (List.getD a0 (Int.toNat a1) Z_Object) (((((List.getD a0 (Int.toNat a1) Z_Object).2).2).2).1) ((List.length (((((List.getD a0 (Int.toNat a1) Z_Object).2).2).2).1)) : Int) (0 : Int)
            else
              bif (((List.getD a0 (Int.toNat a1) Z_Object).1) == (10 : Int)) then
                r_g25 a1 a0 (List.getD a0 (Int.toNat a1) Z_Object)
              else
                bif (((List.getD a0 (Int.toNat a1) Z_Object).1) == (15 : Int)) then
                  r_g27 a0 (List.getD a0 (Int.toNat a1) Z_Object)
                else
                  bif (((List.getD a0 (Int.toNat a1) Z_Object).1) == (16 : Int)) then
                    r_g37 a0 (List.getD a0 (Int.toNat a1) Z_Object)
                  else
                    bif (((List.getD a0 (Int.toNat a1) Z_Object).1) == (18 : Int)) then
                      bif (decide (((((((((((List.getD a0 (Int.toNat a1) Z_Object).2).2).2).2).2).2).2).2).2) > (0 : Int))) then
                        r_g47 a0 (List.getD a0 (Int.toNat a1) Z_Object)
                      else
                        some true
                    else
                      bif (((List.getD a0 (Int.toNat a1) Z_Object).1) == (19 : Int)) then
                        r_g50 a0 (List.getD a0 (Int.toNat a1) Z_Object)
                      else
                        bif (((List.getD a0 (Int.toNat a1) Z_Object).1) == (20 : Int)) then
                          r_g52 (List.getD a0 (Int.toNat a1) Z_Object)
                        else
                          some true
  else none
def r7_links.b_l1 (c113 : r7_RangeOk.E) (c114 : r7_callable.E) (c115 : r7_isClass.E) (c116 : r7_Open.E) (c117 : sl_Contains_int.E) (c118 : r7_exceptionOk.E) (c47 : r7_Obj.E) (c88 : r7_IsObject.E) (n_l1 : (List X_Object) → X_Object → (List (Int)) → (Int) → (Int) → Option (Bool)) (x2 : List X_Object) (x5 : X_Object) (x30 : List (Int)) (x31 : Int) (x32 : Int) : Option (Bool) :=
  bif (decide (x32 < x31)) then
    if 0 ≤ x32 ∧ x32 < ((List.length x30) : Int) then
      if 0 ≤ (List.getD x30 (Int.toNat x32) (0 : Int)) ∧ (List.getD x30 (Int.toNat x32) (0 : Int)) < ((List.length x2) : Int) then
        bif (((List.getD x2 (Int.toNat (List.getD x30 (Int.toNat x32) (0 : Int))) Z_Object).1) != (6 : Int)) then
          some false
        else
          n_l1 x2 x5 x30 x31 (IntKind.i64.wrap (x32 + (1 : Int)))
      else none
    else none
  else
    if 0 ≤ x5.2.2.1 ∧ x5.2.2.1 < ((List.length x2) : Int) then
      some (((List.getD x2 (Int.toNat x5.2.2.1) Z_Object).1) == (11 : Int))
    else none
def r7_links.b_g15 (c113 : r7_RangeOk.E) (c114 : r7_callable.E) (c115 : r7_isClass.E) (c116 : r7_Open.E) (c117 : sl_Contains_int.E) (c118 : r7_exceptionOk.E) (c47 : r7_Obj.E) (c88 : r7_IsObject.E)  (x2 : List X_Object) (x5 : X_Object) : Option (Bool) :=
  if 0 ≤ (0 : Int) ∧ (0 : Int) < ((List.length x5.2.2.2.2.2.2.1) : Int) then
    (c114 (x2, (List.getD x5.2.2.2.2.2.2.1 (Int.toNat (0 : Int)) Z_Value))).bind fun y2 =>
      some y2
  else none
def r7_links.b_l3 (c113 : r7_RangeOk.E) (c114 : r7_callable.E) (c115 : r7_isClass.E) (c116 : r7_Open.E) (c117 : sl_Contains_int.E) (c118 : r7_exceptionOk.E) (c47 : r7_Obj.E) (c88 : r7_IsObject.E) (n_l3 : (Int) → (List X_Object) → X_Object → (List (Int)) → (Int) → (Int) → Option (Bool)) (x1 : Int) (x2 : List X_Object) (x5 : X_Object) (x64 : List (Int)) (x65 : Int) (x66 : Int) : Option (Bool) :=
  bif (decide (x66 < x65)) then
    if 0 ≤ x66 ∧ x66 < ((List.length x64) : Int) then
      bif (decide ((List.getD x64 (Int.toNat x66) (0 : Int)) ≥ x1)) then
        some false
      else
        (c115 (x2, (List.getD x64 (Int.toNat x66) (0 : Int)))).bind fun y3 =>
          bif (!y3) then
            some false
          else
            (c116 (List.getD x64 (Int.toNat x66) (0 : Int))).bind fun y4 =>
              bif (!y4) then
                some false
              else
                n_l3 x1 x2 x5 x64 x65 (IntKind.i64.wrap (x66 + (1 : Int)))
    else none
  else
    bif (decide (((List.length x5.2.2.2.1) : Int) ≥ (1 : Int))) then
      some (decide (((List.length x5.2.2.2.1) : Int) ≤ (8 : Int)))
    else
      some false
def r7_links.b_g25 (c113 : r7_RangeOk.E) (c114 : r7_callable.E) (c115 : r7_isClass.E) (c116 : r7_Open.E) (c117 : sl_Contains_int.E) (c118 : r7_exceptionOk.E) (c47 : r7_Obj.E) (c88 : r7_IsObject.E)  (x1 : Int) (x2 : List X_Object) (x5 : X_Object) : Option (Bool) :=
  (c115 (x2, x5.2.2.1)).bind fun y5 =>
    bif y5 then
      (c116 x5.2.2.1).bind fun y6 =>
        bif y6 then
          if 0 ≤ x5.2.2.1 ∧ x5.2.2.1 < ((List.length x2) : Int) then
            (c117 ((((((List.getD x2 (Int.toNat x5.2.2.1) Z_Object).2).2).2).2).1, (28 : Int))).bind fun y7 =>
              bif (!y7) then
                some true
              else
                (c118 (x2, x1)).bind fun y8 =>
                  some y8
          else none
        else
          some false
    else
      some false
def r7_links.b_g27 (c113 : r7_RangeOk.E) (c114 : r7_callable.E) (c115 : r7_isClass.E) (c116 : r7_Open.E) (c117 : sl_Contains_int.E) (c118 : r7_exceptionOk.E) (c47 : r7_Obj.E) (c88 : r7_IsObject.E) (r_g35 : (List X_Object) → X_Value → (Int) → Option (Bool)) (x2 : List X_Object) (x5 : X_Object) : Option (Bool) :=
  if 0 ≤ (0 : Int) ∧ (0 : Int) < ((List.length x5.2.2.2.2.2.2.1) : Int) then
    if 0 ≤ (1 : Int) ∧ (1 : Int) < ((List.length x5.2.2.2.2.2.2.1) : Int) then
      (c47 (x2, (List.getD x5.2.2.2.2.2.2.1 (Int.toNat (1 : Int)) Z_Value))).bind fun y9 =>
        bif (y9.1 == (10 : Int)) then
          r_g35 x2 (List.getD x5.2.2.2.2.2.2.1 (Int.toNat (0 : Int)) Z_Value) y9.2.2.1
        else
          bif (y9.1 == (9 : Int)) then
            r_g35 x2 (List.getD x5.2.2.2.2.2.2.1 (Int.toNat (0 : Int)) Z_Value) (((((List.getD x5.2.2.2.2.2.2.1 (Int.toNat (1 : Int)) Z_Value).2).2).2).2)
          else
            some false
    else none
  else none
def r7_links.b_g35 (c113 : r7_RangeOk.E) (c114 : r7_callable.E) (c115 : r7_isClass.E) (c116 : r7_Open.E) (c117 : sl_Contains_int.E) (c118 : r7_exceptionOk.E) (c47 : r7_Obj.E) (c88 : r7_IsObject.E)  (x2 : List X_Object) (x10 : X_Value) (x12 : Int) : Option (Bool) :=
  (c47 (x2, x10)).bind fun y10 =>
    bif (y10.1 == (9 : Int)) then
      (c88 (x2, x12)).bind fun y11 =>
        bif y11 then
          if 0 ≤ x12 ∧ x12 < ((List.length x2) : Int) then
            (c117 ((((((List.getD x2 (Int.toNat x12) Z_Object).2).2).2).2).1, x10.2.2.2.2)).bind fun y12 =>
              some y12
          else none
        else
          some false
    else
      some false
def r7_links.b_g37 (c113 : r7_RangeOk.E) (c114 : r7_callable.E) (c115 : r7_isClass.E) (c116 : r7_Open.E) (c117 : sl_Contains_int.E) (c118 : r7_exceptionOk.E) (c47 : r7_Obj.E) (c88 : r7_IsObject.E) (r_g42 : X_Object → Option (Bool)) (r_g44 : X_Object → Option (Bool)) (r_g39 : X_Object → X_Object → Option (Bool)) (x2 : List X_Object) (x5 : X_Object) : Option (Bool) :=
  if 0 ≤ (0 : Int) ∧ (0 : Int) < ((List.length x5.2.2.2.2.2.2.1) : Int) then
    (c47 (x2, (List.getD x5.2.2.2.2.2.2.1 (Int.toNat (0 : Int)) Z_Value))).bind fun y13 =>
      bif (y13.1 == (3 : Int)) then
        bif (y13.1 == (3 : Int)) then
          r_g42 x5
        else
          bif (y13.1 == (0 : Int)) then
            r_g44 x5
          else
            r_g39 x5 y13
      else
        bif (y13.1 == (4 : Int)) then
          r_g42 x5
        else
          bif (y13.1 == (0 : Int)) then
            r_g44 x5
          else
            r_g39 x5 y13
  else none
def r7_links.b_g42 (c113 : r7_RangeOk.E) (c114 : r7_callable.E) (c115 : r7_isClass.E) (c116 : r7_Open.E) (c117 : sl_Contains_int.E) (c118 : r7_exceptionOk.E) (c47 : r7_Obj.E) (c88 : r7_IsObject.E)  (x5 : X_Object) : Option (Bool) :=
  if 0 ≤ (1 : Int) ∧ (1 : Int) < ((List.length x5.2.2.2.2.2.2.1) : Int) then
    bif (((List.getD x5.2.2.2.2.2.2.1 (Int.toNat (1 : Int)) Z_Value).1) == (2 : Int)) then
      if 0 ≤ (1 : Int) ∧ (1 : Int) < ((List.length x5.2.2.2.2.2.2.1) : Int) then
        some (!((((List.getD x5.2.2.2.2.2.2.1 (Int.toNat (1 : Int)) Z_Value).2).1).1))
      else none
    else
      some false
  else none
def r7_links.b_g44 (c113 : r7_RangeOk.E) (c114 : r7_callable.E) (c115 : r7_isClass.E) (c116 : r7_Open.E) (c117 : sl_Contains_int.E) (c118 : r7_exceptionOk.E) (c47 : r7_Obj.E) (c88 : r7_IsObject.E)  (x5 : X_Object) : Option (Bool) :=
  if 0 ≤ (0 : Int) ∧ (0 : Int) < ((List.length x5.2.2.2.2.2.2.1) : Int) then
    bif (((List.getD x5.2.2.2.2.2.2.1 (Int.toNat (0 : Int)) Z_Value).1) == (4 : Int)) then
      if 0 ≤ (1 : Int) ∧ (1 : Int) < ((List.length x5.2.2.2.2.2.2.1) : Int) then
        some (((List.getD x5.2.2.2.2.2.2.1 (Int.toNat (1 : Int)) Z_Value).1) == (0 : Int))
      else none
    else
      if 0 ≤ (0 : Int) ∧ (0 : Int) < ((List.length x5.2.2.2.2.2.2.1) : Int) then
        bif (((List.getD x5.2.2.2.2.2.2.1 (Int.toNat (0 : Int)) Z_Value).1) == (5 : Int)) then
          if 0 ≤ (1 : Int) ∧ (1 : Int) < ((List.length x5.2.2.2.2.2.2.1) : Int) then
            some (((List.getD x5.2.2.2.2.2.2.1 (Int.toNat (1 : Int)) Z_Value).1) == (0 : Int))
          else none
        else
          some false
      else none
  else none
def r7_links.b_g39 (c113 : r7_RangeOk.E) (c114 : r7_callable.E) (c115 : r7_isClass.E) (c116 : r7_Open.E) (c117 : sl_Contains_int.E) (c118 : r7_exceptionOk.E) (c47 : r7_Obj.E) (c88 : r7_IsObject.E)  (x5 : X_Object) (x14 : X_Object) : Option (Bool) :=
  bif (x14.1 == (1 : Int)) then
    if 0 ≤ (1 : Int) ∧ (1 : Int) < ((List.length x5.2.2.2.2.2.2.1) : Int) then
      some (((List.getD x5.2.2.2.2.2.2.1 (Int.toNat (1 : Int)) Z_Value).1) == (0 : Int))
    else none
  else
    bif (x14.1 == (2 : Int)) then
      if 0 ≤ (1 : Int) ∧ (1 : Int) < ((List.length x5.2.2.2.2.2.2.1) : Int) then
        some (((List.getD x5.2.2.2.2.2.2.1 (Int.toNat (1 : Int)) Z_Value).1) == (0 : Int))
      else none
    else
      bif (x14.1 == (5 : Int)) then
        if 0 ≤ (1 : Int) ∧ (1 : Int) < ((List.length x5.2.2.2.2.2.2.1) : Int) then
          some (((List.getD x5.2.2.2.2.2.2.1 (Int.toNat (1 : Int)) Z_Value).1) == (0 : Int))
        else none
      else
        some false
def r7_links.b_g47 (c113 : r7_RangeOk.E) (c114 : r7_callable.E) (c115 : r7_isClass.E) (c116 : r7_Open.E) (c117 : sl_Contains_int.E) (c118 : r7_exceptionOk.E) (c47 : r7_Obj.E) (c88 : r7_IsObject.E)  (x2 : List X_Object) (x5 : X_Object) : Option (Bool) :=
  if 0 ≤ (IntKind.i64.wrap (x5.2.2.2.2.2.2.2.2.2 - (1 : Int))) ∧ (IntKind.i64.wrap (x5.2.2.2.2.2.2.2.2.2 - (1 : Int))) < ((List.length x2) : Int) then
    bif (((List.getD x2 (Int.toNat (IntKind.i64.wrap (x5.2.2.2.2.2.2.2.2.2 - (1 : Int)))) Z_Object).1) == (10 : Int)) then
      some (decide (((((List.getD x2 (Int.toNat (IntKind.i64.wrap (x5.2.2.2.2.2.2.2.2.2 - (1 : Int)))) Z_Object).2).2).1) ≥ (49 : Int)))
    else
      some false
  else none
def r7_links.b_g50 (c113 : r7_RangeOk.E) (c114 : r7_callable.E) (c115 : r7_isClass.E) (c116 : r7_Open.E) (c117 : sl_Contains_int.E) (c118 : r7_exceptionOk.E) (c47 : r7_Obj.E) (c88 : r7_IsObject.E)  (x2 : List X_Object) (x5 : X_Object) : Option (Bool) :=
  if 0 ≤ (0 : Int) ∧ (0 : Int) < ((List.length x5.2.2.2.2.2.2.1) : Int) then
    (c47 (x2, (List.getD x5.2.2.2.2.2.2.1 (Int.toNat (0 : Int)) Z_Value))).bind fun y14 =>
      some (y14.1 == (17 : Int))
  else none
def r7_links.b_g52 (c113 : r7_RangeOk.E) (c114 : r7_callable.E) (c115 : r7_isClass.E) (c116 : r7_Open.E) (c117 : sl_Contains_int.E) (c118 : r7_exceptionOk.E) (c47 : r7_Obj.E) (c88 : r7_IsObject.E)  (x5 : X_Object) : Option (Bool) :=
  if 0 ≤ (0 : Int) ∧ (0 : Int) < ((List.length x5.2.2.2.2.2.2.1) : Int) then
    bif (((List.getD x5.2.2.2.2.2.2.1 (Int.toNat (0 : Int)) Z_Value).1) == (2 : Int)) then
      if 0 ≤ (0 : Int) ∧ (0 : Int) < ((List.length x5.2.2.2.2.2.2.1) : Int) then
        some (!((((List.getD x5.2.2.2.2.2.2.1 (Int.toNat (0 : Int)) Z_Value).2).1).1))
      else none
    else
      some false
  else none
def r7_links.c (c113 : r7_RangeOk.E) (c114 : r7_callable.E) (c115 : r7_isClass.E) (c116 : r7_Open.E) (c117 : sl_Contains_int.E) (c118 : r7_exceptionOk.E) (c47 : r7_Obj.E) (c88 : r7_IsObject.E) (r_l1 : (List X_Object) → X_Object → (List (Int)) → (Int) → (Int) → Option (Bool)) (r_g15 : (List X_Object) → X_Object → Option (Bool)) (r_l3 : (Int) → (List X_Object) → X_Object → (List (Int)) → (Int) → (Int) → Option (Bool)) (r_g25 : (Int) → (List X_Object) → X_Object → Option (Bool)) (r_g27 : (List X_Object) → X_Object → Option (Bool)) (r_g37 : (List X_Object) → X_Object → Option (Bool)) (r_g47 : (List X_Object) → X_Object → Option (Bool)) (r_g50 : (List X_Object) → X_Object → Option (Bool)) (r_g52 : X_Object → Option (Bool)) (a0 : List X_Object) (a1 : Int) : Option (Bool) :=
  if 0 ≤ a1 ∧ a1 < ((List.length a0) : Int) then
    bif (((List.getD a0 (Int.toNat a1) Z_Object).1) == (5 : Int)) then
      (c113 (List.getD a0 (Int.toNat a1) Z_Object)).bind fun y1 =>
        some y1
    else
      bif (((List.getD a0 (Int.toNat a1) Z_Object).1) == (7 : Int)) then
        r_l1 a0 (List.getD a0 (Int.toNat a1) Z_Object) (((((List.getD a0 (Int.toNat a1) Z_Object).2).2).2).1) ((List.length (((((List.getD a0 (Int.toNat a1) Z_Object).2).2).2).1)) : Int) (0 : Int)
      else
        bif (((List.getD a0 (Int.toNat a1) Z_Object).1) == (8 : Int)) then
          bif (((List.getD a0 (Int.toNat a1) Z_Object).1) == (8 : Int)) then
            r_g15 a0 (List.getD a0 (Int.toNat a1) Z_Object)
          else
            bif (((List.getD a0 (Int.toNat a1) Z_Object).1) == (9 : Int)) then
              r_l3 a1 a0 (List.getD a0 (Int.toNat a1) Z_Object) (((((List.getD a0 (Int.toNat a1) Z_Object).2).2).2).1) ((List.length (((((List.getD a0 (Int.toNat a1) Z_Object).2).2).2).1)) : Int) (0 : Int)
            else
              bif (((List.getD a0 (Int.toNat a1) Z_Object).1) == (10 : Int)) then
                r_g25 a1 a0 (List.getD a0 (Int.toNat a1) Z_Object)
              else
                bif (((List.getD a0 (Int.toNat a1) Z_Object).1) == (15 : Int)) then
                  r_g27 a0 (List.getD a0 (Int.toNat a1) Z_Object)
                else
                  bif (((List.getD a0 (Int.toNat a1) Z_Object).1) == (16 : Int)) then
                    r_g37 a0 (List.getD a0 (Int.toNat a1) Z_Object)
                  else
                    bif (((List.getD a0 (Int.toNat a1) Z_Object).1) == (18 : Int)) then
                      bif (decide (((((((((((List.getD a0 (Int.toNat a1) Z_Object).2).2).2).2).2).2).2).2).2) > (0 : Int))) then
                        r_g47 a0 (List.getD a0 (Int.toNat a1) Z_Object)
                      else
                        some true
                    else
                      bif (((List.getD a0 (Int.toNat a1) Z_Object).1) == (19 : Int)) then
                        r_g50 a0 (List.getD a0 (Int.toNat a1) Z_Object)
                      else
                        bif (((List.getD a0 (Int.toNat a1) Z_Object).1) == (20 : Int)) then
                          r_g52 (List.getD a0 (Int.toNat a1) Z_Object)
                        else
                          some true
        else
          bif (((List.getD a0 (Int.toNat a1) Z_Object).1) == (14 : Int)) then
            r_g15 a0 (List.getD a0 (Int.toNat a1) Z_Object)
          else
            bif (((List.getD a0 (Int.toNat a1) Z_Object).1) == (9 : Int)) then
              r_l3 a1 a0 (List.getD a0 (Int.toNat a1) Z_Object) (((((List.getD a0 (Int.toNat a1) Z_Object).2).2).2).1) ((List.length (((((List.getD a0 (Int.toNat a1) Z_Object).2).2).2).1)) : Int) (0 : Int)
            else
              bif (((List.getD a0 (Int.toNat a1) Z_Object).1) == (10 : Int)) then
                r_g25 a1 a0 (List.getD a0 (Int.toNat a1) Z_Object)
              else
                bif (((List.getD a0 (Int.toNat a1) Z_Object).1) == (15 : Int)) then
                  r_g27 a0 (List.getD a0 (Int.toNat a1) Z_Object)
                else
                  bif (((List.getD a0 (Int.toNat a1) Z_Object).1) == (16 : Int)) then
                    r_g37 a0 (List.getD a0 (Int.toNat a1) Z_Object)
                  else
                    bif (((List.getD a0 (Int.toNat a1) Z_Object).1) == (18 : Int)) then
                      bif (decide (((((((((((List.getD a0 (Int.toNat a1) Z_Object).2).2).2).2).2).2).2).2).2) > (0 : Int))) then
                        r_g47 a0 (List.getD a0 (Int.toNat a1) Z_Object)
                      else
                        some true
                    else
                      bif (((List.getD a0 (Int.toNat a1) Z_Object).1) == (19 : Int)) then
                        r_g50 a0 (List.getD a0 (Int.toNat a1) Z_Object)
                      else
                        bif (((List.getD a0 (Int.toNat a1) Z_Object).1) == (20 : Int)) then
                          r_g52 (List.getD a0 (Int.toNat a1) Z_Object)
                        else
                          some true
  else none
theorem r7_links.q (c113 : r7_RangeOk.E) (c114 : r7_callable.E) (c115 : r7_isClass.E) (c116 : r7_Open.E) (c117 : sl_Contains_int.E) (c118 : r7_exceptionOk.E) (c47 : r7_Obj.E) (c88 : r7_IsObject.E) (r_l1 : (List X_Object) → X_Object → (List (Int)) → (Int) → (Int) → Option (Bool)) (r_g15 : (List X_Object) → X_Object → Option (Bool)) (r_l3 : (Int) → (List X_Object) → X_Object → (List (Int)) → (Int) → (Int) → Option (Bool)) (r_g25 : (Int) → (List X_Object) → X_Object → Option (Bool)) (r_g27 : (List X_Object) → X_Object → Option (Bool)) (r_g37 : (List X_Object) → X_Object → Option (Bool)) (r_g47 : (List X_Object) → X_Object → Option (Bool)) (r_g50 : (List X_Object) → X_Object → Option (Bool)) (r_g52 : X_Object → Option (Bool)) (a0 : List X_Object) (a1 : Int) : r7_links.b c113 c114 c115 c116 c117 c118 c47 c88 r_l1 r_g15 r_l3 r_g25 r_g27 r_g37 r_g47 r_g50 r_g52 a0 a1 = r7_links.c c113 c114 c115 c116 c117 c118 c47 c88 r_l1 r_g15 r_l3 r_g25 r_g27 r_g37 r_g47 r_g50 r_g52 a0 a1 := by
  simp only [r7_links.b, r7_links.c, List.take_length, take_one, Nat.zero_add, Int.toNat_natCast, Int.toNat_zero, List.drop_zero, List.append_eq, Nat.le_refl, Int.le_refl, true_and, and_true, zero_le_one, if_true, prod_eta, Int.natCast_zero]
def r7_links.c_l1 (c113 : r7_RangeOk.E) (c114 : r7_callable.E) (c115 : r7_isClass.E) (c116 : r7_Open.E) (c117 : sl_Contains_int.E) (c118 : r7_exceptionOk.E) (c47 : r7_Obj.E) (c88 : r7_IsObject.E) (n_l1 : (List X_Object) → X_Object → (List (Int)) → (Int) → (Int) → Option (Bool)) (x2 : List X_Object) (x5 : X_Object) (x30 : List (Int)) (x31 : Int) (x32 : Int) : Option (Bool) :=
  bif (decide (x32 < x31)) then
    if 0 ≤ x32 ∧ x32 < ((List.length x30) : Int) then
      if 0 ≤ (List.getD x30 (Int.toNat x32) (0 : Int)) ∧ (List.getD x30 (Int.toNat x32) (0 : Int)) < ((List.length x2) : Int) then
        bif (((List.getD x2 (Int.toNat (List.getD x30 (Int.toNat x32) (0 : Int))) Z_Object).1) != (6 : Int)) then
          some false
        else
          n_l1 x2 x5 x30 x31 (IntKind.i64.wrap (x32 + (1 : Int)))
      else none
    else none
  else
    if 0 ≤ x5.2.2.1 ∧ x5.2.2.1 < ((List.length x2) : Int) then
      some (((List.getD x2 (Int.toNat x5.2.2.1) Z_Object).1) == (11 : Int))
    else none
theorem r7_links.q_l1 (c113 : r7_RangeOk.E) (c114 : r7_callable.E) (c115 : r7_isClass.E) (c116 : r7_Open.E) (c117 : sl_Contains_int.E) (c118 : r7_exceptionOk.E) (c47 : r7_Obj.E) (c88 : r7_IsObject.E) (n_l1 : (List X_Object) → X_Object → (List (Int)) → (Int) → (Int) → Option (Bool)) (x2 : List X_Object) (x5 : X_Object) (x30 : List (Int)) (x31 : Int) (x32 : Int) : r7_links.b_l1 c113 c114 c115 c116 c117 c118 c47 c88 n_l1 x2 x5 x30 x31 x32 = r7_links.c_l1 c113 c114 c115 c116 c117 c118 c47 c88 n_l1 x2 x5 x30 x31 x32 := by
  simp only [r7_links.b_l1, r7_links.c_l1, List.take_length, take_one, Nat.zero_add, Int.toNat_natCast, Int.toNat_zero, List.drop_zero, List.append_eq, Nat.le_refl, Int.le_refl, true_and, and_true, zero_le_one, if_true, prod_eta, Int.natCast_zero]
def r7_links.c_g15 (c113 : r7_RangeOk.E) (c114 : r7_callable.E) (c115 : r7_isClass.E) (c116 : r7_Open.E) (c117 : sl_Contains_int.E) (c118 : r7_exceptionOk.E) (c47 : r7_Obj.E) (c88 : r7_IsObject.E)  (x2 : List X_Object) (x5 : X_Object) : Option (Bool) :=
  if (0 : Int) < ((List.length x5.2.2.2.2.2.2.1) : Int) then
    (c114 (x2, (List.getD x5.2.2.2.2.2.2.1 0 Z_Value))).bind fun y2 =>
      some y2
  else none
theorem r7_links.q_g15 (c113 : r7_RangeOk.E) (c114 : r7_callable.E) (c115 : r7_isClass.E) (c116 : r7_Open.E) (c117 : sl_Contains_int.E) (c118 : r7_exceptionOk.E) (c47 : r7_Obj.E) (c88 : r7_IsObject.E)  (x2 : List X_Object) (x5 : X_Object) : r7_links.b_g15 c113 c114 c115 c116 c117 c118 c47 c88 x2 x5 = r7_links.c_g15 c113 c114 c115 c116 c117 c118 c47 c88 x2 x5 := by
  simp only [r7_links.b_g15, r7_links.c_g15, List.take_length, take_one, Nat.zero_add, Int.toNat_natCast, Int.toNat_zero, List.drop_zero, List.append_eq, Nat.le_refl, Int.le_refl, true_and, and_true, zero_le_one, if_true, prod_eta, Int.natCast_zero]
def r7_links.c_l3 (c113 : r7_RangeOk.E) (c114 : r7_callable.E) (c115 : r7_isClass.E) (c116 : r7_Open.E) (c117 : sl_Contains_int.E) (c118 : r7_exceptionOk.E) (c47 : r7_Obj.E) (c88 : r7_IsObject.E) (n_l3 : (Int) → (List X_Object) → X_Object → (List (Int)) → (Int) → (Int) → Option (Bool)) (x1 : Int) (x2 : List X_Object) (x5 : X_Object) (x64 : List (Int)) (x65 : Int) (x66 : Int) : Option (Bool) :=
  bif (decide (x66 < x65)) then
    if 0 ≤ x66 ∧ x66 < ((List.length x64) : Int) then
      bif (decide ((List.getD x64 (Int.toNat x66) (0 : Int)) ≥ x1)) then
        some false
      else
        (c115 (x2, (List.getD x64 (Int.toNat x66) (0 : Int)))).bind fun y3 =>
          bif !y3 then
            some false
          else
            (c116 (List.getD x64 (Int.toNat x66) (0 : Int))).bind fun y4 =>
              bif !y4 then
                some false
              else
                n_l3 x1 x2 x5 x64 x65 (IntKind.i64.wrap (x66 + (1 : Int)))
    else none
  else
    bif (decide (((List.length x5.2.2.2.1) : Int) ≥ (1 : Int))) then
      some (decide (((List.length x5.2.2.2.1) : Int) ≤ (8 : Int)))
    else
      some false
theorem r7_links.q_l3 (c113 : r7_RangeOk.E) (c114 : r7_callable.E) (c115 : r7_isClass.E) (c116 : r7_Open.E) (c117 : sl_Contains_int.E) (c118 : r7_exceptionOk.E) (c47 : r7_Obj.E) (c88 : r7_IsObject.E) (n_l3 : (Int) → (List X_Object) → X_Object → (List (Int)) → (Int) → (Int) → Option (Bool)) (x1 : Int) (x2 : List X_Object) (x5 : X_Object) (x64 : List (Int)) (x65 : Int) (x66 : Int) : r7_links.b_l3 c113 c114 c115 c116 c117 c118 c47 c88 n_l3 x1 x2 x5 x64 x65 x66 = r7_links.c_l3 c113 c114 c115 c116 c117 c118 c47 c88 n_l3 x1 x2 x5 x64 x65 x66 := by
  simp only [r7_links.b_l3, r7_links.c_l3, List.take_length, take_one, Nat.zero_add, Int.toNat_natCast, Int.toNat_zero, List.drop_zero, List.append_eq, Nat.le_refl, Int.le_refl, true_and, and_true, zero_le_one, if_true, prod_eta, Int.natCast_zero]
def r7_links.c_g25 (c113 : r7_RangeOk.E) (c114 : r7_callable.E) (c115 : r7_isClass.E) (c116 : r7_Open.E) (c117 : sl_Contains_int.E) (c118 : r7_exceptionOk.E) (c47 : r7_Obj.E) (c88 : r7_IsObject.E)  (x1 : Int) (x2 : List X_Object) (x5 : X_Object) : Option (Bool) :=
  (c115 (x2, x5.2.2.1)).bind fun y5 =>
    bif y5 then
      (c116 x5.2.2.1).bind fun y6 =>
        bif y6 then
          if 0 ≤ x5.2.2.1 ∧ x5.2.2.1 < ((List.length x2) : Int) then
            (c117 ((((((List.getD x2 (Int.toNat x5.2.2.1) Z_Object).2).2).2).2).1, (28 : Int))).bind fun y7 =>
              bif !y7 then
                some true
              else
                (c118 (x2, x1)).bind fun y8 =>
                  some y8
          else none
        else
          some false
    else
      some false
theorem r7_links.q_g25 (c113 : r7_RangeOk.E) (c114 : r7_callable.E) (c115 : r7_isClass.E) (c116 : r7_Open.E) (c117 : sl_Contains_int.E) (c118 : r7_exceptionOk.E) (c47 : r7_Obj.E) (c88 : r7_IsObject.E)  (x1 : Int) (x2 : List X_Object) (x5 : X_Object) : r7_links.b_g25 c113 c114 c115 c116 c117 c118 c47 c88 x1 x2 x5 = r7_links.c_g25 c113 c114 c115 c116 c117 c118 c47 c88 x1 x2 x5 := by
  simp only [r7_links.b_g25, r7_links.c_g25, List.take_length, take_one, Nat.zero_add, Int.toNat_natCast, Int.toNat_zero, List.drop_zero, List.append_eq, Nat.le_refl, Int.le_refl, true_and, and_true, zero_le_one, if_true, prod_eta, Int.natCast_zero]
def r7_links.c_g27 (c113 : r7_RangeOk.E) (c114 : r7_callable.E) (c115 : r7_isClass.E) (c116 : r7_Open.E) (c117 : sl_Contains_int.E) (c118 : r7_exceptionOk.E) (c47 : r7_Obj.E) (c88 : r7_IsObject.E) (r_g35 : (List X_Object) → X_Value → (Int) → Option (Bool)) (x2 : List X_Object) (x5 : X_Object) : Option (Bool) :=
  if (0 : Int) < ((List.length x5.2.2.2.2.2.2.1) : Int) then
    if (1 : Int) < ((List.length x5.2.2.2.2.2.2.1) : Int) then
      (c47 (x2, (List.getD x5.2.2.2.2.2.2.1 (Int.toNat (1 : Int)) Z_Value))).bind fun y9 =>
        bif (y9.1 == (10 : Int)) then
          r_g35 x2 (List.getD x5.2.2.2.2.2.2.1 0 Z_Value) y9.2.2.1
        else
          bif (y9.1 == (9 : Int)) then
            r_g35 x2 (List.getD x5.2.2.2.2.2.2.1 0 Z_Value) (((((List.getD x5.2.2.2.2.2.2.1 (Int.toNat (1 : Int)) Z_Value).2).2).2).2)
          else
            some false
    else none
  else none
theorem r7_links.q_g27 (c113 : r7_RangeOk.E) (c114 : r7_callable.E) (c115 : r7_isClass.E) (c116 : r7_Open.E) (c117 : sl_Contains_int.E) (c118 : r7_exceptionOk.E) (c47 : r7_Obj.E) (c88 : r7_IsObject.E) (r_g35 : (List X_Object) → X_Value → (Int) → Option (Bool)) (x2 : List X_Object) (x5 : X_Object) : r7_links.b_g27 c113 c114 c115 c116 c117 c118 c47 c88 r_g35 x2 x5 = r7_links.c_g27 c113 c114 c115 c116 c117 c118 c47 c88 r_g35 x2 x5 := by
  simp only [r7_links.b_g27, r7_links.c_g27, List.take_length, take_one, Nat.zero_add, Int.toNat_natCast, Int.toNat_zero, List.drop_zero, List.append_eq, Nat.le_refl, Int.le_refl, true_and, and_true, zero_le_one, if_true, prod_eta, Int.natCast_zero]
def r7_links.c_g35 (c113 : r7_RangeOk.E) (c114 : r7_callable.E) (c115 : r7_isClass.E) (c116 : r7_Open.E) (c117 : sl_Contains_int.E) (c118 : r7_exceptionOk.E) (c47 : r7_Obj.E) (c88 : r7_IsObject.E)  (x2 : List X_Object) (x10 : X_Value) (x12 : Int) : Option (Bool) :=
  (c47 (x2, x10)).bind fun y10 =>
    bif (y10.1 == (9 : Int)) then
      (c88 (x2, x12)).bind fun y11 =>
        bif y11 then
          if 0 ≤ x12 ∧ x12 < ((List.length x2) : Int) then
            (c117 ((((((List.getD x2 (Int.toNat x12) Z_Object).2).2).2).2).1, x10.2.2.2.2)).bind fun y12 =>
              some y12
          else none
        else
          some false
    else
      some false
theorem r7_links.q_g35 (c113 : r7_RangeOk.E) (c114 : r7_callable.E) (c115 : r7_isClass.E) (c116 : r7_Open.E) (c117 : sl_Contains_int.E) (c118 : r7_exceptionOk.E) (c47 : r7_Obj.E) (c88 : r7_IsObject.E)  (x2 : List X_Object) (x10 : X_Value) (x12 : Int) : r7_links.b_g35 c113 c114 c115 c116 c117 c118 c47 c88 x2 x10 x12 = r7_links.c_g35 c113 c114 c115 c116 c117 c118 c47 c88 x2 x10 x12 := by
  simp only [r7_links.b_g35, r7_links.c_g35, List.take_length, take_one, Nat.zero_add, Int.toNat_natCast, Int.toNat_zero, List.drop_zero, List.append_eq, Nat.le_refl, Int.le_refl, true_and, and_true, zero_le_one, if_true, prod_eta, Int.natCast_zero]
def r7_links.c_g37 (c113 : r7_RangeOk.E) (c114 : r7_callable.E) (c115 : r7_isClass.E) (c116 : r7_Open.E) (c117 : sl_Contains_int.E) (c118 : r7_exceptionOk.E) (c47 : r7_Obj.E) (c88 : r7_IsObject.E) (r_g42 : X_Object → Option (Bool)) (r_g44 : X_Object → Option (Bool)) (r_g39 : X_Object → X_Object → Option (Bool)) (x2 : List X_Object) (x5 : X_Object) : Option (Bool) :=
  if (0 : Int) < ((List.length x5.2.2.2.2.2.2.1) : Int) then
    (c47 (x2, (List.getD x5.2.2.2.2.2.2.1 0 Z_Value))).bind fun y13 =>
      bif (y13.1 == (3 : Int)) then
        bif (y13.1 == (3 : Int)) then
          r_g42 x5
        else
          bif (y13.1 == (0 : Int)) then
            r_g44 x5
          else
            r_g39 x5 y13
      else
        bif (y13.1 == (4 : Int)) then
          r_g42 x5
        else
          bif (y13.1 == (0 : Int)) then
            r_g44 x5
          else
            r_g39 x5 y13
  else none
theorem r7_links.q_g37 (c113 : r7_RangeOk.E) (c114 : r7_callable.E) (c115 : r7_isClass.E) (c116 : r7_Open.E) (c117 : sl_Contains_int.E) (c118 : r7_exceptionOk.E) (c47 : r7_Obj.E) (c88 : r7_IsObject.E) (r_g42 : X_Object → Option (Bool)) (r_g44 : X_Object → Option (Bool)) (r_g39 : X_Object → X_Object → Option (Bool)) (x2 : List X_Object) (x5 : X_Object) : r7_links.b_g37 c113 c114 c115 c116 c117 c118 c47 c88 r_g42 r_g44 r_g39 x2 x5 = r7_links.c_g37 c113 c114 c115 c116 c117 c118 c47 c88 r_g42 r_g44 r_g39 x2 x5 := by
  simp only [r7_links.b_g37, r7_links.c_g37, List.take_length, take_one, Nat.zero_add, Int.toNat_natCast, Int.toNat_zero, List.drop_zero, List.append_eq, Nat.le_refl, Int.le_refl, true_and, and_true, zero_le_one, if_true, prod_eta, Int.natCast_zero]
def r7_links.c_g42 (c113 : r7_RangeOk.E) (c114 : r7_callable.E) (c115 : r7_isClass.E) (c116 : r7_Open.E) (c117 : sl_Contains_int.E) (c118 : r7_exceptionOk.E) (c47 : r7_Obj.E) (c88 : r7_IsObject.E)  (x5 : X_Object) : Option (Bool) :=
  if (1 : Int) < ((List.length x5.2.2.2.2.2.2.1) : Int) then
    bif (((List.getD x5.2.2.2.2.2.2.1 (Int.toNat (1 : Int)) Z_Value).1) == (2 : Int)) then
      if (1 : Int) < ((List.length x5.2.2.2.2.2.2.1) : Int) then
        some (! ((((List.getD x5.2.2.2.2.2.2.1 (Int.toNat (1 : Int)) Z_Value).2).1).1))
      else none
    else
      some false
  else none
theorem r7_links.q_g42 (c113 : r7_RangeOk.E) (c114 : r7_callable.E) (c115 : r7_isClass.E) (c116 : r7_Open.E) (c117 : sl_Contains_int.E) (c118 : r7_exceptionOk.E) (c47 : r7_Obj.E) (c88 : r7_IsObject.E)  (x5 : X_Object) : r7_links.b_g42 c113 c114 c115 c116 c117 c118 c47 c88 x5 = r7_links.c_g42 c113 c114 c115 c116 c117 c118 c47 c88 x5 := by
  simp only [r7_links.b_g42, r7_links.c_g42, List.take_length, take_one, Nat.zero_add, Int.toNat_natCast, Int.toNat_zero, List.drop_zero, List.append_eq, Nat.le_refl, Int.le_refl, true_and, and_true, zero_le_one, if_true, prod_eta, Int.natCast_zero]
def r7_links.c_g44 (c113 : r7_RangeOk.E) (c114 : r7_callable.E) (c115 : r7_isClass.E) (c116 : r7_Open.E) (c117 : sl_Contains_int.E) (c118 : r7_exceptionOk.E) (c47 : r7_Obj.E) (c88 : r7_IsObject.E)  (x5 : X_Object) : Option (Bool) :=
  if (0 : Int) < ((List.length x5.2.2.2.2.2.2.1) : Int) then
    bif (((List.getD x5.2.2.2.2.2.2.1 0 Z_Value).1) == (4 : Int)) then
      if (1 : Int) < ((List.length x5.2.2.2.2.2.2.1) : Int) then
        some (((List.getD x5.2.2.2.2.2.2.1 (Int.toNat (1 : Int)) Z_Value).1) == (0 : Int))
      else none
    else
      if (0 : Int) < ((List.length x5.2.2.2.2.2.2.1) : Int) then
        bif (((List.getD x5.2.2.2.2.2.2.1 0 Z_Value).1) == (5 : Int)) then
          if (1 : Int) < ((List.length x5.2.2.2.2.2.2.1) : Int) then
            some (((List.getD x5.2.2.2.2.2.2.1 (Int.toNat (1 : Int)) Z_Value).1) == (0 : Int))
          else none
        else
          some false
      else none
  else none
theorem r7_links.q_g44 (c113 : r7_RangeOk.E) (c114 : r7_callable.E) (c115 : r7_isClass.E) (c116 : r7_Open.E) (c117 : sl_Contains_int.E) (c118 : r7_exceptionOk.E) (c47 : r7_Obj.E) (c88 : r7_IsObject.E)  (x5 : X_Object) : r7_links.b_g44 c113 c114 c115 c116 c117 c118 c47 c88 x5 = r7_links.c_g44 c113 c114 c115 c116 c117 c118 c47 c88 x5 := by
  simp only [r7_links.b_g44, r7_links.c_g44, List.take_length, take_one, Nat.zero_add, Int.toNat_natCast, Int.toNat_zero, List.drop_zero, List.append_eq, Nat.le_refl, Int.le_refl, true_and, and_true, zero_le_one, if_true, prod_eta, Int.natCast_zero]
def r7_links.c_g39 (c113 : r7_RangeOk.E) (c114 : r7_callable.E) (c115 : r7_isClass.E) (c116 : r7_Open.E) (c117 : sl_Contains_int.E) (c118 : r7_exceptionOk.E) (c47 : r7_Obj.E) (c88 : r7_IsObject.E)  (x5 : X_Object) (x14 : X_Object) : Option (Bool) :=
  bif (x14.1 == (1 : Int)) then
    if (1 : Int) < ((List.length x5.2.2.2.2.2.2.1) : Int) then
      some (((List.getD x5.2.2.2.2.2.2.1 (Int.toNat (1 : Int)) Z_Value).1) == (0 : Int))
    else none
  else
    bif (x14.1 == (2 : Int)) then
      if (1 : Int) < ((List.length x5.2.2.2.2.2.2.1) : Int) then
        some (((List.getD x5.2.2.2.2.2.2.1 (Int.toNat (1 : Int)) Z_Value).1) == (0 : Int))
      else none
    else
      bif (x14.1 == (5 : Int)) then
        if (1 : Int) < ((List.length x5.2.2.2.2.2.2.1) : Int) then
          some (((List.getD x5.2.2.2.2.2.2.1 (Int.toNat (1 : Int)) Z_Value).1) == (0 : Int))
        else none
      else
        some false
theorem r7_links.q_g39 (c113 : r7_RangeOk.E) (c114 : r7_callable.E) (c115 : r7_isClass.E) (c116 : r7_Open.E) (c117 : sl_Contains_int.E) (c118 : r7_exceptionOk.E) (c47 : r7_Obj.E) (c88 : r7_IsObject.E)  (x5 : X_Object) (x14 : X_Object) : r7_links.b_g39 c113 c114 c115 c116 c117 c118 c47 c88 x5 x14 = r7_links.c_g39 c113 c114 c115 c116 c117 c118 c47 c88 x5 x14 := by
  simp only [r7_links.b_g39, r7_links.c_g39, List.take_length, take_one, Nat.zero_add, Int.toNat_natCast, Int.toNat_zero, List.drop_zero, List.append_eq, Nat.le_refl, Int.le_refl, true_and, and_true, zero_le_one, if_true, prod_eta, Int.natCast_zero]
def r7_links.c_g47 (c113 : r7_RangeOk.E) (c114 : r7_callable.E) (c115 : r7_isClass.E) (c116 : r7_Open.E) (c117 : sl_Contains_int.E) (c118 : r7_exceptionOk.E) (c47 : r7_Obj.E) (c88 : r7_IsObject.E)  (x2 : List X_Object) (x5 : X_Object) : Option (Bool) :=
  if 0 ≤ (IntKind.i64.wrap (x5.2.2.2.2.2.2.2.2.2 - (1 : Int))) ∧ (IntKind.i64.wrap (x5.2.2.2.2.2.2.2.2.2 - (1 : Int))) < ((List.length x2) : Int) then
    bif (((List.getD x2 (Int.toNat (IntKind.i64.wrap (x5.2.2.2.2.2.2.2.2.2 - (1 : Int)))) Z_Object).1) == (10 : Int)) then
      some (decide (((((List.getD x2 (Int.toNat (IntKind.i64.wrap (x5.2.2.2.2.2.2.2.2.2 - (1 : Int)))) Z_Object).2).2).1) ≥ (49 : Int)))
    else
      some false
  else none
theorem r7_links.q_g47 (c113 : r7_RangeOk.E) (c114 : r7_callable.E) (c115 : r7_isClass.E) (c116 : r7_Open.E) (c117 : sl_Contains_int.E) (c118 : r7_exceptionOk.E) (c47 : r7_Obj.E) (c88 : r7_IsObject.E)  (x2 : List X_Object) (x5 : X_Object) : r7_links.b_g47 c113 c114 c115 c116 c117 c118 c47 c88 x2 x5 = r7_links.c_g47 c113 c114 c115 c116 c117 c118 c47 c88 x2 x5 := by
  simp only [r7_links.b_g47, r7_links.c_g47, List.take_length, take_one, Nat.zero_add, Int.toNat_natCast, Int.toNat_zero, List.drop_zero, List.append_eq, Nat.le_refl, Int.le_refl, true_and, and_true, zero_le_one, if_true, prod_eta, Int.natCast_zero]
def r7_links.c_g50 (c113 : r7_RangeOk.E) (c114 : r7_callable.E) (c115 : r7_isClass.E) (c116 : r7_Open.E) (c117 : sl_Contains_int.E) (c118 : r7_exceptionOk.E) (c47 : r7_Obj.E) (c88 : r7_IsObject.E)  (x2 : List X_Object) (x5 : X_Object) : Option (Bool) :=
  if (0 : Int) < ((List.length x5.2.2.2.2.2.2.1) : Int) then
    (c47 (x2, (List.getD x5.2.2.2.2.2.2.1 0 Z_Value))).bind fun y14 =>
      some (y14.1 == (17 : Int))
  else none
theorem r7_links.q_g50 (c113 : r7_RangeOk.E) (c114 : r7_callable.E) (c115 : r7_isClass.E) (c116 : r7_Open.E) (c117 : sl_Contains_int.E) (c118 : r7_exceptionOk.E) (c47 : r7_Obj.E) (c88 : r7_IsObject.E)  (x2 : List X_Object) (x5 : X_Object) : r7_links.b_g50 c113 c114 c115 c116 c117 c118 c47 c88 x2 x5 = r7_links.c_g50 c113 c114 c115 c116 c117 c118 c47 c88 x2 x5 := by
  simp only [r7_links.b_g50, r7_links.c_g50, List.take_length, take_one, Nat.zero_add, Int.toNat_natCast, Int.toNat_zero, List.drop_zero, List.append_eq, Nat.le_refl, Int.le_refl, true_and, and_true, zero_le_one, if_true, prod_eta, Int.natCast_zero]
def r7_links.c_g52 (c113 : r7_RangeOk.E) (c114 : r7_callable.E) (c115 : r7_isClass.E) (c116 : r7_Open.E) (c117 : sl_Contains_int.E) (c118 : r7_exceptionOk.E) (c47 : r7_Obj.E) (c88 : r7_IsObject.E)  (x5 : X_Object) : Option (Bool) :=
  if (0 : Int) < ((List.length x5.2.2.2.2.2.2.1) : Int) then
    bif (((List.getD x5.2.2.2.2.2.2.1 0 Z_Value).1) == (2 : Int)) then
      if (0 : Int) < ((List.length x5.2.2.2.2.2.2.1) : Int) then
        some (! ((((List.getD x5.2.2.2.2.2.2.1 0 Z_Value).2).1).1))
      else none
    else
      some false
  else none
theorem r7_links.q_g52 (c113 : r7_RangeOk.E) (c114 : r7_callable.E) (c115 : r7_isClass.E) (c116 : r7_Open.E) (c117 : sl_Contains_int.E) (c118 : r7_exceptionOk.E) (c47 : r7_Obj.E) (c88 : r7_IsObject.E)  (x5 : X_Object) : r7_links.b_g52 c113 c114 c115 c116 c117 c118 c47 c88 x5 = r7_links.c_g52 c113 c114 c115 c116 c117 c118 c47 c88 x5 := by
  simp only [r7_links.b_g52, r7_links.c_g52, List.take_length, take_one, Nat.zero_add, Int.toNat_natCast, Int.toNat_zero, List.drop_zero, List.append_eq, Nat.le_refl, Int.le_refl, true_and, and_true, zero_le_one, if_true, prod_eta, Int.natCast_zero]
def r7_links.l1 (c113 : r7_RangeOk.E) (c114 : r7_callable.E) (c115 : r7_isClass.E) (c116 : r7_Open.E) (c117 : sl_Contains_int.E) (c118 : r7_exceptionOk.E) (c47 : r7_Obj.E) (c88 : r7_IsObject.E) (k : Nat)  : Nat → (List X_Object) → X_Object → (List (Int)) → (Int) → (Int) → Option (Bool)
  | 0, _, _, _, _, _ => none
  | n + 1, x2, x5, x30, x31, x32 => r7_links.b_l1 c113 c114 c115 c116 c117 c118 c47 c88 (fun x2 x5 x30 x31 x32 => r7_links.l1 c113 c114 c115 c116 c117 c118 c47 c88 k  n x2 x5 x30 x31 x32) x2 x5 x30 x31 x32
def r7_links.g15 (c113 : r7_RangeOk.E) (c114 : r7_callable.E) (c115 : r7_isClass.E) (c116 : r7_Open.E) (c117 : sl_Contains_int.E) (c118 : r7_exceptionOk.E) (c47 : r7_Obj.E) (c88 : r7_IsObject.E) (k : Nat)  (x2 : List X_Object) (x5 : X_Object) : Option (Bool) := gate k (r7_links.b_g15 c113 c114 c115 c116 c117 c118 c47 c88  x2 x5)
def r7_links.l3 (c113 : r7_RangeOk.E) (c114 : r7_callable.E) (c115 : r7_isClass.E) (c116 : r7_Open.E) (c117 : sl_Contains_int.E) (c118 : r7_exceptionOk.E) (c47 : r7_Obj.E) (c88 : r7_IsObject.E) (k : Nat)  : Nat → (Int) → (List X_Object) → X_Object → (List (Int)) → (Int) → (Int) → Option (Bool)
  | 0, _, _, _, _, _, _ => none
  | n + 1, x1, x2, x5, x64, x65, x66 => r7_links.b_l3 c113 c114 c115 c116 c117 c118 c47 c88 (fun x1 x2 x5 x64 x65 x66 => r7_links.l3 c113 c114 c115 c116 c117 c118 c47 c88 k  n x1 x2 x5 x64 x65 x66) x1 x2 x5 x64 x65 x66
def r7_links.g25 (c113 : r7_RangeOk.E) (c114 : r7_callable.E) (c115 : r7_isClass.E) (c116 : r7_Open.E) (c117 : sl_Contains_int.E) (c118 : r7_exceptionOk.E) (c47 : r7_Obj.E) (c88 : r7_IsObject.E) (k : Nat)  (x1 : Int) (x2 : List X_Object) (x5 : X_Object) : Option (Bool) := gate k (r7_links.b_g25 c113 c114 c115 c116 c117 c118 c47 c88  x1 x2 x5)
def r7_links.g35 (c113 : r7_RangeOk.E) (c114 : r7_callable.E) (c115 : r7_isClass.E) (c116 : r7_Open.E) (c117 : sl_Contains_int.E) (c118 : r7_exceptionOk.E) (c47 : r7_Obj.E) (c88 : r7_IsObject.E) (k : Nat)  (x2 : List X_Object) (x10 : X_Value) (x12 : Int) : Option (Bool) := gate k (r7_links.b_g35 c113 c114 c115 c116 c117 c118 c47 c88  x2 x10 x12)
def r7_links.g27 (c113 : r7_RangeOk.E) (c114 : r7_callable.E) (c115 : r7_isClass.E) (c116 : r7_Open.E) (c117 : sl_Contains_int.E) (c118 : r7_exceptionOk.E) (c47 : r7_Obj.E) (c88 : r7_IsObject.E) (k : Nat)  (x2 : List X_Object) (x5 : X_Object) : Option (Bool) := gate k (r7_links.b_g27 c113 c114 c115 c116 c117 c118 c47 c88 (r7_links.g35 c113 c114 c115 c116 c117 c118 c47 c88 k ) x2 x5)
def r7_links.g42 (c113 : r7_RangeOk.E) (c114 : r7_callable.E) (c115 : r7_isClass.E) (c116 : r7_Open.E) (c117 : sl_Contains_int.E) (c118 : r7_exceptionOk.E) (c47 : r7_Obj.E) (c88 : r7_IsObject.E) (k : Nat)  (x5 : X_Object) : Option (Bool) := gate k (r7_links.b_g42 c113 c114 c115 c116 c117 c118 c47 c88  x5)
def r7_links.g44 (c113 : r7_RangeOk.E) (c114 : r7_callable.E) (c115 : r7_isClass.E) (c116 : r7_Open.E) (c117 : sl_Contains_int.E) (c118 : r7_exceptionOk.E) (c47 : r7_Obj.E) (c88 : r7_IsObject.E) (k : Nat)  (x5 : X_Object) : Option (Bool) := gate k (r7_links.b_g44 c113 c114 c115 c116 c117 c118 c47 c88  x5)
def r7_links.g39 (c113 : r7_RangeOk.E) (c114 : r7_callable.E) (c115 : r7_isClass.E) (c116 : r7_Open.E) (c117 : sl_Contains_int.E) (c118 : r7_exceptionOk.E) (c47 : r7_Obj.E) (c88 : r7_IsObject.E) (k : Nat)  (x5 : X_Object) (x14 : X_Object) : Option (Bool) := gate k (r7_links.b_g39 c113 c114 c115 c116 c117 c118 c47 c88  x5 x14)
def r7_links.g37 (c113 : r7_RangeOk.E) (c114 : r7_callable.E) (c115 : r7_isClass.E) (c116 : r7_Open.E) (c117 : sl_Contains_int.E) (c118 : r7_exceptionOk.E) (c47 : r7_Obj.E) (c88 : r7_IsObject.E) (k : Nat)  (x2 : List X_Object) (x5 : X_Object) : Option (Bool) := gate k (r7_links.b_g37 c113 c114 c115 c116 c117 c118 c47 c88 (r7_links.g42 c113 c114 c115 c116 c117 c118 c47 c88 k ) (r7_links.g44 c113 c114 c115 c116 c117 c118 c47 c88 k ) (r7_links.g39 c113 c114 c115 c116 c117 c118 c47 c88 k ) x2 x5)
def r7_links.g47 (c113 : r7_RangeOk.E) (c114 : r7_callable.E) (c115 : r7_isClass.E) (c116 : r7_Open.E) (c117 : sl_Contains_int.E) (c118 : r7_exceptionOk.E) (c47 : r7_Obj.E) (c88 : r7_IsObject.E) (k : Nat)  (x2 : List X_Object) (x5 : X_Object) : Option (Bool) := gate k (r7_links.b_g47 c113 c114 c115 c116 c117 c118 c47 c88  x2 x5)
def r7_links.g50 (c113 : r7_RangeOk.E) (c114 : r7_callable.E) (c115 : r7_isClass.E) (c116 : r7_Open.E) (c117 : sl_Contains_int.E) (c118 : r7_exceptionOk.E) (c47 : r7_Obj.E) (c88 : r7_IsObject.E) (k : Nat)  (x2 : List X_Object) (x5 : X_Object) : Option (Bool) := gate k (r7_links.b_g50 c113 c114 c115 c116 c117 c118 c47 c88  x2 x5)
def r7_links.g52 (c113 : r7_RangeOk.E) (c114 : r7_callable.E) (c115 : r7_isClass.E) (c116 : r7_Open.E) (c117 : sl_Contains_int.E) (c118 : r7_exceptionOk.E) (c47 : r7_Obj.E) (c88 : r7_IsObject.E) (k : Nat)  (x5 : X_Object) : Option (Bool) := gate k (r7_links.b_g52 c113 c114 c115 c116 c117 c118 c47 c88  x5)
def r7_links.f (c113 : r7_RangeOk.E) (c114 : r7_callable.E) (c115 : r7_isClass.E) (c116 : r7_Open.E) (c117 : sl_Contains_int.E) (c118 : r7_exceptionOk.E) (c47 : r7_Obj.E) (c88 : r7_IsObject.E) (k : Nat) (a0 : List X_Object) (a1 : Int) : Option (Bool) := r7_links.b c113 c114 c115 c116 c117 c118 c47 c88 (r7_links.l1 c113 c114 c115 c116 c117 c118 c47 c88 k k) (r7_links.g15 c113 c114 c115 c116 c117 c118 c47 c88 k) (r7_links.l3 c113 c114 c115 c116 c117 c118 c47 c88 k k) (r7_links.g25 c113 c114 c115 c116 c117 c118 c47 c88 k) (r7_links.g27 c113 c114 c115 c116 c117 c118 c47 c88 k) (r7_links.g37 c113 c114 c115 c116 c117 c118 c47 c88 k) (r7_links.g47 c113 c114 c115 c116 c117 c118 c47 c88 k) (r7_links.g50 c113 c114 c115 c116 c117 c118 c47 c88 k) (r7_links.g52 c113 c114 c115 c116 c117 c118 c47 c88 k) a0 a1
noncomputable def r7_links.M_l1 (c113 : r7_RangeOk.E) (c114 : r7_callable.E) (c115 : r7_isClass.E) (c116 : r7_Open.E) (c117 : sl_Contains_int.E) (c118 : r7_exceptionOk.E) (c47 : r7_Obj.E) (c88 : r7_IsObject.E) (k n : Nat)  (s : St) : Option (Bool) := atLoop (r7_links.C c113 c114 c115 c116 c117 c118 c47 c88) k n [1, 1, 0, 1, 0, 1, 1, 1, 0, 0, 1, 0] [] r7_links.code (r7_links.fin c113 c114 c115 c116 c117 c118 c47 c88) s
noncomputable def r7_links.fr_l1 (x2 : List X_Object) (x5 : X_Object) (x30 : List (Int)) (x31 : Int) (x32 : Int) : St := ⟨((((((List.replicate 286 V.un).set 2 (V.bp 600002 0 [])).set 5 (V.bp 600005 0 [])).set 30 (V.dat (.sl 3 (.int .i64)) x30)).set 31 (V.dat (.int .i64) x31)).set 32 (V.dat (.int .i64) x32)), [⟨600005, 0, .box (V.dat Y_Object x5)⟩, ⟨600002, 0, .box (V.dat Y_Heap x2)⟩]⟩
noncomputable def r7_links.M_g15 (c113 : r7_RangeOk.E) (c114 : r7_callable.E) (c115 : r7_isClass.E) (c116 : r7_Open.E) (c117 : sl_Contains_int.E) (c118 : r7_exceptionOk.E) (c47 : r7_Obj.E) (c88 : r7_IsObject.E) (k : Nat)  (s : St) : Option (Bool) := atGate (r7_links.C c113 c114 c115 c116 c117 c118 c47 c88) k [1, 1, 0, 1, 0, 1, 1, 1, 1, 1, 0, 0] [] r7_links.code (r7_links.fin c113 c114 c115 c116 c117 c118 c47 c88) s
noncomputable def r7_links.fr_g15 (x2 : List X_Object) (x5 : X_Object) : St := ⟨(((List.replicate 286 V.un).set 2 (V.bp 600002 0 [])).set 5 (V.bp 600005 0 [])), [⟨600005, 0, .box (V.dat Y_Object x5)⟩, ⟨600002, 0, .box (V.dat Y_Heap x2)⟩]⟩
noncomputable def r7_links.M_l3 (c113 : r7_RangeOk.E) (c114 : r7_callable.E) (c115 : r7_isClass.E) (c116 : r7_Open.E) (c117 : sl_Contains_int.E) (c118 : r7_exceptionOk.E) (c47 : r7_Obj.E) (c88 : r7_IsObject.E) (k n : Nat)  (s : St) : Option (Bool) := atLoop (r7_links.C c113 c114 c115 c116 c117 c118 c47 c88) k n [1, 1, 0, 1, 0, 1, 1, 1, 1, 1, 1, 1, 0, 0, 1, 0] [] r7_links.code (r7_links.fin c113 c114 c115 c116 c117 c118 c47 c88) s
noncomputable def r7_links.fr_l3 (x1 : Int) (x2 : List X_Object) (x5 : X_Object) (x64 : List (Int)) (x65 : Int) (x66 : Int) : St := ⟨(((((((List.replicate 286 V.un).set 1 (V.dat (.int .i64) x1)).set 2 (V.bp 600002 0 [])).set 5 (V.bp 600005 0 [])).set 64 (V.dat (.sl 3 (.int .i64)) x64)).set 65 (V.dat (.int .i64) x65)).set 66 (V.dat (.int .i64) x66)), [⟨600005, 0, .box (V.dat Y_Object x5)⟩, ⟨600002, 0, .box (V.dat Y_Heap x2)⟩]⟩
noncomputable def r7_links.M_g25 (c113 : r7_RangeOk.E) (c114 : r7_callable.E) (c115 : r7_isClass.E) (c116 : r7_Open.E) (c117 : sl_Contains_int.E) (c118 : r7_exceptionOk.E) (c47 : r7_Obj.E) (c88 : r7_IsObject.E) (k : Nat)  (s : St) : Option (Bool) := atGate (r7_links.C c113 c114 c115 c116 c117 c118 c47 c88) k [1, 1, 0, 1, 0, 1, 1, 1, 1, 1, 1, 1, 1, 1, 0, 0] [] r7_links.code (r7_links.fin c113 c114 c115 c116 c117 c118 c47 c88) s
noncomputable def r7_links.fr_g25 (x1 : Int) (x2 : List X_Object) (x5 : X_Object) : St := ⟨((((List.replicate 286 V.un).set 1 (V.dat (.int .i64) x1)).set 2 (V.bp 600002 0 [])).set 5 (V.bp 600005 0 [])), [⟨600005, 0, .box (V.dat Y_Object x5)⟩, ⟨600002, 0, .box (V.dat Y_Heap x2)⟩]⟩
noncomputable def r7_links.M_g27 (c113 : r7_RangeOk.E) (c114 : r7_callable.E) (c115 : r7_isClass.E) (c116 : r7_Open.E) (c117 : sl_Contains_int.E) (c118 : r7_exceptionOk.E) (c47 : r7_Obj.E) (c88 : r7_IsObject.E) (k : Nat)  (s : St) : Option (Bool) := atGate (r7_links.C c113 c114 c115 c116 c117 c118 c47 c88) k [1, 1, 0, 1, 0, 1, 1, 1, 1, 1, 1, 1, 1, 1, 1, 1, 0, 0] [] r7_links.code (r7_links.fin c113 c114 c115 c116 c117 c118 c47 c88) s
noncomputable def r7_links.fr_g27 (x2 : List X_Object) (x5 : X_Object) : St := ⟨(((List.replicate 286 V.un).set 2 (V.bp 600002 0 [])).set 5 (V.bp 600005 0 [])), [⟨600005, 0, .box (V.dat Y_Object x5)⟩, ⟨600002, 0, .box (V.dat Y_Heap x2)⟩]⟩
noncomputable def r7_links.M_g35 (c113 : r7_RangeOk.E) (c114 : r7_callable.E) (c115 : r7_isClass.E) (c116 : r7_Open.E) (c117 : sl_Contains_int.E) (c118 : r7_exceptionOk.E) (c47 : r7_Obj.E) (c88 : r7_IsObject.E) (k : Nat)  (s : St) : Option (Bool) := atGate (r7_links.C c113 c114 c115 c116 c117 c118 c47 c88) k [1, 1, 0, 1, 0, 1, 1, 1, 1, 1, 1, 1, 1, 1, 1, 1, 0, 1, 1, 1, 0] [] r7_links.code (r7_links.fin c113 c114 c115 c116 c117 c118 c47 c88) s
noncomputable def r7_links.fr_g35 (x2 : List X_Object) (x10 : X_Value) (x12 : Int) : St := ⟨((((List.replicate 286 V.un).set 2 (V.bp 600002 0 [])).set 10 (V.bp 600010 0 [])).set 12 (V.dat (.int .i64) x12)), [⟨600010, 0, .box (V.dat Y_Value x10)⟩, ⟨600002, 0, .box (V.dat Y_Heap x2)⟩]⟩
noncomputable def r7_links.M_g37 (c113 : r7_RangeOk.E) (c114 : r7_callable.E) (c115 : r7_isClass.E) (c116 : r7_Open.E) (c117 : sl_Contains_int.E) (c118 : r7_exceptionOk.E) (c47 : r7_Obj.E) (c88 : r7_IsObject.E) (k : Nat)  (s : St) : Option (Bool) := atGate (r7_links.C c113 c114 c115 c116 c117 c118 c47 c88) k [1, 1, 0, 1, 0, 1, 1, 1, 1, 1, 1, 1, 1, 1, 1, 1, 1, 1, 0, 0] [] r7_links.code (r7_links.fin c113 c114 c115 c116 c117 c118 c47 c88) s
noncomputable def r7_links.fr_g37 (x2 : List X_Object) (x5 : X_Object) : St := ⟨(((List.replicate 286 V.un).set 2 (V.bp 600002 0 [])).set 5 (V.bp 600005 0 [])), [⟨600005, 0, .box (V.dat Y_Object x5)⟩, ⟨600002, 0, .box (V.dat Y_Heap x2)⟩]⟩
noncomputable def r7_links.M_g42 (c113 : r7_RangeOk.E) (c114 : r7_callable.E) (c115 : r7_isClass.E) (c116 : r7_Open.E) (c117 : sl_Contains_int.E) (c118 : r7_exceptionOk.E) (c47 : r7_Obj.E) (c88 : r7_IsObject.E) (k : Nat)  (s : St) : Option (Bool) := atGate (r7_links.C c113 c114 c115 c116 c117 c118 c47 c88) k [1, 1, 0, 1, 0, 1, 1, 1, 1, 1, 1, 1, 1, 1, 1, 1, 1, 1, 0, 1, 1, 0, 1, 0, 0] [] r7_links.code (r7_links.fin c113 c114 c115 c116 c117 c118 c47 c88) s
noncomputable def r7_links.fr_g42 (x5 : X_Object) : St := ⟨((List.replicate 286 V.un).set 5 (V.bp 600005 0 [])), [⟨600005, 0, .box (V.dat Y_Object x5)⟩]⟩
noncomputable def r7_links.M_g44 (c113 : r7_RangeOk.E) (c114 : r7_callable.E) (c115 : r7_isClass.E) (c116 : r7_Open.E) (c117 : sl_Contains_int.E) (c118 : r7_exceptionOk.E) (c47 : r7_Obj.E) (c88 : r7_IsObject.E) (k : Nat)  (s : St) : Option (Bool) := atGate (r7_links.C c113 c114 c115 c116 c117 c118 c47 c88) k [1, 1, 0, 1, 0, 1, 1, 1, 1, 1, 1, 1, 1, 1, 1, 1, 1, 1, 0, 1, 1, 0, 1, 1, 1, 0, 0] [] r7_links.code (r7_links.fin c113 c114 c115 c116 c117 c118 c47 c88) s
noncomputable def r7_links.fr_g44 (x5 : X_Object) : St := ⟨((List.replicate 286 V.un).set 5 (V.bp 600005 0 [])), [⟨600005, 0, .box (V.dat Y_Object x5)⟩]⟩
noncomputable def r7_links.M_g39 (c113 : r7_RangeOk.E) (c114 : r7_callable.E) (c115 : r7_isClass.E) (c116 : r7_Open.E) (c117 : sl_Contains_int.E) (c118 : r7_exceptionOk.E) (c47 : r7_Obj.E) (c88 : r7_IsObject.E) (k : Nat)  (s : St) : Option (Bool) := atGate (r7_links.C c113 c114 c115 c116 c117 c118 c47 c88) k [1, 1, 0, 1, 0, 1, 1, 1, 1, 1, 1, 1, 1, 1, 1, 1, 1, 1, 0, 1, 1, 0, 1, 1, 1, 1, 0] [] r7_links.code (r7_links.fin c113 c114 c115 c116 c117 c118 c47 c88) s
noncomputable def r7_links.fr_g39 (x5 : X_Object) (x14 : X_Object) : St := ⟨(((List.replicate 286 V.un).set 5 (V.bp 600005 0 [])).set 14 (V.bp 600014 0 [])), [⟨600014, 0, .box (V.dat Y_Object x14)⟩, ⟨600005, 0, .box (V.dat Y_Object x5)⟩]⟩
noncomputable def r7_links.M_g47 (c113 : r7_RangeOk.E) (c114 : r7_callable.E) (c115 : r7_isClass.E) (c116 : r7_Open.E) (c117 : sl_Contains_int.E) (c118 : r7_exceptionOk.E) (c47 : r7_Obj.E) (c88 : r7_IsObject.E) (k : Nat)  (s : St) : Option (Bool) := atGate (r7_links.C c113 c114 c115 c116 c117 c118 c47 c88) k [1, 1, 0, 1, 0, 1, 1, 1, 1, 1, 1, 1, 1, 1, 1, 1, 1, 1, 1, 1, 0, 1, 0, 0] [] r7_links.code (r7_links.fin c113 c114 c115 c116 c117 c118 c47 c88) s
noncomputable def r7_links.fr_g47 (x2 : List X_Object) (x5 : X_Object) : St := ⟨(((List.replicate 286 V.un).set 2 (V.bp 600002 0 [])).set 5 (V.bp 600005 0 [])), [⟨600005, 0, .box (V.dat Y_Object x5)⟩, ⟨600002, 0, .box (V.dat Y_Heap x2)⟩]⟩
noncomputable def r7_links.M_g50 (c113 : r7_RangeOk.E) (c114 : r7_callable.E) (c115 : r7_isClass.E) (c116 : r7_Open.E) (c117 : sl_Contains_int.E) (c118 : r7_exceptionOk.E) (c47 : r7_Obj.E) (c88 : r7_IsObject.E) (k : Nat)  (s : St) : Option (Bool) := atGate (r7_links.C c113 c114 c115 c116 c117 c118 c47 c88) k [1, 1, 0, 1, 0, 1, 1, 1, 1, 1, 1, 1, 1, 1, 1, 1, 1, 1, 1, 1, 1, 1, 0, 0] [] r7_links.code (r7_links.fin c113 c114 c115 c116 c117 c118 c47 c88) s
noncomputable def r7_links.fr_g50 (x2 : List X_Object) (x5 : X_Object) : St := ⟨(((List.replicate 286 V.un).set 2 (V.bp 600002 0 [])).set 5 (V.bp 600005 0 [])), [⟨600005, 0, .box (V.dat Y_Object x5)⟩, ⟨600002, 0, .box (V.dat Y_Heap x2)⟩]⟩
noncomputable def r7_links.M_g52 (c113 : r7_RangeOk.E) (c114 : r7_callable.E) (c115 : r7_isClass.E) (c116 : r7_Open.E) (c117 : sl_Contains_int.E) (c118 : r7_exceptionOk.E) (c47 : r7_Obj.E) (c88 : r7_IsObject.E) (k : Nat)  (s : St) : Option (Bool) := atGate (r7_links.C c113 c114 c115 c116 c117 c118 c47 c88) k [1, 1, 0, 1, 0, 1, 1, 1, 1, 1, 1, 1, 1, 1, 1, 1, 1, 1, 1, 1, 1, 1, 1, 1, 0, 0] [] r7_links.code (r7_links.fin c113 c114 c115 c116 c117 c118 c47 c88) s
noncomputable def r7_links.fr_g52 (x5 : X_Object) : St := ⟨((List.replicate 286 V.un).set 5 (V.bp 600005 0 [])), [⟨600005, 0, .box (V.dat Y_Object x5)⟩]⟩
theorem r7_links.r (c113 : r7_RangeOk.E) (c114 : r7_callable.E) (c115 : r7_isClass.E) (c116 : r7_Open.E) (c117 : sl_Contains_int.E) (c118 : r7_exceptionOk.E) (c47 : r7_Obj.E) (c88 : r7_IsObject.E) (k : Nat) (a0 : List X_Object) (a1 : Int) : fn (r7_links.C c113 c114 c115 c116 c117 c118 c47 c88) k Tryd.f85 r7_links.A r7_links.R (a0, a1) = r7_links.b c113 c114 c115 c116 c117 c118 c47 c88 (fun x2 x5 x30 x31 x32 => r7_links.M_l1 c113 c114 c115 c116 c117 c118 c47 c88 k k  (r7_links.fr_l1 x2 x5 x30 x31 x32)) (fun x2 x5 => r7_links.M_g15 c113 c114 c115 c116 c117 c118 c47 c88 k   (r7_links.fr_g15 x2 x5)) (fun x1 x2 x5 x64 x65 x66 => r7_links.M_l3 c113 c114 c115 c116 c117 c118 c47 c88 k k  (r7_links.fr_l3 x1 x2 x5 x64 x65 x66)) (fun x1 x2 x5 => r7_links.M_g25 c113 c114 c115 c116 c117 c118 c47 c88 k   (r7_links.fr_g25 x1 x2 x5)) (fun x2 x5 => r7_links.M_g27 c113 c114 c115 c116 c117 c118 c47 c88 k   (r7_links.fr_g27 x2 x5)) (fun x2 x5 => r7_links.M_g37 c113 c114 c115 c116 c117 c118 c47 c88 k   (r7_links.fr_g37 x2 x5)) (fun x2 x5 => r7_links.M_g47 c113 c114 c115 c116 c117 c118 c47 c88 k   (r7_links.fr_g47 x2 x5)) (fun x2 x5 => r7_links.M_g50 c113 c114 c115 c116 c117 c118 c47 c88 k   (r7_links.fr_g50 x2 x5)) (fun x5 => r7_links.M_g52 c113 c114 c115 c116 c117 c118 c47 c88 k   (r7_links.fr_g52 x5)) a0 a1 := by kernel_rfl
theorem r7_links.z_l1 (c113 : r7_RangeOk.E) (c114 : r7_callable.E) (c115 : r7_isClass.E) (c116 : r7_Open.E) (c117 : sl_Contains_int.E) (c118 : r7_exceptionOk.E) (c47 : r7_Obj.E) (c88 : r7_IsObject.E) (k : Nat)  (s : St) : r7_links.M_l1 c113 c114 c115 c116 c117 c118 c47 c88 k 0  s = none := by kernel_rfl
theorem r7_links.r_l1 (c113 : r7_RangeOk.E) (c114 : r7_callable.E) (c115 : r7_isClass.E) (c116 : r7_Open.E) (c117 : sl_Contains_int.E) (c118 : r7_exceptionOk.E) (c47 : r7_Obj.E) (c88 : r7_IsObject.E) (k n : Nat)  (x2 : List X_Object) (x5 : X_Object) (x30 : List (Int)) (x31 : Int) (x32 : Int) : r7_links.M_l1 c113 c114 c115 c116 c117 c118 c47 c88 k (n + 1)  (r7_links.fr_l1 x2 x5 x30 x31 x32) = r7_links.b_l1 c113 c114 c115 c116 c117 c118 c47 c88 (fun x2 x5 x30 x31 x32 => r7_links.M_l1 c113 c114 c115 c116 c117 c118 c47 c88 k n  (r7_links.fr_l1 x2 x5 x30 x31 x32)) x2 x5 x30 x31 x32 := by kernel_rfl
theorem r7_links.r_g15 (c113 : r7_RangeOk.E) (c114 : r7_callable.E) (c115 : r7_isClass.E) (c116 : r7_Open.E) (c117 : sl_Contains_int.E) (c118 : r7_exceptionOk.E) (c47 : r7_Obj.E) (c88 : r7_IsObject.E) (k : Nat)  (x2 : List X_Object) (x5 : X_Object) : r7_links.M_g15 c113 c114 c115 c116 c117 c118 c47 c88 k  (r7_links.fr_g15 x2 x5) = gate k (r7_links.b_g15 c113 c114 c115 c116 c117 c118 c47 c88  x2 x5) := by kernel_rfl
theorem r7_links.z_l3 (c113 : r7_RangeOk.E) (c114 : r7_callable.E) (c115 : r7_isClass.E) (c116 : r7_Open.E) (c117 : sl_Contains_int.E) (c118 : r7_exceptionOk.E) (c47 : r7_Obj.E) (c88 : r7_IsObject.E) (k : Nat)  (s : St) : r7_links.M_l3 c113 c114 c115 c116 c117 c118 c47 c88 k 0  s = none := by kernel_rfl
theorem r7_links.r_l3 (c113 : r7_RangeOk.E) (c114 : r7_callable.E) (c115 : r7_isClass.E) (c116 : r7_Open.E) (c117 : sl_Contains_int.E) (c118 : r7_exceptionOk.E) (c47 : r7_Obj.E) (c88 : r7_IsObject.E) (k n : Nat)  (x1 : Int) (x2 : List X_Object) (x5 : X_Object) (x64 : List (Int)) (x65 : Int) (x66 : Int) : r7_links.M_l3 c113 c114 c115 c116 c117 c118 c47 c88 k (n + 1)  (r7_links.fr_l3 x1 x2 x5 x64 x65 x66) = r7_links.b_l3 c113 c114 c115 c116 c117 c118 c47 c88 (fun x1 x2 x5 x64 x65 x66 => r7_links.M_l3 c113 c114 c115 c116 c117 c118 c47 c88 k n  (r7_links.fr_l3 x1 x2 x5 x64 x65 x66)) x1 x2 x5 x64 x65 x66 := by kernel_rfl
theorem r7_links.r_g25 (c113 : r7_RangeOk.E) (c114 : r7_callable.E) (c115 : r7_isClass.E) (c116 : r7_Open.E) (c117 : sl_Contains_int.E) (c118 : r7_exceptionOk.E) (c47 : r7_Obj.E) (c88 : r7_IsObject.E) (k : Nat)  (x1 : Int) (x2 : List X_Object) (x5 : X_Object) : r7_links.M_g25 c113 c114 c115 c116 c117 c118 c47 c88 k  (r7_links.fr_g25 x1 x2 x5) = gate k (r7_links.b_g25 c113 c114 c115 c116 c117 c118 c47 c88  x1 x2 x5) := by kernel_rfl
theorem r7_links.r_g27 (c113 : r7_RangeOk.E) (c114 : r7_callable.E) (c115 : r7_isClass.E) (c116 : r7_Open.E) (c117 : sl_Contains_int.E) (c118 : r7_exceptionOk.E) (c47 : r7_Obj.E) (c88 : r7_IsObject.E) (k : Nat)  (x2 : List X_Object) (x5 : X_Object) : r7_links.M_g27 c113 c114 c115 c116 c117 c118 c47 c88 k  (r7_links.fr_g27 x2 x5) = gate k (r7_links.b_g27 c113 c114 c115 c116 c117 c118 c47 c88 (fun x2 x10 x12 => r7_links.M_g35 c113 c114 c115 c116 c117 c118 c47 c88 k   (r7_links.fr_g35 x2 x10 x12)) x2 x5) := by kernel_rfl
theorem r7_links.r_g35 (c113 : r7_RangeOk.E) (c114 : r7_callable.E) (c115 : r7_isClass.E) (c116 : r7_Open.E) (c117 : sl_Contains_int.E) (c118 : r7_exceptionOk.E) (c47 : r7_Obj.E) (c88 : r7_IsObject.E) (k : Nat)  (x2 : List X_Object) (x10 : X_Value) (x12 : Int) : r7_links.M_g35 c113 c114 c115 c116 c117 c118 c47 c88 k  (r7_links.fr_g35 x2 x10 x12) = gate k (r7_links.b_g35 c113 c114 c115 c116 c117 c118 c47 c88  x2 x10 x12) := by kernel_rfl
theorem r7_links.r_g37 (c113 : r7_RangeOk.E) (c114 : r7_callable.E) (c115 : r7_isClass.E) (c116 : r7_Open.E) (c117 : sl_Contains_int.E) (c118 : r7_exceptionOk.E) (c47 : r7_Obj.E) (c88 : r7_IsObject.E) (k : Nat)  (x2 : List X_Object) (x5 : X_Object) : r7_links.M_g37 c113 c114 c115 c116 c117 c118 c47 c88 k  (r7_links.fr_g37 x2 x5) = gate k (r7_links.b_g37 c113 c114 c115 c116 c117 c118 c47 c88 (fun x5 => r7_links.M_g42 c113 c114 c115 c116 c117 c118 c47 c88 k   (r7_links.fr_g42 x5)) (fun x5 => r7_links.M_g44 c113 c114 c115 c116 c117 c118 c47 c88 k   (r7_links.fr_g44 x5)) (fun x5 x14 => r7_links.M_g39 c113 c114 c115 c116 c117 c118 c47 c88 k   (r7_links.fr_g39 x5 x14)) x2 x5) := by kernel_rfl
theorem r7_links.r_g42 (c113 : r7_RangeOk.E) (c114 : r7_callable.E) (c115 : r7_isClass.E) (c116 : r7_Open.E) (c117 : sl_Contains_int.E) (c118 : r7_exceptionOk.E) (c47 : r7_Obj.E) (c88 : r7_IsObject.E) (k : Nat)  (x5 : X_Object) : r7_links.M_g42 c113 c114 c115 c116 c117 c118 c47 c88 k  (r7_links.fr_g42 x5) = gate k (r7_links.b_g42 c113 c114 c115 c116 c117 c118 c47 c88  x5) := by kernel_rfl
theorem r7_links.r_g44 (c113 : r7_RangeOk.E) (c114 : r7_callable.E) (c115 : r7_isClass.E) (c116 : r7_Open.E) (c117 : sl_Contains_int.E) (c118 : r7_exceptionOk.E) (c47 : r7_Obj.E) (c88 : r7_IsObject.E) (k : Nat)  (x5 : X_Object) : r7_links.M_g44 c113 c114 c115 c116 c117 c118 c47 c88 k  (r7_links.fr_g44 x5) = gate k (r7_links.b_g44 c113 c114 c115 c116 c117 c118 c47 c88  x5) := by kernel_rfl
theorem r7_links.r_g39 (c113 : r7_RangeOk.E) (c114 : r7_callable.E) (c115 : r7_isClass.E) (c116 : r7_Open.E) (c117 : sl_Contains_int.E) (c118 : r7_exceptionOk.E) (c47 : r7_Obj.E) (c88 : r7_IsObject.E) (k : Nat)  (x5 : X_Object) (x14 : X_Object) : r7_links.M_g39 c113 c114 c115 c116 c117 c118 c47 c88 k  (r7_links.fr_g39 x5 x14) = gate k (r7_links.b_g39 c113 c114 c115 c116 c117 c118 c47 c88  x5 x14) := by kernel_rfl
theorem r7_links.r_g47 (c113 : r7_RangeOk.E) (c114 : r7_callable.E) (c115 : r7_isClass.E) (c116 : r7_Open.E) (c117 : sl_Contains_int.E) (c118 : r7_exceptionOk.E) (c47 : r7_Obj.E) (c88 : r7_IsObject.E) (k : Nat)  (x2 : List X_Object) (x5 : X_Object) : r7_links.M_g47 c113 c114 c115 c116 c117 c118 c47 c88 k  (r7_links.fr_g47 x2 x5) = gate k (r7_links.b_g47 c113 c114 c115 c116 c117 c118 c47 c88  x2 x5) := by kernel_rfl
theorem r7_links.r_g50 (c113 : r7_RangeOk.E) (c114 : r7_callable.E) (c115 : r7_isClass.E) (c116 : r7_Open.E) (c117 : sl_Contains_int.E) (c118 : r7_exceptionOk.E) (c47 : r7_Obj.E) (c88 : r7_IsObject.E) (k : Nat)  (x2 : List X_Object) (x5 : X_Object) : r7_links.M_g50 c113 c114 c115 c116 c117 c118 c47 c88 k  (r7_links.fr_g50 x2 x5) = gate k (r7_links.b_g50 c113 c114 c115 c116 c117 c118 c47 c88  x2 x5) := by kernel_rfl
theorem r7_links.r_g52 (c113 : r7_RangeOk.E) (c114 : r7_callable.E) (c115 : r7_isClass.E) (c116 : r7_Open.E) (c117 : sl_Contains_int.E) (c118 : r7_exceptionOk.E) (c47 : r7_Obj.E) (c88 : r7_IsObject.E) (k : Nat)  (x5 : X_Object) : r7_links.M_g52 c113 c114 c115 c116 c117 c118 c47 c88 k  (r7_links.fr_g52 x5) = gate k (r7_links.b_g52 c113 c114 c115 c116 c117 c118 c47 c88  x5) := by kernel_rfl
theorem r7_links.e_l1 (c113 : r7_RangeOk.E) (c114 : r7_callable.E) (c115 : r7_isClass.E) (c116 : r7_Open.E) (c117 : sl_Contains_int.E) (c118 : r7_exceptionOk.E) (c47 : r7_Obj.E) (c88 : r7_IsObject.E) (k n : Nat)  (x2 : List X_Object) (x5 : X_Object) (x30 : List (Int)) (x31 : Int) (x32 : Int) : r7_links.M_l1 c113 c114 c115 c116 c117 c118 c47 c88 k n  (r7_links.fr_l1 x2 x5 x30 x31 x32) = r7_links.l1 c113 c114 c115 c116 c117 c118 c47 c88 k  n x2 x5 x30 x31 x32 := by
  induction n generalizing x2 x5 x30 x31 x32 with
  | zero => rw [r7_links.z_l1]; rfl
  | succ n ih =>
    rw [r7_links.r_l1]
    simp only [ih]
    rfl
theorem r7_links.e_g15 (c113 : r7_RangeOk.E) (c114 : r7_callable.E) (c115 : r7_isClass.E) (c116 : r7_Open.E) (c117 : sl_Contains_int.E) (c118 : r7_exceptionOk.E) (c47 : r7_Obj.E) (c88 : r7_IsObject.E) (k : Nat)  (x2 : List X_Object) (x5 : X_Object) : r7_links.M_g15 c113 c114 c115 c116 c117 c118 c47 c88 k  (r7_links.fr_g15 x2 x5) = r7_links.g15 c113 c114 c115 c116 c117 c118 c47 c88 k  x2 x5 := by
  rw [r7_links.r_g15]
  rfl
theorem r7_links.e_l3 (c113 : r7_RangeOk.E) (c114 : r7_callable.E) (c115 : r7_isClass.E) (c116 : r7_Open.E) (c117 : sl_Contains_int.E) (c118 : r7_exceptionOk.E) (c47 : r7_Obj.E) (c88 : r7_IsObject.E) (k n : Nat)  (x1 : Int) (x2 : List X_Object) (x5 : X_Object) (x64 : List (Int)) (x65 : Int) (x66 : Int) : r7_links.M_l3 c113 c114 c115 c116 c117 c118 c47 c88 k n  (r7_links.fr_l3 x1 x2 x5 x64 x65 x66) = r7_links.l3 c113 c114 c115 c116 c117 c118 c47 c88 k  n x1 x2 x5 x64 x65 x66 := by
  induction n generalizing x1 x2 x5 x64 x65 x66 with
  | zero => rw [r7_links.z_l3]; rfl
  | succ n ih =>
    rw [r7_links.r_l3]
    simp only [ih]
    rfl
theorem r7_links.e_g25 (c113 : r7_RangeOk.E) (c114 : r7_callable.E) (c115 : r7_isClass.E) (c116 : r7_Open.E) (c117 : sl_Contains_int.E) (c118 : r7_exceptionOk.E) (c47 : r7_Obj.E) (c88 : r7_IsObject.E) (k : Nat)  (x1 : Int) (x2 : List X_Object) (x5 : X_Object) : r7_links.M_g25 c113 c114 c115 c116 c117 c118 c47 c88 k  (r7_links.fr_g25 x1 x2 x5) = r7_links.g25 c113 c114 c115 c116 c117 c118 c47 c88 k  x1 x2 x5 := by
  rw [r7_links.r_g25]
  rfl
theorem r7_links.e_g35 (c113 : r7_RangeOk.E) (c114 : r7_callable.E) (c115 : r7_isClass.E) (c116 : r7_Open.E) (c117 : sl_Contains_int.E) (c118 : r7_exceptionOk.E) (c47 : r7_Obj.E) (c88 : r7_IsObject.E) (k : Nat)  (x2 : List X_Object) (x10 : X_Value) (x12 : Int) : r7_links.M_g35 c113 c114 c115 c116 c117 c118 c47 c88 k  (r7_links.fr_g35 x2 x10 x12) = r7_links.g35 c113 c114 c115 c116 c117 c118 c47 c88 k  x2 x10 x12 := by
  rw [r7_links.r_g35]
  rfl
theorem r7_links.e_g27 (c113 : r7_RangeOk.E) (c114 : r7_callable.E) (c115 : r7_isClass.E) (c116 : r7_Open.E) (c117 : sl_Contains_int.E) (c118 : r7_exceptionOk.E) (c47 : r7_Obj.E) (c88 : r7_IsObject.E) (k : Nat)  (x2 : List X_Object) (x5 : X_Object) : r7_links.M_g27 c113 c114 c115 c116 c117 c118 c47 c88 k  (r7_links.fr_g27 x2 x5) = r7_links.g27 c113 c114 c115 c116 c117 c118 c47 c88 k  x2 x5 := by
  rw [r7_links.r_g27]
  simp only [r7_links.e_g35]
  rfl
theorem r7_links.e_g42 (c113 : r7_RangeOk.E) (c114 : r7_callable.E) (c115 : r7_isClass.E) (c116 : r7_Open.E) (c117 : sl_Contains_int.E) (c118 : r7_exceptionOk.E) (c47 : r7_Obj.E) (c88 : r7_IsObject.E) (k : Nat)  (x5 : X_Object) : r7_links.M_g42 c113 c114 c115 c116 c117 c118 c47 c88 k  (r7_links.fr_g42 x5) = r7_links.g42 c113 c114 c115 c116 c117 c118 c47 c88 k  x5 := by
  rw [r7_links.r_g42]
  rfl
theorem r7_links.e_g44 (c113 : r7_RangeOk.E) (c114 : r7_callable.E) (c115 : r7_isClass.E) (c116 : r7_Open.E) (c117 : sl_Contains_int.E) (c118 : r7_exceptionOk.E) (c47 : r7_Obj.E) (c88 : r7_IsObject.E) (k : Nat)  (x5 : X_Object) : r7_links.M_g44 c113 c114 c115 c116 c117 c118 c47 c88 k  (r7_links.fr_g44 x5) = r7_links.g44 c113 c114 c115 c116 c117 c118 c47 c88 k  x5 := by
  rw [r7_links.r_g44]
  rfl
theorem r7_links.e_g39 (c113 : r7_RangeOk.E) (c114 : r7_callable.E) (c115 : r7_isClass.E) (c116 : r7_Open.E) (c117 : sl_Contains_int.E) (c118 : r7_exceptionOk.E) (c47 : r7_Obj.E) (c88 : r7_IsObject.E) (k : Nat)  (x5 : X_Object) (x14 : X_Object) : r7_links.M_g39 c113 c114 c115 c116 c117 c118 c47 c88 k  (r7_links.fr_g39 x5 x14) = r7_links.g39 c113 c114 c115 c116 c117 c118 c47 c88 k  x5 x14 := by
  rw [r7_links.r_g39]
  rfl
theorem r7_links.e_g37 (c113 : r7_RangeOk.E) (c114 : r7_callable.E) (c115 : r7_isClass.E) (c116 : r7_Open.E) (c117 : sl_Contains_int.E) (c118 : r7_exceptionOk.E) (c47 : r7_Obj.E) (c88 : r7_IsObject.E) (k : Nat)  (x2 : List X_Object) (x5 : X_Object) : r7_links.M_g37 c113 c114 c115 c116 c117 c118 c47 c88 k  (r7_links.fr_g37 x2 x5) = r7_links.g37 c113 c114 c115 c116 c117 c118 c47 c88 k  x2 x5 := by
  rw [r7_links.r_g37]
  simp only [r7_links.e_g39, r7_links.e_g42, r7_links.e_g44]
  rfl
theorem r7_links.e_g47 (c113 : r7_RangeOk.E) (c114 : r7_callable.E) (c115 : r7_isClass.E) (c116 : r7_Open.E) (c117 : sl_Contains_int.E) (c118 : r7_exceptionOk.E) (c47 : r7_Obj.E) (c88 : r7_IsObject.E) (k : Nat)  (x2 : List X_Object) (x5 : X_Object) : r7_links.M_g47 c113 c114 c115 c116 c117 c118 c47 c88 k  (r7_links.fr_g47 x2 x5) = r7_links.g47 c113 c114 c115 c116 c117 c118 c47 c88 k  x2 x5 := by
  rw [r7_links.r_g47]
  rfl
theorem r7_links.e_g50 (c113 : r7_RangeOk.E) (c114 : r7_callable.E) (c115 : r7_isClass.E) (c116 : r7_Open.E) (c117 : sl_Contains_int.E) (c118 : r7_exceptionOk.E) (c47 : r7_Obj.E) (c88 : r7_IsObject.E) (k : Nat)  (x2 : List X_Object) (x5 : X_Object) : r7_links.M_g50 c113 c114 c115 c116 c117 c118 c47 c88 k  (r7_links.fr_g50 x2 x5) = r7_links.g50 c113 c114 c115 c116 c117 c118 c47 c88 k  x2 x5 := by
  rw [r7_links.r_g50]
  rfl
theorem r7_links.e_g52 (c113 : r7_RangeOk.E) (c114 : r7_callable.E) (c115 : r7_isClass.E) (c116 : r7_Open.E) (c117 : sl_Contains_int.E) (c118 : r7_exceptionOk.E) (c47 : r7_Obj.E) (c88 : r7_IsObject.E) (k : Nat)  (x5 : X_Object) : r7_links.M_g52 c113 c114 c115 c116 c117 c118 c47 c88 k  (r7_links.fr_g52 x5) = r7_links.g52 c113 c114 c115 c116 c117 c118 c47 c88 k  x5 := by
  rw [r7_links.r_g52]
  rfl
theorem r7_links.e (c113 : r7_RangeOk.E) (c114 : r7_callable.E) (c115 : r7_isClass.E) (c116 : r7_Open.E) (c117 : sl_Contains_int.E) (c118 : r7_exceptionOk.E) (c47 : r7_Obj.E) (c88 : r7_IsObject.E) (k : Nat) (a0 : List X_Object) (a1 : Int) : fn (r7_links.C c113 c114 c115 c116 c117 c118 c47 c88) k Tryd.f85 r7_links.A r7_links.R (a0, a1) = r7_links.f c113 c114 c115 c116 c117 c118 c47 c88 k a0 a1 := by
  rw [r7_links.r]
  simp only [r7_links.e_g15, r7_links.e_g25, r7_links.e_g27, r7_links.e_g37, r7_links.e_g47, r7_links.e_g50, r7_links.e_g52, r7_links.e_l1, r7_links.e_l3]
  rfl
theorem r7_links.ty (c113 : r7_RangeOk.E) (c114 : r7_callable.E) (c115 : r7_isClass.E) (c116 : r7_Open.E) (c117 : sl_Contains_int.E) (c118 : r7_exceptionOk.E) (c47 : r7_Obj.E) (c88 : r7_IsObject.E) : TyOk Tryd.prog (r7_links.C c113 c114 c115 c116 c117 c118 c47 c88) := tyOk_of (by kernel_rfl)
def r7_links.u (k : Nat) : r7_links.E := fun y => r7_links.f (r7_RangeOk.u k) (r7_callable.u k) (r7_isClass.u k) (r7_Open.u k) (sl_Contains_int.u k) (r7_exceptionOk.u k) (r7_Obj.u k) (r7_IsObject.u k) k y.1 y.2
theorem r7_links.sound (k : Nat) : Sound Tryd.prog ⟨85, r7_links.A, r7_links.R, r7_links.u k⟩ := by
  have h := fn_sound (k := k) («as» := r7_links.A) (rs := r7_links.R) (r7_links.ty (r7_RangeOk.u k) (r7_callable.u k) (r7_isClass.u k) (r7_Open.u k) (sl_Contains_int.u k) (r7_exceptionOk.u k) (r7_Obj.u k) (r7_IsObject.u k)) (fun E h => by
    simp only [r7_links.C, List.mem_cons, List.not_mem_nil, or_false] at h
    rcases h with rfl | rfl | rfl | rfl | rfl | rfl | rfl | rfl
    · exact r7_RangeOk.sound k
    · exact r7_callable.sound k
    · exact r7_isClass.sound k
    · exact r7_Open.sound k
    · exact sl_Contains_int.sound k
    · exact r7_exceptionOk.sound k
    · exact r7_Obj.sound k
    · exact r7_IsObject.sound k) mixed Tryd.func85 (by kernel_rfl) (by kernel_rfl)
  have e : fn (r7_links.C (r7_RangeOk.u k) (r7_callable.u k) (r7_isClass.u k) (r7_Open.u k) (sl_Contains_int.u k) (r7_exceptionOk.u k) (r7_Obj.u k) (r7_IsObject.u k)) k Tryd.f85 r7_links.A r7_links.R = r7_links.u k := by
    funext y
    exact r7_links.e (r7_RangeOk.u k) (r7_callable.u k) (r7_isClass.u k) (r7_Open.u k) (sl_Contains_int.u k) (r7_exceptionOk.u k) (r7_Obj.u k) (r7_IsObject.u k) k y.1 y.2
  rw [e] at h
  exact h
/-! ### brindlewood/brindlewoodref7.PartsOf: f15 -/
abbrev r7_PartsOf.A : List Sh := [(.d Y_Heap), (.d Y_Value), (.d (.int .i64))]
abbrev r7_PartsOf.R : List Sh := [(.d (.sl 26 Y_Value)), (.d .bool)]
abbrev r7_PartsOf.E : Type := ((List X_Object) × (X_Value × (Int))) → Option ((List X_Value) × (Bool))
def r7_PartsOf.C (c47 : r7_Obj.E) (c48 : sl_Clone_Value.E) : Ctx := { ty := [(3, (.int .i64)), (26, Y_Value), (31, (.sl 26 Y_Value)), (50, Y_Heap), (88, Y_Object)], nf := [(26, 5), (88, 10)], by_ := [(26, 96)], env := [⟨47, r7_Obj.A, r7_Obj.R, c47⟩, ⟨48, sl_Clone_Value.A, sl_Clone_Value.R, c48⟩], spec := [(0, [.d 2 (.int .i64), .bx 3 600003 (.d Y_Heap), .o 8 500008 26 Y_Value, .d 9 (.sl 26 Y_Value)])] }
noncomputable def r7_PartsOf.code : Code := Func.code Tryd.f15
noncomputable def r7_PartsOf.fin (c47 : r7_Obj.E) (c48 : sl_Clone_Value.E) := kfin (r7_PartsOf.C c47 c48) Tryd.f15 r7_PartsOf.A r7_PartsOf.R
def r7_PartsOf.b (c47 : r7_Obj.E) (c48 : sl_Clone_Value.E) (r_l0 : (Int) → (List X_Object) → (List X_Value) → (List X_Value) → Option ((List X_Value) × (Bool))) (a0 : List X_Object) (a1 : X_Value) (a2 : Int) : Option ((List X_Value) × (Bool)) :=
  r_l0 a2 a0 ([] : List X_Value) (List.take 1 ([a1] : List X_Value))
def r7_PartsOf.b_l0 (c47 : r7_Obj.E) (c48 : sl_Clone_Value.E) (n_l0 : (Int) → (List X_Object) → (List X_Value) → (List X_Value) → Option ((List X_Value) × (Bool))) (x2 : Int) (x3 : List X_Object) (x8 : List X_Value) (x9 : List X_Value) : Option ((List X_Value) × (Bool)) :=
  bif (decide (((List.length x9) : Int) > (0 : Int))) then
    bif (decide ((((List.length x8) : Nat) : Int) ≤ x2)) then
      if 0 ≤ (0 : Int) ∧ (0 : Int) < ((List.length x9) : Int) then
        if 0 ≤ (1 : Int) ∧ (1 : Int) ≤ ((List.length x9) : Int) ∧ ((List.length x9) : Int) ≤ ((List.length x9) : Int) then
          if (List.length x8) ≤ (List.length x8) ∧ ((List.length x8) + (List.length (List.take 1 ([(List.getD x9 (Int.toNat (0 : Int)) Z_Value)] : List X_Value)))) * 96 ≤ LIM then
            (c47 (x3, (List.getD x9 (Int.toNat (0 : Int)) Z_Value))).bind fun y1 =>
              bif (((List.getD x9 (Int.toNat (0 : Int)) Z_Value).1) == (9 : Int)) then
                some ((List.take (List.length (List.append (List.take (List.length x8) x8) (List.take 1 ([(List.getD x9 (Int.toNat (0 : Int)) Z_Value)] : List X_Value)))) (List.append (List.take (List.length x8) x8) (List.take 1 ([(List.getD x9 (Int.toNat (0 : Int)) Z_Value)] : List X_Value)))), false)
              else
                bif (y1.1 == (2 : Int)) then
                  some ((List.take (List.length (List.append (List.take (List.length x8) x8) (List.take 1 ([(List.getD x9 (Int.toNat (0 : Int)) Z_Value)] : List X_Value)))) (List.append (List.take (List.length x8) x8) (List.take 1 ([(List.getD x9 (Int.toNat (0 : Int)) Z_Value)] : List X_Value)))), false)
                else
                  bif (y1.1 == (3 : Int)) then
                    some ((List.take (List.length (List.append (List.take (List.length x8) x8) (List.take 1 ([(List.getD x9 (Int.toNat (0 : Int)) Z_Value)] : List X_Value)))) (List.append (List.take (List.length x8) x8) (List.take 1 ([(List.getD x9 (Int.toNat (0 : Int)) Z_Value)] : List X_Value)))), false)
                  else
                    bif (y1.1 == (4 : Int)) then
                      some ((List.take (List.length (List.append (List.take (List.length x8) x8) (List.take 1 ([(List.getD x9 (Int.toNat (0 : Int)) Z_Value)] : List X_Value)))) (List.append (List.take (List.length x8) x8) (List.take 1 ([(List.getD x9 (Int.toNat (0 : Int)) Z_Value)] : List X_Value)))), false)
                    else
                      bif (y1.1 == (5 : Int)) then
                        some ((List.take (List.length (List.append (List.take (List.length x8) x8) (List.take 1 ([(List.getD x9 (Int.toNat (0 : Int)) Z_Value)] : List X_Value)))) (List.append (List.take (List.length x8) x8) (List.take 1 ([(List.getD x9 (Int.toNat (0 : Int)) Z_Value)] : List X_Value)))), false)
                      else
                        bif (y1.1 == (1 : Int)) then
                          if 0 ≤ (0 : Int) ∧ (0 : Int) ≤ (if (IntKind.i64.wrap (x2 + (1 : Int))) < ((List.length y1.2.2.2.2.2.2.1) : Int) then (IntKind.i64.wrap (x2 + (1 : Int))) else ((List.length y1.2.2.2.2.2.2.1) : Int)) ∧ (if (IntKind.i64.wrap (x2 + (1 : Int))) < ((List.length y1.2.2.2.2.2.2.1) : Int) then (IntKind.i64.wrap (x2 + (1 : Int))) else ((List.length y1.2.2.2.2.2.2.1) : Int)) ≤ ((List.length y1.2.2.2.2.2.2.1) : Int) then
                            (c48 (List.drop (Int.toNat (0 : Int)) (List.take (Int.toNat (if (IntKind.i64.wrap (x2 + (1 : Int))) < ((List.length y1.2.2.2.2.2.2.1) : Int) then (IntKind.i64.wrap (x2 + (1 : Int))) else ((List.length y1.2.2.2.2.2.2.1) : Int))) y1.2.2.2.2.2.2.1))).bind fun y2 =>
                              if (List.length y2) ≤ (List.length y2) ∧ ((List.length y2) + (List.length (List.drop (Int.toNat (1 : Int)) (List.take (Int.toNat ((List.length x9) : Int)) x9)))) * 96 ≤ LIM then
                                n_l0 x2 x3 (List.take (List.length (List.append (List.take (List.length x8) x8) (List.take 1 ([(List.getD x9 (Int.toNat (0 : Int)) Z_Value)] : List X_Value)))) (List.append (List.take (List.length x8) x8) (List.take 1 ([(List.getD x9 (Int.toNat (0 : Int)) Z_Value)] : List X_Value)))) (List.take (List.length (List.append (List.take (List.length y2) y2) (List.drop (Int.toNat (1 : Int)) (List.take (Int.toNat ((List.length x9) : Int)) x9)))) (List.append (List.take (List.length y2) y2) (List.drop (Int.toNat (1 : Int)) (List.take (Int.toNat ((List.length x9) : Int)) x9))))
                              else none
                          else none
                        else
                          n_l0 x2 x3 (List.take (List.length (List.append (List.take (List.length x8) x8) (List.take 1 ([(List.getD x9 (Int.toNat (0 : Int)) Z_Value)] : List X_Value)))) (List.append (List.take (List.length x8) x8) (List.take 1 ([(List.getD x9 (Int.toNat (0 : Int)) Z_Value)] : List X_Value)))) (List.drop (Int.toNat (1 : Int)) (List.take (Int.toNat ((List.length x9) : Int)) x9))
          else none
        else none
      else none
    else
      some ((List.take (List.length x8) x8), true)
  else
    some ((List.take (List.length x8) x8), true)
def r7_PartsOf.c (c47 : r7_Obj.E) (c48 : sl_Clone_Value.E) (r_l0 : (Int) → (List X_Object) → (List X_Value) → (List X_Value) → Option ((List X_Value) × (Bool))) (a0 : List X_Object) (a1 : X_Value) (a2 : Int) : Option ((List X_Value) × (Bool)) :=
  r_l0 a2 a0 ([] : List X_Value) ([a1] : List X_Value)
theorem r7_PartsOf.q (c47 : r7_Obj.E) (c48 : sl_Clone_Value.E) (r_l0 : (Int) → (List X_Object) → (List X_Value) → (List X_Value) → Option ((List X_Value) × (Bool))) (a0 : List X_Object) (a1 : X_Value) (a2 : Int) : r7_PartsOf.b c47 c48 r_l0 a0 a1 a2 = r7_PartsOf.c c47 c48 r_l0 a0 a1 a2 := by
  simp only [r7_PartsOf.b, r7_PartsOf.c, List.take_length, take_one, Nat.zero_add, Int.toNat_natCast, Int.toNat_zero, List.drop_zero, List.append_eq, Nat.le_refl, Int.le_refl, true_and, and_true, zero_le_one, if_true, prod_eta, Int.natCast_zero]
def r7_PartsOf.c_l0 (c47 : r7_Obj.E) (c48 : sl_Clone_Value.E) (n_l0 : (Int) → (List X_Object) → (List X_Value) → (List X_Value) → Option ((List X_Value) × (Bool))) (x2 : Int) (x3 : List X_Object) (x8 : List X_Value) (x9 : List X_Value) : Option ((List X_Value) × (Bool)) :=
  bif (decide (((List.length x9) : Int) > (0 : Int))) then
    bif (decide (((List.length x8) : Int) ≤ x2)) then
      if (0 : Int) < ((List.length x9) : Int) then
        if (1 : Int) ≤ ((List.length x9) : Int) then
          if ((List.length x8) + (List.length ([(List.getD x9 0 Z_Value)] : List X_Value))) * 96 ≤ LIM then
            (c47 (x3, (List.getD x9 0 Z_Value))).bind fun y1 =>
              bif (((List.getD x9 0 Z_Value).1) == (9 : Int)) then
                some ((x8 ++ ([(List.getD x9 0 Z_Value)] : List X_Value)), false)
              else
                bif (y1.1 == (2 : Int)) then
                  some ((x8 ++ ([(List.getD x9 0 Z_Value)] : List X_Value)), false)
                else
                  bif (y1.1 == (3 : Int)) then
                    some ((x8 ++ ([(List.getD x9 0 Z_Value)] : List X_Value)), false)
                  else
                    bif (y1.1 == (4 : Int)) then
                      some ((x8 ++ ([(List.getD x9 0 Z_Value)] : List X_Value)), false)
                    else
                      bif (y1.1 == (5 : Int)) then
                        some ((x8 ++ ([(List.getD x9 0 Z_Value)] : List X_Value)), false)
                      else
                        bif (y1.1 == (1 : Int)) then
                          if (0 : Int) ≤ (if (IntKind.i64.wrap (x2 + (1 : Int))) < ((List.length y1.2.2.2.2.2.2.1) : Int) then (IntKind.i64.wrap (x2 + (1 : Int))) else ((List.length y1.2.2.2.2.2.2.1) : Int)) ∧ (if (IntKind.i64.wrap (x2 + (1 : Int))) < ((List.length y1.2.2.2.2.2.2.1) : Int) then (IntKind.i64.wrap (x2 + (1 : Int))) else ((List.length y1.2.2.2.2.2.2.1) : Int)) ≤ ((List.length y1.2.2.2.2.2.2.1) : Int) then
                            (c48 (List.take (Int.toNat (if (IntKind.i64.wrap (x2 + (1 : Int))) < ((List.length y1.2.2.2.2.2.2.1) : Int) then (IntKind.i64.wrap (x2 + (1 : Int))) else ((List.length y1.2.2.2.2.2.2.1) : Int))) y1.2.2.2.2.2.2.1)).bind fun y2 =>
                              if ((List.length y2) + (List.length (List.drop (Int.toNat (1 : Int)) x9))) * 96 ≤ LIM then
                                n_l0 x2 x3 (x8 ++ ([(List.getD x9 0 Z_Value)] : List X_Value)) (y2 ++ (List.drop (Int.toNat (1 : Int)) x9))
                              else none
                          else none
                        else
                          n_l0 x2 x3 (x8 ++ ([(List.getD x9 0 Z_Value)] : List X_Value)) (List.drop (Int.toNat (1 : Int)) x9)
          else none
        else none
      else none
    else
      some (x8, true)
  else
    some (x8, true)
theorem r7_PartsOf.q_l0 (c47 : r7_Obj.E) (c48 : sl_Clone_Value.E) (n_l0 : (Int) → (List X_Object) → (List X_Value) → (List X_Value) → Option ((List X_Value) × (Bool))) (x2 : Int) (x3 : List X_Object) (x8 : List X_Value) (x9 : List X_Value) : r7_PartsOf.b_l0 c47 c48 n_l0 x2 x3 x8 x9 = r7_PartsOf.c_l0 c47 c48 n_l0 x2 x3 x8 x9 := by
  simp only [r7_PartsOf.b_l0, r7_PartsOf.c_l0, List.take_length, take_one, Nat.zero_add, Int.toNat_natCast, Int.toNat_zero, List.drop_zero, List.append_eq, Nat.le_refl, Int.le_refl, true_and, and_true, zero_le_one, if_true, prod_eta, Int.natCast_zero]
def r7_PartsOf.l0 (c47 : r7_Obj.E) (c48 : sl_Clone_Value.E) (k : Nat)  : Nat → (Int) → (List X_Object) → (List X_Value) → (List X_Value) → Option ((List X_Value) × (Bool))
  | 0, _, _, _, _ => none
  | n + 1, x2, x3, x8, x9 => r7_PartsOf.b_l0 c47 c48 (fun x2 x3 x8 x9 => r7_PartsOf.l0 c47 c48 k  n x2 x3 x8 x9) x2 x3 x8 x9
def r7_PartsOf.f (c47 : r7_Obj.E) (c48 : sl_Clone_Value.E) (k : Nat) (a0 : List X_Object) (a1 : X_Value) (a2 : Int) : Option ((List X_Value) × (Bool)) := r7_PartsOf.b c47 c48 (r7_PartsOf.l0 c47 c48 k k) a0 a1 a2
noncomputable def r7_PartsOf.M_l0 (c47 : r7_Obj.E) (c48 : sl_Clone_Value.E) (k n : Nat)  (s : St) : Option ((List X_Value) × (Bool)) := atLoop (r7_PartsOf.C c47 c48) k n [1, 1, 1, 0, 0] [] r7_PartsOf.code (r7_PartsOf.fin c47 c48) s
noncomputable def r7_PartsOf.fr_l0 (x2 : Int) (x3 : List X_Object) (x8 : List X_Value) (x9 : List X_Value) : St := ⟨(((((List.replicate 77 V.un).set 2 (V.dat (.int .i64) x2)).set 3 (V.bp 600003 0 [])).set 8 (V.ref 500008 0 0 (List.length x8))).set 9 (V.dat (.sl 26 Y_Value) x9)), [⟨500008, 0, .arr 26 Y_Value x8⟩, ⟨600003, 0, .box (V.dat Y_Heap x3)⟩]⟩
theorem r7_PartsOf.r (c47 : r7_Obj.E) (c48 : sl_Clone_Value.E) (k : Nat) (a0 : List X_Object) (a1 : X_Value) (a2 : Int) : fn (r7_PartsOf.C c47 c48) k Tryd.f15 r7_PartsOf.A r7_PartsOf.R (a0, (a1, a2)) = r7_PartsOf.b c47 c48 (fun x2 x3 x8 x9 => r7_PartsOf.M_l0 c47 c48 k k  (r7_PartsOf.fr_l0 x2 x3 x8 x9)) a0 a1 a2 := by kernel_rfl
theorem r7_PartsOf.z_l0 (c47 : r7_Obj.E) (c48 : sl_Clone_Value.E) (k : Nat)  (s : St) : r7_PartsOf.M_l0 c47 c48 k 0  s = none := by kernel_rfl
theorem r7_PartsOf.r_l0 (c47 : r7_Obj.E) (c48 : sl_Clone_Value.E) (k n : Nat)  (x2 : Int) (x3 : List X_Object) (x8 : List X_Value) (x9 : List X_Value) : r7_PartsOf.M_l0 c47 c48 k (n + 1)  (r7_PartsOf.fr_l0 x2 x3 x8 x9) = r7_PartsOf.b_l0 c47 c48 (fun x2 x3 x8 x9 => r7_PartsOf.M_l0 c47 c48 k n  (r7_PartsOf.fr_l0 x2 x3 x8 x9)) x2 x3 x8 x9 := by kernel_rfl
theorem r7_PartsOf.e_l0 (c47 : r7_Obj.E) (c48 : sl_Clone_Value.E) (k n : Nat)  (x2 : Int) (x3 : List X_Object) (x8 : List X_Value) (x9 : List X_Value) : r7_PartsOf.M_l0 c47 c48 k n  (r7_PartsOf.fr_l0 x2 x3 x8 x9) = r7_PartsOf.l0 c47 c48 k  n x2 x3 x8 x9 := by
  induction n generalizing x2 x3 x8 x9 with
  | zero => rw [r7_PartsOf.z_l0]; rfl
  | succ n ih =>
    rw [r7_PartsOf.r_l0]
    simp only [ih]
    rfl
theorem r7_PartsOf.e (c47 : r7_Obj.E) (c48 : sl_Clone_Value.E) (k : Nat) (a0 : List X_Object) (a1 : X_Value) (a2 : Int) : fn (r7_PartsOf.C c47 c48) k Tryd.f15 r7_PartsOf.A r7_PartsOf.R (a0, (a1, a2)) = r7_PartsOf.f c47 c48 k a0 a1 a2 := by
  rw [r7_PartsOf.r]
  simp only [r7_PartsOf.e_l0]
  rfl
theorem r7_PartsOf.ty (c47 : r7_Obj.E) (c48 : sl_Clone_Value.E) : TyOk Tryd.prog (r7_PartsOf.C c47 c48) := tyOk_of (by kernel_rfl)
def r7_PartsOf.u (k : Nat) : r7_PartsOf.E := fun y => r7_PartsOf.f (r7_Obj.u k) (sl_Clone_Value.u k) k y.1 y.2.1 y.2.2
theorem r7_PartsOf.sound (k : Nat) : Sound Tryd.prog ⟨15, r7_PartsOf.A, r7_PartsOf.R, r7_PartsOf.u k⟩ := by
  have h := fn_sound (k := k) («as» := r7_PartsOf.A) (rs := r7_PartsOf.R) (r7_PartsOf.ty (r7_Obj.u k) (sl_Clone_Value.u k)) (fun E h => by
    simp only [r7_PartsOf.C, List.mem_cons, List.not_mem_nil, or_false] at h
    rcases h with rfl | rfl
    · exact r7_Obj.sound k
    · exact sl_Clone_Value.sound k) mixed Tryd.func15 (by kernel_rfl) (by kernel_rfl)
  have e : fn (r7_PartsOf.C (r7_Obj.u k) (sl_Clone_Value.u k)) k Tryd.f15 r7_PartsOf.A r7_PartsOf.R = r7_PartsOf.u k := by
    funext y
    exact r7_PartsOf.e (r7_Obj.u k) (sl_Clone_Value.u k) k y.1 y.2.1 y.2.2
  rw [e] at h
  exact h
/-! ### brindlewood/brindlewoodref7.Keyed: f18 -/
abbrev r7_Keyed.A : List Sh := [(.d Y_Heap), (.d Y_Value)]
abbrev r7_Keyed.R : List Sh := [(.d .bool)]
abbrev r7_Keyed.E : Type := ((List X_Object) × X_Value) → Option (Bool)
def r7_Keyed.C (c15 : r7_PartsOf.E) : Ctx := { ty := [(3, (.int .i64)), (26, Y_Value), (31, (.sl 26 Y_Value)), (50, Y_Heap)], nf := [], by_ := [(26, 96)], env := [⟨15, r7_PartsOf.A, r7_PartsOf.R, c15⟩], spec := [] }
noncomputable def r7_Keyed.code : Code := Func.code Tryd.f18
noncomputable def r7_Keyed.fin (c15 : r7_PartsOf.E) := kfin (r7_Keyed.C c15) Tryd.f18 r7_Keyed.A r7_Keyed.R
def r7_Keyed.b (c15 : r7_PartsOf.E)  (a0 : List X_Object) (a1 : X_Value) : Option (Bool) :=
  (c15 (a0, (a1, (1000 : Int)))).bind fun y1 =>
    bif y1.2 then
      some (decide (((List.length y1.1) : Int) ≤ (1000 : Int)))
    else
      some false
def r7_Keyed.f (c15 : r7_PartsOf.E) (k : Nat) (a0 : List X_Object) (a1 : X_Value) : Option (Bool) := r7_Keyed.b c15  a0 a1
theorem r7_Keyed.r (c15 : r7_PartsOf.E) (k : Nat) (a0 : List X_Object) (a1 : X_Value) : fn (r7_Keyed.C c15) k Tryd.f18 r7_Keyed.A r7_Keyed.R (a0, a1) = r7_Keyed.b c15  a0 a1 := by kernel_rfl
theorem r7_Keyed.e (c15 : r7_PartsOf.E) (k : Nat) (a0 : List X_Object) (a1 : X_Value) : fn (r7_Keyed.C c15) k Tryd.f18 r7_Keyed.A r7_Keyed.R (a0, a1) = r7_Keyed.f c15 k a0 a1 := by
  rw [r7_Keyed.r]
  rfl
theorem r7_Keyed.ty (c15 : r7_PartsOf.E) : TyOk Tryd.prog (r7_Keyed.C c15) := tyOk_of (by kernel_rfl)
def r7_Keyed.u (k : Nat) : r7_Keyed.E := fun y => r7_Keyed.f (r7_PartsOf.u k) k y.1 y.2
theorem r7_Keyed.sound (k : Nat) : Sound Tryd.prog ⟨18, r7_Keyed.A, r7_Keyed.R, r7_Keyed.u k⟩ := by
  have h := fn_sound (k := k) («as» := r7_Keyed.A) (rs := r7_Keyed.R) (r7_Keyed.ty (r7_PartsOf.u k)) (fun E h => by
    simp only [r7_Keyed.C, List.mem_cons, List.not_mem_nil, or_false] at h
    rcases h with rfl
    · exact r7_PartsOf.sound k) mixed Tryd.func18 (by kernel_rfl) (by kernel_rfl)
  have e : fn (r7_Keyed.C (r7_PartsOf.u k)) k Tryd.f18 r7_Keyed.A r7_Keyed.R = r7_Keyed.u k := by
    funext y
    exact r7_Keyed.e (r7_PartsOf.u k) k y.1 y.2
  rw [e] at h
  exact h
/-! ### brindlewood/brindlewoodref7.SameKey: f20 -/
abbrev r7_SameKey.A : List Sh := [(.d Y_Heap), (.d Y_Value), (.d Y_Value)]
abbrev r7_SameKey.R : List Sh := [(.d .bool)]
abbrev r7_SameKey.E : Type := ((List X_Object) × (X_Value × X_Value)) → Option (Bool)
def r7_SameKey.C (c47 : r7_Obj.E) (c9 : r7_SameValue.E) (c20 : r7_SameKey.E) : Ctx := { ty := [(3, (.int .i64)), (26, Y_Value), (31, (.sl 26 Y_Value)), (50, Y_Heap), (88, Y_Object)], nf := [(88, 10)], by_ := [(26, 96)], env := [⟨47, r7_Obj.A, r7_Obj.R, c47⟩, ⟨9, r7_SameValue.A, r7_SameValue.R, c9⟩, ⟨20, r7_SameKey.A, r7_SameKey.R, c20⟩], spec := [(0, [.bx 3 600003 (.d Y_Heap), .bx 7 600007 (.d Y_Object), .bx 8 600008 (.d Y_Object), .d 36 (.int .i64), .d 37 (.int .i64)])] }
noncomputable def r7_SameKey.code : Code := Func.code Tryd.f20
noncomputable def r7_SameKey.fin (c47 : r7_Obj.E) (c9 : r7_SameValue.E) (c20 : r7_SameKey.E) := kfin (r7_SameKey.C c47 c9 c20) Tryd.f20 r7_SameKey.A r7_SameKey.R
def r7_SameKey.b (c47 : r7_Obj.E) (c9 : r7_SameValue.E) (c20 : r7_SameKey.E) (r_l0 : (List X_Object) → X_Object → X_Object → (Int) → (Int) → Option (Bool)) (a0 : List X_Object) (a1 : X_Value) (a2 : X_Value) : Option (Bool) :=
  (c47 (a0, a1)).bind fun y1 =>
    (c47 (a0, a2)).bind fun y2 =>
      bif (y1.1 != (1 : Int)) then
        (c9 (a1, a2)).bind fun y3 =>
          some y3
      else
        bif (y2.1 != (1 : Int)) then
          (c9 (a1, a2)).bind fun y4 =>
            some y4
        else
          bif (((List.length y1.2.2.2.2.2.2.1) : Int) != ((List.length y2.2.2.2.2.2.2.1) : Int)) then
            some false
          else
            r_l0 a0 y1 y2 ((List.length y1.2.2.2.2.2.2.1) : Int) (0 : Int)
def r7_SameKey.b_l0 (c47 : r7_Obj.E) (c9 : r7_SameValue.E) (c20 : r7_SameKey.E) (n_l0 : (List X_Object) → X_Object → X_Object → (Int) → (Int) → Option (Bool)) (x3 : List X_Object) (x7 : X_Object) (x8 : X_Object) (x36 : Int) (x37 : Int) : Option (Bool) :=
  bif (decide (x37 < x36)) then
    if 0 ≤ x37 ∧ x37 < ((List.length x7.2.2.2.2.2.2.1) : Int) then
      if 0 ≤ x37 ∧ x37 < ((List.length x8.2.2.2.2.2.2.1) : Int) then
        (c20 (x3, ((List.getD x7.2.2.2.2.2.2.1 (Int.toNat x37) Z_Value), (List.getD x8.2.2.2.2.2.2.1 (Int.toNat x37) Z_Value)))).bind fun y5 =>
          bif (!y5) then
            some false
          else
            n_l0 x3 x7 x8 x36 (IntKind.i64.wrap (x37 + (1 : Int)))
      else none
    else none
  else
    some true
def r7_SameKey.c_l0 (c47 : r7_Obj.E) (c9 : r7_SameValue.E) (c20 : r7_SameKey.E) (n_l0 : (List X_Object) → X_Object → X_Object → (Int) → (Int) → Option (Bool)) (x3 : List X_Object) (x7 : X_Object) (x8 : X_Object) (x36 : Int) (x37 : Int) : Option (Bool) :=
  bif (decide (x37 < x36)) then
    if 0 ≤ x37 ∧ x37 < ((List.length x7.2.2.2.2.2.2.1) : Int) then
      if 0 ≤ x37 ∧ x37 < ((List.length x8.2.2.2.2.2.2.1) : Int) then
        (c20 (x3, ((List.getD x7.2.2.2.2.2.2.1 (Int.toNat x37) Z_Value), (List.getD x8.2.2.2.2.2.2.1 (Int.toNat x37) Z_Value)))).bind fun y5 =>
          bif !y5 then
            some false
          else
            n_l0 x3 x7 x8 x36 (IntKind.i64.wrap (x37 + (1 : Int)))
      else none
    else none
  else
    some true
theorem r7_SameKey.q_l0 (c47 : r7_Obj.E) (c9 : r7_SameValue.E) (c20 : r7_SameKey.E) (n_l0 : (List X_Object) → X_Object → X_Object → (Int) → (Int) → Option (Bool)) (x3 : List X_Object) (x7 : X_Object) (x8 : X_Object) (x36 : Int) (x37 : Int) : r7_SameKey.b_l0 c47 c9 c20 n_l0 x3 x7 x8 x36 x37 = r7_SameKey.c_l0 c47 c9 c20 n_l0 x3 x7 x8 x36 x37 := by
  simp only [r7_SameKey.b_l0, r7_SameKey.c_l0, List.take_length, take_one, Nat.zero_add, Int.toNat_natCast, Int.toNat_zero, List.drop_zero, List.append_eq, Nat.le_refl, Int.le_refl, true_and, and_true, zero_le_one, if_true, prod_eta, Int.natCast_zero]
def r7_SameKey.l0 (c47 : r7_Obj.E) (c9 : r7_SameValue.E) (c20 : r7_SameKey.E) (k : Nat)  : Nat → (List X_Object) → X_Object → X_Object → (Int) → (Int) → Option (Bool)
  | 0, _, _, _, _, _ => none
  | n + 1, x3, x7, x8, x36, x37 => r7_SameKey.b_l0 c47 c9 c20 (fun x3 x7 x8 x36 x37 => r7_SameKey.l0 c47 c9 c20 k  n x3 x7 x8 x36 x37) x3 x7 x8 x36 x37
def r7_SameKey.f (c47 : r7_Obj.E) (c9 : r7_SameValue.E) (c20 : r7_SameKey.E) (k : Nat) (a0 : List X_Object) (a1 : X_Value) (a2 : X_Value) : Option (Bool) := r7_SameKey.b c47 c9 c20 (r7_SameKey.l0 c47 c9 c20 k k) a0 a1 a2
noncomputable def r7_SameKey.M_l0 (c47 : r7_Obj.E) (c9 : r7_SameValue.E) (c20 : r7_SameKey.E) (k n : Nat)  (s : St) : Option (Bool) := atLoop (r7_SameKey.C c47 c9 c20) k n [1, 1, 1, 1, 0, 1, 0] [] r7_SameKey.code (r7_SameKey.fin c47 c9 c20) s
noncomputable def r7_SameKey.fr_l0 (x3 : List X_Object) (x7 : X_Object) (x8 : X_Object) (x36 : Int) (x37 : Int) : St := ⟨((((((List.replicate 54 V.un).set 3 (V.bp 600003 0 [])).set 7 (V.bp 600007 0 [])).set 8 (V.bp 600008 0 [])).set 36 (V.dat (.int .i64) x36)).set 37 (V.dat (.int .i64) x37)), [⟨600008, 0, .box (V.dat Y_Object x8)⟩, ⟨600007, 0, .box (V.dat Y_Object x7)⟩, ⟨600003, 0, .box (V.dat Y_Heap x3)⟩]⟩
theorem r7_SameKey.r (c47 : r7_Obj.E) (c9 : r7_SameValue.E) (c20 : r7_SameKey.E) (k : Nat) (a0 : List X_Object) (a1 : X_Value) (a2 : X_Value) : fn (r7_SameKey.C c47 c9 c20) k Tryd.f20 r7_SameKey.A r7_SameKey.R (a0, (a1, a2)) = r7_SameKey.b c47 c9 c20 (fun x3 x7 x8 x36 x37 => r7_SameKey.M_l0 c47 c9 c20 k k  (r7_SameKey.fr_l0 x3 x7 x8 x36 x37)) a0 a1 a2 := by kernel_rfl
theorem r7_SameKey.z_l0 (c47 : r7_Obj.E) (c9 : r7_SameValue.E) (c20 : r7_SameKey.E) (k : Nat)  (s : St) : r7_SameKey.M_l0 c47 c9 c20 k 0  s = none := by kernel_rfl
theorem r7_SameKey.r_l0 (c47 : r7_Obj.E) (c9 : r7_SameValue.E) (c20 : r7_SameKey.E) (k n : Nat)  (x3 : List X_Object) (x7 : X_Object) (x8 : X_Object) (x36 : Int) (x37 : Int) : r7_SameKey.M_l0 c47 c9 c20 k (n + 1)  (r7_SameKey.fr_l0 x3 x7 x8 x36 x37) = r7_SameKey.b_l0 c47 c9 c20 (fun x3 x7 x8 x36 x37 => r7_SameKey.M_l0 c47 c9 c20 k n  (r7_SameKey.fr_l0 x3 x7 x8 x36 x37)) x3 x7 x8 x36 x37 := by kernel_rfl
theorem r7_SameKey.e_l0 (c47 : r7_Obj.E) (c9 : r7_SameValue.E) (c20 : r7_SameKey.E) (k n : Nat)  (x3 : List X_Object) (x7 : X_Object) (x8 : X_Object) (x36 : Int) (x37 : Int) : r7_SameKey.M_l0 c47 c9 c20 k n  (r7_SameKey.fr_l0 x3 x7 x8 x36 x37) = r7_SameKey.l0 c47 c9 c20 k  n x3 x7 x8 x36 x37 := by
  induction n generalizing x3 x7 x8 x36 x37 with
  | zero => rw [r7_SameKey.z_l0]; rfl
  | succ n ih =>
    rw [r7_SameKey.r_l0]
    simp only [ih]
    rfl
theorem r7_SameKey.e (c47 : r7_Obj.E) (c9 : r7_SameValue.E) (c20 : r7_SameKey.E) (k : Nat) (a0 : List X_Object) (a1 : X_Value) (a2 : X_Value) : fn (r7_SameKey.C c47 c9 c20) k Tryd.f20 r7_SameKey.A r7_SameKey.R (a0, (a1, a2)) = r7_SameKey.f c47 c9 c20 k a0 a1 a2 := by
  rw [r7_SameKey.r]
  simp only [r7_SameKey.e_l0]
  rfl
theorem r7_SameKey.ty (c47 : r7_Obj.E) (c9 : r7_SameValue.E) (c20 : r7_SameKey.E) : TyOk Tryd.prog (r7_SameKey.C c47 c9 c20) := tyOk_of (by kernel_rfl)
def r7_SameKey.ur (k : Nat) (g : r7_SameKey.E) : r7_SameKey.E := fun y => r7_SameKey.f (r7_Obj.u k) (r7_SameValue.u k) g k y.1 y.2.1 y.2.2
theorem r7_SameKey.sound_r (k : Nat) (g : r7_SameKey.E) (hg : Sound Tryd.prog ⟨20, r7_SameKey.A, r7_SameKey.R, g⟩) : Sound Tryd.prog ⟨20, r7_SameKey.A, r7_SameKey.R, r7_SameKey.ur k g⟩ := by
  have h := fn_sound (k := k) («as» := r7_SameKey.A) (rs := r7_SameKey.R) (r7_SameKey.ty (r7_Obj.u k) (r7_SameValue.u k) g) (fun E h => by
    simp only [r7_SameKey.C, List.mem_cons, List.not_mem_nil, or_false] at h
    rcases h with rfl | rfl | rfl
    · exact r7_Obj.sound k
    · exact r7_SameValue.sound k
    · exact hg) mixed Tryd.func20 (by kernel_rfl) (by kernel_rfl)
  have e : fn (r7_SameKey.C (r7_Obj.u k) (r7_SameValue.u k) g) k Tryd.f20 r7_SameKey.A r7_SameKey.R = r7_SameKey.ur k g := by
    funext y
    exact r7_SameKey.e (r7_Obj.u k) (r7_SameValue.u k) g k y.1 y.2.1 y.2.2
  rw [e] at h
  exact h
def r7_SameKey.u : Nat → r7_SameKey.E
  | 0 => fun _ => none
  | k + 1 => r7_SameKey.ur (k + 1) (r7_SameKey.u k)
theorem r7_SameKey.sound : ∀ k : Nat, Sound Tryd.prog ⟨20, r7_SameKey.A, r7_SameKey.R, r7_SameKey.u k⟩
  | 0 => ⟨enters_of Tryd.func20 (c := Func.code Tryd.f20) (by kernel_rfl) (by kernel_rfl), fun x y h => by cases h⟩
  | k + 1 => r7_SameKey.sound_r (k + 1) (r7_SameKey.u k) (r7_SameKey.sound k)
/-! ### brindlewood/brindlewoodref7.Place: f119 -/
abbrev r7_Place.A : List Sh := [(.d Y_Heap), (.d (.sl 26 Y_Value)), (.d Y_Value)]
abbrev r7_Place.R : List Sh := [(.d (.int .i64))]
abbrev r7_Place.E : Type := ((List X_Object) × ((List X_Value) × X_Value)) → Option (Int)
def r7_Place.C (c20 : r7_SameKey.E) : Ctx := { ty := [(3, (.int .i64)), (26, Y_Value), (31, (.sl 26 Y_Value)), (50, Y_Heap)], nf := [], by_ := [(26, 96)], env := [⟨20, r7_SameKey.A, r7_SameKey.R, c20⟩], spec := [(0, [.d 1 (.sl 26 Y_Value), .bx 3 600003 (.d Y_Heap), .bx 5 600005 (.d Y_Value), .d 9 (.int .i64), .d 10 (.int .i64)])] }
noncomputable def r7_Place.code : Code := Func.code Tryd.f119
noncomputable def r7_Place.fin (c20 : r7_SameKey.E) := kfin (r7_Place.C c20) Tryd.f119 r7_Place.A r7_Place.R
def r7_Place.b (c20 : r7_SameKey.E) (r_l0 : (List X_Value) → (List X_Object) → X_Value → (Int) → (Int) → Option (Int)) (a0 : List X_Object) (a1 : List X_Value) (a2 : X_Value) : Option (Int) :=
  r_l0 a1 a0 a2 ((List.length a1) : Int) (0 : Int)
def r7_Place.b_l0 (c20 : r7_SameKey.E) (n_l0 : (List X_Value) → (List X_Object) → X_Value → (Int) → (Int) → Option (Int)) (x1 : List X_Value) (x3 : List X_Object) (x5 : X_Value) (x9 : Int) (x10 : Int) : Option (Int) :=
  bif (decide (x10 < x9)) then
    if 0 ≤ x10 ∧ x10 < ((List.length x1) : Int) then
      (c20 (x3, ((List.getD x1 (Int.toNat x10) Z_Value), x5))).bind fun y1 =>
        bif y1 then
          some x10
        else
          n_l0 x1 x3 x5 x9 (IntKind.i64.wrap (x10 + (1 : Int)))
    else none
  else
    some (-1 : Int)
def r7_Place.c_l0 (c20 : r7_SameKey.E) (n_l0 : (List X_Value) → (List X_Object) → X_Value → (Int) → (Int) → Option (Int)) (x1 : List X_Value) (x3 : List X_Object) (x5 : X_Value) (x9 : Int) (x10 : Int) : Option (Int) :=
  bif (decide (x10 < x9)) then
    if 0 ≤ x10 ∧ x10 < ((List.length x1) : Int) then
      (c20 (x3, ((List.getD x1 (Int.toNat x10) Z_Value), x5))).bind fun y1 =>
        bif y1 then
          some x10
        else
          n_l0 x1 x3 x5 x9 (IntKind.i64.wrap (x10 + (1 : Int)))
    else none
  else
    some (-1 : Int)
theorem r7_Place.q_l0 (c20 : r7_SameKey.E) (n_l0 : (List X_Value) → (List X_Object) → X_Value → (Int) → (Int) → Option (Int)) (x1 : List X_Value) (x3 : List X_Object) (x5 : X_Value) (x9 : Int) (x10 : Int) : r7_Place.b_l0 c20 n_l0 x1 x3 x5 x9 x10 = r7_Place.c_l0 c20 n_l0 x1 x3 x5 x9 x10 := by
  simp only [r7_Place.b_l0, r7_Place.c_l0, List.take_length, take_one, Nat.zero_add, Int.toNat_natCast, Int.toNat_zero, List.drop_zero, List.append_eq, Nat.le_refl, Int.le_refl, true_and, and_true, zero_le_one, if_true, prod_eta, Int.natCast_zero]
def r7_Place.l0 (c20 : r7_SameKey.E) (k : Nat)  : Nat → (List X_Value) → (List X_Object) → X_Value → (Int) → (Int) → Option (Int)
  | 0, _, _, _, _, _ => none
  | n + 1, x1, x3, x5, x9, x10 => r7_Place.b_l0 c20 (fun x1 x3 x5 x9 x10 => r7_Place.l0 c20 k  n x1 x3 x5 x9 x10) x1 x3 x5 x9 x10
def r7_Place.f (c20 : r7_SameKey.E) (k : Nat) (a0 : List X_Object) (a1 : List X_Value) (a2 : X_Value) : Option (Int) := r7_Place.b c20 (r7_Place.l0 c20 k k) a0 a1 a2
noncomputable def r7_Place.M_l0 (c20 : r7_SameKey.E) (k n : Nat)  (s : St) : Option (Int) := atLoop (r7_Place.C c20) k n [1, 0, 1, 0] [] r7_Place.code (r7_Place.fin c20) s
noncomputable def r7_Place.fr_l0 (x1 : List X_Value) (x3 : List X_Object) (x5 : X_Value) (x9 : Int) (x10 : Int) : St := ⟨((((((List.replicate 22 V.un).set 1 (V.dat (.sl 26 Y_Value) x1)).set 3 (V.bp 600003 0 [])).set 5 (V.bp 600005 0 [])).set 9 (V.dat (.int .i64) x9)).set 10 (V.dat (.int .i64) x10)), [⟨600005, 0, .box (V.dat Y_Value x5)⟩, ⟨600003, 0, .box (V.dat Y_Heap x3)⟩]⟩
theorem r7_Place.r (c20 : r7_SameKey.E) (k : Nat) (a0 : List X_Object) (a1 : List X_Value) (a2 : X_Value) : fn (r7_Place.C c20) k Tryd.f119 r7_Place.A r7_Place.R (a0, (a1, a2)) = r7_Place.b c20 (fun x1 x3 x5 x9 x10 => r7_Place.M_l0 c20 k k  (r7_Place.fr_l0 x1 x3 x5 x9 x10)) a0 a1 a2 := by kernel_rfl
theorem r7_Place.z_l0 (c20 : r7_SameKey.E) (k : Nat)  (s : St) : r7_Place.M_l0 c20 k 0  s = none := by kernel_rfl
theorem r7_Place.r_l0 (c20 : r7_SameKey.E) (k n : Nat)  (x1 : List X_Value) (x3 : List X_Object) (x5 : X_Value) (x9 : Int) (x10 : Int) : r7_Place.M_l0 c20 k (n + 1)  (r7_Place.fr_l0 x1 x3 x5 x9 x10) = r7_Place.b_l0 c20 (fun x1 x3 x5 x9 x10 => r7_Place.M_l0 c20 k n  (r7_Place.fr_l0 x1 x3 x5 x9 x10)) x1 x3 x5 x9 x10 := by kernel_rfl
theorem r7_Place.e_l0 (c20 : r7_SameKey.E) (k n : Nat)  (x1 : List X_Value) (x3 : List X_Object) (x5 : X_Value) (x9 : Int) (x10 : Int) : r7_Place.M_l0 c20 k n  (r7_Place.fr_l0 x1 x3 x5 x9 x10) = r7_Place.l0 c20 k  n x1 x3 x5 x9 x10 := by
  induction n generalizing x1 x3 x5 x9 x10 with
  | zero => rw [r7_Place.z_l0]; rfl
  | succ n ih =>
    rw [r7_Place.r_l0]
    simp only [ih]
    rfl
theorem r7_Place.e (c20 : r7_SameKey.E) (k : Nat) (a0 : List X_Object) (a1 : List X_Value) (a2 : X_Value) : fn (r7_Place.C c20) k Tryd.f119 r7_Place.A r7_Place.R (a0, (a1, a2)) = r7_Place.f c20 k a0 a1 a2 := by
  rw [r7_Place.r]
  simp only [r7_Place.e_l0]
  rfl
theorem r7_Place.ty (c20 : r7_SameKey.E) : TyOk Tryd.prog (r7_Place.C c20) := tyOk_of (by kernel_rfl)
def r7_Place.u (k : Nat) : r7_Place.E := fun y => r7_Place.f (r7_SameKey.u k) k y.1 y.2.1 y.2.2
theorem r7_Place.sound (k : Nat) : Sound Tryd.prog ⟨119, r7_Place.A, r7_Place.R, r7_Place.u k⟩ := by
  have h := fn_sound (k := k) («as» := r7_Place.A) (rs := r7_Place.R) (r7_Place.ty (r7_SameKey.u k)) (fun E h => by
    simp only [r7_Place.C, List.mem_cons, List.not_mem_nil, or_false] at h
    rcases h with rfl
    · exact r7_SameKey.sound k) mixed Tryd.func119 (by kernel_rfl) (by kernel_rfl)
  have e : fn (r7_Place.C (r7_SameKey.u k)) k Tryd.f119 r7_Place.A r7_Place.R = r7_Place.u k := by
    funext y
    exact r7_Place.e (r7_SameKey.u k) k y.1 y.2.1 y.2.2
  rw [e] at h
  exact h
/-! ### brindlewood/brindlewoodref7.keyRule: f86 -/
abbrev r7_keyRule.A : List Sh := [(.d Y_Heap), (.d (.int .i64))]
abbrev r7_keyRule.R : List Sh := [(.d (.int .i64))]
abbrev r7_keyRule.E : Type := ((List X_Object) × (Int)) → Option (Int)
def r7_keyRule.C (c18 : r7_Keyed.E) (c119 : r7_Place.E) : Ctx := { ty := [(3, (.int .i64)), (26, Y_Value), (31, (.sl 26 Y_Value)), (48, (.sl 88 Y_Object)), (50, Y_Heap), (88, Y_Object)], nf := [(50, 1), (88, 10)], by_ := [(26, 96), (88, 168)], env := [⟨18, r7_Keyed.A, r7_Keyed.R, c18⟩, ⟨119, r7_Place.A, r7_Place.R, c119⟩], spec := [(0, [.bx 2 600002 (.d Y_Heap), .d 5 (.sl 26 Y_Value), .d 14 (.sl 26 Y_Value), .d 15 (.int .i64), .d 16 (.int .i64)])] }
noncomputable def r7_keyRule.code : Code := Func.code Tryd.f86
noncomputable def r7_keyRule.fin (c18 : r7_Keyed.E) (c119 : r7_Place.E) := kfin (r7_keyRule.C c18 c119) Tryd.f86 r7_keyRule.A r7_keyRule.R
def r7_keyRule.b (c18 : r7_Keyed.E) (c119 : r7_Place.E) (r_l0 : (List X_Object) → (List X_Value) → (List X_Value) → (Int) → (Int) → Option (Int)) (a0 : List X_Object) (a1 : Int) : Option (Int) :=
  if 0 ≤ a1 ∧ a1 < ((List.length a0) : Int) then
    r_l0 a0 (((((((((List.getD a0 (Int.toNat a1) Z_Object).2).2).2).2).2).2).2).1) (((((((((List.getD a0 (Int.toNat a1) Z_Object).2).2).2).2).2).2).2).1) ((List.length (((((((((List.getD a0 (Int.toNat a1) Z_Object).2).2).2).2).2).2).2).1)) : Int) (0 : Int)
  else none
def r7_keyRule.b_l0 (c18 : r7_Keyed.E) (c119 : r7_Place.E) (n_l0 : (List X_Object) → (List X_Value) → (List X_Value) → (Int) → (Int) → Option (Int)) (x2 : List X_Object) (x5 : List X_Value) (x14 : List X_Value) (x15 : Int) (x16 : Int) : Option (Int) :=
  bif (decide (x16 < x15)) then
    if 0 ≤ x16 ∧ x16 < ((List.length x14) : Int) then
      (c18 (x2, (List.getD x14 (Int.toNat x16) Z_Value))).bind fun y1 =>
        bif (!y1) then
          some (27 : Int)
        else
          if 0 ≤ (0 : Int) ∧ (0 : Int) ≤ x16 ∧ x16 ≤ ((List.length x5) : Int) then
            (c119 (x2, ((List.drop (Int.toNat (0 : Int)) (List.take (Int.toNat x16) x5)), (List.getD x14 (Int.toNat x16) Z_Value)))).bind fun y2 =>
              bif (decide (y2 ≥ (0 : Int))) then
                some (8 : Int)
              else
                n_l0 x2 x5 x14 x15 (IntKind.i64.wrap (x16 + (1 : Int)))
          else none
    else none
  else
    some (0 : Int)
def r7_keyRule.c (c18 : r7_Keyed.E) (c119 : r7_Place.E) (r_l0 : (List X_Object) → (List X_Value) → (List X_Value) → (Int) → (Int) → Option (Int)) (a0 : List X_Object) (a1 : Int) : Option (Int) :=
  if 0 ≤ a1 ∧ a1 < ((List.length a0) : Int) then
    r_l0 a0 (((((((((List.getD a0 (Int.toNat a1) Z_Object).2).2).2).2).2).2).2).1) (((((((((List.getD a0 (Int.toNat a1) Z_Object).2).2).2).2).2).2).2).1) ((List.length (((((((((List.getD a0 (Int.toNat a1) Z_Object).2).2).2).2).2).2).2).1)) : Int) (0 : Int)
  else none
theorem r7_keyRule.q (c18 : r7_Keyed.E) (c119 : r7_Place.E) (r_l0 : (List X_Object) → (List X_Value) → (List X_Value) → (Int) → (Int) → Option (Int)) (a0 : List X_Object) (a1 : Int) : r7_keyRule.b c18 c119 r_l0 a0 a1 = r7_keyRule.c c18 c119 r_l0 a0 a1 := by
  simp only [r7_keyRule.b, r7_keyRule.c, List.take_length, take_one, Nat.zero_add, Int.toNat_natCast, Int.toNat_zero, List.drop_zero, List.append_eq, Nat.le_refl, Int.le_refl, true_and, and_true, zero_le_one, if_true, prod_eta, Int.natCast_zero]
def r7_keyRule.c_l0 (c18 : r7_Keyed.E) (c119 : r7_Place.E) (n_l0 : (List X_Object) → (List X_Value) → (List X_Value) → (Int) → (Int) → Option (Int)) (x2 : List X_Object) (x5 : List X_Value) (x14 : List X_Value) (x15 : Int) (x16 : Int) : Option (Int) :=
  bif (decide (x16 < x15)) then
    if 0 ≤ x16 ∧ x16 < ((List.length x14) : Int) then
      (c18 (x2, (List.getD x14 (Int.toNat x16) Z_Value))).bind fun y1 =>
        bif !y1 then
          some (27 : Int)
        else
          if (0 : Int) ≤ x16 ∧ x16 ≤ ((List.length x5) : Int) then
            (c119 (x2, ((List.take (Int.toNat x16) x5), (List.getD x14 (Int.toNat x16) Z_Value)))).bind fun y2 =>
              bif (decide (y2 ≥ (0 : Int))) then
                some (8 : Int)
              else
                n_l0 x2 x5 x14 x15 (IntKind.i64.wrap (x16 + (1 : Int)))
          else none
    else none
  else
    some (0 : Int)
theorem r7_keyRule.q_l0 (c18 : r7_Keyed.E) (c119 : r7_Place.E) (n_l0 : (List X_Object) → (List X_Value) → (List X_Value) → (Int) → (Int) → Option (Int)) (x2 : List X_Object) (x5 : List X_Value) (x14 : List X_Value) (x15 : Int) (x16 : Int) : r7_keyRule.b_l0 c18 c119 n_l0 x2 x5 x14 x15 x16 = r7_keyRule.c_l0 c18 c119 n_l0 x2 x5 x14 x15 x16 := by
  simp only [r7_keyRule.b_l0, r7_keyRule.c_l0, List.take_length, take_one, Nat.zero_add, Int.toNat_natCast, Int.toNat_zero, List.drop_zero, List.append_eq, Nat.le_refl, Int.le_refl, true_and, and_true, zero_le_one, if_true, prod_eta, Int.natCast_zero]
def r7_keyRule.l0 (c18 : r7_Keyed.E) (c119 : r7_Place.E) (k : Nat)  : Nat → (List X_Object) → (List X_Value) → (List X_Value) → (Int) → (Int) → Option (Int)
  | 0, _, _, _, _, _ => none
  | n + 1, x2, x5, x14, x15, x16 => r7_keyRule.b_l0 c18 c119 (fun x2 x5 x14 x15 x16 => r7_keyRule.l0 c18 c119 k  n x2 x5 x14 x15 x16) x2 x5 x14 x15 x16
def r7_keyRule.f (c18 : r7_Keyed.E) (c119 : r7_Place.E) (k : Nat) (a0 : List X_Object) (a1 : Int) : Option (Int) := r7_keyRule.b c18 c119 (r7_keyRule.l0 c18 c119 k k) a0 a1
noncomputable def r7_keyRule.M_l0 (c18 : r7_Keyed.E) (c119 : r7_Place.E) (k n : Nat)  (s : St) : Option (Int) := atLoop (r7_keyRule.C c18 c119) k n [1, 1, 0, 1, 0] [] r7_keyRule.code (r7_keyRule.fin c18 c119) s
noncomputable def r7_keyRule.fr_l0 (x2 : List X_Object) (x5 : List X_Value) (x14 : List X_Value) (x15 : Int) (x16 : Int) : St := ⟨((((((List.replicate 33 V.un).set 2 (V.bp 600002 0 [])).set 5 (V.dat (.sl 26 Y_Value) x5)).set 14 (V.dat (.sl 26 Y_Value) x14)).set 15 (V.dat (.int .i64) x15)).set 16 (V.dat (.int .i64) x16)), [⟨600002, 0, .box (V.dat Y_Heap x2)⟩]⟩
theorem r7_keyRule.r (c18 : r7_Keyed.E) (c119 : r7_Place.E) (k : Nat) (a0 : List X_Object) (a1 : Int) : fn (r7_keyRule.C c18 c119) k Tryd.f86 r7_keyRule.A r7_keyRule.R (a0, a1) = r7_keyRule.b c18 c119 (fun x2 x5 x14 x15 x16 => r7_keyRule.M_l0 c18 c119 k k  (r7_keyRule.fr_l0 x2 x5 x14 x15 x16)) a0 a1 := by kernel_rfl
theorem r7_keyRule.z_l0 (c18 : r7_Keyed.E) (c119 : r7_Place.E) (k : Nat)  (s : St) : r7_keyRule.M_l0 c18 c119 k 0  s = none := by kernel_rfl
theorem r7_keyRule.r_l0 (c18 : r7_Keyed.E) (c119 : r7_Place.E) (k n : Nat)  (x2 : List X_Object) (x5 : List X_Value) (x14 : List X_Value) (x15 : Int) (x16 : Int) : r7_keyRule.M_l0 c18 c119 k (n + 1)  (r7_keyRule.fr_l0 x2 x5 x14 x15 x16) = r7_keyRule.b_l0 c18 c119 (fun x2 x5 x14 x15 x16 => r7_keyRule.M_l0 c18 c119 k n  (r7_keyRule.fr_l0 x2 x5 x14 x15 x16)) x2 x5 x14 x15 x16 := by kernel_rfl
theorem r7_keyRule.e_l0 (c18 : r7_Keyed.E) (c119 : r7_Place.E) (k n : Nat)  (x2 : List X_Object) (x5 : List X_Value) (x14 : List X_Value) (x15 : Int) (x16 : Int) : r7_keyRule.M_l0 c18 c119 k n  (r7_keyRule.fr_l0 x2 x5 x14 x15 x16) = r7_keyRule.l0 c18 c119 k  n x2 x5 x14 x15 x16 := by
  induction n generalizing x2 x5 x14 x15 x16 with
  | zero => rw [r7_keyRule.z_l0]; rfl
  | succ n ih =>
    rw [r7_keyRule.r_l0]
    simp only [ih]
    rfl
theorem r7_keyRule.e (c18 : r7_Keyed.E) (c119 : r7_Place.E) (k : Nat) (a0 : List X_Object) (a1 : Int) : fn (r7_keyRule.C c18 c119) k Tryd.f86 r7_keyRule.A r7_keyRule.R (a0, a1) = r7_keyRule.f c18 c119 k a0 a1 := by
  rw [r7_keyRule.r]
  simp only [r7_keyRule.e_l0]
  rfl
theorem r7_keyRule.ty (c18 : r7_Keyed.E) (c119 : r7_Place.E) : TyOk Tryd.prog (r7_keyRule.C c18 c119) := tyOk_of (by kernel_rfl)
def r7_keyRule.u (k : Nat) : r7_keyRule.E := fun y => r7_keyRule.f (r7_Keyed.u k) (r7_Place.u k) k y.1 y.2
theorem r7_keyRule.sound (k : Nat) : Sound Tryd.prog ⟨86, r7_keyRule.A, r7_keyRule.R, r7_keyRule.u k⟩ := by
  have h := fn_sound (k := k) («as» := r7_keyRule.A) (rs := r7_keyRule.R) (r7_keyRule.ty (r7_Keyed.u k) (r7_Place.u k)) (fun E h => by
    simp only [r7_keyRule.C, List.mem_cons, List.not_mem_nil, or_false] at h
    rcases h with rfl | rfl
    · exact r7_Keyed.sound k
    · exact r7_Place.sound k) mixed Tryd.func86 (by kernel_rfl) (by kernel_rfl)
  have e : fn (r7_keyRule.C (r7_Keyed.u k) (r7_Place.u k)) k Tryd.f86 r7_keyRule.A r7_keyRule.R = r7_keyRule.u k := by
    funext y
    exact r7_keyRule.e (r7_Keyed.u k) (r7_Place.u k) k y.1 y.2
  rw [e] at h
  exact h
/-! ### brindlewood/brindlewoodref7.HasInt: f139 -/
abbrev r7_HasInt.A : List Sh := [(.d (.sl 3 (.int .i64))), (.d (.int .i64))]
abbrev r7_HasInt.R : List Sh := [(.d .bool)]
abbrev r7_HasInt.E : Type := ((List (Int)) × (Int)) → Option (Bool)
def r7_HasInt.C (c117 : sl_Contains_int.E) : Ctx := { ty := [], nf := [], by_ := [], env := [⟨117, sl_Contains_int.A, sl_Contains_int.R, c117⟩], spec := [] }
noncomputable def r7_HasInt.code : Code := Func.code Tryd.f139
noncomputable def r7_HasInt.fin (c117 : sl_Contains_int.E) := kfin (r7_HasInt.C c117) Tryd.f139 r7_HasInt.A r7_HasInt.R
def r7_HasInt.b (c117 : sl_Contains_int.E)  (a0 : List (Int)) (a1 : Int) : Option (Bool) :=
  (c117 (a0, a1)).bind fun y1 =>
    some y1
def r7_HasInt.f (c117 : sl_Contains_int.E) (k : Nat) (a0 : List (Int)) (a1 : Int) : Option (Bool) := r7_HasInt.b c117  a0 a1
theorem r7_HasInt.r (c117 : sl_Contains_int.E) (k : Nat) (a0 : List (Int)) (a1 : Int) : fn (r7_HasInt.C c117) k Tryd.f139 r7_HasInt.A r7_HasInt.R (a0, a1) = r7_HasInt.b c117  a0 a1 := by kernel_rfl
theorem r7_HasInt.e (c117 : sl_Contains_int.E) (k : Nat) (a0 : List (Int)) (a1 : Int) : fn (r7_HasInt.C c117) k Tryd.f139 r7_HasInt.A r7_HasInt.R (a0, a1) = r7_HasInt.f c117 k a0 a1 := by
  rw [r7_HasInt.r]
  rfl
theorem r7_HasInt.ty (c117 : sl_Contains_int.E) : TyOk Tryd.prog (r7_HasInt.C c117) := tyOk_of (by kernel_rfl)
def r7_HasInt.u (k : Nat) : r7_HasInt.E := fun y => r7_HasInt.f (sl_Contains_int.u k) k y.1 y.2
theorem r7_HasInt.sound (k : Nat) : Sound Tryd.prog ⟨139, r7_HasInt.A, r7_HasInt.R, r7_HasInt.u k⟩ := by
  have h := fn_sound (k := k) («as» := r7_HasInt.A) (rs := r7_HasInt.R) (r7_HasInt.ty (sl_Contains_int.u k)) (fun E h => by
    simp only [r7_HasInt.C, List.mem_cons, List.not_mem_nil, or_false] at h
    rcases h with rfl
    · exact sl_Contains_int.sound k) mixed Tryd.func139 (by kernel_rfl) (by kernel_rfl)
  have e : fn (r7_HasInt.C (sl_Contains_int.u k)) k Tryd.f139 r7_HasInt.A r7_HasInt.R = r7_HasInt.u k := by
    funext y
    exact r7_HasInt.e (sl_Contains_int.u k) k y.1 y.2
  rw [e] at h
  exact h
end
end Go.Ab
