/- A part of the proof: RS22. -/
import Derived.Test.YtgkjkmpeeneilaaRS21
import Derived.Test.YtgkjkmpeeneilaaRS20
namespace Go.Ab
set_option linter.unusedVariables false
set_option linter.unusedSimpArgs false
/-! sameness is reflexive -/
abbrev Str := List UInt8
def BIG : Nat := 35184372088832
def vOk (v : X_Value) : Prop := v.2.1.2.length ≤ BIG ∧ v.2.2.1.2.length ≤ BIG
theorem sameInt_refl {k : Nat} (hk : BIG < k) {v : X_Int} (h : v.2.length ≤ BIG) : f_ref7_SameInt.u k (v, v) = some true := by
  unfold BIG at h hk
  show f_ref7_SameInt.f (f_slices_Equal_uint32.u k) k v v = _
  rw [f_ref7_SameInt.f, f_ref7_SameInt.b, beq_self_eq_true, cond_true, f_slices_Equal_uint32.spec (by omega) (by omega), beq_self_eq_true]
  rfl
theorem sameValue_refl {k : Nat} (hk : BIG < k) {v : X_Value} (h : vOk v) : f_ref7_SameValue.u k (v, v) = some true := by
  show f_ref7_SameValue.f (f_ref7_SameInt.u k) k v v = _
  rw [f_ref7_SameValue.f, f_ref7_SameValue.b, beq_self_eq_true, cond_true, beq_self_eq_true, cond_true, beq_self_eq_true, cond_true]
  have h1 := sameInt_refl hk h.1
  have h2 := sameInt_refl hk h.2
  rw [h1, Option.bind_some, cond_true, h2]
  rfl
theorem sameValues_refl {k : Nat} (hk : BIG < k) {l : List X_Value} (hl : l.length ≤ BIG) (h : ∀ v ∈ l, vOk v) : f_ref7_SameValues.u k (l, l) = some true := by
  show f_ref7_SameValues.f (f_ref7_SameValue.u k) k l l = _
  rw [f_ref7_SameValues.f, f_ref7_SameValues.b, show ((l.length : Int) != (l.length : Int)) = false by simp, cond_false]
  unfold BIG at hl
  have key : ∀ (d n i : Nat), i ≤ l.length → l.length - i = d → d < n → f_ref7_SameValues.l0 (f_ref7_SameValue.u k) k n l l (l.length : Int) (i : Int) = some true := by
    intro d
    induction d with
    | zero =>
      intro n i hi hd hn
      obtain ⟨n, rfl⟩ : ∃ m, n = m + 1 := ⟨n - 1, by omega⟩
      rw [f_ref7_SameValues.l0, f_ref7_SameValues.b_l0, decide_eq_false (by omega), cond_false]
    | succ d ih =>
      intro n i hi hd hn
      obtain ⟨n, rfl⟩ : ∃ m, n = m + 1 := ⟨n - 1, by omega⟩
      have hlt : i < l.length := by omega
      rw [f_ref7_SameValues.l0, f_ref7_SameValues.b_l0, decide_eq_true (by omega), cond_true, if_pos ⟨by omega, by omega⟩, if_pos ⟨by omega, by omega⟩, Int.toNat_natCast, getD_of hlt, sameValue_refl hk (h _ (List.getElem_mem hlt)), Option.bind_some, Bool.not_true, cond_false, wrapN (by omega)]
      exact ih n (i + 1) (by omega) (by omega) (by omega)
  unfold BIG at hk
  exact key l.length k 0 (by omega) (by omega) (by omega)
structure BOk (b : X_Bound) : Prop where
  v : b.1.length ≤ BIG ∧ ∀ x ∈ b.1, vOk x
  r : b.2.1.length ≤ BIG ∧ ∀ x ∈ b.2.1, vOk x
  n : b.2.2.1.length ≤ BIG
  d : b.2.2.2.length ≤ BIG ∧ ∀ x ∈ b.2.2.2, vOk x
theorem sameBound_refl {k : Nat} (hk : BIG < k) {b : X_Bound} (h : BOk b) : f_ref7_SameBound.u k (b, b) = some true := by
  show f_ref7_SameBound.f (f_ref7_SameValues.u k) (f_ref7_Strings.u k) k b b = _
  have hn := h.n
  have hk' := hk
  unfold BIG at hn hk'
  rw [f_ref7_SameBound.f, f_ref7_SameBound.b, sameValues_refl hk h.v.1 h.v.2, Option.bind_some, cond_true, sameValues_refl hk h.r.1 h.r.2, Option.bind_some, cond_true, f_ref7_Strings.spec (by omega) (by omega), Option.bind_some, beq_self_eq_true, cond_true, sameValues_refl hk h.d.1 h.d.2]
  rfl
/-! what a binding comes to -/
abbrev UNB : X_Value := (9, ((false, []), ((false, []), ([], 0))))
abbrev eB : X_Bound := ([], ([], ([], [])))
def sMany : Str := [40, 41, 32, 103, 111, 116, 32, 116, 111, 111, 32, 109, 97, 110, 121, 32, 97, 114, 103, 117, 109, 101, 110, 116, 115]
def sTwo : Str := [40, 41, 32, 103, 111, 116, 32, 116, 119, 111, 32, 118, 97, 108, 117, 101, 115, 32, 102, 111, 114, 32, 39]
def sUnk : Str := [40, 41, 32, 103, 111, 116, 32, 97, 110, 32, 117, 110, 107, 110, 111, 119, 110, 32, 97, 114, 103, 117, 109, 101, 110, 116, 32, 39]
def sNeeds : Str := [40, 41, 32, 110, 101, 101, 100, 115, 32, 39]
def nPlain (P : List X_Param) : Nat := (P.filter fun p => p.1 == 0).length
def hasStar (P : List X_Param) : Bool := P.any fun p => p.1 == 1 && p.2.1 != []
def hasPairs (P : List X_Param) : Bool := P.any fun p => p.1 == 3
def own (p : X_Param) (s : Str) : Bool := p.2.1 == s && (p.1 == 0 || p.1 == 2)
def isOwn (P : List X_Param) (s : Str) : Bool := P.any fun p => own p s
/-- names and values given so far, and what goes to the pairs -/
structure Gv where
  names : List Str
  given : List X_Value
  oN : List Str
  oV : List X_Value
def proc (P : List X_Param) (fn : Str) : List (Str × X_Value) → Gv → Except Str Gv
  | [], g => .ok g
  | (s, v) :: r, g =>
    bif g.names.any (fun y => s == y) then .error (fn ++ sTwo ++ s ++ [39]) else
    bif !isOwn P s && !hasPairs P then .error (fn ++ sUnk ++ s ++ [39]) else
    proc P fn r (bif isOwn P s then ⟨g.names ++ [s], g.given ++ [v], g.oN, g.oV⟩ else ⟨g.names ++ [s], g.given ++ [v], g.oN ++ [s], g.oV ++ [v]⟩)
def look1 (g : Gv) (s : Str) : Option X_Value := bif g.names.any (fun y => s == y) then some (g.given.getD (idxF (fun y => s == y) g.names 0).toNat Z_Value) else none
/-- the values of the parameters; defaults from place 'next' on -/
def fill (fn : Str) (D : List X_Value) (g : Gv) : List X_Param → Nat → Except Str (List X_Value)
  | [], _ => .ok []
  | p :: r, next =>
    bif p.1 == 0 || p.1 == 2 then
      match look1 g p.2.1 with
      | some v => (fill fn D g r (next + p.2.2.length)).map (v :: ·)
      | none => bif decide (p.2.2.length > 0) then (fill fn D g r (next + p.2.2.length)).map (D.getD next Z_Value :: ·) else .error (fn ++ sNeeds ++ p.2.1 ++ [39])
    else (fill fn D g r (next + p.2.2.length)).map (UNB :: ·)
def start (P : List X_Param) (V : List X_Value) : Gv := ⟨(P.take (min (nPlain P) V.length)).map (·.2.1), V.take (min (nPlain P) V.length), [], []⟩
def boundS (P : List X_Param) (D : List X_Value) (a : X_Arguments) (fn : Str) : X_Bound × Str :=
  bif decide (a.1.length > nPlain P) && !hasStar P then (eB, fn ++ sMany) else
  match proc P fn (a.2.1.zip a.2.2) (start P a.1) with
  | .error m => (eB, m)
  | .ok g => match fill fn D g P 0 with
    | .error m => (eB, m)
    | .ok vs => ((vs, (a.1.drop (nPlain P), (g.oN, g.oV))), [])
end Go.Ab
