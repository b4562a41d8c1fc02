/- A part of the proof: RS4. -/
import Derived.Test.YtgkjkmpeeneilaaRS3
namespace Go.Ab
set_option linter.unusedVariables false
set_option linter.unusedSimpArgs false
def rd6 (p : X_Param) (df bare fol : Bool) : Int := bif bare && !fol then 11 else cd7 p df
def rd5b (p : X_Param) (df bare fol : Bool) (bef : Int) : Int := bif p.1 == 2 && decide (bef ≤ 0) then 11 else rd6 p df bare fol
def rd5 (p : X_Param) (df st pa bare fol : Bool) (bef : Int) : Int := bif decide (p.1 < bef) || (st || pa) && p.1 == bef then 11 else rd5b p df bare fol bef
def rd4 (p : X_Param) (df st pa bare fol : Bool) (bef : Int) : Int := bif decide ((p.2.2.length : Int) > 1) || (p.2.2.length : Int) == 1 && (st || pa) then 6 else rd5 p df st pa bare fol bef
def rd2 (p : X_Param) (tw df st pa bare fol : Bool) (bef : Int) : Int := bif !bare && !nameB p.2.1 then 7 else bif tw then 8 else rd4 p df st pa bare fol bef
def rd1 (p : X_Param) (tw df st pa bare fol : Bool) (bef : Int) : Int := bif p.1 != 0 && (p.1 != 2 && (!st && !pa)) then 5 else rd2 p tw df st pa bare fol bef
def folB (l : List X_Param) (i : Nat) : Bool := decide (i + 1 < l.length) && (l.getD (i + 1) z50).1 == 2
def twB (l : List X_Param) (p : X_Param) : Bool := l.any fun q => q.2.1 == p.2.1 && p.2.1 != []
def dfB (l : List X_Param) : Bool := l.any fun q => decide ((q.2.2.length : Int) > 0)
section
variable {k : Nat} {nx : List X_Param → X_Fault → List X_Param → Int → Int → Option X_Fault}
theorem f_ref7_ParamsFault.tail (hk : 24 < k) {l : List X_Param} (hl : l.length ≤ 12) {i : Nat} (hi : i < l.length) (p : X_Param) (tw df : Bool) (bef : Int) :
    f_ref7_ParamsFault.g16 (f_ref7_At.u k) (f_ref7_NameOk.u k) k nx l (0, 0) (i : Int) p tw df bef l (l.length : Int) (i : Int) =
      (fun c : Int => bif c != 0 then some (c, (i : Int)) else nx l (0, 0) l (l.length : Int) ((i + 1 : Nat) : Int)) (rd1 p tw df (p.1 == 1) (p.1 == 3) (p.1 == 1 && p.2.1 == []) (folB l i) bef) := by
  have g0 : ∀ {x : Option X_Fault}, gate k x = x := gate_pos (by omega) _
  have hw := wrapN (show i < 9223372036854775807 by omega)
  have e35 := f_ref7_NameOk.spec (k := k) (s := p.2.1) hk
  generalize hE : (fun c : Int => bif c != 0 then some (c, (i : Int)) else nx l (0, 0) l (l.length : Int) ((i + 1 : Nat) : Int)) = E
  have hf : ∀ c : Int, c ≠ 0 → (f_ref7_At.u k (c, (i : Int))).bind (fun y => some y) = E c := by
    intro c hc
    subst hE
    rw [f_ref7_At.spec, Option.bind_some]
    show _ = (bif c != 0 then _ else _)
    rw [show (c != 0) = true by simpa using hc, cond_true]
  have hn : nx l (0, 0) l (l.length : Int) ((i + 1 : Nat) : Int) = E 0 := by subst hE; rfl
  have h31 : f_ref7_ParamsFault.g31 (f_ref7_At.u k) (f_ref7_NameOk.u k) k nx l (0, 0) (i : Int) p df l (l.length : Int) (i : Int) = E (cd7 p df) := by
    simp only [f_ref7_ParamsFault.g31, g0, f_ref7_ParamsFault.b_g31, hf 11 (by decide), hw, hn, cd7]
    generalize (p.1 == 0) = b1
    generalize ((p.2.2.length : Int) == 0) = b2
    cases b1 <;> cases b2 <;> cases df <;> rfl
  have h30 : ∀ bare fol, f_ref7_ParamsFault.g30 (f_ref7_At.u k) (f_ref7_NameOk.u k) k nx l (0, 0) (i : Int) p df bare fol l (l.length : Int) (i : Int) = E (rd6 p df bare fol) := by
    intro bare fol
    simp only [f_ref7_ParamsFault.g30, g0, f_ref7_ParamsFault.b_g30, hf 11 (by decide), hw, hn, h31, rd6]
    cases bare <;> cases fol <;> rfl
  have h29 : ∀ bare fol, f_ref7_ParamsFault.g29 (f_ref7_At.u k) (f_ref7_NameOk.u k) k nx l (0, 0) (i : Int) p df bef bare fol l (l.length : Int) (i : Int) = E (rd5b p df bare fol bef) := by
    intro bare fol
    simp only [f_ref7_ParamsFault.g29, g0, f_ref7_ParamsFault.b_g29, hf 11 (by decide), hw, hn, h30, rd5b]
    generalize (p.1 == 2) = b1
    generalize decide (bef ≤ 0) = b2
    cases b1 <;> cases b2 <;> rfl
  have h27 : ∀ st pa bare fol, f_ref7_ParamsFault.g27 (f_ref7_At.u k) (f_ref7_NameOk.u k) k nx l (0, 0) (i : Int) p df bef st pa bare fol l (l.length : Int) (i : Int) = E (rd5 p df st pa bare fol bef) := by
    intro st pa bare fol
    simp only [f_ref7_ParamsFault.g27, g0, f_ref7_ParamsFault.b_g27, hf 11 (by decide), hw, hn, h29, rd5]
    generalize decide (p.1 < bef) = b1
    generalize (p.1 == bef) = b2
    cases b1 <;> cases b2 <;> cases st <;> cases pa <;> rfl
  have h25 : ∀ st pa bare fol, f_ref7_ParamsFault.g25 (f_ref7_At.u k) (f_ref7_NameOk.u k) k nx l (0, 0) (i : Int) p df bef st pa bare fol l (l.length : Int) (i : Int) = E (rd4 p df st pa bare fol bef) := by
    intro st pa bare fol
    simp only [f_ref7_ParamsFault.g25, g0, f_ref7_ParamsFault.b_g25, hf 6 (by decide), h27, rd4]
    generalize decide ((p.2.2.length : Int) > 1) = b1
    generalize ((p.2.2.length : Int) == 1) = b2
    cases b1 <;> cases b2 <;> cases st <;> cases pa <;> rfl
  have h21 : ∀ st pa bare fol, f_ref7_ParamsFault.g21 (f_ref7_At.u k) (f_ref7_NameOk.u k) k nx l (0, 0) (i : Int) p tw df bef st pa bare fol l (l.length : Int) (i : Int) = E (rd2 p tw df st pa bare fol bef) := by
    intro st pa bare fol
    simp only [f_ref7_ParamsFault.g21, g0, f_ref7_ParamsFault.b_g21, hf 7 (by decide), hf 8 (by decide), h25, e35, Option.bind_some, rd2]
    generalize nameB p.2.1 = b1
    cases b1 <;> cases bare <;> cases tw <;> rfl
  have h19 : ∀ st pa bare fol, f_ref7_ParamsFault.g19 (f_ref7_At.u k) (f_ref7_NameOk.u k) k nx l (0, 0) (i : Int) p tw df bef st pa bare fol l (l.length : Int) (i : Int) = E (rd1 p tw df st pa bare fol bef) := by
    intro st pa bare fol
    simp only [f_ref7_ParamsFault.g19, g0, f_ref7_ParamsFault.b_g19, hf 5 (by decide), h21, rd1]
    generalize (p.1 != 0) = b1
    generalize (p.1 != 2) = b2
    cases b1 <;> cases b2 <;> cases st <;> cases pa <;> rfl
  have h18 : ∀ st pa bare, f_ref7_ParamsFault.g18 (f_ref7_At.u k) (f_ref7_NameOk.u k) k nx l (0, 0) (i : Int) p tw df bef st pa bare l (l.length : Int) (i : Int) = E (rd1 p tw df st pa bare (folB l i) bef) := by
    intro st pa bare
    simp only [f_ref7_ParamsFault.g18, g0, f_ref7_ParamsFault.b_g18, h19, hw, folB]
    by_cases h : i + 1 < l.length
    · rw [decide_eq_true (by omega), cond_true, if_pos ⟨by omega, by omega⟩, Int.toNat_natCast, decide_eq_true h, Bool.true_and]
    · rw [decide_eq_false (by omega), cond_false, decide_eq_false h, Bool.false_and]
  simp only [f_ref7_ParamsFault.g16, g0, f_ref7_ParamsFault.b_g16, h18]
  generalize (p.2.1 == []) = b2
  cases (p.1 == 1) <;> rfl
/-- the inner search -/
theorem f_ref7_ParamsFault.l2_spec (hk : 24 < k) {l : List X_Param} {i : Nat} (p : X_Param) (r : List X_Param) (hr : r.length ≤ 12) (R : Option X_Fault) (hR : ∀ n2, f_ref7_ParamsFault.b_l2 (f_ref7_At.u k) (f_ref7_NameOk.u k) n2 (f_ref7_ParamsFault.g16 (f_ref7_At.u k) (f_ref7_NameOk.u k) k nx) l (0, 0) (i : Int) p (twB r p) (dfB r) l (l.length : Int) (i : Int) r (r.length : Int) (r.length : Int) = R) (d : Nat) :
    ∀ (n j : Nat), j ≤ r.length → r.length - j = d → d < n →
      f_ref7_ParamsFault.l2 (f_ref7_At.u k) (f_ref7_NameOk.u k) k nx n l (0, 0) (i : Int) p (twB (r.take j) p) (dfB (r.take j)) l (l.length : Int) (i : Int) r (r.length : Int) (j : Int) = R := by
  have g0 : ∀ {x : Option X_Fault}, gate k x = x := gate_pos (by omega) _
  induction d with
  | zero =>
    intro n j hj hd hn
    obtain ⟨n, rfl⟩ : ∃ m, n = m + 1 := ⟨n - 1, by omega⟩
    obtain rfl : j = r.length := by omega
    rw [List.take_length, f_ref7_ParamsFault.l2]
    exact hR _
  | succ d ih =>
    intro n j hj hd hn
    obtain ⟨n, rfl⟩ : ∃ m, n = m + 1 := ⟨n - 1, by omega⟩
    have hlt : j < r.length := by omega
    have hw := wrapN (show j < 9223372036854775807 by omega)
    have nx1 := ih n (j + 1) (by omega) (by omega) (by omega)
    have e1 : twB (r.take (j + 1)) p = (twB (r.take j) p || ((r[j]).2.1 == p.2.1 && p.2.1 != [])) := by
      rw [List.take_succ_eq_append_getElem hlt, twB, List.any_append]; simp [twB]
    have e2 : dfB (r.take (j + 1)) = (dfB (r.take j) || decide (((r[j]).2.2.length : Int) > 0)) := by
      rw [List.take_succ_eq_append_getElem hlt, dfB, List.any_append]; simp [dfB]
    rw [e1, e2] at nx1
    rw [f_ref7_ParamsFault.l2, f_ref7_ParamsFault.b_l2, decide_eq_true (by omega), cond_true, if_pos ⟨by omega, by omega⟩, Int.toNat_natCast, getD_of hlt, ← nx1]
    simp only [f_ref7_ParamsFault.g11, g0, f_ref7_ParamsFault.b_g11, hw]
    generalize twB (r.take j) p = b1
    generalize dfB (r.take j) = b2
    generalize ((r[j]).2.1 == p.2.1) = b3
    generalize (p.2.1 != []) = b4
    cases b1 <;> cases b2 <;> cases b3 <;> cases b4 <;> rfl
end
def bef13 (l : List X_Param) (i : Nat) : Int := if 0 < i then (l.getD (i - 1) z50).1 else -1
theorem f_ref7_ParamsFault.step {k n : Nat} (hk : 24 < k) {l : List X_Param} (hl : l.length ≤ 12) {i : Nat} (hi : i < l.length) :
    f_ref7_ParamsFault.l0 (f_ref7_At.u k) (f_ref7_NameOk.u k) k (n + 1) l (0, 0) l (l.length : Int) (i : Int) =
      (fun c : Int => bif c != 0 then some (c, (i : Int)) else f_ref7_ParamsFault.l0 (f_ref7_At.u k) (f_ref7_NameOk.u k) k n l (0, 0) l (l.length : Int) ((i + 1 : Nat) : Int))
        (rd1 l[i] (twB (l.take i) l[i]) (dfB (l.take i)) ((l[i]).1 == 1) ((l[i]).1 == 3) ((l[i]).1 == 1 && (l[i]).2.1 == []) (folB l i) (bef13 l i)) := by
  rw [f_ref7_ParamsFault.l0, f_ref7_ParamsFault.b_l0, decide_eq_true (by omega), cond_true, if_pos ⟨by omega, by omega⟩, if_pos ⟨by omega, by omega, by omega⟩, Int.toNat_natCast, getD_of hi]
  have e : List.drop (Int.toNat 0) (List.take i l) = l.take i := rfl
  rw [e]
  have hlen : (l.take i).length = i := by rw [List.length_take]; omega
  refine f_ref7_ParamsFault.l2_spec (k := k) (nx := fun x0 x2 x18 x19 x20 => f_ref7_ParamsFault.l0 (f_ref7_At.u k) (f_ref7_NameOk.u k) k n x0 x2 x18 x19 x20) hk (l := l) (i := i) l[i] (l.take i) (by omega) _ (fun n2 => ?_) (l.take i).length k 0 (by omega) rfl (by omega)
  have key := fun bef : Int => f_ref7_ParamsFault.tail (nx := fun x0 x2 x18 x19 x20 => f_ref7_ParamsFault.l0 (f_ref7_At.u k) (f_ref7_NameOk.u k) k n x0 x2 x18 x19 x20) hk hl hi l[i] (twB (l.take i) l[i]) (dfB (l.take i)) bef
  rw [f_ref7_ParamsFault.b_l2, decide_eq_false (by omega), cond_false]
  by_cases h0 : 0 < i
  · rw [decide_eq_true (by omega), cond_true, wrapI (by omega) (by omega), if_pos ⟨by omega, by omega⟩, key, show (l.getD ((i : Int) - 1).toNat (0, ([], []))).1 = bef13 l i by rw [bef13, if_pos h0]; congr 2; omega]
  · rw [decide_eq_false (by omega), cond_false, key, show (-1 : Int) = bef13 l i by rw [bef13, if_neg h0]]
end Go.Ab
