/- A part of the proof: RS24. -/
import Derived.Test.YtgkjkmpeeneilaaRS23
namespace Go.Ab
set_option linter.unusedVariables false
set_option linter.unusedSimpArgs false
section
variable {k : Nat} {P : List X_Param} {D : List X_Value} {a : X_Arguments} {fn : Str}
structure GB (g : Gv) (i : Nat) : Prop where
  n : g.names.length ≤ 12 + i
  gl : g.given.length = g.names.length
  oN : g.oN.length ≤ i
  oV : g.oV.length = g.oN.length
abbrev bL5 (k : Nat) := f_ref7_Bound.l5 (f_ref7_HasString.u k) (f_slices_Index_string.u k) k
theorem rb_l5 (h : HB P D a fn) (hk : 5000 < k) {rest : List X_Value} (Rk : Gv → Option (X_Bound × Str))
    (hR : ∀ (g : Gv), GB g 1000 → f_ref7_Bound.l9 (f_ref7_HasString.u k) (f_slices_Index_string.u k) k k D fn eB g.names g.given ([], (rest, (g.oN, g.oV))) 0 P (P.length : Int) 0 = Rk g) (d : Nat) :
    ∀ (n i : Nat) (g : Gv), i ≤ a.2.1.length → a.2.1.length - i = d → d < n → GB g i → bL5 k n P D fn a eB (hasPairs P) g.names g.given ([], (rest, (g.oN, g.oV))) a.2.1 (a.2.1.length : Int) (i : Int) =
      match proc P fn ((a.2.1.zip a.2.2).drop i) g with | .error m => some (eB, m) | .ok g' => Rk g' := by
  have hP := h.P12
  have hV := h.V
  have hNN := h.NN
  have hfn := h.fnl
  induction d with
  | zero =>
    intro n i g hi hd hn hg
    obtain ⟨n, rfl⟩ : ∃ m, n = m + 1 := ⟨n - 1, by omega⟩
    obtain rfl : i = a.2.1.length := by omega
    rw [bL5, f_ref7_Bound.l5, f_ref7_Bound.q_l5, f_ref7_Bound.c_l5, decide_eq_false (by omega), cond_false, List.drop_of_length_le (by rw [List.length_zip]; omega)]
    exact hR g ⟨by have := hg.n; omega, hg.gl, by have := hg.oN; omega, hg.oV⟩
  | succ d ih =>
    intro n i g hi hd hn hg
    obtain ⟨n, rfl⟩ : ∃ m, n = m + 1 := ⟨n - 1, by omega⟩
    have hlt : i < a.2.1.length := by omega
    have hlt2 : i < a.2.2.length := by omega
    have hz : (a.2.1.zip a.2.2).drop i = (a.2.1[i], a.2.2[i]) :: (a.2.1.zip a.2.2).drop (i + 1) := by
      rw [drop_cons (by rw [List.length_zip]; omega), List.getElem_zip]
    have hnl := hg.n
    have hgl := hg.gl
    have hol := hg.oN
    have hovl := hg.oV
    have hs := h.nl _ (List.getElem_mem hlt)
    rw [hz, proc, bL5, f_ref7_Bound.l5, f_ref7_Bound.q_l5, f_ref7_Bound.c_l5, decide_eq_true (by omega), cond_true, if_pos ⟨by omega, by omega⟩, Int.toNat_natCast, getD_of hlt, f_ref7_HasString.spec (by omega) (by omega), Option.bind_some]
    generalize hsg : a.2.1[i] = s at *
    generalize hvg : a.2.2[i] = v at *
    cases h1 : g.names.any (fun y => s == y) with
    | true =>
      rw [cond_true, cond_true, if_pos (by show fn.length + 23 ≤ _; omega), if_pos (by rw [List.length_append]; show fn.length + 23 + s.length ≤ _; omega), if_pos (by rw [List.length_append, List.length_append]; show fn.length + 23 + s.length + 1 ≤ _; omega)]
      rfl
    | false =>
      rw [cond_false, cond_false]
      refine rb_l7 h (nx := fun x0 x1 x3 x6 x8 x12 x15 x16 x19 x113 x114 x115 => f_ref7_Bound.l5 (f_ref7_HasString.u k) (f_slices_Index_string.u k) k n x0 x1 x3 x6 x8 x12 x15 x16 x19 x113 x114 x115) (g := g) (s := s) _ (fun n2 => ?_) P.length k 0 (by omega) (by omega) (by omega)
      have e38 : f_ref7_Bound.g38 (f_ref7_HasString.u k) (f_slices_Index_string.u k) k (fun x0 x1 x3 x6 x8 x12 x15 x16 x19 x113 x114 x115 => f_ref7_Bound.l5 (f_ref7_HasString.u k) (f_slices_Index_string.u k) k n x0 x1 x3 x6 x8 x12 x15 x16 x19 x113 x114 x115) P D fn a eB (hasPairs P) g.names g.given ([], (rest, (g.oN, g.oV))) (i : Int) s (isOwn P s) a.2.1 (a.2.1.length : Int) (i : Int) =
          match proc P fn ((a.2.1.zip a.2.2).drop (i + 1)) (bif isOwn P s then ⟨g.names ++ [s], g.given ++ [v], g.oN, g.oV⟩ else ⟨g.names ++ [s], g.given ++ [v], g.oN ++ [s], g.oV ++ [v]⟩) with | .error m => some (eB, m) | .ok g' => Rk g' := by
        rw [f_ref7_Bound.g38, gate_pos (by omega), f_ref7_Bound.q_g38, f_ref7_Bound.c_g38, if_pos (by simp only [LIM, List.length_cons, List.length_nil]; omega), if_pos ⟨by omega, by omega⟩, Int.toNat_natCast, getD_of hlt2, hvg, if_pos (by simp only [LIM, List.length_cons, List.length_nil]; omega), wrapN (by omega)]
        cases ho : isOwn P s with
        | true =>
          rw [Bool.not_true, cond_false, cond_true]
          exact ih n (i + 1) ⟨g.names ++ [s], g.given ++ [v], g.oN, g.oV⟩ (by omega) (by omega) (by omega) ⟨by simp; omega, by simp; omega, by simp; omega, hovl⟩
        | false =>
          rw [Bool.not_false, cond_true, cond_false, if_pos (by simp only [LIM, List.length_cons, List.length_nil]; omega), if_pos ⟨by omega, by omega⟩, if_pos (by simp only [LIM, List.length_cons, List.length_nil]; omega)]
          exact ih n (i + 1) ⟨g.names ++ [s], g.given ++ [v], g.oN ++ [s], g.oV ++ [v]⟩ (by omega) (by omega) (by omega) ⟨by simp; omega, by simp; omega, by simp; omega, by simp; omega⟩
      rw [f_ref7_Bound.q_l7, f_ref7_Bound.c_l7, decide_eq_false (by omega), cond_false, e38]
      cases ho : isOwn P s with
      | true => rfl
      | false =>
        cases hp : hasPairs P with
        | true => rfl
        | false =>
          rw [Bool.not_false, cond_true, cond_true, if_pos (by show fn.length + 28 ≤ _; omega), if_pos (by rw [List.length_append]; show fn.length + 28 + s.length ≤ _; omega), if_pos (by rw [List.length_append, List.length_append]; show fn.length + 28 + s.length + 1 ≤ _; omega)]
          rfl
/-- how many defaults lie ahead -/
def nD (P : List X_Param) : Nat := (P.map fun p => p.2.2.length).sum
theorem nD_take {P : List X_Param} {i : Nat} (h : i < P.length) : nD (P.take (i + 1)) = nD (P.take i) + (P[i]).2.2.length := by
  unfold nD
  rw [List.take_succ_eq_append_getElem h, List.map_append, List.sum_append]
  simp
theorem nD_le {P : List X_Param} (i : Nat) : nD (P.take i) ≤ nD P := by
  unfold nD
  have : (P.map fun p => p.2.2.length).sum = ((P.take i).map fun p => p.2.2.length).sum + ((P.drop i).map fun p => p.2.2.length).sum := by
    rw [← List.sum_append, ← List.map_append, List.take_append_drop]
  omega
theorem rb_l9 (h : HB P D a fn) (hk : 5000 < k) {g : Gv} (hg : GB g 1000) {rest : List X_Value} (d : Nat) : ∀ (n i : Nat) (vs : List X_Value), i ≤ P.length → P.length - i = d → d < n → vs.length = i →
    f_ref7_Bound.l9 (f_ref7_HasString.u k) (f_slices_Index_string.u k) k n D fn eB g.names g.given (vs, (rest, (g.oN, g.oV))) (nD (P.take i) : Int) P (P.length : Int) (i : Int) =
      match fill fn D g (P.drop i) (nD (P.take i)) with | .error m => some (eB, m) | .ok ws => some ((vs ++ ws, (rest, (g.oN, g.oV))), []) := by
  have hP := h.P12
  have hfn := h.fnl
  have hnl := hg.n
  have hgl := hg.gl
  have hD : D.length = nD P := h.D12
  induction d with
  | zero =>
    intro n i vs hi hd hn hvs
    obtain ⟨n, rfl⟩ : ∃ m, n = m + 1 := ⟨n - 1, by omega⟩
    obtain rfl : i = P.length := by omega
    rw [f_ref7_Bound.l9, f_ref7_Bound.q_l9, f_ref7_Bound.c_l9, decide_eq_false (by omega), cond_false, List.drop_length, fill]
    dsimp only
    rw [List.append_nil]
  | succ d ih =>
    intro n i vs hi hd hn hvs
    obtain ⟨n, rfl⟩ : ∃ m, n = m + 1 := ⟨n - 1, by omega⟩
    have hlt : i < P.length := by omega
    have hpl := h.pl _ (List.getElem_mem hlt)
    have hdl := h.dl _ (List.getElem_mem hlt)
    have hnd := nD_le (P := P) (i + 1)
    have hndP : nD P ≤ 12 := by
      have : ∀ l : List X_Param, (∀ p ∈ l, p.2.2.length ≤ 1) → nD l ≤ l.length := by
        intro l
        induction l with
        | nil => intro _; simp [nD]
        | cons p l ih =>
          intro hp
          have h1 := ih fun q hq => hp q (List.mem_cons_of_mem _ hq)
          have h2 := hp p List.mem_cons_self
          simp only [nD, List.map_cons, List.sum_cons, List.length_cons] at h1 ⊢
          omega
      have := this P h.dl
      omega
    rw [nD_take hlt] at hnd
    rw [drop_cons hlt, fill]
    have g54 : ∀ v : X_Value, f_ref7_Bound.g54 (f_ref7_HasString.u k) (f_slices_Index_string.u k) k (fun x1 x3 x8 x15 x16 x19 x25 x196 x197 x198 => f_ref7_Bound.l9 (f_ref7_HasString.u k) (f_slices_Index_string.u k) k n x1 x3 x8 x15 x16 x19 x25 x196 x197 x198) D fn eB g.names g.given (vs, (rest, (g.oN, g.oV))) (nD (P.take i) : Int) P[i] v P (P.length : Int) (i : Int) =
        match (fill fn D g (P.drop (i + 1)) (nD (P.take i) + (P[i]).2.2.length)).map (v :: ·) with | .error m => some (eB, m) | .ok ws => some ((vs ++ ws, (rest, (g.oN, g.oV))), []) := by
      intro v
      have nx := ih n (i + 1) (vs ++ [v]) (by omega) (by omega) (by omega) (by simp; omega)
      rw [nD_take hlt] at nx
      rw [f_ref7_Bound.g54, gate_pos (by omega), f_ref7_Bound.q_g54, f_ref7_Bound.c_g54, if_pos (by simp only [LIM, List.length_cons, List.length_nil]; omega), wrapN (by omega), wrapI (by omega) (by omega)]
      rw [Int.natCast_add] at nx
      refine nx.trans ?_
      cases fill fn D g (P.drop (i + 1)) (nD (P.take i) + (P[i]).2.2.length) with
      | error m => rfl
      | ok ws => simp [Except.map]
    have g48 : f_ref7_Bound.g48 (f_ref7_HasString.u k) (f_slices_Index_string.u k) k (fun x1 x3 x8 x15 x16 x19 x25 x196 x197 x198 => f_ref7_Bound.l9 (f_ref7_HasString.u k) (f_slices_Index_string.u k) k n x1 x3 x8 x15 x16 x19 x25 x196 x197 x198) D fn eB g.names g.given (vs, (rest, (g.oN, g.oV))) (nD (P.take i) : Int) P[i] UNB P (P.length : Int) (i : Int) =
        match (match look1 g (P[i]).2.1 with
          | some v => (fill fn D g (P.drop (i + 1)) (nD (P.take i) + (P[i]).2.2.length)).map (v :: ·)
          | none => bif decide ((P[i]).2.2.length > 0) then (fill fn D g (P.drop (i + 1)) (nD (P.take i) + (P[i]).2.2.length)).map (D.getD (nD (P.take i)) Z_Value :: ·) else .error (fn ++ sNeeds ++ (P[i]).2.1 ++ [39])) with | .error m => some (eB, m) | .ok ws => some ((vs ++ ws, (rest, (g.oN, g.oV))), []) := by
      rw [f_ref7_Bound.g48, gate_pos (by omega), f_ref7_Bound.q_g48, f_ref7_Bound.c_g48, f_slices_Index_string.spec (by omega) (by omega), Option.bind_some, look1]
      have hany := idxF_any (fun y => (P[i]).2.1 == y) g.names 0
      cases ha : g.names.any (fun y => (P[i]).2.1 == y) with
      | true =>
        rw [ha] at hany
        have h0 : 0 ≤ idxF (fun y => (P[i]).2.1 == y) g.names 0 := by simpa using hany
        obtain ⟨j, hj, e, _, _⟩ := idxF_spec _ _ _ h0
        rw [hany, cond_true, e, Nat.zero_add, if_pos ⟨by omega, by omega⟩, Int.toNat_natCast, Nat.zero_add, cond_true]
        exact g54 (g.given.getD j Z_Value)
      | false =>
        rw [ha] at hany
        rw [hany, cond_false, cond_false]
        by_cases hd0 : (P[i]).2.2.length > 0
        · rw [decide_eq_true (by omega), cond_true, if_pos ⟨by omega, by omega⟩, Int.toNat_natCast]
          dsimp only
          rw [decide_eq_true hd0, cond_true]
          exact g54 (D.getD (nD (P.take i)) Z_Value)
        · rw [decide_eq_false (by omega), cond_false, if_pos (by show fn.length + 10 ≤ _; omega), if_pos (by rw [List.length_append]; show fn.length + 10 + (P[i]).2.1.length ≤ _; omega), if_pos (by rw [List.length_append, List.length_append]; show fn.length + 10 + (P[i]).2.1.length + 1 ≤ _; omega)]
          dsimp only
          rw [decide_eq_false hd0, cond_false]
          rfl
    rw [f_ref7_Bound.l9, f_ref7_Bound.q_l9, f_ref7_Bound.c_l9, decide_eq_true (by omega), cond_true, if_pos ⟨by omega, by omega⟩, Int.toNat_natCast, getD_of hlt]
    cases h0 : ((P[i]).1 == 0) with
    | true => rw [cond_true, Bool.true_or, cond_true]; exact g48
    | false =>
      rw [cond_false, Bool.false_or]
      cases h2 : ((P[i]).1 == 2) with
      | true => rw [cond_true, cond_true]; exact g48
      | false => rw [cond_false, cond_false]; exact g54 UNB
theorem bound_ref (h : HB P D a fn) (hk : 5000 < k) : f_ref7_Bound.u k (P, (D, (a, fn))) = some (boundS P D a fn) := by
  have hP := h.P12
  have hV := h.V
  have hfn := h.fnl
  have hnp := nPlain_le P
  show f_ref7_Bound.f (f_ref7_HasString.u k) (f_slices_Index_string.u k) k P D a fn = _
  rw [f_ref7_Bound.f, f_ref7_Bound.b]
  refine rb_l0 h _ (fun n2 => ?_) P.length k 0 (by omega) (by omega) (by omega)
  rw [f_ref7_Bound.q_l0, f_ref7_Bound.c_l0, decide_eq_false (by omega), cond_false, boundS]
  have fin : ∀ rest : List X_Value, bL5 k k P D fn a eB (hasPairs P) (start P a.1).names (start P a.1).given ([], (rest, ([], []))) a.2.1 (a.2.1.length : Int) 0 =
      some (match proc P fn (a.2.1.zip a.2.2) (start P a.1) with
        | .error m => (eB, m)
        | .ok g => match fill fn D g P 0 with
          | .error m => (eB, m)
          | .ok vs => ((vs, (rest, (g.oN, g.oV))), [])) := by
    intro rest
    have := rb_l5 (rest := rest) h hk (fun g => some (match fill fn D g P 0 with | .error m => (eB, m) | .ok vs => ((vs, (rest, (g.oN, g.oV))), []))) (fun g hg => by
      have := rb_l9 (rest := rest) h hk hg P.length k 0 [] (by omega) (by omega) (by omega) rfl
      refine (show _ = _ from this).trans ?_
      rw [List.take_zero, List.drop_zero, show nD [] = 0 from rfl]
      cases fill fn D g P 0 <;> rfl) a.2.1.length k 0 (start P a.1) (by omega) (by omega) (by omega) ⟨by simp only [start, List.length_map, List.length_take]; omega, by simp only [start, List.length_map, List.length_take]; omega, by simp [start], by simp [start]⟩
    refine (show _ = _ from this).trans ?_
    rw [List.drop_zero]
    cases proc P fn (a.2.1.zip a.2.2) (start P a.1) <;> rfl
  have l3 : f_ref7_Bound.l3 (f_ref7_HasString.u k) (f_slices_Index_string.u k) k k P D fn a eB (nPlain P : Int) (hasPairs P) [] [] P (P.length : Int) 0 =
      some (match proc P fn (a.2.1.zip a.2.2) (start P a.1) with
        | .error m => (eB, m)
        | .ok g => match fill fn D g P 0 with
          | .error m => (eB, m)
          | .ok vs => ((vs, (a.1.drop (nPlain P), (g.oN, g.oV))), [])) := by
    have := rb_l3 (k := k) h (pairs := hasPairs P) (some (match proc P fn (a.2.1.zip a.2.2) (start P a.1) with
        | .error m => (eB, m)
        | .ok g => match fill fn D g P 0 with
          | .error m => (eB, m)
          | .ok vs => ((vs, (a.1.drop (nPlain P), (g.oN, g.oV))), []))) (fun n2 => by
      rw [f_ref7_Bound.q_l3, f_ref7_Bound.c_l3, decide_eq_false (by omega), cond_false]
      by_cases h1 : a.1.length > nPlain P
      · rw [decide_eq_true (by omega), cond_true, if_pos ⟨by omega, by omega⟩, Int.toNat_natCast, if_pos (by rw [List.length_drop]; simp only [LIM]; omega)]
        exact fin (a.1.drop (nPlain P))
      · rw [decide_eq_false (by omega), cond_false]
        have := fin []
        rw [List.drop_of_length_le (by omega)]
        exact this) P.length k 0 (by omega) (by omega) (by omega)
    rw [Nat.zero_min, List.take_zero, List.take_zero] at this
    exact this
  by_cases h1 : a.1.length > nPlain P
  · rw [decide_eq_true (by omega), cond_true, decide_eq_true h1, Bool.true_and]
    cases hs : hasStar P with
    | true => rw [Bool.not_true, cond_false, cond_false]; exact l3
    | false =>
      rw [Bool.not_false, cond_true, cond_true, if_pos (by show fn.length + 25 ≤ _; omega)]
      rfl
  · rw [decide_eq_false (by omega), cond_false, decide_eq_false h1, Bool.false_and, cond_false]
    exact l3
end
end Go.Ab
