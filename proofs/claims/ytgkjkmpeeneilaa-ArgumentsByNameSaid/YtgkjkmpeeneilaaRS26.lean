/- A part of the proof: RS26. -/
import Derived.Test.YtgkjkmpeeneilaaRS25
namespace Go.Ab
set_option linter.unusedVariables false
set_option linter.unusedSimpArgs false
abbrev mk (P : List X_Param) (fn : Str) (Vs : List X_Value) (rest : List X_Value) (oN : List Str) (oV : List X_Value) : X_binding := (P, (fn, (Vs, (rest, (oN, oV)))))
section
variable {k : Nat} {P : List X_Param} {D : List X_Value} {a : X_Arguments} {fn : Str}
theorem kind_spec (hk : 5000 < k) (b : X_binding) (hb : b.1.length ≤ 12) (c : Int) : f_arguments_binding_kind.u k (b, c) = some (idxF (fun p => p.1 == c) b.1 0) := by
  show f_arguments_binding_kind.f (f_slices_IndexFunc_Param.u k) (f_arguments_binding_kind_c1.u k) k b c = _
  rw [f_arguments_binding_kind.f, f_arguments_binding_kind.b, f_slices_IndexFunc_Param.spec (p := fun p => p.1 == c) (fun x _ => rfl) (by omega) (by omega)]
  rfl
theorem at_spec (hk : 5000 < k) (b : X_binding) (hb : b.1.length ≤ 12) (s : Str) : f_arguments_binding_at.u k (b, s) = some (idxF (fun p => own p s) b.1 0) := by
  show f_arguments_binding_at.f (f_slices_IndexFunc_Param.u k) (f_arguments_binding_at_c1.u k) k b s = _
  have hc : ∀ x : X_Param, f_arguments_binding_at_c1.u k (x, s) = some (own x s) := by
    intro x
    show f_arguments_binding_at_c1.f k x s = _
    rw [f_arguments_binding_at_c1.f, f_arguments_binding_at_c1.b, own]
    cases (x.2.1 == s) <;> cases (x.1 == 0) <;> rfl
  rw [f_arguments_binding_at.f, f_arguments_binding_at.b, f_slices_IndexFunc_Param.spec (p := fun p => own p s) (fun x _ => by dsimp only; rw [hc]; rfl) (by omega) (by omega)]
  rfl
theorem msg_ne {s t : Str} : s ++ [39] ++ t ≠ [] := by simp
/-- the arguments without names -/
theorem positional_spec (hk : 5000 < k) (h : PV P) {V : List X_Value} (hV : V.length ≤ 1000) (hfn : fn.length ≤ 140737488355328) :
    f_arguments_binding_positional.u k (mk P fn (List.replicate P.length UNB) [] [] [], V) =
      some (bif decide (V.length > nPlain P) && !hasStar P then fn ++ sMany else [], mk P fn (slots P (start P V)) (V.drop (nPlain P)) [] []) := by
  have hP := h.len
  have hnp := nPlain_le P
  show f_arguments_binding_positional.f (f_slices_Clone_Value.u k) (f_arguments_binding_kind.u k) k _ V = _
  rw [f_arguments_binding_positional.f, f_arguments_binding_positional.q, f_arguments_binding_positional.c]
  have fin : f_arguments_binding_positional.g5 (f_slices_Clone_Value.u k) (f_arguments_binding_kind.u k) k (mk P fn (slots P (start P V)) [] [] []) V ((min (nPlain P) V.length : Nat) : Int) =
      some (bif decide (V.length > nPlain P) && !hasStar P then fn ++ sMany else [], mk P fn (slots P (start P V)) (V.drop (nPlain P)) [] []) := by
    have hdr : V.drop (min (nPlain P) V.length) = V.drop (nPlain P) := by
      by_cases e : nPlain P ≤ V.length
      · rw [Nat.min_eq_left e]
      · rw [Nat.min_eq_right (by omega), List.drop_of_length_le (Nat.le_refl _), List.drop_of_length_le (by omega)]
    have g8 : ∀ b : X_binding, b.2.1 = fn → f_arguments_binding_positional.g8 (f_slices_Clone_Value.u k) (f_arguments_binding_kind.u k) k b = some (fn ++ sMany, b) := by
      intro b hb
      rw [f_arguments_binding_positional.g8, gate_pos (by omega), f_arguments_binding_positional.q_g8, f_arguments_binding_positional.c_g8, hb, if_pos (by show fn.length + 25 ≤ _; omega)]
      rfl
    rw [f_arguments_binding_positional.g5, gate_pos (by omega), f_arguments_binding_positional.q_g5, f_arguments_binding_positional.c_g5, if_pos ⟨by omega, by omega⟩, Int.toNat_natCast, hdr, f_slices_Clone_Value.spec (by rw [List.length_drop]; simp only [LIM]; omega), Option.bind_some,
      kind_spec hk _ (by simpa using hP), Option.bind_some]
    simp only [List.length_drop]
    by_cases h1 : V.length > nPlain P
    · rw [decide_eq_true (by omega), cond_true, decide_eq_true h1, Bool.true_and]
      cases hst : P.any (fun p => p.1 == 1) with
      | false =>
        have hs : hasStar P = false := by
          unfold hasStar
          rw [List.any_eq_false] at hst ⊢
          intro p hp
          have := hst p hp
          simp at this ⊢
          intro e
          exact absurd e this
        rw [idxF_neg _ _ _ hst, decide_eq_true (by omega), cond_true, g8 _ rfl, hs]
        rfl
      | true =>
        have h0 : 0 ≤ idxF (fun p : X_Param => p.1 == 1) P 0 := by
          have := idxF_any (fun p : X_Param => p.1 == 1) P 0
          rw [hst] at this
          simpa using this
        obtain ⟨j, hj, e, hp, _⟩ := idxF_spec _ _ _ h0
        have hp1 : (P[j]).1 = 1 := by simpa using hp
        rw [e, Nat.zero_add, decide_eq_false (by omega), cond_false, if_pos ⟨by omega, by omega⟩, Int.toNat_natCast, getD_of hj]
        have hs : hasStar P = !((P[j]).2.1 == []) := by
          unfold hasStar
          cases hn : ((P[j]).2.1 == []) with
          | false =>
            rw [Bool.not_false, List.any_eq_true]
            exact ⟨_, List.getElem_mem hj, by rw [hp]; simpa [bne] using hn⟩
          | true =>
            rw [Bool.not_true, List.any_eq_false]
            intro p hpm hc
            obtain ⟨i, hi, rfl⟩ := List.mem_iff_getElem.1 hpm
            rw [Bool.and_eq_true] at hc
            have hi1 : (P[i]).1 = 1 := by simpa using hc.1
            by_cases e : i = j
            · subst e
              have := hc.2
              rw [bne, hn] at this
              cases this
            · rcases Nat.lt_or_gt_of_ne e with hlt | hlt
              · exact (h.once i j hi hj hlt (by omega)).1 hi1
              · exact (h.once j i hj hi hlt (by omega)).1 hp1
        rw [hs, Bool.not_not]
        cases hn : ((P[j]).2.1 == []) with
        | true => rw [cond_true, cond_true, g8 _ rfl]
        | false => rfl
    · rw [decide_eq_false (by omega), cond_false, decide_eq_false h1, Bool.false_and, cond_false]
  have hsl := slots_start h V
  have key : ∀ (d n i : Nat), i ≤ min (nPlain P) V.length → min (nPlain P) V.length - i = d → d < n →
      f_arguments_binding_positional.l0 (f_slices_Clone_Value.u k) (f_arguments_binding_kind.u k) k n (mk P fn (V.take i ++ List.replicate (P.length - i) UNB) [] [] []) V (i : Int) =
        some (bif decide (V.length > nPlain P) && !hasStar P then fn ++ sMany else [], mk P fn (slots P (start P V)) (V.drop (nPlain P)) [] []) := by
    intro d
    induction d with
    | zero =>
      intro n i hi hd hn
      obtain ⟨n, rfl⟩ : ∃ m, n = m + 1 := ⟨n - 1, by omega⟩
      obtain rfl : i = min (nPlain P) V.length := by omega
      rw [← hsl, f_arguments_binding_positional.l0, f_arguments_binding_positional.q_l0, f_arguments_binding_positional.c_l0]
      by_cases h1 : min (nPlain P) V.length < V.length
      · rw [decide_eq_true (by omega), cond_true]
        by_cases h2 : min (nPlain P) V.length < P.length
        · rw [decide_eq_true (by simp only; omega), cond_true, if_pos ⟨by omega, by simp only; omega⟩, Int.toNat_natCast]
          dsimp only
          rw [getD_of h2]
          have h0 : ((P[min (nPlain P) V.length]).1 == 0) = false := by
            rw [beq_eq_false_iff_ne]
            intro e
            have := (plain_iff h h2).1 e
            omega
          rw [h0, cond_false]
          exact fin
        · rw [decide_eq_false (by simp only; omega), cond_false]
          exact fin
      · rw [decide_eq_false (by omega), cond_false]
        exact fin
    | succ d ih =>
      intro n i hi hd hn
      obtain ⟨n, rfl⟩ : ∃ m, n = m + 1 := ⟨n - 1, by omega⟩
      have hiV : i < V.length := by omega
      have hiP : i < P.length := by omega
      have nx := ih n (i + 1) (by omega) (by omega) (by omega)
      rw [f_arguments_binding_positional.l0, f_arguments_binding_positional.q_l0, f_arguments_binding_positional.c_l0, decide_eq_true (by omega), cond_true, decide_eq_true (by simp only; omega), cond_true, if_pos ⟨by omega, by simp only; omega⟩, Int.toNat_natCast]
      dsimp only
      rw [getD_of hiP, show ((P[i]).1 == 0) = true by rw [beq_iff_eq]; exact (plain_iff h hiP).2 (by omega), cond_true, if_pos ⟨by omega, by omega⟩, if_pos ⟨by omega, by rw [List.length_append, List.length_take, List.length_replicate]; omega⟩, Nat.zero_add, getD_of hiV, wrapN (by omega)]
      have e : List.take (V.take i ++ List.replicate (P.length - i) UNB).length ((V.take i ++ List.replicate (P.length - i) UNB).set i V[i]) = V.take (i + 1) ++ List.replicate (P.length - (i + 1)) UNB := by
        have hl : (V.take i ++ List.replicate (P.length - i) UNB).length = ((V.take i ++ List.replicate (P.length - i) UNB).set i V[i]).length := by rw [List.length_set]
        rw [hl, List.take_length, List.set_append_right _ _ (by rw [List.length_take]; omega), List.length_take, Nat.min_eq_left (by omega), Nat.sub_self, show P.length - i = (P.length - (i + 1)) + 1 by omega, List.replicate_succ, List.set_cons_zero, List.take_succ_eq_append_getElem hiV, List.append_assoc]
        rfl
      rw [e]
      exact nx
  have := key (min (nPlain P) V.length) k 0 (by omega) (by omega) (by omega)
  rw [List.take_zero, List.nil_append, Nat.sub_zero] at this
  exact this
/-- one argument with a name -/
theorem named_spec (hk : 5000 < k) (h : PV P) {g : Gv} (hg : Inv P g) {rest : List X_Value} (hoN : g.oN.length ≤ 1000) (hoV : g.oV.length ≤ 1000) (hfn : fn.length ≤ 140737488355328) {s : Str} (hs : s.length ≤ 140737488355328) (v : X_Value) :
    f_arguments_binding_named.u k (mk P fn (slots P g) rest g.oN g.oV, (s, v)) =
      some (bif g.names.any (fun y => s == y) then (fn ++ sTwo ++ s ++ [39], mk P fn (slots P g) rest g.oN g.oV) else bif !isOwn P s && !hasPairs P then (fn ++ sUnk ++ s ++ [39], mk P fn (slots P g) rest g.oN g.oV) else
        ([], bif isOwn P s then mk P fn (slots P ⟨g.names ++ [s], g.given ++ [v], g.oN, g.oV⟩) rest g.oN g.oV else mk P fn (slots P g) rest (g.oN ++ [s]) (g.oV ++ [v]))) := by
  have hP := h.len
  have hsl : (slots P g).length = P.length := by simp [slots]
  show f_arguments_binding_named.f (f_arguments_binding_at.u k) (f_slices_Contains_string.u k) (f_arguments_binding_kind.u k) k _ s v = _
  have g4 : f_arguments_binding_named.g4 (f_arguments_binding_at.u k) (f_slices_Contains_string.u k) (f_arguments_binding_kind.u k) k (mk P fn (slots P g) rest g.oN g.oV) s = some (fn ++ sTwo ++ s ++ [39], mk P fn (slots P g) rest g.oN g.oV) := by
    rw [f_arguments_binding_named.g4, gate_pos (by omega), f_arguments_binding_named.q_g4, f_arguments_binding_named.c_g4, if_pos (by show fn.length + 23 ≤ _; omega), if_pos (by rw [List.length_append]; show fn.length + 23 + s.length ≤ _; omega), if_pos (by rw [List.length_append, List.length_append]; show fn.length + 23 + s.length + 1 ≤ _; omega)]
    rfl
  rw [f_arguments_binding_named.f, f_arguments_binding_named.q, f_arguments_binding_named.c, at_spec hk _ (by simpa using hP), Option.bind_some]
  cases ho : isOwn P s with
  | true =>
    obtain ⟨i, hi, e, hoi⟩ := own_at ho
    have hnN : g.oN.any (fun y => s == y) = false := any_not fun hm => by have := (hg.oNo s hm).1; rw [ho] at this; cases this
    dsimp only
    rw [e, decide_eq_true (by omega), cond_true, if_pos ⟨by omega, by omega⟩, Nat.zero_add, Int.toNat_natCast, slot_bound hg hi hoi]
    cases hc : g.names.any (fun y => s == y) with
    | true => rw [cond_true, cond_true, g4]
    | false =>
      rw [cond_false, f_slices_Contains_string.spec (by omega) (by omega), Option.bind_some, hnN, cond_false, cond_true, cond_false, Bool.not_true, Bool.false_and, cond_false, f_arguments_binding_named.g6, gate_pos (by omega), f_arguments_binding_named.q_g6, f_arguments_binding_named.c_g6, if_pos ⟨by omega, by simp only; omega⟩, Nat.zero_add, Int.toNat_natCast, cond_true]
      dsimp only
      rw [show List.take (slots P g).length ((slots P g).set i v) = (slots P g).set i v by rw [show (slots P g).length = ((slots P g).set i v).length by rw [List.length_set], List.take_length], slots_own h hg hi hoi (fun hm => by rw [any_mem.2 hm] at hc; cases hc) v g.oN g.oV]
  | false =>
    have hneg : idxF (fun p => own p s) P 0 = -1 := idxF_neg _ _ _ ho
    have hmm : g.names.any (fun y => s == y) = g.oN.any (fun y => s == y) := by
      cases hc : g.oN.any (fun y => s == y) with
      | true => exact any_mem.2 (hg.oNo s (any_mem.1 hc)).2
      | false =>
        refine any_not fun hm => ?_
        rcases hg.mem s hm with h1 | h1
        · rw [ho] at h1; cases h1
        · rw [any_mem.2 h1] at hc; cases hc
    dsimp only
    rw [hneg, decide_eq_false (by omega), cond_false, f_slices_Contains_string.spec (by omega) (by omega), Option.bind_some, hmm]
    cases hc : g.oN.any (fun y => s == y) with
    | true => rw [cond_true, cond_true, g4]
    | false =>
      rw [cond_false, cond_false, cond_false, kind_spec hk _ (by simpa using hP), Option.bind_some, Bool.not_false, Bool.true_and]
      have hpa := idxF_any (fun p : X_Param => p.1 == 3) P 0
      cases hp : hasPairs P with
      | true =>
        rw [show (P.any fun p => p.1 == 3) = true from hp] at hpa
        have : 0 ≤ idxF (fun p : X_Param => p.1 == 3) P 0 := by simpa using hpa
        rw [decide_eq_false (by dsimp only; omega), cond_false, Bool.not_true, cond_false, cond_false, f_arguments_binding_named.g2, gate_pos (by omega), f_arguments_binding_named.q_g2, f_arguments_binding_named.c_g2, if_pos (by simp only [LIM, List.length_cons, List.length_nil]; omega), if_pos (by simp only [LIM, List.length_cons, List.length_nil]; omega)]
      | false =>
        rw [idxF_neg _ _ _ (show (P.any fun p => p.1 == 3) = false from hp), decide_eq_true (by omega), cond_true, Bool.not_false, cond_true, f_arguments_binding_named.g8, gate_pos (by omega), f_arguments_binding_named.q_g8, f_arguments_binding_named.c_g8, if_pos (by show fn.length + 28 ≤ _; omega), if_pos (by rw [List.length_append]; show fn.length + 28 + s.length ≤ _; omega), if_pos (by rw [List.length_append, List.length_append]; show fn.length + 28 + s.length + 1 ≤ _; omega)]
        rfl
/-- the parameters without a value get their defaults -/
theorem rest_spec (hk : 5000 < k) (h : PV P) {g : Gv} (hg : Inv P g) {rest : List X_Value} (hD : D.length = nD P) (hfn : fn.length ≤ 140737488355328) (hpl : ∀ p ∈ P, p.2.1.length ≤ 140737488355328) :
    ∃ b, f_arguments_binding_rest.u k (mk P fn (slots P g) rest g.oN g.oV, D) = some (match fill fn D g P 0 with | .error m => (m, b) | .ok vs => ([], mk P fn vs rest g.oN g.oV)) := by
  have hP := h.len
  show ∃ b, f_arguments_binding_rest.f k _ D = _
  rw [f_arguments_binding_rest.f, f_arguments_binding_rest.q, f_arguments_binding_rest.c]
  have hsl : (slots P g).length = P.length := by simp [slots]
  have key : ∀ (d n i : Nat) (ws : List X_Value), i ≤ P.length → P.length - i = d → d < n → ws.length = i →
      ∃ b, f_arguments_binding_rest.l0 k n (mk P fn (ws ++ (slots P g).drop i) rest g.oN g.oV) (D.drop (nD (P.take i))) P (P.length : Int) (i : Int) =
        some (match fill fn D g (P.drop i) (nD (P.take i)) with | .error m => (m, b) | .ok vs => ([], mk P fn (ws ++ vs) rest g.oN g.oV)) := by
    intro d
    induction d with
    | zero =>
      intro n i ws hi hd hn hws
      obtain ⟨n, rfl⟩ : ∃ m, n = m + 1 := ⟨n - 1, by omega⟩
      obtain rfl : i = P.length := by omega
      refine ⟨default, ?_⟩
      rw [f_arguments_binding_rest.l0, f_arguments_binding_rest.q_l0, f_arguments_binding_rest.c_l0, decide_eq_false (by omega), cond_false, List.drop_length, fill, List.drop_of_length_le (by omega)]
    | succ d ih =>
      intro n i ws hi hd hn hws
      obtain ⟨n, rfl⟩ : ∃ m, n = m + 1 := ⟨n - 1, by omega⟩
      have hlt : i < P.length := by omega
      have hpli := hpl _ (List.getElem_mem hlt)
      have hdl := h.dflt _ (List.getElem_mem hlt)
      have hki := h.kind _ (List.getElem_mem hlt)
      have hnd := nD_le (P := P) (i + 1)
      rw [nD_take hlt] at hnd
      have hdrop : (slots P g).drop i = slotV g P[i] :: (slots P g).drop (i + 1) := by
        rw [drop_cons (by omega)]
        simp [slots]
      have nx := fun v : X_Value => ih n (i + 1) (ws ++ [v]) (by omega) (by omega) (by omega) (by simp; omega)
      rw [nD_take hlt] at nx
      have hbody : ∀ v : X_Value, (ws ++ (slots P g).drop i).getD i Z_Value = slotV g P[i] := by
        intro v
        rw [hdrop]
        simp [List.getD, List.getElem?_append_right (show ws.length ≤ i by omega), show i - ws.length = 0 by omega]
      have hD' : (D.drop (nD (P.take i))).length = D.length - nD (P.take i) := List.length_drop
      have hdd : List.drop (P[i]).2.2.length (List.drop (nD (P.take i)) D) = D.drop (nD (P.take i) + (P[i]).2.2.length) := by rw [List.drop_drop]
      rw [f_arguments_binding_rest.l0, f_arguments_binding_rest.q_l0, f_arguments_binding_rest.c_l0, decide_eq_true (by omega), cond_true, if_pos ⟨by omega, by omega⟩, Int.toNat_natCast, getD_of hlt, if_pos ⟨by omega, by omega⟩, if_pos ⟨by omega, by omega⟩, wrapN (by omega), hdd, drop_cons hlt, fill]
      have stay : ∀ v : X_Value, slotV g P[i] = v → mk P fn (ws ++ (slots P g).drop i) rest g.oN g.oV = mk P fn ((ws ++ [v]) ++ (slots P g).drop (i + 1)) rest g.oN g.oV := by
        intro v hv
        rw [hdrop, hv, List.append_assoc]
        rfl
      have done : ∀ (v : X_Value) (b : X_binding), some (match fill fn D g (P.drop (i + 1)) (nD (P.take i) + (P[i]).2.2.length) with | .error m => (m, b) | .ok vs => ([], mk P fn ((ws ++ [v]) ++ vs) rest g.oN g.oV)) =
          some (match (fill fn D g (P.drop (i + 1)) (nD (P.take i) + (P[i]).2.2.length)).map (v :: ·) with | .error m => (m, b) | .ok vs => ([], mk P fn (ws ++ vs) rest g.oN g.oV)) := by
        intro v b
        cases fill fn D g (P.drop (i + 1)) (nD (P.take i) + (P[i]).2.2.length) with
        | error m => rfl
        | ok vs => simp [Except.map]
      by_cases h1 : (P[i]).1 = 1
      · have hs : slotV g P[i] = UNB := by simp [slotV, h1]
        rw [show ((P[i]).1 == 1) = true by simp [h1], cond_true, stay _ hs, show ((P[i]).1 == 0 || (P[i]).1 == 2) = false by simp [h1], cond_false]
        obtain ⟨b, hb⟩ := nx UNB
        exact ⟨b, hb.trans (done UNB b)⟩
      · rw [show ((P[i]).1 == 1) = false by simpa using h1, cond_false]
        by_cases h3 : (P[i]).1 = 3
        · have hs : slotV g P[i] = UNB := by simp [slotV, h3]
          rw [show ((P[i]).1 == 3) = true by simp [h3], cond_true, stay _ hs, show ((P[i]).1 == 0 || (P[i]).1 == 2) = false by simp [h3], cond_false]
          obtain ⟨b, hb⟩ := nx UNB
          exact ⟨b, hb.trans (done UNB b)⟩
        · have hk02 : ((P[i]).1 == 0 || (P[i]).1 == 2) = true := by simp; omega
          rw [show ((P[i]).1 == 3) = false by simpa using h3, cond_false, if_pos ⟨by omega, by simp only [List.length_append, List.length_drop]; omega⟩, hk02, cond_true, Nat.zero_add]
          dsimp only
          rw [hbody UNB]
          cases hlk : look1 g (P[i]).2.1 with
          | some v =>
            have hs : slotV g P[i] = v := by rw [slotV, hk02, cond_true, hlk]; rfl
            rw [hs, show (v.1 != 9) = true by simpa using (look1_some hg hlk).1, cond_true, stay _ hs]
            obtain ⟨b, hb⟩ := nx v
            exact ⟨b, hb.trans (done v b)⟩
          | none =>
            have hs : slotV g P[i] = UNB := by rw [slotV, hk02, cond_true, hlk]; rfl
            rw [hs, show ((UNB.1 : Int) != 9) = false from rfl, cond_false]
            by_cases hd0 : (P[i]).2.2.length > 0
            · have htl : (List.take (P[i]).2.2.length (List.drop (nD (P.take i)) D)).length = (P[i]).2.2.length := by rw [List.length_take, List.length_drop]; omega
              rw [htl, show (((P[i]).2.2.length : Int) == 0) = false by rw [beq_eq_false_iff_ne]; omega, cond_false, if_pos (by omega), if_pos ⟨by omega, by simp only [List.length_append, List.length_drop]; omega⟩, decide_eq_true hd0, cond_true]
              have hv : (List.take (P[i]).2.2.length (List.drop (nD (P.take i)) D)).getD 0 Z_Value = D.getD (nD (P.take i)) Z_Value := by
                rw [getD_of (by omega), getD_of (by omega)]
                simp
              rw [hv]
              have hset : List.take (ws ++ (slots P g).drop i).length ((ws ++ (slots P g).drop i).set i (D.getD (nD (P.take i)) Z_Value)) = (ws ++ [D.getD (nD (P.take i)) Z_Value]) ++ (slots P g).drop (i + 1) := by
                rw [show (ws ++ (slots P g).drop i).length = ((ws ++ (slots P g).drop i).set i (D.getD (nD (P.take i)) Z_Value)).length by rw [List.length_set], List.take_length, List.set_append_right _ _ (by omega), show i - ws.length = 0 by omega, hdrop, List.set_cons_zero, List.append_assoc]
                rfl
              rw [hset]
              obtain ⟨b, hb⟩ := nx (D.getD (nD (P.take i)) Z_Value)
              exact ⟨b, hb.trans (done _ b)⟩
            · have htl : (List.take (P[i]).2.2.length (List.drop (nD (P.take i)) D)).length = 0 := by rw [List.length_take]; omega
              rw [htl, show (((0 : Nat) : Int) == 0) = true from rfl, cond_true, if_pos (by show fn.length + 10 ≤ _; omega), if_pos (by rw [List.length_append]; show fn.length + 10 + (P[i]).2.1.length ≤ _; omega), if_pos (by rw [List.length_append, List.length_append]; show fn.length + 10 + (P[i]).2.1.length + 1 ≤ _; omega), decide_eq_false hd0, cond_false]
              exact ⟨_, rfl⟩
  obtain ⟨b, hb⟩ := key P.length k 0 [] (by omega) (by omega) (by omega) rfl
  refine ⟨b, ?_⟩
  rw [List.drop_zero, List.take_zero, show nD [] = 0 from rfl, List.drop_zero, List.nil_append] at hb
  exact hb
end
end Go.Ab
