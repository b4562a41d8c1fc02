/- A part of the proof: RS27. -/
import Derived.Test.YtgkjkmpeeneilaaRS26
namespace Go.Ab
set_option linter.unusedVariables false
set_option linter.unusedSimpArgs false
/-! the faults of a binding -/
def unb (v : X_Value) : Bool := v.1 == 9
theorem idxF_shift {α : Type} (p : α → Bool) : ∀ (l : List α) (i m : Nat), l.any p = true → idxF p l (i + m) = (m : Int) + idxF p l i
  | [], i, m, h => by cases h
  | x :: l, i, m, h => by
    rw [show idxF p (x :: l) (i + m) = bif p x then ((i + m : Nat) : Int) else idxF p l (i + m + 1) from rfl, show idxF p (x :: l) i = bif p x then (i : Int) else idxF p l (i + 1) from rfl]
    cases hp : p x with
    | true => rw [cond_true, cond_true]; omega
    | false =>
      rw [cond_false, cond_false, show i + m + 1 = i + 1 + m by omega]
      refine idxF_shift p l (i + 1) m ?_
      simpa [hp] using h
/-- the sizes that an input's reading bears -/
structure HI (P : List X_Param) (D : List X_Value) (a : X_Arguments) (fn : Str) : Prop where
  D : D.length ≤ BIG
  V : a.1.length ≤ BIG
  N : a.2.1.length ≤ BIG
  M : a.2.2.length ≤ BIG
  fnl : fn.length ≤ 140737488355328
  nl : ∀ s ∈ a.2.1, s.length ≤ 140737488355328
  pl : ∀ p ∈ P, p.2.1.length ≤ 140737488355328
theorem nD_small {P : List X_Param} (h : PV P) : nD P ≤ 12 := by
  have : ∀ l : List X_Param, (∀ p ∈ l, p.2.2.length ≤ 1) → nD l ≤ l.length := by
    intro l
    induction l with
    | nil => intro _; simp [nD]
    | cons p l ih =>
      intro hp
      have h1 := ih fun q hq => hp q (List.mem_cons_of_mem _ hq)
      have h2 := hp p List.mem_cons_self
      simp only [nD, List.map_cons, List.sum_cons, List.length_cons] at h1 ⊢
      omega
  have h1 := this P fun p hp => (h.dflt p hp).1
  have h2 := h.len
  omega
/-- the fault, behind the check of the parameters -/
def bfault (P : List X_Param) (D : List X_Value) (a : X_Arguments) : X_Fault :=
  bif decide (D.length ≠ nD P) then (9, -2) else bif decide (a.2.1.length ≠ a.2.2.length) then (9, -3) else bif decide (a.1.length + a.2.1.length > 1000) then (2, -3) else
  bif (a.1 ++ a.2.2).any unb then (18, idxF unb (a.1 ++ a.2.2) 0) else (0, 0)
section
variable {k : Nat} {P : List X_Param} {D : List X_Value} {a : X_Arguments} {fn : Str}
noncomputable abbrev bf0 (k : Nat) := f_ref7_BindFault.l0 (f_ref7_ParamsFault.u k) (f_ref7_At.u k) k
noncomputable abbrev bf3 (k : Nat) := f_ref7_BindFault.l3 (f_ref7_ParamsFault.u k) (f_ref7_At.u k) k
noncomputable abbrev bf5 (k : Nat) := f_ref7_BindFault.l5 (f_ref7_ParamsFault.u k) (f_ref7_At.u k) k
theorem bf5_spec (hk : 5000 < k) (h1 : a.1.length + a.2.2.length ≤ 1000) (d : Nat) : ∀ (n i : Nat), i ≤ a.2.2.length → a.2.2.length - i = d → d < n →
    bf5 k n a (0, 0) a.2.2 (a.2.2.length : Int) (i : Int) = some (bif (a.2.2.drop i).any unb then (18, (a.1.length : Int) + idxF unb (a.2.2.drop i) i) else (0, 0)) := by
  induction d with
  | zero =>
    intro n i hi hd hn
    obtain ⟨n, rfl⟩ : ∃ m, n = m + 1 := ⟨n - 1, by omega⟩
    rw [bf5, f_ref7_BindFault.l5, f_ref7_BindFault.b_l5, decide_eq_false (by omega), cond_false, List.drop_of_length_le (by omega)]
    rfl
  | succ d ih =>
    intro n i hi hd hn
    obtain ⟨n, rfl⟩ : ∃ m, n = m + 1 := ⟨n - 1, by omega⟩
    have hlt : i < a.2.2.length := by omega
    rw [bf5, f_ref7_BindFault.l5, f_ref7_BindFault.b_l5, decide_eq_true (by omega), cond_true, if_pos ⟨by omega, by omega⟩, Int.toNat_natCast, getD_of hlt, wrapI (by omega) (by omega), wrapN (by omega), drop_cons hlt, List.any_cons, show idxF unb (a.2.2[i] :: a.2.2.drop (i + 1)) i = bif unb a.2.2[i] then (i : Int) else idxF unb (a.2.2.drop (i + 1)) (i + 1) from rfl, unb]
    cases ((a.2.2[i]).1 == 9) with
    | true => rfl
    | false =>
      rw [cond_false, cond_false, Bool.false_or]
      exact ih n (i + 1) (by omega) (by omega) (by omega)
theorem bf3_spec (hk : 5000 < k) (h1 : a.1.length + a.2.2.length ≤ 1000) (d : Nat) : ∀ (n i : Nat), i ≤ a.1.length → a.1.length - i = d → d < n → (a.1.take i).any unb = false →
    bf3 k n a (0, 0) a.1 (a.1.length : Int) (i : Int) = some (bif (a.1.drop i ++ a.2.2).any unb then (18, idxF unb (a.1.drop i ++ a.2.2) i) else (0, 0)) := by
  induction d with
  | zero =>
    intro n i hi hd hn h2
    obtain ⟨n, rfl⟩ : ∃ m, n = m + 1 := ⟨n - 1, by omega⟩
    obtain rfl : i = a.1.length := by omega
    rw [bf3, f_ref7_BindFault.l3, f_ref7_BindFault.b_l3, decide_eq_false (by omega), cond_false, List.drop_length, List.nil_append]
    have := bf5_spec hk h1 a.2.2.length k 0 (by omega) (by omega) (by omega)
    rw [List.drop_zero] at this
    refine (show _ = _ from this).trans ?_
    cases hc : a.2.2.any unb with
    | false => rfl
    | true =>
      rw [cond_true, cond_true]
      have := idxF_shift unb a.2.2 0 a.1.length hc
      rw [Nat.zero_add] at this
      rw [this]
  | succ d ih =>
    intro n i hi hd hn h2
    obtain ⟨n, rfl⟩ : ∃ m, n = m + 1 := ⟨n - 1, by omega⟩
    have hlt : i < a.1.length := by omega
    rw [bf3, f_ref7_BindFault.l3, f_ref7_BindFault.b_l3, decide_eq_true (by omega), cond_true, if_pos ⟨by omega, by omega⟩, Int.toNat_natCast, getD_of hlt, wrapN (by omega), drop_cons hlt, List.cons_append, List.any_cons, show idxF unb (a.1[i] :: (a.1.drop (i + 1) ++ a.2.2)) i = bif unb a.1[i] then (i : Int) else idxF unb (a.1.drop (i + 1) ++ a.2.2) (i + 1) from rfl]
    cases hu : ((a.1[i]).1 == 9) with
    | true =>
      rw [show unb a.1[i] = true from hu]
      rfl
    | false =>
      rw [cond_false, show unb a.1[i] = false from hu, cond_false, Bool.false_or]
      exact ih n (i + 1) (by omega) (by omega) (by omega) (by rw [any_take _ hlt, h2]; exact hu)
theorem bf0_spec (hk : 5000 < k) (hP : PV P) (hi : HI P D a fn) (d : Nat) : ∀ (n i : Nat), i ≤ P.length → P.length - i = d → d < n →
    bf0 k n D a (0, 0) (nD (P.take i) : Int) P (P.length : Int) (i : Int) = some (bfault P D a) := by
  have hP12 := hP.len
  have hnd := nD_small hP
  have h1 := hi.D
  have h2 := hi.V
  have h3 := hi.N
  have h4 := hi.M
  unfold BIG at h1 h2 h3 h4
  induction d with
  | zero =>
    intro n i hi hd hn
    obtain ⟨n, rfl⟩ : ∃ m, n = m + 1 := ⟨n - 1, by omega⟩
    obtain rfl : i = P.length := by omega
    rw [bf0, f_ref7_BindFault.l0, f_ref7_BindFault.b_l0, decide_eq_false (by omega), cond_false, List.take_length, bfault]
    by_cases c1 : D.length = nD P
    · rw [show ((nD P : Int) != (D.length : Int)) = false by simp [c1], cond_false, decide_eq_false (show ¬ D.length ≠ nD P by omega), cond_false]
      by_cases c2 : a.2.1.length = a.2.2.length
      · rw [show ((a.2.1.length : Int) != (a.2.2.length : Int)) = false by simp [c2], cond_false, decide_eq_false (show ¬ a.2.1.length ≠ a.2.2.length by omega), cond_false, wrapI (by omega) (by omega)]
        by_cases c3 : a.1.length + a.2.1.length > 1000
        · rw [decide_eq_true (by omega), cond_true, decide_eq_true c3, cond_true]
          rfl
        · rw [decide_eq_false (by omega), cond_false, decide_eq_false c3, cond_false]
          have := bf3_spec (a := a) hk (by omega) a.1.length k 0 (by omega) (by omega) (by omega) (by simp)
          rw [List.drop_zero] at this
          exact this
      · rw [show ((a.2.1.length : Int) != (a.2.2.length : Int)) = true by simp; omega, cond_true, decide_eq_true (show a.2.1.length ≠ a.2.2.length from c2), cond_true]
        rfl
    · rw [show ((nD P : Int) != (D.length : Int)) = true by simp; omega, cond_true, decide_eq_true (show D.length ≠ nD P from c1), cond_true]
      rfl
  | succ d ih =>
    intro n i hi hd hn
    obtain ⟨n, rfl⟩ : ∃ m, n = m + 1 := ⟨n - 1, by omega⟩
    have hlt : i < P.length := by omega
    have hle := nD_le (P := P) (i + 1)
    have nx := ih n (i + 1) (by omega) (by omega) (by omega)
    rw [nD_take hlt] at hle nx
    rw [bf0, f_ref7_BindFault.l0, f_ref7_BindFault.b_l0, decide_eq_true (by omega), cond_true, if_pos ⟨by omega, by omega⟩, Int.toNat_natCast, getD_of hlt, wrapN (by omega), wrapI (by omega) (by omega)]
    rw [Int.natCast_add] at nx
    exact nx
/-! Bind -/
noncomputable abbrev bd0 (k : Nat) := f_arguments_Bind.l0 (f_arguments_Check.u k) (f_arguments_fault.u k) (f_slices_Concat_Value.u k) (f_slices_IndexFunc_Value.u k) (f_arguments_Bind_c1.u k) (f_arguments_binding_positional.u k) (f_arguments_binding_named.u k) (f_arguments_binding_rest.u k) k
noncomputable abbrev bd3 (k : Nat) := f_arguments_Bind.l3 (f_arguments_Check.u k) (f_arguments_fault.u k) (f_slices_Concat_Value.u k) (f_slices_IndexFunc_Value.u k) (f_arguments_Bind_c1.u k) (f_arguments_binding_positional.u k) (f_arguments_binding_named.u k) (f_arguments_binding_rest.u k) k
noncomputable abbrev bd5 (k : Nat) := f_arguments_Bind.l5 (f_arguments_Check.u k) (f_arguments_fault.u k) (f_slices_Concat_Value.u k) (f_slices_IndexFunc_Value.u k) (f_arguments_Bind_c1.u k) (f_arguments_binding_positional.u k) (f_arguments_binding_named.u k) (f_arguments_binding_rest.u k) k
/-- the outcome, put as Bind puts it -/
def outB (r : X_Bound × Str) : Option (X_Bound × (Str × X_Fault)) := some (r.1, (r.2, (0, 0)))
theorem bd5_text (hk : 5000 < k) (h : HB P D a fn) {b : X_binding} {m : Str} (hm : m ≠ []) (d : Nat) : ∀ (n i : Nat), i ≤ a.2.1.length → a.2.1.length - i = d → d < n →
    bd5 k n D a eB (0, 0) b m a.2.1 (a.2.1.length : Int) (i : Int) = outB (eB, m) := by
  have hV := h.V
  have hm1 : (m == []) = false := by rw [beq_eq_false_iff_ne]; exact hm
  have hm2 : (m != []) = true := by rw [bne, hm1]; rfl
  induction d with
  | zero =>
    intro n i hi hd hn
    obtain ⟨n, rfl⟩ : ∃ m, n = m + 1 := ⟨n - 1, by omega⟩
    rw [bd5, f_arguments_Bind.l5, f_arguments_Bind.q_l5, f_arguments_Bind.c_l5, decide_eq_false (by omega), cond_false, hm1, cond_false, hm2, cond_true, f_arguments_Bind.g34, gate_pos (by omega), f_arguments_Bind.q_g34, f_arguments_Bind.c_g34]
    rfl
  | succ d ih =>
    intro n i hi hd hn
    obtain ⟨n, rfl⟩ : ∃ m, n = m + 1 := ⟨n - 1, by omega⟩
    rw [bd5, f_arguments_Bind.l5, f_arguments_Bind.q_l5, f_arguments_Bind.c_l5, decide_eq_true (by omega), cond_true, if_pos ⟨by omega, by omega⟩, hm1, cond_false, wrapN (by omega)]
    exact ih n (i + 1) (by omega) (by omega) (by omega)
theorem bd5_spec (hk : 5000 < k) (hP : PV P) (h : HB P D a fn) {rest : List X_Value} (hN : ∀ v ∈ a.2.2, v.1 ≠ 9) (d : Nat) : ∀ (n i : Nat) (g : Gv), i ≤ a.2.1.length → a.2.1.length - i = d → d < n → GB g i → Inv P g →
    bd5 k n D a eB (0, 0) (mk P fn (slots P g) rest g.oN g.oV) [] a.2.1 (a.2.1.length : Int) (i : Int) =
      outB (match proc P fn ((a.2.1.zip a.2.2).drop i) g with | .error m => (eB, m) | .ok g' => match fill fn D g' P 0 with | .error m => (eB, m) | .ok vs => ((vs, (rest, (g'.oN, g'.oV))), [])) := by
  have hV := h.V
  have hNN := h.NN
  have hfn := h.fnl
  induction d with
  | zero =>
    intro n i g hi hd hn hg hiv
    obtain ⟨n, rfl⟩ : ∃ m, n = m + 1 := ⟨n - 1, by omega⟩
    obtain ⟨b, hb⟩ := rest_spec (rest := rest) hk hP hiv h.D12 hfn h.pl
    rw [bd5, f_arguments_Bind.l5, f_arguments_Bind.q_l5, f_arguments_Bind.c_l5, decide_eq_false (by omega), cond_false, show (([] : Str) == []) = true from rfl, cond_true, hb, Option.bind_some, List.drop_of_length_le (by rw [List.length_zip]; omega), proc]
    dsimp only
    cases hf : fill fn D g P 0 with
    | error m =>
      have hm : m ≠ [] := by
        have key : ∀ (Q : List X_Param) (nx : Nat) (m : Str), fill fn D g Q nx = .error m → m ≠ [] := by
          intro Q
          induction Q with
          | nil => intro nx m e; cases e
          | cons p Q ih =>
            intro nx m e
            rw [fill] at e
            have hmap : ∀ (v : X_Value), (fill fn D g Q (nx + p.2.2.length)).map (v :: ·) = .error m → m ≠ [] := by
              intro v e
              cases hq : fill fn D g Q (nx + p.2.2.length) with
              | error m' => rw [hq] at e; cases e; exact ih _ _ hq
              | ok ws => rw [hq] at e; cases e
            cases hk2 : (p.1 == 0 || p.1 == 2) with
            | false => rw [hk2, cond_false] at e; exact hmap _ e
            | true =>
              rw [hk2, cond_true] at e
              cases hl : look1 g p.2.1 with
              | some v => rw [hl] at e; exact hmap _ e
              | none =>
                rw [hl] at e
                dsimp only at e
                cases hd0 : decide (p.2.2.length > 0) with
                | true => rw [hd0, cond_true] at e; exact hmap _ e
                | false => rw [hd0, cond_false] at e; cases e; simp
        exact key P 0 m hf
      dsimp only
      rw [show (m != []) = true by simpa using hm, cond_true, f_arguments_Bind.g34, gate_pos (by omega), f_arguments_Bind.q_g34, f_arguments_Bind.c_g34]
      rfl
    | ok vs =>
      dsimp only
      rw [show (([] : Str) != []) = false from rfl, cond_false, f_arguments_Bind.g35, gate_pos (by omega), f_arguments_Bind.q_g35, f_arguments_Bind.c_g35]
      rfl
  | succ d ih =>
    intro n i g hi hd hn hg hiv
    obtain ⟨n, rfl⟩ : ∃ m, n = m + 1 := ⟨n - 1, by omega⟩
    have hlt : i < a.2.1.length := by omega
    have hlt2 : i < a.2.2.length := by omega
    have hz : (a.2.1.zip a.2.2).drop i = (a.2.1[i], a.2.2[i]) :: (a.2.1.zip a.2.2).drop (i + 1) := by
      rw [drop_cons (by rw [List.length_zip]; omega), List.getElem_zip]
    have hoN := hg.oN
    have hoV := hg.oV
    have hgn := hg.n
    have hgl := hg.gl
    have hs := h.nl _ (List.getElem_mem hlt)
    have hv9 := hN _ (List.getElem_mem hlt2)
    rw [hz, proc, bd5, f_arguments_Bind.l5, f_arguments_Bind.q_l5, f_arguments_Bind.c_l5, decide_eq_true (by omega), cond_true, if_pos ⟨by omega, by omega⟩, show (([] : Str) == []) = true from rfl, cond_true, if_pos ⟨by omega, by omega⟩, Int.toNat_natCast, getD_of hlt, getD_of hlt2,
      named_spec hk hP hiv (by omega) (by omega) hfn hs, Option.bind_some, wrapN (by omega)]
    generalize a.2.1[i] = s at *
    generalize a.2.2[i] = v at *
    cases hc : g.names.any (fun y => s == y) with
    | true =>
      rw [cond_true, cond_true]
      exact bd5_text hk h (by simp) (a.2.1.length - (i + 1)) n (i + 1) (by omega) rfl (by omega)
    | false =>
      rw [cond_false, cond_false]
      cases hp : (!isOwn P s && !hasPairs P) with
      | true =>
        rw [cond_true, cond_true]
        exact bd5_text hk h (by simp) (a.2.1.length - (i + 1)) n (i + 1) (by omega) rfl (by omega)
      | false =>
        rw [cond_false, cond_false]
        dsimp only
        have hnm : s ∉ g.names := fun hm => by rw [any_mem.2 hm] at hc; cases hc
        cases ho : isOwn P s with
        | true =>
          rw [cond_true, cond_true]
          refine ih n (i + 1) ⟨g.names ++ [s], g.given ++ [v], g.oN, g.oV⟩ (by omega) (by omega) (by omega) ⟨by simp; omega, by simp; omega, by simp; omega, hoV⟩ ⟨fun w hw => ?_, by simp; exact hiv.gl, fun t ht => ?_, fun t ht => ?_⟩
          · rcases List.mem_append.1 hw with hw | hw
            · exact hiv.nb w hw
            · rw [List.mem_singleton.1 hw]; exact hv9
          · rcases List.mem_append.1 ht with ht | ht
            · exact hiv.mem t ht
            · rw [List.mem_singleton.1 ht]; exact .inl ho
          · exact ⟨(hiv.oNo t ht).1, List.mem_append_left _ (hiv.oNo t ht).2⟩
        | false =>
          rw [cond_false, cond_false]
          rw [← slots_other hiv ho v (g.oN ++ [s]) (g.oV ++ [v])]
          refine ih n (i + 1) ⟨g.names ++ [s], g.given ++ [v], g.oN ++ [s], g.oV ++ [v]⟩ (by omega) (by omega) (by omega) ⟨by simp; omega, by simp; omega, by simp; omega, by simp; omega⟩ ⟨fun w hw => ?_, by simp; exact hiv.gl, fun t ht => ?_, fun t ht => ?_⟩
          · rcases List.mem_append.1 hw with hw | hw
            · exact hiv.nb w hw
            · rw [List.mem_singleton.1 hw]; exact hv9
          · rcases List.mem_append.1 ht with ht | ht
            · rcases hiv.mem t ht with h1 | h1
              · exact .inl h1
              · exact .inr (List.mem_append_left _ h1)
            · rw [List.mem_singleton.1 ht]; exact .inr (List.mem_append_right _ (by simp))
          · rcases List.mem_append.1 ht with ht | ht
            · exact ⟨(hiv.oNo t ht).1, List.mem_append_left _ (hiv.oNo t ht).2⟩
            · rw [List.mem_singleton.1 ht]; exact ⟨ho, List.mem_append_right _ (by simp)⟩
theorem bd3_spec (hk : 5000 < k) (hP : PV P) (h : HB P D a fn) (hV9 : ∀ v ∈ a.1, v.1 ≠ 9) (hN : ∀ v ∈ a.2.2, v.1 ≠ 9) (d : Nat) : ∀ (n i : Nat), i ≤ P.length → P.length - i = d → d < n →
    bd3 k n D a eB (0, 0) (mk P fn (List.replicate i UNB) [] [] []) (P.length : Int) (i : Int) = outB (boundS P D a fn) := by
  have hP12 := hP.len
  have hV := h.V
  have hnp := nPlain_le P
  induction d with
  | zero =>
    intro n i hi hd hn
    obtain ⟨n, rfl⟩ : ∃ m, n = m + 1 := ⟨n - 1, by omega⟩
    obtain rfl : i = P.length := by omega
    rw [bd3, f_arguments_Bind.l3, f_arguments_Bind.q_l3, f_arguments_Bind.c_l3, decide_eq_false (by omega), cond_false, positional_spec hk hP (by omega) h.fnl, Option.bind_some, boundS]
    dsimp only
    cases hc : (decide (a.1.length > nPlain P) && !hasStar P) with
    | true =>
      rw [cond_true, cond_true]
      exact bd5_text hk h (by simp [sMany]) a.2.1.length k 0 (by omega) (by omega) (by omega)
    | false =>
      rw [cond_false, cond_false]
      have := bd5_spec hk hP h (rest := a.1.drop (nPlain P)) hN a.2.1.length k 0 (start P a.1) (by omega) (by omega) (by omega) ⟨by simp only [start, List.length_map, List.length_take]; omega, by simp only [start, List.length_map, List.length_take]; omega, by simp [start], by simp [start]⟩ (Inv.start hP hV9)
      rw [List.drop_zero] at this
      exact this
  | succ d ih =>
    intro n i hi hd hn
    obtain ⟨n, rfl⟩ : ∃ m, n = m + 1 := ⟨n - 1, by omega⟩
    have nx := ih n (i + 1) (by omega) (by omega) (by omega)
    rw [bd3, f_arguments_Bind.l3, f_arguments_Bind.q_l3, f_arguments_Bind.c_l3, decide_eq_true (by omega), cond_true, if_pos (by simp only [LIM, List.length_replicate, List.length_cons, List.length_nil]; omega), wrapN (by omega)]
    rw [List.replicate_succ'] at nx
    exact nx
theorem bd0_spec (hk : 5000 < k) (hP : PV P) (hi : HI P D a fn) (d : Nat) : ∀ (n i : Nat), i ≤ P.length → P.length - i = d → d < n →
    bd0 k n P D fn a eB (0, 0) (nD (P.take i) : Int) P (P.length : Int) (i : Int) = if (bfault P D a).1 ≠ 0 then some (eB, ([], bfault P D a)) else outB (boundS P D a fn) := by
  have hP12 := hP.len
  have hnd := nD_small hP
  have h1 := hi.D
  have h2 := hi.V
  have h3 := hi.N
  have h4 := hi.M
  unfold BIG at h1 h2 h3 h4
  induction d with
  | zero =>
    intro n i hi' hd hn
    obtain ⟨n, rfl⟩ : ∃ m, n = m + 1 := ⟨n - 1, by omega⟩
    obtain rfl : i = P.length := by omega
    rw [bd0, f_arguments_Bind.l0, f_arguments_Bind.q_l0, f_arguments_Bind.c_l0, decide_eq_false (by omega), cond_false, List.take_length, bfault]
    by_cases c1 : D.length = nD P
    · rw [show ((D.length : Int) != (nD P : Int)) = false by simp [c1], cond_false, decide_eq_false (show ¬ D.length ≠ nD P by omega), cond_false]
      by_cases c2 : a.2.1.length = a.2.2.length
      · rw [show ((a.2.1.length : Int) != (a.2.2.length : Int)) = false by simp [c2], cond_false, decide_eq_false (show ¬ a.2.1.length ≠ a.2.2.length by omega), cond_false, wrapI (by omega) (by omega)]
        by_cases c3 : a.1.length + a.2.1.length > 1000
        · rw [decide_eq_true (by omega), cond_true, decide_eq_true c3, cond_true, if_pos (by decide)]
          rfl
        · rw [decide_eq_false (by omega), cond_false, decide_eq_false c3, cond_false]
          have hb : HB P D a fn := ⟨hP12, c1, fun p hp => (hP.dflt p hp).1, by omega, c2, hi.fnl, hi.nl, hi.pl⟩
          have hfl : (List.take 2 [a.1, a.2.2]).flatten = a.1 ++ a.2.2 := by simp
          rw [f_slices_Concat_Value.spec (by simp) (by rw [hfl, List.length_append]; simp only [LIM]; omega) (by rw [hfl, List.length_append]; omega) (by simp; omega), Option.bind_some, hfl,
            f_slices_IndexFunc_Value.spec (p := unb) (fun x _ => rfl) (by rw [List.length_append]; omega) (by rw [List.length_append]; omega), Option.bind_some, idxF_any]
          cases hu : (a.1 ++ a.2.2).any unb with
          | true =>
            rw [cond_true, cond_true, if_pos (show ((18 : Int)) ≠ 0 by decide)]
            rfl
          | false =>
            rw [cond_false, cond_false, if_neg (by decide)]
            rw [List.any_eq_false] at hu
            have h9 : ∀ v ∈ a.1 ++ a.2.2, v.1 ≠ 9 := fun v hv e => hu v hv (by simp [unb, e])
            exact bd3_spec hk hP hb (fun v hv => h9 v (List.mem_append_left _ hv)) (fun v hv => h9 v (List.mem_append_right _ hv)) P.length k 0 (by omega) (by omega) (by omega)
      · rw [show ((a.2.1.length : Int) != (a.2.2.length : Int)) = true by simp; omega, cond_true, decide_eq_true (show a.2.1.length ≠ a.2.2.length from c2), cond_true, if_pos (by decide)]
        rfl
    · rw [show ((D.length : Int) != (nD P : Int)) = true by simp; omega, cond_true, decide_eq_true (show D.length ≠ nD P from c1), cond_true, if_pos (by decide)]
      rfl
  | succ d ih =>
    intro n i hi' hd hn
    obtain ⟨n, rfl⟩ : ∃ m, n = m + 1 := ⟨n - 1, by omega⟩
    have hlt : i < P.length := by omega
    have hle := nD_le (P := P) (i + 1)
    have nx := ih n (i + 1) (by omega) (by omega) (by omega)
    rw [nD_take hlt] at hle nx
    rw [bd0, f_arguments_Bind.l0, f_arguments_Bind.q_l0, f_arguments_Bind.c_l0, decide_eq_true (by omega), cond_true, if_pos ⟨by omega, by omega⟩, Int.toNat_natCast, getD_of hlt, wrapN (by omega), wrapI (by omega) (by omega)]
    rw [Int.natCast_add] at nx
    exact nx
/-- both sides of a binding -/
theorem bind_both (hk : 5000 < k) (hi : HI P D a fn) : ∃ r : X_Fault, f_ref7_BindFault.u k (P, (D, a)) = some r ∧
    (r.1 ≠ 0 → f_arguments_Bind.u k (P, (D, (a, fn))) = some (eB, ([], r))) ∧
    (r.1 = 0 → r = (0, 0) ∧ PV P ∧ HB P D a fn ∧ (∀ v ∈ a.1, v.1 ≠ 9) ∧ (∀ v ∈ a.2.2, v.1 ≠ 9) ∧ f_arguments_Bind.u k (P, (D, (a, fn))) = outB (boundS P D a fn)) := by
  obtain ⟨q, q1, q2⟩ := check_eq (k := k) (by omega) P
  by_cases hq : q.1 = 0
  · obtain ⟨rfl, hP⟩ := PV.of (by omega) q2 hq
    have hP12 := hP.len
    refine ⟨bfault P D a, ?_, ?_⟩
    · show f_ref7_BindFault.f (f_ref7_ParamsFault.u k) (f_ref7_At.u k) k P D a = _
      rw [f_ref7_BindFault.f, f_ref7_BindFault.b, q2, Option.bind_some, show (((0 : Int)) != 0) = false from rfl, cond_false]
      exact bf0_spec hk hP hi P.length k 0 (by omega) (by omega) (by omega)
    · have hB : f_arguments_Bind.u k (P, (D, (a, fn))) = if (bfault P D a).1 ≠ 0 then some (eB, ([], bfault P D a)) else outB (boundS P D a fn) := by
        show f_arguments_Bind.f (f_arguments_Check.u k) (f_arguments_fault.u k) (f_slices_Concat_Value.u k) (f_slices_IndexFunc_Value.u k) (f_arguments_Bind_c1.u k) (f_arguments_binding_positional.u k) (f_arguments_binding_named.u k) (f_arguments_binding_rest.u k) k P D a fn = _
        rw [f_arguments_Bind.f, f_arguments_Bind.q, f_arguments_Bind.c, q1, Option.bind_some, show (((0 : Int)) != 0) = false from rfl, cond_false]
        exact bd0_spec hk hP hi P.length k 0 (by omega) (by omega) (by omega)
      refine ⟨fun h0 => by rw [hB, if_pos h0], fun h0 => ?_⟩
      rw [hB, if_neg (by simpa using h0)]
      unfold bfault at h0 ⊢
      by_cases c1 : D.length = nD P
      · rw [decide_eq_false (show ¬ D.length ≠ nD P by omega), cond_false] at h0 ⊢
        by_cases c2 : a.2.1.length = a.2.2.length
        · rw [decide_eq_false (show ¬ a.2.1.length ≠ a.2.2.length by omega), cond_false] at h0 ⊢
          by_cases c3 : a.1.length + a.2.1.length > 1000
          · rw [decide_eq_true c3] at h0; cases h0
          · rw [decide_eq_false c3, cond_false] at h0 ⊢
            cases hu : (a.1 ++ a.2.2).any unb with
            | true => rw [hu] at h0; cases h0
            | false =>
              rw [cond_false]
              rw [List.any_eq_false] at hu
              have h9 : ∀ v ∈ a.1 ++ a.2.2, v.1 ≠ 9 := fun v hv e => hu v hv (by simp [unb, e])
              exact ⟨rfl, hP, ⟨hP12, c1, fun p hp => (hP.dflt p hp).1, by omega, c2, hi.fnl, hi.nl, hi.pl⟩, fun v hv => h9 v (List.mem_append_left _ hv), fun v hv => h9 v (List.mem_append_right _ hv), rfl⟩
        · rw [decide_eq_true (show a.2.1.length ≠ a.2.2.length from c2)] at h0; cases h0
      · rw [decide_eq_true (show D.length ≠ nD P from c1)] at h0; cases h0
  · refine ⟨q, ?_, fun _ => ?_, fun h => absurd h hq⟩
    · show f_ref7_BindFault.f (f_ref7_ParamsFault.u k) (f_ref7_At.u k) k P D a = _
      rw [f_ref7_BindFault.f, f_ref7_BindFault.b, q2, Option.bind_some, show (q.1 != 0) = true by simpa using hq, cond_true]
    · show f_arguments_Bind.f (f_arguments_Check.u k) (f_arguments_fault.u k) (f_slices_Concat_Value.u k) (f_slices_IndexFunc_Value.u k) (f_arguments_Bind_c1.u k) (f_arguments_binding_positional.u k) (f_arguments_binding_named.u k) (f_arguments_binding_rest.u k) k P D a fn = _
      rw [f_arguments_Bind.f, f_arguments_Bind.q, f_arguments_Bind.c, q1, Option.bind_some, show (q.1 != 0) = true by simpa using hq, cond_true]
end
end Go.Ab
