/- A part of the proof: RS25. -/
import Derived.Test.YtgkjkmpeeneilaaRS24
namespace Go.Ab
set_option linter.unusedVariables false
set_option linter.unusedSimpArgs false
/-! the program's state, in terms of what is given so far -/
def slotV (g : Gv) (p : X_Param) : X_Value := bif p.1 == 0 || p.1 == 2 then (look1 g p.2.1).getD UNB else UNB
def slots (P : List X_Param) (g : Gv) : List X_Value := P.map (slotV g)
structure Inv (P : List X_Param) (g : Gv) : Prop where
  nb : ∀ v ∈ g.given, v.1 ≠ 9
  gl : g.given.length = g.names.length
  mem : ∀ s ∈ g.names, isOwn P s = true ∨ s ∈ g.oN
  oNo : ∀ s ∈ g.oN, isOwn P s = false ∧ s ∈ g.names
theorem any_mem {l : List Str} {s : Str} : l.any (fun y => s == y) = true ↔ s ∈ l := by
  rw [List.any_eq_true]
  constructor
  · rintro ⟨y, hy, e⟩
    rw [beq_iff_eq] at e
    subst e
    exact hy
  · exact fun h => ⟨s, h, by simp⟩
theorem any_not {l : List Str} {s : Str} (h : s ∉ l) : l.any (fun y => s == y) = false := by
  cases hc : l.any (fun y => s == y) with
  | false => rfl
  | true => exact absurd (any_mem.1 hc) h
theorem idxF_append {α : Type} (p : α → Bool) : ∀ (l m : List α) (i : Nat), idxF p (l ++ m) i = bif l.any p then idxF p l i else idxF p m (i + l.length)
  | [], m, i => rfl
  | x :: l, m, i => by
    rw [List.cons_append, show idxF p (x :: (l ++ m)) i = bif p x then (i : Int) else idxF p (l ++ m) (i + 1) from rfl, show idxF p (x :: l) i = bif p x then (i : Int) else idxF p l (i + 1) from rfl]
    cases h : p x with
    | true => simp [h]
    | false => rw [cond_false, cond_false, idxF_append p l m (i + 1), List.any_cons, h, Bool.false_or, List.length_cons, show i + (l.length + 1) = i + 1 + l.length by omega]
theorem look1_add {g : Gv} {s t : Str} {v : X_Value} (gl : g.given.length = g.names.length) (oN : List Str) (oV : List X_Value) : look1 ⟨g.names ++ [t], g.given ++ [v], oN, oV⟩ s = (look1 g s).or (bif s == t then some v else none) := by
  unfold look1
  dsimp only
  rw [List.any_append, idxF_append]
  cases h : g.names.any (fun y => s == y) with
  | true =>
    have h0 : 0 ≤ idxF (fun y => s == y) g.names 0 := by
      have := idxF_any (fun y => s == y) g.names 0
      rw [h] at this
      simpa using this
    obtain ⟨j, hj, e, _, _⟩ := idxF_spec _ _ _ h0
    rw [Bool.true_or, cond_true, cond_true, cond_true, e, Nat.zero_add, Int.toNat_natCast]
    simp [List.getD, List.getElem?_append_left (show j < g.given.length by omega)]
  | false =>
    rw [Bool.false_or, cond_false, cond_false]
    simp only [List.any_cons, List.any_nil, Bool.or_false, idxF]
    cases (s == t) with
    | false => rfl
    | true =>
      simp only [cond_true, Nat.zero_add, Int.toNat_natCast]
      simp [List.getD, ← gl]
theorem look1_some {P : List X_Param} {g : Gv} (h : Inv P g) {s : Str} {v : X_Value} (hv : look1 g s = some v) : v.1 ≠ 9 ∧ s ∈ g.names := by
  unfold look1 at hv
  cases hc : g.names.any (fun y => s == y) with
  | false => rw [hc] at hv; cases hv
  | true =>
    rw [hc, cond_true] at hv
    cases hv
    have h0 : 0 ≤ idxF (fun y => s == y) g.names 0 := by
      have := idxF_any (fun y => s == y) g.names 0
      rw [hc] at this
      simpa using this
    obtain ⟨j, hj, e, _, _⟩ := idxF_spec _ _ _ h0
    rw [e, Nat.zero_add, Int.toNat_natCast, getD_of (by have := h.gl; omega)]
    exact ⟨h.nb _ (List.getElem_mem _), any_mem.1 hc⟩
theorem look1_none {g : Gv} {s : Str} (h : s ∉ g.names) : look1 g s = none := by
  unfold look1
  rw [any_not h]
  rfl
theorem look1_mem {g : Gv} {s : Str} (h : s ∈ g.names) : ∃ v, look1 g s = some v := by
  unfold look1
  rw [any_mem.2 h]
  exact ⟨_, rfl⟩
/-! plain parameters come first -/
theorem nPlain_split (P : List X_Param) (i : Nat) : nPlain P = nPlain (P.take i) + nPlain (P.drop i) := by
  unfold nPlain
  rw [← List.length_append, ← List.filter_append, List.take_append_drop]
theorem plain_iff {P : List X_Param} (h : PV P) {i : Nat} (hi : i < P.length) : (P[i]).1 = 0 ↔ i < nPlain P := by
  constructor
  · intro h0
    have : nPlain (P.take (i + 1)) = i + 1 := by
      unfold nPlain
      rw [List.filter_eq_self.2, List.length_take]
      · omega
      · intro p hp
        obtain ⟨j, hj, rfl⟩ := List.mem_take_iff_getElem.1 hp
        have h1 := h.kind _ (List.getElem_mem (show j < P.length by omega))
        by_cases e : j = i
        · subst e; simp [h0]
        · have h2 := h.sorted j i (by omega) hi (by omega)
          simp; omega
    rw [nPlain_split P (i + 1), this]
    omega
  · intro hlt
    refine Decidable.byContradiction fun h0 => ?_
    have h1 : nPlain (P.drop i) = 0 := by
      unfold nPlain
      rw [List.length_eq_zero_iff, List.filter_eq_nil_iff]
      intro p hp
      obtain ⟨j, hj, rfl⟩ := List.mem_iff_getElem.1 hp
      rw [List.length_drop] at hj
      rw [List.getElem_drop]
      have h2 := h.kind _ (List.getElem_mem hi)
      by_cases e : j = 0
      · subst e; simpa using h0
      · have h3 := h.sorted i (i + j) hi (by omega) (by omega)
        simp; omega
    have h2 := nPlain_le (P.take i)
    rw [List.length_take] at h2
    rw [nPlain_split P i, h1] at hlt
    omega
theorem nm_ne {P : List X_Param} (h : PV P) {i j : Nat} (hi : i < P.length) (hj : j < P.length) (hne : i ≠ j) (hk : (P[i]).1 ≠ 1) (hk2 : (P[j]).1 ≠ 1) : (P[i]).2.1 ≠ (P[j]).2.1 := by
  intro e
  rcases Nat.lt_or_gt_of_ne hne with hlt | hlt
  · exact h.name _ (List.getElem_mem hj) hk2 (h.uniq i j hi hj hlt e)
  · exact h.name _ (List.getElem_mem hi) hk (h.uniq j i hj hi hlt e.symm)
theorem slots_start {P : List X_Param} (h : PV P) (V : List X_Value) : slots P (start P V) = V.take (min (nPlain P) V.length) ++ List.replicate (P.length - min (nPlain P) V.length) UNB := by
  have hnp := nPlain_le P
  apply List.ext_getElem
  · rw [slots, List.length_map, List.length_append, List.length_take, List.length_replicate]; omega
  · intro i h1 h2
    have hi : i < P.length := by simpa [slots] using h1
    simp only [slots, List.getElem_map, slotV]
    by_cases him : i < min (nPlain P) V.length
    · have h0 : (P[i]).1 = 0 := (plain_iff h hi).2 (by omega)
      rw [show ((P[i]).1 == 0) = true by simp [h0], Bool.true_or, cond_true, List.getElem_append_left (by rw [List.length_take]; omega)]
      simp only [List.getElem_take]
      have hlk : look1 (start P V) (P[i]).2.1 = some V[i] := by
        have hmem : (P[i]).2.1 ∈ (start P V).names := by
          simp only [start]
          exact List.mem_map.2 ⟨P[i], List.mem_take_iff_getElem.2 ⟨i, by omega, rfl⟩, rfl⟩
        unfold look1
        rw [any_mem.2 hmem, cond_true]
        have h0' : 0 ≤ idxF (fun y => (P[i]).2.1 == y) (start P V).names 0 := by
          have := idxF_any (fun y => (P[i]).2.1 == y) (start P V).names 0
          rw [any_mem.2 hmem] at this
          simpa using this
        obtain ⟨j, hj, e, hp, _⟩ := idxF_spec _ _ _ h0'
        have hj' : j < min (nPlain P) V.length := by
          simp only [start, List.length_map, List.length_take] at hj; omega
        have hje : j = i := by
          refine Decidable.byContradiction fun hne => ?_
          simp only [start, List.getElem_map, List.getElem_take, beq_iff_eq] at hp
          have k1 : (P[i]).1 ≠ 1 := by omega
          have k2 : (P[j]'(by omega)).1 ≠ 1 := by
            have := (plain_iff h (i := j) (by omega)).2 (by omega)
            omega
          exact nm_ne h hi (by omega) (fun e => hne e.symm) k1 k2 hp
        subst hje
        rw [e, Nat.zero_add, Int.toNat_natCast]
        simp only [start]
        rw [getD_of (by rw [List.length_take]; omega), List.getElem_take]
      rw [hlk]
      rfl
    · rw [List.getElem_append_right (by rw [List.length_take]; omega), List.getElem_replicate]
      cases ho : ((P[i]).1 == 0 || (P[i]).1 == 2) with
      | false => rfl
      | true =>
        rw [cond_true, look1_none]
        · rfl
        · intro hm
          simp only [start] at hm
          obtain ⟨q, hq, e⟩ := List.mem_map.1 hm
          obtain ⟨j, hj, rfl⟩ := List.mem_take_iff_getElem.1 hq
          have k1 : (P[i]).1 ≠ 1 := by
            simp at ho
            omega
          have k2 : (P[j]'(by omega)).1 ≠ 1 := by
            have := (plain_iff h (i := j) (by omega)).2 (by omega)
            omega
          exact nm_ne h (by omega) hi (by omega) k2 k1 e
theorem Inv.start {P : List X_Param} (h : PV P) {V : List X_Value} (hV : ∀ v ∈ V, v.1 ≠ 9) : Inv P (start P V) := by
  have hnp := nPlain_le P
  refine ⟨fun v hv => hV v (List.mem_of_mem_take hv), by simp only [Go.Ab.start, List.length_map, List.length_take]; omega, fun s hs => .inl ?_, fun s hs => by simp [Go.Ab.start] at hs⟩
  simp only [Go.Ab.start] at hs
  obtain ⟨q, hq, rfl⟩ := List.mem_map.1 hs
  obtain ⟨j, hj, rfl⟩ := List.mem_take_iff_getElem.1 hq
  have h0 := (plain_iff h (i := j) (by omega)).2 (by omega)
  unfold isOwn
  rw [List.any_eq_true]
  exact ⟨_, List.getElem_mem (show j < P.length by omega), by simp [own, h0]⟩
/-- the place of a parameter of its own -/
theorem own_at {P : List X_Param} {s : Str} (h : isOwn P s = true) : ∃ (i : Nat) (hi : i < P.length), idxF (fun p => own p s) P 0 = (i : Int) ∧ own P[i] s = true := by
  have h0 : 0 ≤ idxF (fun p => own p s) P 0 := by
    have := idxF_any (fun p => own p s) P 0
    rw [show (P.any fun p => own p s) = true from h] at this
    simpa using this
  obtain ⟨j, hj, e, hp, _⟩ := idxF_spec _ _ _ h0
  exact ⟨j, hj, by rw [e, Nat.zero_add], hp⟩
theorem own_kind {p : X_Param} {s : Str} (h : own p s = true) : p.2.1 = s ∧ (p.1 = 0 ∨ p.1 = 2) ∧ (p.1 == 0 || p.1 == 2) = true := by
  unfold own at h
  simp at h
  exact ⟨h.1, h.2, by simpa using h.2⟩
/-- one more value under a name -/
theorem slots_own {P : List X_Param} (h : PV P) {g : Gv} (hg : Inv P g) {i : Nat} (hi : i < P.length) {s : Str} (ho : own P[i] s = true) (hs : s ∉ g.names) (v : X_Value) (oN : List Str) (oV : List X_Value) :
    (slots P g).set i v = slots P ⟨g.names ++ [s], g.given ++ [v], oN, oV⟩ := by
  obtain ⟨o1, o2, o3⟩ := own_kind ho
  apply List.ext_getElem
  · simp [slots]
  · intro j h1 h2
    have hj : j < P.length := by simpa [slots] using h2
    rw [List.getElem_set]
    simp only [slots, List.getElem_map, slotV]
    by_cases e : i = j
    · subst e
      rw [if_pos rfl, o3, cond_true, look1_add hg.gl, o1, look1_none hs]
      simp
    · rw [if_neg e]
      cases hk : ((P[j]).1 == 0 || (P[j]).1 == 2) with
      | false => rfl
      | true =>
        rw [cond_true, cond_true, look1_add hg.gl]
        have hne : ((P[j]).2.1 == s) = false := by
          rw [beq_eq_false_iff_ne, ← o1]
          refine nm_ne h hj hi (fun e' => e e'.symm) ?_ ?_
          · simp at hk; omega
          · omega
        rw [hne]
        cases look1 g (P[j]).2.1 <;> rfl
theorem slots_other {P : List X_Param} {g : Gv} (hg : Inv P g) {s : Str} (ho : isOwn P s = false) (v : X_Value) (oN : List Str) (oV : List X_Value) :
    slots P ⟨g.names ++ [s], g.given ++ [v], oN, oV⟩ = slots P g := by
  unfold slots
  apply List.map_congr_left
  intro p hp
  unfold slotV
  cases hk : (p.1 == 0 || p.1 == 2) with
  | false => rfl
  | true =>
    rw [cond_true, cond_true, look1_add hg.gl]
    have hne : (p.2.1 == s) = false := by
      unfold isOwn at ho
      rw [List.any_eq_false] at ho
      have := ho p hp
      unfold own at this
      rw [hk, Bool.and_true] at this
      simpa using this
    rw [hne]
    cases look1 g p.2.1 <;> rfl
theorem slot_bound {P : List X_Param} {g : Gv} (hg : Inv P g) {i : Nat} (hi : i < P.length) {s : Str} (ho : own P[i] s = true) : (((slots P g).getD i Z_Value).1 != 9) = g.names.any fun y => s == y := by
  obtain ⟨o1, o2, o3⟩ := own_kind ho
  rw [getD_of (by simpa [slots] using hi)]
  simp only [slots, List.getElem_map, slotV, o3, cond_true, o1]
  cases hc : g.names.any (fun y => s == y) with
  | true =>
    obtain ⟨v, hv⟩ := look1_mem (any_mem.1 hc)
    rw [hv]
    simpa using (look1_some hg hv).1
  | false =>
    rw [look1_none (fun hm => by rw [any_mem.2 hm] at hc; cases hc)]
    rfl
end Go.Ab
