/- A part of the proof: RS29. -/
import Derived.Test.YtgkjkmpeeneilaaRS28
namespace Go.Ab
set_option linter.unusedVariables false
set_option linter.unusedSimpArgs false
/-! what a binding without fault has read; another order of the names -/
theorem idxF_at {α : Type} (p : α → Bool) : ∀ (l : List α) (i : Nat), l.any p = true → ∃ (j : Nat) (hj : j < l.length), idxF p l i = ((i + j : Nat) : Int) ∧ p l[j] = true
  | [], i, h => by cases h
  | x :: l, i, h => by
    rw [show idxF p (x :: l) i = bif p x then (i : Int) else idxF p l (i + 1) from rfl]
    cases hp : p x with
    | true => exact ⟨0, by simp, by simp, by simpa using hp⟩
    | false =>
      rw [cond_false]
      obtain ⟨j, hj, e, q⟩ := idxF_at p l (i + 1) (by simpa [hp] using h)
      exact ⟨j + 1, by simpa using hj, by rw [e]; congr 1; omega, by simpa using q⟩
theorem nodup_inj {α : Type} {l : List α} (h : l.Nodup) {i j : Nat} (hi : i < l.length) (hj : j < l.length) (e : l[i] = l[j]) : i = j := by
  rw [List.Nodup, List.pairwise_iff_getElem] at h
  rcases Nat.lt_trichotomy i j with h1 | h1 | h1
  · exact absurd e (h i j hi hj h1)
  · exact h1
  · exact absurd e.symm (h j i hj hi h1)
theorem look1_iff {g : Gv} (gl : g.given.length = g.names.length) (nd : g.names.Nodup) {s : Str} {v : X_Value} : look1 g s = some v ↔ (s, v) ∈ g.names.zip g.given := by
  constructor
  · intro h
    unfold look1 at h
    cases hc : g.names.any (fun y => s == y) with
    | false => rw [hc] at h; cases h
    | true =>
      rw [hc, cond_true] at h
      obtain ⟨j, hj, e, q⟩ := idxF_at _ g.names 0 hc
      rw [e, Nat.zero_add, Int.toNat_natCast, getD_of (by omega)] at h
      rw [beq_iff_eq] at q
      cases h
      rw [List.mem_iff_getElem]
      exact ⟨j, by rw [List.length_zip]; omega, by rw [List.getElem_zip, ← q]⟩
  · intro h
    obtain ⟨i, hi, e⟩ := List.mem_iff_getElem.1 h
    rw [List.length_zip] at hi
    rw [List.getElem_zip] at e
    have e1 : g.names[i] = s := congrArg Prod.fst e
    have e2 : g.given[i] = v := congrArg Prod.snd e
    have hc : g.names.any (fun y => s == y) = true := any_mem.2 (by rw [← e1]; exact List.getElem_mem _)
    obtain ⟨j, hj, f, q⟩ := idxF_at _ g.names 0 hc
    rw [beq_iff_eq] at q
    have := nodup_inj nd (by omega) hj (e1.trans q)
    subst this
    unfold look1
    rw [hc, cond_true, f, Nat.zero_add, Int.toNat_natCast, getD_of (by omega), e2]
theorem look1_congr {g g' : Gv} (gl : g.given.length = g.names.length) (nd : g.names.Nodup) (gl' : g'.given.length = g'.names.length) (nd' : g'.names.Nodup) (h : ∀ x, x ∈ g.names.zip g.given ↔ x ∈ g'.names.zip g'.given) (s : Str) : look1 g s = look1 g' s := by
  cases e : look1 g s with
  | some v => exact ((look1_iff gl' nd').2 ((h _).1 ((look1_iff gl nd).1 e))).symm
  | none =>
    cases e' : look1 g' s with
    | none => rfl
    | some v => rw [(look1_iff gl nd).2 ((h _).2 ((look1_iff gl' nd').1 e'))] at e; cases e
theorem fill_congr {fn : Str} {D : List X_Value} {g g' : Gv} (h : ∀ s, look1 g s = look1 g' s) : ∀ (P : List X_Param) (nx : Nat), fill fn D g P nx = fill fn D g' P nx
  | [], _ => rfl
  | p :: P, nx => by rw [fill, fill, fill_congr h P, h]
structure Cl (P : List X_Param) (l : List (Str × X_Value)) (ns : List Str) : Prop where
  nd : (l.map (·.1)).Nodup
  nw : ∀ x ∈ l, x.1 ∉ ns
  kn : ∀ x ∈ l, isOwn P x.1 = true ∨ hasPairs P = true
abbrev oth (P : List X_Param) (l : List (Str × X_Value)) : List (Str × X_Value) := l.filter fun x => !isOwn P x.1
def res (P : List X_Param) (l : List (Str × X_Value)) (g : Gv) : Gv := ⟨g.names ++ l.map (·.1), g.given ++ l.map (·.2), g.oN ++ (oth P l).map (·.1), g.oV ++ (oth P l).map (·.2)⟩
theorem res_cons {P : List X_Param} {s : Str} {v : X_Value} {l : List (Str × X_Value)} {g : Gv} :
    res P l (bif isOwn P s then ⟨g.names ++ [s], g.given ++ [v], g.oN, g.oV⟩ else ⟨g.names ++ [s], g.given ++ [v], g.oN ++ [s], g.oV ++ [v]⟩) = res P ((s, v) :: l) g := by
  unfold res oth
  cases h : isOwn P s <;> simp [h]
theorem step_names {P : List X_Param} {s : Str} {v : X_Value} {g : Gv} : (bif isOwn P s then (⟨g.names ++ [s], g.given ++ [v], g.oN, g.oV⟩ : Gv) else ⟨g.names ++ [s], g.given ++ [v], g.oN ++ [s], g.oV ++ [v]⟩).names = g.names ++ [s] := by
  cases isOwn P s <;> rfl
theorem proc_res {P : List X_Param} {fn : Str} : ∀ {l : List (Str × X_Value)} {g g' : Gv}, proc P fn l g = .ok g' → Cl P l g.names ∧ g' = res P l g
  | [], g, g', h => by
    cases h
    refine ⟨⟨by simp, by simp, by simp⟩, ?_⟩
    unfold res oth
    simp
  | (s, v) :: l, g, g', h => by
    rw [proc] at h
    cases c1 : g.names.any (fun y => s == y) with
    | true => rw [c1, cond_true] at h; cases h
    | false =>
      rw [c1, cond_false] at h
      cases c2 : (!isOwn P s && !hasPairs P) with
      | true => rw [c2, cond_true] at h; cases h
      | false =>
        rw [c2, cond_false] at h
        obtain ⟨hc, e⟩ := proc_res h
        rw [res_cons] at e
        rw [step_names] at hc
        refine ⟨⟨?_, fun x hx => ?_, fun x hx => ?_⟩, e⟩
        · rw [List.map_cons, List.nodup_cons]
          refine ⟨fun hm => ?_, hc.nd⟩
          obtain ⟨x, hx, ex⟩ := List.mem_map.1 hm
          exact hc.nw x hx (by rw [show x.1 = s from ex]; simp)
        · rcases List.mem_cons.1 hx with rfl | hx
          · intro hm; rw [any_mem.2 hm] at c1; cases c1
          · exact fun hm => hc.nw x hx (List.mem_append_left _ hm)
        · rcases List.mem_cons.1 hx with rfl | hx
          · show isOwn P s = true ∨ _
            cases h1 : isOwn P s with
            | true => exact .inl rfl
            | false => right; simpa [h1] using c2
          · exact hc.kn x hx
theorem proc_mk {P : List X_Param} {fn : Str} : ∀ {l : List (Str × X_Value)} {g : Gv}, Cl P l g.names → proc P fn l g = .ok (res P l g)
  | [], g, h => by
    unfold res oth
    simp [proc]
  | (s, v) :: l, g, h => by
    have hs := h.nw _ List.mem_cons_self
    have hk := h.kn _ List.mem_cons_self
    have hn := h.nd
    rw [List.map_cons, List.nodup_cons] at hn
    rw [proc, any_not hs, cond_false, show (!isOwn P s && !hasPairs P) = false by rcases hk with hk | hk <;> simp_all, cond_false, proc_mk (l := l) ?_, res_cons]
    rw [step_names]
    refine ⟨hn.2, fun x hx hm => ?_, fun x hx => h.kn x (List.mem_cons_of_mem _ hx)⟩
    rcases List.mem_append.1 hm with hm | hm
    · exact h.nw x (List.mem_cons_of_mem _ hx) hm
    · exact hn.1 (List.mem_map.2 ⟨x, hx, List.mem_singleton.1 hm⟩)
abbrev pairsOf (a : X_Arguments) : List (Str × X_Value) := a.2.1.zip a.2.2
theorem fill_ne {fn : Str} {D : List X_Value} {g : Gv} : ∀ {Q : List X_Param} {nx : Nat} {m : Str}, fill fn D g Q nx = .error m → m ≠ [] := by
  intro Q
  induction Q with
  | nil => intro nx m e; cases e
  | cons p Q ih =>
    intro nx m e
    rw [fill] at e
    have hmap : ∀ (v : X_Value), (fill fn D g Q (nx + p.2.2.length)).map (v :: ·) = .error m → m ≠ [] := by
      intro v e
      cases hq : fill fn D g Q (nx + p.2.2.length) with
      | error m' => rw [hq] at e; cases e; exact ih hq
      | ok ws => rw [hq] at e; cases e
    cases hk2 : (p.1 == 0 || p.1 == 2) with
    | false => rw [hk2, cond_false] at e; exact hmap _ e
    | true =>
      rw [hk2, cond_true] at e
      cases hl : look1 g p.2.1 with
      | some v => rw [hl] at e; exact hmap _ e
      | none =>
        rw [hl] at e
        dsimp only at e
        cases hd0 : decide (p.2.2.length > 0) with
        | true => rw [hd0, cond_true] at e; exact hmap _ e
        | false => rw [hd0, cond_false] at e; cases e; simp
theorem proc_ne {P : List X_Param} {fn : Str} : ∀ {l : List (Str × X_Value)} {g : Gv} {m : Str}, proc P fn l g = .error m → m ≠ []
  | [], g, m, h => by cases h
  | (s, v) :: l, g, m, h => by
    rw [proc] at h
    cases c1 : g.names.any (fun y => s == y) with
    | true => rw [c1, cond_true] at h; cases h; simp
    | false =>
      rw [c1, cond_false] at h
      cases c2 : (!isOwn P s && !hasPairs P) with
      | true => rw [c2, cond_true] at h; cases h; simp
      | false => rw [c2, cond_false] at h; exact proc_ne h
section
variable {P : List X_Param} {D : List X_Value} {a : X_Arguments} {fn : Str}
theorem boundS_res (h : (boundS P D a fn).2 = []) : ∃ vs, (decide (a.1.length > nPlain P) && !hasStar P) = false ∧ Cl P (pairsOf a) (start P a.1).names ∧ fill fn D (res P (pairsOf a) (start P a.1)) P 0 = .ok vs ∧
    boundS P D a fn = ((vs, (a.1.drop (nPlain P), ((oth P (pairsOf a)).map (·.1), (oth P (pairsOf a)).map (·.2)))), []) := by
  unfold boundS at h ⊢
  cases hc : (decide (a.1.length > nPlain P) && !hasStar P) with
  | true => rw [hc, cond_true] at h; simp [sMany] at h
  | false =>
    rw [hc, cond_false] at h
    rw [cond_false]
    cases hp : proc P fn (a.2.1.zip a.2.2) (start P a.1) with
    | error m => rw [hp] at h; exact absurd h (proc_ne hp)
    | ok g =>
      obtain ⟨h1, h2⟩ := proc_res hp
      rw [hp] at h
      dsimp only at h ⊢
      cases hf : fill fn D g P 0 with
      | error m => rw [hf] at h; exact absurd h (fill_ne hf)
      | ok vs =>
        rw [h2] at hf
        refine ⟨vs, rfl, h1, hf, ?_⟩
        rw [h2]
        rfl
theorem boundS_mk {vs : List X_Value} (hc : (decide (a.1.length > nPlain P) && !hasStar P) = false) (h1 : Cl P (pairsOf a) (start P a.1).names) (h2 : fill fn D (res P (pairsOf a) (start P a.1)) P 0 = .ok vs) :
    boundS P D a fn = ((vs, (a.1.drop (nPlain P), ((oth P (pairsOf a)).map (·.1), (oth P (pairsOf a)).map (·.2)))), []) := by
  unfold boundS
  rw [hc, cond_false, proc_mk h1]
  dsimp only
  rw [h2]
  rfl
theorem zip_map_fs : ∀ l : List (Str × X_Value), (l.map (·.1)).zip (l.map (·.2)) = l
  | [] => rfl
  | x :: l => by simp [zip_map_fs l]
theorem start_nd (h : PV P) (V : List X_Value) : (start P V).names.Nodup := by
  show ((P.take (min (nPlain P) V.length)).map (·.2.1)).Nodup
  have hle := nPlain_le P
  rw [List.Nodup, List.pairwise_iff_getElem]
  intro i j hi hj hij
  rw [List.length_map, List.length_take] at hi hj
  rw [List.getElem_map, List.getElem_map, List.getElem_take, List.getElem_take]
  have h1 := (plain_iff h (show i < P.length by omega)).2 (by omega)
  have h2 := (plain_iff h (show j < P.length by omega)).2 (by omega)
  exact nm_ne h (by omega) (by omega) (by omega) (by omega) (by omega)
theorem start_len (V : List X_Value) : (start P V).given.length = (start P V).names.length := by
  have hle := nPlain_le P
  show (V.take (min (nPlain P) V.length)).length = ((P.take (min (nPlain P) V.length)).map (·.2.1)).length
  rw [List.length_map, List.length_take, List.length_take]
  omega
theorem res_zip {l : List (Str × X_Value)} {g : Gv} (h : g.given.length = g.names.length) : (res P l g).names.zip (res P l g).given = g.names.zip g.given ++ l := by
  show (g.names ++ l.map (·.1)).zip (g.given ++ l.map (·.2)) = _
  rw [List.zip_append h.symm, zip_map_fs]
theorem res_len {l : List (Str × X_Value)} {g : Gv} (h : g.given.length = g.names.length) : (res P l g).given.length = (res P l g).names.length := by
  show (g.given ++ l.map (·.2)).length = (g.names ++ l.map (·.1)).length
  simp [h]
theorem res_nd {l : List (Str × X_Value)} {g : Gv} (h : g.names.Nodup) (hc : Cl P l g.names) : (res P l g).names.Nodup := by
  show (g.names ++ l.map (·.1)).Nodup
  rw [List.nodup_append]
  refine ⟨h, hc.nd, fun x hx y hy e => ?_⟩
  subst e
  obtain ⟨z, hz, e⟩ := List.mem_map.1 hy
  exact hc.nw z hz (by rw [show z.1 = x from e]; exact hx)
/-- another order of the named -/
theorem boundS_perm {b : X_Arguments} (hP : PV P) (hV : b.1 = a.1) (hp : (pairsOf b).Perm (pairsOf a)) (h : (boundS P D a fn).2 = []) :
    boundS P D b fn = (((boundS P D a fn).1.1, ((boundS P D a fn).1.2.1, ((oth P (pairsOf b)).map (·.1), (oth P (pairsOf b)).map (·.2)))), []) := by
  obtain ⟨vs, h1, h2, h3, h4⟩ := boundS_res h
  have hc : Cl P (pairsOf b) (start P a.1).names := ⟨(hp.map _).nodup_iff.2 h2.nd, fun x hx => h2.nw x (hp.mem_iff.1 hx), fun x hx => h2.kn x (hp.mem_iff.1 hx)⟩
  rw [h4, ← hV]
  refine boundS_mk (by rw [hV]; exact h1) (by rw [hV]; exact hc) ?_
  rw [hV, ← h3]
  refine fill_congr (look1_congr (res_len (start_len _)) (res_nd (start_nd hP _) hc) (res_len (start_len _)) (res_nd (start_nd hP _) h2) fun x => ?_) P 0
  rw [res_zip (start_len _), res_zip (start_len _), List.mem_append, List.mem_append, hp.mem_iff]
/-- the last positional given by its name -/
theorem boundS_last {b : X_Arguments} {n : Nat} (hP : PV P) (hn : n < a.1.length) (hn1 : a.1.length = n + 1) (hnP : n < P.length) (hk : (P[n]).1 = 0) (hl : a.2.1.length = a.2.2.length)
    (hb : b = (a.1.take n, (a.2.1 ++ [(P[n]).2.1], a.2.2 ++ [a.1[n]]))) (h : (boundS P D a fn).2 = []) :
    boundS P D b fn = boundS P D a fn := by
  obtain ⟨vs, h1, h2, h3, h4⟩ := boundS_res h
  have hnp := (plain_iff hP hnP).1 hk
  have hz : pairsOf b = pairsOf a ++ [((P[n]).2.1, a.1[n])] := by
    subst hb
    show (a.2.1 ++ [(P[n]).2.1]).zip (a.2.2 ++ [a.1[n]]) = _
    rw [List.zip_append hl]
    rfl
  have hbl : b.1.length = n := by subst hb; simp; omega
  have hb1 : b.1 = a.1.take n := by subst hb; rfl
  have s1 : (start P a.1).names = (start P b.1).names ++ [(P[n]).2.1] := by
    show (P.take (min (nPlain P) a.1.length)).map (·.2.1) = (P.take (min (nPlain P) b.1.length)).map (·.2.1) ++ [(P[n]).2.1]
    rw [show min (nPlain P) a.1.length = n + 1 by omega, show min (nPlain P) b.1.length = n by omega, List.take_succ_eq_append_getElem hnP, List.map_append]
    rfl
  have s2 : (start P a.1).given = (start P b.1).given ++ [a.1[n]] := by
    show a.1.take (min (nPlain P) a.1.length) = b.1.take (min (nPlain P) b.1.length) ++ [a.1[n]]
    rw [show min (nPlain P) a.1.length = n + 1 by omega, show min (nPlain P) b.1.length = n by omega, hb1, List.take_take, Nat.min_self, List.take_succ_eq_append_getElem hn]
  have own : isOwn P (P[n]).2.1 = true := by
    rw [isOwn, List.any_eq_true]
    exact ⟨_, List.getElem_mem hnP, by simp [Go.Ab.own, hk]⟩
  have snd := start_nd hP a.1
  rw [s1, List.nodup_append] at snd
  have hc : Cl P (pairsOf b) (start P b.1).names := by
    rw [hz]
    have hw := h2.nw
    rw [s1] at hw
    refine ⟨?_, fun x hx => ?_, fun x hx => ?_⟩
    · rw [List.map_append, List.nodup_append]
      refine ⟨h2.nd, by simp, fun x hx y hy e => ?_⟩
      obtain ⟨z, hz, e2⟩ := List.mem_map.1 hx
      refine hw z hz ?_
      rw [show z.1 = x from e2, e, List.mem_singleton.1 hy]
      simp
    · rcases List.mem_append.1 hx with hx | hx
      · exact fun hm => hw x hx (List.mem_append_left _ hm)
      · rw [List.mem_singleton.1 hx]
        exact fun hm => snd.2.2 _ hm _ (by simp) rfl
    · rcases List.mem_append.1 hx with hx | hx
      · exact h2.kn x hx
      · rw [List.mem_singleton.1 hx]; exact .inl own
  have ho : oth P (pairsOf b) = oth P (pairsOf a) := by
    rw [hz, oth, List.filter_append]
    simp [own]
  rw [h4, boundS_mk (vs := vs) (by rw [hbl]; simp; omega) hc ?_]
  · rw [ho, List.drop_of_length_le (by omega), List.drop_of_length_le (by omega)]
  · rw [← h3]
    refine fill_congr (look1_congr (res_len (start_len _)) (res_nd (start_nd hP _) hc) (res_len (start_len _)) (res_nd (start_nd hP _) h2) fun x => ?_) P 0
    rw [res_zip (start_len _), res_zip (start_len _), hz, s1, s2, List.zip_append (start_len _).symm]
    simp only [List.mem_append, List.zip_cons_cons, List.zip_nil_right, List.mem_singleton]
    constructor
    · rintro (h | h | h)
      · exact .inl (.inl h)
      · exact .inr h
      · exact .inl (.inr h)
    · rintro ((h | h) | h)
      · exact .inl h
      · exact .inr (.inr h)
      · exact .inr (.inl h)
end
end Go.Ab
