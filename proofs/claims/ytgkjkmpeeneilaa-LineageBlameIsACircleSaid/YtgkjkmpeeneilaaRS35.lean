/- A part of the proof: RS35. -/
import Derived.Test.YtgkjkmpeeneilaaRS34
namespace Go.Ab
set_option linter.unusedVariables false
set_option linter.unusedSimpArgs false
theorem ocd_19 (all : List (List Int)) (i : Nat) (l : List Int) : ocd all i l ≠ 19 := by
  unfold ocd
  cases ((l.length : Int) == 0) with
  | true => simp
  | false =>
    cases (decide ((l.length : Int) > 40)) with
    | true => simp
    | false =>
      cases (l.any fun n => decide (n < 0)) with
      | true => simp
      | false =>
        cases (dupB l || (all.take i).any (fun m => hdI m == hdI l)) <;> simp
theorem fault_19 {k : Nat} (hk : 17592186044420 < k) {all : List (List Int)} (hok : ∀ l ∈ all, okI l) {r : X_Fault} (h : f_ref7_OrdersFault.u k all = some r) : r.1 ≠ 19 := by
  have h' : f_ref7_OrdersFault.f (f_ref7_At.u k) (f_ref7_HasInt.u k) k all = some r := h
  rw [f_ref7_OrdersFault.f, f_ref7_OrdersFault.b] at h'
  by_cases hl : all.length > 8
  · rw [decide_eq_true (by omega), cond_true, f_ref7_At.spec3] at h'
    cases h'
    simp
  · rw [decide_eq_false (by omega), cond_false] at h'
    have key : ∀ (d n i : Nat), i ≤ all.length → all.length - i = d → d < n → rchk k n (0, 0) (heads (all.take i)) all (all.length : Int) (i : Int) = some r → r.1 ≠ 19 := by
      intro d
      induction d with
      | zero =>
        intro n i hi hd hn h
        obtain ⟨n, rfl⟩ : ∃ m, n = m + 1 := ⟨n - 1, by omega⟩
        rw [rchk, f_ref7_OrdersFault.l0, f_ref7_OrdersFault.b_l0, decide_eq_false (by omega), cond_false] at h
        cases h
        simp
      | succ d ih =>
        intro n i hi hd hn h
        obtain ⟨n, rfl⟩ : ∃ m, n = m + 1 := ⟨n - 1, by omega⟩
        have hlt : i < all.length := by omega
        rw [rchk_step hk (by omega) hok hlt] at h
        cases hc : (ocd all i all[i] != 0) with
        | true =>
          rw [hc, cond_true] at h
          cases h
          exact ocd_19 _ _ _
        | false =>
          rw [hc, cond_false] at h
          exact ih n (i + 1) (by omega) (by omega) (by omega) h
    exact key all.length k 0 (by omega) (by omega) (by omega) h'
section
variable {k : Nat} {all : List (List Int)}
theorem ini_of {X : List Int} (hl : all.length ≤ 8) (hg : good all all.length) (h : X ∈ ini all) : X.Nodup ∧ X.length ≤ 40 ∧ (X ∈ all ∨ X = heads all) := by
  rcases List.mem_append.1 (ne_mem.1 h).1 with hx | hx
  · obtain ⟨i, hi, rfl⟩ := List.mem_iff_getElem.1 hx
    have := ocd_ok (hg i hi hi)
    exact ⟨dup_nodup this.2.2.2.1, this.2.1, .inl hx⟩
  · rw [List.mem_singleton.1 hx]
    exact ⟨heads_nodup hg, by rw [heads, List.length_map]; omega, .inr rfl⟩
theorem RO.of (hl : all.length ≤ 8) (hg : good all all.length) {res : List Int} {rest : List (List Int)} {n : Nat} (h : mrg n [] (ini all) = some (res, rest)) : RO rest := by
  obtain ⟨h1, h2, h3⟩ := mrg_rest n [] (ini all) res rest (ini_ne all) h
  have h4 : (ini all).length ≤ (all ++ [heads all]).length := List.length_filter_le _ _
  simp only [List.length_append, List.length_cons, List.length_nil] at h4
  refine ⟨fun x hx => ?_, h2, by omega⟩
  obtain ⟨q, X, hX, hs⟩ := h1 x hx
  obtain ⟨n1, n2, _⟩ := ini_of hl hg hX
  exact ⟨q, List.Nodup.sublist hs.sublist n1, Nat.le_trans hs.length_le n2⟩
theorem ahead_of (hl : all.length ≤ 8) (hg : good all all.length) {res : List Int} {rest : List (List Int)} {n : Nat} (h : mrg n [] (ini all) = some (res, rest)) {b a : Int} (hs : Stp rest b a) : (all.any (fun X => ahB X b a) || ahB (heads all) b a) = true := by
  obtain ⟨h1, _, _⟩ := mrg_rest n [] (ini all) res rest (ini_ne all) h
  obtain ⟨x, hx, e, q⟩ := hs
  obtain ⟨q0, X, hX, hsuf⟩ := h1 x hx
  obtain ⟨n1, _, n3⟩ := ini_of hl hg hX
  have := ahB_of n1 hsuf q0 e q
  rw [Bool.or_eq_true]
  rcases n3 with n3 | n3
  · left
    rw [List.any_eq_true]
    exact ⟨X, n3, this⟩
  · right
    rw [← n3]; exact this
noncomputable abbrev lw0 (k : Nat) := f_law7_LineageBlameIsACircle.l0 (f_lineage_Blame.u k) (f_ref7_Blamed.u k) (f_ref7_Ints.u k) (f_lineage_Order.u k) (f_ref7_Ahead.u k) k
theorem law_l0 (hk : 400 < k) (hl : all.length ≤ 8) (hg : good all all.length) {res : List Int} {rest : List (List Int)} {m : Nat} (h : mrg m [] (ini all) = some (res, rest)) {C : List Int} (hc : Cyc rest C) (hC : C.length ≤ 9) (h2 : 1 < C.length) {t : Nat} (ht : t < C.length) (d : Nat) : ∀ (n i : Nat), i ≤ C.length → C.length - i = d → d < n →
    lw0 k n all (outC C t) (0, 0) (outC C t) (C.length : Int) (i : Int) = some true := by
  have hol := outC_len C t
  induction d with
  | zero =>
    intro n i hi hd hn
    obtain ⟨n, rfl⟩ : ∃ m, n = m + 1 := ⟨n - 1, by omega⟩
    rw [lw0, f_law7_LineageBlameIsACircle.l0, f_law7_LineageBlameIsACircle.q_l0, f_law7_LineageBlameIsACircle.c_l0, decide_eq_false (by omega), cond_false, show (((0 : Int)) != 0) = false from rfl, cond_false, hol, decide_eq_true (by omega)]
  | succ d ih =>
    intro n i hi hd hn
    obtain ⟨n, rfl⟩ : ∃ m, n = m + 1 := ⟨n - 1, by omega⟩
    have hlt : i < C.length := by omega
    have hm : (i + 1) % C.length < C.length := Nat.mod_lt _ (by omega)
    have hidx : Int.tmod ((i + 1 : Nat) : Int) (C.length : Int) = (((i + 1) % C.length : Nat) : Int) := rfl
    have hst := ahead_of hl hg h (outC_st hc ht hlt)
    rw [lw0, f_law7_LineageBlameIsACircle.l0, f_law7_LineageBlameIsACircle.q_l0, f_law7_LineageBlameIsACircle.c_l0, decide_eq_true (by omega), cond_true, hol, if_pos ⟨by omega, by omega⟩, if_neg (by omega), wrapN (by omega), hidx, if_pos ⟨by omega, by omega⟩, Int.toNat_natCast, Int.toNat_natCast, getD_of (by omega), getD_of (by omega), Ahead_spec hk hl (good_mem hg), hst, Option.bind_some, Bool.not_true, cond_false]
    exact ih n (i + 1) (by omega) (by omega) (by omega)
theorem law7_none (x : X_Fault) (hx : x.1 ≠ 0) (hk : 0 < k) : lw0 k k all [] x [] 0 0 = some true := by
  obtain ⟨n, hn⟩ : ∃ m, k = m + 1 := ⟨k - 1, by omega⟩
  have key : ∀ n, lw0 k (n + 1) all [] x [] 0 0 = some true := by
    intro n
    rw [lw0, f_law7_LineageBlameIsACircle.l0, f_law7_LineageBlameIsACircle.q_l0, f_law7_LineageBlameIsACircle.c_l0, decide_eq_false (by omega), cond_false, show (x.1 != 0) = true by simpa using hx, cond_true]
  have := key n
  rwa [← hn] at this
end
theorem law7 (all : List (List Int)) (hok : ∀ l ∈ all, okI l) : ∃ k y, f_law7_LineageBlameIsACircle.u k all = some y ∧ y = true := by
  have hk : 17592186044420 < 17592186044421 := by omega
  generalize hK : 17592186044421 = k at hk
  have hk4 : 400 < k := by omega
  obtain ⟨r, h1, h2, h3⟩ := check3 hk all hok
  obtain ⟨r', g1, g3, g4, g5⟩ := order_eq hk all hok
  have : r' = r := by rw [h1] at g1; cases g1; rfl
  subst this
  have h19 := fault_19 hk hok h2
  refine ⟨k, true, ?_, rfl⟩
  show f_law7_LineageBlameIsACircle.f (f_lineage_Blame.u k) (f_ref7_Blamed.u k) (f_ref7_Ints.u k) (f_lineage_Order.u k) (f_ref7_Ahead.u k) k all = _
  have main : ∀ (l : List Int) (f : X_Fault) (o : List Int × X_Fault), f_lineage_Blame.u k all = some (l, f) → f_ref7_Blamed.u k all = some (l, f) → ord k all r' = some o → l.length ≤ 9 → ((f.1 == 0) != (o.2.1 == 19)) = false → lw0 k k all l f l (l.length : Int) 0 = some true → f_law7_LineageBlameIsACircle.f (f_lineage_Blame.u k) (f_ref7_Blamed.u k) (f_ref7_Ints.u k) (f_lineage_Order.u k) (f_ref7_Ahead.u k) k all = some true := by
    intro l f o e1 e2 e3 hl e4 e5
    rw [f_law7_LineageBlameIsACircle.f, f_law7_LineageBlameIsACircle.q, f_law7_LineageBlameIsACircle.c, e1, Option.bind_some, e2, Option.bind_some]
    dsimp only
    rw [show Ty.eqT Y_Fault f f = true by simp [Ty.eqT], Bool.not_true, cond_false, f_ref7_Ints.spec (by omega) (by omega), Option.bind_some, beq_self_eq_true, Bool.not_true, cond_false, g4, e3, Option.bind_some, e4, cond_false]
    exact e5
  have hB : f_lineage_Blame.u k all = f_lineage_Blame.f (f_lineage_check.u k) (f_lineage_lists.u k) (f_lineage_merge.u k) (f_lineage_fault.u k) (f_slices_Index_int.u k) (f_lineage_turned.u k) (f_slices_IndexFunc_Lint.u k) (f_lineage_Blame_c1.u k) k all := rfl
  have hR : f_ref7_Blamed.u k all = f_ref7_Blamed.f (f_ref7_OrdersFault.u k) (f_ref7_Merged.u k) (f_ref7_At.u k) (f_ref7_HasInt.u k) (f_slices_Index_int.u k) k all := rfl
  rw [f_lineage_Blame.f, f_lineage_Blame.q, f_lineage_Blame.c, h1, Option.bind_some] at hB
  rw [f_ref7_Blamed.f, f_ref7_Blamed.q, f_ref7_Blamed.c, h2, Option.bind_some] at hR
  cases hr : (r'.1 != 0) with
  | true =>
    have hr' : r'.1 ≠ 0 := by simpa using hr
    rw [hr, cond_true] at hB hR
    refine main [] r' ([], r') hB hR (by rw [ord, hr, cond_true]) (by simp) ?_ (law7_none r' hr' (by omega))
    rw [show (r'.1 == 0) = false by simpa using hr', show (r'.1 == 19) = false by simpa using h19]
    rfl
  | false =>
    obtain ⟨rfl, hal, hg⟩ := h3 (by simpa using hr)
    have hm := good_mem hg
    have ht := (MOk.start hal hg).sum
    have ht2 : tot (ini all) ≤ 400 := by rw [ini, tot_ne]; simp only [List.length_nil] at ht; omega
    obtain ⟨⟨res, rest⟩, hy⟩ := mrg_some k [] (ini all) (ini_ne all) (by omega)
    have hms : f_lineage_merge.u k (all ++ [heads all]) = mrg k [] (ini all) := merge_spec hk4 (MOk.start hal hg)
    rw [hr, cond_false, lists_spec hk4 hal (fun x hx => (hm x hx).1), Option.bind_some, hms, hy, Option.bind_some] at hB
    rw [hr, cond_false, merged_spec hk4 hal hg, hy, Option.bind_some] at hR
    dsimp only at hB hR
    have ho : ord k all (0, 0) = bif decide ((rest.length : Int) > 0) then some ([], (19, -1)) else bif decide ((res.length : Int) ≥ 40) then some ([], (14, -1)) else some (res, (0, 0)) := by
      rw [ord, hr, cond_false, hy]
      rfl
    by_cases h0 : rest = []
    · subst h0
      rw [show (((([] : List (List Int)).length : Int)) == 0) = true from rfl, cond_true, f_lineage_fault.spec, Option.bind_some] at hB
      rw [show (((([] : List (List Int)).length : Int)) == 0) = true from rfl, cond_true, f_ref7_At.spec3, Option.bind_some] at hR
      rw [show decide (((([] : List (List Int)).length : Int)) > 0) = false from rfl, cond_false] at ho
      cases hc : decide ((res.length : Int) ≥ 40) with
      | true =>
        rw [hc, cond_true] at ho
        exact main [] (12, -1) _ hB hR ho (by simp) rfl (law7_none _ (by simp) (by omega))
      | false =>
        rw [hc, cond_false] at ho
        exact main [] (12, -1) _ hB hR ho (by simp) rfl (law7_none _ (by simp) (by omega))
    · have hro := RO.of hal hg hy
      have hpos := List.length_pos_iff.2 h0
      have hlen := hro.len
      have hne := (hro.ne _ (List.getElem_mem hpos)).1
      have hpos2 := List.length_pos_iff.2 hne
      have ha : (rest[0]).getD 0 0 ∈ rest.map hdI := List.mem_map.2 ⟨rest[0], List.getElem_mem hpos, rfl⟩
      obtain ⟨w', a', hw, hch, hmem, hlast⟩ := wlk_ok hro.st k [] ((rest[0]).getD 0 0) ⟨by simp, by simp, fun i h => by simp at h⟩ ha (fun h => by simp at h) (by simp; omega)
      have hwl := nodup_le hch.nd hch.hs
      rw [List.length_map] at hwl
      obtain ⟨j, hj, e, q⟩ := idxF_at (fun y => a' == y) w' 0 (anyI.2 hmem)
      rw [Nat.zero_add] at e
      rw [beq_iff_eq] at q
      have hcyc := Cyc.of hch hj q.symm hlast
      have hC9 : (w'.drop j).length ≤ 9 := by rw [List.length_drop]; omega
      have h2 := hcyc.two fun x hx => ⟨(hro.ne x hx).1, (hro.ne x hx).2.1⟩
      obtain ⟨t, hts, hbl⟩ := blamed_l0 hk4 hro (w' := w') (a' := a') (by omega) hj e rfl
      have htl := hts.1
      rw [show (((rest.length : Int)) == 0) = false by rw [beq_eq_false_iff_ne]; omega, cond_false, if_pos (by omega), getD_of hpos, if_pos (by omega)] at hB hR
      have e1 := hB.trans (blame_l0 hk4 hro (by omega) hj e rfl hcyc.nd hts k [] _ ha hw)
      have e2 := hR.trans (hbl k [] _ ha hw)
      rw [decide_eq_true (by omega), cond_true] at ho
      refine main _ _ _ e1 e2 ho (by rw [outC_len]; exact hC9) rfl ?_
      have := law_l0 hk4 hal hg hy hcyc hC9 h2 htl (w'.drop j).length k 0 (by omega) (by omega) (by omega)
      rw [outC_len]
      exact this
end Go.Ab
