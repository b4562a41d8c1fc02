/- A part of the proof: RS31. -/
import Derived.Test.YtgkjkmpeeneilaaRS30
namespace Go.Ab
set_option linter.unusedVariables false
set_option linter.unusedSimpArgs false
theorem zip_set {α β : Type} : ∀ (l : List α) (m : List β) (i : Nat) (x : α) (y : β), (l.set i x).zip (m.set i y) = (l.zip m).set i (x, y)
  | [], _, i, x, y => by simp
  | _ :: _, [], i, x, y => by cases i <;> simp
  | a :: l, b :: m, 0, x, y => by simp
  | a :: l, b :: m, i + 1, x, y => by simp [zip_set l m i x y]
theorem tmod_in {n : Nat} (h1 : 1 < n) (h2 : n ≤ 1000) (i : Int) : ∃ j : Nat, j < n ∧ Int.tmod (IntKind.i64.wrap (Int.tmod i (n : Int) + (n : Int))) (n : Int) = (j : Int) := by
  have h3 : -(n : Int) < Int.tmod i n := Int.lt_tmod_of_pos _ (by omega)
  have h4 : Int.tmod i n < n := Int.tmod_lt_of_pos _ (by omega)
  rw [wrapI (by omega) (by omega)]
  have h5 : 0 ≤ Int.tmod (Int.tmod i n + n) n := Int.tmod_nonneg _ (by omega)
  have h6 : Int.tmod (Int.tmod i n + n) n < n := Int.tmod_lt_of_pos _ (by omega)
  exact ⟨(Int.tmod (Int.tmod i n + n) n).toNat, by omega, by omega⟩
section
variable {k : Nat} {P : List X_Param} {D : List X_Value} {a : X_Arguments}
/-- what the first binding has read -/
structure Got (k : Nat) (P : List X_Param) (D : List X_Value) (a : X_Arguments) (vs : List X_Value) : Prop where
  hi : HI P D a [102]
  ck : f_arguments_Check.u k P = some (0, 0)
  hP : PV P
  hB : HB P D a [102]
  p9 : ∀ v ∈ a.1, v.1 ≠ 9
  n9 : ∀ v ∈ a.2.2, v.1 ≠ 9
  e : boundS P D a [102] = ((vs, (a.1.drop (nPlain P), ((oth P (pairsOf a)).map (·.1), (oth P (pairsOf a)).map (·.2)))), [])
  cl : Cl P (pairsOf a) (start P a.1).names
  vsO : vs.length = P.length ∧ ∀ v ∈ vs, vOk v
  aO : ∀ v ∈ a.1, vOk v
  mO : ∀ v ∈ a.2.2, vOk v
theorem Got.F {vs : List X_Value} (h : Got k P D a vs) : (oth P (pairsOf a)).length ≤ 1001 ∧ ((oth P (pairsOf a)).map (·.1)).Nodup ∧ ∀ x ∈ oth P (pairsOf a), vOk x.2 := by
  have h1 : (oth P (pairsOf a)).length ≤ (pairsOf a).length := List.length_filter_le _ _
  have h2 := h.hB.V
  rw [List.length_zip] at h1
  refine ⟨by omega, ?_, fun x hx => h.mO _ (List.of_mem_zip ((List.mem_filter.1 hx).1)).2⟩
  exact List.Nodup.sublist (List.Sublist.map _ List.filter_sublist) h.cl.nd
theorem Got.tail (hk : BIG < k) {vs : List X_Value} (h : Got k P D a vs) (i j : Int) :
    (bif decide ((a.2.1.length : Int) > 1) then f_law7_ArgumentsByName.g13 (f_arguments_Bind.u k) (f_slices_Concat_string.u k) (f_slices_Concat_Value.u k) (f_law7_binds.u k) (f_slices_Clone_string.u k) (f_slices_Clone_Value.u k) k P D i j a (boundS P D a [102]).1 (a.2.1.length : Int) else some true) = some true := by
  have hk2 : 5000 < k := by unfold BIG at hk; omega
  have hV := h.hB.V
  have hNN := h.hB.NN
  by_cases hc : a.2.1.length > 1
  · rw [decide_eq_true (by omega), cond_true, f_law7_ArgumentsByName.g13, gate_pos (by omega), f_law7_ArgumentsByName.q_g13, f_law7_ArgumentsByName.c_g13, if_neg (by omega), if_neg (by omega), if_neg (by omega), if_neg (by omega), f_slices_Clone_string.spec (by simp only [LIM]; omega), Option.bind_some, f_slices_Clone_Value.spec (by simp only [LIM]; omega), Option.bind_some]
    obtain ⟨m, hm, e1⟩ := tmod_in hc (by omega) i
    obtain ⟨n, hn, e2⟩ := tmod_in hc (by omega) j
    rw [e1, e2, if_pos ⟨by omega, by omega⟩, if_pos ⟨by omega, by omega⟩, if_pos ⟨by omega, by omega⟩, if_pos ⟨by omega, by omega⟩, if_pos ⟨by omega, by omega⟩, if_pos ⟨by omega, by omega⟩, if_pos ⟨by omega, by omega⟩, if_pos ⟨by omega, by omega⟩]
    simp only [Int.toNat_natCast, Nat.zero_add]
    rw [List.take_of_length_le (by simp), List.take_of_length_le (by simp), getD_of hn, getD_of hm, getD_of (by omega), getD_of (by omega)]
    generalize hx : ((a.1, ((a.2.1.set m a.2.1[n]).set n a.2.1[m], (a.2.2.set m (a.2.2[n]'(by omega))).set n (a.2.2[m]'(by omega)))) : X_Arguments) = x
    have hp : (pairsOf x).Perm (pairsOf a) := by
      subst hx
      show (((a.2.1.set m a.2.1[n]).set n a.2.1[m]).zip ((a.2.2.set m (a.2.2[n]'(by omega))).set n (a.2.2[m]'(by omega)))).Perm _
      rw [zip_set, zip_set]
      have hl : (a.2.1.zip a.2.2).length = a.2.1.length := by rw [List.length_zip]; omega
      have := @List.set_set_perm _ (a.2.1.zip a.2.2) m n (by omega) (by omega)
      rw [List.getElem_zip, List.getElem_zip] at this
      exact this
    have x1 : x.1 = a.1 := by subst hx; rfl
    have x2 : x.2.1.length = a.2.1.length := by subst hx; simp
    have x3 : x.2.2.length = a.2.2.length := by subst hx; simp
    have m2 : ∀ s ∈ x.2.1, s ∈ a.2.1 := by
      subst hx
      intro s hs
      rcases List.mem_or_eq_of_mem_set hs with hs | rfl
      · rcases List.mem_or_eq_of_mem_set hs with hs | rfl
        · exact hs
        · exact List.getElem_mem _
      · exact List.getElem_mem _
    have m3 : ∀ s ∈ x.2.2, s ∈ a.2.2 := by
      subst hx
      intro s hs
      rcases List.mem_or_eq_of_mem_set hs with hs | rfl
      · rcases List.mem_or_eq_of_mem_set hs with hs | rfl
        · exact hs
        · exact List.getElem_mem _
      · exact List.getElem_mem _
    have hi' : HI P D x [102] := ⟨h.hi.D, by rw [x1]; exact h.hi.V, by rw [x2]; exact h.hi.N, by rw [x3]; exact h.hi.M, h.hi.fnl, fun s hs => h.hi.nl s (m2 s hs), h.hi.pl⟩
    have hB' : HB P D x [102] := ⟨h.hB.P12, h.hB.D12, h.hB.dl, by rw [x1, x2]; exact h.hB.V, by rw [x2, x3]; exact hNN, h.hB.fnl, fun s hs => h.hB.nl s (m2 s hs), h.hB.pl⟩
    have hb := bfault_zero hB' (by rw [x1]; exact h.p9) (fun v hv => h.n9 v (m3 v hv))
    have he := boundS_perm (fn := [102]) (D := D) h.hP x1 hp (by rw [h.e])
    rw [h.e] at he ⊢
    rw [binds_spec (vs := vs) (rest := a.1.drop (nPlain P)) (F := oth P (pairsOf a)) (G := oth P (pairsOf x)) hk hi' h.ck h.hP hb he ⟨by have := h.hB.P12; have := h.vsO.1; unfold BIG; omega, h.vsO.2⟩ ⟨by rw [List.length_drop]; have := h.hi.V; omega, fun v hv => h.aO v (List.mem_of_mem_drop hv)⟩ h.F.1 (hp.filter _) h.F.2.1 h.F.2.2]
    rfl
  · rw [decide_eq_false (by omega), cond_false]
theorem law6 (P : List X_Param) (D : List X_Value) (a : X_Arguments) (i j : Int) (hi : HI P D a [102]) (hD : ∀ v ∈ D, vOk v) (h1 : ∀ v ∈ a.1, vOk v) (h2 : ∀ v ∈ a.2.2, vOk v) : ∃ k y, f_law7_ArgumentsByName.u k (P, (D, (a, (i, j)))) = some y ∧ y = true := by
  have hk : BIG < BIG + 1 := Nat.lt_succ_self _
  have hk2 : 5000 < BIG + 1 := by unfold BIG; omega
  generalize BIG + 1 = k at hk hk2
  refine ⟨k, true, ?_, rfl⟩
  obtain ⟨r, e1, e2, e3⟩ := bind_both hk2 hi
  show f_law7_ArgumentsByName.f (f_arguments_Bind.u k) (f_slices_Concat_string.u k) (f_slices_Concat_Value.u k) (f_law7_binds.u k) (f_slices_Clone_string.u k) (f_slices_Clone_Value.u k) k P D a i j = _
  rw [f_law7_ArgumentsByName.f, f_law7_ArgumentsByName.q, f_law7_ArgumentsByName.c]
  by_cases h0 : r.1 = 0
  · obtain ⟨ck, hP⟩ := check_zero hk2 hi e1 h0
    obtain ⟨rfl, _, hB, p9, n9, e⟩ := e3 h0
    rw [e, outB, Option.bind_some]
    dsimp only
    rw [show (((0 : Int)) != 0) = false from rfl, cond_false]
    by_cases ht : (boundS P D a [102]).2 = []
    · obtain ⟨vs, c1, cl, hf, he⟩ := boundS_res ht
      have hgv : ∀ v ∈ (res P (pairsOf a) (start P a.1)).given, vOk v := by
        intro v hv
        rcases List.mem_append.1 (show v ∈ (start P a.1).given ++ (pairsOf a).map (·.2) from hv) with hv | hv
        · exact h1 v (List.mem_of_mem_take (show v ∈ a.1.take (min (nPlain P) a.1.length) from hv))
        · obtain ⟨x, hx, rfl⟩ := List.mem_map.1 hv
          exact h2 _ (List.of_mem_zip hx).2
      have hvs := fill_ok (Q := vOk) ⟨Nat.zero_le _, Nat.zero_le _⟩ ⟨Nat.zero_le _, Nat.zero_le _⟩ hD hgv hf
      have g : Got k P D a vs := ⟨hi, ck, hP, hB, p9, n9, he, cl, hvs, h1, h2⟩
      have tl := g.tail hk i j
      have hV := hB.V
      have hNN := hB.NN
      rw [show ((boundS P D a [102]).2 != []) = false by rw [ht]; rfl, cond_false, show (((boundS P D a [102]).1.1.length : Int) != (P.length : Int)) = false by rw [he]; simp [hvs.1], cond_false, show ((a.2.1.length : Int) != (a.2.2.length : Int)) = false by simp [hNN], cond_false]
      by_cases c2 : a.1.length > 0
      · obtain ⟨n, hn1⟩ : ∃ n, a.1.length = n + 1 := ⟨a.1.length - 1, by omega⟩
        rw [decide_eq_true (show (a.1.length : Int) > 0 by omega), cond_true, wrapI (by omega) (by omega), show (a.1.length : Int) - 1 = (n : Int) by omega]
        by_cases c3 : a.1.length ≤ P.length
        · have hnP : n < P.length := by omega
          rw [decide_eq_true (show (a.1.length : Int) ≤ (P.length : Int) by omega), cond_true, if_pos ⟨by omega, by omega⟩, Int.toNat_natCast, getD_of hnP]
          by_cases c4 : (P[n]).1 = 0
          · have hpl := hB.pl _ (List.getElem_mem hnP)
            rw [show ((P[n]).1 == 0) = true by simpa using c4, cond_true, if_pos ⟨by omega, by omega⟩, if_pos ⟨by omega, by omega⟩]
            have f1 : (List.take 2 [a.2.1, [(P[n]).2.1]]).flatten = a.2.1 ++ [(P[n]).2.1] := by simp
            have f2 : (List.take 2 [a.2.2, a.1.drop n]).flatten = a.2.2 ++ [a.1[n]] := by
              rw [drop_cons (by omega), List.drop_of_length_le (by omega)]
              simp
            rw [f_slices_Concat_string.spec (by simp) (by rw [f1]; simp only [LIM, List.length_append, List.length_cons, List.length_nil]; omega) (by rw [f1]; simp only [List.length_append, List.length_cons, List.length_nil]; omega) (by simp; omega), Option.bind_some, if_pos ⟨by omega, by omega⟩, f1,
              f_slices_Concat_Value.spec (by simp) (by rw [f2]; simp only [LIM, List.length_append, List.length_cons, List.length_nil]; omega) (by rw [f2]; simp only [List.length_append, List.length_cons, List.length_nil]; omega) (by simp; omega), Option.bind_some, f2]
            generalize hx : ((a.1.take n, (a.2.1 ++ [(P[n]).2.1], a.2.2 ++ [a.1[n]])) : X_Arguments) = x
            have he' := boundS_last (fn := [102]) (D := D) hP (by omega) hn1 hnP c4 hNN hx.symm ht
            have m2 : ∀ s ∈ x.2.1, s.length ≤ 140737488355328 := by
              subst hx
              intro s hs
              rcases List.mem_append.1 hs with hs | hs
              · exact hi.nl s hs
              · rw [List.mem_singleton.1 hs]; exact hpl
            have m3 : ∀ v ∈ x.2.2, v.1 ≠ 9 := by
              subst hx
              intro v hv
              rcases List.mem_append.1 hv with hv | hv
              · exact n9 v hv
              · rw [List.mem_singleton.1 hv]; exact p9 _ (List.getElem_mem _)
            have l1 : x.1.length = n := by subst hx; simp; omega
            have l2 : x.2.1.length = a.2.1.length + 1 := by subst hx; simp
            have l3 : x.2.2.length = a.2.2.length + 1 := by subst hx; simp
            have hi' : HI P D x [102] := ⟨hi.D, by unfold BIG; omega, by unfold BIG; omega, by unfold BIG; omega, hi.fnl, m2, hi.pl⟩
            have hB' : HB P D x [102] := ⟨hB.P12, hB.D12, hB.dl, by omega, by omega, hB.fnl, m2, hB.pl⟩
            have hb := bfault_zero hB' (by subst hx; exact fun v hv => p9 v (List.mem_of_mem_take hv)) m3
            have b3 := binds_spec (vs := vs) (rest := a.1.drop (nPlain P)) (F := oth P (pairsOf a)) (G := oth P (pairsOf a)) hk hi' ck hP hb (he'.trans he) ⟨by have := hB.P12; have := hvs.1; unfold BIG; omega, hvs.2⟩ ⟨by rw [List.length_drop]; have := hi.V; omega, fun v hv => h1 v (List.mem_of_mem_drop hv)⟩ g.F.1 (List.Perm.refl _) g.F.2.1 g.F.2.2
            rw [show (boundS P D a [102]).1 = (vs, (a.1.drop (nPlain P), ((oth P (pairsOf a)).map (·.1), (oth P (pairsOf a)).map (·.2)))) by rw [he]] at tl ⊢
            rw [b3, Option.bind_some, Bool.not_true, cond_false]
            exact tl
          · rw [show ((P[n]).1 == 0) = false by simpa using c4, cond_false]
            exact tl
        · rw [decide_eq_false (show ¬ (a.1.length : Int) ≤ (P.length : Int) by omega), cond_false]
          exact tl
      · rw [decide_eq_false (show ¬ (a.1.length : Int) > 0 by omega), cond_false]
        exact tl
    · rw [show ((boundS P D a [102]).2 != []) = true by simpa using ht, cond_true]
  · rw [e2 h0, Option.bind_some]
    dsimp only
    rw [show (r.1 != 0) = true by simpa using h0, cond_true]
end
end Go.Ab
