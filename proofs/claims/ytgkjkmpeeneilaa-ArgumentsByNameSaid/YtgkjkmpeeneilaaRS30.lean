/- A part of the proof: RS30. -/
import Derived.Test.YtgkjkmpeeneilaaRS29
namespace Go.Ab
set_option linter.unusedVariables false
set_option linter.unusedSimpArgs false
section
variable {k : Nat} {P : List X_Param} {D : List X_Value} {a x : X_Arguments} {fn : Str}
theorem check_zero (hk : 5000 < k) (hi : HI P D a fn) {r : X_Fault} (h : f_ref7_BindFault.u k (P, (D, a)) = some r) (h0 : r.1 = 0) : f_arguments_Check.u k P = some (0, 0) ∧ PV P := by
  obtain ⟨q, q1, q2⟩ := check_eq (k := k) (by omega) P
  by_cases hq : q.1 = 0
  · obtain ⟨rfl, hP⟩ := PV.of (by omega) q2 hq
    exact ⟨q1, hP⟩
  · refine absurd h0 ?_
    have h2 : f_ref7_BindFault.u k (P, (D, a)) = some q := by
      show f_ref7_BindFault.f (f_ref7_ParamsFault.u k) (f_ref7_At.u k) k P D a = _
      rw [f_ref7_BindFault.f, f_ref7_BindFault.b, q2, Option.bind_some, show (q.1 != 0) = true by simpa using hq, cond_true]
    rw [h2] at h
    cases h
    exact hq
theorem bind_ok (hk : 5000 < k) (hi : HI P D x fn) (hc : f_arguments_Check.u k P = some (0, 0)) (hP : PV P) (hb : (bfault P D x).1 = 0) : f_arguments_Bind.u k (P, (D, (x, fn))) = outB (boundS P D x fn) := by
  show f_arguments_Bind.f (f_arguments_Check.u k) (f_arguments_fault.u k) (f_slices_Concat_Value.u k) (f_slices_IndexFunc_Value.u k) (f_arguments_Bind_c1.u k) (f_arguments_binding_positional.u k) (f_arguments_binding_named.u k) (f_arguments_binding_rest.u k) k P D x fn = _
  rw [f_arguments_Bind.f, f_arguments_Bind.q, f_arguments_Bind.c, hc, Option.bind_some, show (((0 : Int)) != 0) = false from rfl, cond_false]
  refine (bd0_spec hk hP hi P.length k 0 (by omega) (by omega) (by have := hP.len; omega)).trans ?_
  rw [if_neg (by simpa using hb)]
theorem bfault_zero (h : HB P D x fn) (h1 : ∀ v ∈ x.1, v.1 ≠ 9) (h2 : ∀ v ∈ x.2.2, v.1 ≠ 9) : (bfault P D x).1 = 0 := by
  have c1 : ¬ D.length ≠ nD P := fun hn => hn h.D12
  have c2 := h.NN
  have c3 := h.V
  have hu : (x.1 ++ x.2.2).any unb = false := by
    rw [List.any_eq_false]
    intro v hv hc
    have : v.1 = 9 := by simpa [unb] using hc
    rcases List.mem_append.1 hv with hv | hv
    · exact h1 v hv this
    · exact h2 v hv this
  unfold bfault
  rw [decide_eq_false c1, cond_false, decide_eq_false (show ¬ x.2.1.length ≠ x.2.2.length by omega), cond_false, decide_eq_false (by omega), cond_false, hu]
  rfl
noncomputable abbrev bn0 (k : Nat) := f_law7_binds.l0 (f_arguments_Bind.u k) (f_ref7_SameValues.u k) (f_slices_Index_string.u k) (f_ref7_SameValue.u k) k
theorem bn0_spec (hk : BIG < k) {vs rest : List X_Value} {F G : List (Str × X_Value)} (hF : F.length ≤ 1001) (hp : G.Perm F) (nd : (F.map (·.1)).Nodup) (hv : ∀ x ∈ F, vOk x.2) (d : Nat) : ∀ (n i : Nat), i ≤ G.length → G.length - i = d → d < n →
    bn0 k n (vs, (rest, (F.map (·.1), F.map (·.2)))) (vs, (rest, (G.map (·.1), G.map (·.2)))) (G.map (·.1)) (G.length : Int) (i : Int) = some true := by
  have hl := hp.length_eq
  have hk' := hk
  unfold BIG at hk'
  induction d with
  | zero =>
    intro n i hi hd hn
    obtain ⟨n, rfl⟩ : ∃ m, n = m + 1 := ⟨n - 1, by omega⟩
    rw [bn0, f_law7_binds.l0, f_law7_binds.q_l0, f_law7_binds.c_l0, decide_eq_false (by omega), cond_false]
  | succ d ih =>
    intro n i hi hd hn
    obtain ⟨n, rfl⟩ : ∃ m, n = m + 1 := ⟨n - 1, by omega⟩
    have hlt : i < G.length := by omega
    have hm : G[i] ∈ F := hp.mem_iff.1 (List.getElem_mem hlt)
    have hany : (F.map (·.1)).any (fun y => (G[i]).1 == y) = true := any_mem.2 (List.mem_map.2 ⟨_, hm, rfl⟩)
    obtain ⟨j, hj, e, q⟩ := idxF_at _ _ 0 hany
    rw [beq_iff_eq] at q
    have hj2 : j < F.length := by simpa using hj
    obtain ⟨j2, hj3, e2⟩ := List.mem_iff_getElem.1 hm
    have : j = j2 := nodup_inj nd hj (by simpa using hj3) (by rw [← q, List.getElem_map, e2])
    subst this
    rw [bn0, f_law7_binds.l0, f_law7_binds.q_l0, f_law7_binds.c_l0, decide_eq_true (by omega), cond_true, if_pos ⟨by omega, by rw [List.length_map]; omega⟩, Int.toNat_natCast, getD_of (by rw [List.length_map]; omega), List.getElem_map]
    dsimp only
    rw [f_slices_Index_string.spec (by rw [List.length_map]; omega) (by rw [List.length_map]; omega), Option.bind_some, e, Nat.zero_add, decide_eq_false (by omega), cond_false, if_pos ⟨by omega, by rw [List.length_map]; omega⟩, if_pos ⟨by omega, by rw [List.length_map]; omega⟩, Int.toNat_natCast,
      getD_of (by rw [List.length_map]; omega), getD_of (by rw [List.length_map]; omega), List.getElem_map, List.getElem_map, e2, sameValue_refl hk (hv _ hm), Option.bind_some, Bool.not_true, cond_false, wrapN (by omega)]
    exact ih n (i + 1) (by omega) (by omega) (by omega)
/-- binds -/
theorem binds_spec (hk : BIG < k) (hi : HI P D x [102]) (hc : f_arguments_Check.u k P = some (0, 0)) (hP : PV P) (hb : (bfault P D x).1 = 0) {vs rest : List X_Value} {F G : List (Str × X_Value)}
    (hx : boundS P D x [102] = ((vs, (rest, (G.map (·.1), G.map (·.2)))), [])) (h1 : vs.length ≤ BIG ∧ ∀ v ∈ vs, vOk v) (h2 : rest.length ≤ BIG ∧ ∀ v ∈ rest, vOk v) (hF : F.length ≤ 1001) (hp : G.Perm F) (nd : (F.map (·.1)).Nodup) (hv : ∀ x ∈ F, vOk x.2) :
    f_law7_binds.u k (P, (D, (x, (vs, (rest, (F.map (·.1), F.map (·.2))))))) = some true := by
  have hk2 : 5000 < k := by unfold BIG at hk; omega
  show f_law7_binds.f (f_arguments_Bind.u k) (f_ref7_SameValues.u k) (f_slices_Index_string.u k) (f_ref7_SameValue.u k) k P D x (vs, (rest, (F.map (·.1), F.map (·.2)))) = _
  have hl := hp.length_eq
  rw [f_law7_binds.f, f_law7_binds.q, f_law7_binds.c, bind_ok hk2 hi hc hP hb, outB, hx, Option.bind_some]
  dsimp only
  rw [show (((0 : Int)) != 0) = false from rfl, cond_false, show (([] : Str) != []) = false from rfl, cond_false, sameValues_refl hk h1.1 h1.2, Option.bind_some, Bool.not_true, cond_false, sameValues_refl hk h2.1 h2.2, Option.bind_some, Bool.not_true, cond_false,
    show (((G.map (·.1)).length : Int) != ((F.map (·.1)).length : Int)) = false by simp [hl], cond_false, show ((G.map (·.1)).length : Int) = (G.length : Int) by simp]
  exact bn0_spec hk hF hp nd hv G.length k 0 (by omega) (by omega) (by omega)
end
end Go.Ab
