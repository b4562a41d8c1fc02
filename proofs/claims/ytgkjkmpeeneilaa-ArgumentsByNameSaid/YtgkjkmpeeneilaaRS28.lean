/- A part of the proof: RS28. -/
import Derived.Test.YtgkjkmpeeneilaaRS27
namespace Go.Ab
set_option linter.unusedVariables false
set_option linter.unusedSimpArgs false
/-! the outcome's sizes -/
structure GQ (Q : X_Value → Prop) (g : Gv) (n : Nat) : Prop where
  given : ∀ v ∈ g.given, Q v
  oV : ∀ v ∈ g.oV, Q v
  oNl : g.oN.length ≤ n
  oVl : g.oV.length ≤ n
theorem proc_ok {Q : X_Value → Prop} {P : List X_Param} {fn : Str} : ∀ {l : List (Str × X_Value)} {g g' : Gv} {n : Nat}, (∀ x ∈ l, Q x.2) → GQ Q g n → proc P fn l g = .ok g' → GQ Q g' (n + l.length)
  | [], g, g', n, _, hg, h => by cases h; exact hg
  | (s, v) :: l, g, g', n, hl, hg, h => by
    rw [proc] at h
    cases c1 : g.names.any (fun y => s == y) with
    | true => rw [c1, cond_true] at h; cases h
    | false =>
      rw [c1, cond_false] at h
      cases c2 : (!isOwn P s && !hasPairs P) with
      | true => rw [c2, cond_true] at h; cases h
      | false =>
        rw [c2, cond_false] at h
        have hv := hl _ List.mem_cons_self
        have := proc_ok (n := n + 1) (fun x hx => hl x (List.mem_cons_of_mem _ hx)) ?_ h
        · rw [List.length_cons, show n + (l.length + 1) = n + 1 + l.length by omega]; exact this
        · have h1 := hg.oNl
          have h2 := hg.oVl
          have app : ∀ {m : List X_Value}, (∀ w ∈ m, Q w) → ∀ w ∈ m ++ [v], Q w := by
            intro m hm w hw
            rcases List.mem_append.1 hw with hw | hw
            · exact hm w hw
            · rw [List.mem_singleton.1 hw]; exact hv
          cases isOwn P s with
          | true => exact ⟨app hg.given, hg.oV, by simp only [cond_true]; omega, by simp only [cond_true]; omega⟩
          | false => exact ⟨app hg.given, app hg.oV, by simp only [cond_false, List.length_append, List.length_cons, List.length_nil]; omega, by simp only [cond_false, List.length_append, List.length_cons, List.length_nil]; omega⟩
theorem getD_Q {Q : X_Value → Prop} {l : List X_Value} (hl : ∀ v ∈ l, Q v) (hz : Q Z_Value) (i : Nat) : Q (l.getD i Z_Value) := by
  by_cases h : i < l.length
  · rw [getD_of h]; exact hl _ (List.getElem_mem h)
  · rw [List.getD_eq_getElem?_getD, List.getElem?_eq_none (by omega)]; exact hz
theorem fill_ok {Q : X_Value → Prop} (hz : Q Z_Value) (hu : Q UNB) {fn : Str} {D : List X_Value} (hD : ∀ v ∈ D, Q v) {g : Gv} (hg : ∀ v ∈ g.given, Q v) : ∀ {P : List X_Param} {nx : Nat} {vs : List X_Value}, fill fn D g P nx = .ok vs → vs.length = P.length ∧ ∀ v ∈ vs, Q v
  | [], nx, vs, h => by cases h; exact ⟨rfl, by simp⟩
  | p :: P, nx, vs, h => by
    have hmap : ∀ v : X_Value, Q v → (fill fn D g P (nx + p.2.2.length)).map (v :: ·) = .ok vs → vs.length = (p :: P).length ∧ ∀ v ∈ vs, Q v := by
      intro v hv e
      cases hq : fill fn D g P (nx + p.2.2.length) with
      | error m' => rw [hq] at e; cases e
      | ok ws =>
        rw [hq] at e
        cases e
        obtain ⟨h1, h2⟩ := fill_ok hz hu hD hg hq
        refine ⟨by simp [h1], fun w hw => ?_⟩
        rcases List.mem_cons.1 hw with rfl | hw
        · exact hv
        · exact h2 w hw
    rw [fill] at h
    cases hk : (p.1 == 0 || p.1 == 2) with
    | false => rw [hk, cond_false] at h; exact hmap _ hu h
    | true =>
      rw [hk, cond_true] at h
      cases hl : look1 g p.2.1 with
      | some v =>
        rw [hl] at h
        refine hmap _ ?_ h
        unfold look1 at hl
        cases hc : g.names.any (fun y => p.2.1 == y) with
        | false => rw [hc] at hl; cases hl
        | true =>
          rw [hc] at hl
          cases hl
          exact getD_Q hg hz _
      | none =>
        rw [hl] at h
        dsimp only at h
        cases hd0 : decide (p.2.2.length > 0) with
        | true => rw [hd0, cond_true] at h; exact hmap _ (getD_Q hD hz _) h
        | false => rw [hd0, cond_false] at h; cases h
theorem noV {Q : X_Value → Prop} : ∀ v ∈ ([] : List X_Value), Q v := fun v hv => absurd hv List.not_mem_nil
theorem boundS_ok {Q : X_Value → Prop} (hz : Q Z_Value) (hu : Q UNB) {P : List X_Param} {D : List X_Value} {a : X_Arguments} {fn : Str} (hD : ∀ v ∈ D, Q v) (h1 : ∀ v ∈ a.1, Q v) (h2 : ∀ v ∈ a.2.2, Q v) :
    (boundS P D a fn).1.1.length ≤ P.length ∧ (∀ v ∈ (boundS P D a fn).1.1, Q v) ∧ (boundS P D a fn).1.2.1.length ≤ a.1.length ∧ (∀ v ∈ (boundS P D a fn).1.2.1, Q v) ∧
    (boundS P D a fn).1.2.2.1.length ≤ a.2.1.length ∧ (boundS P D a fn).1.2.2.2.length ≤ a.2.1.length ∧ ∀ v ∈ (boundS P D a fn).1.2.2.2, Q v := by
  have bad : ∀ m : Str, (((eB, m) : X_Bound × Str).1.1.length ≤ P.length ∧ (∀ v ∈ ((eB, m) : X_Bound × Str).1.1, Q v) ∧ ((eB, m) : X_Bound × Str).1.2.1.length ≤ a.1.length ∧ (∀ v ∈ ((eB, m) : X_Bound × Str).1.2.1, Q v) ∧
    ((eB, m) : X_Bound × Str).1.2.2.1.length ≤ a.2.1.length ∧ ((eB, m) : X_Bound × Str).1.2.2.2.length ≤ a.2.1.length ∧ ∀ v ∈ ((eB, m) : X_Bound × Str).1.2.2.2, Q v) := by
    intro m
    exact ⟨Nat.zero_le _, noV, Nat.zero_le _, noV, Nat.zero_le _, Nat.zero_le _, noV⟩
  unfold boundS
  cases hc : (decide (a.1.length > nPlain P) && !hasStar P) with
  | true => rw [cond_true]; exact bad _
  | false =>
    rw [cond_false]
    cases hp : proc P fn (a.2.1.zip a.2.2) (start P a.1) with
    | error m => exact bad m
    | ok g =>
      dsimp only
      have hg := proc_ok (Q := Q) (n := 0) (fun x hx => h2 _ (List.of_mem_zip hx).2) ⟨fun v hv => h1 v (List.mem_of_mem_take hv), noV, Nat.zero_le _, Nat.zero_le _⟩ hp
      cases hf : fill fn D g P 0 with
      | error m => exact bad m
      | ok vs =>
        obtain ⟨h3, h4⟩ := fill_ok hz hu hD hg.given hf
        have h5 := hg.oNl
        have h6 := hg.oVl
        rw [List.length_zip] at h5 h6
        refine ⟨by show vs.length ≤ _; omega, h4, ?_, fun v hv => h1 v (List.mem_of_mem_drop hv), ?_, ?_, hg.oV⟩
        · simp only [List.length_drop]; omega
        · show g.oN.length ≤ _; omega
        · show g.oV.length ≤ _; omega
theorem bound_bok {P : List X_Param} {D : List X_Value} {a : X_Arguments} {fn : Str} (hP : P.length ≤ 12) (h0 : a.1.length ≤ BIG) (h00 : a.2.1.length ≤ BIG) (hD : ∀ v ∈ D, vOk v) (h1 : ∀ v ∈ a.1, vOk v) (h2 : ∀ v ∈ a.2.2, vOk v) : BOk (boundS P D a fn).1 := by
  obtain ⟨c1, c2, c3, c4, c5, c6, c7⟩ := boundS_ok (Q := vOk) (P := P) (fn := fn) ⟨Nat.zero_le _, Nat.zero_le _⟩ ⟨Nat.zero_le _, Nat.zero_le _⟩ hD h1 h2
  exact ⟨⟨by unfold BIG; omega, c2⟩, ⟨by omega, c4⟩, by omega, ⟨by omega, c7⟩⟩
theorem eB_ok : BOk eB := ⟨⟨Nat.zero_le _, noV⟩, ⟨Nat.zero_le _, noV⟩, Nat.zero_le _, ⟨Nat.zero_le _, noV⟩⟩
theorem law5 (P : List X_Param) (D : List X_Value) (a : X_Arguments) (fn : Str) (hi : HI P D a fn) (hD : ∀ v ∈ D, vOk v) (h1 : ∀ v ∈ a.1, vOk v) (h2 : ∀ v ∈ a.2.2, vOk v) : ∃ k y, f_law7_ArgumentsBindMatchesSpec.u k (P, (D, (a, fn))) = some y ∧ y = true := by
  have hk : BIG < BIG + 1 := Nat.lt_succ_self _
  have hk2 : 5000 < BIG + 1 := by unfold BIG; omega
  generalize BIG + 1 = k at hk hk2
  refine ⟨k, true, ?_, rfl⟩
  obtain ⟨r, e1, e2, e3⟩ := bind_both hk2 hi
  show f_law7_ArgumentsBindMatchesSpec.f (f_arguments_Bind.u k) (f_ref7_BindFault.u k) (f_ref7_SameBound.u k) (f_ref7_Bound.u k) k P D a fn = _
  rw [f_law7_ArgumentsBindMatchesSpec.f, f_law7_ArgumentsBindMatchesSpec.q, f_law7_ArgumentsBindMatchesSpec.c, e1]
  by_cases h0 : r.1 = 0
  · obtain ⟨rfl, hP, hB, _, _, e⟩ := e3 h0
    rw [e, outB, Option.bind_some, Option.bind_some, show (((0 : Int)) != 0) = false from rfl, cond_false, bound_ref hB hk2, Option.bind_some]
    dsimp only
    rw [show ((0 : Int) == 0) = true from rfl, cond_true, beq_self_eq_true, cond_true, sameBound_refl hk (bound_bok hP.len hi.V hi.N hD h1 h2)]
    rfl
  · rw [e2 h0, Option.bind_some, Option.bind_some, show (r.1 != 0) = true by simpa using h0, cond_true]
    dsimp only
    rw [show Ty.eqT Y_Fault r r = true by simp [Ty.eqT], cond_true, show (([] : Str) == []) = true from rfl, cond_true]
    have := sameBound_refl hk eB_ok
    unfold eB at this
    rw [eB, this]
    rfl
end Go.Ab
