/- What the checks of objects answer: their values and links. -/
import Derived.Test.YtdekjkgfohlmgaaGreatDoorV3
namespace Go.Ab
set_option linter.unusedVariables false
set_option linter.unusedSimpArgs false
theorem valueOk_ref {k : Nat} (hk : BK k) {v : X_Value} (hv : TV v) (h6 : v.1 = 6) (h : F79.u k v = some true) : v = (6, ((false, []), ((false, []), ([], v.2.2.2.2)))) := by
  have hk1 := bkN hk (n := 3000000) (by omega)
  have := hv.numL
  have := hv.denL
  have h' : F79.f (F58.u k) (F121.u k) (F122.u k) (F123.u k) (F111.u k) k v = some true := h
  rw [F79.f, F79.b, F58.spec (by omega) (by omega), Option.bind_some, F58.spec (by omega) (by omega), Option.bind_some, h6] at h'
  simp only [show ((6 : Int) == 0) = false from rfl, show ((6 : Int) == 8) = false from rfl, show ((6 : Int) == 1) = false from rfl, show ((6 : Int) == 2) = false from rfl, show ((6 : Int) == 3) = false from rfl, show ((6 : Int) == 4) = false from rfl, show ((6 : Int) == 5) = false from rfl, show ((6 : Int) == 7) = false from rfl, show ((6 : Int) == 6) = true from rfl, cond_false, cond_true] at h'
  rw [F79.g20, gate_pos (by omega), F79.b_g20] at h'
  obtain ⟨a1, a2, a3, a4, a5⟩ := v
  dsimp only at h6 h' ⊢
  subst h6
  cases e1 : (a2 == (false, ([] : List Int))) with
  | false => rw [e1] at h'; cases h'
  | true =>
    cases e2 : (a3 == (false, ([] : List Int))) with
    | false => rw [e1, e2] at h'; cases h'
    | true =>
      rw [e1, e2] at h'
      cases e3 : (a4 == ([] : List UInt8)) with
      | false => rw [e3] at h'; cases h'
      | true =>
        rw [beq_iff_eq] at e1 e2 e3
        rw [e1, e2, e3]
/-- what a value that passed looks like (9: what a cell without a value holds) -/
structure VF (v : X_Value) : Prop where
  k : 0 ≤ v.1 ∧ v.1 ≤ 9
  num0 : v.1 ≠ 2 → v.1 ≠ 3 → v.2.1 = (false, [])
  den0 : v.1 ≠ 3 → v.2.2.1 = (false, [])
  txt0 : v.1 ≠ 4 → v.1 ≠ 5 → v.1 ≠ 7 → v.2.2.2.1 = []
  ref0 : v.1 ≠ 1 → v.1 ≠ 6 → v.2.2.2.2 = 0
  ref1 : v.1 = 1 → v.2.2.2.2 = 0 ∨ v.2.2.2.2 = 1
  txtL : v.1 = 4 ∨ v.1 = 5 → v.2.2.2.1.length ≤ 4000
  den : v.1 = 3 → v.2.2.1.1 = false ∧ v.2.2.1.2 ≠ [1] ∧ Nat.gcd (v32 v.2.1.2) (v32 v.2.2.1.2) = 1
theorem bif_and {c x : Bool} (h : (bif c then some x else some false) = some true) : c = true ∧ x = true := by
  cases c with
  | false => cases h
  | true => exact ⟨rfl, by injection h⟩
theorem bif_go {c : Bool} {x : Option Bool} (h : (bif c then x else some false) = some true) : c = true ∧ x = some true := by
  cases c with
  | false => cases h
  | true => exact ⟨rfl, h⟩
theorem bif_not {c : Bool} {x : Option Bool} (h : (bif c then some false else x) = some true) : c = false ∧ x = some true := by
  cases c with
  | true => cases h
  | false => exact ⟨rfl, h⟩
theorem F122.more {k : Nat} (hk : BK k) {a : X_Int × X_Int} (h1 : Lim a.1.2) (h2 : Lim a.2.2) (l1 : a.1.2.length ≤ 2000000) (l2 : a.2.2.length ≤ 2000000) (h : F122.u k a = some true) : a.2.1 = false ∧ Nat.gcd (v32 a.1.2) (v32 a.2.2) = 1 := by
  have hk1 := bk_lt hk
  obtain ⟨b, hb, hb2⟩ := F122.spec hk h1 h2 l1 l2
  rw [h] at hb
  cases hb
  obtain ⟨e1, e2, hz⟩ := hb2 rfl
  have b1 := intB_len e1
  have b2 := intB_len e2
  have g1 := v32_lg h1
  have g2 := v32_lg h2
  have h' : F122.f (F121.u k) (F131.u k) (F160.u k) (F132.u k) (F93.u k) k a = some true := h
  rw [F122.f, F122.b, F121.spec (by omega), Option.bind_some, F121.spec (by omega), Option.bind_some, e1, e2, Bool.not_true, cond_false, cond_false] at h'
  obtain ⟨c1, h'⟩ := bif_not h'
  obtain ⟨c2, h'⟩ := bif_not h'
  rw [F131.spec h1 (by omega) (by omega), Option.bind_some, F131.spec h2 (by omega) (by omega), Option.bind_some,
    F160.spec hk (by omega) (by omega), Option.bind_some, F132.one (by omega), Option.bind_some, F93.spec (Nat.le_trans (lg_mono (Nat.gcd_le_right _ (by omega))) (by omega)) (Nat.lt_of_le_of_lt (lg_mono (Nat.gcd_le_right _ (by omega))) (by omega)), Option.bind_some] at h'
  refine ⟨c1, ?_⟩
  injection h' with h'
  rw [beq_iff_eq] at h'
  unfold cmp at h'
  split at h'
  · cases h'
  · split at h'
    · cases h'
    · omega
theorem valueOk_vf {k : Nat} (hk : BK k) {v : X_Value} (hv : TV v) (h : F79.u k v = some true) : VF v ∧ v.1 ≠ 9 := by
  have hk1 := bkN hk (n := 3000000) (by omega)
  have := hv.numL
  have := hv.denL
  have h' : F79.f (F58.u k) (F121.u k) (F122.u k) (F123.u k) (F111.u k) k v = some true := h
  rw [F79.f, F79.b, F58.spec (by omega) (by omega), Option.bind_some, F58.spec (by omega) (by omega), Option.bind_some] at h'
  rw [F79.g5, gate_pos (by omega), F79.b_g5, F79.g7, gate_pos (by omega), F79.b_g7, F79.g9, gate_pos (by omega), F79.b_g9, F79.g11, gate_pos (by omega), F79.q_g11, F79.c_g11, F79.g14, gate_pos (by omega), F79.b_g14,
    F79.g16, gate_pos (by omega), F79.b_g16, F79.g18, gate_pos (by omega), F79.b_g18, F79.g20, gate_pos (by omega), F79.b_g20] at h'
  have hc : v.1 = 0 ∨ v.1 = 1 ∨ v.1 = 2 ∨ v.1 = 3 ∨ v.1 = 4 ∨ v.1 = 5 ∨ v.1 = 6 ∨ v.1 = 7 ∨ v.1 = 8 := by
    by_cases hc : 0 ≤ v.1 ∧ v.1 ≤ 8
    · omega
    · rw [show (v.1 == 0) = false by simp; omega, show (v.1 == 1) = false by simp; omega, show (v.1 == 2) = false by simp; omega, show (v.1 == 3) = false by simp; omega, show (v.1 == 4) = false by simp; omega, show (v.1 == 5) = false by simp; omega, show (v.1 == 6) = false by simp; omega, show (v.1 == 7) = false by simp; omega, show (v.1 == 8) = false by simp; omega] at h'
      cases h'
  obtain ⟨a1, a2, a3, a4, a5⟩ := v
  dsimp only at hc h' ⊢
  have hn : a2.2.length ≤ 2000000 := hv.numL
  rcases hc with rfl | rfl | rfl | rfl | rfl | rfl | rfl | rfl | rfl
  · simp only [show ((0 : Int) == 0) = true from rfl, cond_true] at h'
    obtain ⟨e1, h'⟩ := bif_go h'
    obtain ⟨e2, h'⟩ := bif_go h'
    obtain ⟨e3, e4⟩ := bif_and h'
    rw [beq_iff_eq] at e1 e2 e3 e4
    subst e1 e2 e3 e4
    exact ⟨⟨by omega, by simp, by simp, by simp, by simp, by simp, by simp, by simp⟩, by simp⟩
  · simp only [show ((1 : Int) == 0) = false from rfl, show ((1 : Int) == 8) = false from rfl, show ((1 : Int) == 1) = true from rfl, cond_true, cond_false] at h'
    obtain ⟨e1, h'⟩ := bif_go h'
    obtain ⟨e2, h'⟩ := bif_go h'
    obtain ⟨e3, e4⟩ := bif_and h'
    rw [beq_iff_eq] at e1 e2 e3 e4
    subst e1 e2 e3
    refine ⟨⟨by simp, by simp, by simp, by simp, by simp, fun _ => ?_, by simp, by simp⟩, by simp⟩
    have e5 : Int.fdiv a5 2 = 0 := e4
    have : a5 / 2 = 0 := by rw [← e5, Int.fdiv_eq_ediv_of_nonneg _ (by omega)]
    dsimp only
    omega
  · simp only [show ((2 : Int) == 0) = false from rfl, show ((2 : Int) == 8) = false from rfl, show ((2 : Int) == 1) = false from rfl, show ((2 : Int) == 2) = true from rfl, cond_true, cond_false] at h'
    rw [F121.spec (by omega), Option.bind_some] at h'
    obtain ⟨e1, h'⟩ := bif_go h'
    obtain ⟨e2, h'⟩ := bif_go h'
    obtain ⟨e3, e4⟩ := bif_and h'
    rw [beq_iff_eq] at e2 e3 e4
    subst e2 e3 e4
    exact ⟨⟨by simp, by simp, by simp, by simp, by simp, by simp, by simp, by simp⟩, by simp⟩
  · simp only [show ((3 : Int) == 0) = false from rfl, show ((3 : Int) == 8) = false from rfl, show ((3 : Int) == 1) = false from rfl, show ((3 : Int) == 2) = false from rfl, show ((3 : Int) == 3) = true from rfl, cond_true, cond_false] at h'
    have main : ∀ b : Bool, (b = false → a3.2 ≠ [1]) → F79.g12 (F58.u k) (F121.u k) (F122.u k) (F123.u k) (F111.u k) k (3, (a2, (a3, (a4, a5)))) b = some true → VF (3, (a2, (a3, (a4, a5)))) ∧ (3 : Int) ≠ 9 := by
      intro b hb h'
      rw [F79.g12, gate_pos (by omega), F79.b_g12] at h'
      obtain ⟨r, hr, _⟩ := F122.spec hk (a := (a2, a3)) hv.num hv.den hv.numL hv.denL
      dsimp only at h'
      rw [hr, Option.bind_some] at h'
      obtain ⟨e1, h'⟩ := bif_go h'
      obtain ⟨e2, h'⟩ := bif_go h'
      obtain ⟨e3, e4⟩ := bif_and h'
      rw [beq_iff_eq] at e3 e4
      subst e1 e3 e4
      obtain ⟨r1, r2⟩ := F122.more hk (a := (a2, a3)) hv.num hv.den hv.numL hv.denL hr
      exact ⟨⟨by simp, by simp, by simp, by simp, by simp, by simp, by simp, fun _ => ⟨r1, hb (by simpa using e2), r2⟩⟩, by simp⟩
    by_cases hl : a3.2.length = 1
    · rw [hl, show (((1 : Nat) : Int) == 1) = true from rfl, cond_true, if_pos (by omega)] at h'
      refine main _ (fun hb he => ?_) h'
      rw [he] at hb
      cases hb
    · rw [show ((a3.2.length : Int) == 1) = false by simp; omega, cond_false] at h'
      exact main _ (fun _ he => hl (by rw [he]; rfl)) h'
  · simp only [show ((4 : Int) == 0) = false from rfl, show ((4 : Int) == 8) = false from rfl, show ((4 : Int) == 1) = false from rfl, show ((4 : Int) == 2) = false from rfl, show ((4 : Int) == 3) = false from rfl, show ((4 : Int) == 4) = true from rfl, cond_true, cond_false] at h'
    obtain ⟨e1, h'⟩ := bif_go h'
    obtain ⟨e2, h'⟩ := bif_go h'
    obtain ⟨e3, h'⟩ := bif_go h'
    have hx : a4.length ≤ 4000 := by
      cases hv : F123.u k a4 with
      | none => rw [hv] at h'; cases h'
      | some y =>
        rw [hv, Option.bind_some] at h'
        have := (bif_and h').2
        rw [decide_eq_true_eq] at this
        omega
    rw [beq_iff_eq] at e1 e2 e3
    subst e1 e2 e3
    exact ⟨⟨by simp, by simp, by simp, by simp, by simp, by simp, fun _ => hx, by simp⟩, by simp⟩
  · simp only [show ((5 : Int) == 0) = false from rfl, show ((5 : Int) == 8) = false from rfl, show ((5 : Int) == 1) = false from rfl, show ((5 : Int) == 2) = false from rfl, show ((5 : Int) == 3) = false from rfl, show ((5 : Int) == 4) = false from rfl, show ((5 : Int) == 5) = true from rfl, cond_true, cond_false] at h'
    obtain ⟨e1, h'⟩ := bif_go h'
    obtain ⟨e2, h'⟩ := bif_go h'
    obtain ⟨e3, e4⟩ := bif_and h'
    rw [beq_iff_eq] at e1 e2 e3
    rw [decide_eq_true_eq] at e4
    subst e1 e2 e3
    exact ⟨⟨by simp, by simp, by simp, by simp, by simp, by simp, fun _ => by dsimp only; omega, by simp⟩, by simp⟩
  · simp only [show ((6 : Int) == 0) = false from rfl, show ((6 : Int) == 8) = false from rfl, show ((6 : Int) == 1) = false from rfl, show ((6 : Int) == 2) = false from rfl, show ((6 : Int) == 3) = false from rfl, show ((6 : Int) == 4) = false from rfl, show ((6 : Int) == 5) = false from rfl, show ((6 : Int) == 7) = false from rfl, show ((6 : Int) == 6) = true from rfl, cond_true, cond_false] at h'
    obtain ⟨e1, h'⟩ := bif_go h'
    obtain ⟨e2, e3⟩ := bif_and h'
    rw [beq_iff_eq] at e1 e2 e3
    subst e1 e2 e3
    exact ⟨⟨by simp, by simp, by simp, by simp, by simp, by simp, by simp, by simp⟩, by simp⟩
  · simp only [show ((7 : Int) == 0) = false from rfl, show ((7 : Int) == 8) = false from rfl, show ((7 : Int) == 1) = false from rfl, show ((7 : Int) == 2) = false from rfl, show ((7 : Int) == 3) = false from rfl, show ((7 : Int) == 4) = false from rfl, show ((7 : Int) == 5) = false from rfl, show ((7 : Int) == 7) = true from rfl, cond_true, cond_false] at h'
    obtain ⟨e1, h'⟩ := bif_go h'
    obtain ⟨e2, h'⟩ := bif_go h'
    obtain ⟨e3, h'⟩ := bif_go h'
    rw [beq_iff_eq] at e1 e2 e3
    subst e1 e2 e3
    exact ⟨⟨by simp, by simp, by simp, by simp, by simp, by simp, by simp, by simp⟩, by simp⟩
  · simp only [show ((8 : Int) == 0) = false from rfl, show ((8 : Int) == 8) = true from rfl, cond_true, cond_false] at h'
    obtain ⟨e1, h'⟩ := bif_go h'
    obtain ⟨e2, h'⟩ := bif_go h'
    obtain ⟨e3, e4⟩ := bif_and h'
    rw [beq_iff_eq] at e1 e2 e3 e4
    subst e1 e2 e3 e4
    exact ⟨⟨by simp, by simp, by simp, by simp, by simp, by simp, by simp, by simp⟩, by simp⟩
/-- what is known of a value within a heap that passed -/
structure VG (v : X_Value) : Prop where
  ok : v.1 ≠ 9 → VOk v
  ref : v.1 = 6 → v = (6, ((false, []), ((false, []), ([], v.2.2.2.2))))
  vf : VF v
theorem vg_of {k : Nat} (hk : BK k) {v : X_Value} (hv : TV v) (h : F79.u k v = some true) : VG v ∧ v.1 ≠ 9 := by
  obtain ⟨b, hb, hb2⟩ := F79.spec hk hv
  rw [h] at hb
  cases hb
  have := valueOk_vf hk hv h
  exact ⟨⟨fun _ => hb2 rfl, fun h6 => valueOk_ref hk hv h6 h, this.1⟩, this.2⟩
theorem tv_kind {v : X_Value} (h : TV v) (c : Int) : TV (c, v.2) := ⟨h.num, h.den, h.numL, h.denL, h.text⟩
theorem F74.l4_spec {k : Nat} (hk : 0 < k) {h : X_Heap} {l : List Int} (hl : l.length ≤ 100000000) : ∀ (d n i : Nat), l.length - i = d → d < n → i ≤ l.length →
    ∃ c, F74.l4 (F78.u k) (F79.u k) (F21.u k) k n h l (l.length : Int) (i : Int) = some c ∧ (c = 0 → ∀ m ∈ l.drop i, isO h m = true) := by
  intro d
  induction d with
  | zero =>
    intro n i hd hn hi
    obtain ⟨n, rfl⟩ : ∃ m, n = m + 1 := ⟨n - 1, by omega⟩
    rw [F74.l4, F74.q_l4, F74.c_l4, decide_eq_false (by omega), cond_false, List.drop_of_length_le (by omega)]
    exact ⟨0, rfl, fun _ m hm => by cases hm⟩
  | succ d ih =>
    intro n i hd hn hi
    obtain ⟨n, rfl⟩ : ∃ m, n = m + 1 := ⟨n - 1, by omega⟩
    have hlt : i < l.length := by omega
    obtain ⟨c, hc, hc2⟩ := ih n (i + 1) (by omega) (by omega) (by omega)
    rw [F74.l4, F74.q_l4, F74.c_l4, decide_eq_true (by omega), cond_true, if_pos ⟨by omega, by omega⟩, Nat.zero_add, Int.toNat_natCast, getD_of hlt, F21.spec, Option.bind_some, wrapN (by omega), drop_cons hlt]
    cases hi : isO h l[i] with
    | false => exact ⟨4, rfl, fun h => by cases h⟩
    | true =>
      refine ⟨c, hc, fun h0 m hm => ?_⟩
      rcases List.mem_cons.1 hm with rfl | hm
      · exact hi
      · exact hc2 h0 m hm
theorem F74.l2_spec {k : Nat} (hk : 100000000 < k) {h : X_Heap} (t : TH h) {o : X_Object} (tO : TO o) {l : List X_Value} (hl : l.length ≤ 10000000) : ∀ (d n i : Nat) (nums : List Int), l.length - i = d → d < n → i ≤ l.length → nums.length + (l.length - i) ≤ 50000000 →
    ∃ c, F74.l2 (F78.u k) (F79.u k) (F21.u k) k n h o nums l (l.length : Int) (i : Int) = some c ∧
      (c = 0 → (∀ m ∈ nums, isO h m = true) ∧ (∀ v ∈ l.drop i, v.1 = 6 → isO h v.2.2.2.2 = true) ∧ (o.1 = 18 → o.2.2.2.2.2.2.2.2.2 ≠ 0 → isO h (o.2.2.2.2.2.2.2.2.2 - 1) = true)) := by
  intro d
  induction d with
  | zero =>
    intro n i nums hd hn hi hs
    obtain ⟨n, rfl⟩ : ∃ m, n = m + 1 := ⟨n - 1, by omega⟩
    rw [F74.l2, F74.q_l2, F74.c_l2, decide_eq_false (by omega), cond_false, List.drop_of_length_le (by omega)]
    have plain : ∃ c, F74.l4 (F78.u k) (F79.u k) (F21.u k) k k h nums (nums.length : Int) 0 = some c ∧ (c = 0 → ∀ m ∈ nums, isO h m = true) := by
      have := F74.l4_spec (k := k) (h := h) (l := nums) (by omega) (by omega) _ k 0 rfl (by omega) (by omega)
      rwa [List.drop_zero] at this
    obtain ⟨c, hc, hc2⟩ := plain
    by_cases h18 : o.1 = 18
    · rw [h18, show ((18 : Int) == 18) = true from rfl, cond_true]
      by_cases hst : o.2.2.2.2.2.2.2.2.2 = 0
      · rw [hst, show ((0 : Int) != 0) = false from rfl, cond_false]
        exact ⟨c, hc, fun h0 => ⟨hc2 h0, (fun v hv => by cases hv), fun _ h => absurd rfl h⟩⟩
      · rw [show (o.2.2.2.2.2.2.2.2.2 != 0) = true by simpa using hst, cond_true, if_pos (by simp only [LIM, List.length_cons, List.length_nil]; omega)]
        obtain ⟨c, hc, hc2⟩ := F74.l4_spec (k := k) (h := h) (l := nums ++ [IntKind.i64.wrap (o.2.2.2.2.2.2.2.2.2 - 1)]) (by omega) (by simp; omega) _ k 0 rfl (by simp; omega) (by omega)
        rw [List.drop_zero] at hc2
        refine ⟨c, hc, fun h0 => ⟨fun m hm => hc2 h0 m (List.mem_append_left _ hm), (fun v hv => by cases hv), fun _ _ => ?_⟩⟩
        have hm := hc2 h0 _ (List.mem_append_right _ (List.mem_singleton.2 rfl))
        by_cases hlow : o.2.2.2.2.2.2.2.2.2 = -9223372036854775808
        · rw [hlow, show IntKind.i64.wrap (-9223372036854775808 - 1) = 9223372036854775807 from rfl] at hm
          rw [hlow]
          have h1 := isO_lt hm
          have h2 := t.len
          omega
        · rwa [wrapI (by have := tO.stLo; omega) (by have := tO.stHi; omega)] at hm
    · rw [show (o.1 == 18) = false by simpa using h18, cond_false]
      exact ⟨c, hc, fun h0 => ⟨hc2 h0, (fun v hv => by cases hv), fun h => absurd h h18⟩⟩
  | succ d ih =>
    intro n i nums hd hn hi hs
    obtain ⟨n, rfl⟩ : ∃ m, n = m + 1 := ⟨n - 1, by omega⟩
    have hlt : i < l.length := by omega
    rw [F74.l2, F74.q_l2, F74.c_l2, decide_eq_true (by omega), cond_true, if_pos ⟨by omega, by omega⟩, Nat.zero_add, Int.toNat_natCast, getD_of hlt, wrapN (by omega), drop_cons hlt]
    by_cases h6 : (l[i]).1 = 6
    · obtain ⟨c, hc, hc2⟩ := ih n (i + 1) (nums ++ [(l[i]).2.2.2.2]) (by omega) (by omega) (by omega) (by simp; omega)
      rw [h6, show ((6 : Int) == 6) = true from rfl, cond_true, if_pos (by simp only [LIM, List.length_cons, List.length_nil]; omega)]
      refine ⟨c, hc, fun h0 => ⟨fun m hm => (hc2 h0).1 m (List.mem_append_left _ hm), fun v hv hv6 => ?_, (hc2 h0).2.2⟩⟩
      rcases List.mem_cons.1 hv with rfl | hv
      · exact (hc2 h0).1 _ (List.mem_append_right _ (List.mem_singleton.2 rfl))
      · exact (hc2 h0).2.1 v hv hv6
    · obtain ⟨c, hc, hc2⟩ := ih n (i + 1) nums (by omega) (by omega) (by omega) (by omega)
      rw [show ((l[i]).1 == 6) = false by simpa using h6, cond_false]
      refine ⟨c, hc, fun h0 => ⟨(hc2 h0).1, fun v hv hv6 => ?_, (hc2 h0).2.2⟩⟩
      rcases List.mem_cons.1 hv with rfl | hv
      · exact absurd hv6 h6
      · exact (hc2 h0).2.1 v hv hv6
/-- what the fourth group tells of an object -/
structure VsOk (h : X_Heap) (o : X_Object) : Prop where
  vals : ∀ v ∈ o.2.2.2.2.2.2.2.1 ++ o.2.2.2.2.2.2.1, VG v
  refs : ∀ v ∈ o.2.2.2.2.2.2.2.1 ++ o.2.2.2.2.2.2.1, v.1 = 6 → isO h v.2.2.2.2 = true
  cls : isO h o.2.2.1 = true
  bases : ∀ m ∈ o.2.2.2.1, isO h m = true
  ords : ∀ m ∈ o.2.2.2.2.1, isO h m = true
  weak : o.1 = 18 → o.2.2.2.2.2.2.2.2.2 ≠ 0 → isO h (o.2.2.2.2.2.2.2.2.2 - 1) = true
  unb : ∀ v ∈ o.2.2.2.2.2.2.2.1 ++ o.2.2.2.2.2.2.1, v.1 = 9 → o.1 = 6 ∨ o.1 = 17
theorem F74.l0_spec {k : Nat} (hk : BK k) {h : X_Heap} (t : TH h) {o : X_Object} (tO : TO o) {l : List X_Value} (hl : l = o.2.2.2.2.2.2.2.1 ++ o.2.2.2.2.2.2.1) : ∀ (d n i : Nat), l.length - i = d → d < n → i ≤ l.length →
    ∃ c, F74.l0 (F78.u k) (F79.u k) (F21.u k) k n h o l (l.length : Int) (i : Int) = some c ∧ (c = 0 → (∀ v ∈ l.drop i, VG v ∧ (v.1 = 9 → o.1 = 6 ∨ o.1 = 17)) ∧ (∀ v ∈ l, v.1 = 6 → isO h v.2.2.2.2 = true) ∧ isO h o.2.2.1 = true ∧ (∀ m ∈ o.2.2.2.1, isO h m = true) ∧ (∀ m ∈ o.2.2.2.2.1, isO h m = true) ∧ (o.1 = 18 → o.2.2.2.2.2.2.2.2.2 ≠ 0 → isO h (o.2.2.2.2.2.2.2.2.2 - 1) = true)) := by
  have hk1 := bkN hk (n := 200000000) (by omega)
  have hln : l.length ≤ 4000000 := by rw [hl, List.length_append]; have := tO.items; have := tO.keys; omega
  have hlv : ∀ v ∈ l, TV v := fun v hv => by
    rw [hl] at hv
    rcases List.mem_append.1 hv with hv | hv
    · exact tO.keyV v hv
    · exact tO.itemV v hv
  have hrf := tO.refs
  have hor := tO.order
  intro d
  induction d with
  | zero =>
    intro n i hd hn hi
    obtain ⟨n, rfl⟩ : ∃ m, n = m + 1 := ⟨n - 1, by omega⟩
    obtain ⟨c, hc, hc2⟩ := F74.l2_spec (k := k) (h := h) (o := o) (l := l) (by omega) t tO (by omega) _ k 0 (([o.2.2.1] ++ o.2.2.2.1) ++ o.2.2.2.2.1) rfl (by omega) (by omega) (by simp; omega)
    rw [List.drop_zero] at hc2
    rw [F74.l0, F74.q_l0, F74.c_l0, decide_eq_false (by omega), cond_false, List.drop_of_length_le (by omega), if_pos ⟨by simp, by simp only [LIM]; omega⟩, if_pos (by simp only [LIM, List.length_append, List.length_cons, List.length_nil]; omega)]
    refine ⟨c, hc, fun h0 => ?_⟩
    obtain ⟨h1, h2, h3⟩ := hc2 h0
    exact ⟨(fun v hv => by cases hv), h2, h1 _ (by simp), fun m hm => h1 m (by simp [hm]), fun m hm => h1 m (by simp [hm]), h3⟩
  | succ d ih =>
    intro n i hd hn hi
    obtain ⟨n, rfl⟩ : ∃ m, n = m + 1 := ⟨n - 1, by omega⟩
    have hlt : i < l.length := by omega
    have tv := hlv _ (List.getElem_mem hlt)
    obtain ⟨c, hc, hc2⟩ := ih n (i + 1) (by omega) (by omega) (by omega)
    have go : ∀ w : X_Value, TV w → (F79.u k w = some true → VG l[i] ∧ ((l[i]).1 = 9 → o.1 = 6 ∨ o.1 = 17)) → ∃ c, ((F79.u k w).bind fun y => bif !y then some (6 : Int) else F74.l0 (F78.u k) (F79.u k) (F21.u k) k n h o l (l.length : Int) ((i + 1 : Nat) : Int)) = some c ∧ (c = 0 → (∀ v ∈ l[i] :: l.drop (i + 1), VG v ∧ (v.1 = 9 → o.1 = 6 ∨ o.1 = 17)) ∧ (∀ v ∈ l, v.1 = 6 → isO h v.2.2.2.2 = true) ∧ isO h o.2.2.1 = true ∧ (∀ m ∈ o.2.2.2.1, isO h m = true) ∧ (∀ m ∈ o.2.2.2.2.1, isO h m = true) ∧ (o.1 = 18 → o.2.2.2.2.2.2.2.2.2 ≠ 0 → isO h (o.2.2.2.2.2.2.2.2.2 - 1) = true)) := by
      intro w tw hw
      obtain ⟨b, hb, _⟩ := F79.spec hk tw
      rw [hb, Option.bind_some]
      cases b with
      | false => exact ⟨6, rfl, fun h => by cases h⟩
      | true =>
        refine ⟨c, hc, fun h0 => ?_⟩
        obtain ⟨h1, h2⟩ := hc2 h0
        refine ⟨fun v hv => ?_, h2⟩
        rcases List.mem_cons.1 hv with rfl | hv
        · exact hw hb
        · exact h1 v hv
    rw [F74.l0, F74.q_l0, F74.c_l0, decide_eq_true (by omega), cond_true, if_pos ⟨by omega, by omega⟩, Nat.zero_add, Int.toNat_natCast, getD_of hlt, wrapN (by omega), drop_cons hlt]
    by_cases h9 : (l[i]).1 = 9
    · rw [h9, show ((9 : Int) == 9) = true from rfl, cond_true]
      have e9 : (F79.u k (0, (l[i]).2) = some true) → VG l[i] := fun h => by
        have hf := (valueOk_vf hk (tv_kind tv 0) h).1
        exact ⟨fun h => absurd h9 h, (fun h => by rw [h9] at h; cases h), ⟨by omega, fun _ _ => hf.num0 (by simp) (by simp), fun _ => hf.den0 (by simp), fun _ _ _ => hf.txt0 (by simp) (by simp) (by simp), fun _ _ => hf.ref0 (by simp) (by simp), fun h => by omega, fun h => by omega, fun h => by omega⟩⟩
      cases e6 : (o.1 == 6) with
      | true => exact go _ (tv_kind tv 0) (fun h => ⟨e9 h, fun _ => .inl (beq_iff_eq.1 e6)⟩)
      | false =>
        cases e17 : (o.1 == 17) with
        | true => exact go _ (tv_kind tv 0) (fun h => ⟨e9 h, fun _ => .inr (beq_iff_eq.1 e17)⟩)
        | false => exact go _ tv (fun h => absurd h9 (vg_of hk tv h).2)
    · rw [show ((l[i]).1 == 9) = false by simpa using h9, cond_false]
      exact go _ tv (fun h => ⟨(vg_of hk tv h).1, fun e => absurd e h9⟩)
theorem F74.spec {k : Nat} (hk : BK k) {h : X_Heap} (t : TH h) {i : Nat} (hi : i < h.length) : ∃ c, F74.u k (h, (i : Int)) = some c ∧ (c = 0 → VsOk h (hob h i)) := by
  have hk1 := bkN hk (n := 200000000) (by omega)
  have tO := t.ob i
  have h1 := tO.items
  have h2 := tO.keys
  obtain ⟨c, hc, hc2⟩ := F74.l0_spec (k := k) hk (h := h) t tO rfl _ k 0 rfl (by rw [List.length_append]; omega) (by omega)
  show ∃ c, F74.f (F78.u k) (F79.u k) (F21.u k) k h (i : Int) = some c ∧ _
  rw [F74.f, F74.q, F74.c, if_pos ⟨by omega, by omega⟩, Int.toNat_natCast, show h.getD i Z_Object = hob h i from rfl, F78.spec (by simp only [LIM]; omega), Option.bind_some, if_pos (by simp only [LIM]; omega)]
  refine ⟨c, hc, fun h0 => ?_⟩
  obtain ⟨a1, a2, a3, a4, a5, a6⟩ := hc2 h0
  rw [List.drop_zero] at a1
  exact ⟨fun v hv => (a1 v hv).1, a2, a3, a4, a5, a6, fun v hv => (a1 v hv).2⟩
end Go.Ab
