/- What the checks of values answer. -/
import Derived.Test.YtdekjkgfohlmgaaGreatDoorGC2
import Derived.Test.YtdekjkgfohlmgaaGreatDoorS1
namespace Go.Ab
set_option linter.unusedVariables false
set_option linter.unusedSimpArgs false
/-- it answers -/
def Tot {α : Type} (x : Option α) : Prop := ∃ y, x = some y
theorem tot_some {α : Type} (y : α) : Tot (some y) := ⟨y, rfl⟩
theorem tot_bind {α β : Type} {x : Option α} {f : α → Option β} (h : Tot x) (hf : ∀ y, x = some y → Tot (f y)) : Tot (x.bind f) := by
  obtain ⟨y, rfl⟩ := h
  exact hf y rfl
theorem tot_cond {α : Type} {c : Bool} {x y : Option α} (hx : Tot x) (hy : Tot y) : Tot (bif c then x else y) := by cases c <;> assumption
theorem F97.l0_spec {k : Nat} {l m : List Int} (hlm : l.length = m.length) (hl : l.length ≤ 4611686018427387904) (d : Nat) :
    ∀ (n i : Nat), i ≤ l.length → l.length - i = d → d < n → F97.l0 k n l m (l.length : Int) (i : Int) = some (l.drop i == m.drop i) := by
  induction d with
  | zero =>
    intro n i hi hd hn
    obtain ⟨n, rfl⟩ : ∃ m, n = m + 1 := ⟨n - 1, by omega⟩
    rw [F97.l0, F97.b_l0, decide_eq_false (by omega), cond_false, List.drop_of_length_le (by omega), List.drop_of_length_le (by omega)]
    rfl
  | succ d ih =>
    intro n i hi hd hn
    obtain ⟨n, rfl⟩ : ∃ m, n = m + 1 := ⟨n - 1, by omega⟩
    have hlt : i < l.length := by omega
    have hlt2 : i < m.length := by omega
    rw [F97.l0, F97.b_l0, decide_eq_true (by omega), cond_true, if_pos ⟨by omega, by omega⟩, if_pos ⟨by omega, by omega⟩, Int.toNat_natCast, getD_of hlt, getD_of hlt2, drop_cons hlt, drop_cons hlt2, bne]
    rw [show (l[i] :: l.drop (i + 1) == m[i] :: m.drop (i + 1)) = (l[i] == m[i] && l.drop (i + 1) == m.drop (i + 1)) from rfl]
    cases (l[i] == m[i]) with
    | false => rfl
    | true =>
      rw [Bool.not_true, cond_false, wrapN (by omega), Bool.true_and]
      exact ih n (i + 1) (by omega) (by omega) (by omega)
theorem F97.spec {k : Nat} {l m : List Int} (hl : l.length ≤ 4611686018427387904) (hk : l.length < k) : F97.u k (l, m) = some (l == m) := by
  show F97.f k l m = _
  rw [F97.f, F97.b]
  by_cases h : l.length = m.length
  · rw [show ((l.length : Int) != (m.length : Int)) = false by simp [h], cond_false]
    have := F97.l0_spec (k := k) h hl l.length k 0 (by omega) (by omega) hk
    rwa [List.drop_zero, List.drop_zero] at this
  · rw [show ((l.length : Int) != (m.length : Int)) = true by simp; omega, cond_true]
    congr 1
    symm
    rw [beq_eq_false_iff_ne]
    rintro rfl
    exact h rfl
theorem pair_beq (a b : X_Int) : (a == b) = (a.1 == b.1 && a.2 == b.2) := rfl
theorem F58.spec {k : Nat} {a b : X_Int} (hl : a.2.length ≤ 4611686018427387904) (hk : a.2.length < k) : F58.u k (a, b) = some (a == b) := by
  show F58.f _ k a b = _
  rw [F58.f, F58.b, F97.spec hl hk, pair_beq]
  cases (a.1 == b.1) <;> rfl
def intB (a : X_Int) : Bool := decide (a.2.length ≤ 128) && (bif decide (a.2.length = 0) then !a.1 else a.2.getD (a.2.length - 1) 0 != 0)
theorem F121.spec {k : Nat} {a : X_Int} (hl : a.2.length ≤ 4611686018427387904) : F121.u k a = some (intB a) := by
  show F121.f k a = _
  rw [F121.f, F121.b]
  unfold intB
  by_cases h : a.2.length ≤ 128
  · rw [decide_eq_true (by omega), cond_true, decide_eq_true h, Bool.true_and]
    by_cases h0 : a.2.length = 0
    · rw [h0, decide_eq_true rfl, cond_true]
      cases a.1 <;> rfl
    · rw [show (((a.2.length : Nat) : Int) == 0) = false by simpa using h0, cond_false, decide_eq_true (by omega), cond_true, wrapI (by omega) (by omega), if_pos ⟨by omega, by omega⟩, decide_eq_false h0, cond_false, show (((a.2.length : Nat) : Int) - 1).toNat = a.2.length - 1 by omega]
  · rw [decide_eq_false (by omega), cond_false, decide_eq_false h, Bool.false_and]
theorem intB_len {a : X_Int} (h : intB a = true) : a.2.length ≤ 128 := by
  unfold intB at h
  rw [Bool.and_eq_true, decide_eq_true_eq] at h
  exact h.1
theorem v32_lt {l : List Int} (h : Lim l) : v32 l < 65536 ^ (2 * l.length) := by
  have := vl_lt (two_spec h).1
  rwa [(two_spec h).2, two_length] at this
theorem v32_lg {l : List Int} (h : Lim l) : lg (v32 l) ≤ 2 * l.length := lg_le (v32_lt h)
theorem v32_pos {l : List Int} (h : Lim l) (h0 : l ≠ []) (hl : l.getD (l.length - 1) 0 ≠ 0) : v32 l ≠ 0 := by
  induction l with
  | nil => exact absurd rfl h0
  | cons d t ih =>
    have hd := h d List.mem_cons_self
    rw [v32]
    cases t with
    | nil =>
      simp at hl
      simp only [v32]; omega
    | cons x t =>
      have := ih (fun y hy => h y (List.mem_cons_of_mem _ hy)) (by simp) (by simpa using hl)
      omega
/-- a value as it comes in -/
structure TV (v : X_Value) : Prop where
  num : Lim v.2.1.2
  den : Lim v.2.2.1.2
  numL : v.2.1.2.length ≤ 2000000
  denL : v.2.2.1.2.length ≤ 2000000
  text : v.2.2.2.1.length ≤ 2000000
/-- what the check tells of numbers -/
structure VOk (v : X_Value) : Prop where
  int : v.1 = 2 → intB v.2.1 = true
  ratN : v.1 = 3 → intB v.2.1 = true
  ratD : v.1 = 3 → intB v.2.2.1 = true
  ratZ : v.1 = 3 → v32 v.2.2.1.2 ≠ 0
theorem F122.spec {k : Nat} (hk : BK k) {a : X_Int × X_Int} (h1 : Lim a.1.2) (h2 : Lim a.2.2) (l1 : a.1.2.length ≤ 2000000) (l2 : a.2.2.length ≤ 2000000) :
    ∃ b, F122.u k a = some b ∧ (b = true → intB a.1 = true ∧ intB a.2 = true ∧ v32 a.2.2 ≠ 0) := by
  have hk1 := bk_lt hk
  show ∃ b, F122.f _ _ _ _ _ k a = _ ∧ _
  rw [F122.f, F122.b, F121.spec (by omega), Option.bind_some, F121.spec (by omega), Option.bind_some]
  cases e1 : intB a.1 with
  | false => exact ⟨_, rfl, fun h => by cases h⟩
  | true =>
    cases e2 : intB a.2 with
    | false => exact ⟨_, rfl, fun h => by cases h⟩
    | true =>
      rw [Bool.not_true, cond_false, cond_false]
      cases a.2.1 with
      | true => exact ⟨_, rfl, fun h => by cases h⟩
      | false =>
        rw [cond_false]
        by_cases h0 : a.2.2.length = 0
        · rw [h0]; exact ⟨_, rfl, fun h => by cases h⟩
        · have b1 := intB_len e1
          have b2 := intB_len e2
          have g1 := v32_lg h1
          have g2 := v32_lg h2
          have hz : v32 a.2.2 ≠ 0 := by
            refine v32_pos h2 (fun h => h0 (by rw [h]; rfl)) ?_
            unfold intB at e2
            rw [decide_eq_false h0, cond_false, Bool.and_eq_true, bne_iff_ne] at e2
            exact e2.2
          rw [show (((a.2.2.length : Nat) : Int) == 0) = false by simpa using h0, cond_false, F131.spec h1 (by omega) (by omega), Option.bind_some, F131.spec h2 (by omega) (by omega), Option.bind_some,
            F160.spec hk (by omega) (by omega), Option.bind_some, F132.one (by omega), Option.bind_some, F93.spec (Nat.le_trans (lg_mono (Nat.gcd_le_right _ (by omega))) (by omega)) (Nat.lt_of_le_of_lt (lg_mono (Nat.gcd_le_right _ (by omega))) (by omega))]
          exact ⟨_, rfl, fun _ => ⟨rfl, rfl, hz⟩⟩
theorem F50.l0_tot {k : Nat} (hk : 0 < k) {s : List UInt8} (hs : s.length ≤ 1000000) : ∀ (d n i : Nat), s.length - i = d → d < n → i ≤ s.length → Tot (F50.l0 k n s (i : Int)) := by
  intro d
  induction d with
  | zero =>
    intro n i hd hn hi
    obtain ⟨n, rfl⟩ : ∃ m, n = m + 1 := ⟨n - 1, by omega⟩
    rw [F50.l0, F50.b_l0, decide_eq_false (by omega), cond_false]
    exact tot_some _
  | succ d ih =>
    intro n i hd hn hi
    obtain ⟨n, rfl⟩ : ∃ m, n = m + 1 := ⟨n - 1, by omega⟩
    have hg : ∀ c b, Tot (F50.g8 k (fun x0 x3 => F50.l0 k n x0 x3) s (i : Int) c b) := by
      intro c b
      have := ih n (i + 1) (by omega) (by omega) (by omega)
      rw [F50.g8, gate_pos hk, F50.b_g8, wrapN (by omega)]
      repeat' apply tot_cond
      all_goals first | exact tot_some _ | exact this
    rw [F50.l0, F50.b_l0, decide_eq_true (by omega), cond_true, if_pos ⟨by omega, by omega⟩]
    repeat' apply tot_cond
    all_goals exact hg _ _
theorem F50.tot {k : Nat} (hk : 1000 < k) (s : List UInt8) : Tot (F50.u k s) := by
  show Tot (F50.f k s)
  rw [F50.f, F50.b]
  refine tot_cond (tot_some _) ?_
  by_cases h : s.length ≤ 24
  · rw [decide_eq_false (by omega), cond_false]
    exact F50.l0_tot (by omega) (by omega) _ k 0 rfl (by omega) (by omega)
  · rw [decide_eq_true (by omega), cond_true]
    exact tot_some _
theorem F111.l0_tot {k : Nat} (hk : 1000 < k) {s : List UInt8} {l : List (List UInt8)} (hl : l.length ≤ 4611686018427387904) : ∀ (d n i : Nat), l.length - i = d → d < n → i ≤ l.length → Tot (F111.l0 (F151.u k) (F50.u k) k n s l (l.length : Int) (i : Int)) := by
  intro d
  induction d with
  | zero =>
    intro n i hd hn hi
    obtain ⟨n, rfl⟩ : ∃ m, n = m + 1 := ⟨n - 1, by omega⟩
    rw [F111.l0, F111.b_l0, decide_eq_false (by omega), cond_false]
    exact tot_some _
  | succ d ih =>
    intro n i hd hn hi
    obtain ⟨n, rfl⟩ : ∃ m, n = m + 1 := ⟨n - 1, by omega⟩
    rw [F111.l0, F111.b_l0, decide_eq_true (by omega), cond_true, if_pos ⟨by omega, by omega⟩, wrapN (by omega)]
    exact tot_bind (F50.tot hk _) fun y _ => tot_cond (tot_some _) (ih n (i + 1) (by omega) (by omega) (by omega))
theorem split_length (s : List UInt8) : (splitF s [46]).length ≤ s.length + 2 := by
  unfold splitF
  rw [List.length_map]
  have h1 := Lib.splitB_length_le ⟨[46].toArray⟩ 0 (Lib.countB ⟨s.toArray⟩ ⟨[46].toArray⟩) ⟨s.toArray⟩
  have h2 : Lib.countB ⟨s.toArray⟩ ⟨[46].toArray⟩ ≤ s.length + 1 := Lib.count_le s [46]
  omega
theorem F111.tot {k : Nat} (hk : BK k) {s : List UInt8} (hs : s.length ≤ 2000000) : Tot (F111.u k s) := by
  have hk1 := hk 3000000 (Nat.le_trans (lg_le (m := 2) (by omega)) (by omega))
  have := split_length s
  show Tot (F111.f _ _ k s)
  rw [F111.f, F111.b, F151.u, if_pos ⟨by dsimp only; omega, by simp⟩, Option.bind_some]
  exact F111.l0_tot (k := k) (s := s) (l := splitF s [46]) (by omega) (by omega) _ k 0 rfl (by omega) (by omega)
theorem F79.spec {k : Nat} (hk : BK k) {v : X_Value} (hv : TV v) : ∃ b, F79.u k v = some b ∧ (b = true → VOk v) := by
  have hk1 := hk 3000000 (Nat.le_trans (lg_le (m := 2) (by omega)) (by omega))
  have := hv.numL
  have := hv.denL
  have := hv.text
  have h5 : ∀ a b, Tot (F79.g5 (F58.u k) (F121.u k) (F122.u k) (F123.u k) (F111.u k) k v a b) := fun a b => by
    rw [F79.g5, gate_pos (by omega), F79.b_g5]
    repeat' apply tot_cond
    all_goals exact tot_some _
  have h7 : ∀ a b, Tot (F79.g7 (F58.u k) (F121.u k) (F122.u k) (F123.u k) (F111.u k) k v a b) := fun a b => by
    rw [F79.g7, gate_pos (by omega), F79.b_g7]
    repeat' apply tot_cond
    all_goals exact tot_some _
  have h14 : ∀ a b, Tot (F79.g14 (F58.u k) (F121.u k) (F122.u k) (F123.u k) (F111.u k) k v a b) := fun a b => by
    rw [F79.g14, gate_pos (by omega), F79.b_g14]
    refine tot_cond (tot_cond (tot_cond (tot_bind ⟨_, by rw [F123.u, if_pos (by omega)]⟩ fun y _ => tot_cond (tot_some _) (tot_some _)) (tot_some _)) (tot_some _)) (tot_some _)
  have h16 : ∀ a b, Tot (F79.g16 (F58.u k) (F121.u k) (F122.u k) (F123.u k) (F111.u k) k v a b) := fun a b => by
    rw [F79.g16, gate_pos (by omega), F79.b_g16]
    repeat' apply tot_cond
    all_goals exact tot_some _
  have h18 : ∀ a b, Tot (F79.g18 (F58.u k) (F121.u k) (F122.u k) (F123.u k) (F111.u k) k v a b) := fun a b => by
    rw [F79.g18, gate_pos (by omega), F79.b_g18]
    refine tot_cond (tot_cond (tot_cond (tot_bind (F111.tot hk hv.text) fun y _ => tot_some _) (tot_some _)) (tot_some _)) (tot_some _)
  have h20 : ∀ a b, Tot (F79.g20 (F58.u k) (F121.u k) (F122.u k) (F123.u k) (F111.u k) k v a b) := fun a b => by
    rw [F79.g20, gate_pos (by omega), F79.b_g20]
    repeat' apply tot_cond
    all_goals exact tot_some _
  have h9 : ∀ b, ∃ c, F79.g9 (F58.u k) (F121.u k) (F122.u k) (F123.u k) (F111.u k) k v b = some c ∧ (c = true → intB v.2.1 = true) := fun b => by
    rw [F79.g9, gate_pos (by omega), F79.b_g9, F121.spec (by omega), Option.bind_some]
    cases intB v.2.1 with
    | false => exact ⟨_, rfl, fun h => by cases h⟩
    | true =>
      rw [cond_true]
      cases b <;> cases (v.2.2.2.1 == []) <;> exact ⟨_, rfl, fun _ => rfl⟩
  have h12 : ∀ b, ∃ c, F79.g12 (F58.u k) (F121.u k) (F122.u k) (F123.u k) (F111.u k) k v b = some c ∧ (c = true → intB v.2.1 = true ∧ intB v.2.2.1 = true ∧ v32 v.2.2.1.2 ≠ 0) := fun b => by
    obtain ⟨r, hr, hr2⟩ := F122.spec hk (a := (v.2.1, v.2.2.1)) hv.num hv.den hv.numL hv.denL
    rw [F79.g12, gate_pos (by omega), F79.b_g12, hr, Option.bind_some]
    cases r with
    | false => exact ⟨_, rfl, fun h => by cases h⟩
    | true =>
      rw [cond_true]
      cases b <;> cases (v.2.2.2.1 == []) <;> exact ⟨_, rfl, fun _ => hr2 rfl⟩
  have h11 : ∃ c, F79.g11 (F58.u k) (F121.u k) (F122.u k) (F123.u k) (F111.u k) k v = some c ∧ (c = true → intB v.2.1 = true ∧ intB v.2.2.1 = true ∧ v32 v.2.2.1.2 ≠ 0) := by
    rw [F79.g11, gate_pos (by omega), F79.q_g11, F79.c_g11]
    by_cases h : v.2.2.1.2.length = 1
    · rw [h, show (((1 : Nat) : Int) == 1) = true from rfl, cond_true, if_pos (by omega)]
      exact h12 _
    · rw [show ((v.2.2.1.2.length : Int) == 1) = false by simp; omega, cond_false]
      exact h12 _
  show ∃ b, F79.f _ _ _ _ _ k v = _ ∧ _
  rw [F79.f, F79.b, F58.spec (by omega) (by omega), Option.bind_some, F58.spec (by omega) (by omega), Option.bind_some]
  have other : ∀ {x : Option Bool}, v.1 ≠ 2 → v.1 ≠ 3 → Tot x → ∃ b, x = some b ∧ (b = true → VOk v) := fun h2 h3 ⟨y, e⟩ => ⟨y, e, fun _ => ⟨fun h => absurd h h2, fun h => absurd h h3, fun h => absurd h h3, fun h => absurd h h3⟩⟩
  by_cases e2 : v.1 = 2
  · rw [e2]
    simp only [show ((2 : Int) == 0) = false from rfl, show ((2 : Int) == 8) = false from rfl, show ((2 : Int) == 1) = false from rfl, show ((2 : Int) == 2) = true from rfl, cond_false, cond_true]
    obtain ⟨c, e, h⟩ := h9 (v.2.2.1 == (false, []))
    exact ⟨c, e, fun hc => ⟨fun _ => h hc, fun h3 => by omega, fun h3 => by omega, fun h3 => by omega⟩⟩
  · by_cases e3 : v.1 = 3
    · rw [e3]
      simp only [show ((3 : Int) == 0) = false from rfl, show ((3 : Int) == 8) = false from rfl, show ((3 : Int) == 1) = false from rfl, show ((3 : Int) == 2) = false from rfl, show ((3 : Int) == 3) = true from rfl, cond_false, cond_true]
      obtain ⟨c, e, h⟩ := h11
      exact ⟨c, e, fun hc => ⟨fun h3 => by omega, fun _ => (h hc).1, fun _ => (h hc).2.1, fun _ => (h hc).2.2⟩⟩
    · refine other e2 e3 ?_
      rw [show (v.1 == 2) = false by simpa using e2, show (v.1 == 3) = false by simpa using e3]
      simp only [cond_false]
      repeat' apply tot_cond
      all_goals first | exact h5 _ _ | exact h7 _ _ | exact h14 _ _ | exact h16 _ _ | exact h18 _ _ | exact h20 _ _ | exact tot_some _
theorem F14.spec {k : Nat} (hk : 3000000 < k) {v w : X_Value} (hv : TV v) : F14.u k (v, w) = some (v == w) := by
  have := hv.numL
  have := hv.denL
  show F14.f _ k v w = _
  rw [F14.f, F14.b]
  rw [show (v == w) = (v.1 == w.1 && (v.2.1 == w.2.1 && (v.2.2.1 == w.2.2.1 && (v.2.2.2.1 == w.2.2.2.1 && v.2.2.2.2 == w.2.2.2.2)))) from rfl]
  rw [F58.spec (by omega) (by omega), F58.spec (by omega) (by omega)]
  simp only [Option.bind_some]
  cases (v.1 == w.1) <;> cases (v.2.1 == w.2.1) <;> cases (v.2.2.1 == w.2.2.1) <;> cases (v.2.2.2.1 == w.2.2.2.1) <;> cases (v.2.2.2.2 == w.2.2.2.2) <;> rfl
end Go.Ab
