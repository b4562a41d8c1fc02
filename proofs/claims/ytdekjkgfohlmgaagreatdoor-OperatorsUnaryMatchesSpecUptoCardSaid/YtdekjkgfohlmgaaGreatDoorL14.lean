/- Law 14: unary operators. -/
import Derived.Test.YtdekjkgfohlmgaaGreatDoorN4
namespace Go.Ab
set_option linter.unusedVariables false
set_option linter.unusedSimpArgs false
/-! ### what a unary operator makes of a number -/
def numB (v : X_Value) : Bool := decide (v.1 = 2) || decide (v.1 = 3)
def negV (v : X_Value) : X_Value := (v.1, ((!v.2.1.1 && decide ((v.2.1.2.length : Int) > 0), v.2.1.2), v.2.2))
def notS (v : X_Value) : X_Step := qstep (zadd (zneg (v.2.1.1, v32 v.2.1.2)) (true, 1), 1)
def stepZ : X_Step := (0, (zV, (0, ([], (zV, [])))))
def unP (op : Int) (v : X_Value) : Option X_Step :=
  bif op == 2 && numB v then some (resu v) else bif op == 1 && numB v then some (resu (negV v)) else bif op == 3 && v.1 == 2 then some (notS v) else none
theorem not_cases {a : X_Int} (ha : intB a = true) (la : Lim a.2) : zadd (zneg (a.1, v32 a.2)) (true, 1) = bif a.1 then (false, v32 a.2 - 1) else (true, v32 a.2 + 1) := by
  obtain ⟨_, z2, _⟩ := intB_isZ ha la
  unfold zadd zneg
  cases hs : a.1 with
  | true =>
    have := z2 hs
    dsimp only
    rw [show (!true && decide (0 < v32 a.2)) = false from rfl, show (false == true) = false from rfl, cond_false, decide_eq_true (by omega), cond_true]
    rfl
  | false =>
    by_cases h0 : v32 a.2 = 0
    · rw [h0]; rfl
    · dsimp only
      rw [decide_eq_true (show 0 < v32 a.2 by omega)]
      rfl
theorem F32.spec {k : Nat} (hk : 3000000 < k) {op : Int} {v : X_Value} (tv : TV v) (ov : VOk v) : F32.u k (op, v) = some (match unP op v with | some s => (s, true) | none => (stepZ, false)) := by
  have g4 : ∀ x, numB v = true → F32.g4 (F82.u k) (F83.u k) (F85.u k) (F84.u k) k v x = some (resu (negV v), true) := by
    intro x hn
    have hi : intB v.2.1 = true := by
      simp only [numB, Bool.or_eq_true, decide_eq_true_eq] at hn
      exact hn.elim ov.int ov.ratN
    rw [F32.g4, gate_pos (by omega), F32.b_g4, F83.spec (by omega) hi]
    rfl
  have g7 : ∀ x, F32.g7 (F82.u k) (F83.u k) (F85.u k) (F84.u k) k op v x = some (bif op == 3 && v.1 == 2 then (notS v, true) else (stepZ, false)) := by
    intro x
    rw [F32.g7, gate_pos (by omega), F32.q_g7, F32.c_g7]
    cases h3 : op == 3 with
    | false => rfl
    | true =>
      cases h2 : v.1 == 2 with
      | false => rfl
      | true =>
        have hi := ov.int (by simpa using h2)
        rw [cond_true, cond_true, F85.spec (by omega) hi tv.num, Option.bind_some, notS, not_cases hi tv.num]
        cases v.2.1.1 <;> simp only [cond_true, cond_false, F84.spec, Option.bind_some, Bool.and_self]
  have g3 : ∀ x, F32.g3 (F82.u k) (F83.u k) (F85.u k) (F84.u k) k op v x = some (bif op == 1 && numB v then (resu (negV v), true) else bif op == 3 && v.1 == 2 then (notS v, true) else (stepZ, false)) := by
    intro x
    rw [F32.g3, gate_pos (by omega), F32.q_g3, F32.c_g3, g7]
    cases h1 : op == 1 with
    | false => rfl
    | true =>
      by_cases h2 : v.1 = 2
      · have hn : numB v = true := by rw [numB, decide_eq_true h2]; rfl
        rw [ieqT h2, hn, cond_true, cond_true, g4 _ hn]
        rfl
      · by_cases h3 : v.1 = 3
        · have hn : numB v = true := by rw [numB, decide_eq_true h3, Bool.or_true]
          rw [ieqF h2, ieqT h3, hn, cond_true, cond_false, cond_true, g4 _ hn]
          rfl
        · have hn : numB v = false := by rw [numB, decide_eq_false h2, decide_eq_false h3]; rfl
          rw [ieqF h2, ieqF h3, hn]
          rfl
  show F32.f _ _ _ _ k op v = _
  rw [F32.f, F32.b, g3]
  unfold unP
  cases h1 : op == 2 with
  | false =>
    rw [cond_false, Bool.false_and, cond_false]
    cases (op == 1 && numB v) <;> cases (op == 3 && v.1 == 2) <;> rfl
  | true =>
    have o1 : (op == 1) = false := ieqF (by have : op = 2 := by simpa using h1
                                            omega)
    have o3 : (op == 3) = false := ieqF (by have : op = 2 := by simpa using h1
                                            omega)
    rw [o1, o3]
    by_cases h2 : v.1 = 2
    · have hn : numB v = true := by rw [numB, decide_eq_true h2]; rfl
      rw [ieqT h2, hn]
      rfl
    · by_cases h3 : v.1 = 3
      · have hn : numB v = true := by rw [numB, decide_eq_true h3, Bool.or_true]
        rw [ieqF h2, ieqT h3, hn]
        rfl
      · have hn : numB v = false := by rw [numB, decide_eq_false h2, decide_eq_false h3]; rfl
        rw [ieqF h2, ieqF h3, hn]
        rfl
/-- the negation of a number, as the reference has it -/
theorem neg_same {v : X_Value} (tv : TV v) (vg : VG v) (hn : numB v = true) : qstep (zneg (qv v).1, (qv v).2) = resu (negV v) := by
  have h9 : v.1 ≠ 9 := by simp only [numB, Bool.or_eq_true, decide_eq_true_eq] at hn; omega
  have ov := vg.ok h9
  have vf := vg.vf
  have hi : intB v.2.1 = true := by
    simp only [numB, Bool.or_eq_true, decide_eq_true_eq] at hn
    exact hn.elim ov.int ov.ratN
  obtain ⟨z1, z2, z3⟩ := intB_isZ hi tv.num
  have hl : v.2.1.2 = dl (v32 v.2.1.2) := congrArg Prod.snd z1
  have hlg := dl_len_lg z3
  have hz : zval (zneg (v.2.1.1, v32 v.2.1.2)) = (2, ((!v.2.1.1 && decide ((v.2.1.2.length : Int) > 0), v.2.1.2), ((false, []), ([], 0)))) := by
    unfold zval zneg
    dsimp only
    rw [← hl, Bool.and_assoc, Bool.and_self, show decide ((v.2.1.2.length : Int) > 0) = decide (0 < v32 v.2.1.2) by rw [← dl_pos' (v32 v.2.1.2), ← hl]]
  by_cases h3 : v.1 = 3
  · obtain ⟨d1, d2, d3⟩ := vf.den h3
    obtain ⟨y1, _, y3⟩ := intB_isZ (ov.ratD h3) tv.den
    have hd : v.2.2.1 = (false, dl (v32 v.2.2.1.2)) := by rw [d1] at y1; exact y1
    have hq : qv v = ((v.2.1.1, v32 v.2.1.2), v32 v.2.2.1.2) := by unfold qv; rw [decide_eq_true h3]; rfl
    have h1 : v32 v.2.2.1.2 ≠ 1 := fun h => by
      rw [h] at hd
      exact d2 (by rw [hd, dl_pos (by omega)]; simp [dl_zero])
    have e : qval (zneg (qv v).1, (qv v).2) = negV v := by
      rw [hq]
      unfold qval negV
      dsimp only
      rw [decide_eq_false h1, cond_false, hz, h3, ← hd]
      dsimp only
      rw [← vf.txt0 (by omega) (by omega) (by omega), ← vf.ref0 (by omega) (by omega)]
    unfold qstep
    rw [e, show qfits (zneg (qv v).1, (qv v).2) = true by
      rw [hq]
      unfold qfits zneg
      dsimp only
      rw [decide_eq_true hlg, decide_eq_true (dl_len_lg y3)]
      rfl]
    rfl
  · have h2 : v.1 = 2 := by simp only [numB, Bool.or_eq_true, decide_eq_true_eq] at hn; omega
    have hq : qv v = ((v.2.1.1, v32 v.2.1.2), 1) := by unfold qv; rw [decide_eq_false h3]; rfl
    rw [hq, qstep_one (by unfold zneg; exact hlg), ← zval_eq, hz]
    unfold negV
    rw [h2, show v.2.2 = ((false, []), ([], 0)) from by rw [show v.2.2 = (v.2.2.1, (v.2.2.2.1, v.2.2.2.2)) from rfl, vf.den0 h3, vf.txt0 (by omega) (by omega) (by omega), vf.ref0 (by omega) (by omega)]]
/-! ### the plans -/
def uNm (op : Int) : List UInt8 := bif op == 1 then [110, 101, 103] else bif op == 2 then [112, 111, 115] else [105, 110, 118, 101, 114, 116]
def uSg (op : Int) : List UInt8 := bif op == 1 then [45] else bif op == 2 then [43] else [126]
def cannot (h : X_Heap) (op : Int) (v : X_Value) : X_Step :=
  rais 32 (((([99, 97, 110, 110, 111, 116, 32, 97, 112, 112, 108, 121, 32, 39] ++ uSg op) ++ [39, 32, 116, 111, 32, 39]) ++ (hob h (clV h v).toNat).2.1) ++ [39])
def unPlan (h : X_Heap) (op : Int) (v : X_Value) : List X_Step × X_Step := (attP h v ([111, 110, 95] ++ uNm op) [], (unP op v).getD (cannot h op v))
theorem F8.spec {k : Nat} (hk : 3000000 < k) {h : X_Heap} (p : HP h) {op : Int} (h1 : 1 ≤ op) (h3 : op ≤ 3) {v : X_Value} (vi : VI h v) (ov : VOk v) (kd : 0 ≤ v.1 ∧ v.1 ≤ 8) : F8.u k (h, (op, v)) = some (unPlan h op v) := by
  have hcl := (p.t.ob (clV h v).toNat).name
  show F8.f _ _ _ _ _ k h op v = _
  rw [F8.f, F8.b, show F30.u k () = some (([45], [110, 101, 103]), (([43], [112, 111, 115]), ([126], [105, 110, 118, 101, 114, 116]))) from rfl, Option.bind_some,
    wrapI (by omega) (by omega), if_pos ⟨by omega, by omega⟩]
  dsimp only
  have e : ([([45], [110, 101, 103]), ([43], [112, 111, 115]), ([126], [105, 110, 118, 101, 114, 116])] : List (List UInt8 × List UInt8)).getD (op - 1).toNat ([], []) = (uSg op, uNm op) := by
    have : op = 1 ∨ op = 2 ∨ op = 3 := by omega
    rcases this with rfl | rfl | rfl <;> rfl
  have l1 : (uNm op).length ≤ 6 ∧ (uSg op).length ≤ 1 := by
    have : op = 1 ∨ op = 2 ∨ op = 3 := by omega
    rcases this with rfl | rfl | rfl <;> decide
  rw [e]
  dsimp only
  rw [if_pos (by simp only [List.length_cons, List.length_nil]; omega), F31.spec hk p vi (by simp), Option.bind_some, F32.spec hk vi.tv ov, Option.bind_some]
  unfold unPlan
  cases hu : unP op v with
  | some s => rfl
  | none =>
    dsimp only
    rw [cond_false, if_pos (by simp only [List.length_cons, List.length_nil]; omega), if_pos (by simp only [List.length_append, List.length_cons, List.length_nil]; omega), F34.spec p vi kd, Option.bind_some, if_pos (by simp only [List.length_append, List.length_cons, List.length_nil]; omega), if_pos (by simp only [List.length_append, List.length_cons, List.length_nil]; omega)]
    rfl
def verbs : List (List UInt8) := [[110, 101, 103], [112, 111, 115], [105, 110, 118, 101, 114, 116], [110, 111, 116], [97, 100, 100], [115, 117, 98], [109, 117, 108], [100, 105, 118], [102, 108, 111, 111, 114], [109, 111, 100], [112, 111, 119], [108, 101, 102, 116], [114, 105, 103, 104, 116], [97, 110, 100], [111, 114], [120, 111, 114]]
def signs : List (List UInt8) := [[45], [43], [126], [110, 111, 116], [43], [45], [42], [47], [47, 47], [37], [42, 42], [60, 60], [62, 62], [38], [124], [94]]
theorem verbs_spec (k : Nat) : F36.u k () = some verbs := by kernel_rfl
theorem signs_spec (k : Nat) : F47.u k () = some signs := by kernel_rfl
theorem F9.spec {k : Nat} (hk : BK k) {h : X_Heap} (p : HP h) {op : Int} (h1 : 1 ≤ op) (h3 : op ≤ 3) {v : X_Value} (vi : VI h v) (kd : 0 ≤ v.1 ∧ v.1 ≤ 8) : F9.u k (h, (op, v)) = some (unPlan h op v) := by
  have hk1 := bkN hk (n := 10000000) (by omega)
  have hcl := (p.t.ob (clV h v).toNat).name
  have hop : op = 1 ∨ op = 2 ∨ op = 3 := by omega
  have l1 : (uNm op).length ≤ 6 ∧ (uSg op).length ≤ 1 := by rcases hop with rfl | rfl | rfl <;> decide
  have ev : verbs.getD (op - 1).toNat [] = uNm op := by rcases hop with rfl | rfl | rfl <;> rfl
  have es : signs.getD (op - 1).toNat [] = uSg op := by rcases hop with rfl | rfl | rfl <;> rfl
  have ov := vi.good.ok (by omega)
  have hnum : ∀ hn : numB v = true, v.2.1.2.length ≤ 128 ∧ v.2.2.1.2.length ≤ 128 := fun hn => by
    simp only [numB, Bool.or_eq_true, decide_eq_true_eq] at hn
    rcases hn with h2 | h3
    · refine ⟨intB_len (ov.int h2), ?_⟩
      rw [vi.good.vf.den0 (by omega)]
      simp
    · exact ⟨intB_len (ov.ratN h3), intB_len (ov.ratD h3)⟩
  have g2 : ∀ x y, F9.g2 (F36.u k) (F35.u k) (F37.u k) (F38.u k) (F39.u k) (F41.u k) (F40.u k) (F43.u k) (F45.u k) (F44.u k) (F42.u k) (F47.u k) (F48.u k) (F46.u k) k op h v x y = some (y.1, cannot h op v) := by
    intro x y
    rw [F9.g2, gate_pos (by omega), F9.b_g2, signs_spec, Option.bind_some, wrapI (by omega) (by omega), if_pos ⟨by omega, by rw [show signs.length = 16 from rfl]; omega⟩, es, if_pos (by simp only [List.length_cons, List.length_nil]; omega), if_pos (by simp only [List.length_append, List.length_cons, List.length_nil]; omega),
      F48.spec p vi kd, Option.bind_some, if_pos (by simp only [List.length_append, List.length_cons, List.length_nil]; omega), if_pos (by simp only [List.length_append, List.length_cons, List.length_nil]; omega)]
    rfl
  have g8 : ∀ x y, F9.g8 (F36.u k) (F35.u k) (F37.u k) (F38.u k) (F39.u k) (F41.u k) (F40.u k) (F43.u k) (F45.u k) (F44.u k) (F42.u k) (F47.u k) (F48.u k) (F46.u k) k op h v x y = some (y.1, (bif op == 3 && v.1 == 2 then some (notS v) else none).getD (cannot h op v)) := by
    intro x y
    rw [F9.g8, gate_pos (by omega), F9.q_g8, F9.c_g8, g2]
    by_cases h2 : v.1 = 2
    · rw [ieqT h2, cond_true, Bool.and_true]
      cases op == 3 with
      | false => rfl
      | true =>
        have hn := hnum (by rw [numB, decide_eq_true h2]; rfl)
        have hlg : lg (v32 v.2.1.2) ≤ 256 := dl_len_lg (intB_isZ (ov.int h2) vi.tv.num).2.2
        rw [cond_true, F43.spec (by omega) vi.tv (by omega), Option.bind_some, F41.spec, Option.bind_some, F45.spec (v := -1) (by omega) (by omega) (by omega), Option.bind_some,
          F44.spec (by omega) (Nat.le_trans (show lg (zneg (v.2.1.1, v32 v.2.1.2)).2 ≤ 256 from hlg) (by omega)) (Nat.le_trans (show lg 1 ≤ 256 by rw [lg_one]; omega) (by omega)), Option.bind_some, F42.spec (by omega)]
        rfl
    · rw [ieqF h2, cond_false, Bool.and_false]
      rfl
  have g5 : ∀ x y, F9.g5 (F36.u k) (F35.u k) (F37.u k) (F38.u k) (F39.u k) (F41.u k) (F40.u k) (F43.u k) (F45.u k) (F44.u k) (F42.u k) (F47.u k) (F48.u k) (F46.u k) k op h v x y =
      some (y.1, (bif op == 1 && numB v then some (resu (negV v)) else bif op == 3 && v.1 == 2 then some (notS v) else none).getD (cannot h op v)) := by
    intro x y
    rw [F9.g5, gate_pos (by omega), F9.q_g5, F9.c_g5, F37.spec, Option.bind_some, g8]
    cases hn : numB v with
    | false =>
      rw [show (decide (v.1 = 2) || decide (v.1 = 3)) = false from hn, cond_false, Bool.and_false]
      rfl
    | true =>
      rw [show (decide (v.1 = 2) || decide (v.1 = 3)) = true from hn, cond_true, Bool.and_true]
      cases op == 1 with
      | false => rfl
      | true =>
        have hl := hnum hn
        rw [cond_true, F39.spec (by omega) vi.tv (by omega) (by omega), Option.bind_some]
        rw [show (er (qv v)).1 = en (qv v).1 from rfl, F41.spec, Option.bind_some]
        rw [show F40.u k (en (zneg (qv v).1), (er (qv v)).2) = F40.u k (er (zneg (qv v).1, (qv v).2)) from rfl, F40.spec (by omega), Option.bind_some, neg_same vi.tv vi.good hn]
        rfl
  show F9.f _ _ _ _ _ _ _ _ _ _ _ _ _ _ k h op v = _
  rw [F9.f, F9.b, verbs_spec, Option.bind_some, wrapI (by omega) (by omega), if_pos ⟨by omega, by rw [show verbs.length = 16 from rfl]; omega⟩, ev, if_pos (by simp only [List.length_cons, List.length_nil]; omega), F35.spec (by omega) p vi (by simp), Option.bind_some, F37.spec, Option.bind_some, g5]
  unfold unPlan unP
  cases hn : numB v with
  | false =>
    rw [show (decide (v.1 = 2) || decide (v.1 = 3)) = false from hn, cond_false]
    simp only [Bool.and_false, cond_false]
  | true =>
    rw [show (decide (v.1 = 2) || decide (v.1 = 3)) = true from hn, cond_true, Bool.and_true]
    cases op == 2 <;> rfl
/-! ### what is made is like itself -/
theorem F7.l0_refl {k : Nat} {l : List X_Step} {s : X_Step} (hl : l.length ≤ 1000) (hs : ∀ x ∈ l, F29.u k (x, x) = some true) : ∀ (d n i : Nat), l.length - i = d → d < n → i ≤ l.length → F7.l0 (F29.u k) k n (l, s) (l, s) (l.length : Int) (i : Int) = some true := by
  intro d
  induction d with
  | zero =>
    intro n i hd hn hi
    obtain ⟨n, rfl⟩ : ∃ m, n = m + 1 := ⟨n - 1, by omega⟩
    rw [F7.l0, F7.b_l0, decide_eq_false (by omega), cond_false]
  | succ d ih =>
    intro n i hd hn hi
    obtain ⟨n, rfl⟩ : ∃ m, n = m + 1 := ⟨n - 1, by omega⟩
    have hlt : i < l.length := by omega
    rw [F7.l0, F7.b_l0, decide_eq_true (by omega), cond_true, if_pos ⟨by omega, by dsimp only; omega⟩, if_pos ⟨by omega, by dsimp only; omega⟩, Int.toNat_natCast]
    dsimp only
    rw [getD_of hlt, hs _ (List.getElem_mem hlt), Option.bind_some, Bool.not_true, cond_false, wrapN (by omega)]
    exact ih n (i + 1) (by omega) (by omega) (by omega)
theorem F7.refl {k : Nat} (hk : 1000 < k) {pl : List X_Step × X_Step} (hl : pl.1.length ≤ 1000) (h1 : F29.u k (pl.2, pl.2) = some true) (hs : ∀ x ∈ pl.1, F29.u k (x, x) = some true) : F7.u k (pl, pl) = some true := by
  show F7.f _ k pl pl = _
  rw [F7.f, F7.b, show ((pl.1.length : Int) != (pl.1.length : Int)) = false by simp, cond_false, h1, Option.bind_some, Bool.not_true, cond_false]
  exact F7.l0_refl hl hs _ k 0 rfl (by omega) (by omega)
theorem attP_same {k : Nat} (hk : 3000000 < k) {h : X_Heap} (p : HP h) {v : X_Value} (vi : VI h v) {s : List UInt8} {a : List X_Value} (ha : a.length ≤ 1000) (hv : ∀ x ∈ a, TV x) : (attP h v s a).length ≤ 1000 ∧ ∀ x ∈ attP h v s a, F29.u k (x, x) = some true := by
  obtain ⟨m1, m2, m3⟩ := metP_vi p vi (s := s)
  unfold attP
  cases (metP h v s).2.2 with
  | false => exact ⟨by simp, fun x hx => by cases hx⟩
  | true =>
    refine ⟨by simp, fun x hx => ?_⟩
    rw [List.mem_singleton.1 hx]
    refine F29.refl hk tv_zV m1.tv ?_ ?_
    · show ((metP h v s).2.1 ++ a).length ≤ _
      rw [List.length_append]; omega
    · intro y hy
      rcases List.mem_append.1 hy with hy | hy
      · exact (m3 y hy).tv
      · exact hv y hy
theorem tv_zval {z : Zt} (h : (dl z.2).length ≤ 2000000) : TV (zval z) := ⟨lim_dl _, (fun d h => by cases h), h, (by show ([] : List Int).length ≤ _; simp), (by show ([] : List UInt8).length ≤ _; simp)⟩
theorem dl_len_of {n : Nat} (h : lg n ≤ 256) : (dl n).length ≤ 128 := dl_len (m := 128) (Nat.lt_of_lt_of_le (lt_lg n) (by
  have := pow_le_pow h
  rw [p256] at this
  exact this))
theorem unP_same {k : Nat} (hk : 3000000 < k) {op : Int} {v : X_Value} (tv : TV v) {s : X_Step} (h : unP op v = some s) : F29.u k (s, s) = some true := by
  unfold unP at h
  cases h2 : (op == 2 && numB v) with
  | true => rw [h2] at h; cases h; exact resu_same hk tv
  | false =>
    rw [h2, cond_false] at h
    cases h1 : (op == 1 && numB v) with
    | true => rw [h1] at h; cases h; exact resu_same hk ⟨tv.num, tv.den, tv.numL, tv.denL, tv.text⟩
    | false =>
      rw [h1, cond_false] at h
      cases h3 : (op == 3 && v.1 == 2) with
      | false => rw [h3] at h; cases h
      | true =>
        rw [h3, cond_true] at h
        cases h
        unfold notS qstep
        cases hf : qfits (zadd (zneg (v.2.1.1, v32 v.2.1.2)) (true, 1), 1) with
        | false => exact rais_same hk
        | true =>
          refine resu_same hk ?_
          unfold qfits at hf
          rw [Bool.and_eq_true, decide_eq_true_eq] at hf
          have : (dl (zadd (zneg (v.2.1.1, v32 v.2.1.2)) (true, 1)).2).length ≤ 128 := dl_len_of hf.1
          exact tv_zval (z := zadd (zneg (v.2.1.1, v32 v.2.1.2)) (true, 1)) (by omega)
theorem law14 {k : Nat} (hk : BK k) {h : X_Heap} (t : TH h) {op : Int} {v : X_Value} (tv : TV v) : F3.u k (h, (op, v)) = some true := by
  have hk1 := bkN hk (n := 10000000) (by omega)
  obtain ⟨b, hb, hb2⟩ := F5.spec hk t (l := [v]) (by simp) (fun w hw => by rw [List.mem_singleton.1 hw]; exact tv)
  show F3.f _ _ _ _ _ _ k h op v = _
  rw [F3.f, F3.q, F3.c, hb, Option.bind_some]
  cases b with
  | false => rfl
  | true =>
    obtain ⟨p, hv⟩ := hb2 rfl
    have vh := hv v (by simp)
    have vi := vh.vi tv
    rw [Bool.not_true, cond_false]
    by_cases o1 : op < 1
    · rw [decide_eq_true o1]; rfl
    · rw [decide_eq_false o1, cond_false]
      by_cases o3 : op > 3
      · rw [decide_eq_true o3]; rfl
      · obtain ⟨a1, a2⟩ := attP_same (k := k) (by omega) p vi (s := [111, 110, 95] ++ uNm op) (a := []) (by simp) (fun x h => by cases h)
        have hs : F29.u k ((unPlan h op v).2, (unPlan h op v).2) = some true := by
          unfold unPlan
          dsimp only
          cases hu : unP op v with
          | none => exact rais_same (by omega)
          | some s => exact unP_same (by omega) tv hu
        rw [decide_eq_false o3, cond_false, F6.spec (by omega) t, Option.bind_some, F8.spec (by omega) p (by omega) (by omega) vi vh.ok vh.kind, Option.bind_some, F9.spec hk p (by omega) (by omega) vi vh.kind, Option.bind_some,
          F7.refl (by omega) a1 hs a2, Option.bind_some, cond_true, F10.refl (by omega) t.len t.obj]
        rfl
end Go.Ab
