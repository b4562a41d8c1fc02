/- What the checks of heaps answer. -/
import Derived.Test.YtdekjkgfohlmgaaGreatDoorV6
import Derived.Test.YtdekjkgfohlmgaaGreatDoorGT4
namespace Go.Ab
set_option linter.unusedVariables false
set_option linter.unusedSimpArgs false
/-! ### linearizations -/
theorem F158.spec {k : Nat} (hk : 17592186044420 < k) (all : List (List Int)) (hok : ∀ l ∈ all, okI l) : ∃ r, F158.u k all = some r ∧ (r.1 = 0 → r = (0, 0) ∧ all.length ≤ 8 ∧ good all all.length) := by
  show ∃ r, F158.f (F69.u k) (F178.u k) k all = some r ∧ _
  rw [F158.f, F158.b]
  by_cases h : all.length > 8
  · rw [decide_eq_true (by omega), cond_true, F69.spec3]
    exact ⟨_, rfl, fun h => by cases h⟩
  · rw [decide_eq_false (by omega), cond_false]
    have key : ∀ (d n i : Nat), i ≤ all.length → all.length - i = d → d < n → good all i →
        ∃ r, rchk k n (0, 0) (heads (all.take i)) all (all.length : Int) (i : Int) = some r ∧ (r.1 = 0 → r = (0, 0) ∧ good all all.length) := by
      intro d
      induction d with
      | zero =>
        intro n i hi hd hn hg
        obtain ⟨n, rfl⟩ : ∃ m, n = m + 1 := ⟨n - 1, by omega⟩
        refine ⟨(0, 0), ?_, fun _ => ⟨rfl, fun j h hj => hg j h (by omega)⟩⟩
        rw [rchk, F158.l0, F158.b_l0, decide_eq_false (by omega), cond_false]
      | succ d ih =>
        intro n i hi hd hn hg
        obtain ⟨n, rfl⟩ : ∃ m, n = m + 1 := ⟨n - 1, by omega⟩
        have hlt : i < all.length := by omega
        rw [rchk_step hk (by omega) hok hlt]
        cases hc : (ocd all i all[i] != 0) with
        | true =>
          refine ⟨_, rfl, fun h => ?_⟩
          rw [bne_iff_ne] at hc
          exact absurd h hc
        | false =>
          simp only [cond_false]
          exact ih n (i + 1) (by omega) (by omega) (by omega) fun j h hj => by
            by_cases e : j = i
            · subst e; exact hc
            · exact hg j h (by omega)
    obtain ⟨r, h1, h2⟩ := key all.length k 0 (by omega) (by omega) (by omega) (fun j h hj => by omega)
    exact ⟨r, h1, fun e => ⟨(h2 e).1, by omega, (h2 e).2⟩⟩
theorem F120.spec {k : Nat} (hk : 17592186044420 < k) (all : List (List Int)) (hok : ∀ l ∈ all, okI l) : ∃ r, F120.u k all = some r ∧ r.1.length < 41 := by
  obtain ⟨r, h1, h2⟩ := F158.spec hk all hok
  show ∃ r, F120.f (F158.u k) (F159.u k) (F69.u k) k all = some r ∧ _
  rw [F120.f, F120.b, h1, Option.bind_some]
  cases hc : (r.1 != 0) with
  | true => exact ⟨_, rfl, by simp⟩
  | false =>
    obtain ⟨rfl, hl, hg⟩ := h2 (by simpa using hc)
    have hst := MOk.start hl hg
    have hlt : tot (ini all) < k := by
      have := hst.sum
      rw [ini, tot_ne]
      simp at this
      omega
    obtain ⟨y, hy⟩ := mrg_some k [] (ini all) (fun x hx => by unfold ini at hx; exact (ne_mem.1 hx).2) hlt
    rw [cond_false, merged_spec (by omega) hl hg, hy, Option.bind_some, F69.spec3, F69.spec3]
    by_cases h3 : (y.2.length : Int) > 0
    · rw [decide_eq_true h3]; exact ⟨_, rfl, by simp⟩
    · rw [decide_eq_false h3, cond_false]
      by_cases h4 : (y.1.length : Int) ≥ 40
      · rw [decide_eq_true h4]; exact ⟨_, rfl, by simp⟩
      · rw [decide_eq_false h4]; exact ⟨_, rfl, by dsimp only; omega⟩
theorem F77.l0_tot {k : Nat} (hk : 17592186044420 < k) {h : X_Heap} (t : TH h) {x1 : Int} {o : X_Object} (tO : TO o) {l : List Int} (hl : l.length ≤ 2000000) (hr : ∀ m ∈ l, isO h m = true) : ∀ (d n i : Nat) (acc : List (List Int)), l.length - i = d → d < n → i ≤ l.length → acc.length = i → (∀ x ∈ acc, okI x) → Tot (F77.l0 (F120.u k) (F96.u k) k n x1 h o acc l (l.length : Int) (i : Int)) := by
  intro d
  induction d with
  | zero =>
    intro n i acc hd hn hi ha hok
    obtain ⟨n, rfl⟩ : ∃ m, n = m + 1 := ⟨n - 1, by omega⟩
    obtain ⟨r, h1, h2⟩ := F120.spec hk acc hok
    have ho := tO.order
    rw [F77.l0, F77.q_l0, F77.c_l0, decide_eq_false (by omega), cond_false, h1, Option.bind_some]
    refine tot_cond ?_ (tot_some _)
    rw [if_pos ⟨by simp, by simp only [LIM]; omega⟩]
    exact tot_bind ⟨_, F96.spec (by omega) (by omega)⟩ fun _ _ => tot_some _
  | succ d ih =>
    intro n i acc hd hn hi ha hok
    obtain ⟨n, rfl⟩ : ∃ m, n = m + 1 := ⟨n - 1, by omega⟩
    have hlt : i < l.length := by omega
    obtain ⟨c1, c2, _⟩ := isO_lt (hr _ (List.getElem_mem hlt))
    rw [F77.l0, F77.q_l0, F77.c_l0, decide_eq_true (by omega), cond_true, if_pos ⟨by omega, by omega⟩, Int.toNat_natCast, getD_of hlt, if_pos ⟨c1, c2⟩, if_pos (by simp only [LIM, List.length_cons, List.length_nil]; omega), wrapN (by omega)]
    refine ih n (i + 1) _ (by omega) (by omega) (by omega) (by simp; omega) fun x hx => ?_
    rcases List.mem_append.1 hx with hx | hx
    · exact hok x hx
    · rw [List.mem_singleton.1 hx]
      exact ⟨Nat.le_trans (t.ob (l[i]).toNat).order (by omega), trivial⟩
theorem F77.tot {k : Nat} (hk : 17592186044420 < k) {h : X_Heap} (t : TH h) {i : Nat} (hi : i < h.length) (hv : VsOk h (hob h i)) : Tot (F77.u k (h, (i : Int))) := by
  have tO := t.ob i
  have h1 := tO.refs
  show Tot (F77.f (F120.u k) (F96.u k) k h (i : Int))
  rw [F77.f, F77.b, if_pos ⟨by omega, by omega⟩, Int.toNat_natCast, show h.getD i Z_Object = hob h i from rfl]
  exact tot_cond (tot_some _) (F77.l0_tot hk t tO h1 hv.bases _ k 0 [] rfl (by omega) (by omega) rfl (fun x hx => by cases hx))
/-! ### the built-in classes -/
def begL : List X_Object := [
  (9, ([111, 98, 106, 101, 99, 116], (0, ([], ([0], ([], ([], ([], (0, 0))))))))),
  (9, ([99, 108, 97, 115, 115], (0, ([0], ([1, 0], ([], ([], ([], (0, 0))))))))),
  (9, ([110, 105, 108, 95, 116, 121, 112, 101], (0, ([0], ([2, 0], ([], ([], ([], (0, 0))))))))),
  (9, ([98, 111, 111, 108], (0, ([0], ([3, 0], ([], ([], ([], (0, 0))))))))),
  (9, ([105, 110, 116], (0, ([0], ([4, 0], ([], ([], ([], (0, 0))))))))),
  (9, ([114, 97, 116, 105, 111], (0, ([0], ([5, 0], ([], ([], ([], (0, 0))))))))),
  (9, ([116, 101, 120, 116], (0, ([0], ([6, 0], ([], ([], ([], (0, 0))))))))),
  (9, ([98, 121, 116, 101, 115], (0, ([0], ([7, 0], ([], ([], ([], (0, 0))))))))),
  (9, ([116, 117, 112, 108, 101], (0, ([0], ([8, 0], ([], ([], ([], (0, 0))))))))),
  (9, ([108, 105, 115, 116], (0, ([0], ([9, 0], ([], ([], ([], (0, 0))))))))),
  (9, ([100, 105, 99, 116], (0, ([0], ([10, 0], ([], ([], ([], (0, 0))))))))),
  (9, ([115, 101, 116], (0, ([0], ([11, 0], ([], ([], ([], (0, 0))))))))),
  (9, ([114, 97, 110, 103, 101], (0, ([0], ([12, 0], ([], ([], ([], (0, 0))))))))),
  (9, ([99, 101, 108, 108], (0, ([0], ([13, 0], ([], ([], ([], (0, 0))))))))),
  (9, ([102, 117, 110, 99, 116, 105, 111, 110], (0, ([0], ([14, 0], ([], ([], ([], (0, 0))))))))),
  (9, ([98, 117, 105, 108, 116, 105, 110], (0, ([0], ([15, 0], ([], ([], ([], (0, 0))))))))),
  (9, ([109, 101, 116, 104, 111, 100], (0, ([0], ([16, 0], ([], ([], ([], (0, 0))))))))),
  (9, ([109, 111, 100, 117, 108, 101], (0, ([0], ([17, 0], ([], ([], ([], (0, 0))))))))),
  (9, ([112, 114, 111, 112, 101, 114, 116, 121], (0, ([0], ([18, 0], ([], ([], ([], (0, 0))))))))),
  (9, ([115, 116, 97, 116, 105, 99], (0, ([0], ([19, 0], ([], ([], ([], (0, 0))))))))),
  (9, ([99, 108, 97, 115, 115, 95, 109, 101, 116, 104, 111, 100], (0, ([0], ([20, 0], ([], ([], ([], (0, 0))))))))),
  (9, ([115, 117, 112, 101, 114, 95, 116, 121, 112, 101], (0, ([0], ([21, 0], ([], ([], ([], (0, 0))))))))),
  (9, ([105, 116, 101, 114, 97, 116, 111, 114], (0, ([0], ([22, 0], ([], ([], ([], (0, 0))))))))),
  (9, ([103, 101, 110, 101, 114, 97, 116, 111, 114], (0, ([0], ([23, 0], ([], ([], ([], (0, 0))))))))),
  (9, ([119, 101, 97, 107], (0, ([0], ([24, 0], ([], ([], ([], (0, 0))))))))),
  (9, ([116, 97, 115, 107], (0, ([0], ([25, 0], ([], ([], ([], (0, 0))))))))),
  (9, ([116, 105, 109, 101, 114], (0, ([0], ([26, 0], ([], ([], ([], (0, 0))))))))),
  (9, ([112, 97, 115, 115, 95, 116, 121, 112, 101], (0, ([0], ([27, 0], ([], ([], ([], (0, 0))))))))),
  (9, ([82, 97, 105, 115, 101, 100], (0, ([0], ([28, 0], ([], ([], ([], (0, 0))))))))),
  (9, ([69, 120, 105, 116], (0, ([28], ([29, 28, 0], ([], ([], ([], (0, 0))))))))),
  (9, ([67, 97, 110, 99, 101, 108], (0, ([28], ([30, 28, 0], ([], ([], ([], (0, 0))))))))),
  (9, ([69, 114, 114, 111, 114], (0, ([28], ([31, 28, 0], ([], ([], ([], (0, 0))))))))),
  (9, ([84, 121, 112, 101, 69, 114, 114, 111, 114], (0, ([31], ([32, 31, 28, 0], ([], ([], ([], (0, 0))))))))),
  (9, ([86, 97, 108, 117, 101, 69, 114, 114, 111, 114], (0, ([31], ([33, 31, 28, 0], ([], ([], ([], (0, 0))))))))),
  (9, ([78, 97, 109, 101, 69, 114, 114, 111, 114], (0, ([31], ([34, 31, 28, 0], ([], ([], ([], (0, 0))))))))),
  (9, ([85, 110, 98, 111, 117, 110, 100, 69, 114, 114, 111, 114], (0, ([34], ([35, 34, 31, 28, 0], ([], ([], ([], (0, 0))))))))),
  (9, ([65, 116, 116, 114, 105, 98, 117, 116, 101, 69, 114, 114, 111, 114], (0, ([31], ([36, 31, 28, 0], ([], ([], ([], (0, 0))))))))),
  (9, ([76, 111, 111, 107, 117, 112, 69, 114, 114, 111, 114], (0, ([31], ([37, 31, 28, 0], ([], ([], ([], (0, 0))))))))),
  (9, ([73, 110, 100, 101, 120, 69, 114, 114, 111, 114], (0, ([37], ([38, 37, 31, 28, 0], ([], ([], ([], (0, 0))))))))),
  (9, ([75, 101, 121, 69, 114, 114, 111, 114], (0, ([37], ([39, 37, 31, 28, 0], ([], ([], ([], (0, 0))))))))),
  (9, ([65, 114, 105, 116, 104, 109, 101, 116, 105, 99, 69, 114, 114, 111, 114], (0, ([31], ([40, 31, 28, 0], ([], ([], ([], (0, 0))))))))),
  (9, ([68, 105, 118, 105, 115, 105, 111, 110, 69, 114, 114, 111, 114], (0, ([40], ([41, 40, 31, 28, 0], ([], ([], ([], (0, 0))))))))),
  (9, ([76, 105, 109, 105, 116, 69, 114, 114, 111, 114], (0, ([31], ([42, 31, 28, 0], ([], ([], ([], (0, 0))))))))),
  (9, ([82, 101, 99, 117, 114, 115, 105, 111, 110, 69, 114, 114, 111, 114], (0, ([42], ([43, 42, 31, 28, 0], ([], ([], ([], (0, 0))))))))),
  (9, ([65, 115, 115, 101, 114, 116, 105, 111, 110, 69, 114, 114, 111, 114], (0, ([31], ([44, 31, 28, 0], ([], ([], ([], (0, 0))))))))),
  (9, ([73, 109, 112, 111, 114, 116, 69, 114, 114, 111, 114], (0, ([31], ([45, 31, 28, 0], ([], ([], ([], (0, 0))))))))),
  (9, ([83, 116, 111, 112, 69, 114, 114, 111, 114], (0, ([31], ([46, 31, 28, 0], ([], ([], ([], (0, 0))))))))),
  (9, ([83, 116, 97, 116, 101, 69, 114, 114, 111, 114], (0, ([31], ([47, 31, 28, 0], ([], ([], ([], (0, 0))))))))),
  (9, ([71, 114, 111, 117, 112, 69, 114, 114, 111, 114], (0, ([31], ([48, 31, 28, 0], ([], ([], ([], (0, 0)))))))))]
theorem begin_spec (n : Nat) : F70.u (n + 100) () = some begL := by kernel_rfl
theorem F70.spec {k : Nat} (hk : 100 < k) : F70.u k () = some begL := by
  obtain ⟨n, rfl⟩ : ∃ n, k = n + 100 := ⟨k - 100, by omega⟩
  exact begin_spec n
theorem begL_len : begL.length = 49 := rfl
/-! ### heaps -/
/-- what is known of a heap that passed, up tO a place -/
def HOk (h : X_Heap) (i : Nat) : Prop := ∀ j, j < i → j < h.length → (j < 49 → hob h j = begL.getD j Z_Object) ∧ (49 ≤ j → (0 ≤ (hob h j).1 ∧ (hob h j).1 < 21) ∧ Cnt (hob h j) ∧ VsOk h (hob h j))
/-- the last checks of an object, as they were answered -/
structure Raw (h : X_Heap) (j : Nat) : Prop where
  ex : ∃ k, BK k ∧ F72.u k (h, (j : Int)) = some 0 ∧ F73.u k (h, (j : Int)) = some 0 ∧ F75.u k (h, (j : Int)) = some true ∧ F76.u k (h, (j : Int)) = some 0 ∧ F77.u k (h, (j : Int)) = some true
def HRaw (h : X_Heap) (i : Nat) : Prop := ∀ j, j < i → j < h.length → 49 ≤ j → Raw h j
section
variable {k : Nat} {h : X_Heap} {P : Prop} {N : List X_Object → X_acceptRange → List X_Object → Int → Int → List X_Object → Int → Int → Option X_acceptRange}
theorem F24.l4_spec (hk : 0 < k) {x2 : X_acceptRange} {x3 : List X_Object} {x4 : Int} {i : Nat} (hi : i ≤ 3000000)
    (hN : ∀ a b, ∃ f, N h x2 x3 a b h (h.length : Int) ((i + 1 : Nat) : Int) = some f ∧ (f.1 = 0 → P)) {l : List X_Value} (hl : l.length ≤ 10000000) : ∀ (d n j : Nat) (x5 : Int), l.length - j = d → d < n → j ≤ l.length →
    ∃ f, F24.l4 (F69.u k) (F70.u k) (F49.u k) (F71.u k) (F72.u k) (F73.u k) (F74.u k) (F75.u k) (F76.u k) (F77.u k) (F78.u k) k N n h x2 x3 x4 x5 h (h.length : Int) (i : Int) l (l.length : Int) (j : Int) = some f ∧ (f.1 = 0 → P) := by
  intro d
  induction d with
  | zero =>
    intro n j x5 hd hn hj
    obtain ⟨n, rfl⟩ : ∃ m, n = m + 1 := ⟨n - 1, by omega⟩
    rw [F24.l4, F24.q_l4, F24.c_l4, decide_eq_false (by omega), cond_false, wrapN (by omega)]
    exact hN _ _
  | succ d ih =>
    intro n j x5 hd hn hj
    obtain ⟨n, rfl⟩ : ∃ m, n = m + 1 := ⟨n - 1, by omega⟩
    rw [F24.l4, F24.q_l4, F24.c_l4, decide_eq_true (by omega), cond_true, if_pos ⟨by omega, by omega⟩, wrapN (by omega)]
    exact ih n (j + 1) _ (by omega) (by omega) (by omega)
theorem at_spec {k : Nat} (a b : Int) : F69.u k (a, b) = some (a, b) := rfl
theorem F24.l2_spec (hk : BK k) (t : TH h) {x2 : X_acceptRange} {x3 : List X_Object} {x4 x5 : Int} {i : Nat} (hi : i < h.length)
    (hN : Cnt (hob h i) ∧ VsOk h (hob h i) → Raw h i → ∀ a b, ∃ f, N h x2 x3 a b h (h.length : Int) ((i + 1 : Nat) : Int) = some f ∧ (f.1 = 0 → P)) {l : List Int} (hl : l.length = 4)
    (hT : (∀ c ∈ l, c = 0) → (Cnt (hob h i) ∧ VsOk h (hob h i)) ∧ F72.u k (h, (i : Int)) = some 0 ∧ F73.u k (h, (i : Int)) = some 0) : ∀ (d n j : Nat), 4 - j = d → d < n → j ≤ 4 → (∀ c ∈ l.take j, c = 0) →
    ∃ f, F24.l2 (F69.u k) (F70.u k) (F49.u k) (F71.u k) (F72.u k) (F73.u k) (F74.u k) (F75.u k) (F76.u k) (F77.u k) (F78.u k) k N n h x2 x3 x4 x5 (i : Int) (hob h i) h (h.length : Int) (i : Int) l 4 (j : Int) = some f ∧ (f.1 = 0 → P) := by
  have hk1 := bkN hk (n := 17592186044420) (by omega)
  have hln := t.len
  intro d
  induction d with
  | zero =>
    intro n j hd hn hj hz
    obtain ⟨n, rfl⟩ : ∃ m, n = m + 1 := ⟨n - 1, by omega⟩
    rw [List.take_of_length_le (by omega)] at hz
    obtain ⟨⟨hc, hv⟩, s9, s10⟩ := hT hz
    have tO := t.ob i
    have h1 := tO.items
    have h2 := tO.keys
    obtain ⟨y13, e13⟩ := F75.tot (k := k) (by omega) t hi hc hv
    obtain ⟨y15, e15⟩ := F76.tot (k := k) (by omega) t hi
    obtain ⟨y17, e17⟩ := F77.tot (k := k) (by omega) t hi hv
    rw [F24.l2, F24.q_l2, F24.c_l2, decide_eq_false (by omega), cond_false, e13, Option.bind_some, e15, Option.bind_some, e17, Option.bind_some, F78.spec (by simp only [LIM]; omega), Option.bind_some, if_pos (by simp only [LIM]; omega), at_spec, at_spec, at_spec]
    cases y13 with
    | false => exact ⟨_, rfl, fun h => by cases h⟩
    | true =>
      rw [Bool.not_true, cond_false]
      cases hy : (y15 != 0) with
      | true => exact ⟨_, rfl, fun h => by rw [bne_iff_ne] at hy; exact absurd h hy⟩
      | false =>
        rw [cond_false]
        cases y17 with
        | false => exact ⟨_, rfl, fun h => by cases h⟩
        | true =>
          rw [Bool.not_true, cond_false]
          exact F24.l4_spec (by omega) (by omega) (hN ⟨hc, hv⟩ ⟨k, hk, s9, s10, e13, by rw [e15, show y15 = 0 by simpa using hy], e17⟩) (by rw [List.length_append]; omega) _ k 0 _ rfl (by rw [List.length_append]; omega) (by omega)
  | succ d ih =>
    intro n j hd hn hj hz
    obtain ⟨n, rfl⟩ : ∃ m, n = m + 1 := ⟨n - 1, by omega⟩
    have hlt : j < l.length := by omega
    rw [F24.l2, F24.q_l2, F24.c_l2, decide_eq_true (by omega), cond_true, if_pos ⟨by omega, by omega⟩, Nat.zero_add, Int.toNat_natCast, getD_of hlt, wrapN (by omega), at_spec, Option.bind_some]
    cases hy : (l[j] != 0) with
    | true => exact ⟨_, rfl, fun h => by rw [bne_iff_ne] at hy; exact absurd h hy⟩
    | false =>
      rw [cond_false]
      refine ih n (j + 1) (by omega) (by omega) (by omega) fun c hc => ?_
      rw [List.take_succ_eq_append_getElem hlt] at hc
      rcases List.mem_append.1 hc with hc | hc
      · exact hz c hc
      · rw [List.mem_singleton.1 hc]; simpa using hy
end
theorem F24.l0_spec {k : Nat} (hk : BK k) {h : X_Heap} (t : TH h) {x2 : X_acceptRange} : ∀ (d n i : Nat) (x4 x5 : Int), h.length - i = d → d < n → i ≤ h.length → HOk h i ∧ HRaw h i →
    ∃ f, F24.l0 (F69.u k) (F70.u k) (F49.u k) (F71.u k) (F72.u k) (F73.u k) (F74.u k) (F75.u k) (F76.u k) (F77.u k) (F78.u k) k n h x2 begL x4 x5 h (h.length : Int) (i : Int) = some f ∧ (f.1 = 0 → HOk h h.length ∧ HRaw h h.length) := by
  have hk1 := bkN hk (n := 17592186044420) (by omega)
  have hln := t.len
  intro d
  induction d with
  | zero =>
    intro n i x4 x5 hd hn hi hok
    obtain ⟨n, rfl⟩ : ∃ m, n = m + 1 := ⟨n - 1, by omega⟩
    obtain rfl : i = h.length := by omega
    rw [F24.l0, F24.b_l0, decide_eq_false (by omega), cond_false, at_spec, Option.bind_some]
    cases decide (x4 > 20000) with
    | true => exact ⟨_, rfl, fun _ => hok⟩
    | false =>
      cases decide (x5 > 200000) with
      | true => exact ⟨_, rfl, fun _ => hok⟩
      | false => exact ⟨_, rfl, fun _ => hok⟩
  | succ d ih =>
    intro n i x4 x5 hd hn hi hok
    obtain ⟨n, rfl⟩ : ∃ m, n = m + 1 := ⟨n - 1, by omega⟩
    have hlt : i < h.length := by omega
    have tO := t.ob i
    rw [F24.l0, F24.b_l0, decide_eq_true (by omega), cond_true, if_pos ⟨by omega, by omega⟩, Int.toNat_natCast, show h.getD i Z_Object = hob h i from rfl, begL_len]
    by_cases h49 : i < 49
    · rw [decide_eq_true (by omega), cond_true, if_pos ⟨by omega, by omega⟩]
      obtain ⟨r, hr, hr2⟩ := F49.spec (k := k) (by omega) (b := begL.getD i Z_Object) tO
      rw [hr, Option.bind_some, at_spec, Option.bind_some]
      cases r with
      | false => exact ⟨_, rfl, fun h => by cases h⟩
      | true =>
        rw [Bool.not_true, cond_false, wrapN (by omega)]
        refine ih n (i + 1) _ _ (by omega) (by omega) (by omega) ⟨fun j hj hjl => ?_, fun j hj hjl hj9 => hok.2 j (by omega) hjl hj9⟩
        by_cases e : j = i
        · subst e
          exact ⟨fun _ => hr2 rfl, fun h => by omega⟩
        · exact hok.1 j (by omega) hjl
    · rw [decide_eq_false (by omega), cond_false, at_spec]
      by_cases k0 : (hob h i).1 < 0
      · rw [decide_eq_true k0, cond_true]; exact ⟨_, rfl, fun h => by cases h⟩
      by_cases k21 : (hob h i).1 ≥ 21
      · rw [decide_eq_false k0, cond_false, decide_eq_true k21, cond_true]; exact ⟨_, rfl, fun h => by cases h⟩
      rw [decide_eq_false k0, cond_false, decide_eq_false k21, cond_false]
      obtain ⟨y8, e8, p8⟩ := F71.spec (k := k) (by omega) hlt (by omega) (by omega)
      obtain ⟨y9, e9⟩ := F72.tot hk t hlt (by omega) (by omega)
      obtain ⟨y10, e10⟩ := F73.tot (k := k) (by omega) t hlt
      obtain ⟨y11, e11, p11⟩ := F74.spec hk t hlt
      rw [e8, Option.bind_some, e9, Option.bind_some, e10, Option.bind_some, e11, Option.bind_some]
      have hT : (∀ c ∈ [y8, y9, y10, y11], c = 0) → (Cnt (hob h i) ∧ VsOk h (hob h i)) ∧ F72.u k (h, (i : Int)) = some 0 ∧ F73.u k (h, (i : Int)) = some 0 := fun hz => ⟨⟨p8 (hz _ (by simp)), p11 (hz _ (by simp))⟩, by rw [e9, hz y9 (by simp)], by rw [e10, hz y10 (by simp)]⟩
      have key : ∀ (hcv : Cnt (hob h i) ∧ VsOk h (hob h i)) (hraw : Raw h i) (a b : Int), ∃ f, F24.l0 (F69.u k) (F70.u k) (F49.u k) (F71.u k) (F72.u k) (F73.u k) (F74.u k) (F75.u k) (F76.u k) (F77.u k) (F78.u k) k n h x2 begL a b h (h.length : Int) ((i + 1 : Nat) : Int) = some f ∧ (f.1 = 0 → HOk h h.length ∧ HRaw h h.length) := by
        intro hcv hraw a b
        refine ih n (i + 1) _ _ (by omega) (by omega) (by omega) ⟨fun j hj hjl => ?_, fun j hj hjl hj9 => ?_⟩
        · by_cases e : j = i
          · subst e
            exact ⟨fun h => by omega, fun _ => ⟨⟨by omega, by omega⟩, hcv⟩⟩
          · exact hok.1 j (by omega) hjl
        · by_cases e : j = i
          · subst e
            exact hraw
          · exact hok.2 j (by omega) hjl hj9
      exact F24.l2_spec (N := fun x1 x2 x3 x4 x5 x25 x26 x27 => F24.l0 (F69.u k) (F70.u k) (F49.u k) (F71.u k) (F72.u k) (F73.u k) (F74.u k) (F75.u k) (F76.u k) (F77.u k) (F78.u k) k n x1 x2 x3 x4 x5 x25 x26 x27) hk t hlt key (l := [y8, y9, y10, y11]) rfl hT 4 k 0 rfl (by omega) (by omega) (fun c hc => by cases hc)
theorem F24.spec {k : Nat} (hk : BK k) {h : X_Heap} (t : TH h) : ∃ f, F24.u k h = some f ∧ (f.1 = 0 → (HOk h h.length ∧ HRaw h h.length) ∧ 49 ≤ h.length ∧ h.length ≤ 5000) := by
  have hk1 := bkN hk (n := 17592186044420) (by omega)
  have hln := t.len
  show ∃ f, F24.f (F69.u k) (F70.u k) (F49.u k) (F71.u k) (F72.u k) (F73.u k) (F74.u k) (F75.u k) (F76.u k) (F77.u k) (F78.u k) k h = some f ∧ _
  rw [F24.f, F24.b, at_spec, at_spec, F70.spec (by omega), Option.bind_some]
  cases h5 : decide ((h.length : Int) > 5000) with
  | true => exact ⟨_, rfl, fun h => by cases h⟩
  | false =>
    rw [decide_eq_false_iff_not] at h5
    by_cases hlow : (h.length : Int) < 49
    · rw [decide_eq_true hlow]
      exact ⟨_, rfl, fun h => by cases h⟩
    · rw [decide_eq_false hlow]
      obtain ⟨f, hf, hf2⟩ := F24.l0_spec hk t (x2 := (0, 0)) _ k 0 0 0 rfl (by omega) (by omega) ⟨fun j hj => by omega, fun j hj => by omega⟩
      exact ⟨f, hf, fun h0 => ⟨hf2 h0, by omega, by omega⟩⟩
theorem valueOk_kind {k : Nat} (hk : BK k) {v : X_Value} (hv : TV v) (h : F79.u k v = some true) : 0 ≤ v.1 ∧ v.1 ≤ 8 := by
  have hk1 := bkN hk (n := 3000000) (by omega)
  have := hv.numL
  have := hv.denL
  by_cases hc : 0 ≤ v.1 ∧ v.1 ≤ 8
  · exact hc
  · have h' : F79.f (F58.u k) (F121.u k) (F122.u k) (F123.u k) (F111.u k) k v = some true := h
    rw [F79.f, F79.b, F58.spec (by omega) (by omega), Option.bind_some, F58.spec (by omega) (by omega), Option.bind_some] at h'
    rw [show (v.1 == 0) = false by simp; omega, show (v.1 == 1) = false by simp; omega, show (v.1 == 2) = false by simp; omega, show (v.1 == 3) = false by simp; omega, show (v.1 == 4) = false by simp; omega, show (v.1 == 5) = false by simp; omega, show (v.1 == 6) = false by simp; omega, show (v.1 == 7) = false by simp; omega, show (v.1 == 8) = false by simp; omega] at h'
    cases h'
/-- what is known of a value handed in with a heap that passed -/
structure VH (h : X_Heap) (v : X_Value) : Prop where
  good : VG v
  ok : VOk v
  ref : v.1 = 6 → isO h v.2.2.2.2 = true
  kind : 0 ≤ v.1 ∧ v.1 ≤ 8
theorem F25.spec {k : Nat} (hk : BK k) {h : X_Heap} {v : X_Value} (tv : TV v) : ∃ b, F25.u k (h, v) = some b ∧ (b = true → VH h v) := by
  obtain ⟨b, hb, hb2⟩ := F79.spec hk tv
  show ∃ b, F25.f (F79.u k) (F21.u k) k h v = some b ∧ _
  rw [F25.f, F25.b, hb, Option.bind_some, F21.spec, Option.bind_some]
  cases b with
  | false => exact ⟨_, rfl, fun h => by cases h⟩
  | true =>
    rw [cond_true]
    by_cases h6 : v.1 = 6
    · rw [show (v.1 != 6) = false by simpa using h6, cond_false]
      exact ⟨_, rfl, fun h => ⟨(vg_of hk tv hb).1, hb2 rfl, fun _ => h, valueOk_kind hk tv hb⟩⟩
    · rw [show (v.1 != 6) = true by simpa using h6, cond_true]
      exact ⟨_, rfl, fun h => ⟨(vg_of hk tv hb).1, hb2 rfl, fun h => absurd h h6, valueOk_kind hk tv hb⟩⟩
theorem F5.l0_spec {k : Nat} (hk : BK k) {h : X_Heap} {l : List X_Value} (hl : l.length ≤ 1000) (hv : ∀ v ∈ l, TV v) : ∀ (d n i : Nat), l.length - i = d → d < n → i ≤ l.length →
    ∃ b, F5.l0 (F24.u k) (F25.u k) k n h l (l.length : Int) (i : Int) = some b ∧ (b = true → ∀ v ∈ l.drop i, VH h v) := by
  intro d
  induction d with
  | zero =>
    intro n i hd hn hi
    obtain ⟨n, rfl⟩ : ∃ m, n = m + 1 := ⟨n - 1, by omega⟩
    rw [F5.l0, F5.b_l0, decide_eq_false (by omega), cond_false, List.drop_of_length_le (by omega)]
    exact ⟨_, rfl, fun _ v hv => by cases hv⟩
  | succ d ih =>
    intro n i hd hn hi
    obtain ⟨n, rfl⟩ : ∃ m, n = m + 1 := ⟨n - 1, by omega⟩
    have hlt : i < l.length := by omega
    obtain ⟨b, hb, hb2⟩ := F25.spec hk (h := h) (hv _ (List.getElem_mem hlt))
    rw [F5.l0, F5.b_l0, decide_eq_true (by omega), cond_true, if_pos ⟨by omega, by omega⟩, Int.toNat_natCast, getD_of hlt, hb, Option.bind_some, wrapN (by omega), drop_cons hlt]
    cases b with
    | false => exact ⟨_, rfl, fun h => by cases h⟩
    | true =>
      obtain ⟨c, hc, hc2⟩ := ih n (i + 1) (by omega) (by omega) (by omega)
      refine ⟨c, hc, fun h1 v hm => ?_⟩
      rcases List.mem_cons.1 hm with rfl | hm
      · exact hb2 rfl
      · exact hc2 h1 v hm
/-- a heap that passed -/
structure HP (h : X_Heap) : Prop where
  t : TH h
  ok : HOk h h.length
  low : 49 ≤ h.length
  raw : HRaw h h.length
  top : h.length ≤ 5000
theorem F5.spec {k : Nat} (hk : BK k) {h : X_Heap} (t : TH h) {l : List X_Value} (hl : l.length ≤ 1000) (hv : ∀ v ∈ l, TV v) : ∃ b, F5.u k (h, l) = some b ∧ (b = true → HP h ∧ ∀ v ∈ l, VH h v) := by
  have hk1 := bkN hk (n := 17592186044420) (by omega)
  obtain ⟨f, hf, hf2⟩ := F24.spec hk t
  show ∃ b, F5.f (F24.u k) (F25.u k) k h l = some b ∧ _
  rw [F5.f, F5.b, hf, Option.bind_some]
  cases hc : (f.1 != 0) with
  | true => exact ⟨_, rfl, fun h => by cases h⟩
  | false =>
    obtain ⟨b, hb, hb2⟩ := F5.l0_spec hk (h := h) hl hv _ k 0 rfl (by omega) (by omega)
    rw [List.drop_zero] at hb2
    obtain ⟨⟨q1, q2⟩, q3, q4⟩ := hf2 (by simpa using hc)
    exact ⟨b, hb, fun h1 => ⟨⟨t, q1, q3, q2, q4⟩, hb2 h1⟩⟩
end Go.Ab
