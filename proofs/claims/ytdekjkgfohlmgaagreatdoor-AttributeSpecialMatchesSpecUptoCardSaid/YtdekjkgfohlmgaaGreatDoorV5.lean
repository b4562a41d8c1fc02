/- What the checks of objects answer: links answer. -/
import Derived.Test.YtdekjkgfohlmgaaGreatDoorV4
namespace Go.Ab
set_option linter.unusedVariables false
set_option linter.unusedSimpArgs false
theorem tot_if {α : Type} {c : Bool} {x y : Option α} (hx : c = true → Tot x) (hy : c = false → Tot y) : Tot (bif c then x else y) := by
  cases c with
  | true => exact hx rfl
  | false => exact hy rfl
theorem F113.tot {k : Nat} (hk : 3000000 < k) {o : X_Object} (t : TO o) (h3 : o.2.2.2.2.2.2.1.length = 3) : Tot (F113.u k o) := by
  show Tot (F113.f  k o)
  rw [F113.f, F113.b]
  have key : ∀ (d n i : Nat), 3 - i = d → d < n → i ≤ 3 → Tot (F113.l0  k n o o.2.2.2.2.2.2.1 (o.2.2.2.2.2.2.1.length : Int) (i : Int)) := by
    intro d
    induction d with
    | zero =>
      intro n i hd hn hi
      obtain ⟨n, rfl⟩ : ∃ m, n = m + 1 := ⟨n - 1, by omega⟩
      rw [F113.l0, F113.b_l0, decide_eq_false (by omega), cond_false, if_pos ⟨by omega, by omega⟩]
      exact tot_some _
    | succ d ih =>
      intro n i hd hn hi
      obtain ⟨n, rfl⟩ : ∃ m, n = m + 1 := ⟨n - 1, by omega⟩
      rw [F113.l0, F113.b_l0, decide_eq_true (by omega), cond_true, if_pos ⟨by omega, by omega⟩, wrapN (by omega)]
      exact tot_cond (tot_some _) (tot_cond (tot_some _) (ih n (i + 1) (by omega) (by omega) (by omega)))
  exact key 3 k 0 rfl (by omega) (by omega)
theorem F56.tot {k : Nat} (h : X_Heap) (v : X_Value) : Tot (F56.u k (h, v)) := by
  show Tot (F56.f (F54.u k) k h v)
  rw [F56.f, F56.b, F54.spec]
  exact tot_cond (tot_some _) (tot_some _)
theorem F114.spec {k : Nat} {h : X_Heap} {n : Int} (h0 : 0 ≤ n) (h1 : n < (h.length : Int)) : F114.u k (h, n) = some ((hob h n.toNat).1 == 9) := by
  show F114.f  k h n = _
  rw [F114.f, F114.b, if_pos ⟨h0, h1⟩]
  rfl
theorem F115.tot {k : Nat} (n : Int) : Tot (F115.u k n) := by
  show Tot (F115.f  k n)
  rw [F115.f, F115.b]
  exact tot_cond (tot_some _) (tot_some _)
/-- an instance of a class of exceptions -/
def excV (h : X_Heap) (v : X_Value) : Bool := (objV h v).1 == 10 && (isO h (objV h v).2.2.1 && (hob h (objV h v).2.2.1.toNat).2.2.2.2.1.any fun y => 28 == y)
theorem F155.spec {k : Nat} (hk : 3000000 < k) {h : X_Heap} (t : TH h) {v : X_Value} : F155.u k (h, v) = some (excV h v) := by
  show F155.f (F54.u k) (F21.u k) (F116.u k) k h v = _
  rw [F155.f, F155.b, F54.spec, Option.bind_some, F21.spec, Option.bind_some]
  unfold excV
  cases ((objV h v).1 == 10) with
  | false => rfl
  | true =>
    cases hi : isO h (objV h v).2.2.1 with
    | false => rfl
    | true =>
      obtain ⟨h1, h2, _⟩ := isO_lt hi
      have := (t.ob (objV h v).2.2.1.toNat).order
      rw [cond_true, cond_true, if_pos ⟨h1, h2⟩, show h.getD (objV h v).2.2.1.toNat Z_Object = hob h (objV h v).2.2.1.toNat from rfl, F116.spec (by omega) (by omega)]
      rfl
theorem F117.l4_tot {k : Nat} (hk : 3000000 < k) {h : X_Heap} (t : TH h) {x1 : Int} {x8 x15 : X_Object} {l : List X_Value} (hl : l.length ≤ 2000000) : ∀ (d n i : Nat), l.length - i = d → d < n → i ≤ l.length → Tot (F117.l4 (F116.u k) (F16.u k) (F54.u k) (F155.u k) k n x1 h x8 x15 l (l.length : Int) (i : Int)) := by
  intro d
  induction d with
  | zero =>
    intro n i hd hn hi
    obtain ⟨n, rfl⟩ : ∃ m, n = m + 1 := ⟨n - 1, by omega⟩
    rw [F117.l4, F117.b_l4, decide_eq_false (by omega), cond_false]
    repeat' apply tot_cond
    all_goals exact tot_some _
  | succ d ih =>
    intro n i hd hn hi
    obtain ⟨n, rfl⟩ : ∃ m, n = m + 1 := ⟨n - 1, by omega⟩
    rw [F117.l4, F117.b_l4, decide_eq_true (by omega), cond_true, if_pos ⟨by omega, by omega⟩, F155.spec hk t, Option.bind_some, wrapN (by omega)]
    exact tot_cond (tot_some _) (tot_cond (tot_some _) (ih n (i + 1) (by omega) (by omega) (by omega)))
theorem F117.l2_tot {k : Nat} (hk : 3000000 < k) {h : X_Heap} (t : TH h) {x1 : Int} {o x8 : X_Object} {g : Bool} (hg : g = true → 4 < o.2.2.2.2.2.2.1.length) {l : List X_Value} (hl : l.length ≤ 2000000) : ∀ (d n i : Nat), l.length - i = d → d < n → i ≤ l.length → Tot (F117.l2 (F116.u k) (F16.u k) (F54.u k) (F155.u k) k n x1 h o g x8 l (l.length : Int) (i : Int)) := by
  intro d
  induction d with
  | zero =>
    intro n i hd hn hi
    obtain ⟨n, rfl⟩ : ∃ m, n = m + 1 := ⟨n - 1, by omega⟩
    rw [F117.l2, F117.q_l2, F117.c_l2, decide_eq_false (by omega), cond_false]
    refine tot_if (fun _ => tot_some _) fun hf => ?_
    have h4 := hg (by simpa using hf)
    rw [if_pos ⟨by omega, by omega⟩, F54.spec, Option.bind_some]
    have := (t.objV (o.2.2.2.2.2.2.1.getD (Int.toNat 4) Z_Value)).items
    exact F117.l4_tot hk t this _ k 0 rfl (by omega) (by omega)
  | succ d ih =>
    intro n i hd hn hi
    obtain ⟨n, rfl⟩ : ∃ m, n = m + 1 := ⟨n - 1, by omega⟩
    rw [F117.l2, F117.q_l2, F117.c_l2, decide_eq_true (by omega), cond_true, if_pos ⟨by omega, by omega⟩, F54.spec, Option.bind_some, wrapN (by omega)]
    refine tot_cond (tot_some _) (tot_if (fun _ => tot_some _) fun hf => ?_)
    have h2 : (objV h (l.getD (Int.toNat (i : Int)) Z_Value)).2.2.2.2.2.2.1.length = 2 := by
      have : ((objV h (l.getD (Int.toNat (i : Int)) Z_Value)).2.2.2.2.2.2.1.length : Int) = 2 := by simpa using hf
      omega
    rw [h2, if_pos (by omega), if_pos (by omega)]
    exact tot_cond (tot_some _) (tot_cond (tot_some _) (ih n (i + 1) (by omega) (by omega) (by omega)))
theorem F117.l0_tot {k : Nat} (hk : 3000000 < k) {h : X_Heap} (t : TH h) {x1 : Int} {o x8 x9 : X_Object} (t9 : TO x9) {g : Bool} (hg : g = true → 4 < o.2.2.2.2.2.2.1.length) {l : List X_Value} (hl : l.length ≤ 2000000) : ∀ (d n i : Nat), l.length - i = d → d < n → i ≤ l.length → Tot (F117.l0 (F116.u k) (F16.u k) (F54.u k) (F155.u k) k n x1 h o g x8 x9 l (l.length : Int) (i : Int)) := by
  intro d
  induction d with
  | zero =>
    intro n i hd hn hi
    obtain ⟨n, rfl⟩ : ∃ m, n = m + 1 := ⟨n - 1, by omega⟩
    rw [F117.l0, F117.b_l0, decide_eq_false (by omega), cond_false]
    have h9 := t9.items
    exact tot_cond (tot_some _) (tot_cond (tot_some _) (F117.l2_tot hk t hg h9 _ k 0 rfl (by omega) (by omega)))
  | succ d ih =>
    intro n i hd hn hi
    obtain ⟨n, rfl⟩ : ∃ m, n = m + 1 := ⟨n - 1, by omega⟩
    have := ih n (i + 1) (by omega) (by omega) (by omega)
    rw [F117.l0, F117.b_l0, decide_eq_true (by omega), cond_true, if_pos ⟨by omega, by omega⟩, F155.spec hk t, Option.bind_some, wrapN (by omega)]
    exact tot_cond (tot_cond (tot_some _) this) this
theorem F117.g6_tot {k : Nat} (hk : 3000000 < k) {h : X_Heap} (t : TH h) {x1 : Int} {o : X_Object} (tO : TO o) (hn : o.2.2.2.2.2.2.1.length = o.2.2.2.2.2.1.length) {w : List (List UInt8)} (hw : 4 ≤ w.length) {g : Bool} (hg : g = true → 5 ≤ w.length) : Tot (F117.g6 (F116.u k) (F16.u k) (F54.u k) (F155.u k) k x1 h o w g) := by
  have h1 := tO.names
  rw [F117.g6, gate_pos (by omega), F117.q_g6, F117.c_g6]
  refine tot_if (fun _ => tot_some _) fun hf => ?_
  have hle : w.length ≤ o.2.2.2.2.2.1.length := by
    have := of_decide_eq_false hf
    omega
  rw [if_pos ⟨by omega, by omega⟩, F16.spec (by rw [List.length_take]; omega) (by rw [List.length_take]; omega), Option.bind_some]
  refine tot_cond (tot_some _) ?_
  rw [if_pos (by omega), F54.spec, Option.bind_some, if_pos ⟨by omega, by omega⟩, F54.spec, Option.bind_some, if_pos ⟨by omega, by omega⟩]
  have hd : (List.drop (Int.toNat 1) (List.take (Int.toNat 3) o.2.2.2.2.2.2.1)).length ≤ 2000000 := by
    rw [List.length_drop, List.length_take]; have := tO.items; omega
  exact F117.l0_tot hk t (t.objV _) (fun h => by have := hg h; omega) hd _ k 0 rfl (by omega) (by omega)
theorem F117.tot {k : Nat} (hk : 3000000 < k) {h : X_Heap} (t : TH h) {i : Nat} (hi : i < h.length) (hc : isO h (hob h i).2.2.1 = true) (hn : (hob h i).2.2.2.2.2.2.1.length = (hob h i).2.2.2.2.2.1.length) : Tot (F117.u k (h, (i : Int))) := by
  show Tot (F117.f (F116.u k) (F16.u k) (F54.u k) (F155.u k) k h (i : Int))
  obtain ⟨c1, c2, _⟩ := isO_lt hc
  have ho := (t.ob (hob h i).2.2.1.toNat).order
  rw [F117.f, F117.q, F117.c, if_pos ⟨by omega, by omega⟩, Int.toNat_natCast, show h.getD i Z_Object = hob h i from rfl, if_pos ⟨c1, c2⟩, show h.getD (hob h i).2.2.1.toNat Z_Object = hob h (hob h i).2.2.1.toNat from rfl, F116.spec (by omega) (by omega), Option.bind_some]
  refine tot_if (fun hb => ?_) fun hb => ?_
  · rw [if_pos ⟨by simp, by simp [LIM]⟩]
    exact F117.g6_tot hk t (t.ob i) hn (by simp) (fun _ => by simp)
  · rw [hb]
    exact F117.g6_tot hk t (t.ob i) hn (by simp) (fun h => by cases h)
theorem F75.l1_tot {k : Nat} (hk : 3000000 < k) {h : X_Heap} {o : X_Object} {l : List Int} (hl : l.length ≤ 2000000) (hr : ∀ m ∈ l, isO h m = true) (hc : isO h o.2.2.1 = true) : ∀ (d n i : Nat), l.length - i = d → d < n → i ≤ l.length → Tot (F75.l1 (F113.u k) (F56.u k) (F114.u k) (F115.u k) (F116.u k) (F117.u k) (F54.u k) (F21.u k) k n h o l (l.length : Int) (i : Int)) := by
  intro d
  induction d with
  | zero =>
    intro n i hd hn hi
    obtain ⟨n, rfl⟩ : ∃ m, n = m + 1 := ⟨n - 1, by omega⟩
    obtain ⟨c1, c2, _⟩ := isO_lt hc
    rw [F75.l1, F75.b_l1, decide_eq_false (by omega), cond_false, if_pos ⟨c1, c2⟩]
    exact tot_some _
  | succ d ih =>
    intro n i hd hn hi
    obtain ⟨n, rfl⟩ : ∃ m, n = m + 1 := ⟨n - 1, by omega⟩
    have hlt : i < l.length := by omega
    obtain ⟨c1, c2, _⟩ := isO_lt (hr _ (List.getElem_mem hlt))
    rw [F75.l1, F75.b_l1, decide_eq_true (by omega), cond_true, if_pos ⟨by omega, by omega⟩, Int.toNat_natCast, getD_of hlt, if_pos ⟨c1, c2⟩, wrapN (by omega)]
    exact tot_cond (tot_some _) (ih n (i + 1) (by omega) (by omega) (by omega))
theorem F75.l3_tot {k : Nat} (hk : 3000000 < k) {h : X_Heap} {x1 : Int} {o : X_Object} {l : List Int} (hl : l.length ≤ 2000000) (hr : ∀ m ∈ l, isO h m = true) : ∀ (d n i : Nat), l.length - i = d → d < n → i ≤ l.length → Tot (F75.l3 (F113.u k) (F56.u k) (F114.u k) (F115.u k) (F116.u k) (F117.u k) (F54.u k) (F21.u k) k n x1 h o l (l.length : Int) (i : Int)) := by
  intro d
  induction d with
  | zero =>
    intro n i hd hn hi
    obtain ⟨n, rfl⟩ : ∃ m, n = m + 1 := ⟨n - 1, by omega⟩
    rw [F75.l3, F75.b_l3, decide_eq_false (by omega), cond_false]
    exact tot_cond (tot_some _) (tot_some _)
  | succ d ih =>
    intro n i hd hn hi
    obtain ⟨n, rfl⟩ : ∃ m, n = m + 1 := ⟨n - 1, by omega⟩
    have hlt : i < l.length := by omega
    obtain ⟨c1, c2, _⟩ := isO_lt (hr _ (List.getElem_mem hlt))
    rw [F75.l3, F75.b_l3, decide_eq_true (by omega), cond_true, if_pos ⟨by omega, by omega⟩, Int.toNat_natCast, getD_of hlt, F114.spec c1 c2, Option.bind_some, wrapN (by omega)]
    exact tot_cond (tot_some _) (tot_cond (tot_some _) (tot_bind (F115.tot _) fun _ _ => tot_cond (tot_some _) (ih n (i + 1) (by omega) (by omega) (by omega))))
theorem F75.tot {k : Nat} (hk : 3000000 < k) {h : X_Heap} (t : TH h) {i : Nat} (hi : i < h.length) (hc : Cnt (hob h i)) (hv : VsOk h (hob h i)) : Tot (F75.u k (h, (i : Int))) := by
  have tO := t.ob i
  obtain ⟨c1, c2, _⟩ := isO_lt hv.cls
  show Tot (F75.f (F113.u k) (F56.u k) (F114.u k) (F115.u k) (F116.u k) (F117.u k) (F54.u k) (F21.u k) k h (i : Int))
  generalize ho : hob h i = o at *
  have g15 : o.1 = 8 ∨ o.1 = 14 → Tot (F75.g15 (F113.u k) (F56.u k) (F114.u k) (F115.u k) (F116.u k) (F117.u k) (F54.u k) (F21.u k) k h o) := fun hk2 => by
    have hp : 0 < o.2.2.2.2.2.2.1.length := by
      rcases hk2 with h | h
      · rw [hc.two (.inl h)]; omega
      · rw [hc.one (.inr (.inr (.inl h)))]; omega
    rw [F75.g15, gate_pos (by omega), F75.q_g15, F75.c_g15, if_pos (by omega)]
    exact tot_bind (F56.tot _ _) fun _ _ => tot_some _
  have g35 : ∀ x n, Tot (F75.g35 (F113.u k) (F56.u k) (F114.u k) (F115.u k) (F116.u k) (F117.u k) (F54.u k) (F21.u k) k h x n) := fun x n => by
    rw [F75.g35, gate_pos (by omega), F75.b_g35, F54.spec, Option.bind_some, F21.spec, Option.bind_some]
    refine tot_cond (tot_if (fun hi => ?_) fun _ => tot_some _) (tot_some _)
    obtain ⟨d1, d2, _⟩ := isO_lt hi
    have := (t.ob n.toNat).order
    rw [if_pos ⟨d1, d2⟩, show h.getD n.toNat Z_Object = hob h n.toNat from rfl, F116.spec (by omega) (by omega)]
    exact tot_some _
  have g27 : o.1 = 15 → Tot (F75.g27 (F113.u k) (F56.u k) (F114.u k) (F115.u k) (F116.u k) (F117.u k) (F54.u k) (F21.u k) k h o) := fun hk2 => by
    have h2 := hc.two (.inr (.inl hk2))
    rw [F75.g27, gate_pos (by omega), F75.q_g27, F75.c_g27, if_pos (by omega), if_pos (by omega), F54.spec, Option.bind_some]
    exact tot_cond (g35 _ _) (tot_cond (g35 _ _) (tot_some _))
  have g25 : o.1 = 10 → Tot (F75.g25 (F113.u k) (F56.u k) (F114.u k) (F115.u k) (F116.u k) (F117.u k) (F54.u k) (F21.u k) k (i : Int) h o) := fun hk2 => by
    have hx : Tot (F117.u k (h, (i : Int))) := F117.tot hk t hi (by rw [ho]; exact hv.cls) (by rw [ho]; exact hc.named (.inr (.inl hk2)))
    have := (t.ob o.2.2.1.toNat).order
    rw [F75.g25, gate_pos (by omega), F75.b_g25, F114.spec c1 c2, Option.bind_some, if_pos ⟨c1, c2⟩, show h.getD o.2.2.1.toNat Z_Object = hob h o.2.2.1.toNat from rfl, F116.spec (by omega) (by omega), Option.bind_some]
    exact tot_cond (tot_bind (F115.tot _) fun _ _ => tot_cond (tot_cond (tot_some _) (tot_bind hx fun _ _ => tot_some _)) (tot_some _)) (tot_some _)
  have g37 : o.1 = 16 → Tot (F75.g37 (F113.u k) (F56.u k) (F114.u k) (F115.u k) (F116.u k) (F117.u k) (F54.u k) (F21.u k) k h o) := fun hk2 => by
    have h2 := hc.two (.inr (.inr (.inl hk2)))
    have g42 : Tot (F75.g42 (F113.u k) (F56.u k) (F114.u k) (F115.u k) (F116.u k) (F117.u k) (F54.u k) (F21.u k) k o) := by
      rw [F75.g42, gate_pos (by omega), F75.q_g42, F75.c_g42, if_pos (by omega), if_pos (by omega)]
      exact tot_cond (tot_some _) (tot_some _)
    have g44 : Tot (F75.g44 (F113.u k) (F56.u k) (F114.u k) (F115.u k) (F116.u k) (F117.u k) (F54.u k) (F21.u k) k o) := by
      rw [F75.g44, gate_pos (by omega), F75.q_g44, F75.c_g44, if_pos (by omega), if_pos (by omega), if_pos (by omega)]
      exact tot_cond (tot_some _) (tot_cond (tot_some _) (tot_some _))
    have g39 : ∀ x, Tot (F75.g39 (F113.u k) (F56.u k) (F114.u k) (F115.u k) (F116.u k) (F117.u k) (F54.u k) (F21.u k) k o x) := fun x => by
      rw [F75.g39, gate_pos (by omega), F75.q_g39, F75.c_g39, if_pos (by omega)]
      exact tot_cond (tot_some _) (tot_cond (tot_some _) (tot_cond (tot_some _) (tot_some _)))
    rw [F75.g37, gate_pos (by omega), F75.q_g37, F75.c_g37, if_pos (by omega), F54.spec, Option.bind_some]
    repeat' apply tot_cond
    all_goals first | exact g42 | exact g44 | exact g39 _
  have g47 : o.1 = 18 → o.2.2.2.2.2.2.2.2.2 > 0 → Tot (F75.g47 (F113.u k) (F56.u k) (F114.u k) (F115.u k) (F116.u k) (F117.u k) (F54.u k) (F21.u k) k h o) := fun hk2 hs => by
    obtain ⟨d1, d2, _⟩ := isO_lt (hv.weak hk2 (by omega))
    have := tO.stHi
    rw [F75.g47, gate_pos (by omega), F75.b_g47, wrapI (by omega) (by omega), if_pos ⟨d1, d2⟩]
    exact tot_cond (tot_some _) (tot_some _)
  have g50 : o.1 = 19 → Tot (F75.g50 (F113.u k) (F56.u k) (F114.u k) (F115.u k) (F116.u k) (F117.u k) (F54.u k) (F21.u k) k h o) := fun hk2 => by
    have h2 := hc.two (.inr (.inr (.inr hk2)))
    rw [F75.g50, gate_pos (by omega), F75.q_g50, F75.c_g50, if_pos (by omega), F54.spec]
    exact tot_some _
  have g52 : o.1 = 20 → Tot (F75.g52 (F113.u k) (F56.u k) (F114.u k) (F115.u k) (F116.u k) (F117.u k) (F54.u k) (F21.u k) k o) := fun hk2 => by
    have h2 := hc.one (.inr (.inr (.inr hk2)))
    rw [F75.g52, gate_pos (by omega), F75.q_g52, F75.c_g52, if_pos (by omega), if_pos (by omega)]
    exact tot_cond (tot_some _) (tot_some _)
  have hrl := tO.refs
  have l1 : Tot (F75.l1 (F113.u k) (F56.u k) (F114.u k) (F115.u k) (F116.u k) (F117.u k) (F54.u k) (F21.u k) k k h o o.2.2.2.1 (o.2.2.2.1.length : Int) 0) := F75.l1_tot hk hrl hv.bases hv.cls _ k 0 rfl (by omega) (by omega)
  have l3 : Tot (F75.l3 (F113.u k) (F56.u k) (F114.u k) (F115.u k) (F116.u k) (F117.u k) (F54.u k) (F21.u k) k k (i : Int) h o o.2.2.2.1 (o.2.2.2.1.length : Int) 0) := F75.l3_tot hk hrl hv.bases _ k 0 rfl (by omega) (by omega)
  rw [F75.f, F75.b, if_pos ⟨by omega, by omega⟩, Int.toNat_natCast, show h.getD i Z_Object = o from ho]
  have e : ∀ {x c : Int}, (x == c) = true → x = c := fun h => by simpa using h
  refine tot_if (fun h5 => tot_bind (F113.tot hk tO (hc.three (.inl (e h5)))) fun _ _ => tot_some _) fun _ => ?_
  refine tot_cond l1 ?_
  refine tot_if (fun h8 => ?_) fun _ => ?_
  · rw [h8, cond_true]; exact g15 (.inl (e h8))
  refine tot_if (fun h14 => g15 (.inr (e h14))) fun _ => ?_
  refine tot_cond l3 ?_
  refine tot_if (fun h10 => g25 (e h10)) fun _ => ?_
  refine tot_if (fun h15 => g27 (e h15)) fun _ => ?_
  refine tot_if (fun h16 => g37 (e h16)) fun _ => ?_
  refine tot_if (fun h18 => tot_if (fun hs => g47 (e h18) (of_decide_eq_true hs)) fun _ => tot_some _) fun _ => ?_
  refine tot_if (fun h19 => g50 (e h19)) fun _ => ?_
  exact tot_if (fun h20 => g52 (e h20)) fun _ => tot_some _
end Go.Ab
