/- Law 10: the law. -/
import Derived.Test.YtgbihmngjppomaaDoorV7
namespace Go.Ab
set_option linter.unusedVariables false
set_option linter.unusedSimpArgs false
/-! ### what a heap that passed tells of its items -/
theorem begL_plain : ∀ j, (begL.getD j Z_Object).2.2.2.2.2.2.1 = [] ∧ (begL.getD j Z_Object).2.2.2.2.2.2.2.1 = [] := by
  intro j
  by_cases hj : j < 49
  · have : ∀ j : Fin 49, (begL.getD j.1 Z_Object).2.2.2.2.2.2.1 = [] ∧ (begL.getD j.1 Z_Object).2.2.2.2.2.2.2.1 = [] := by decide
    exact this ⟨j, hj⟩
  · rw [show begL.getD j Z_Object = Z_Object by simp [List.getD, List.getElem?_eq_none (show begL.length ≤ j by rw [begL_len]; omega)]]
    exact ⟨rfl, rfl⟩
theorem HP.item {h : X_Heap} (p : HP h) {j : Nat} {v : X_Value} (hv : v ∈ (hob h j).2.2.2.2.2.2.1) : VG v ∧ (v.1 = 6 → isO h v.2.2.2.2 = true) := by
  by_cases hj : j < h.length
  · obtain ⟨h1, h2⟩ := p.ok j hj hj
    by_cases h49 : j < 49
    · rw [h1 h49, (begL_plain j).1] at hv; cases hv
    · obtain ⟨_, _, hvs⟩ := h2 (by omega)
      exact ⟨hvs.vals v (List.mem_append_right _ hv), hvs.refs v (List.mem_append_right _ hv)⟩
  · rw [show hob h j = Z_Object by unfold hob; simp [List.getD, List.getElem?_eq_none (show h.length ≤ j by omega)]] at hv
    cases hv
/-- a value that can be met within a heap that passed -/
structure VI (h : X_Heap) (v : X_Value) : Prop where
  tv : TV v
  good : VG v
  ref : v.1 = 6 → isO h v.2.2.2.2 = true
theorem HP.its {h : X_Heap} (p : HP h) {x v : X_Value} (hv : v ∈ its h x) : VI h v := by
  suffices hh : VG v ∧ (v.1 = 6 → isO h v.2.2.2.2 = true) from ⟨(p.t.its x).2 v hv, hh.1, hh.2⟩
  unfold Go.Ab.its objV at hv
  cases hc : (decide (x.1 = 6) && isO h x.2.2.2.2) with
  | true =>
    rw [hc, cond_true] at hv
    exact p.item hv
  | false =>
    rw [hc] at hv
    cases hv
theorem VH.vi {h : X_Heap} {v : X_Value} (hv : VH h v) (t : TV v) : VI h v := ⟨t, hv.good, hv.ref⟩
/-! ### package heap: parts -/
theorem f_heap_exists.spec {k : Nat} {h : X_Heap} {n : Int} : f_heap_exists.u k (h, n) = some (isO h n) := by
  show f_heap_exists.f  k h n = _
  rw [f_heap_exists.f, f_heap_exists.q, f_heap_exists.c]
  unfold isO
  by_cases h0 : 0 ≤ n
  · rw [decide_eq_true (show n ≥ 0 from h0), cond_true, Bool.true_and]
    by_cases h1 : n < (h.length : Int)
    · rw [decide_eq_true h1, cond_true, if_pos ⟨h0, h1⟩, Bool.true_and]; rfl
    · rw [decide_eq_false h1, cond_false, Bool.false_and]
  · rw [decide_eq_false (show ¬ n ≥ 0 from h0), cond_false, Bool.false_and]
/-- parts used of b -/
def pu (b : Nat) : Option Nat → Int
  | none => 0
  | some r => ((b - r : Nat) : Int)
theorem pu_zero {h : X_Heap} {b : Nat} {x : X_Value} : (pu b (pt h b [x]) == 0) = (pt h b [x]).isNone := by
  cases hp : pt h b [x] with
  | none => rfl
  | some r =>
    have := pt_le hp
    simp at this
    show (((b - r : Nat) : Int) == 0) = false
    rw [beq_eq_false_iff_ne]; omega
theorem f_heap_parts.l1_spec {k : Nat} {c : f_heap_parts.E} {h : X_Heap} {l : List X_Value} {b : Nat} (hb : b ≤ 1000) (hl : l.length ≤ 2000000)
    (hc : ∀ x ∈ l, ∀ r, r ≤ b → c (h, (x, (r : Int))) = some (pu r (pt h r [x]))) : ∀ (d n i r : Nat), l.length - i = d → d < n → i ≤ l.length → pt h b (l.take i) = some r →
      f_heap_parts.l1 (f_heap_exists.u k) c k n ((b + 1 : Nat) : Int) h ((b + 1 - r : Nat) : Int) l (l.length : Int) (i : Int) = some (match pt h b l with | none => 0 | some r => ((b + 1 - r : Nat) : Int)) := by
  intro d
  induction d with
  | zero =>
    intro n i r hd hn hi hr
    obtain ⟨n, rfl⟩ : ∃ m, n = m + 1 := ⟨n - 1, by omega⟩
    rw [List.take_of_length_le (by omega)] at hr
    rw [f_heap_parts.l1, f_heap_parts.q_l1, f_heap_parts.c_l1, decide_eq_false (by omega), cond_false, hr]
  | succ d ih =>
    intro n i r hd hn hi hr
    obtain ⟨n, rfl⟩ : ∃ m, n = m + 1 := ⟨n - 1, by omega⟩
    have hlt : i < l.length := by omega
    have hrle := pt_le hr
    have hsplit : l = l.take i ++ ([l[i]] ++ l.drop (i + 1)) := by
      rw [List.singleton_append, ← drop_cons hlt, List.take_append_drop]
    rw [f_heap_parts.l1, f_heap_parts.q_l1, f_heap_parts.c_l1, decide_eq_true (by omega), cond_true, if_pos ⟨by omega, by omega⟩, Int.toNat_natCast, getD_of hlt, wrapI (by omega) (by omega), show ((b + 1 : Nat) : Int) - ((b + 1 - r : Nat) : Int) = ((r : Nat) : Int) by omega, hc _ (List.getElem_mem hlt) r (by omega), Option.bind_some, pu_zero]
    cases hp : pt h r [l[i]] with
    | none =>
      have : pt h b l = none := by
        rw [hsplit, pt_append, hr, Option.bind_some, pt_append, hp]; rfl
      rw [this]
      rfl
    | some r' =>
      have hr' := pt_le hp
      simp at hr'
      have ht : pt h b (l.take (i + 1)) = some r' := by
        rw [List.take_succ_eq_append_getElem hlt, pt_append, hr, Option.bind_some, hp]
      rw [show (some r').isNone = false from rfl, cond_false, show pu r (some r') = ((r - r' : Nat) : Int) from rfl, wrapI (by omega) (by omega), wrapN (by omega), show ((b + 1 - r : Nat) : Int) + ((r - r' : Nat) : Int) = ((b + 1 - r' : Nat) : Int) by omega]
      exact ih n (i + 1) r' (by omega) (by omega) (by omega) ht
theorem objV_ref {h : X_Heap} {v : X_Value} (h6 : v.1 = 6) (hi : isO h v.2.2.2.2 = true) : objV h v = hob h v.2.2.2.2.toNat := by
  unfold objV
  rw [h6, hi]
  rfl
theorem objV_not {h : X_Heap} {v : X_Value} (h6 : v.1 ≠ 6) : objV h v = Z_Object := by
  unfold objV
  rw [decide_eq_false h6]
  rfl
theorem f_heap_parts.spec {h : X_Heap} (p : HP h) : ∀ (b k : Nat) (v : X_Value), VI h v → b ≤ 1000 → b + 3000000 < k → f_heap_parts.u k (h, (v, (b : Int))) = some (pu b (pt h b [v])) := by
  intro b
  induction b using Nat.strongRecOn with
  | _ b ih =>
    intro k v vi hb hk
    obtain ⟨k, rfl⟩ : ∃ m, k = m + 1 := ⟨k - 1, by omega⟩
    show f_heap_parts.f (f_heap_exists.u (k + 1)) (f_heap_parts.u k) (k + 1) h v (b : Int) = _
    rw [f_heap_parts.f, f_heap_parts.q, f_heap_parts.c]
    by_cases h9 : v.1 = 9
    · rw [h9, show ((9 : Int) == 9) = true from rfl, cond_true]
      have hbad : bad h v = true := by unfold bad; rw [h9]; rfl
      have : pt h b [v] = none := by
        cases b with
        | zero => exact pt_zero _ _ _
        | succ b => rw [pt_succ, hbad]; rfl
      rw [this]; rfl
    rw [show (v.1 == 9) = false by simpa using h9, cond_false]
    cases b with
    | zero => rw [pt_zero]; rfl
    | succ b =>
      rw [show ((((b + 1 : Nat) : Int)) == 0) = false by rw [beq_eq_false_iff_ne]; omega, cond_false, pt_succ]
      by_cases h6 : v.1 = 6
      · have hi := vi.ref h6
        obtain ⟨i1, i2, i3⟩ := isO_lt hi
        have ho := objV_ref h6 hi
        have hbv : bad h v = ((hob h v.2.2.2.2.toNat).1 == 2 || ((hob h v.2.2.2.2.toNat).1 == 3 || ((hob h v.2.2.2.2.toNat).1 == 4 || (hob h v.2.2.2.2.toNat).1 == 5))) := by
          unfold bad; rw [ho, show (v.1 == 9) = false by simpa using h9, Bool.false_or]
        have htv : tup h v = ((hob h v.2.2.2.2.toNat).1 == 1) := by unfold tup; rw [ho]
        have hit : its h v = (hob h v.2.2.2.2.toNat).2.2.2.2.2.2.1 := by unfold its; rw [ho]
        rw [h6, show ((6 : Int) != 6) = false from rfl, cond_false, f_heap_exists.spec, hi, Option.bind_some, Bool.not_true, cond_false, if_pos ⟨i1, i2⟩, show h.getD v.2.2.2.2.toNat Z_Object = hob h v.2.2.2.2.toNat from rfl, hbv, htv, ← hit]
        have hlen := (p.t.its v).1
        have loop : f_heap_parts.l1 (f_heap_exists.u (k + 1)) (f_heap_parts.u k) (k + 1) (k + 1) ((b + 1 : Nat) : Int) h 1 (its h v) ((its h v).length : Int) 0 = some (match pt h b (its h v) with | none => 0 | some r => ((b + 1 - r : Nat) : Int)) := by
          have := f_heap_parts.l1_spec (k := k + 1) (c := f_heap_parts.u k) (h := h) (l := its h v) (b := b) (by omega) hlen (fun x hx r hr => ih r (by omega) k x (p.its hx) (by omega) (by omega)) _ (k + 1) 0 b rfl (by omega) (by omega) (by rw [List.take_zero, pt_nil])
          rwa [show ((b + 1 - b : Nat) : Int) = 1 by omega] at this
        rw [loop, List.append_nil, pt_nil]
        have fin : (match pt h b (its h v) with | none => (0 : Int) | some r => ((b + 1 - r : Nat) : Int)) = pu (b + 1) (pt h b (its h v)) := by
          cases pt h b (its h v) <;> rfl
        rw [fin]
        have one : pu (b + 1) (some b) = 1 := by show ((b + 1 - b : Nat) : Int) = 1; omega
        by_cases e1 : (hob h v.2.2.2.2.toNat).1 = 1
        · rw [e1]; rfl
        by_cases e2 : (hob h v.2.2.2.2.toNat).1 = 2
        · rw [e2]; rfl
        by_cases e3 : (hob h v.2.2.2.2.toNat).1 = 3
        · rw [e3]; rfl
        by_cases e4 : (hob h v.2.2.2.2.toNat).1 = 4
        · rw [e4]; rfl
        by_cases e5 : (hob h v.2.2.2.2.toNat).1 = 5
        · rw [e5]; rfl
        rw [show ((hob h v.2.2.2.2.toNat).1 == 1) = false by simpa using e1, show ((hob h v.2.2.2.2.toNat).1 == 2) = false by simpa using e2, show ((hob h v.2.2.2.2.toNat).1 == 3) = false by simpa using e3, show ((hob h v.2.2.2.2.toNat).1 == 4) = false by simpa using e4, show ((hob h v.2.2.2.2.toNat).1 == 5) = false by simpa using e5]
        simp only [Bool.or_self, cond_false, one]
      · have ho := objV_not (h := h) h6
        have hbv : bad h v = false := by
          unfold bad; rw [ho, show (v.1 == 9) = false by simpa using h9]; rfl
        have htv : tup h v = false := by unfold tup; rw [ho]; rfl
        rw [show (v.1 != 6) = true by simpa using h6, cond_true, hbv, htv, cond_false, cond_false, pt_nil]
        show some (1 : Int) = some ((b + 1 - b : Nat) : Int)
        congr 1; omega
theorem f_heap_Parts.spec {h : X_Heap} (p : HP h) {k : Nat} (hk : 4000000 < k) {v : X_Value} (vi : VI h v) : f_heap_Parts.u k (h, v) = some (pu 1000 (pt h 1000 [v])) := by
  show f_heap_Parts.f (f_heap_parts.u k) k h v = _
  rw [f_heap_Parts.f, f_heap_Parts.b, show (1000 : Int) = ((1000 : Nat) : Int) from rfl, f_heap_parts.spec p 1000 k v vi (by omega) (by omega)]
  rfl
theorem f_heap_IsKey.spec {h : X_Heap} (p : HP h) {k : Nat} (hk : 4000000 < k) {v : X_Value} (vi : VI h v) : f_heap_IsKey.u k (h, v) = some (decide (pu 1000 (pt h 1000 [v]) > 0)) := by
  show f_heap_IsKey.f (f_heap_Parts.u k) k h v = _
  rw [f_heap_IsKey.f, f_heap_IsKey.b, f_heap_Parts.spec p hk vi]
  rfl
/-! ### package heap: keys alike -/
theorem f_heap_SameInt.spec {k : Nat} {a b : X_Int} (hl : a.2.length ≤ 4611686018427387904) (hk : a.2.length < k) : f_heap_SameInt.u k (a, b) = some (a == b) := by
  show f_heap_SameInt.f (sl_Equal_uint32.u k) k a b = _
  rw [f_heap_SameInt.f, f_heap_SameInt.b, sl_Equal_uint32.spec hl hk, pair_beq]
  cases (a.1 == b.1) <;> rfl
theorem f_heap_SameValue.spec {k : Nat} (hk : 3000000 < k) {v w : X_Value} (hv : TV v) : f_heap_SameValue.u k (v, w) = some (v == w) := by
  have := hv.numL
  have := hv.denL
  show f_heap_SameValue.f (f_heap_SameInt.u k) k v w = _
  rw [f_heap_SameValue.f, f_heap_SameValue.b]
  rw [show (v == w) = (v.1 == w.1 && (v.2.1 == w.2.1 && (v.2.2.1 == w.2.2.1 && (v.2.2.2.1 == w.2.2.2.1 && v.2.2.2.2 == w.2.2.2.2)))) from rfl]
  rw [f_heap_SameInt.spec (by omega) (by omega), f_heap_SameInt.spec (by omega) (by omega)]
  simp only [Option.bind_some]
  cases (v.1 == w.1) <;> cases (v.2.1 == w.2.1) <;> cases (v.2.2.1 == w.2.2.1) <;> cases (v.2.2.2.1 == w.2.2.2.1) <;> cases (v.2.2.2.2 == w.2.2.2.2) <;> rfl
theorem sl_EqualFunc_Value.l0_spec {k : Nat} {l m : List X_Value} {c : (X_Value × (X_Value × Unit)) → Option Bool} {f : X_Value → X_Value → Bool} (hlen : l.length = m.length) (hl : l.length ≤ 2000000)
    (hc : ∀ a ∈ l, ∀ b ∈ m, c (a, (b, ())) = some (f a b)) : ∀ (d n i : Nat), l.length - i = d → d < n → i ≤ l.length →
      sl_EqualFunc_Value.l0 k n m c l (l.length : Int) (i : Int) = some (all2 f (l.drop i) (m.drop i)) := by
  intro d
  induction d with
  | zero =>
    intro n i hd hn hi
    obtain ⟨n, rfl⟩ : ∃ m, n = m + 1 := ⟨n - 1, by omega⟩
    rw [sl_EqualFunc_Value.l0, sl_EqualFunc_Value.q_l0, sl_EqualFunc_Value.c_l0, decide_eq_false (by omega), cond_false, List.drop_of_length_le (by omega)]
    rfl
  | succ d ih =>
    intro n i hd hn hi
    obtain ⟨n, rfl⟩ : ∃ m, n = m + 1 := ⟨n - 1, by omega⟩
    have h1 : i < l.length := by omega
    have h2 : i < m.length := by omega
    rw [sl_EqualFunc_Value.l0, sl_EqualFunc_Value.q_l0, sl_EqualFunc_Value.c_l0, decide_eq_true (by omega), cond_true, if_pos ⟨by omega, by omega⟩, if_pos ⟨by omega, by omega⟩, Int.toNat_natCast, getD_of h1, getD_of h2, hc _ (List.getElem_mem h1) _ (List.getElem_mem h2), Option.bind_some, wrapN (by omega), drop_cons h1, drop_cons h2, all2]
    cases f l[i] m[i] with
    | false => rfl
    | true =>
      rw [Bool.not_true, cond_false, Bool.true_and]
      exact ih n (i + 1) (by omega) (by omega) (by omega)
theorem sl_EqualFunc_Value.spec {k : Nat} {l m : List X_Value} {c : (X_Value × (X_Value × Unit)) → Option Bool} {f : X_Value → X_Value → Bool} (hl : l.length ≤ 2000000) (hk : l.length < k)
    (hc : ∀ a ∈ l, ∀ b ∈ m, c (a, (b, ())) = some (f a b)) : sl_EqualFunc_Value.u k (l, (m, c)) = some (decide (l.length = m.length) && all2 f l m) := by
  show sl_EqualFunc_Value.f  k l m c = _
  rw [sl_EqualFunc_Value.f, sl_EqualFunc_Value.b]
  by_cases h : l.length = m.length
  · rw [show ((l.length : Int) != (m.length : Int)) = false by simp [h], cond_false, decide_eq_true h, Bool.true_and]
    have := sl_EqualFunc_Value.l0_spec (k := k) h hl hc _ k 0 rfl (by omega) (by omega)
    rwa [List.drop_zero, List.drop_zero] at this
  · rw [show ((l.length : Int) != (m.length : Int)) = true by simp; omega, cond_true, decide_eq_false h, Bool.false_and]
theorem all2_refl {f : X_Value → X_Value → Bool} : ∀ {l : List X_Value}, (∀ a ∈ l, f a a = true) → all2 f l l = true
  | [], _ => rfl
  | a :: l, h => by rw [all2, h a List.mem_cons_self, all2_refl (l := l) fun b hb => h b (List.mem_cons_of_mem _ hb)]; rfl
theorem sk_refl {h : X_Heap} : ∀ (b : Nat) (v : X_Value), (pt h b [v]).isSome = true → sk h b v v = true := by
  intro b
  induction b with
  | zero => intro v hp; rw [pt_zero] at hp; cases hp
  | succ b ih =>
    intro v hp
    obtain ⟨hb, hit⟩ := pt_step hp
    rw [sk, Bool.and_self]
    cases ht : tup h v with
    | false => rw [cond_false]; exact beq_self_eq_true v
    | true =>
      obtain ⟨r, hr⟩ := hit ht
      rw [cond_true, decide_eq_true rfl, Bool.true_and]
      exact all2_refl fun a ha => ih a (pt_mem hr ha)
theorem sk_sym {h : X_Heap} : ∀ (b : Nat) (v w : X_Value), sk h b v w = sk h b w v := by
  intro b
  induction b with
  | zero => intro v w; rfl
  | succ b ih =>
    intro v w
    have ha : ∀ l m : List X_Value, all2 (sk h b) l m = all2 (sk h b) m l := by
      intro l
      induction l with
      | nil => intro m; cases m <;> rfl
      | cons a l ihl =>
        intro m
        cases m with
        | nil => rfl
        | cons c m => rw [all2, all2, ih a c, ihl m]
    rw [sk, sk, Bool.and_comm, ha, show decide ((its h v).length = (its h w).length) = decide ((its h w).length = (its h v).length) from decide_eq_decide.2 ⟨fun h => h.symm, fun h => h.symm⟩]
    congr 1
    exact Bool.beq_comm
theorem sk_trans {h : X_Heap} : ∀ (b : Nat) (v w x : X_Value), sk h b v w = true → sk h b w x = true → sk h b v x = true := by
  intro b
  induction b with
  | zero => intro v w x h1; cases h1
  | succ b ih =>
    intro v w x h1 h2
    have ha : ∀ l m o : List X_Value, l.length = m.length → m.length = o.length → all2 (sk h b) l m = true → all2 (sk h b) m o = true → all2 (sk h b) l o = true := by
      intro l
      induction l with
      | nil => intro m o _ _ _ _; rfl
      | cons a l ihl =>
        intro m o e1 e2 h1 h2
        cases m with
        | nil => simp at e1
        | cons c m =>
          cases o with
          | nil => simp at e2
          | cons d o =>
            rw [all2, Bool.and_eq_true] at h1 h2 ⊢
            exact ⟨ih a c d h1.1 h2.1, ihl m o (by simpa using e1) (by simpa using e2) h1.2 h2.2⟩
    rw [sk] at h1 h2 ⊢
    cases hv : tup h v with
    | false =>
      rw [hv, Bool.false_and, cond_false, beq_iff_eq] at h1
      subst h1
      rw [hv, Bool.false_and, cond_false] at h2
      rw [Bool.false_and, cond_false]
      exact h2
    | true =>
      cases hw : tup h w with
      | false =>
        rw [hv, hw, Bool.and_false, cond_false, beq_iff_eq] at h1
        rw [h1, hw] at hv
        cases hv
      | true =>
        cases hx : tup h x with
        | false =>
          rw [hw, hx, Bool.and_false, cond_false, beq_iff_eq] at h2
          rw [h2, hx] at hw
          cases hw
        | true =>
          rw [hv, hw, Bool.and_self, cond_true, Bool.and_eq_true, decide_eq_true_eq] at h1
          rw [hw, hx, Bool.and_self, cond_true, Bool.and_eq_true, decide_eq_true_eq] at h2
          rw [Bool.and_self, cond_true, Bool.and_eq_true, decide_eq_true_eq]
          exact ⟨h1.1.trans h2.1, ha _ _ _ h1.1 h2.1 h1.2 h2.2⟩
theorem f_heap_SameKey.spec {h : X_Heap} (p : HP h) : ∀ (b k : Nat) (v w : X_Value), VI h v → VI h w → (pt h b [v]).isSome = true → b + 3000000 < k → f_heap_SameKey.u k (h, (v, w)) = some (sk h b v w) := by
  intro b
  induction b with
  | zero => intro k v w vi wi hp hk; rw [pt_zero] at hp; cases hp
  | succ b ih =>
    intro k v w vi wi hp hk
    obtain ⟨k, rfl⟩ : ∃ m, k = m + 1 := ⟨k - 1, by omega⟩
    obtain ⟨hb, hit⟩ := pt_step hp
    have hrefl := sk_refl (b + 1) v hp
    show f_heap_SameKey.f (f_heap_SameValue.u (k + 1)) (sl_EqualFunc_Value.u (k + 1)) (f_heap_SameKey_c1.ur (k + 1) (f_heap_SameKey.u k)) (k + 1) h v w = _
    rw [f_heap_SameKey.f, f_heap_SameKey.q, f_heap_SameKey.c, f_heap_SameValue.spec (by omega) vi.tv, Option.bind_some]
    by_cases hv6 : v.1 = 6
    · by_cases hw6 : w.1 = 6
      · rw [hv6, hw6, show ((6 : Int) != 6) = false from rfl, cond_false, cond_false]
        by_cases he : v.2.2.2.2 = w.2.2.2.2
        · have e : v = w := by rw [vi.good.ref hv6, wi.good.ref hw6, he]
          subst e
          rw [beq_self_eq_true, cond_true, hrefl]
        · have hvi := vi.ref hv6
          have hwi := wi.ref hw6
          obtain ⟨i1, i2, _⟩ := isO_lt hvi
          obtain ⟨j1, j2, _⟩ := isO_lt hwi
          have ov := objV_ref hv6 hvi
          have ow := objV_ref hw6 hwi
          have hne : (v == w) = false := by
            rw [beq_eq_false_iff_ne]
            rintro rfl
            exact he rfl
          have tv : tup h v = ((hob h v.2.2.2.2.toNat).1 == 1) := by unfold tup; rw [ov]
          have tw : tup h w = ((hob h w.2.2.2.2.toNat).1 == 1) := by unfold tup; rw [ow]
          have iv : its h v = (hob h v.2.2.2.2.toNat).2.2.2.2.2.2.1 := by unfold its; rw [ov]
          have iw : its h w = (hob h w.2.2.2.2.toNat).2.2.2.2.2.2.1 := by unfold its; rw [ow]
          rw [show (v.2.2.2.2 == w.2.2.2.2) = false by simpa using he, cond_false, if_pos ⟨i1, i2⟩, if_pos ⟨j1, j2⟩, show h.getD v.2.2.2.2.toNat Z_Object = hob h v.2.2.2.2.toNat from rfl, show h.getD w.2.2.2.2.toNat Z_Object = hob h w.2.2.2.2.toNat from rfl, ← tv, ← tw, ← iv, ← iw, sk, hne]
          cases ht : tup h v with
          | false => rfl
          | true =>
            cases hu : tup h w with
            | false => rfl
            | true =>
              obtain ⟨r, hr⟩ := hit ht
              have hlen := (p.t.its v).1
              rw [cond_true, cond_true, Bool.and_self, cond_true, sl_EqualFunc_Value.spec (f := sk h b) hlen (by omega) fun a ha c hc => ?_]
              · rfl
              · show ((f_heap_SameKey_c1.f (f_heap_SameKey.u k) (k + 1) a c h).bind some) = _
                rw [f_heap_SameKey_c1.f, f_heap_SameKey_c1.b, ih k a c (p.its ha) (p.its hc) (pt_mem hr ha) (by omega)]
                rfl
      · have htw : tup h w = false := by unfold tup; rw [objV_not hw6]; rfl
        rw [hv6, show ((6 : Int) != 6) = false from rfl, cond_false, show (w.1 != 6) = true by simpa using hw6, cond_true, sk, htw, Bool.and_false, cond_false]
    · have htv : tup h v = false := by unfold tup; rw [objV_not hv6]; rfl
      rw [show (v.1 != 6) = true by simpa using hv6, cond_true, sk, htv, Bool.false_and, cond_false]
/-! ### the law -/
theorem law10 {k : Nat} (hk : BK k) {h : X_Heap} (t : TH h) {v w x : X_Value} (tv : TV v) (tw : TV w) (tx : TV x) : f_law7_HeapKeysMatchSpec.u k (h, (v, (w, x))) = some true := by
  have hk1 := bkN hk (n := 17592186044420) (by omega)
  obtain ⟨b, hb, hb2⟩ := r7_Usable.spec hk t (l := [v, w, x]) (by simp) (fun u hu => by
    simp at hu
    rcases hu with rfl | rfl | rfl
    · exact tv
    · exact tw
    · exact tx)
  show f_law7_HeapKeysMatchSpec.f (r7_Usable.u k) (r7_PartsOf.u k) (f_heap_Parts.u k) (f_heap_IsKey.u k) (r7_Keyed.u k) (f_heap_SameKey.u k) (r7_SameKey.u k) k h v w x = _
  rw [f_law7_HeapKeysMatchSpec.f, f_law7_HeapKeysMatchSpec.q, f_law7_HeapKeysMatchSpec.c, show List.take 3 [v, w, x] = [v, w, x] from rfl, hb, Option.bind_some]
  cases b with
  | false => rfl
  | true =>
    obtain ⟨p, hall⟩ := hb2 rfl
    have vi := (hall v (by simp)).vi tv
    have wi := (hall w (by simp)).vi tw
    have xi := (hall x (by simp)).vi tx
    have g7 : ∀ n : Int, n = pu 1000 (pt h 1000 [v]) → f_law7_HeapKeysMatchSpec.g7 (r7_Usable.u k) (r7_PartsOf.u k) (f_heap_Parts.u k) (f_heap_IsKey.u k) (r7_Keyed.u k) (f_heap_SameKey.u k) (r7_SameKey.u k) k h v w x n = some true := by
      intro n hn
      subst hn
      rw [f_law7_HeapKeysMatchSpec.g7, gate_pos (by omega), f_law7_HeapKeysMatchSpec.q_g7, f_law7_HeapKeysMatchSpec.c_g7, f_heap_Parts.spec p (by omega) vi, Option.bind_some, f_heap_IsKey.spec p (by omega) vi, Option.bind_some, r7_Keyed.spec (by omega) t, Option.bind_some, r7_Keyed.spec (by omega) t, Option.bind_some, r7_Keyed.spec (by omega) t, Option.bind_some]
      rw [show (pu 1000 (pt h 1000 [v]) != pu 1000 (pt h 1000 [v])) = false by simp, cond_false, show (decide (pu 1000 (pt h 1000 [v]) > 0) != decide (pu 1000 (pt h 1000 [v]) > 0)) = false by simp, cond_false]
      cases kv : keyed h v with
      | false => rfl
      | true =>
        cases kw : keyed h w with
        | false => rfl
        | true =>
          cases kx : keyed h x with
          | false => rfl
          | true =>
            rw [Bool.not_true, cond_false, cond_false, cond_false, f_heap_SameKey.spec p 1000 k v w vi wi kv (by omega), Option.bind_some, f_heap_SameKey.spec p 1000 k w x wi xi kw (by omega), Option.bind_some, f_heap_SameKey.spec p 1000 k v x vi xi kv (by omega), Option.bind_some, r7_SameKey.spec t 1000 k v w tv kv (by omega), Option.bind_some, beq_self_eq_true, cond_true,
              f_heap_SameKey.spec p 1000 k v v vi vi kv (by omega), Option.bind_some, sk_refl 1000 v kv, cond_true, f_heap_SameKey.spec p 1000 k w v wi vi kw (by omega), Option.bind_some, sk_sym 1000 w v, beq_self_eq_true, cond_true]
            cases hs : sk h 1000 v w with
            | false => rfl
            | true =>
              rw [Bool.not_true, cond_false]
              congr 1
              rw [beq_iff_eq]
              cases h2 : sk h 1000 w x with
              | true => rw [sk_trans 1000 v w x hs h2]
              | false =>
                cases h3 : sk h 1000 v x with
                | false => rfl
                | true =>
                  rw [sk_sym] at hs
                  rw [sk_trans 1000 w v x hs h3] at h2
                  cases h2
    obtain ⟨out, ok, ho, hr⟩ := r7_PartsOf.spec (k := k) (by omega) t v
    rw [Bool.not_true, cond_false, ho, Option.bind_some]
    rcases hr with ⟨r, h1, rfl, h2⟩ | ⟨h1, h2⟩
    · have := pt_le h1
      rw [cond_true, decide_eq_true (by dsimp only; omega), cond_true]
      refine g7 _ ?_
      rw [h1]
      show (out.length : Int) = ((1000 - r : Nat) : Int)
      omega
    · cases ok with
      | false => exact g7 0 (by rw [h1]; rfl)
      | true =>
        have := h2 rfl
        rw [cond_true, decide_eq_false (by dsimp only; omega), cond_false]
        exact g7 0 (by rw [h1]; rfl)
end Go.Ab
