/- What the checks of objects answer: their values and links. -/
import Derived.Test.YtgbihmngjppomaaGreatDoorV3
namespace Go.Ab
set_option linter.unusedVariables false
set_option linter.unusedSimpArgs false
theorem valueOk_ref {k : Nat} (hk : BK k) {v : X_Value} (hv : TV v) (h6 : v.1 = 6) (h : F73.u k v = some true) : v = (6, ((false, []), ((false, []), ([], v.2.2.2.2)))) := by
  have hk1 := bkN hk (n := 3000000) (by omega)
  have := hv.numL
  have := hv.denL
  have h' : F73.f (F47.u k) (F99.u k) (F100.u k) (F101.u k) (F89.u k) k v = some true := h
  rw [F73.f, F73.q, F73.c, F47.spec (by omega) (by omega), Option.bind_some, F47.spec (by omega) (by omega), Option.bind_some, h6] at h'
  simp only [show ((6 : Int) == 0) = false from rfl, show ((6 : Int) == 8) = false from rfl, show ((6 : Int) == 1) = false from rfl, show ((6 : Int) == 2) = false from rfl, show ((6 : Int) == 3) = false from rfl, show ((6 : Int) == 4) = false from rfl, show ((6 : Int) == 5) = false from rfl, show ((6 : Int) == 7) = false from rfl, show ((6 : Int) == 6) = true from rfl, cond_false, cond_true] at h'
  rw [F73.g20, gate_pos (by omega), F73.b_g20] at h'
  obtain ⟨a1, a2, a3, a4, a5⟩ := v
  dsimp only at h6 h' ⊢
  subst h6
  cases e1 : (a2 == (false, ([] : List Int))) with
  | false => rw [e1] at h'; cases h'
  | true =>
    cases e2 : (a3 == (false, ([] : List Int))) with
    | false => rw [e1, e2] at h'; cases h'
    | true =>
      rw [e1, e2] at h'
      cases e3 : (a4 == ([] : List UInt8)) with
      | false => rw [e3] at h'; cases h'
      | true =>
        rw [beq_iff_eq] at e1 e2 e3
        rw [e1, e2, e3]
/-- what is known of a value within a heap that passed -/
structure VG (v : X_Value) : Prop where
  ok : v.1 ≠ 9 → VOk v
  ref : v.1 = 6 → v = (6, ((false, []), ((false, []), ([], v.2.2.2.2))))
theorem vg_of {k : Nat} (hk : BK k) {v : X_Value} (hv : TV v) (h : F73.u k v = some true) : VG v := by
  obtain ⟨b, hb, hb2⟩ := F73.spec hk hv
  rw [h] at hb
  cases hb
  exact ⟨fun _ => hb2 rfl, fun h6 => valueOk_ref hk hv h6 h⟩
theorem tv_kind {v : X_Value} (h : TV v) (c : Int) : TV (c, v.2) := ⟨h.num, h.den, h.numL, h.denL, h.text⟩
theorem F68.l4_spec {k : Nat} (hk : 0 < k) {h : X_Heap} {l : List Int} (hl : l.length ≤ 100000000) : ∀ (d n i : Nat), l.length - i = d → d < n → i ≤ l.length →
    ∃ c, F68.l4 (F72.u k) (F73.u k) (F7.u k) k n h l (l.length : Int) (i : Int) = some c ∧ (c = 0 → ∀ m ∈ l.drop i, isO h m = true) := by
  intro d
  induction d with
  | zero =>
    intro n i hd hn hi
    obtain ⟨n, rfl⟩ : ∃ m, n = m + 1 := ⟨n - 1, by omega⟩
    rw [F68.l4, F68.q_l4, F68.c_l4, decide_eq_false (by omega), cond_false, List.drop_of_length_le (by omega)]
    exact ⟨0, rfl, fun _ m hm => by cases hm⟩
  | succ d ih =>
    intro n i hd hn hi
    obtain ⟨n, rfl⟩ : ∃ m, n = m + 1 := ⟨n - 1, by omega⟩
    have hlt : i < l.length := by omega
    obtain ⟨c, hc, hc2⟩ := ih n (i + 1) (by omega) (by omega) (by omega)
    rw [F68.l4, F68.q_l4, F68.c_l4, decide_eq_true (by omega), cond_true, if_pos ⟨by omega, by omega⟩, Nat.zero_add, Int.toNat_natCast, getD_of hlt, F7.spec, Option.bind_some, wrapN (by omega), drop_cons hlt]
    cases hi : isO h l[i] with
    | false => exact ⟨4, rfl, fun h => by cases h⟩
    | true =>
      refine ⟨c, hc, fun h0 m hm => ?_⟩
      rcases List.mem_cons.1 hm with rfl | hm
      · exact hi
      · exact hc2 h0 m hm
theorem F68.l2_spec {k : Nat} (hk : 100000000 < k) {h : X_Heap} (t : TH h) {o : X_Object} (tO : TO o) {l : List X_Value} (hl : l.length ≤ 10000000) : ∀ (d n i : Nat) (nums : List Int), l.length - i = d → d < n → i ≤ l.length → nums.length + (l.length - i) ≤ 50000000 →
    ∃ c, F68.l2 (F72.u k) (F73.u k) (F7.u k) k n h o nums l (l.length : Int) (i : Int) = some c ∧
      (c = 0 → (∀ m ∈ nums, isO h m = true) ∧ (∀ v ∈ l.drop i, v.1 = 6 → isO h v.2.2.2.2 = true) ∧ (o.1 = 18 → o.2.2.2.2.2.2.2.2.2 ≠ 0 → isO h (o.2.2.2.2.2.2.2.2.2 - 1) = true)) := by
  intro d
  induction d with
  | zero =>
    intro n i nums hd hn hi hs
    obtain ⟨n, rfl⟩ : ∃ m, n = m + 1 := ⟨n - 1, by omega⟩
    rw [F68.l2, F68.q_l2, F68.c_l2, decide_eq_false (by omega), cond_false, List.drop_of_length_le (by omega)]
    have plain : ∃ c, F68.l4 (F72.u k) (F73.u k) (F7.u k) k k h nums (nums.length : Int) 0 = some c ∧ (c = 0 → ∀ m ∈ nums, isO h m = true) := by
      have := F68.l4_spec (k := k) (h := h) (l := nums) (by omega) (by omega) _ k 0 rfl (by omega) (by omega)
      rwa [List.drop_zero] at this
    obtain ⟨c, hc, hc2⟩ := plain
    by_cases h18 : o.1 = 18
    · rw [h18, show ((18 : Int) == 18) = true from rfl, cond_true]
      by_cases hst : o.2.2.2.2.2.2.2.2.2 = 0
      · rw [hst, show ((0 : Int) != 0) = false from rfl, cond_false]
        exact ⟨c, hc, fun h0 => ⟨hc2 h0, (fun v hv => by cases hv), fun _ h => absurd rfl h⟩⟩
      · rw [show (o.2.2.2.2.2.2.2.2.2 != 0) = true by simpa using hst, cond_true, if_pos (by simp only [LIM, List.length_cons, List.length_nil]; omega)]
        obtain ⟨c, hc, hc2⟩ := F68.l4_spec (k := k) (h := h) (l := nums ++ [IntKind.i64.wrap (o.2.2.2.2.2.2.2.2.2 - 1)]) (by omega) (by simp; omega) _ k 0 rfl (by simp; omega) (by omega)
        rw [List.drop_zero] at hc2
        refine ⟨c, hc, fun h0 => ⟨fun m hm => hc2 h0 m (List.mem_append_left _ hm), (fun v hv => by cases hv), fun _ _ => ?_⟩⟩
        have hm := hc2 h0 _ (List.mem_append_right _ (List.mem_singleton.2 rfl))
        by_cases hlow : o.2.2.2.2.2.2.2.2.2 = -9223372036854775808
        · rw [hlow, show IntKind.i64.wrap (-9223372036854775808 - 1) = 9223372036854775807 from rfl] at hm
          rw [hlow]
          have h1 := isO_lt hm
          have h2 := t.len
          omega
        · rwa [wrapI (by have := tO.stLo; omega) (by have := tO.stHi; omega)] at hm
    · rw [show (o.1 == 18) = false by simpa using h18, cond_false]
      exact ⟨c, hc, fun h0 => ⟨hc2 h0, (fun v hv => by cases hv), fun h => absurd h h18⟩⟩
  | succ d ih =>
    intro n i nums hd hn hi hs
    obtain ⟨n, rfl⟩ : ∃ m, n = m + 1 := ⟨n - 1, by omega⟩
    have hlt : i < l.length := by omega
    rw [F68.l2, F68.q_l2, F68.c_l2, decide_eq_true (by omega), cond_true, if_pos ⟨by omega, by omega⟩, Nat.zero_add, Int.toNat_natCast, getD_of hlt, wrapN (by omega), drop_cons hlt]
    by_cases h6 : (l[i]).1 = 6
    · obtain ⟨c, hc, hc2⟩ := ih n (i + 1) (nums ++ [(l[i]).2.2.2.2]) (by omega) (by omega) (by omega) (by simp; omega)
      rw [h6, show ((6 : Int) == 6) = true from rfl, cond_true, if_pos (by simp only [LIM, List.length_cons, List.length_nil]; omega)]
      refine ⟨c, hc, fun h0 => ⟨fun m hm => (hc2 h0).1 m (List.mem_append_left _ hm), fun v hv hv6 => ?_, (hc2 h0).2.2⟩⟩
      rcases List.mem_cons.1 hv with rfl | hv
      · exact (hc2 h0).1 _ (List.mem_append_right _ (List.mem_singleton.2 rfl))
      · exact (hc2 h0).2.1 v hv hv6
    · obtain ⟨c, hc, hc2⟩ := ih n (i + 1) nums (by omega) (by omega) (by omega) (by omega)
      rw [show ((l[i]).1 == 6) = false by simpa using h6, cond_false]
      refine ⟨c, hc, fun h0 => ⟨(hc2 h0).1, fun v hv hv6 => ?_, (hc2 h0).2.2⟩⟩
      rcases List.mem_cons.1 hv with rfl | hv
      · exact absurd hv6 h6
      · exact (hc2 h0).2.1 v hv hv6
/-- what the fourth group tells of an object -/
structure VsOk (h : X_Heap) (o : X_Object) : Prop where
  vals : ∀ v ∈ o.2.2.2.2.2.2.2.1 ++ o.2.2.2.2.2.2.1, VG v
  refs : ∀ v ∈ o.2.2.2.2.2.2.2.1 ++ o.2.2.2.2.2.2.1, v.1 = 6 → isO h v.2.2.2.2 = true
  cls : isO h o.2.2.1 = true
  bases : ∀ m ∈ o.2.2.2.1, isO h m = true
  ords : ∀ m ∈ o.2.2.2.2.1, isO h m = true
  weak : o.1 = 18 → o.2.2.2.2.2.2.2.2.2 ≠ 0 → isO h (o.2.2.2.2.2.2.2.2.2 - 1) = true
theorem F68.l0_spec {k : Nat} (hk : BK k) {h : X_Heap} (t : TH h) {o : X_Object} (tO : TO o) {l : List X_Value} (hl : l = o.2.2.2.2.2.2.2.1 ++ o.2.2.2.2.2.2.1) : ∀ (d n i : Nat), l.length - i = d → d < n → i ≤ l.length →
    ∃ c, F68.l0 (F72.u k) (F73.u k) (F7.u k) k n h o l (l.length : Int) (i : Int) = some c ∧ (c = 0 → (∀ v ∈ l.drop i, VG v) ∧ (∀ v ∈ l, v.1 = 6 → isO h v.2.2.2.2 = true) ∧ isO h o.2.2.1 = true ∧ (∀ m ∈ o.2.2.2.1, isO h m = true) ∧ (∀ m ∈ o.2.2.2.2.1, isO h m = true) ∧ (o.1 = 18 → o.2.2.2.2.2.2.2.2.2 ≠ 0 → isO h (o.2.2.2.2.2.2.2.2.2 - 1) = true)) := by
  have hk1 := bkN hk (n := 200000000) (by omega)
  have hln : l.length ≤ 4000000 := by rw [hl, List.length_append]; have := tO.items; have := tO.keys; omega
  have hlv : ∀ v ∈ l, TV v := fun v hv => by
    rw [hl] at hv
    rcases List.mem_append.1 hv with hv | hv
    · exact tO.keyV v hv
    · exact tO.itemV v hv
  have hrf := tO.refs
  have hor := tO.order
  intro d
  induction d with
  | zero =>
    intro n i hd hn hi
    obtain ⟨n, rfl⟩ : ∃ m, n = m + 1 := ⟨n - 1, by omega⟩
    obtain ⟨c, hc, hc2⟩ := F68.l2_spec (k := k) (h := h) (o := o) (l := l) (by omega) t tO (by omega) _ k 0 (([o.2.2.1] ++ o.2.2.2.1) ++ o.2.2.2.2.1) rfl (by omega) (by omega) (by simp; omega)
    rw [List.drop_zero] at hc2
    rw [F68.l0, F68.q_l0, F68.c_l0, decide_eq_false (by omega), cond_false, List.drop_of_length_le (by omega), if_pos ⟨by simp, by simp only [LIM]; omega⟩, if_pos (by simp only [LIM, List.length_append, List.length_cons, List.length_nil]; omega)]
    refine ⟨c, hc, fun h0 => ?_⟩
    obtain ⟨h1, h2, h3⟩ := hc2 h0
    exact ⟨(fun v hv => by cases hv), h2, h1 _ (by simp), fun m hm => h1 m (by simp [hm]), fun m hm => h1 m (by simp [hm]), h3⟩
  | succ d ih =>
    intro n i hd hn hi
    obtain ⟨n, rfl⟩ : ∃ m, n = m + 1 := ⟨n - 1, by omega⟩
    have hlt : i < l.length := by omega
    have tv := hlv _ (List.getElem_mem hlt)
    obtain ⟨c, hc, hc2⟩ := ih n (i + 1) (by omega) (by omega) (by omega)
    have go : ∀ w : X_Value, TV w → (F73.u k w = some true → VG l[i]) → ∃ c, ((F73.u k w).bind fun y => bif !y then some (6 : Int) else F68.l0 (F72.u k) (F73.u k) (F7.u k) k n h o l (l.length : Int) ((i + 1 : Nat) : Int)) = some c ∧ (c = 0 → (∀ v ∈ l[i] :: l.drop (i + 1), VG v) ∧ (∀ v ∈ l, v.1 = 6 → isO h v.2.2.2.2 = true) ∧ isO h o.2.2.1 = true ∧ (∀ m ∈ o.2.2.2.1, isO h m = true) ∧ (∀ m ∈ o.2.2.2.2.1, isO h m = true) ∧ (o.1 = 18 → o.2.2.2.2.2.2.2.2.2 ≠ 0 → isO h (o.2.2.2.2.2.2.2.2.2 - 1) = true)) := by
      intro w tw hw
      obtain ⟨b, hb, _⟩ := F73.spec hk tw
      rw [hb, Option.bind_some]
      cases b with
      | false => exact ⟨6, rfl, fun h => by cases h⟩
      | true =>
        refine ⟨c, hc, fun h0 => ?_⟩
        obtain ⟨h1, h2⟩ := hc2 h0
        refine ⟨fun v hv => ?_, h2⟩
        rcases List.mem_cons.1 hv with rfl | hv
        · exact hw hb
        · exact h1 v hv
    rw [F68.l0, F68.q_l0, F68.c_l0, decide_eq_true (by omega), cond_true, if_pos ⟨by omega, by omega⟩, Nat.zero_add, Int.toNat_natCast, getD_of hlt, wrapN (by omega), drop_cons hlt]
    by_cases h9 : (l[i]).1 = 9
    · rw [h9, show ((9 : Int) == 9) = true from rfl, cond_true]
      have e9 : VG l[i] := ⟨fun h => absurd h9 h, fun h => by rw [h9] at h; cases h⟩
      cases (o.1 == 6) with
      | true => exact go _ (tv_kind tv 0) (fun _ => e9)
      | false =>
        cases (o.1 == 17) with
        | true => exact go _ (tv_kind tv 0) (fun _ => e9)
        | false => exact go _ tv (fun _ => e9)
    · rw [show ((l[i]).1 == 9) = false by simpa using h9, cond_false]
      exact go _ tv (fun h => vg_of hk tv h)
theorem F72.spec2 {k : Nat} {l : List X_Value} (hl : l.length * 96 ≤ LIM) : F72.u k l = some l := F72.spec hl
theorem F68.spec {k : Nat} (hk : BK k) {h : X_Heap} (t : TH h) {i : Nat} (hi : i < h.length) : ∃ c, F68.u k (h, (i : Int)) = some c ∧ (c = 0 → VsOk h (hob h i)) := by
  have hk1 := bkN hk (n := 200000000) (by omega)
  have tO := t.ob i
  have h1 := tO.items
  have h2 := tO.keys
  obtain ⟨c, hc, hc2⟩ := F68.l0_spec (k := k) hk (h := h) t tO rfl _ k 0 rfl (by rw [List.length_append]; omega) (by omega)
  show ∃ c, F68.f (F72.u k) (F73.u k) (F7.u k) k h (i : Int) = some c ∧ _
  rw [F68.f, F68.q, F68.c, if_pos ⟨by omega, by omega⟩, Int.toNat_natCast, show h.getD i Z_Object = hob h i from rfl, F72.spec (by simp only [LIM]; omega), Option.bind_some, if_pos (by simp only [LIM]; omega)]
  refine ⟨c, hc, fun h0 => ?_⟩
  obtain ⟨a1, a2, a3, a4, a5, a6⟩ := hc2 h0
  rw [List.drop_zero] at a1
  exact ⟨a1, a2, a3, a4, a5, a6⟩
end Go.Ab
