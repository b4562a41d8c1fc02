/- What the checks of objects answer: forms, sizes, names, values. -/
import Derived.Test.YtgbihmngjppomaaGreatDoorV2
namespace Go.Ab
set_option linter.unusedVariables false
set_option linter.unusedSimpArgs false
theorem bkN {k : Nat} (h : BK k) {n : Nat} (hn : n < 65536 ^ 8) : n < k := h n (Nat.le_trans (lg_le hn) (by omega))
/-! ### objects as they come in -/
structure TO (o : X_Object) : Prop where
  name : o.2.1.length ≤ 2000000
  refs : o.2.2.2.1.length ≤ 2000000
  order : o.2.2.2.2.1.length ≤ 2000000
  names : o.2.2.2.2.2.1.length ≤ 2000000
  nameL : ∀ s ∈ o.2.2.2.2.2.1, s.length ≤ 2000000
  items : o.2.2.2.2.2.2.1.length ≤ 2000000
  itemV : ∀ v ∈ o.2.2.2.2.2.2.1, TV v
  keys : o.2.2.2.2.2.2.2.1.length ≤ 2000000
  keyV : ∀ v ∈ o.2.2.2.2.2.2.2.1, TV v
  stLo : -9223372036854775808 ≤ o.2.2.2.2.2.2.2.2.2
  stHi : o.2.2.2.2.2.2.2.2.2 ≤ 9223372036854775807
structure TH (h : X_Heap) : Prop where
  len : h.length ≤ 2000000
  obj : ∀ o ∈ h, TO o
def hob (h : X_Heap) (i : Nat) : X_Object := h.getD i Z_Object
theorem to_z : TO Z_Object := ⟨(by show ([] : List UInt8).length ≤ _; simp), (by show ([] : List Int).length ≤ _; simp), (by show ([] : List Int).length ≤ _; simp), (by show ([] : List (List UInt8)).length ≤ _; simp), (fun s h => by cases h), (by show ([] : List X_Value).length ≤ _; simp), (fun s h => by cases h), (by show ([] : List X_Value).length ≤ _; simp), (fun s h => by cases h), (by show (_ : Int) ≤ 0; omega), (by show (0 : Int) ≤ _; omega)⟩
theorem TH.ob {h : X_Heap} (t : TH h) (i : Nat) : TO (hob h i) := by
  unfold Go.Ab.hob
  by_cases hi : i < h.length
  · rw [getD_of hi]; exact t.obj _ (List.getElem_mem hi)
  · rw [show h.getD i Z_Object = Z_Object by simp [List.getD, List.getElem?_eq_none (show h.length ≤ i by omega)]]; exact to_z
/-! ### lists of texts and values alike -/
theorem sl_Equal_string.l0_spec {k : Nat} {l m : List (List UInt8)} (hlm : l.length = m.length) (hl : l.length ≤ 4611686018427387904) (d : Nat) :
    ∀ (n i : Nat), i ≤ l.length → l.length - i = d → d < n → sl_Equal_string.l0 k n l m (l.length : Int) (i : Int) = some (l.drop i == m.drop i) := by
  induction d with
  | zero =>
    intro n i hi hd hn
    obtain ⟨n, rfl⟩ : ∃ m, n = m + 1 := ⟨n - 1, by omega⟩
    rw [sl_Equal_string.l0, sl_Equal_string.b_l0, decide_eq_false (by omega), cond_false, List.drop_of_length_le (by omega), List.drop_of_length_le (by omega)]
    rfl
  | succ d ih =>
    intro n i hi hd hn
    obtain ⟨n, rfl⟩ : ∃ m, n = m + 1 := ⟨n - 1, by omega⟩
    have hlt : i < l.length := by omega
    have hlt2 : i < m.length := by omega
    rw [sl_Equal_string.l0, sl_Equal_string.b_l0, decide_eq_true (by omega), cond_true, if_pos ⟨by omega, by omega⟩, if_pos ⟨by omega, by omega⟩, Int.toNat_natCast, getD_of hlt, getD_of hlt2, drop_cons hlt, drop_cons hlt2, bne]
    rw [show (l[i] :: l.drop (i + 1) == m[i] :: m.drop (i + 1)) = (l[i] == m[i] && l.drop (i + 1) == m.drop (i + 1)) from rfl]
    cases (l[i] == m[i]) with
    | false => rfl
    | true =>
      rw [Bool.not_true, cond_false, wrapN (by omega), Bool.true_and]
      exact ih n (i + 1) (by omega) (by omega) (by omega)
theorem beq_len {α : Type} [BEq α] : ∀ {l m : List α}, l.length ≠ m.length → (l == m) = false
  | [], [], h => absurd rfl h
  | [], _ :: _, _ => rfl
  | _ :: _, [], _ => rfl
  | a :: l, b :: m, h => by
    show (a == b && l == m) = false
    rw [beq_len (l := l) (m := m) (by simpa using h), Bool.and_false]
theorem sl_Equal_string.spec {k : Nat} {l m : List (List UInt8)} (hl : l.length ≤ 4611686018427387904) (hk : l.length < k) : sl_Equal_string.u k (l, m) = some (l == m) := by
  show sl_Equal_string.f k l m = _
  rw [sl_Equal_string.f, sl_Equal_string.b]
  by_cases h : l.length = m.length
  · rw [show ((l.length : Int) != (m.length : Int)) = false by simp [h], cond_false]
    have := sl_Equal_string.l0_spec (k := k) h hl l.length k 0 (by omega) (by omega) hk
    rwa [List.drop_zero, List.drop_zero] at this
  · rw [show ((l.length : Int) != (m.length : Int)) = true by simp; omega, cond_true, beq_len h]
theorem r7_Strings.spec {k : Nat} {l m : List (List UInt8)} (hl : l.length ≤ 4611686018427387904) (hk : l.length < k) : r7_Strings.u k (l, m) = some (l == m) := by
  show r7_Strings.f (sl_Equal_string.u k) k l m = _
  rw [r7_Strings.f, r7_Strings.b, sl_Equal_string.spec hl hk]
  rfl
theorem r7_Ints.spec {k : Nat} {l m : List Int} (hl : l.length ≤ 4611686018427387904) (hk : l.length < k) : r7_Ints.u k (l, m) = some (l == m) := by
  show r7_Ints.f (sl_Equal_int.u k) k l m = _
  rw [r7_Ints.f, r7_Ints.b, sl_Equal_int.spec hl hk]
  rfl
theorem r7_SameValues.l0_spec {k : Nat} (hk : 3000000 < k) {l m : List X_Value} (hlm : l.length = m.length) (hl : l.length ≤ 4611686018427387904) (hv : ∀ v ∈ l, TV v) (d : Nat) :
    ∀ (n i : Nat), i ≤ l.length → l.length - i = d → d < n → r7_SameValues.l0 (r7_SameValue.u k) k n l m (l.length : Int) (i : Int) = some (l.drop i == m.drop i) := by
  induction d with
  | zero =>
    intro n i hi hd hn
    obtain ⟨n, rfl⟩ : ∃ m, n = m + 1 := ⟨n - 1, by omega⟩
    rw [r7_SameValues.l0, r7_SameValues.q_l0, r7_SameValues.c_l0, decide_eq_false (by omega), cond_false, List.drop_of_length_le (by omega), List.drop_of_length_le (by omega)]
    rfl
  | succ d ih =>
    intro n i hi hd hn
    obtain ⟨n, rfl⟩ : ∃ m, n = m + 1 := ⟨n - 1, by omega⟩
    have hlt : i < l.length := by omega
    have hlt2 : i < m.length := by omega
    rw [r7_SameValues.l0, r7_SameValues.q_l0, r7_SameValues.c_l0, decide_eq_true (by omega), cond_true, if_pos ⟨by omega, by omega⟩, if_pos ⟨by omega, by omega⟩, Int.toNat_natCast, getD_of hlt, getD_of hlt2, drop_cons hlt, drop_cons hlt2, r7_SameValue.spec hk (hv _ (List.getElem_mem hlt)), Option.bind_some]
    rw [show (l[i] :: l.drop (i + 1) == m[i] :: m.drop (i + 1)) = (l[i] == m[i] && l.drop (i + 1) == m.drop (i + 1)) from rfl]
    cases (l[i] == m[i]) with
    | false => rfl
    | true =>
      rw [Bool.not_true, cond_false, wrapN (by omega), Bool.true_and]
      exact ih n (i + 1) (by omega) (by omega) (by omega)
theorem r7_SameValues.spec {k : Nat} (hk : 3000000 < k) {l m : List X_Value} (hl : l.length ≤ 2000000) (hv : ∀ v ∈ l, TV v) : r7_SameValues.u k (l, m) = some (l == m) := by
  show r7_SameValues.f (r7_SameValue.u k) k l m = _
  rw [r7_SameValues.f, r7_SameValues.b]
  by_cases h : l.length = m.length
  · rw [show ((l.length : Int) != (m.length : Int)) = false by simp [h], cond_false]
    have := r7_SameValues.l0_spec (k := k) hk h (by omega) hv l.length k 0 (by omega) (by omega) (by omega)
    rwa [List.drop_zero, List.drop_zero] at this
  · rw [show ((l.length : Int) != (m.length : Int)) = true by simp; omega, cond_true, beq_len h]
theorem r7_SameObject.spec {k : Nat} (hk : 3000000 < k) {a b : X_Object} (ta : TO a) : ∃ r, r7_SameObject.u k (a, b) = some r ∧ (r = true → a = b) := by
  show ∃ r, r7_SameObject.f (r7_Ints.u k) (r7_Strings.u k) (r7_SameValues.u k) k a b = some r ∧ _
  have h1 := ta.refs
  have h2 := ta.order
  have h3 := ta.names
  rw [r7_SameObject.f, r7_SameObject.b, r7_Ints.spec (by omega) (by omega), r7_Ints.spec (by omega) (by omega), r7_Strings.spec (by omega) (by omega), r7_SameValues.spec hk ta.items ta.itemV, r7_SameValues.spec hk ta.keys ta.keyV]
  simp only [Option.bind_some]
  cases e1 : (a.1 == b.1) with
  | false => exact ⟨_, rfl, fun h => by cases h⟩
  | true =>
  cases e2 : (a.2.1 == b.2.1) with
  | false => exact ⟨_, rfl, fun h => by cases h⟩
  | true =>
  cases e3 : (a.2.2.1 == b.2.2.1) with
  | false => exact ⟨_, rfl, fun h => by cases h⟩
  | true =>
  cases e4 : (a.2.2.2.2.2.2.2.2.1 == b.2.2.2.2.2.2.2.2.1) with
  | false => exact ⟨_, rfl, fun h => by cases h⟩
  | true =>
  cases e5 : (a.2.2.2.2.2.2.2.2.2 == b.2.2.2.2.2.2.2.2.2) with
  | false => exact ⟨_, rfl, fun h => by cases h⟩
  | true =>
  cases e6 : (a.2.2.2.1 == b.2.2.2.1) with
  | false => exact ⟨_, rfl, fun h => by cases h⟩
  | true =>
  cases e7 : (a.2.2.2.2.1 == b.2.2.2.2.1) with
  | false => exact ⟨_, rfl, fun h => by cases h⟩
  | true =>
  cases e8 : (a.2.2.2.2.2.1 == b.2.2.2.2.2.1) with
  | false => exact ⟨_, rfl, fun h => by cases h⟩
  | true =>
  cases e9 : (a.2.2.2.2.2.2.1 == b.2.2.2.2.2.2.1) with
  | false => exact ⟨_, rfl, fun h => by cases h⟩
  | true =>
  cases e10 : (a.2.2.2.2.2.2.2.1 == b.2.2.2.2.2.2.2.1) with
  | false => exact ⟨_, rfl, fun h => by cases h⟩
  | true =>
    refine ⟨_, rfl, fun _ => ?_⟩
    rw [beq_iff_eq] at e1 e2 e3 e4 e5 e6 e7 e8 e9 e10
    obtain ⟨a1, a2, a3, a4, a5, a6, a7, a8, a9, a10⟩ := a
    obtain ⟨b1, b2, b3, b4, b5, b6, b7, b8, b9, b10⟩ := b
    dsimp only at e1 e2 e3 e4 e5 e6 e7 e8 e9 e10
    rw [e1, e2, e3, e4, e5, e6, e7, e8, e9, e10]
/-! ### what kinds use -/
def usesL : List (List UInt8) := [[], [42], [42], [107, 58], [107, 48], [51], [49], [110, 99, 114, 100, 115, 42], [50], [110, 114, 97, 115, 61], [99, 97, 61], [110, 97, 61], [51], [49], [49], [50], [115, 50], [110, 100, 115, 42], [115, 48], [115, 50], [49]]
theorem uses_split : splitF [32, 42, 32, 42, 32, 107, 58, 32, 107, 48, 32, 51, 32, 49, 32, 110, 99, 114, 100, 115, 42, 32, 50, 32, 110, 114, 97, 115, 61, 32, 99, 97, 61, 32, 110, 97, 61, 32, 51, 32, 49, 32, 49, 32, 50, 32, 115, 50, 32, 110, 100, 115, 42, 32, 115, 48, 32, 115, 50, 32, 49] [32] = usesL := by kernel_rfl
theorem r7_used.spec {k : Nat} {m : Nat} (hm : m < 21) : r7_used.u k (m : Int) = some (usesL.getD m []) := by
  show r7_used.f (f_strings_Split.u k) k (m : Int) = _
  rw [r7_used.f, r7_used.b, f_strings_Split.u, if_pos ⟨by simp, by simp⟩, Option.bind_some]
  dsimp only
  rw [uses_split, if_pos ⟨by omega, by rw [show usesL.length = 21 from rfl]; omega⟩, Int.toNat_natCast]
theorem uses_short {m : Nat} : (usesL.getD m []).length ≤ 6 := by
  by_cases h : m < 21
  · have : ∀ j : Fin 21, (usesL.getD j.1 []).length ≤ 6 := by decide
    exact this ⟨m, h⟩
  · rw [show usesL.getD m [] = [] by simp [List.getD, List.getElem?_eq_none (show usesL.length ≤ m by rw [show usesL.length = 21 from rfl]; omega)]]; simp
theorem r7_greatest.tot {k : Nat} (m : Int) : Tot (r7_greatest.u k m) := by
  show Tot (r7_greatest.f  k m)
  rw [r7_greatest.f, r7_greatest.b]
  repeat' apply tot_cond
  all_goals exact tot_some _
theorem contains_tot {k : Nat} {u t : List UInt8} (h : u.length ≤ 4000000) : Tot (f_strings_Contains.u k (u, t)) := by
  rw [f_strings_Contains.u, if_pos (by dsimp only; omega)]
  exact tot_some _
/-- how many items an object of a kind has -/
structure Cnt (o : X_Object) : Prop where
  three : o.1 = 5 ∨ o.1 = 12 → o.2.2.2.2.2.2.1.length = 3
  one : o.1 = 6 ∨ o.1 = 13 ∨ o.1 = 14 ∨ o.1 = 20 → o.2.2.2.2.2.2.1.length = 1
  two : o.1 = 8 ∨ o.1 = 15 ∨ o.1 = 16 ∨ o.1 = 19 → o.2.2.2.2.2.2.1.length = 2
  named : o.1 = 9 ∨ o.1 = 10 ∨ o.1 = 11 → o.2.2.2.2.2.2.1.length = o.2.2.2.2.2.1.length
  keyed : o.1 = 3 → o.2.2.2.2.2.2.1.length = o.2.2.2.2.2.2.2.1.length
  none : o.1 = 0 ∨ o.1 = 4 ∨ o.1 = 18 → o.2.2.2.2.2.2.1.length = 0
theorem r7_shape.g22_spec {k : Nat} (hk : 0 < k) (o : X_Object) (c : Int) : ∃ r, r7_shape.g22 (r7_used.u k) (f_strings_Contains.u k) (r7_greatest.u k) k o c = some r ∧ (r = 0 → (o.2.2.2.2.2.2.1.length : Int) = c) := by
  rw [r7_shape.g22, gate_pos hk, r7_shape.b_g22]
  by_cases h : (o.2.2.2.2.2.2.1.length : Int) = c
  · rw [show ((o.2.2.2.2.2.2.1.length : Int) != c) = false by simpa using h, cond_false]
    have T : Tot (bif decide (o.2.2.2.2.2.2.2.2.1 < 0) then some (6 : Int) else bif decide (o.2.2.2.2.2.2.2.2.2 < 0) then some 6 else (r7_greatest.u k o.1).bind fun y3 => bif decide (o.2.2.2.2.2.2.2.2.2 > y3) then some 6 else bif o.1 != 9 then bif decide ((o.2.2.2.2.1.length : Int) > 0) then some 6 else some 0 else some 0) := by
      refine tot_cond (tot_some _) (tot_cond (tot_some _) (tot_bind (r7_greatest.tot _) fun y _ => ?_))
      repeat' apply tot_cond
      all_goals exact tot_some _
    obtain ⟨y, hy⟩ := T
    exact ⟨y, hy, fun _ => h⟩
  · rw [show ((o.2.2.2.2.2.2.1.length : Int) != c) = true by simpa using h, cond_true]
    exact ⟨6, rfl, fun h => by cases h⟩
theorem r7_shape.l0_spec {k : Nat} (hk : 0 < k) {o : X_Object} {m : Nat} (hm : m < 21) (ho : o.1 = (m : Int)) {l7 : List UInt8} (h7 : l7.length = 7) {b7 : List Bool} (hb : b7.length = 7) :
    ∀ (d n i : Nat), 7 - i = d → d < n → i ≤ 7 → ∃ c, r7_shape.l0 (r7_used.u k) (f_strings_Contains.u k) (r7_greatest.u k) k n o (usesL.getD m []) l7 b7 7 (i : Int) = some c ∧ (c = 0 → Cnt o) := by
  intro d
  induction d with
  | zero =>
    intro n i hd hn hi
    obtain ⟨n, rfl⟩ : ∃ m, n = m + 1 := ⟨n - 1, by omega⟩
    rw [r7_shape.l0, r7_shape.q_l0, r7_shape.c_l0, decide_eq_false (by omega), cond_false]
    have key : ∀ c, (∃ r, r7_shape.g22 (r7_used.u k) (f_strings_Contains.u k) (r7_greatest.u k) k o c = some r ∧ (r = 0 → Cnt o)) ∨ ¬ ((o.2.2.2.2.2.2.1.length : Int) = c → Cnt o) := by
      intro c
      obtain ⟨r, h1, h2⟩ := r7_shape.g22_spec hk o c
      by_cases h : (o.2.2.2.2.2.2.1.length : Int) = c → Cnt o
      · exact .inl ⟨r, h1, fun h0 => h (h2 h0)⟩
      · exact .inr h
    have mk : ∀ c, ((o.2.2.2.2.2.2.1.length : Int) = c → Cnt o) → ∃ r, r7_shape.g22 (r7_used.u k) (f_strings_Contains.u k) (r7_greatest.u k) k o c = some r ∧ (r = 0 → Cnt o) := fun c hc => (key c).resolve_right (fun h => h hc)
    have cases21 : m = 0 ∨ m = 1 ∨ m = 2 ∨ m = 3 ∨ m = 4 ∨ m = 5 ∨ m = 6 ∨ m = 7 ∨ m = 8 ∨ m = 9 ∨ m = 10 ∨ m = 11 ∨ m = 12 ∨ m = 13 ∨ m = 14 ∨ m = 15 ∨ m = 16 ∨ m = 17 ∨ m = 18 ∨ m = 19 ∨ m = 20 := by omega
    rcases cases21 with rfl | rfl | rfl | rfl | rfl | rfl | rfl | rfl | rfl | rfl | rfl | rfl | rfl | rfl | rfl | rfl | rfl | rfl | rfl | rfl | rfl
    · exact mk 0 fun hc => ⟨fun h => by omega, fun h => by omega, fun h => by omega, fun h => by omega, fun h => by omega, fun h => by omega⟩
    · exact mk ((o.2.2.2.2.2.2.1.length : Nat) : Int) fun hc => ⟨fun h => by omega, fun h => by omega, fun h => by omega, fun h => by omega, fun h => by omega, fun h => by omega⟩
    · exact mk ((o.2.2.2.2.2.2.1.length : Nat) : Int) fun hc => ⟨fun h => by omega, fun h => by omega, fun h => by omega, fun h => by omega, fun h => by omega, fun h => by omega⟩
    · exact mk ((o.2.2.2.2.2.2.2.1.length : Nat) : Int) fun hc => ⟨fun h => by omega, fun h => by omega, fun h => by omega, fun h => by omega, fun h => by omega, fun h => by omega⟩
    · exact mk 0 fun hc => ⟨fun h => by omega, fun h => by omega, fun h => by omega, fun h => by omega, fun h => by omega, fun h => by omega⟩
    · exact mk 3 fun hc => ⟨fun h => by omega, fun h => by omega, fun h => by omega, fun h => by omega, fun h => by omega, fun h => by omega⟩
    · exact mk 1 fun hc => ⟨fun h => by omega, fun h => by omega, fun h => by omega, fun h => by omega, fun h => by omega, fun h => by omega⟩
    · exact mk ((o.2.2.2.2.2.2.1.length : Nat) : Int) fun hc => ⟨fun h => by omega, fun h => by omega, fun h => by omega, fun h => by omega, fun h => by omega, fun h => by omega⟩
    · exact mk 2 fun hc => ⟨fun h => by omega, fun h => by omega, fun h => by omega, fun h => by omega, fun h => by omega, fun h => by omega⟩
    · exact mk ((o.2.2.2.2.2.1.length : Nat) : Int) fun hc => ⟨fun h => by omega, fun h => by omega, fun h => by omega, fun h => by omega, fun h => by omega, fun h => by omega⟩
    · exact mk ((o.2.2.2.2.2.1.length : Nat) : Int) fun hc => ⟨fun h => by omega, fun h => by omega, fun h => by omega, fun h => by omega, fun h => by omega, fun h => by omega⟩
    · exact mk ((o.2.2.2.2.2.1.length : Nat) : Int) fun hc => ⟨fun h => by omega, fun h => by omega, fun h => by omega, fun h => by omega, fun h => by omega, fun h => by omega⟩
    · exact mk 3 fun hc => ⟨fun h => by omega, fun h => by omega, fun h => by omega, fun h => by omega, fun h => by omega, fun h => by omega⟩
    · exact mk 1 fun hc => ⟨fun h => by omega, fun h => by omega, fun h => by omega, fun h => by omega, fun h => by omega, fun h => by omega⟩
    · exact mk 1 fun hc => ⟨fun h => by omega, fun h => by omega, fun h => by omega, fun h => by omega, fun h => by omega, fun h => by omega⟩
    · exact mk 2 fun hc => ⟨fun h => by omega, fun h => by omega, fun h => by omega, fun h => by omega, fun h => by omega, fun h => by omega⟩
    · exact mk 2 fun hc => ⟨fun h => by omega, fun h => by omega, fun h => by omega, fun h => by omega, fun h => by omega, fun h => by omega⟩
    · exact mk ((o.2.2.2.2.2.2.1.length : Nat) : Int) fun hc => ⟨fun h => by omega, fun h => by omega, fun h => by omega, fun h => by omega, fun h => by omega, fun h => by omega⟩
    · exact mk 0 fun hc => ⟨fun h => by omega, fun h => by omega, fun h => by omega, fun h => by omega, fun h => by omega, fun h => by omega⟩
    · exact mk 2 fun hc => ⟨fun h => by omega, fun h => by omega, fun h => by omega, fun h => by omega, fun h => by omega, fun h => by omega⟩
    · exact mk 1 fun hc => ⟨fun h => by omega, fun h => by omega, fun h => by omega, fun h => by omega, fun h => by omega, fun h => by omega⟩
  | succ d ih =>
    intro n i hd hn hi
    obtain ⟨n, rfl⟩ : ∃ m, n = m + 1 := ⟨n - 1, by omega⟩
    obtain ⟨c, hc⟩ := ih n (i + 1) (by omega) (by omega) (by omega)
    rw [r7_shape.l0, r7_shape.q_l0, r7_shape.c_l0, decide_eq_true (by omega), cond_true, if_pos ⟨by omega, by omega⟩, wrapN (by omega), if_pos ⟨by omega, by omega, by omega⟩]
    cases (!(b7.getD (0 + Int.toNat (i : Int)) false)) with
    | false => exact ⟨c, hc⟩
    | true =>
      obtain ⟨y, hy⟩ := contains_tot (k := k) (u := usesL.getD m []) (t := List.drop (Int.toNat (i : Int)) (List.take (Int.toNat ((i + 1 : Nat) : Int)) l7)) (by have := uses_short (m := m); omega)
      rw [cond_true, hy, Option.bind_some]
      cases y with
      | false => exact ⟨6, rfl, fun h => by cases h⟩
      | true => exact ⟨c, hc⟩
theorem r7_shape.spec {k : Nat} (hk : 100 < k) {h : X_Heap} {i : Nat} (hi : i < h.length) (h0 : 0 ≤ (hob h i).1) (h21 : (hob h i).1 < 21) : ∃ c, r7_shape.u k (h, (i : Int)) = some c ∧ (c = 0 → Cnt (hob h i)) := by
  obtain ⟨m, hm⟩ : ∃ m : Nat, (hob h i).1 = (m : Int) := ⟨(hob h i).1.toNat, by omega⟩
  show ∃ c, r7_shape.f (r7_used.u k) (f_strings_Contains.u k) (r7_greatest.u k) k h (i : Int) = some c ∧ _
  rw [r7_shape.f, r7_shape.q, r7_shape.c, if_pos ⟨by omega, by omega⟩, Int.toNat_natCast, show h.getD i Z_Object = hob h i from rfl, hm, r7_used.spec (by omega), Option.bind_some]
  exact r7_shape.l0_spec (by omega) (by omega) hm rfl rfl 7 k 0 rfl (by omega) (by omega)
theorem r7_sizes.tot {k : Nat} (hk : BK k) {h : X_Heap} (t : TH h) {i : Nat} (hi : i < h.length) (h0 : 0 ≤ (hob h i).1) (h21 : (hob h i).1 < 21) : Tot (r7_sizes.u k (h, (i : Int))) := by
  have hk1 := bkN hk (n := 5000000) (by omega)
  obtain ⟨m, hm⟩ : ∃ m : Nat, (hob h i).1 = (m : Int) := ⟨(hob h i).1.toNat, by omega⟩
  show Tot (r7_sizes.f (r7_used.u k) (f_strings_Contains.u k) (r7_NameOk.u k) (r7_DottedOk.u k) k h (i : Int))
  have g8 : ∀ o, Tot (r7_sizes.g8 (r7_used.u k) (f_strings_Contains.u k) (r7_NameOk.u k) (r7_DottedOk.u k) k o) := by
    intro o
    rw [r7_sizes.g8, gate_pos (by omega), r7_sizes.b_g8]
    repeat' apply tot_cond
    all_goals exact tot_some _
  rw [r7_sizes.f, r7_sizes.q, r7_sizes.c, if_pos ⟨by omega, by omega⟩, Int.toNat_natCast, show h.getD i Z_Object = hob h i from rfl]
  refine tot_bind (by rw [hm, r7_used.spec (by omega)]; exact tot_some _) fun y hy => tot_bind (contains_tot ?_) fun _ _ => tot_cond (tot_bind (r7_NameOk.tot (by omega) _) fun _ _ => tot_cond (tot_bind (r7_DottedOk.tot hk (t.ob i).name) fun _ _ => tot_cond (tot_some _) (g8 _)) (tot_cond (tot_some _) (g8 _))) (g8 _)
  rw [hm, r7_used.spec (by omega)] at hy
  cases hy
  have := uses_short (m := m)
  omega
theorem r7_names.l0_tot {k : Nat} (hk : 3000000 < k) {l : List (List UInt8)} (hl : l.length ≤ 2000000) : ∀ (d n i : Nat), l.length - i = d → d < n → i ≤ l.length → Tot (r7_names.l0 (r7_NameOk.u k) (r7_HasString.u k) k n l l (l.length : Int) (i : Int)) := by
  intro d
  induction d with
  | zero =>
    intro n i hd hn hi
    obtain ⟨n, rfl⟩ : ∃ m, n = m + 1 := ⟨n - 1, by omega⟩
    rw [r7_names.l0, r7_names.q_l0, r7_names.c_l0, decide_eq_false (by omega), cond_false]
    exact tot_some _
  | succ d ih =>
    intro n i hd hn hi
    obtain ⟨n, rfl⟩ : ∃ m, n = m + 1 := ⟨n - 1, by omega⟩
    rw [r7_names.l0, r7_names.q_l0, r7_names.c_l0, decide_eq_true (by omega), cond_true, if_pos ⟨by omega, by omega⟩, if_pos ⟨by omega, by omega⟩, wrapN (by omega)]
    refine tot_bind (r7_NameOk.tot (by omega) _) fun _ _ => tot_cond (tot_some _) (tot_bind ⟨_, r7_HasString.spec ?_ ?_⟩ fun _ _ => tot_cond (tot_some _) (ih n (i + 1) (by omega) (by omega) (by omega)))
    · rw [List.length_take]; omega
    · rw [List.length_take]; omega
theorem r7_names.tot {k : Nat} (hk : 3000000 < k) {h : X_Heap} (t : TH h) {i : Nat} (hi : i < h.length) : Tot (r7_names.u k (h, (i : Int))) := by
  have ht := (t.ob i).names
  show Tot (r7_names.f (r7_NameOk.u k) (r7_HasString.u k) k h (i : Int))
  rw [r7_names.f, r7_names.q, r7_names.c, if_pos ⟨by omega, by omega⟩, Int.toNat_natCast, show h.getD i Z_Object = hob h i from rfl]
  exact r7_names.l0_tot hk ht _ k 0 rfl (by omega) (by omega)
/-! ### objects that exist -/
def isO (h : X_Heap) (n : Int) : Bool := decide (0 ≤ n) && (decide (n < (h.length : Int)) && (hob h n.toNat).1 != 0)
theorem isO_lt {h : X_Heap} {n : Int} (hi : isO h n = true) : 0 ≤ n ∧ n < (h.length : Int) ∧ (hob h n.toNat).1 ≠ 0 := by
  unfold isO at hi
  simp only [Bool.and_eq_true, decide_eq_true_eq, bne_iff_ne] at hi
  exact ⟨hi.1, hi.2.1, hi.2.2⟩
theorem r7_IsObject.spec {k : Nat} {h : X_Heap} {n : Int} : r7_IsObject.u k (h, n) = some (isO h n) := by
  show r7_IsObject.f  k h n = _
  rw [r7_IsObject.f, r7_IsObject.q, r7_IsObject.c]
  unfold isO
  by_cases h0 : 0 ≤ n
  · rw [decide_eq_true (show n ≥ 0 from h0), cond_true, Bool.true_and]
    by_cases h1 : n < (h.length : Int)
    · rw [decide_eq_true h1, cond_true, if_pos ⟨h0, h1⟩, Bool.true_and]; rfl
    · rw [decide_eq_false h1, cond_false, Bool.false_and]
  · rw [decide_eq_false (show ¬ n ≥ 0 from h0), cond_false, Bool.false_and]
/-- the object of a value -/
def objV (h : X_Heap) (v : X_Value) : X_Object := bif decide (v.1 = 6) && isO h v.2.2.2.2 then hob h v.2.2.2.2.toNat else Z_Object
theorem TH.objV {h : X_Heap} (t : TH h) (v : X_Value) : TO (objV h v) := by
  unfold Go.Ab.objV
  cases (decide (v.1 = 6) && isO h v.2.2.2.2) with
  | true => exact t.ob _
  | false => exact to_z
theorem r7_Obj.spec {k : Nat} {h : X_Heap} {v : X_Value} : r7_Obj.u k (h, v) = some (objV h v) := by
  show r7_Obj.f (r7_IsObject.u k) k h v = _
  rw [r7_Obj.f, r7_Obj.q, r7_Obj.c, r7_IsObject.spec, Option.bind_some]
  unfold objV
  by_cases h6 : v.1 = 6
  · rw [show (v.1 != 6) = false by simpa using h6, cond_false, decide_eq_true h6, Bool.true_and]
    cases hi : isO h v.2.2.2.2 with
    | false => rfl
    | true =>
      obtain ⟨h1, h2, _⟩ := isO_lt hi
      rw [Bool.not_true, cond_false, if_pos ⟨h1, h2⟩, cond_true]; rfl
  · rw [show (v.1 != 6) = true by simpa using h6, cond_true, decide_eq_false h6, Bool.false_and]
    rfl
end Go.Ab
