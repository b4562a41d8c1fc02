/- What the checks of objects answer: forms, sizes, names, values. -/
import Derived.Test.YtdekjkgfohlmgaaGreatDoorV2
namespace Go.Ab
set_option linter.unusedVariables false
set_option linter.unusedSimpArgs false
theorem bkN {k : Nat} (h : BK k) {n : Nat} (hn : n < 65536 ^ 8) : n < k := h n (Nat.le_trans (lg_le hn) (by omega))
/-! ### objects as they come in -/
structure TO (o : X_Object) : Prop where
  name : o.2.1.length ≤ 2000000
  refs : o.2.2.2.1.length ≤ 2000000
  order : o.2.2.2.2.1.length ≤ 2000000
  names : o.2.2.2.2.2.1.length ≤ 2000000
  nameL : ∀ s ∈ o.2.2.2.2.2.1, s.length ≤ 2000000
  items : o.2.2.2.2.2.2.1.length ≤ 2000000
  itemV : ∀ v ∈ o.2.2.2.2.2.2.1, TV v
  keys : o.2.2.2.2.2.2.2.1.length ≤ 2000000
  keyV : ∀ v ∈ o.2.2.2.2.2.2.2.1, TV v
  stLo : -9223372036854775808 ≤ o.2.2.2.2.2.2.2.2.2
  stHi : o.2.2.2.2.2.2.2.2.2 ≤ 9223372036854775807
structure TH (h : X_Heap) : Prop where
  len : h.length ≤ 2000000
  obj : ∀ o ∈ h, TO o
def hob (h : X_Heap) (i : Nat) : X_Object := h.getD i Z_Object
theorem to_z : TO Z_Object := ⟨(by show ([] : List UInt8).length ≤ _; simp), (by show ([] : List Int).length ≤ _; simp), (by show ([] : List Int).length ≤ _; simp), (by show ([] : List (List UInt8)).length ≤ _; simp), (fun s h => by cases h), (by show ([] : List X_Value).length ≤ _; simp), (fun s h => by cases h), (by show ([] : List X_Value).length ≤ _; simp), (fun s h => by cases h), (by show (_ : Int) ≤ 0; omega), (by show (0 : Int) ≤ _; omega)⟩
theorem TH.ob {h : X_Heap} (t : TH h) (i : Nat) : TO (hob h i) := by
  unfold Go.Ab.hob
  by_cases hi : i < h.length
  · rw [getD_of hi]; exact t.obj _ (List.getElem_mem hi)
  · rw [show h.getD i Z_Object = Z_Object by simp [List.getD, List.getElem?_eq_none (show h.length ≤ i by omega)]]; exact to_z
/-! ### lists of texts and values alike -/
theorem F59.l0_spec {k : Nat} {l m : List (List UInt8)} (hlm : l.length = m.length) (hl : l.length ≤ 4611686018427387904) (d : Nat) :
    ∀ (n i : Nat), i ≤ l.length → l.length - i = d → d < n → F59.l0 k n l m (l.length : Int) (i : Int) = some (l.drop i == m.drop i) := by
  induction d with
  | zero =>
    intro n i hi hd hn
    obtain ⟨n, rfl⟩ : ∃ m, n = m + 1 := ⟨n - 1, by omega⟩
    rw [F59.l0, F59.b_l0, decide_eq_false (by omega), cond_false, List.drop_of_length_le (by omega), List.drop_of_length_le (by omega)]
    rfl
  | succ d ih =>
    intro n i hi hd hn
    obtain ⟨n, rfl⟩ : ∃ m, n = m + 1 := ⟨n - 1, by omega⟩
    have hlt : i < l.length := by omega
    have hlt2 : i < m.length := by omega
    rw [F59.l0, F59.b_l0, decide_eq_true (by omega), cond_true, if_pos ⟨by omega, by omega⟩, if_pos ⟨by omega, by omega⟩, Int.toNat_natCast, getD_of hlt, getD_of hlt2, drop_cons hlt, drop_cons hlt2, bne]
    rw [show (l[i] :: l.drop (i + 1) == m[i] :: m.drop (i + 1)) = (l[i] == m[i] && l.drop (i + 1) == m.drop (i + 1)) from rfl]
    cases (l[i] == m[i]) with
    | false => rfl
    | true =>
      rw [Bool.not_true, cond_false, wrapN (by omega), Bool.true_and]
      exact ih n (i + 1) (by omega) (by omega) (by omega)
theorem beq_len {α : Type} [BEq α] : ∀ {l m : List α}, l.length ≠ m.length → (l == m) = false
  | [], [], h => absurd rfl h
  | [], _ :: _, _ => rfl
  | _ :: _, [], _ => rfl
  | a :: l, b :: m, h => by
    show (a == b && l == m) = false
    rw [beq_len (l := l) (m := m) (by simpa using h), Bool.and_false]
theorem F59.spec {k : Nat} {l m : List (List UInt8)} (hl : l.length ≤ 4611686018427387904) (hk : l.length < k) : F59.u k (l, m) = some (l == m) := by
  show F59.f k l m = _
  rw [F59.f, F59.b]
  by_cases h : l.length = m.length
  · rw [show ((l.length : Int) != (m.length : Int)) = false by simp [h], cond_false]
    have := F59.l0_spec (k := k) h hl l.length k 0 (by omega) (by omega) hk
    rwa [List.drop_zero, List.drop_zero] at this
  · rw [show ((l.length : Int) != (m.length : Int)) = true by simp; omega, cond_true, beq_len h]
theorem F16.spec {k : Nat} {l m : List (List UInt8)} (hl : l.length ≤ 4611686018427387904) (hk : l.length < k) : F16.u k (l, m) = some (l == m) := by
  show F16.f (F59.u k) k l m = _
  rw [F16.f, F16.b, F59.spec hl hk]
  rfl
theorem F96.spec {k : Nat} {l m : List Int} (hl : l.length ≤ 4611686018427387904) (hk : l.length < k) : F96.u k (l, m) = some (l == m) := by
  show F96.f (F137.u k) k l m = _
  rw [F96.f, F96.b, F137.spec hl hk]
  rfl
theorem F15.l0_spec {k : Nat} (hk : 3000000 < k) {l m : List X_Value} (hlm : l.length = m.length) (hl : l.length ≤ 4611686018427387904) (hv : ∀ v ∈ l, TV v) (d : Nat) :
    ∀ (n i : Nat), i ≤ l.length → l.length - i = d → d < n → F15.l0 (F14.u k) k n l m (l.length : Int) (i : Int) = some (l.drop i == m.drop i) := by
  induction d with
  | zero =>
    intro n i hi hd hn
    obtain ⟨n, rfl⟩ : ∃ m, n = m + 1 := ⟨n - 1, by omega⟩
    rw [F15.l0, F15.b_l0, decide_eq_false (by omega), cond_false, List.drop_of_length_le (by omega), List.drop_of_length_le (by omega)]
    rfl
  | succ d ih =>
    intro n i hi hd hn
    obtain ⟨n, rfl⟩ : ∃ m, n = m + 1 := ⟨n - 1, by omega⟩
    have hlt : i < l.length := by omega
    have hlt2 : i < m.length := by omega
    rw [F15.l0, F15.b_l0, decide_eq_true (by omega), cond_true, if_pos ⟨by omega, by omega⟩, if_pos ⟨by omega, by omega⟩, Int.toNat_natCast, getD_of hlt, getD_of hlt2, drop_cons hlt, drop_cons hlt2, F14.spec hk (hv _ (List.getElem_mem hlt)), Option.bind_some]
    rw [show (l[i] :: l.drop (i + 1) == m[i] :: m.drop (i + 1)) = (l[i] == m[i] && l.drop (i + 1) == m.drop (i + 1)) from rfl]
    cases (l[i] == m[i]) with
    | false => rfl
    | true =>
      rw [Bool.not_true, cond_false, wrapN (by omega), Bool.true_and]
      exact ih n (i + 1) (by omega) (by omega) (by omega)
theorem F15.spec {k : Nat} (hk : 3000000 < k) {l m : List X_Value} (hl : l.length ≤ 2000000) (hv : ∀ v ∈ l, TV v) : F15.u k (l, m) = some (l == m) := by
  show F15.f (F14.u k) k l m = _
  rw [F15.f, F15.b]
  by_cases h : l.length = m.length
  · rw [show ((l.length : Int) != (m.length : Int)) = false by simp [h], cond_false]
    have := F15.l0_spec (k := k) hk h (by omega) hv l.length k 0 (by omega) (by omega) (by omega)
    rwa [List.drop_zero, List.drop_zero] at this
  · rw [show ((l.length : Int) != (m.length : Int)) = true by simp; omega, cond_true, beq_len h]
theorem F49.spec {k : Nat} (hk : 3000000 < k) {a b : X_Object} (ta : TO a) : ∃ r, F49.u k (a, b) = some r ∧ (r = true → a = b) := by
  show ∃ r, F49.f (F96.u k) (F16.u k) (F15.u k) k a b = some r ∧ _
  have h1 := ta.refs
  have h2 := ta.order
  have h3 := ta.names
  rw [F49.f, F49.b, F96.spec (by omega) (by omega), F96.spec (by omega) (by omega), F16.spec (by omega) (by omega), F15.spec hk ta.items ta.itemV, F15.spec hk ta.keys ta.keyV]
  simp only [Option.bind_some]
  cases e1 : (a.1 == b.1) with
  | false => exact ⟨_, rfl, fun h => by cases h⟩
  | true =>
  cases e2 : (a.2.1 == b.2.1) with
  | false => exact ⟨_, rfl, fun h => by cases h⟩
  | true =>
  cases e3 : (a.2.2.1 == b.2.2.1) with
  | false => exact ⟨_, rfl, fun h => by cases h⟩
  | true =>
  cases e4 : (a.2.2.2.2.2.2.2.2.1 == b.2.2.2.2.2.2.2.2.1) with
  | false => exact ⟨_, rfl, fun h => by cases h⟩
  | true =>
  cases e5 : (a.2.2.2.2.2.2.2.2.2 == b.2.2.2.2.2.2.2.2.2) with
  | false => exact ⟨_, rfl, fun h => by cases h⟩
  | true =>
  cases e6 : (a.2.2.2.1 == b.2.2.2.1) with
  | false => exact ⟨_, rfl, fun h => by cases h⟩
  | true =>
  cases e7 : (a.2.2.2.2.1 == b.2.2.2.2.1) with
  | false => exact ⟨_, rfl, fun h => by cases h⟩
  | true =>
  cases e8 : (a.2.2.2.2.2.1 == b.2.2.2.2.2.1) with
  | false => exact ⟨_, rfl, fun h => by cases h⟩
  | true =>
  cases e9 : (a.2.2.2.2.2.2.1 == b.2.2.2.2.2.2.1) with
  | false => exact ⟨_, rfl, fun h => by cases h⟩
  | true =>
  cases e10 : (a.2.2.2.2.2.2.2.1 == b.2.2.2.2.2.2.2.1) with
  | false => exact ⟨_, rfl, fun h => by cases h⟩
  | true =>
    refine ⟨_, rfl, fun _ => ?_⟩
    rw [beq_iff_eq] at e1 e2 e3 e4 e5 e6 e7 e8 e9 e10
    obtain ⟨a1, a2, a3, a4, a5, a6, a7, a8, a9, a10⟩ := a
    obtain ⟨b1, b2, b3, b4, b5, b6, b7, b8, b9, b10⟩ := b
    dsimp only at e1 e2 e3 e4 e5 e6 e7 e8 e9 e10
    rw [e1, e2, e3, e4, e5, e6, e7, e8, e9, e10]
/-! ### what kinds use -/
def usesL : List (List UInt8) := [[], [42], [42], [107, 58], [107, 48], [51], [49], [110, 99, 114, 100, 115, 42], [50], [110, 114, 97, 115, 61], [99, 97, 61], [110, 97, 61], [51], [49], [49], [50], [115, 50], [110, 100, 115, 42], [115, 48], [115, 50], [49]]
theorem uses_split : splitF [32, 42, 32, 42, 32, 107, 58, 32, 107, 48, 32, 51, 32, 49, 32, 110, 99, 114, 100, 115, 42, 32, 50, 32, 110, 114, 97, 115, 61, 32, 99, 97, 61, 32, 110, 97, 61, 32, 51, 32, 49, 32, 49, 32, 50, 32, 115, 50, 32, 110, 100, 115, 42, 32, 115, 48, 32, 115, 50, 32, 49] [32] = usesL := by kernel_rfl
theorem F108.spec {k : Nat} {m : Nat} (hm : m < 21) : F108.u k (m : Int) = some (usesL.getD m []) := by
  show F108.f (F151.u k) k (m : Int) = _
  rw [F108.f, F108.b, F151.u, if_pos ⟨by simp, by simp⟩, Option.bind_some]
  dsimp only
  rw [uses_split, if_pos ⟨by omega, by rw [show usesL.length = 21 from rfl]; omega⟩, Int.toNat_natCast]
theorem uses_short {m : Nat} : (usesL.getD m []).length ≤ 6 := by
  by_cases h : m < 21
  · have : ∀ j : Fin 21, (usesL.getD j.1 []).length ≤ 6 := by decide
    exact this ⟨m, h⟩
  · rw [show usesL.getD m [] = [] by simp [List.getD, List.getElem?_eq_none (show usesL.length ≤ m by rw [show usesL.length = 21 from rfl]; omega)]]; simp
theorem F110.tot {k : Nat} (m : Int) : Tot (F110.u k m) := by
  show Tot (F110.f  k m)
  rw [F110.f, F110.b]
  repeat' apply tot_cond
  all_goals exact tot_some _
theorem contains_tot {k : Nat} {u t : List UInt8} (h : u.length ≤ 4000000) : Tot (F109.u k (u, t)) := by
  rw [F109.u, if_pos (by dsimp only; omega)]
  exact tot_some _
/-- the fields that an object's kind uses -/
structure Us (o : X_Object) : Prop where
  names : o.2.2.2.2.2.1 ≠ [] → o.1 = 9 ∨ o.1 = 10 ∨ o.1 = 11
  keys : o.2.2.2.2.2.2.2.1 ≠ [] → o.1 = 3 ∨ o.1 = 4
/-- how many items an object of a kind has -/
structure Cnt0 (o : X_Object) : Prop where
  three : o.1 = 5 ∨ o.1 = 12 → o.2.2.2.2.2.2.1.length = 3
  one : o.1 = 6 ∨ o.1 = 13 ∨ o.1 = 14 ∨ o.1 = 20 → o.2.2.2.2.2.2.1.length = 1
  two : o.1 = 8 ∨ o.1 = 15 ∨ o.1 = 16 ∨ o.1 = 19 → o.2.2.2.2.2.2.1.length = 2
  named : o.1 = 9 ∨ o.1 = 10 ∨ o.1 = 11 → o.2.2.2.2.2.2.1.length = o.2.2.2.2.2.1.length
  keyed : o.1 = 3 → o.2.2.2.2.2.2.1.length = o.2.2.2.2.2.2.2.1.length
  none : o.1 = 0 ∨ o.1 = 4 ∨ o.1 = 18 → o.2.2.2.2.2.2.1.length = 0
structure Cnt (o : X_Object) : Prop extends Cnt0 o where
  us : Us o
theorem letter_names : ∀ m : Fin 21, Lib.contains (usesL.getD m.1 []) [97] = true → m.1 = 9 ∨ m.1 = 10 ∨ m.1 = 11 := by decide
theorem letter_keys : ∀ m : Fin 21, Lib.contains (usesL.getD m.1 []) [107] = true → m.1 = 3 ∨ m.1 = 4 := by decide
theorem F71.g22_spec {k : Nat} (hk : 0 < k) (o : X_Object) (c : Int) : ∃ r, F71.g22 (F108.u k) (F109.u k) (F110.u k) k o c = some r ∧ (r = 0 → (o.2.2.2.2.2.2.1.length : Int) = c) := by
  rw [F71.g22, gate_pos hk, F71.b_g22]
  by_cases h : (o.2.2.2.2.2.2.1.length : Int) = c
  · rw [show ((o.2.2.2.2.2.2.1.length : Int) != c) = false by simpa using h, cond_false]
    have T : Tot (bif decide (o.2.2.2.2.2.2.2.2.1 < 0) then some (6 : Int) else bif decide (o.2.2.2.2.2.2.2.2.2 < 0) then some 6 else (F110.u k o.1).bind fun y3 => bif decide (o.2.2.2.2.2.2.2.2.2 > y3) then some 6 else bif o.1 != 9 then bif decide ((o.2.2.2.2.1.length : Int) > 0) then some 6 else some 0 else some 0) := by
      refine tot_cond (tot_some _) (tot_cond (tot_some _) (tot_bind (F110.tot _) fun y _ => ?_))
      repeat' apply tot_cond
      all_goals exact tot_some _
    obtain ⟨y, hy⟩ := T
    exact ⟨y, hy, fun _ => h⟩
  · rw [show ((o.2.2.2.2.2.2.1.length : Int) != c) = true by simpa using h, cond_true]
    exact ⟨6, rfl, fun h => by cases h⟩
theorem F71.l0_spec {k : Nat} (hk : 0 < k) {o : X_Object} {m : Nat} (hm : m < 21) (ho : o.1 = (m : Int)) {l7 : List UInt8} (h7 : l7.length = 7) {b7 : List Bool} (hb : b7.length = 7) :
    ∀ (d n i : Nat), 7 - i = d → d < n → i ≤ 7 → ∃ c, F71.l0 (F108.u k) (F109.u k) (F110.u k) k n o (usesL.getD m []) l7 b7 7 (i : Int) = some c ∧ (c = 0 → Cnt0 o ∧ ∀ j, i ≤ j → j < 7 → b7.getD j false = false → Lib.contains (usesL.getD m []) [l7.getD j 0] = true) := by
  intro d
  induction d with
  | zero =>
    intro n i hd hn hi
    obtain ⟨n, rfl⟩ : ∃ m, n = m + 1 := ⟨n - 1, by omega⟩
    rw [F71.l0, F71.q_l0, F71.c_l0, decide_eq_false (by omega), cond_false]
    have key : ∀ c, (∃ r, F71.g22 (F108.u k) (F109.u k) (F110.u k) k o c = some r ∧ (r = 0 → Cnt0 o)) ∨ ¬ ((o.2.2.2.2.2.2.1.length : Int) = c → Cnt0 o) := by
      intro c
      obtain ⟨r, h1, h2⟩ := F71.g22_spec hk o c
      by_cases h : (o.2.2.2.2.2.2.1.length : Int) = c → Cnt0 o
      · exact .inl ⟨r, h1, fun h0 => h (h2 h0)⟩
      · exact .inr h
    have mk : ∀ c, ((o.2.2.2.2.2.2.1.length : Int) = c → Cnt0 o) → ∃ r, F71.g22 (F108.u k) (F109.u k) (F110.u k) k o c = some r ∧ (r = 0 → Cnt0 o ∧ ∀ j, i ≤ j → j < 7 → b7.getD j false = false → Lib.contains (usesL.getD m []) [l7.getD j 0] = true) := fun c hc => by
      obtain ⟨r, h1, h2⟩ := (key c).resolve_right (fun h => h hc)
      exact ⟨r, h1, fun h0 => ⟨h2 h0, fun j h3 h4 => by omega⟩⟩
    have cases21 : m = 0 ∨ m = 1 ∨ m = 2 ∨ m = 3 ∨ m = 4 ∨ m = 5 ∨ m = 6 ∨ m = 7 ∨ m = 8 ∨ m = 9 ∨ m = 10 ∨ m = 11 ∨ m = 12 ∨ m = 13 ∨ m = 14 ∨ m = 15 ∨ m = 16 ∨ m = 17 ∨ m = 18 ∨ m = 19 ∨ m = 20 := by omega
    rcases cases21 with rfl | rfl | rfl | rfl | rfl | rfl | rfl | rfl | rfl | rfl | rfl | rfl | rfl | rfl | rfl | rfl | rfl | rfl | rfl | rfl | rfl
    · exact mk 0 fun hc => ⟨fun h => by omega, fun h => by omega, fun h => by omega, fun h => by omega, fun h => by omega, fun h => by omega⟩
    · exact mk ((o.2.2.2.2.2.2.1.length : Nat) : Int) fun hc => ⟨fun h => by omega, fun h => by omega, fun h => by omega, fun h => by omega, fun h => by omega, fun h => by omega⟩
    · exact mk ((o.2.2.2.2.2.2.1.length : Nat) : Int) fun hc => ⟨fun h => by omega, fun h => by omega, fun h => by omega, fun h => by omega, fun h => by omega, fun h => by omega⟩
    · exact mk ((o.2.2.2.2.2.2.2.1.length : Nat) : Int) fun hc => ⟨fun h => by omega, fun h => by omega, fun h => by omega, fun h => by omega, fun h => by omega, fun h => by omega⟩
    · exact mk 0 fun hc => ⟨fun h => by omega, fun h => by omega, fun h => by omega, fun h => by omega, fun h => by omega, fun h => by omega⟩
    · exact mk 3 fun hc => ⟨fun h => by omega, fun h => by omega, fun h => by omega, fun h => by omega, fun h => by omega, fun h => by omega⟩
    · exact mk 1 fun hc => ⟨fun h => by omega, fun h => by omega, fun h => by omega, fun h => by omega, fun h => by omega, fun h => by omega⟩
    · exact mk ((o.2.2.2.2.2.2.1.length : Nat) : Int) fun hc => ⟨fun h => by omega, fun h => by omega, fun h => by omega, fun h => by omega, fun h => by omega, fun h => by omega⟩
    · exact mk 2 fun hc => ⟨fun h => by omega, fun h => by omega, fun h => by omega, fun h => by omega, fun h => by omega, fun h => by omega⟩
    · exact mk ((o.2.2.2.2.2.1.length : Nat) : Int) fun hc => ⟨fun h => by omega, fun h => by omega, fun h => by omega, fun h => by omega, fun h => by omega, fun h => by omega⟩
    · exact mk ((o.2.2.2.2.2.1.length : Nat) : Int) fun hc => ⟨fun h => by omega, fun h => by omega, fun h => by omega, fun h => by omega, fun h => by omega, fun h => by omega⟩
    · exact mk ((o.2.2.2.2.2.1.length : Nat) : Int) fun hc => ⟨fun h => by omega, fun h => by omega, fun h => by omega, fun h => by omega, fun h => by omega, fun h => by omega⟩
    · exact mk 3 fun hc => ⟨fun h => by omega, fun h => by omega, fun h => by omega, fun h => by omega, fun h => by omega, fun h => by omega⟩
    · exact mk 1 fun hc => ⟨fun h => by omega, fun h => by omega, fun h => by omega, fun h => by omega, fun h => by omega, fun h => by omega⟩
    · exact mk 1 fun hc => ⟨fun h => by omega, fun h => by omega, fun h => by omega, fun h => by omega, fun h => by omega, fun h => by omega⟩
    · exact mk 2 fun hc => ⟨fun h => by omega, fun h => by omega, fun h => by omega, fun h => by omega, fun h => by omega, fun h => by omega⟩
    · exact mk 2 fun hc => ⟨fun h => by omega, fun h => by omega, fun h => by omega, fun h => by omega, fun h => by omega, fun h => by omega⟩
    · exact mk ((o.2.2.2.2.2.2.1.length : Nat) : Int) fun hc => ⟨fun h => by omega, fun h => by omega, fun h => by omega, fun h => by omega, fun h => by omega, fun h => by omega⟩
    · exact mk 0 fun hc => ⟨fun h => by omega, fun h => by omega, fun h => by omega, fun h => by omega, fun h => by omega, fun h => by omega⟩
    · exact mk 2 fun hc => ⟨fun h => by omega, fun h => by omega, fun h => by omega, fun h => by omega, fun h => by omega, fun h => by omega⟩
    · exact mk 1 fun hc => ⟨fun h => by omega, fun h => by omega, fun h => by omega, fun h => by omega, fun h => by omega, fun h => by omega⟩
  | succ d ih =>
    intro n i hd hn hi
    obtain ⟨n, rfl⟩ : ∃ m, n = m + 1 := ⟨n - 1, by omega⟩
    obtain ⟨c, hc⟩ := ih n (i + 1) (by omega) (by omega) (by omega)
    rw [F71.l0, F71.q_l0, F71.c_l0, decide_eq_true (by omega), cond_true, if_pos ⟨by omega, by omega⟩, wrapN (by omega), if_pos ⟨by omega, by omega, by omega⟩]
    rw [Nat.zero_add, Int.toNat_natCast]
    have up : b7.getD i false = true ∨ Lib.contains (usesL.getD m []) [l7.getD i 0] = true → (c = 0 → Cnt0 o ∧ ∀ j, i ≤ j → j < 7 → b7.getD j false = false → Lib.contains (usesL.getD m []) [l7.getD j 0] = true) := fun hh h0 => by
      obtain ⟨x, y⟩ := hc.2 h0
      refine ⟨x, fun j h1 h2 h3 => ?_⟩
      by_cases hij : j = i
      · subst hij
        rcases hh with hh | hh
        · rw [hh] at h3; cases h3
        · exact hh
      · exact y j (by omega) h2 h3
    cases hb7 : b7.getD i false with
    | true => exact ⟨c, hc.1, up (.inl hb7)⟩
    | false =>
      have ht : List.drop i (List.take (Int.toNat ((i + 1 : Nat) : Int)) l7) = [l7.getD i 0] := by
        rw [Int.toNat_natCast, List.drop_take, show i + 1 - i = 1 by omega, drop_cons (show i < l7.length by omega), List.take_succ_cons, List.take_zero, getD_of (show i < l7.length by omega)]
      have hs := uses_short (m := m)
      rw [Bool.not_false, cond_true, ht, F109.u, if_pos (by dsimp only; omega), Option.bind_some]
      cases hy : Lib.contains (usesL.getD m []) [l7.getD i 0] with
      | false => exact ⟨6, rfl, fun h => by cases h⟩
      | true => exact ⟨c, hc.1, up (.inr hy)⟩
theorem F71.spec {k : Nat} (hk : 100 < k) {h : X_Heap} {i : Nat} (hi : i < h.length) (h0 : 0 ≤ (hob h i).1) (h21 : (hob h i).1 < 21) : ∃ c, F71.u k (h, (i : Int)) = some c ∧ (c = 0 → Cnt (hob h i)) := by
  obtain ⟨m, hm⟩ : ∃ m : Nat, (hob h i).1 = (m : Int) := ⟨(hob h i).1.toNat, by omega⟩
  show ∃ c, F71.f (F108.u k) (F109.u k) (F110.u k) k h (i : Int) = some c ∧ _
  rw [F71.f, F71.b, if_pos ⟨by omega, by omega⟩, Int.toNat_natCast, show h.getD i Z_Object = hob h i from rfl, hm, F108.spec (by omega), Option.bind_some]
  obtain ⟨c, hc, hc2⟩ := F71.l0_spec (k := k) (by omega) (o := hob h i) (m := m) (by omega) hm (l7 := [110, 99, 114, 97, 107, 100, 115]) rfl (b7 := [(hob h i).2.1 == [], (hob h i).2.2.1 == 0, ((hob h i).2.2.2.1.length : Int) == 0, ((hob h i).2.2.2.2.2.1.length : Int) == 0, ((hob h i).2.2.2.2.2.2.2.1.length : Int) == 0, (hob h i).2.2.2.2.2.2.2.2.1 == 0, (hob h i).2.2.2.2.2.2.2.2.2 == 0]) rfl 7 k 0 rfl (by omega) (by omega)
  refine ⟨c, hc, fun hz => ?_⟩
  obtain ⟨x, y⟩ := hc2 hz
  refine { x with us := ⟨fun hn => ?_, fun hn => ?_⟩ }
  · have := letter_names ⟨m, by omega⟩ (y 3 (by omega) (by omega) (by
      show ((((hob h i).2.2.2.2.2.1.length : Nat) : Int) == 0) = false
      simpa using hn))
    simp only at this
    omega
  · have := letter_keys ⟨m, by omega⟩ (y 4 (by omega) (by omega) (by
      show ((((hob h i).2.2.2.2.2.2.2.1.length : Nat) : Int) == 0) = false
      simpa using hn))
    simp only at this
    omega
theorem F72.tot {k : Nat} (hk : BK k) {h : X_Heap} (t : TH h) {i : Nat} (hi : i < h.length) (h0 : 0 ≤ (hob h i).1) (h21 : (hob h i).1 < 21) : Tot (F72.u k (h, (i : Int))) := by
  have hk1 := bkN hk (n := 5000000) (by omega)
  obtain ⟨m, hm⟩ : ∃ m : Nat, (hob h i).1 = (m : Int) := ⟨(hob h i).1.toNat, by omega⟩
  show Tot (F72.f (F108.u k) (F109.u k) (F50.u k) (F111.u k) k h (i : Int))
  have g8 : ∀ o, Tot (F72.g8 (F108.u k) (F109.u k) (F50.u k) (F111.u k) k o) := by
    intro o
    rw [F72.g8, gate_pos (by omega), F72.b_g8]
    repeat' apply tot_cond
    all_goals exact tot_some _
  rw [F72.f, F72.b, if_pos ⟨by omega, by omega⟩, Int.toNat_natCast, show h.getD i Z_Object = hob h i from rfl]
  refine tot_bind (by rw [hm, F108.spec (by omega)]; exact tot_some _) fun y hy => tot_bind (contains_tot ?_) fun _ _ => tot_cond (tot_bind (F50.tot (by omega) _) fun _ _ => tot_cond (tot_bind (F111.tot hk (t.ob i).name) fun _ _ => tot_cond (tot_some _) (g8 _)) (tot_cond (tot_some _) (g8 _))) (g8 _)
  rw [hm, F108.spec (by omega)] at hy
  cases hy
  have := uses_short (m := m)
  omega
theorem F73.l0_tot {k : Nat} (hk : 3000000 < k) {l : List (List UInt8)} (hl : l.length ≤ 2000000) : ∀ (d n i : Nat), l.length - i = d → d < n → i ≤ l.length → Tot (F73.l0 (F50.u k) (F112.u k) k n l l (l.length : Int) (i : Int)) := by
  intro d
  induction d with
  | zero =>
    intro n i hd hn hi
    obtain ⟨n, rfl⟩ : ∃ m, n = m + 1 := ⟨n - 1, by omega⟩
    rw [F73.l0, F73.q_l0, F73.c_l0, decide_eq_false (by omega), cond_false]
    exact tot_some _
  | succ d ih =>
    intro n i hd hn hi
    obtain ⟨n, rfl⟩ : ∃ m, n = m + 1 := ⟨n - 1, by omega⟩
    rw [F73.l0, F73.q_l0, F73.c_l0, decide_eq_true (by omega), cond_true, if_pos ⟨by omega, by omega⟩, if_pos ⟨by omega, by omega⟩, wrapN (by omega)]
    refine tot_bind (F50.tot (by omega) _) fun _ _ => tot_cond (tot_some _) (tot_bind ⟨_, F112.spec ?_ ?_⟩ fun _ _ => tot_cond (tot_some _) (ih n (i + 1) (by omega) (by omega) (by omega)))
    · rw [List.length_take]; omega
    · rw [List.length_take]; omega
theorem F73.tot {k : Nat} (hk : 3000000 < k) {h : X_Heap} (t : TH h) {i : Nat} (hi : i < h.length) : Tot (F73.u k (h, (i : Int))) := by
  have ht := (t.ob i).names
  show Tot (F73.f (F50.u k) (F112.u k) k h (i : Int))
  rw [F73.f, F73.b, if_pos ⟨by omega, by omega⟩, Int.toNat_natCast, show h.getD i Z_Object = hob h i from rfl]
  exact F73.l0_tot hk ht _ k 0 rfl (by omega) (by omega)
/-! ### objects that exist -/
def isO (h : X_Heap) (n : Int) : Bool := decide (0 ≤ n) && (decide (n < (h.length : Int)) && (hob h n.toNat).1 != 0)
theorem isO_lt {h : X_Heap} {n : Int} (hi : isO h n = true) : 0 ≤ n ∧ n < (h.length : Int) ∧ (hob h n.toNat).1 ≠ 0 := by
  unfold isO at hi
  simp only [Bool.and_eq_true, decide_eq_true_eq, bne_iff_ne] at hi
  exact ⟨hi.1, hi.2.1, hi.2.2⟩
theorem F21.spec {k : Nat} {h : X_Heap} {n : Int} : F21.u k (h, n) = some (isO h n) := by
  show F21.f  k h n = _
  rw [F21.f, F21.b]
  unfold isO
  by_cases h0 : 0 ≤ n
  · rw [decide_eq_true (show n ≥ 0 from h0), cond_true, Bool.true_and]
    by_cases h1 : n < (h.length : Int)
    · rw [decide_eq_true h1, cond_true, if_pos ⟨h0, h1⟩, Bool.true_and]; rfl
    · rw [decide_eq_false h1, cond_false, Bool.false_and]
  · rw [decide_eq_false (show ¬ n ≥ 0 from h0), cond_false, Bool.false_and]
/-- the object of a value -/
def objV (h : X_Heap) (v : X_Value) : X_Object := bif decide (v.1 = 6) && isO h v.2.2.2.2 then hob h v.2.2.2.2.toNat else Z_Object
theorem TH.objV {h : X_Heap} (t : TH h) (v : X_Value) : TO (objV h v) := by
  unfold Go.Ab.objV
  cases (decide (v.1 = 6) && isO h v.2.2.2.2) with
  | true => exact t.ob _
  | false => exact to_z
theorem F54.spec {k : Nat} {h : X_Heap} {v : X_Value} : F54.u k (h, v) = some (objV h v) := by
  show F54.f (F21.u k) k h v = _
  rw [F54.f, F54.b, F21.spec, Option.bind_some]
  unfold objV
  by_cases h6 : v.1 = 6
  · rw [show (v.1 != 6) = false by simpa using h6, cond_false, decide_eq_true h6, Bool.true_and]
    cases hi : isO h v.2.2.2.2 with
    | false => rfl
    | true =>
      obtain ⟨h1, h2, _⟩ := isO_lt hi
      rw [Bool.not_true, cond_false, if_pos ⟨h1, h2⟩, cond_true]; rfl
  · rw [show (v.1 != 6) = true by simpa using h6, cond_true, decide_eq_false h6, Bool.false_and]
    rfl
end Go.Ab
