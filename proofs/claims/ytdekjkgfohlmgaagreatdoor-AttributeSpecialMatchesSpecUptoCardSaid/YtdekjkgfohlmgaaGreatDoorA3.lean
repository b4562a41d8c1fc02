/- The names of all attributes. -/
import Derived.Test.YtdekjkgfohlmgaaGreatDoorA2
import Derived.Test.YtdekjkgfohlmgaaGreatDoorU1
namespace Go.Ab
set_option linter.unusedVariables false
set_option linter.unusedSimpArgs false
/-! ### what more a heap that passed tells -/
/-- a method's function is a function -/
theorem HP.meth {h : X_Heap} (p : HP h) {j : Nat} (hj : j < h.length) (h8 : (hob h j).1 = 8) : fncV h ((hob h j).2.2.2.2.2.2.1.getD 0 Z_Value) = true := by
  have h49 : 49 ≤ j := by
    by_cases h49 : j < 49
    · have := (p.ok j hj hj).1 h49
      have q : ∀ j : Fin 49, (begL.getD j.1 Z_Object).1 = 9 := by decide
      rw [this, q ⟨j, h49⟩] at h8
      cases h8
    · omega
  obtain ⟨k, hk, _, _, hl, _⟩ := (p.raw j hj hj h49).ex
  have hk1 := bkN hk (n := 3000000) (by omega)
  have hc := (p.links hj (by omega)).2.1.two (.inl h8)
  have hl' : F75.f (F113.u k) (F56.u k) (F114.u k) (F115.u k) (F116.u k) (F117.u k) (F54.u k) (F21.u k) k h (j : Int) = some true := hl
  rw [F75.f, F75.b, if_pos ⟨by omega, by omega⟩, Int.toNat_natCast, show h.getD j Z_Object = hob h j from rfl, h8] at hl'
  simp only [show ((8 : Int) == 5) = false from rfl, show ((8 : Int) == 7) = false from rfl, show ((8 : Int) == 8) = true from rfl, cond_true, cond_false] at hl'
  rw [F75.g15, gate_pos (by omega), F75.q_g15, F75.c_g15, if_pos (by omega), F56.spec, Option.bind_some] at hl'
  injection hl'
/-- a class of the program's own is the first of its order -/
theorem HP.self {h : X_Heap} (p : HP h) {j : Nat} (hj : j < h.length) (h49 : 49 ≤ j) (h9 : (hob h j).1 = 9) : (j : Int) ∈ (hob h j).2.2.2.2.1 := by
  obtain ⟨k, hk, _, _, _, _, ho⟩ := (p.raw j hj hj h49).ex
  have hk1 := bkN hk (n := 3000000) (by omega)
  have tO := p.t.ob j
  have hrl := tO.refs
  have hol := tO.order
  have key : ∀ (d n i : Nat) (acc : List (List Int)), (hob h j).2.2.2.1.length - i = d → d < n → i ≤ (hob h j).2.2.2.1.length →
      F77.l0 (F120.u k) (F96.u k) k n (j : Int) h (hob h j) acc (hob h j).2.2.2.1 ((hob h j).2.2.2.1.length : Int) (i : Int) = some true → (j : Int) ∈ (hob h j).2.2.2.2.1 := by
    intro d
    induction d with
    | zero =>
      intro n i acc hd hn hi he
      obtain ⟨n, rfl⟩ : ∃ m, n = m + 1 := ⟨n - 1, by omega⟩
      rw [F77.l0, F77.q_l0, F77.c_l0, decide_eq_false (by omega), cond_false] at he
      cases hy : F120.u k acc with
      | none => rw [hy] at he; cases he
      | some y =>
        rw [hy, Option.bind_some] at he
        cases hz : (y.2.1 == 0) with
        | false => rw [hz] at he; cases he
        | true =>
          rw [hz, cond_true] at he
          split at he
          · rw [F96.spec (by omega) (by omega), Option.bind_some] at he
            have he2 : ((hob h j).2.2.2.2.1 == [(j : Int)] ++ y.1) = true := by injection he
            rw [beq_iff_eq] at he2
            rw [he2]
            simp
          · cases he
    | succ d ih =>
      intro n i acc hd hn hi he
      obtain ⟨n, rfl⟩ : ∃ m, n = m + 1 := ⟨n - 1, by omega⟩
      rw [F77.l0, F77.q_l0, F77.c_l0, decide_eq_true (by omega), cond_true, if_pos ⟨by omega, by omega⟩] at he
      split at he
      · split at he
        · rw [wrapN (by omega)] at he
          exact ih n (i + 1) _ (by omega) (by omega) (by omega) he
        · cases he
      · cases he
  have ho' : F77.f (F120.u k) (F96.u k) k h (j : Int) = some true := ho
  rw [F77.f, F77.b, if_pos ⟨by omega, by omega⟩, Int.toNat_natCast, show h.getD j Z_Object = hob h j from rfl, ineF h9, cond_false] at ho'
  exact key _ k 0 [] rfl (by omega) (by omega) ho'
/-! ### built-in methods -/
def QL (x : Option (List (List UInt8))) : Prop := ∃ l, x = some l ∧ l.length ≤ 100
theorem ql_cond {c : Bool} {x y : Option (List (List UInt8))} (hx : QL x) (hy : QL y) : QL (bif c then x else y) := by cases c <;> assumption
theorem ql_fields {k : Nat} {s : List UInt8} (h : (decide (s.length < 4294967281) && (s.all (fun b => decide (b.toNat < 128)) && decide ((Lib.fields s).length ≤ 100))) = true) : QL ((F66.u k s).bind fun y => some y) := by
  simp only [Bool.and_eq_true, decide_eq_true_eq] at h
  exact ⟨Lib.fields s, by rw [F66.u, if_pos ⟨h.1, h.2.1⟩]; rfl, h.2.2⟩
theorem methods_ql (k : Nat) (c : Int) : QL (F19.u k c) := by
  show QL (F19.f (F66.u k) k c)
  rw [F19.f, F19.q, F19.c]
  repeat' apply ql_cond
  all_goals first | exact ⟨_, rfl, by decide⟩ | exact ql_fields (by kernel_rfl)
def mthL (c : Int) : List (List UInt8) := (F19.u 0 c).getD []
theorem F19.spec {k : Nat} {c : Int} : F19.u k c = some (mthL c) ∧ (mthL c).length ≤ 100 := by
  obtain ⟨l, hl, h2⟩ := methods_ql 0 c
  have e : F19.u k c = F19.u 0 c := rfl
  unfold mthL
  rw [e, hl]
  exact ⟨rfl, h2⟩
theorem F20.spec {k : Nat} {c : Int} : F20.u k c = some (mthL c) := by
  rw [← (F19.spec (k := k) (c := c)).1]
  rfl
/-! ### names -/
def namesOf (h : X_Heap) (l : List Int) : List (List UInt8) := l.flatMap fun c => (hob h c.toNat).2.2.2.2.2.1
theorem namesOf_len {h : X_Heap} (t : TH h) : ∀ l : List Int, (namesOf h l).length ≤ l.length * 2000000
  | [] => by simp [namesOf]
  | c :: l => by
    have h1 := namesOf_len t l
    have h2 := (t.ob c.toNat).names
    unfold namesOf at h1 ⊢
    rw [List.flatMap_cons, List.length_append, List.length_cons, Nat.succ_mul]
    omega
theorem F17.l1_spec {k : Nat} {h : X_Heap} (t : TH h) {l : List Int} (hl : l.length ≤ 2000000) (hv : ∀ m ∈ l, 0 ≤ m ∧ m < (h.length : Int)) : ∀ (d n i : Nat) (acc : List (List UInt8)), l.length - i = d → d < n → i ≤ l.length → acc.length ≤ 3000000 + i * 2000000 →
    F17.l1 (F51.u k) (F27.u k) (F62.u k) (F60.u k) (F19.u k) k n h acc l (l.length : Int) (i : Int) = some (uniqS (acc ++ namesOf h (l.drop i))) := by
  intro d
  induction d with
  | zero =>
    intro n i acc hd hn hi ha
    obtain ⟨n, rfl⟩ : ∃ m, n = m + 1 := ⟨n - 1, by omega⟩
    rw [F17.l1, F17.q_l1, F17.c_l1, decide_eq_false (by omega), cond_false, if_pos ⟨by omega, by omega⟩, F62.spec]
    rw [List.take_zero, List.nil_append, List.drop_length, List.append_nil, List.take_of_length_le (by rw [sortS_length]; exact Nat.le_refl _), List.drop_of_length_le (l := l) (by omega), show namesOf h [] = [] from rfl, List.append_nil]
    rfl
  | succ d ih =>
    intro n i acc hd hn hi ha
    obtain ⟨n, rfl⟩ : ∃ m, n = m + 1 := ⟨n - 1, by omega⟩
    have hlt : i < l.length := by omega
    have hm := hv _ (List.getElem_mem hlt)
    have hnm := (t.ob (l[i]).toNat).names
    rw [F17.l1, F17.q_l1, F17.c_l1, decide_eq_true (by omega), cond_true, if_pos ⟨by omega, by omega⟩, Int.toNat_natCast, getD_of hlt, if_pos hm, show h.getD (l[i]).toNat Z_Object = hob h (l[i]).toNat from rfl, if_pos (by simp only [LIM]; omega), wrapN (by omega),
      ih n (i + 1) _ (by omega) (by omega) (by omega) (by rw [List.length_append]; omega), drop_cons hlt, namesOf, namesOf, List.flatMap_cons, List.append_assoc]
theorem F65.spec {k : Nat} {l : List (List UInt8)} (hl : l.length * 16 ≤ LIM) : F65.u k l = some (uniqS l) := by
  have hl2 : l.length ≤ 4611686018427387903 := by simp only [LIM] at hl; omega
  show F65.f _ _ k l = _
  rw [F65.f, F65.q, F65.c, F27.spec hl, Option.bind_some, if_pos ⟨by omega, hl2⟩, F62.spec]
  rw [List.take_zero, List.nil_append, List.drop_length, List.append_nil, List.take_of_length_le (by rw [sortS_length]; exact Nat.le_refl _)]
  rfl
theorem F18.l1_spec {k : Nat} {h : X_Heap} (t : TH h) {l : List Int} (hl : l.length ≤ 2000000) (hv : ∀ m ∈ l, 0 ≤ m ∧ m < (h.length : Int)) : ∀ (d n i : Nat) (acc : List (List UInt8)), l.length - i = d → d < n → i ≤ l.length → acc.length ≤ 3000000 + i * 2000000 →
    F18.l1 (F54.u k) (F27.u k) (F65.u k) (F63.u k) (F20.u k) (F64.u k) k n h acc l (l.length : Int) (i : Int) = some (uniqS (acc ++ namesOf h (l.drop i))) := by
  intro d
  induction d with
  | zero =>
    intro n i acc hd hn hi ha
    obtain ⟨n, rfl⟩ : ∃ m, n = m + 1 := ⟨n - 1, by omega⟩
    rw [F18.l1, F18.q_l1, F18.c_l1, decide_eq_false (by omega), cond_false, F65.spec (by simp only [LIM]; omega), List.drop_of_length_le (by omega), show namesOf h [] = [] from rfl, List.append_nil]
    rfl
  | succ d ih =>
    intro n i acc hd hn hi ha
    obtain ⟨n, rfl⟩ : ∃ m, n = m + 1 := ⟨n - 1, by omega⟩
    have hlt : i < l.length := by omega
    have hm := hv _ (List.getElem_mem hlt)
    have hnm := (t.ob (l[i]).toNat).names
    rw [F18.l1, F18.q_l1, F18.c_l1, decide_eq_true (by omega), cond_true, if_pos ⟨by omega, by omega⟩, Int.toNat_natCast, getD_of hlt, if_pos hm, show h.getD (l[i]).toNat Z_Object = hob h (l[i]).toNat from rfl, if_pos (by simp only [LIM]; omega), wrapN (by omega),
      ih n (i + 1) _ (by omega) (by omega) (by omega) (by rw [List.length_append]; omega), drop_cons hlt, namesOf, namesOf, List.flatMap_cons, List.append_assoc]
theorem F64.spec {h : X_Heap} (p : HP h) {v : X_Value} {k : Nat} : ∃ t, F64.u (k + 2) (h, v) = some (t, v.1 == 7 || ((objV h v).1 == 7 || (objV h v).1 == 8)) := by
  show ∃ t, F64.f (F54.u (k + 2)) (F64.u (k + 1)) (k + 2) h v = _
  rw [F64.f, F64.q, F64.c]
  cases v.1 == 7 with
  | true => exact ⟨_, rfl⟩
  | false =>
    rw [cond_false, F54.spec, Option.bind_some]
    cases h7 : (objV h v).1 == 7 with
    | true => exact ⟨_, rfl⟩
    | false =>
      rw [cond_false]
      cases h8 : (objV h v).1 == 8 with
      | false => exact ⟨_, rfl⟩
      | true =>
        have h8' : (objV h v).1 = 8 := by simpa using h8
        obtain ⟨_, _, e, hj⟩ := objV_lt (h := h) (v := v) (by omega)
        have hc := (p.cnt (v := v) (by omega) (by omega)).two (.inl h8')
        have hm := p.meth hj (by rw [← e]; exact h8')
        rw [← e] at hm
        rw [cond_true, if_pos (by omega)]
        have : ∃ t, F64.u (k + 1) (h, (objV h v).2.2.2.2.2.2.1.getD 0 Z_Value) = some (t, true) := by
          show ∃ t, F64.f (F54.u (k + 1)) (F64.u k) (k + 1) h _ = _
          rw [F64.f, F64.q, F64.c]
          unfold fncV at hm
          cases ha : ((objV h v).2.2.2.2.2.2.1.getD 0 Z_Value).1 == 7 with
          | true => exact ⟨_, rfl⟩
          | false =>
            rw [ha, Bool.false_or] at hm
            rw [cond_false, F54.spec, Option.bind_some, hm]
            exact ⟨_, rfl⟩
        obtain ⟨t, ht⟩ := this
        exact ⟨t, by rw [ht]; rfl⟩
theorem objV_named {h : X_Heap} (p : HP h) {v : X_Value} (h9 : (objV h v).1 ≠ 9) (h10 : (objV h v).1 ≠ 10) (h11 : (objV h v).1 ≠ 11) : (objV h v).2.2.2.2.2.1 = [] := by
  by_cases h0 : (objV h v).1 = 0
  · by_cases h6 : v.1 = 6
    · cases hi : isO h v.2.2.2.2 with
      | true => rw [objV_ref h6 hi] at h0; exact absurd h0 (isO_lt hi).2.2
      | false => unfold objV; rw [hi, Bool.and_false]; rfl
    · rw [objV_not h6]
  · by_cases hn : (objV h v).2.2.2.2.2.1 = []
    · exact hn
    · have := (p.cnt h0 h9).us.names hn
      omega
/-- the names, sorted -/
def namS (h : X_Heap) (v : X_Value) : List (List UInt8) :=
  bif (objV h v).1 == 10 then uniqS ((objV h v).2.2.2.2.2.1 ++ namesOf h (hob h (objV h v).2.2.1.toNat).2.2.2.2.1) else bif (objV h v).1 == 9 then uniqS ([[110, 97, 109, 101], [111, 114, 100, 101, 114]] ++ namesOf h (objV h v).2.2.2.2.1) else bif (objV h v).1 == 11 then uniqS (objV h v).2.2.2.2.2.1 else
  uniqS (mthL (clV h v) ++ bif v.1 == 7 || ((objV h v).1 == 7 || (objV h v).1 == 8) then [[110, 97, 109, 101]] else [])
theorem F17.spec {k : Nat} (hk : 3000000 < k) {h : X_Heap} (p : HP h) {v : X_Value} (vi : VI h v) (kd : 0 ≤ v.1 ∧ v.1 ≤ 8) : F17.u k (h, v) = some (namS h v) := by
  have tO := p.t.objV v
  have hn := tO.names
  show F17.f _ _ _ _ _ k h v = _
  rw [F17.f, F17.q, F17.c, F51.spec vi, Option.bind_some, F27.spec (by simp only [LIM]; omega), Option.bind_some]
  unfold namS
  by_cases h10 : (objV h v).1 = 10
  · have hc := isO_lt (objV_cls p h10)
    have ho := (p.t.ob (objV h v).2.2.1.toNat).order
    rw [ieqT h10, cond_true, cond_true, if_pos ⟨hc.1, hc.2.1⟩, show h.getD (objV h v).2.2.1.toNat Z_Object = hob h (objV h v).2.2.1.toNat from rfl]
    exact F17.l1_spec p.t ho (p.ords (by omega)) _ k 0 _ rfl (by omega) (by omega) (by omega)
  · rw [ieqF h10, cond_false, cond_false]
    by_cases h9 : (objV h v).1 = 9
    · obtain ⟨_, _, e, hj⟩ := objV_lt (h := h) (v := v) (by omega)
      have ho := (p.t.objV v).order
      rw [ieqT h9, cond_true, cond_true, if_pos (by simp only [LIM, List.length_take, List.length_cons, List.length_nil]; omega)]
      have := F17.l1_spec (k := k) p.t ho (by rw [e]; exact p.ords hj) _ k 0 ((objV h v).2.2.2.2.2.1 ++ List.take 2 [[110, 97, 109, 101], [111, 114, 100, 101, 114]]) rfl (by omega) (by omega) (by simp; omega)
      refine this.trans ?_
      rw [List.drop_zero]
      congr 1
      refine uniqS_congr fun x => ?_
      simp only [List.mem_append, show List.take 2 [[110, 97, 109, 101], [111, 114, 100, 101, 114]] = [([110, 97, 109, 101] : List UInt8), [111, 114, 100, 101, 114]] from rfl]
      constructor
      · rintro ((hx | hx) | hx)
        · right
          have h49 : 49 ≤ v.2.2.2.2.toNat := by
            by_cases h49 : v.2.2.2.2.toNat < 49
            · rw [e, (p.ok _ hj hj).1 h49, begL_bare] at hx; cases hx
            · omega
          refine List.mem_flatMap.2 ⟨_, by rw [e]; exact p.self hj h49 (by rw [← e]; exact h9), ?_⟩
          rw [Int.toNat_natCast, ← e]
          exact hx
        · exact .inl hx
        · exact .inr hx
      · rintro (hx | hx)
        · exact .inl (.inr hx)
        · exact .inr hx
    · rw [ieqF h9, cond_false, cond_false]
      by_cases h11 : (objV h v).1 = 11
      · rw [ieqT h11, cond_true, cond_true]
        have := F17.l1_spec (k := k) p.t (l := []) (by simp) (fun m hm => by cases hm) _ k 0 (objV h v).2.2.2.2.2.1 rfl (by simp; omega) (by simp) (by omega)
        refine this.trans ?_
        rw [show namesOf h (List.drop 0 []) = [] from rfl, List.append_nil]
      · obtain ⟨m1, m2⟩ := F19.spec (k := k) (c := clV h v)
        rw [ieqF h11, cond_false, cond_false, F60.spec p vi kd, Option.bind_some, m1, Option.bind_some, objV_named p h9 h10 h11, List.nil_append, if_pos (by simp only [LIM, List.length_nil]; omega)]
        have fin : ∀ acc : List (List UInt8), acc.length ≤ 3000000 → F17.l1 (F51.u k) (F27.u k) (F62.u k) (F60.u k) (F19.u k) k k h acc [] 0 0 = some (uniqS acc) := fun acc ha => by
          have := F17.l1_spec (k := k) p.t (l := []) (by simp) (fun m hm => by cases hm) _ k 0 acc rfl (by simp; omega) (by simp) (by omega)
          refine this.trans ?_
          rw [show namesOf h (List.drop 0 []) = [] from rfl, List.append_nil]
        have lim1 : ((mthL (clV h v)).length + ([[110, 97, 109, 101]] : List (List UInt8)).length) * 16 ≤ LIM := by simp only [LIM, List.length_cons, List.length_nil]; omega
        have l1 : (mthL (clV h v) ++ [[110, 97, 109, 101]]).length ≤ 3000000 := by rw [List.length_append]; simp only [List.length_cons, List.length_nil]; omega
        cases v.1 == 7 with
        | true => rw [cond_true, if_pos lim1, fin _ l1]; rfl
        | false =>
          cases (objV h v).1 == 7 with
          | true => rw [cond_false, cond_true, if_pos lim1, fin _ l1]; rfl
          | false =>
            cases (objV h v).1 == 8 with
            | true => rw [cond_false, cond_false, cond_true, if_pos lim1, fin _ l1]; rfl
            | false => rw [cond_false, cond_false, cond_false, fin _ (by omega)]; simp
theorem F18.spec {k : Nat} (hk : 3000000 < k) {h : X_Heap} (p : HP h) {v : X_Value} (vi : VI h v) (kd : 0 ≤ v.1 ∧ v.1 ≤ 8) : F18.u k (h, v) = some (namS h v) := by
  have tO := p.t.objV v
  have hn := tO.names
  have fin : ∀ acc : List (List UInt8), acc.length ≤ 3000000 → F18.l1 (F54.u k) (F27.u k) (F65.u k) (F63.u k) (F20.u k) (F64.u k) k k h acc [] 0 0 = some (uniqS acc) := fun acc ha => by
    have := F18.l1_spec (k := k) p.t (l := []) (by simp) (fun m hm => by cases hm) _ k 0 acc rfl (by simp; omega) (by simp) (by omega)
    refine this.trans ?_
    rw [show namesOf h (List.drop 0 []) = [] from rfl, List.append_nil]
  show F18.f _ _ _ _ _ _ k h v = _
  rw [F18.f, F18.q, F18.c, F54.spec, Option.bind_some]
  unfold namS
  by_cases h10 : (objV h v).1 = 10
  · have hc := isO_lt (objV_cls p h10)
    have ho := (p.t.ob (objV h v).2.2.1.toNat).order
    rw [ieqT h10, cond_true, cond_true, F27.spec (by simp only [LIM]; omega), Option.bind_some, if_pos ⟨hc.1, hc.2.1⟩, show h.getD (objV h v).2.2.1.toNat Z_Object = hob h (objV h v).2.2.1.toNat from rfl]
    exact F18.l1_spec p.t ho (p.ords (by omega)) _ k 0 _ rfl (by omega) (by omega) (by omega)
  · rw [ieqF h10, cond_false, cond_false]
    by_cases h9 : (objV h v).1 = 9
    · obtain ⟨_, _, e, hj⟩ := objV_lt (h := h) (v := v) (by omega)
      have ho := (p.t.objV v).order
      rw [ieqT h9, cond_true, cond_true]
      exact F18.l1_spec (k := k) p.t ho (by rw [e]; exact p.ords hj) _ k 0 [[110, 97, 109, 101], [111, 114, 100, 101, 114]] rfl (by omega) (by omega) (by simp)
    · rw [ieqF h9, cond_false, cond_false]
      by_cases h11 : (objV h v).1 = 11
      · rw [ieqT h11, cond_true, cond_true, F27.spec (by simp only [LIM]; omega), Option.bind_some]
        exact fin _ (by omega)
      · obtain ⟨m1, m2⟩ := F19.spec (k := k) (c := clV h v)
        obtain ⟨t, ht⟩ := F64.spec p (v := v) (k := k - 2)
        rw [show k - 2 + 2 = k by omega] at ht
        rw [ieqF h11, cond_false, cond_false, F63.spec p vi kd, Option.bind_some, F20.spec, Option.bind_some, F27.spec (by simp only [LIM]; omega), Option.bind_some, ht, Option.bind_some]
        dsimp only
        cases (v.1 == 7 || ((objV h v).1 == 7 || (objV h v).1 == 8)) with
        | true => rw [cond_true, if_pos (by simp only [LIM, List.length_cons, List.length_nil]; omega), fin _ (by rw [List.length_append]; simp only [List.length_cons, List.length_nil]; omega)]; rfl
        | false => rw [cond_false, fin _ (by omega)]; simp
end Go.Ab
