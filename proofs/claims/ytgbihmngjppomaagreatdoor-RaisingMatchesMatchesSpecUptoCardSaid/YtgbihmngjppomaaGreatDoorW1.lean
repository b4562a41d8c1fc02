/- Law 9: what catches an exception. -/
import Derived.Test.YtgbihmngjppomaaGreatDoorW0
namespace Go.Ab
set_option linter.unusedVariables false
set_option linter.unusedSimpArgs false
def boolV (b : Bool) : X_Value := (1, ((false, []), ((false, []), ([], bif b then 1 else 0))))
theorem tv_boolV (b : Bool) : TV (boolV b) := ⟨(fun d h => by cases h), (fun d h => by cases h), (by show ([] : List Int).length ≤ _; simp), (by show ([] : List Int).length ≤ _; simp), (by show ([] : List UInt8).length ≤ _; simp)⟩
/-- a class derives from a base -/
def derB (h : X_Heap) (c n : Int) : Bool := (hob h c.toNat).2.2.2.2.1.any fun y => n == y
theorem f_heap_Derives.spec {k : Nat} (hk : 3000000 < k) {h : X_Heap} (t : TH h) {c n : Int} (h0 : 0 ≤ c) (h1 : c < (h.length : Int)) : f_heap_Derives.u k (h, (c, n)) = some (derB h c n) := by
  have := (t.ob c.toNat).order
  show f_heap_Derives.f (sl_Contains_int.u k) k h c n = _
  rw [f_heap_Derives.f, f_heap_Derives.q, f_heap_Derives.c, if_pos ⟨h0, h1⟩, show h.getD c.toNat Z_Object = hob h c.toNat from rfl, sl_Contains_int.spec (by omega) (by omega)]
  rfl
theorem r7_DerivesFrom.spec {k : Nat} (hk : 3000000 < k) {h : X_Heap} (t : TH h) {c n : Int} (h0 : 0 ≤ c) (h1 : c < (h.length : Int)) : r7_DerivesFrom.u k (h, (c, n)) = some (derB h c n) := by
  have := (t.ob c.toNat).order
  show r7_DerivesFrom.f (sl_Contains_int.u k) k h c n = _
  rw [r7_DerivesFrom.f, r7_DerivesFrom.q, r7_DerivesFrom.c, if_pos ⟨h0, h1⟩, show h.getD c.toNat Z_Object = hob h c.toNat from rfl, sl_Contains_int.spec (by omega) (by omega)]
  rfl
/-- the class of an instance is an object -/
theorem HP.cls {h : X_Heap} (p : HP h) {j : Nat} (hj : j < h.length) (h10 : (hob h j).1 = 10) : isO h (hob h j).2.2.1 = true := (p.links hj (by omega)).2.2.cls
/-- a value is an instance of a class -/
def isA (h : X_Heap) (v : X_Value) (n : Int) : Bool := (objV h v).1 == 10 && derB h (objV h v).2.2.1 n
theorem objV_cls {h : X_Heap} (p : HP h) {v : X_Value} (h10 : (objV h v).1 = 10) : isO h (objV h v).2.2.1 = true := by
  unfold objV at h10 ⊢
  cases hc : (decide (v.1 = 6) && isO h v.2.2.2.2) with
  | false => rw [hc] at h10; cases h10
  | true =>
    rw [hc, cond_true] at h10
    rw [cond_true]
    rw [Bool.and_eq_true] at hc
    have := isO_lt hc.2
    exact p.cls (by omega) h10
theorem f_raising_Is.spec {k : Nat} (hk : 3000000 < k) {h : X_Heap} (p : HP h) {v : X_Value} (vi : VI h v) {n : Int} : f_raising_Is.u k (h, (v, n)) = some (isA h v n) := by
  show f_raising_Is.f (f_heap_Derives.u k) k h v n = _
  rw [f_raising_Is.f, f_raising_Is.q, f_raising_Is.c]
  unfold isA
  by_cases h6 : v.1 = 6
  · have hi := vi.ref h6
    obtain ⟨i1, i2, _⟩ := isO_lt hi
    have ho := objV_ref h6 hi
    rw [h6, show ((6 : Int) == 6) = true from rfl, cond_true, if_pos ⟨i1, i2⟩, show h.getD v.2.2.2.2.toNat Z_Object = hob h v.2.2.2.2.toNat from rfl, ho]
    by_cases h10 : (hob h v.2.2.2.2.toNat).1 = 10
    · obtain ⟨c1, c2, _⟩ := isO_lt (p.cls (by omega) h10)
      rw [h10, show ((10 : Int) == 10) = true from rfl, cond_true, if_pos ⟨i1, i2⟩, f_heap_Derives.spec hk p.t c1 c2]
      rfl
    · rw [show ((hob h v.2.2.2.2.toNat).1 == 10) = false by simpa using h10]
      rfl
  · rw [show (v.1 == 6) = false by simpa using h6, cond_false, objV_not h6]
    rfl
theorem r7_IsA.spec {k : Nat} (hk : 3000000 < k) {h : X_Heap} (p : HP h) {v : X_Value} {n : Int} : r7_IsA.u k (h, (v, n)) = some (isA h v n) := by
  show r7_IsA.f (r7_Obj.u k) (r7_DerivesFrom.u k) k h v n = _
  rw [r7_IsA.f, r7_IsA.b, r7_Obj.spec, Option.bind_some]
  unfold isA
  by_cases h10 : (objV h v).1 = 10
  · obtain ⟨c1, c2, _⟩ := isO_lt (objV_cls p h10)
    rw [show ((objV h v).1 == 10) = true by simpa using h10, cond_true, r7_DerivesFrom.spec hk p.t c1 c2]
    rfl
  · rw [show ((objV h v).1 == 10) = false by simpa using h10]
    rfl
/-- a class of exceptions -/
def excC (h : X_Heap) (v : X_Value) : Bool := (objV h v).1 == 9 && derB h v.2.2.2.2 28
theorem f_raising_exceptionClass.spec {k : Nat} (hk : 3000000 < k) {h : X_Heap} (p : HP h) {v : X_Value} (vi : VI h v) : f_raising_exceptionClass.u k (h, v) = some (excC h v) := by
  show f_raising_exceptionClass.f (f_heap_Derives.u k) k h v = _
  rw [f_raising_exceptionClass.f, f_raising_exceptionClass.q, f_raising_exceptionClass.c]
  unfold excC
  by_cases h6 : v.1 = 6
  · have hi := vi.ref h6
    obtain ⟨i1, i2, _⟩ := isO_lt hi
    have ho := objV_ref h6 hi
    rw [h6, show ((6 : Int) == 6) = true from rfl, cond_true, if_pos ⟨i1, i2⟩, show h.getD v.2.2.2.2.toNat Z_Object = hob h v.2.2.2.2.toNat from rfl, ho, f_heap_Derives.spec hk p.t i1 i2]
    cases ((hob h v.2.2.2.2.toNat).1 == 9) <;> rfl
  · rw [show (v.1 == 6) = false by simpa using h6, cond_false, objV_not h6]
    rfl
def noClass : X_Step := rais 32 [99, 97, 116, 99, 104, 32, 110, 101, 101, 100, 115, 32, 97, 110, 32, 101, 120, 99, 101, 112, 116, 105, 111, 110, 32, 99, 108, 97, 115, 115]
def noGroup : X_Step := rais 32 [99, 97, 116, 99, 104, 32, 42, 32, 110, 101, 101, 100, 115, 32, 110, 111, 32, 103, 114, 111, 117, 112, 32, 99, 108, 97, 115, 115]
/-- what catching by some classes gives -/
def mt (h : X_Heap) (star : Bool) (e : X_Value) : List X_Value → X_Step
  | [] => resu (boolV false)
  | c :: l => bif !excC h c then noClass else bif star && derB h c.2.2.2.2 48 then noGroup else bif isA h e c.2.2.2.2 then resu (boolV true) else mt h star e l
theorem excC_in {h : X_Heap} {c : X_Value} (hc : excC h c = true) : 0 ≤ c.2.2.2.2 ∧ c.2.2.2.2 < (h.length : Int) := by
  unfold excC at hc
  rw [Bool.and_eq_true, beq_iff_eq] at hc
  have h1 := hc.1
  unfold objV at h1
  cases hh : (decide (c.1 = 6) && isO h c.2.2.2.2) with
  | false => rw [hh] at h1; cases h1
  | true =>
    rw [Bool.and_eq_true] at hh
    have := isO_lt hh.2
    exact ⟨this.1, this.2.1⟩
theorem f_raising_Matches.l0_spec {k : Nat} (hk : 3000000 < k) {h : X_Heap} (p : HP h) {star : Bool} {e : X_Value} (ve : VI h e) {s : X_Step} {l : List X_Value} (hl : l.length ≤ 2000000) (hv : ∀ c ∈ l, VI h c) : ∀ (d n i : Nat), l.length - i = d → d < n → i ≤ l.length →
    f_raising_Matches.l0 (f_raising_exceptionClass.u k) (f_raising_raise.u k) (f_heap_Derives.u k) (f_raising_Is.u k) (f_heap_Bool.u k) (f_raising_value.u k) k n star h e s l (l.length : Int) (i : Int) = some (mt h star e (l.drop i)) := by
  intro d
  induction d with
  | zero =>
    intro n i hd hn hi
    obtain ⟨n, rfl⟩ : ∃ m, n = m + 1 := ⟨n - 1, by omega⟩
    rw [f_raising_Matches.l0, f_raising_Matches.q_l0, f_raising_Matches.c_l0, decide_eq_false (by omega), cond_false, List.drop_of_length_le (by omega)]
    rfl
  | succ d ih =>
    intro n i hd hn hi
    obtain ⟨n, rfl⟩ : ∃ m, n = m + 1 := ⟨n - 1, by omega⟩
    have hlt : i < l.length := by omega
    have g : f_raising_Matches.g11 (f_raising_exceptionClass.u k) (f_raising_raise.u k) (f_heap_Derives.u k) (f_raising_Is.u k) (f_heap_Bool.u k) (f_raising_value.u k) k (fun x3 x4 x5 x8 x34 x35 x36 => f_raising_Matches.l0 (f_raising_exceptionClass.u k) (f_raising_raise.u k) (f_heap_Derives.u k) (f_raising_Is.u k) (f_heap_Bool.u k) (f_raising_value.u k) k n x3 x4 x5 x8 x34 x35 x36) star h e s l[i] l (l.length : Int) (i : Int) = some (bif isA h e (l[i]).2.2.2.2 then resu (boolV true) else mt h star e (l.drop (i + 1))) := by
      rw [f_raising_Matches.g11, gate_pos (by omega), f_raising_Matches.b_g11, f_raising_Is.spec hk p ve, Option.bind_some, wrapN (by omega)]
      cases isA h e (l[i]).2.2.2.2 with
      | true => rfl
      | false =>
        simp only [cond_false, List.take_length]
        exact ih n (i + 1) (by omega) (by omega) (by omega)
    rw [f_raising_Matches.l0, f_raising_Matches.q_l0, f_raising_Matches.c_l0, decide_eq_true (by omega), cond_true, if_pos ⟨by omega, by omega⟩, Int.toNat_natCast, getD_of hlt, f_raising_exceptionClass.spec hk p (hv _ (List.getElem_mem hlt)), Option.bind_some, drop_cons hlt, mt]
    cases hc : excC h l[i] with
    | false => rfl
    | true =>
      obtain ⟨c1, c2⟩ := excC_in hc
      rw [Bool.not_true, cond_false, cond_false, f_heap_Derives.spec hk p.t c1 c2, Option.bind_some, g]
      cases star with
      | false => rfl
      | true =>
        rw [cond_true, Bool.true_and]
        cases derB h (l[i]).2.2.2.2 48 <;> rfl
theorem r7_Caught.l0_spec {k : Nat} (hk : 3000000 < k) {h : X_Heap} (p : HP h) {star : Bool} {e : X_Value} {s : X_Step} {l : List X_Value} (hl : l.length ≤ 2000000) : ∀ (d n i : Nat), l.length - i = d → d < n → i ≤ l.length →
    r7_Caught.l0 (r7_Obj.u k) (r7_Raise.u k) (r7_DerivesFrom.u k) (r7_IsA.u k) (r7_B.u k) (r7_Result.u k) k n star h e s l (l.length : Int) (i : Int) = some (mt h star e (l.drop i)) := by
  intro d
  induction d with
  | zero =>
    intro n i hd hn hi
    obtain ⟨n, rfl⟩ : ∃ m, n = m + 1 := ⟨n - 1, by omega⟩
    rw [r7_Caught.l0, r7_Caught.q_l0, r7_Caught.c_l0, decide_eq_false (by omega), cond_false, List.drop_of_length_le (by omega)]
    rfl
  | succ d ih =>
    intro n i hd hn hi
    obtain ⟨n, rfl⟩ : ∃ m, n = m + 1 := ⟨n - 1, by omega⟩
    have hlt : i < l.length := by omega
    have g : r7_Caught.g12 (r7_Obj.u k) (r7_Raise.u k) (r7_DerivesFrom.u k) (r7_IsA.u k) (r7_B.u k) (r7_Result.u k) k (fun x3 x4 x5 x8 x23 x24 x25 => r7_Caught.l0 (r7_Obj.u k) (r7_Raise.u k) (r7_DerivesFrom.u k) (r7_IsA.u k) (r7_B.u k) (r7_Result.u k) k n x3 x4 x5 x8 x23 x24 x25) star h e s l[i] l (l.length : Int) (i : Int) = some (bif isA h e (l[i]).2.2.2.2 then resu (boolV true) else mt h star e (l.drop (i + 1))) := by
      rw [r7_Caught.g12, gate_pos (by omega), r7_Caught.b_g12, r7_IsA.spec hk p, Option.bind_some, wrapN (by omega)]
      cases isA h e (l[i]).2.2.2.2 with
      | true => rfl
      | false =>
        simp only [cond_false, List.take_length]
        exact ih n (i + 1) (by omega) (by omega) (by omega)
    rw [r7_Caught.l0, r7_Caught.q_l0, r7_Caught.c_l0, decide_eq_true (by omega), cond_true, if_pos ⟨by omega, by omega⟩, Int.toNat_natCast, getD_of hlt, r7_Obj.spec, Option.bind_some, drop_cons hlt, mt]
    have hx : excC h l[i] = ((objV h l[i]).1 == 9 && derB h (l[i]).2.2.2.2 28) := rfl
    by_cases h9 : (objV h l[i]).1 = 9
    · have hin : 0 ≤ (l[i]).2.2.2.2 ∧ (l[i]).2.2.2.2 < (h.length : Int) := by
        unfold objV at h9
        cases hh : (decide ((l[i]).1 = 6) && isO h (l[i]).2.2.2.2) with
        | false => rw [hh] at h9; cases h9
        | true =>
          rw [Bool.and_eq_true] at hh
          have := isO_lt hh.2
          exact ⟨this.1, this.2.1⟩
      rw [hx, h9, show ((9 : Int) != 9) = false from rfl, cond_false, show ((9 : Int) == 9) = true from rfl, Bool.true_and, r7_DerivesFrom.spec hk p.t hin.1 hin.2, Option.bind_some, r7_DerivesFrom.spec hk p.t hin.1 hin.2, Option.bind_some, g]
      cases derB h (l[i]).2.2.2.2 28 with
      | false => rfl
      | true =>
        rw [Bool.not_true, cond_false, cond_false]
        cases star with
        | false => rfl
        | true =>
          rw [cond_true, Bool.true_and]
          cases derB h (l[i]).2.2.2.2 48 <;> rfl
    · rw [hx, show ((objV h l[i]).1 != 9) = true by simpa using h9, cond_true, show ((objV h l[i]).1 == 9) = false by simpa using h9]
      rfl
/-- the classes by which is caught -/
def specL (h : X_Heap) (s : X_Value) : List X_Value := bif tup h s then its h s else [s]
theorem f_raising_Matches.spec {k : Nat} (hk : 3000000 < k) {h : X_Heap} (p : HP h) {star : Bool} {e s : X_Value} (ve : VI h e) (vs : VI h s) : f_raising_Matches.u k (h, (e, (s, star))) = some (mt h star e (specL h s)) := by
  show f_raising_Matches.f (f_raising_exceptionClass.u k) (f_raising_raise.u k) (f_heap_Derives.u k) (f_raising_Is.u k) (f_heap_Bool.u k) (f_raising_value.u k) k h e s star = _
  have one : ∀ z : X_Step, f_raising_Matches.l0 (f_raising_exceptionClass.u k) (f_raising_raise.u k) (f_heap_Derives.u k) (f_raising_Is.u k) (f_heap_Bool.u k) (f_raising_value.u k) k k star h e z [s] 1 0 = some (mt h star e [s]) := fun z =>
    f_raising_Matches.l0_spec hk p ve (l := [s]) (by simp) (fun c hc => by rw [List.mem_singleton.1 hc]; exact vs) 1 k 0 rfl (by omega) (by simp)
  rw [f_raising_Matches.f, f_raising_Matches.q, f_raising_Matches.c]
  unfold specL
  by_cases h6 : s.1 = 6
  · have hi := vs.ref h6
    obtain ⟨i1, i2, _⟩ := isO_lt hi
    have ho := objV_ref h6 hi
    have ht : tup h s = ((hob h s.2.2.2.2.toNat).1 == 1) := by unfold tup; rw [ho]
    have hs : its h s = (hob h s.2.2.2.2.toNat).2.2.2.2.2.2.1 := by unfold its; rw [ho]
    rw [h6, show ((6 : Int) == 6) = true from rfl, cond_true, if_pos ⟨i1, i2⟩, show h.getD s.2.2.2.2.toNat Z_Object = hob h s.2.2.2.2.toNat from rfl, ← ht, ← hs, if_pos ⟨i1, i2⟩]
    cases tup h s with
    | true =>
      have hlen := (p.t.its s).1
      exact f_raising_Matches.l0_spec hk p ve hlen (fun c hc => p.its hc) _ k 0 rfl (by omega) (by omega)
    | false => exact one _
  · rw [show (s.1 == 6) = false by simpa using h6, cond_false, show tup h s = false by unfold tup; rw [objV_not h6]; rfl]
    exact one _
theorem r7_Caught.spec {k : Nat} (hk : 3000000 < k) {h : X_Heap} (p : HP h) {star : Bool} {e s : X_Value} : r7_Caught.u k (h, (e, (s, star))) = some (mt h star e (specL h s)) := by
  show r7_Caught.f (r7_Obj.u k) (r7_Raise.u k) (r7_DerivesFrom.u k) (r7_IsA.u k) (r7_B.u k) (r7_Result.u k) k h e s star = _
  rw [r7_Caught.f, r7_Caught.q, r7_Caught.c, r7_Obj.spec, Option.bind_some]
  unfold specL
  rw [show ((objV h s).1 == 1) = tup h s from rfl]
  cases tup h s with
  | true =>
    have hlen := (p.t.its s).1
    exact r7_Caught.l0_spec hk p hlen _ k 0 rfl (by omega) (by omega)
  | false => exact r7_Caught.l0_spec hk p (l := [s]) (by simp) 1 k 0 rfl (by omega) (by simp)
theorem r7_SameStep.refl {k : Nat} (hk : 3000000 < k) {s : X_Step} (h1 : TV s.2.1) (h2 : TV s.2.2.2.2.1) (h3 : s.2.2.2.2.2.length ≤ 2000000) (h4 : ∀ v ∈ s.2.2.2.2.2, TV v) : r7_SameStep.u k (s, s) = some true := by
  show r7_SameStep.f (r7_SameValue.u k) (r7_SameValues.u k) k s s = _
  rw [r7_SameStep.f, r7_SameStep.b, r7_SameValue.spec hk h1, r7_SameValue.spec hk h2, r7_SameValues.spec hk h3 h4]
  simp only [Option.bind_some, beq_self_eq_true, cond_true]
theorem resu_same {k : Nat} (hk : 3000000 < k) {v : X_Value} (tv : TV v) : r7_SameStep.u k (resu v, resu v) = some true := r7_SameStep.refl hk tv tv_zV (by show ([] : List X_Value).length ≤ _; simp) (fun v h => by cases h)
theorem rais_same {k : Nat} (hk : 3000000 < k) {c : Int} {t : List UInt8} : r7_SameStep.u k (rais c t, rais c t) = some true := r7_SameStep.refl hk tv_zV tv_zV (by show ([] : List X_Value).length ≤ _; simp) (fun v h => by cases h)
theorem mt_same {k : Nat} (hk : 3000000 < k) {h : X_Heap} {star : Bool} {e : X_Value} : ∀ l : List X_Value, r7_SameStep.u k (mt h star e l, mt h star e l) = some true
  | [] => resu_same hk (tv_boolV _)
  | c :: l => by
    rw [mt]
    cases excC h c with
    | false => exact rais_same hk
    | true =>
      rw [Bool.not_true, cond_false]
      cases (star && derB h c.2.2.2.2 48) with
      | true => exact rais_same hk
      | false =>
        rw [cond_false]
        cases isA h e c.2.2.2.2 with
        | true => exact resu_same hk (tv_boolV _)
        | false => exact mt_same hk l
theorem law9 {k : Nat} (hk : BK k) {h : X_Heap} (t : TH h) {e s : X_Value} {c : Int} (te : TV e) (ts : TV s) : f_law7_RaisingMatchesMatchesSpec.u k (h, (e, (s, c))) = some true := by
  have hk1 := bkN hk (n := 17592186044420) (by omega)
  obtain ⟨b, hb, hb2⟩ := r7_Usable.spec hk t (l := [e, s]) (by simp) (fun u hu => by
    simp at hu
    rcases hu with rfl | rfl
    · exact te
    · exact ts)
  show f_law7_RaisingMatchesMatchesSpec.f (r7_Usable.u k) (r7_IsObject.u k) (f_raising_Is.u k) (r7_IsA.u k) (r7_Exception.u k) (f_raising_Matches.u k) (r7_Caught.u k) (r7_SameStep.u k) k h e s c = _
  rw [f_law7_RaisingMatchesMatchesSpec.f, f_law7_RaisingMatchesMatchesSpec.q, f_law7_RaisingMatchesMatchesSpec.c, show List.take 2 [e, s] = [e, s] from rfl, hb, Option.bind_some]
  cases b with
  | false => rfl
  | true =>
    obtain ⟨p, hall⟩ := hb2 rfl
    have ve := (hall e (by simp)).vi te
    have vs := (hall s (by simp)).vi ts
    have g7 : f_law7_RaisingMatchesMatchesSpec.g7 (r7_Usable.u k) (r7_IsObject.u k) (f_raising_Is.u k) (r7_IsA.u k) (r7_Exception.u k) (f_raising_Matches.u k) (r7_Caught.u k) (r7_SameStep.u k) k h e s = some true := by
      rw [f_law7_RaisingMatchesMatchesSpec.g7, gate_pos (by omega), f_law7_RaisingMatchesMatchesSpec.b_g7, f_raising_Matches.spec (by omega) p ve vs, Option.bind_some, r7_Caught.spec (by omega) p, Option.bind_some, mt_same (by omega), Option.bind_some, cond_true, f_raising_Matches.spec (by omega) p ve vs, Option.bind_some, r7_Caught.spec (by omega) p, Option.bind_some, mt_same (by omega)]
      rfl
    rw [Bool.not_true, cond_false, r7_IsObject.spec, Option.bind_some, r7_Exception.spec (by omega) t]
    simp only [Option.bind_some]
    rw [g7, f_raising_Is.spec (by omega) p ve, Option.bind_some, r7_IsA.spec (by omega) p, Option.bind_some]
    cases hi : isO h c with
    | false =>
      rw [cond_false]
      cases excV h e <;> rfl
    | true =>
      obtain ⟨i1, i2, _⟩ := isO_lt hi
      rw [cond_true, if_pos ⟨i1, i2⟩, show (isA h e c != isA h e c) = false by cases isA h e c <;> rfl, cond_false]
      cases ((h.getD c.toNat Z_Object).1 == 9) <;> cases excV h e <;> rfl
end Go.Ab
