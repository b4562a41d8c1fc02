/- Attributes: what an object has, what classes inherit, special methods. -/
import Derived.Test.YtdekjkgfohlmgaaGreatDoorC1
namespace Go.Ab
set_option linter.unusedVariables false
set_option linter.unusedSimpArgs false
/-! ### objects of a heap that passed -/
theorem begL_bare : ∀ j, (begL.getD j Z_Object).2.2.2.2.2.1 = [] := by
  intro j
  by_cases hj : j < 49
  · have : ∀ j : Fin 49, (begL.getD j.1 Z_Object).2.2.2.2.2.1 = [] := by decide
    exact this ⟨j, hj⟩
  · rw [getD_out (by rw [begL_len]; omega)]
theorem begL_ord : ∀ j : Fin 49, (begL.getD j.1 Z_Object).2.2.2.2.1.all (fun m => decide (0 ≤ m) && decide (m < 49)) = true := by decide
/-- an object with names has an item for each -/
theorem HP.named {h : X_Heap} (p : HP h) (j : Nat) : (hob h j).2.2.2.2.2.2.1.length = (hob h j).2.2.2.2.2.1.length ∨ (hob h j).2.2.2.2.2.1 = [] := by
  by_cases hj : j < h.length
  · obtain ⟨h1, h2⟩ := p.ok j hj hj
    by_cases h49 : j < 49
    · rw [h1 h49]; exact .inr (begL_bare j)
    · obtain ⟨_, hc, _⟩ := h2 (by omega)
      by_cases hn : (hob h j).2.2.2.2.2.1 = []
      · exact .inr hn
      · exact .inl (hc.named (hc.us.names hn))
  · right
    unfold hob
    rw [getD_out (by omega)]
/-- the classes in an object's order are objects of the heap -/
theorem HP.ords {h : X_Heap} (p : HP h) {j : Nat} (hj : j < h.length) : ∀ m ∈ (hob h j).2.2.2.2.1, 0 ≤ m ∧ m < (h.length : Int) := by
  obtain ⟨h1, h2⟩ := p.ok j hj hj
  have hlow := p.low
  intro m hm
  by_cases h49 : j < 49
  · rw [h1 h49] at hm
    have := List.all_eq_true.1 (begL_ord ⟨j, h49⟩) m hm
    rw [Bool.and_eq_true, decide_eq_true_eq, decide_eq_true_eq] at this
    omega
  · have := isO_lt ((h2 (by omega)).2.2.ords m hm)
    omega
/-! ### what an object itself has -/
def ownP (o : X_Object) (s : List UInt8) : X_Value × Bool :=
  bif decide (idxF (fun y => s == y) o.2.2.2.2.2.1 0 < 0) then (zV, false) else (o.2.2.2.2.2.2.1.getD (idxF (fun y => s == y) o.2.2.2.2.2.1 0).toNat Z_Value, true)
structure OOk (o : X_Object) : Prop where
  len : o.2.2.2.2.2.1.length ≤ 2000000
  named : o.2.2.2.2.2.2.1.length = o.2.2.2.2.2.1.length ∨ o.2.2.2.2.2.1 = []
theorem HP.ook {h : X_Heap} (p : HP h) (j : Nat) : OOk (hob h j) := ⟨(p.t.ob j).names, p.named j⟩
theorem F105.spec {k : Nat} (hk : 3000000 < k) {o : X_Object} (ho : OOk o) {s : List UInt8} : F105.u k (o, s) = some (ownP o s) := by
  have hl := ho.len
  show F105.f (F107.u k) k o s = _
  rw [F105.f, F105.b, F107.spec (by omega) (by omega), Option.bind_some]
  unfold ownP
  cases hd : decide (idxF (fun y => s == y) o.2.2.2.2.2.1 0 < 0) with
  | true => rfl
  | false =>
    rw [decide_eq_false_iff_not] at hd
    obtain ⟨j, hj, e, _⟩ := idxF_spec _ _ _ (Int.not_lt.1 hd)
    have hn := ho.named
    rw [cond_false, cond_false, if_pos]
    refine ⟨by omega, ?_⟩
    rcases hn with hn | hn
    · omega
    · rw [hn] at hj; simp at hj
theorem F68.l0_spec {k : Nat} {o : X_Object} (ho : OOk o) {s : List UInt8} {x4 : X_Value} : ∀ (d n i : Nat), o.2.2.2.2.2.1.length - i = d → d < n → i ≤ o.2.2.2.2.2.1.length →
    F68.l0 k n s o x4 o.2.2.2.2.2.1 (o.2.2.2.2.2.1.length : Int) (i : Int) = some (bif decide (idxF (fun y => s == y) (o.2.2.2.2.2.1.drop i) i < 0) then (zV, false) else (o.2.2.2.2.2.2.1.getD (idxF (fun y => s == y) (o.2.2.2.2.2.1.drop i) i).toNat Z_Value, true)) := by
  have hl := ho.len
  intro d
  induction d with
  | zero =>
    intro n i hd hn hi
    obtain ⟨n, rfl⟩ : ∃ m, n = m + 1 := ⟨n - 1, by omega⟩
    rw [F68.l0, F68.q_l0, F68.c_l0, decide_eq_false (by omega), cond_false, List.drop_of_length_le (by omega)]
    rfl
  | succ d ih =>
    intro n i hd hn hi
    obtain ⟨n, rfl⟩ : ∃ m, n = m + 1 := ⟨n - 1, by omega⟩
    have hlt : i < o.2.2.2.2.2.1.length := by omega
    have hit : i < o.2.2.2.2.2.2.1.length := by
      rcases ho.named with h | h
      · omega
      · rw [h] at hlt; simp at hlt
    rw [F68.l0, F68.q_l0, F68.c_l0, decide_eq_true (by omega), cond_true, if_pos ⟨by omega, by omega⟩, Int.toNat_natCast, getD_of hlt, drop_cons hlt, idxF, wrapN (by omega), BEq.comm (a := o.2.2.2.2.2.1[i])]
    cases hs : (s == o.2.2.2.2.2.1[i]) with
    | true =>
      rw [cond_true, cond_true, if_pos ⟨by omega, by omega⟩, decide_eq_false (by omega), cond_false, Int.toNat_natCast]
    | false =>
      rw [cond_false, cond_false]
      exact ih n (i + 1) (by omega) (by omega) (by omega)
theorem F68.spec {k : Nat} (hk : 3000000 < k) {o : X_Object} (ho : OOk o) {s : List UInt8} : F68.u k (o, s) = some (ownP o s) := by
  have hl := ho.len
  show F68.f k o s = _
  rw [F68.f, F68.b]
  exact F68.l0_spec ho _ k 0 rfl (by omega) (by omega)
/-! ### what classes have -/
def fndP (h : X_Heap) (s : List UInt8) : List Int → X_Value × (Int × Bool)
  | [] => (zV, (0, false))
  | c :: r => bif (ownP (hob h c.toNat) s).2 then ((ownP (hob h c.toNat) s).1, (c, true)) else fndP h s r
theorem F67.l0_spec {k : Nat} (hk : 3000000 < k) {h : X_Heap} (p : HP h) {s : List UInt8} {x6 : X_Value} {l : List Int} (hl : l.length ≤ 2000000) (hv : ∀ m ∈ l, 0 ≤ m ∧ m < (h.length : Int)) : ∀ (d n i : Nat), l.length - i = d → d < n → i ≤ l.length →
    F67.l0 (F105.u k) k n s h x6 l (l.length : Int) (i : Int) = some (fndP h s (l.drop i)) := by
  intro d
  induction d with
  | zero =>
    intro n i hd hn hi
    obtain ⟨n, rfl⟩ : ∃ m, n = m + 1 := ⟨n - 1, by omega⟩
    rw [F67.l0, F67.q_l0, F67.c_l0, decide_eq_false (by omega), cond_false, List.drop_of_length_le (by omega)]
    rfl
  | succ d ih =>
    intro n i hd hn hi
    obtain ⟨n, rfl⟩ : ∃ m, n = m + 1 := ⟨n - 1, by omega⟩
    have hlt : i < l.length := by omega
    have hm := hv _ (List.getElem_mem hlt)
    rw [F67.l0, F67.q_l0, F67.c_l0, decide_eq_true (by omega), cond_true, if_pos ⟨by omega, by omega⟩, Int.toNat_natCast, getD_of hlt, if_pos hm, show h.getD (l[i]).toNat Z_Object = hob h (l[i]).toNat from rfl, F105.spec hk (p.ook _), Option.bind_some, drop_cons hlt, fndP, wrapN (by omega), ih n (i + 1) (by omega) (by omega) (by omega)]
    cases (ownP (hob h (l[i]).toNat) s).2 <;> rfl
theorem F67.spec {k : Nat} (hk : 3000000 < k) {h : X_Heap} (p : HP h) {s : List UInt8} {l : List Int} (hl : l.length ≤ 2000000) (hv : ∀ m ∈ l, 0 ≤ m ∧ m < (h.length : Int)) : F67.u k (h, (l, s)) = some (fndP h s l) := by
  show F67.f (F105.u k) k h l s = _
  rw [F67.f, F67.b]
  exact F67.l0_spec hk p hl hv _ k 0 rfl (by omega) (by omega)
theorem F23.l0_spec {k : Nat} (hk : 3000000 < k) {h : X_Heap} (p : HP h) {s : List UInt8} {x6 : X_Value} {l : List Int} (hl : l.length ≤ 2000000) (hv : ∀ m ∈ l, 0 ≤ m ∧ m < (h.length : Int)) : ∀ (d n i : Nat), l.length - i = d → d < n → i ≤ l.length →
    F23.l0 (F68.u k) k n s h x6 l (l.length : Int) (i : Int) = some (fndP h s (l.drop i)) := by
  intro d
  induction d with
  | zero =>
    intro n i hd hn hi
    obtain ⟨n, rfl⟩ : ∃ m, n = m + 1 := ⟨n - 1, by omega⟩
    rw [F23.l0, F23.q_l0, F23.c_l0, decide_eq_false (by omega), cond_false, List.drop_of_length_le (by omega)]
    rfl
  | succ d ih =>
    intro n i hd hn hi
    obtain ⟨n, rfl⟩ : ∃ m, n = m + 1 := ⟨n - 1, by omega⟩
    have hlt : i < l.length := by omega
    have hm := hv _ (List.getElem_mem hlt)
    rw [F23.l0, F23.q_l0, F23.c_l0, decide_eq_true (by omega), cond_true, if_pos ⟨by omega, by omega⟩, Int.toNat_natCast, getD_of hlt, if_pos hm, show h.getD (l[i]).toNat Z_Object = hob h (l[i]).toNat from rfl, F68.spec hk (p.ook _), Option.bind_some, drop_cons hlt, fndP, wrapN (by omega), ih n (i + 1) (by omega) (by omega) (by omega)]
    cases (ownP (hob h (l[i]).toNat) s).2 <;> rfl
theorem F23.spec {k : Nat} (hk : 3000000 < k) {h : X_Heap} (p : HP h) {s : List UInt8} {l : List Int} (hl : l.length ≤ 2000000) (hv : ∀ m ∈ l, 0 ≤ m ∧ m < (h.length : Int)) : F23.u k (h, (l, s)) = some (fndP h s l) := by
  show F23.f (F68.u k) k h l s = _
  rw [F23.f, F23.b]
  exact F23.l0_spec hk p hl hv _ k 0 rfl (by omega) (by omega)
/-- what a class inherits under a name -/
def inhP (h : X_Heap) (c : Int) (s : List UInt8) : X_Value × (Int × Bool) := fndP h s (hob h c.toNat).2.2.2.2.1
theorem F22.spec {k : Nat} (hk : 3000000 < k) {h : X_Heap} (p : HP h) {s : List UInt8} {c : Int} (h0 : 0 ≤ c) (h1 : c < (h.length : Int)) : F22.u k (h, (c, s)) = some (inhP h c s) := by
  show F22.f (F67.u k) k h c s = _
  rw [F22.f, F22.q, F22.c, if_pos ⟨h0, h1⟩, show h.getD c.toNat Z_Object = hob h c.toNat from rfl, F67.spec hk p (p.t.ob _).order (p.ords (by omega))]
  rfl
theorem F55.spec {k : Nat} (hk : 3000000 < k) {h : X_Heap} (p : HP h) {s : List UInt8} {c : Int} (h0 : 0 ≤ c) (h1 : c < (h.length : Int)) : F55.u k (h, (c, s)) = some ((inhP h c s).1, (inhP h c s).2.2) := by
  show F55.f (F23.u k) k h c s = _
  rw [F55.f, F55.b, if_pos ⟨h0, h1⟩, show h.getD c.toNat Z_Object = hob h c.toNat from rfl, F23.spec hk p (p.t.ob _).order (p.ords (by omega))]
  rfl
/-- what is found is an item of an object of the heap -/
theorem ownP_item {o : X_Object} (ho : OOk o) {s : List UInt8} (h : (ownP o s).2 = true) : (ownP o s).1 ∈ o.2.2.2.2.2.2.1 := by
  unfold ownP at h ⊢
  cases hd : decide (idxF (fun y => s == y) o.2.2.2.2.2.1 0 < 0) with
  | true => rw [hd] at h; cases h
  | false =>
    rw [decide_eq_false_iff_not] at hd
    obtain ⟨j, hj, e, _⟩ := idxF_spec _ _ _ (Int.not_lt.1 hd)
    have hj2 : j < o.2.2.2.2.2.2.1.length := by
      rcases ho.named with hn | hn
      · omega
      · rw [hn] at hj; simp at hj
    rw [cond_false, e, show (((0 + j : Nat) : Int)).toNat = j by omega, getD_of hj2]
    exact List.getElem_mem hj2
theorem fndP_item {h : X_Heap} (p : HP h) {s : List UInt8} : ∀ {l : List Int}, (fndP h s l).2.2 = true → ∃ c ∈ l, (fndP h s l).1 ∈ (hob h c.toNat).2.2.2.2.2.2.1 ∧ (fndP h s l).2.1 = c ∧ ownP (hob h c.toNat) s = ((fndP h s l).1, true)
  | [], hf => by cases hf
  | c :: r, hf => by
    rw [fndP] at hf ⊢
    cases ho : (ownP (hob h c.toNat) s).2 with
    | true =>
      rw [cond_true]
      exact ⟨c, List.mem_cons_self, ownP_item (p.ook _) ho, rfl, by rw [← ho]⟩
    | false =>
      rw [ho] at hf
      rw [cond_false] at hf ⊢
      obtain ⟨d, hd, h1, h2⟩ := fndP_item p hf
      exact ⟨d, List.mem_cons_of_mem _ hd, h1, h2⟩
theorem fndP_none {h : X_Heap} {s : List UInt8} : ∀ {l : List Int}, (fndP h s l).2.2 = false → fndP h s l = (zV, (0, false))
  | [], _ => rfl
  | c :: r, hf => by
    rw [fndP] at hf ⊢
    cases ho : (ownP (hob h c.toNat) s).2 with
    | true => rw [ho] at hf; cases hf
    | false => rw [ho] at hf; rw [cond_false] at hf ⊢; exact fndP_none hf
theorem HP.it {h : X_Heap} (p : HP h) {j : Nat} {v : X_Value} (hv : v ∈ (hob h j).2.2.2.2.2.2.1) : VI h v := ⟨(p.t.ob j).itemV v hv, (p.item hv).1, (p.item hv).2⟩
theorem vi_zV {h : X_Heap} : VI h zV := ⟨tv_zV, ⟨fun _ => ⟨(fun h => by cases h), (fun h => by cases h), (fun h => by cases h), (fun h => by cases h)⟩, (fun h => by cases h), ⟨by decide, fun _ _ => rfl, fun _ => rfl, fun _ _ _ => rfl, fun _ _ => rfl, (fun h => by cases h), (fun h => by rcases h with h | h <;> cases h), (fun h => by cases h)⟩⟩, fun h => by cases h⟩
theorem vi_refV {h : X_Heap} {n : Int} (hn : isO h n = true) : VI h (refV n) := ⟨tv_refV, ⟨fun _ => ⟨(fun h => by cases h), (fun h => by cases h), (fun h => by cases h), (fun h => by cases h)⟩, (fun _ => rfl), ⟨by show (0 : Int) ≤ 6 ∧ (6 : Int) ≤ 9; omega, fun _ _ => rfl, fun _ => rfl, fun _ _ _ => rfl, (fun _ h => absurd rfl h), (fun h => by cases h), (fun h => by rcases h with h | h <;> cases h), (fun h => by cases h)⟩⟩, fun _ => hn⟩
theorem fndP_vi {h : X_Heap} (p : HP h) {s : List UInt8} {l : List Int} : VI h (fndP h s l).1 := by
  cases hf : (fndP h s l).2.2 with
  | true =>
    obtain ⟨c, _, h1, _⟩ := fndP_item p hf
    exact p.it h1
  | false => rw [fndP_none hf]; exact vi_zV
/-! ### special methods -/
theorem F51.spec {k : Nat} {h : X_Heap} {v : X_Value} (vi : VI h v) : F51.u k (h, v) = some (objV h v) := by
  show F51.f k h v = _
  rw [F51.f, F51.b]
  by_cases h6 : v.1 = 6
  · have := isO_lt (vi.ref h6)
    rw [show (v.1 != 6) = false by simpa using h6, cond_false, if_pos ⟨this.1, this.2.1⟩, objV_ref h6 (vi.ref h6)]
    rfl
  · rw [show (v.1 != 6) = true by simpa using h6, cond_true, objV_not h6]
def fncV (h : X_Heap) (a : X_Value) : Bool := a.1 == 7 || (objV h a).1 == 7
theorem F52.spec {k : Nat} {h : X_Heap} {v : X_Value} (vi : VI h v) : F52.u k (h, v) = some (fncV h v) := by
  show F52.f _ k h v = _
  rw [F52.f, F52.b, F51.spec vi, Option.bind_some, fncV]
  cases v.1 == 7 <;> rfl
theorem F56.spec {k : Nat} {h : X_Heap} {v : X_Value} : F56.u k (h, v) = some (fncV h v) := by
  show F56.f _ k h v = _
  rw [F56.f, F56.b, F54.spec, Option.bind_some, fncV]
  cases v.1 == 7 <;> rfl
/-- the first item -/
def it0 (o : X_Object) : X_Value := o.2.2.2.2.2.2.1.getD 0 Z_Value
/-- what is called for a special method, with the arguments that come first -/
def metP (h : X_Heap) (v : X_Value) (s : List UInt8) : X_Value × (List X_Value × Bool) :=
  bif (objV h v).1 != 10 then (zV, ([], false)) else bif !(inhP h (objV h v).2.2.1 s).2.2 then (zV, ([], false)) else
  bif fncV h (inhP h (objV h v).2.2.1 s).1 then ((inhP h (objV h v).2.2.1 s).1, ([v], true)) else
  bif (objV h (inhP h (objV h v).2.2.1 s).1).1 == 13 then (it0 (objV h (inhP h (objV h v).2.2.1 s).1), ([], true)) else
  bif (objV h (inhP h (objV h v).2.2.1 s).1).1 == 14 then (it0 (objV h (inhP h (objV h v).2.2.1 s).1), ([refV (objV h v).2.2.1], true)) else ((inhP h (objV h v).2.2.1 s).1, ([], true))
/-- the object of a value that refers to one, and how many items it has -/
theorem objV_lt {h : X_Heap} {v : X_Value} (h0 : (objV h v).1 ≠ 0) : v.1 = 6 ∧ isO h v.2.2.2.2 = true ∧ objV h v = hob h v.2.2.2.2.toNat ∧ v.2.2.2.2.toNat < h.length := by
  by_cases h6 : v.1 = 6
  · cases hi : isO h v.2.2.2.2 with
    | true => have := isO_lt hi; exact ⟨h6, rfl, objV_ref h6 hi, by omega⟩
    | false => unfold objV at h0; rw [hi, Bool.and_false] at h0; exact absurd rfl h0
  · rw [objV_not h6] at h0; exact absurd rfl h0
theorem HP.cnt {h : X_Heap} (p : HP h) {v : X_Value} (h0 : (objV h v).1 ≠ 0) (h9 : (objV h v).1 ≠ 9) : Cnt (objV h v) := by
  obtain ⟨_, _, e, hj⟩ := objV_lt h0
  rw [e] at h9 ⊢
  exact (p.links hj h9).2.1
theorem it0_vi {h : X_Heap} (p : HP h) {v : X_Value} (h1 : 0 < (objV h v).2.2.2.2.2.2.1.length) : VI h (it0 (objV h v)) := by
  unfold it0
  rw [getD_of h1]
  exact p.its (x := v) (List.getElem_mem h1)
theorem F12.spec {k : Nat} (hk : 3000000 < k) {h : X_Heap} (p : HP h) {v : X_Value} (vi : VI h v) {s : List UInt8} : F12.u k (h, (v, s)) = some (metP h v s) := by
  show F12.f _ _ _ _ k h v s = _
  rw [F12.f, F12.q, F12.c, F51.spec vi, Option.bind_some]
  unfold metP
  by_cases h10 : (objV h v).1 = 10
  · obtain ⟨h6, hi, e, hj⟩ := objV_lt (h := h) (v := v) (by omega)
    have hr := isO_lt hi
    have hc := isO_lt (objV_cls p h10)
    rw [show ((objV h v).1 != 10) = false by simpa using h10, cond_false, cond_false, if_pos ⟨hr.1, hr.2.1⟩, show h.getD v.2.2.2.2.toNat Z_Object = objV h v from e.symm, F22.spec hk p hc.1 hc.2.1, Option.bind_some]
    cases hf : (inhP h (objV h v).2.2.1 s).2.2 with
    | false => rfl
    | true =>
      have va : VI h (inhP h (objV h v).2.2.1 s).1 := fndP_vi p
      rw [Bool.not_true, cond_false, cond_false, F51.spec va, Option.bind_some, F52.spec va, Option.bind_some]
      cases fncV h (inhP h (objV h v).2.2.1 s).1 with
      | true => rfl
      | false =>
        rw [cond_false, cond_false]
        by_cases h13 : (objV h (inhP h (objV h v).2.2.1 s).1).1 = 13
        · have := (p.cnt (v := (inhP h (objV h v).2.2.1 s).1) (by omega) (by omega)).one (by omega)
          rw [show ((objV h (inhP h (objV h v).2.2.1 s).1).1 == 13) = true by simpa using h13, cond_true, cond_true, if_pos (by omega)]
          rfl
        · rw [show ((objV h (inhP h (objV h v).2.2.1 s).1).1 == 13) = false by simpa using h13, cond_false, cond_false]
          by_cases h14 : (objV h (inhP h (objV h v).2.2.1 s).1).1 = 14
          · have := (p.cnt (v := (inhP h (objV h v).2.2.1 s).1) (by omega) (by omega)).one (by omega)
            rw [show ((objV h (inhP h (objV h v).2.2.1 s).1).1 == 14) = true by simpa using h14, cond_true, cond_true, if_pos (by omega)]
            rfl
          · rw [show ((objV h (inhP h (objV h v).2.2.1 s).1).1 == 14) = false by simpa using h14, cond_false, cond_false]
  · rw [show ((objV h v).1 != 10) = true by simpa using h10, cond_true, cond_true]
    rfl
theorem F13.spec {k : Nat} (hk : 3000000 < k) {h : X_Heap} (p : HP h) {v : X_Value} {s : List UInt8} : F13.u k (h, (v, s)) = some (metP h v s) := by
  show F13.f _ _ _ _ k h v s = _
  rw [F13.f, F13.q, F13.c, F54.spec, Option.bind_some]
  unfold metP
  by_cases h10 : (objV h v).1 = 10
  · have hc := isO_lt (objV_cls p h10)
    rw [show ((objV h v).1 != 10) = false by simpa using h10, cond_false, cond_false, F55.spec hk p hc.1 hc.2.1, Option.bind_some]
    dsimp only
    cases hf : (inhP h (objV h v).2.2.1 s).2.2 with
    | false => rfl
    | true =>
      have va : VI h (inhP h (objV h v).2.2.1 s).1 := fndP_vi p
      rw [Bool.not_true, cond_false, cond_false, F56.spec, Option.bind_some]
      cases fncV h (inhP h (objV h v).2.2.1 s).1 with
      | true => rfl
      | false =>
        rw [cond_false, cond_false, F54.spec, Option.bind_some]
        by_cases h13 : (objV h (inhP h (objV h v).2.2.1 s).1).1 = 13
        · have := (p.cnt (v := (inhP h (objV h v).2.2.1 s).1) (by omega) (by omega)).one (by omega)
          rw [show ((objV h (inhP h (objV h v).2.2.1 s).1).1 == 13) = true by simpa using h13, show ((objV h (inhP h (objV h v).2.2.1 s).1).1 == 14) = false by rw [h13]; rfl, cond_true, cond_false, cond_true, if_pos (by omega)]
          rfl
        · rw [show ((objV h (inhP h (objV h v).2.2.1 s).1).1 == 13) = false by simpa using h13, cond_false, cond_false]
          by_cases h14 : (objV h (inhP h (objV h v).2.2.1 s).1).1 = 14
          · have := (p.cnt (v := (inhP h (objV h v).2.2.1 s).1) (by omega) (by omega)).one (by omega)
            rw [show ((objV h (inhP h (objV h v).2.2.1 s).1).1 == 14) = true by simpa using h14, cond_true, cond_true, if_pos (by omega)]
            rfl
          · rw [show ((objV h (inhP h (objV h v).2.2.1 s).1).1 == 14) = false by simpa using h14, cond_false, cond_false]
  · rw [show ((objV h v).1 != 10) = true by simpa using h10, cond_true, cond_true]
    rfl
/-- what is called and its arguments are values of the heap -/
theorem metP_vi {h : X_Heap} (p : HP h) {v : X_Value} (vi : VI h v) {s : List UInt8} : VI h (metP h v s).1 ∧ (metP h v s).2.1.length ≤ 1 ∧ ∀ x ∈ (metP h v s).2.1, VI h x := by
  have none : VI h zV ∧ ([] : List X_Value).length ≤ 1 ∧ ∀ x ∈ ([] : List X_Value), VI h x := ⟨vi_zV, by simp, fun x h => by cases h⟩
  unfold metP
  by_cases h10 : (objV h v).1 = 10
  · rw [show ((objV h v).1 != 10) = false by simpa using h10, cond_false]
    cases hf : (inhP h (objV h v).2.2.1 s).2.2 with
    | false => exact none
    | true =>
      have va : VI h (inhP h (objV h v).2.2.1 s).1 := fndP_vi p
      rw [Bool.not_true, cond_false]
      cases fncV h (inhP h (objV h v).2.2.1 s).1 with
      | true => exact ⟨va, by simp, fun x hx => by rw [List.mem_singleton.1 hx]; exact vi⟩
      | false =>
        rw [cond_false]
        by_cases h13 : (objV h (inhP h (objV h v).2.2.1 s).1).1 = 13
        · have := (p.cnt (v := (inhP h (objV h v).2.2.1 s).1) (by omega) (by omega)).one (by omega)
          rw [show ((objV h (inhP h (objV h v).2.2.1 s).1).1 == 13) = true by simpa using h13, cond_true]
          exact ⟨it0_vi p (by omega), by simp, fun x h => by cases h⟩
        · rw [show ((objV h (inhP h (objV h v).2.2.1 s).1).1 == 13) = false by simpa using h13, cond_false]
          by_cases h14 : (objV h (inhP h (objV h v).2.2.1 s).1).1 = 14
          · have := (p.cnt (v := (inhP h (objV h v).2.2.1 s).1) (by omega) (by omega)).one (by omega)
            rw [show ((objV h (inhP h (objV h v).2.2.1 s).1).1 == 14) = true by simpa using h14, cond_true]
            refine ⟨it0_vi p (by omega), by simp, fun x hx => ?_⟩
            rw [List.mem_singleton.1 hx]
            exact vi_refV (objV_cls p h10)
          · rw [show ((objV h (inhP h (objV h v).2.2.1 s).1).1 == 14) = false by simpa using h14, cond_false]
            exact ⟨va, by simp, fun x h => by cases h⟩
  · rw [show ((objV h v).1 != 10) = true by simpa using h10, cond_true]
    exact none
end Go.Ab
