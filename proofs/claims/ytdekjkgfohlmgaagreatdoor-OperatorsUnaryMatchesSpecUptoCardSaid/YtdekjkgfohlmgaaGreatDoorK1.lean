/- Classes of values and their names; what is made equals itself. -/
import Derived.Test.YtdekjkgfohlmgaaGreatDoorN1
namespace Go.Ab
set_option linter.unusedVariables false
set_option linter.unusedSimpArgs false
theorem ieqF {a b : Int} (h : a ≠ b) : (a == b) = false := by rw [beq_eq_false_iff_ne]; exact h
theorem ieqT {a b : Int} (h : a = b) : (a == b) = true := by rw [h]; exact beq_self_eq_true b
/-- the class of an instance is an object -/
theorem HP.cls {h : X_Heap} (p : HP h) {j : Nat} (hj : j < h.length) (h10 : (hob h j).1 = 10) : isO h (hob h j).2.2.1 = true := (p.links hj (by omega)).2.2.cls
theorem objV_cls {h : X_Heap} (p : HP h) {v : X_Value} (h10 : (objV h v).1 = 10) : isO h (objV h v).2.2.1 = true := by
  unfold objV at h10 ⊢
  cases hc : (decide (v.1 = 6) && isO h v.2.2.2.2) with
  | false => rw [hc] at h10; cases h10
  | true =>
    rw [hc, cond_true] at h10
    rw [cond_true]
    rw [Bool.and_eq_true] at hc
    have := isO_lt hc.2
    exact p.cls (by omega) h10
theorem F10.l0_refl {k : Nat} (hk : 3000000 < k) {h : X_Heap} (hl : h.length ≤ 2000000) (ho : ∀ o ∈ h, TO o) : ∀ (d n i : Nat), h.length - i = d → d < n → i ≤ h.length → F10.l0 (F49.u k) k n h h (h.length : Int) (i : Int) = some true := by
  intro d
  induction d with
  | zero =>
    intro n i hd hn hi
    obtain ⟨n, rfl⟩ : ∃ m, n = m + 1 := ⟨n - 1, by omega⟩
    rw [F10.l0, F10.b_l0, decide_eq_false (by omega), cond_false]
  | succ d ih =>
    intro n i hd hn hi
    obtain ⟨n, rfl⟩ : ∃ m, n = m + 1 := ⟨n - 1, by omega⟩
    have hlt : i < h.length := by omega
    rw [F10.l0, F10.b_l0, decide_eq_true (by omega), cond_true, if_pos ⟨by omega, by omega⟩, if_pos ⟨by omega, by omega⟩, Int.toNat_natCast, getD_of hlt, F49.refl hk (ho _ (List.getElem_mem hlt)), Option.bind_some, Bool.not_true, cond_false, wrapN (by omega)]
    exact ih n (i + 1) (by omega) (by omega) (by omega)
theorem F10.refl {k : Nat} (hk : 3000000 < k) {h : X_Heap} (hl : h.length ≤ 2000000) (ho : ∀ o ∈ h, TO o) : F10.u k (h, h) = some true := by
  show F10.f (F49.u k) k h h = _
  rw [F10.f, F10.b, show ((h.length : Int) != (h.length : Int)) = false by simp, cond_false]
  exact F10.l0_refl hk hl ho _ k 0 rfl (by omega) (by omega)
/-! ### classes -/
def kinC : List Int := [2, 3, 4, 5, 6, 7, 0, 15, 27, 2]
def objC : List Int := [0, 8, 9, 10, 11, 12, 13, 14, 16, 1, 0, 17, 18, 19, 20, 21, 22, 23, 24, 25, 26]
/-- the class of an object -/
def clO (o : X_Object) : Int := bif o.1 == 10 then o.2.2.1 else objC.getD o.1.toNat 0
/-- the class of a value -/
def clV (h : X_Heap) (v : X_Value) : Int := bif v.1 == 6 then clO (objV h v) else kinC.getD v.1.toNat 0
theorem F98.spec {k : Nat} : F98.u k () = some kinC := by kernel_rfl
theorem F99.spec {k : Nat} : F99.u k () = some objC := by kernel_rfl
theorem F102.spec {k : Nat} {o : X_Object} (h1 : 1 ≤ o.1) (h2 : o.1 < 21) : F102.u k o = some (clO o) := by
  obtain ⟨c, r⟩ := o
  have h : c = 1 ∨ c = 2 ∨ c = 3 ∨ c = 4 ∨ c = 5 ∨ c = 6 ∨ c = 7 ∨ c = 8 ∨ c = 9 ∨ c = 10 ∨ c = 11 ∨ c = 12 ∨ c = 13 ∨ c = 14 ∨ c = 15 ∨ c = 16 ∨ c = 17 ∨ c = 18 ∨ c = 19 ∨ c = 20 := by
    have : 1 ≤ c := h1
    have : c < 21 := h2
    omega
  rcases h with rfl | rfl | rfl | rfl | rfl | rfl | rfl | rfl | rfl | rfl | rfl | rfl | rfl | rfl | rfl | rfl | rfl | rfl | rfl | rfl
  all_goals rfl
theorem F60.spec {k : Nat} {h : X_Heap} (p : HP h) {v : X_Value} (vi : VI h v) (hk : 0 ≤ v.1 ∧ v.1 ≤ 8) : F60.u k (h, v) = some (clV h v) := by
  show F60.f (F98.u k) (F99.u k) k h v = _
  rw [F60.f, F60.b, F98.spec, F99.spec, Option.bind_some, Option.bind_some]
  unfold clV
  by_cases h6 : v.1 = 6
  · have hi := vi.ref h6
    obtain ⟨i1, i2, i3⟩ := isO_lt hi
    have hkd := p.kind (j := v.2.2.2.2.toNat) (by omega)
    rw [show (v.1 != 6) = false by simpa using h6, show (v.1 == 6) = true by simpa using h6, cond_false, cond_true, if_pos ⟨i1, i2⟩, show h.getD v.2.2.2.2.toNat Z_Object = hob h v.2.2.2.2.toNat from rfl, objV_ref h6 hi, if_pos ⟨hkd.1, hkd.2⟩]
    unfold clO
    cases ((hob h v.2.2.2.2.toNat).1 == 10) <;> rfl
  · rw [show (v.1 != 6) = true by simpa using h6, show (v.1 == 6) = false by simpa using h6, cond_false, cond_true, if_pos ⟨hk.1, by show v.1 < 10; omega⟩]
theorem F63.spec {k : Nat} {h : X_Heap} (p : HP h) {v : X_Value} (vi : VI h v) (hk : 0 ≤ v.1 ∧ v.1 ≤ 8) : F63.u k (h, v) = some (clV h v) := by
  show F63.f (F102.u k) k h v = _
  rw [F63.f, F63.b]
  unfold clV
  have hc : v.1 = 0 ∨ v.1 = 1 ∨ v.1 = 2 ∨ v.1 = 3 ∨ v.1 = 4 ∨ v.1 = 5 ∨ v.1 = 6 ∨ v.1 = 7 ∨ v.1 = 8 := by omega
  rcases hc with h0 | h0 | h0 | h0 | h0 | h0 | h6 | h0 | h0
  case inr.inr.inr.inr.inr.inr.inl =>
    have hi := vi.ref h6
    obtain ⟨i1, i2, i3⟩ := isO_lt hi
    have hkd := p.kind (j := v.2.2.2.2.toNat) (by omega)
    rw [if_pos ⟨i1, i2⟩, show h.getD v.2.2.2.2.toNat Z_Object = hob h v.2.2.2.2.toNat from rfl, F102.spec (by omega) hkd.2, objV_ref h6 hi, h6]
    rfl
  all_goals (rw [h0]; rfl)
theorem objC_lt : ∀ i : Nat, 0 ≤ objC.getD i 0 ∧ objC.getD i 0 < 49 := by
  intro i
  by_cases hi : i < 21
  · have : ∀ j : Fin 21, 0 ≤ objC.getD j.1 0 ∧ objC.getD j.1 0 < 49 := by decide
    exact this ⟨i, hi⟩
  · rw [getD_out (show objC.length ≤ i by show 21 ≤ i; omega)]; omega
theorem kinC_lt : ∀ i : Nat, 0 ≤ kinC.getD i 0 ∧ kinC.getD i 0 < 49 := by
  intro i
  by_cases hi : i < 10
  · have : ∀ j : Fin 10, 0 ≤ kinC.getD j.1 0 ∧ kinC.getD j.1 0 < 49 := by decide
    exact this ⟨i, hi⟩
  · rw [getD_out (show kinC.length ≤ i by show 10 ≤ i; omega)]; omega
theorem clV_in {h : X_Heap} (p : HP h) {v : X_Value} (vi : VI h v) : 0 ≤ clV h v ∧ clV h v < (h.length : Int) := by
  have := p.low
  unfold clV
  by_cases h6 : v.1 = 6
  · rw [show (v.1 == 6) = true by simpa using h6, cond_true]
    unfold clO
    by_cases h10 : (objV h v).1 = 10
    · rw [show ((objV h v).1 == 10) = true by simpa using h10, cond_true]
      have := isO_lt (objV_cls p h10)
      exact ⟨this.1, this.2.1⟩
    · rw [show ((objV h v).1 == 10) = false by simpa using h10, cond_false]
      have := objC_lt (objV h v).1.toNat
      omega
  · rw [show (v.1 == 6) = false by simpa using h6, cond_false]
    have := kinC_lt v.1.toNat
    omega
theorem F34.spec {k : Nat} {h : X_Heap} (p : HP h) {v : X_Value} (vi : VI h v) (hk : 0 ≤ v.1 ∧ v.1 ≤ 8) : F34.u k (h, v) = some (hob h (clV h v).toNat).2.1 := by
  show F34.f (F60.u k) k h v = _
  rw [F34.f, F34.b, F60.spec p vi hk, Option.bind_some, if_pos (clV_in p vi)]
  rfl
theorem F48.spec {k : Nat} {h : X_Heap} (p : HP h) {v : X_Value} (vi : VI h v) (hk : 0 ≤ v.1 ∧ v.1 ≤ 8) : F48.u k (h, v) = some (hob h (clV h v).toNat).2.1 := by
  show F48.f (F63.u k) k h v = _
  rw [F48.f, F48.b, F63.spec p vi hk, Option.bind_some, if_pos (clV_in p vi)]
  rfl
/-! ### the law -/
def refV (n : Int) : X_Value := (6, ((false, []), ((false, []), ([], n))))
theorem tv_refV {n : Int} : TV (refV n) := ⟨(fun d h => by cases h), (fun d h => by cases h), (by show ([] : List Int).length ≤ _; simp), (by show ([] : List Int).length ≤ _; simp), (by show ([] : List UInt8).length ≤ _; simp)⟩
theorem F29.refl {k : Nat} (hk : 3000000 < k) {s : X_Step} (h1 : TV s.2.1) (h2 : TV s.2.2.2.2.1) (h3 : s.2.2.2.2.2.length ≤ 2000000) (h4 : ∀ v ∈ s.2.2.2.2.2, TV v) : F29.u k (s, s) = some true := by
  show F29.f (F14.u k) (F15.u k) k s s = _
  rw [F29.f, F29.b, F14.spec hk h1, F14.spec hk h2, F15.spec hk h3 h4]
  simp only [Option.bind_some, beq_self_eq_true, cond_true]
theorem resu_same {k : Nat} (hk : 3000000 < k) {v : X_Value} (tv : TV v) : F29.u k (resu v, resu v) = some true := F29.refl hk tv tv_zV (by show ([] : List X_Value).length ≤ _; simp) (fun v h => by cases h)
theorem rais_same {k : Nat} (hk : 3000000 < k) {c : Int} {t : List UInt8} : F29.u k (rais c t, rais c t) = some true := F29.refl hk tv_zV tv_zV (by show ([] : List X_Value).length ≤ _; simp) (fun v h => by cases h)
end Go.Ab
