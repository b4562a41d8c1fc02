/- Classes of values and their names; what is made equals itself. -/
import Derived.Test.YtdekjkgfohlmgaaGreatDoorN1
namespace Go.Ab
set_option linter.unusedVariables false
set_option linter.unusedSimpArgs false
theorem ieqF {a b : Int} (h : a ≠ b) : (a == b) = false := by rw [beq_eq_false_iff_ne]; exact h
theorem ieqT {a b : Int} (h : a = b) : (a == b) = true := by rw [h]; exact beq_self_eq_true b
theorem ineT {a b : Int} (h : a ≠ b) : (a != b) = true := by rw [bne, ieqF h]; rfl
theorem ineF {a b : Int} (h : a = b) : (a != b) = false := by rw [bne, ieqT h]; rfl
/-- the class of an instance is an object -/
theorem HP.cls {h : X_Heap} (p : HP h) {j : Nat} (hj : j < h.length) (h10 : (hob h j).1 = 10) : isO h (hob h j).2.2.1 = true := (p.links hj (by omega)).2.2.cls
theorem objV_cls {h : X_Heap} (p : HP h) {v : X_Value} (h10 : (objV h v).1 = 10) : isO h (objV h v).2.2.1 = true := by
  unfold objV at h10 ⊢
  cases hc : (decide (v.1 = 6) && isO h v.2.2.2.2) with
  | false => rw [hc] at h10; cases h10
  | true =>
    rw [hc, cond_true] at h10
    rw [cond_true]
    rw [Bool.and_eq_true] at hc
    have := isO_lt hc.2
    exact p.cls (by omega) h10
/-! ### classes -/
def kinC : List Int := [2, 3, 4, 5, 6, 7, 0, 15, 27, 2]
def objC : List Int := [0, 8, 9, 10, 11, 12, 13, 14, 16, 1, 0, 17, 18, 19, 20, 21, 22, 23, 24, 25, 26]
/-- the class of an object -/
def clO (o : X_Object) : Int := bif o.1 == 10 then o.2.2.1 else objC.getD o.1.toNat 0
/-- the class of a value -/
def clV (h : X_Heap) (v : X_Value) : Int := bif v.1 == 6 then clO (objV h v) else kinC.getD v.1.toNat 0
theorem F98.spec {k : Nat} : F98.u k () = some kinC := by kernel_rfl
theorem F99.spec {k : Nat} : F99.u k () = some objC := by kernel_rfl
theorem F102.spec {k : Nat} {o : X_Object} (h1 : 1 ≤ o.1) (h2 : o.1 < 21) : F102.u k o = some (clO o) := by
  obtain ⟨c, r⟩ := o
  have h : c = 1 ∨ c = 2 ∨ c = 3 ∨ c = 4 ∨ c = 5 ∨ c = 6 ∨ c = 7 ∨ c = 8 ∨ c = 9 ∨ c = 10 ∨ c = 11 ∨ c = 12 ∨ c = 13 ∨ c = 14 ∨ c = 15 ∨ c = 16 ∨ c = 17 ∨ c = 18 ∨ c = 19 ∨ c = 20 := by
    have : 1 ≤ c := h1
    have : c < 21 := h2
    omega
  rcases h with rfl | rfl | rfl | rfl | rfl | rfl | rfl | rfl | rfl | rfl | rfl | rfl | rfl | rfl | rfl | rfl | rfl | rfl | rfl | rfl
  all_goals rfl
theorem F60.spec {k : Nat} {h : X_Heap} (p : HP h) {v : X_Value} (vi : VI h v) (hk : 0 ≤ v.1 ∧ v.1 ≤ 8) : F60.u k (h, v) = some (clV h v) := by
  show F60.f (F98.u k) (F99.u k) k h v = _
  rw [F60.f, F60.b, F98.spec, F99.spec, Option.bind_some, Option.bind_some]
  unfold clV
  by_cases h6 : v.1 = 6
  · have hi := vi.ref h6
    obtain ⟨i1, i2, i3⟩ := isO_lt hi
    have hkd := p.kind (j := v.2.2.2.2.toNat) (by omega)
    rw [show (v.1 != 6) = false by simpa using h6, show (v.1 == 6) = true by simpa using h6, cond_false, cond_true, if_pos ⟨i1, i2⟩, show h.getD v.2.2.2.2.toNat Z_Object = hob h v.2.2.2.2.toNat from rfl, objV_ref h6 hi, if_pos ⟨hkd.1, hkd.2⟩]
    unfold clO
    cases ((hob h v.2.2.2.2.toNat).1 == 10) <;> rfl
  · rw [show (v.1 != 6) = true by simpa using h6, show (v.1 == 6) = false by simpa using h6, cond_false, cond_true, if_pos ⟨hk.1, by show v.1 < 10; omega⟩]
theorem F63.spec {k : Nat} {h : X_Heap} (p : HP h) {v : X_Value} (vi : VI h v) (hk : 0 ≤ v.1 ∧ v.1 ≤ 8) : F63.u k (h, v) = some (clV h v) := by
  show F63.f (F102.u k) k h v = _
  rw [F63.f, F63.b]
  unfold clV
  have hc : v.1 = 0 ∨ v.1 = 1 ∨ v.1 = 2 ∨ v.1 = 3 ∨ v.1 = 4 ∨ v.1 = 5 ∨ v.1 = 6 ∨ v.1 = 7 ∨ v.1 = 8 := by omega
  rcases hc with h0 | h0 | h0 | h0 | h0 | h0 | h6 | h0 | h0
  case inr.inr.inr.inr.inr.inr.inl =>
    have hi := vi.ref h6
    obtain ⟨i1, i2, i3⟩ := isO_lt hi
    have hkd := p.kind (j := v.2.2.2.2.toNat) (by omega)
    rw [if_pos ⟨i1, i2⟩, show h.getD v.2.2.2.2.toNat Z_Object = hob h v.2.2.2.2.toNat from rfl, F102.spec (by omega) hkd.2, objV_ref h6 hi, h6]
    rfl
  all_goals (rw [h0]; rfl)
/-! ### the law -/
def refV (n : Int) : X_Value := (6, ((false, []), ((false, []), ([], n))))
theorem tv_refV {n : Int} : TV (refV n) := ⟨(fun d h => by cases h), (fun d h => by cases h), (by show ([] : List Int).length ≤ _; simp), (by show ([] : List Int).length ≤ _; simp), (by show ([] : List UInt8).length ≤ _; simp)⟩
theorem sv_refl {k : Nat} (hk : 3000000 < k) {v : X_Value} (hv : TV v) : F14.u k (v, v) = some true := by rw [F14.spec hk hv, beq_self_eq_true]
end Go.Ab
