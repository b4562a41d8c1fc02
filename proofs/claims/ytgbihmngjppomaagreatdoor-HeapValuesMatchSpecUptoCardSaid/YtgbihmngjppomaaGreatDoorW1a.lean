/- Classes and what they derive from. -/
import Derived.Test.YtgbihmngjppomaaGreatDoorW0
namespace Go.Ab
set_option linter.unusedVariables false
set_option linter.unusedSimpArgs false
def boolV (b : Bool) : X_Value := (1, ((false, []), ((false, []), ([], bif b then 1 else 0))))
theorem tv_boolV (b : Bool) : TV (boolV b) := ⟨(fun d h => by cases h), (fun d h => by cases h), (by show ([] : List Int).length ≤ _; simp), (by show ([] : List Int).length ≤ _; simp), (by show ([] : List UInt8).length ≤ _; simp)⟩
/-- a class derives from a base -/
def derB (h : X_Heap) (c n : Int) : Bool := (hob h c.toNat).2.2.2.2.1.any fun y => n == y
theorem F32.spec {k : Nat} (hk : 3000000 < k) {h : X_Heap} (t : TH h) {c n : Int} (h0 : 0 ≤ c) (h1 : c < (h.length : Int)) : F32.u k (h, (c, n)) = some (derB h c n) := by
  have := (t.ob c.toNat).order
  show F32.f (F41.u k) k h c n = _
  rw [F32.f, F32.q, F32.c, if_pos ⟨h0, h1⟩, show h.getD c.toNat Z_Object = hob h c.toNat from rfl, F41.spec (by omega) (by omega)]
  rfl
theorem F33.spec {k : Nat} (hk : 3000000 < k) {h : X_Heap} (t : TH h) {c n : Int} (h0 : 0 ≤ c) (h1 : c < (h.length : Int)) : F33.u k (h, (c, n)) = some (derB h c n) := by
  have := (t.ob c.toNat).order
  show F33.f (F41.u k) k h c n = _
  rw [F33.f, F33.q, F33.c, if_pos ⟨h0, h1⟩, show h.getD c.toNat Z_Object = hob h c.toNat from rfl, F41.spec (by omega) (by omega)]
  rfl
/-- the class of an instance is an object -/
theorem HP.cls {h : X_Heap} (p : HP h) {j : Nat} (hj : j < h.length) (h10 : (hob h j).1 = 10) : isO h (hob h j).2.2.1 = true := (p.links hj (by omega)).2.2.cls
theorem objV_cls {h : X_Heap} (p : HP h) {v : X_Value} (h10 : (objV h v).1 = 10) : isO h (objV h v).2.2.1 = true := by
  unfold objV at h10 ⊢
  cases hc : (decide (v.1 = 6) && isO h v.2.2.2.2) with
  | false => rw [hc] at h10; cases h10
  | true =>
    rw [hc, cond_true] at h10
    rw [cond_true]
    rw [Bool.and_eq_true] at hc
    have := isO_lt hc.2
    exact p.cls (by omega) h10
end Go.Ab
