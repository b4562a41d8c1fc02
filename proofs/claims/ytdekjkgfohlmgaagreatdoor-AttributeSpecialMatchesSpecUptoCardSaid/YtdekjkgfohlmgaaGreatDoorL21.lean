/- Law 21: what classes inherit, special methods, the names of attributes. -/
import Derived.Test.YtdekjkgfohlmgaaGreatDoorA3
namespace Go.Ab
set_option linter.unusedVariables false
set_option linter.unusedSimpArgs false
theorem F11.tot {k : Nat} (hk : 1000 < k) (s : List UInt8) : Tot (F11.u k s) := by
  obtain ⟨b, hb⟩ := F50.tot hk s
  show Tot (F11.f _ k s)
  rw [F11.f, F11.b, hb]
  exact tot_some _
theorem namS_len {h : X_Heap} (t : TH h) {v : X_Value} : (namS h v).length ≤ 5000000000000 := by
  have n1 := (t.objV v).names
  have n2 := (t.objV v).order
  have n3 := (t.ob (objV h v).2.2.1.toNat).order
  have m1 := namesOf_len t (hob h (objV h v).2.2.1.toNat).2.2.2.2.1
  have m2 := namesOf_len t (objV h v).2.2.2.2.1
  have m3 := (F19.spec (k := 0) (c := clV h v)).2
  unfold namS
  cases (objV h v).1 == 10 with
  | true => exact Nat.le_trans (uniqS_length _) (by rw [List.length_append]; omega)
  | false =>
    cases (objV h v).1 == 9 with
    | true => exact Nat.le_trans (uniqS_length _) (by rw [List.length_append]; simp only [List.length_cons, List.length_nil]; omega)
    | false =>
      cases (objV h v).1 == 11 with
      | true => exact Nat.le_trans (uniqS_length _) (by omega)
      | false =>
        refine Nat.le_trans (uniqS_length _) ?_
        rw [List.length_append]
        cases (v.1 == 7 || ((objV h v).1 == 7 || (objV h v).1 == 8)) <;> simp only [cond_true, cond_false, List.length_cons, List.length_nil] <;> omega
theorem law21 {k : Nat} (hk : BK k) {h : X_Heap} (t : TH h) {v : X_Value} (tv : TV v) {c : Int} {s : List UInt8} : F4.u k (h, (v, (c, s))) = some true := by
  have hk1 := bkN hk (n := 10000000000000) (by omega)
  obtain ⟨b, hb, hb2⟩ := F5.spec hk t (l := [v]) (by simp) (fun w hw => by rw [List.mem_singleton.1 hw]; exact tv)
  obtain ⟨b2, hn⟩ := F11.tot (k := k) (by omega) s
  show F4.f _ _ _ _ _ _ _ _ _ _ _ _ _ _ k h v c s = _
  rw [F4.f, F4.q, F4.c, hb, Option.bind_some]
  cases b with
  | false => rfl
  | true =>
    obtain ⟨p, hv⟩ := hb2 rfl
    have vh := hv v (by simp)
    have vi := vh.vi tv
    rw [Bool.not_true, cond_false, hn, Option.bind_some]
    cases b2 with
    | false => rfl
    | true =>
      obtain ⟨q1, q2, q3⟩ := metP_vi p vi (s := s)
      have hl := namS_len t (v := v)
      have g9 : F4.g9 (F5.u k) (F11.u k) (F12.u k) (F13.u k) (F14.u k) (F15.u k) (F17.u k) (F18.u k) (F16.u k) (F19.u k) (F20.u k) (F21.u k) (F22.u k) (F23.u k) k c s h = some true := by
        rw [F4.g9, gate_pos (by omega), F4.b_g9, F21.spec, Option.bind_some]
        cases hi : isO h c with
        | false => rfl
        | true =>
          obtain ⟨i1, i2, i3⟩ := isO_lt hi
          rw [Bool.not_true, cond_false, if_pos ⟨i1, i2⟩, show h.getD c.toNat Z_Object = hob h c.toNat from rfl]
          by_cases h9 : (hob h c.toNat).1 = 9
          · rw [ineF h9, cond_false, F22.spec (by omega) p i1 i2, Option.bind_some, if_pos ⟨i1, i2⟩, F23.spec (by omega) p (p.t.ob _).order (p.ords (by omega)), Option.bind_some]
            rw [show fndP h s (hob h c.toNat).2.2.2.2.1 = inhP h c s from rfl, beq_self_eq_true, cond_true, beq_self_eq_true, cond_true, sv_refl (k := k) (v := (inhP h c s).1) (by omega) (fndP_vi p (s := s) (l := (hob h c.toNat).2.2.2.2.1)).tv]
            rfl
          · rw [ineT h9]; rfl
      obtain ⟨e1, e2⟩ := F19.spec (k := k) (c := c)
      have hsv : F15.u k ((metP h v s).2.1, (metP h v s).2.1) = some true := by
        rw [F15.spec (by omega) (by omega) (fun x hx => (q3 x hx).tv), beq_self_eq_true]
      rw [Bool.not_true, cond_false, F12.spec (by omega) p vi, Option.bind_some, F13.spec (by omega) p, Option.bind_some, show ((metP h v s).2.2 != (metP h v s).2.2) = false by simp, cond_false, sv_refl (by omega) q1.tv, Option.bind_some, Bool.not_true, cond_false, hsv, Option.bind_some, Bool.not_true, cond_false,
        F17.spec (by omega) p vi vh.kind, Option.bind_some, F18.spec (by omega) p vi vh.kind, Option.bind_some, F16.spec (by omega) (by omega), Option.bind_some, beq_self_eq_true, Bool.not_true, cond_false, g9, e1, Option.bind_some, F20.spec, Option.bind_some, F16.spec (by omega) (by omega), Option.bind_some, beq_self_eq_true, Bool.not_true, cond_false]
      cases decide (c ≥ 0) <;> cases decide (c < 49) <;> rfl
end Go.Ab
