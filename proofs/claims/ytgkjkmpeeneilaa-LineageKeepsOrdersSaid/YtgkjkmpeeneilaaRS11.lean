/- A part of the proof: RS11. -/
import Derived.Test.YtgkjkmpeeneilaaRS10
namespace Go.Ab
set_option linter.unusedVariables false
section
variable {k : Nat} {c14 : f_lineage_Order.E} {res : List Int} {all : List (List Int)}
abbrev KC (k : Nat) := f_ref7_HasInt.u k
theorem keep_g13 {nx : List (List Int) → List Int → List Int → Int → List Int → List (List Int) → Int → Int → List Int → Int → Int → Option Bool} (hk : 400 < k) (hres : res.length ≤ 40) (hn : res.Nodup) {b : List Int} (hb : b.length ≤ 40) (hs : List.Sublist b res) {acc : List Int} {i j : Nat} (hj : j < b.length) {n0 : _} :
    f_law7_LineageKeepsOrders.g13 c14 (f_ref7_HasInt.u k) (f_lineage_Before.u k) (f_ref7_Ints.u k) k n0 nx all res acc (i : Int) b (j : Int) b[j] all (all.length : Int) (i : Int) b (b.length : Int) (j : Int) =
      nx all res acc (i : Int) b all (all.length : Int) (i : Int) b (b.length : Int) ((j + 1 : Nat) : Int) := by
  rw [f_law7_LineageKeepsOrders.g13, gate_pos (by omega), f_law7_LineageKeepsOrders.b_g13]
  simp only [List.take_length, wrapN (show j < 9223372036854775807 by omega)]
  by_cases h0 : 0 < j
  · rw [decide_eq_true (by omega), cond_true, wrapI (by omega) (by omega), if_pos ⟨by omega, by omega⟩]
    obtain ⟨j, rfl⟩ : ∃ m, j = m + 1 := ⟨j - 1, by omega⟩
    have e : b.getD (((j + 1 : Nat) : Int) - 1).toNat 0 = b[j] := by
      rw [show (((j + 1 : Nat) : Int) - 1).toNat = j by omega, getD_of]
    rw [e, before_spec hres hk hn ((two_sub hj).trans hs), Option.bind_some, Bool.not_true, cond_false]
  · rw [decide_eq_false (by omega), cond_false]
theorem keep_l2 {n0 : List (List Int) → List Int → List Int → List (List Int) → Int → Int → Option Bool} (hk : 500 < k) (hres : res.length ≤ 40) (hn : res.Nodup) {b : List Int} (hb : b.length ≤ 40) (hs : List.Sublist b res) {acc0 : List Int} (ha : acc0.length ≤ 400) {i : Nat} (R : Option Bool)
    (hR : ∀ n2, f_law7_LineageKeepsOrders.b_l2 c14 (f_ref7_HasInt.u k) (f_lineage_Before.u k) (f_ref7_Ints.u k) n2 n0 all res (gat acc0 b) (i : Int) b all (all.length : Int) (i : Int) b (b.length : Int) (b.length : Int) = R) (d : Nat) :
    ∀ (n j : Nat), j ≤ b.length → b.length - j = d → d < n →
      f_law7_LineageKeepsOrders.l2 c14 (f_ref7_HasInt.u k) (f_lineage_Before.u k) (f_ref7_Ints.u k) k n0 n all res (gat acc0 (b.take j)) (i : Int) b all (all.length : Int) (i : Int) b (b.length : Int) (j : Int) = R := by
  induction d with
  | zero =>
    intro n j hj hd hn
    obtain ⟨n, rfl⟩ : ∃ m, n = m + 1 := ⟨n - 1, by omega⟩
    obtain rfl : j = b.length := by omega
    rw [List.take_length, f_law7_LineageKeepsOrders.l2]
    exact hR _
  | succ d ih =>
    intro n j hj hd hn'
    obtain ⟨n, rfl⟩ : ∃ m, n = m + 1 := ⟨n - 1, by omega⟩
    have hlt : j < b.length := by omega
    have nx1 := ih n (j + 1) (by omega) (by omega) (by omega)
    have hg : gat acc0 (b.take (j + 1)) = addU (gat acc0 (b.take j)) b[j] := by
      rw [gat, List.take_succ_eq_append_getElem hlt, List.foldl_append]; rfl
    have hgl : (gat acc0 (b.take j)).length ≤ 440 := by
      have := gat_len (b.take j) acc0
      rw [List.length_take] at this
      omega
    rw [f_law7_LineageKeepsOrders.l2, f_law7_LineageKeepsOrders.b_l2, decide_eq_true (by omega), cond_true, if_pos ⟨by omega, by omega⟩, Int.toNat_natCast, getD_of hlt]
    simp only [List.take_length]
    rw [f_ref7_HasInt.spec (by omega) (by omega), Option.bind_some]
    rw [hg, addU] at nx1
    cases hc : (List.any (gat acc0 (List.take j b)) fun y => b[j] == y) with
    | true =>
      rw [hc, cond_true] at nx1
      rw [Bool.not_true, cond_false, keep_g13 (by omega) hres hn hb hs hlt]
      exact nx1
    | false =>
      rw [hc, cond_false] at nx1
      rw [Bool.not_false, cond_true, if_pos ⟨Nat.le_refl _, by simp [LIM]; omega⟩, show List.append (gat acc0 (List.take j b)) (List.take 1 [b[j]]) = gat acc0 (b.take j) ++ [b[j]] from rfl, keep_g13 (by omega) hres hn hb hs hlt]
      exact nx1
/-- the last search -/
theorem keep_l4 {acc : List Int} (hk : 500 < k) (hal : acc.length ≤ 400) (hsub : ∀ v ∈ res, v ∈ acc) (d : Nat) : ∀ (n j : Nat), j ≤ res.length → res.length - j = d → d < n → (R : Option Bool) →
    (∀ n2, f_law7_LineageKeepsOrders.b_l4 c14 (f_ref7_HasInt.u k) (f_lineage_Before.u k) (f_ref7_Ints.u k) n2 res acc res (res.length : Int) (res.length : Int) = R) → res.length ≤ 40 →
      f_law7_LineageKeepsOrders.l4 c14 (f_ref7_HasInt.u k) (f_lineage_Before.u k) (f_ref7_Ints.u k) k n res acc res (res.length : Int) (j : Int) = R := by
  induction d with
  | zero =>
    intro n j hj hd hn R hR hl
    obtain ⟨n, rfl⟩ : ∃ m, n = m + 1 := ⟨n - 1, by omega⟩
    obtain rfl : j = res.length := by omega
    rw [f_law7_LineageKeepsOrders.l4]
    exact hR _
  | succ d ih =>
    intro n j hj hd hn' R hR hl
    obtain ⟨n, rfl⟩ : ∃ m, n = m + 1 := ⟨n - 1, by omega⟩
    have hlt : j < res.length := by omega
    have nx1 := ih n (j + 1) (by omega) (by omega) (by omega) R hR hl
    rw [f_law7_LineageKeepsOrders.l4, f_law7_LineageKeepsOrders.b_l4, decide_eq_true (by omega), cond_true, if_pos ⟨by omega, by omega⟩, Int.toNat_natCast, getD_of hlt]
    simp only [List.take_length]
    have hc : (acc.any fun y => res[j] == y) = true := by
      simp only [List.any_eq_true, beq_iff_eq, exists_eq_right']
      exact hsub _ (List.getElem_mem hlt)
    rw [f_ref7_HasInt.spec (by omega) (by omega), Option.bind_some, hc, Bool.not_true, cond_false, wrapN (by omega)]
    exact nx1
end
theorem heads_get {all : List (List Int)} {i : Nat} (h : i < all.length) : (heads all)[i]'(by rw [heads, List.length_map]; exact h) = hdI all[i] := by simp [heads]
theorem keep_l0 {k : Nat} {c14 : f_lineage_Order.E} {res : List Int} {all : List (List Int)} (hk : 500 < k) (hal : all.length ≤ 8) (hg : good all all.length) (hres : res.length ≤ 40) (hn : res.Nodup) (hs : ∀ b ∈ all, List.Sublist b res) (hh : List.Sublist (heads all) res) (R : Option Bool)
    (hR : f_law7_LineageKeepsOrders.l4 c14 (f_ref7_HasInt.u k) (f_lineage_Before.u k) (f_ref7_Ints.u k) k k res (gatL [] all) res (res.length : Int) 0 = R) (d : Nat) :
    ∀ (n i : Nat), i ≤ all.length → all.length - i = d → d < n → f_law7_LineageKeepsOrders.l0 c14 (f_ref7_HasInt.u k) (f_lineage_Before.u k) (f_ref7_Ints.u k) k n all res (gatL [] (all.take i)) all (all.length : Int) (i : Int) = R := by
  have hm := good_mem hg
  induction d with
  | zero =>
    intro n i hi hd hn
    obtain ⟨n, rfl⟩ : ∃ m, n = m + 1 := ⟨n - 1, by omega⟩
    obtain rfl : i = all.length := by omega
    rw [f_law7_LineageKeepsOrders.l0, f_law7_LineageKeepsOrders.b_l0, decide_eq_false (by omega), cond_false]
    simp only [List.take_length]
    exact hR
  | succ d ih =>
    intro n i hi hd hn'
    obtain ⟨n, rfl⟩ : ∃ m, n = m + 1 := ⟨n - 1, by omega⟩
    have hlt : i < all.length := by omega
    have hmi := hm _ (List.getElem_mem hlt)
    have hpos := List.length_pos_iff.2 hmi.1
    have nx1 := ih n (i + 1) (by omega) (by omega) (by omega)
    have e : gatL [] (all.take (i + 1)) = gat (gatL [] (all.take i)) all[i] := by
      rw [gatL, List.take_succ_eq_append_getElem hlt, List.foldl_append]; rfl
    have hgl : (gatL [] (all.take i)).length ≤ 320 := by
      have := gatL_len (all.take i) [] fun b hb => (hm b (List.mem_of_mem_take hb)).2
      rw [List.length_take] at this
      simp only [List.length_nil] at this
      omega
    rw [f_law7_LineageKeepsOrders.l0, f_law7_LineageKeepsOrders.b_l0, decide_eq_true (by omega), cond_true, if_pos ⟨by omega, by omega⟩, Int.toNat_natCast, getD_of hlt]
    simp only [List.take_length]
    refine keep_l2 (n0 := fun x0 x3 x5 x22 x23 x24 => f_law7_LineageKeepsOrders.l0 c14 (f_ref7_HasInt.u k) (f_lineage_Before.u k) (f_ref7_Ints.u k) k n x0 x3 x5 x22 x23 x24) hk hres hn hmi.2 (hs _ (List.getElem_mem hlt)) (acc0 := gatL [] (all.take i)) (by omega) R (fun n2 => ?_) (all[i]).length k 0 (by omega) (by omega) (by omega)
    rw [f_law7_LineageKeepsOrders.b_l2, decide_eq_false (by omega), cond_false, wrapN (by omega)]
    simp only [List.take_length]
    rw [e] at nx1
    by_cases h0 : 0 < i
    · obtain ⟨i, rfl⟩ : ∃ m, i = m + 1 := ⟨i - 1, by omega⟩
      have hp1 := List.length_pos_iff.2 (hm _ (List.getElem_mem (show i < all.length by omega))).1
      have hget : all.getD (((i + 1 : Nat) : Int) - 1).toNat [] = all[i] := by
        rw [show (((i + 1 : Nat) : Int) - 1).toNat = i by omega, getD_of]
      have h2 : List.Sublist [hdI all[i], hdI all[i + 1]] res := by
        have := two_sub (l := heads all) (j := i) (by rw [heads, List.length_map]; exact hlt)
        rw [heads_get (by omega), heads_get hlt] at this
        exact this.trans hh
      rw [decide_eq_true (by omega), cond_true, wrapI (by omega) (by omega), if_pos ⟨by omega, by omega⟩, hget, if_pos ⟨by omega, by omega⟩, if_pos ⟨by omega, by omega⟩,
        show List.getD all[i] (Int.toNat 0) 0 = hdI all[i] from rfl, show List.getD all[i + 1] (Int.toNat 0) 0 = hdI all[i + 1] from rfl, before_spec hres (by omega) hn h2, Option.bind_some, Bool.not_true, cond_false]
      exact nx1
    · rw [decide_eq_false (by omega), cond_false]
      exact nx1
theorem law4 (all : List (List Int)) (hok : ∀ l ∈ all, okI l) : ∃ k y, f_law7_LineageKeepsOrders.u k all = some y ∧ y = true := by
  have hk : 17592186044420 < 17592186044421 := by omega
  generalize hK : 17592186044421 = k at hk
  obtain ⟨r, h1, h3, h4, h5⟩ := order_eq hk all hok
  refine ⟨k, true, ?_, rfl⟩
  show f_law7_LineageKeepsOrders.f (f_lineage_Order.u k) (f_ref7_HasInt.u k) (f_lineage_Before.u k) (f_ref7_Ints.u k) k all = _
  rw [f_law7_LineageKeepsOrders.f, f_law7_LineageKeepsOrders.b, h4]
  cases hr : (r.1 != 0) with
  | true => rw [ord, hr, cond_true, Option.bind_some, hr, cond_true]
  | false =>
    obtain ⟨rfl, hal, hg⟩ := h3 (by simpa using hr)
    have hm := good_mem hg
    have ht := (MOk.start hal hg).sum
    have ht2 : tot (ini all) ≤ 400 := by rw [ini, tot_ne]; simp only [List.length_nil] at ht; omega
    obtain ⟨⟨res, rest⟩, hy⟩ := mrg_some k [] (ini all) (ini_ne all) (by omega)
    rw [ord, hr, cond_false, hy, Option.bind_some]
    by_cases h6 : (rest.length : Int) > 0
    · rw [decide_eq_true h6]; rfl
    · rw [decide_eq_false h6, cond_false]
      by_cases h7 : (res.length : Int) ≥ 40
      · rw [decide_eq_true h7]; rfl
      · rw [decide_eq_false h7, cond_false, Option.bind_some]
        obtain rfl : rest = [] := List.eq_nil_of_length_eq_zero (by omega)
        obtain ⟨t, ht', p1, p2, p3⟩ := mrg_props k [] (ini all) res (ini_ne all) hy
        have ht'' : t = res := by simpa using ht'.symm
        subst ht''
        rw [show (((t, ((0 : Int), (0 : Int))) : List Int × X_Fault).2.1 != 0) = false from rfl, cond_false]
        have hmem : ∀ v, v ∈ t ↔ ∃ b ∈ all, v ∈ b := by
          intro v
          rw [p1]
          constructor
          · rintro ⟨x, hx, hv⟩
            rcases List.mem_append.1 (ne_mem.1 hx).1 with hx | hx
            · exact ⟨x, hx, hv⟩
            · rw [List.mem_singleton.1 hx, heads] at hv
              obtain ⟨b, hb, rfl⟩ := List.mem_map.1 hv
              refine ⟨b, hb, ?_⟩
              cases b with
              | nil => exact absurd rfl (hm _ hb).1
              | cons a b => exact List.mem_cons_self
          · rintro ⟨b, hb, hv⟩
            exact ⟨b, ne_mem.2 ⟨List.mem_append_left _ hb, (hm b hb).1⟩, hv⟩
        have hs : ∀ b ∈ all, List.Sublist b t := fun b hb => p3 b (ne_mem.2 ⟨List.mem_append_left _ hb, (hm b hb).1⟩)
        have hh : List.Sublist (heads all) t := by
          by_cases h0 : heads all = []
          · rw [h0]; exact List.nil_sublist _
          · exact p3 _ (ne_mem.2 ⟨List.mem_append_right _ (by simp), h0⟩)
        have htl : t.length ≤ 40 := by omega
        have hgl : (gatL [] all).length ≤ 400 := by
          have := gatL_len all [] fun b hb => (hm b hb).2
          simp only [List.length_nil] at this
          omega
        have hgm : ∀ v, v ∈ gatL [] all ↔ v ∈ t := by
          intro v
          rw [gatL_mem, hmem]
          simp
        have hlen : t.length = (gatL [] all).length := (((List.perm_ext_iff_of_nodup p2 (gatL_nodup List.nodup_nil)).2 fun v => (hgm v).symm)).length_eq
        refine keep_l0 (by omega) hal hg htl p2 hs hh (some true) ?_ all.length k 0 (by omega) (by omega) (by omega)
        refine keep_l4 (by omega) hgl (fun v hv => (hgm v).2 hv) t.length k 0 (by omega) (by omega) (by omega) (some true) (fun n2 => ?_) htl
        rw [f_law7_LineageKeepsOrders.b_l4, decide_eq_false (by omega), cond_false, ← hlen, show ((t.length : Int) != (t.length : Int)) = false by simp, cond_false]
        by_cases h0 : t = []
        · subst h0; rfl
        · have hp := List.length_pos_iff.2 h0
          rw [show ((t.length : Int) == 0) = false by rw [beq_eq_false_iff_ne]; omega, cond_false, show List.take 1 [t] = [t] from rfl]
          have hok1 : ∀ l ∈ [t], okI l := by
            intro l hl
            rw [List.mem_singleton.1 hl]
            refine ⟨by omega, fun n hn => ?_⟩
            obtain ⟨b, hb, hv⟩ := (hmem n).1 hn
            exact (hok b hb).2 n hv
          obtain ⟨r2, q1, q3, q4, _⟩ := order_eq hk [t] hok1
          have hocd : ocd [t] 0 t = 0 := by
            unfold ocd
            have hneg : (t.any fun n => decide (n < 0)) = false := by
              rw [List.any_eq_false]
              intro n hn
              obtain ⟨b, hb, hv⟩ := (hmem n).1 hn
              obtain ⟨i, hi, rfl⟩ := List.mem_iff_getElem.1 hb
              have := (ocd_ok (hg i hi hi)).2.2.1 n hv
              simp; omega
            have hdup : dupB t = false := by
              have key : ∀ j, j ≤ t.length → dupTo t j = false := by
                intro j
                induction j with
                | zero => intro _; rfl
                | succ j ih =>
                  intro hj
                  have hlt : j < t.length := by omega
                  rw [dupTo, ih (by omega), Bool.false_or, getD_of hlt, List.any_eq_false]
                  intro v hv
                  obtain ⟨m, hm1, rfl⟩ := List.mem_take_iff_getElem.1 hv
                  simp only [beq_iff_eq]
                  intro e
                  exact (List.pairwise_iff_getElem.1 p2) m j (by omega) hlt (by omega) e.symm
              exact key _ (Nat.le_refl _)
            rw [show ((t.length : Int) == 0) = false by rw [beq_eq_false_iff_ne]; omega, decide_eq_false (by omega), hneg, hdup]
            rfl
          have hr2 : r2 = (0, 0) := by
            have q5 : f_lineage_check.u k [t] = some (0, 0) := by
              show f_lineage_check.f _ _ _ _ _ _ k [t] = _
              rw [f_lineage_check.f, f_lineage_check.b, decide_eq_false (by simp), cond_false]
              obtain ⟨k', rfl⟩ : ∃ m, k = m + 1 + 1 := ⟨k - 2, by omega⟩
              have s1 := lchk_step (k := k' + 1 + 1) (n := k' + 1) hk (all := [t]) (by simp) hok1 (i := 0) (by simp) (by simp)
              rw [show ([t] : List (List Int))[0] = t from rfl, hocd] at s1
              refine (show _ = _ from s1).trans ?_
              rw [show (((0 : Int)) != 0) = false from rfl, cond_false, lchk, f_lineage_check.l0, f_lineage_check.b_l0, decide_eq_false (by simp), cond_false]
            rw [q1] at q5
            exact Option.some.inj q5
          subst hr2
          rw [q4, ord, show (((((0 : Int), (0 : Int))) : X_Fault).1 != 0) = false from rfl, cond_false, mrg_two h0 p2 (by omega), Option.bind_some]
          rw [decide_eq_false (by simp), cond_false, decide_eq_false (by simp only; omega), cond_false, Option.bind_some, show ((((t, ((0 : Int), (0 : Int))) : List Int × X_Fault)).2.1 == 0) = true from rfl, cond_true, f_ref7_Ints.spec (by simp only; omega) (by simp only; omega), Option.bind_some]
          simp
end Go.Ab
