/- A part of the proof: RS10. -/
import Derived.Test.YtgkjkmpeeneilaaRS9
import Derived.Test.YtgkjkmpeeneilaaFB2
namespace Go.Ab
set_option linter.unusedVariables false
set_option linter.unusedSimpArgs false
/-! what merging gives -/
theorem hdI_cons (a : Int) (x : List Int) : hdI (a :: x) = a := rfl
theorem free_notin {l : List (List Int)} {x : List Int} (h : freeB l x = true) : ∀ y ∈ l, hdI x ∉ y.drop 1 := by
  intro y hy hm
  unfold freeB inT at h
  rw [Bool.not_eq_true', List.any_eq_false] at h
  have := h y hy
  simp only [List.any_eq_true, beq_iff_eq, exists_eq_right'] at this
  exact this hm
theorem pop_gone {c : Int} {l : List (List Int)} (hc : ∀ y ∈ l, c ∉ y.drop 1) : ∀ y ∈ ne (popd c l), c ∉ y := by
  intro y hy hm
  obtain ⟨hy1, hy2⟩ := ne_mem.1 hy
  obtain ⟨z, hz, rfl⟩ := List.mem_map.1 hy1
  unfold pop1 at hm hy2
  cases hh : (hdI z == c) with
  | true => rw [hh, cond_true] at hm; exact hc z hz hm
  | false =>
    rw [hh, cond_false] at hm hy2
    cases z with
    | nil => exact hy2 rfl
    | cons a z =>
      rcases List.mem_cons.1 hm with rfl | hm
      · rw [hdI_cons] at hh; simp at hh
      · exact hc _ hz hm
theorem mrg_props : ∀ (n : Nat) (out : List Int) (l : List (List Int)) (res : List Int), (∀ x ∈ l, x ≠ []) → mrg n out l = some (res, []) →
    ∃ t, res = out ++ t ∧ (∀ v, v ∈ t ↔ ∃ x ∈ l, v ∈ x) ∧ t.Nodup ∧ ∀ x ∈ l, List.Sublist x t
  | 0, _, _, _, _, h => by cases h
  | n + 1, out, l, res, hne, h => by
    unfold mrg at h
    cases hc : cnd l with
    | none =>
      rw [hc] at h
      cases h
      exact ⟨[], by simp, by simp, List.nodup_nil, by simp⟩
    | some c =>
      rw [hc] at h
      obtain ⟨x0, hx0, hf, rfl⟩ := cnd_some hc
      have hfr := free_notin hf
      obtain ⟨t, rfl, h1, h2, h3⟩ := mrg_props n _ _ res (fun y hy => (ne_mem.1 hy).2) h
      have hgone := pop_gone hfr
      have hcase : ∀ x ∈ l, List.Sublist x (hdI x0 :: t) := by
        intro x hx
        cases x with
        | nil => exact absurd rfl (hne _ hx)
        | cons a x =>
          by_cases ha : a = hdI x0
          · subst ha
            refine List.Sublist.cons_cons _ ?_
            by_cases hx' : x = []
            · rw [hx']; exact List.nil_sublist _
            · refine h3 x (ne_mem.2 ⟨List.mem_map.2 ⟨_, hx, ?_⟩, hx'⟩)
              simp [pop1, hdI]
          · refine List.Sublist.cons _ (h3 (a :: x) (ne_mem.2 ⟨List.mem_map.2 ⟨_, hx, ?_⟩, by simp⟩))
            rw [pop1, hdI_cons, show (a == hdI x0) = false by simpa using ha, cond_false]
      refine ⟨hdI x0 :: t, by simp, fun v => ⟨fun hv => ?_, fun ⟨x, hx, hv⟩ => (hcase x hx).subset hv⟩, ?_, hcase⟩
      · rcases List.mem_cons.1 hv with rfl | hv
        · cases x0 with
          | nil => exact absurd rfl (hne _ hx0)
          | cons a x => exact ⟨_, hx0, List.mem_cons_self⟩
        · obtain ⟨y, hy, hvy⟩ := (h1 v).1 hv
          obtain ⟨z, hz, rfl⟩ := List.mem_map.1 (ne_mem.1 hy).1
          refine ⟨z, hz, ?_⟩
          unfold pop1 at hvy
          cases hh : (hdI z == hdI x0) with
          | true => rw [hh, cond_true] at hvy; exact List.mem_of_mem_drop hvy
          | false => rw [hh, cond_false] at hvy; exact hvy
      · rw [List.nodup_cons]
        exact ⟨fun hm => by
          obtain ⟨y, hy, hvy⟩ := (h1 _).1 hm
          exact hgone y hy hvy, h2⟩
/-! places in a list without repetition -/
theorem idx_mem {v : Int} : ∀ {l : List Int} {i : Nat}, v ∈ l → (i : Int) ≤ idxF (fun y => v == y) l i
  | [], i, h => by simp at h
  | a :: l, i, h => by
    unfold idxF
    cases ha : (v == a) with
    | true => simp
    | false =>
      rw [cond_false]
      rcases List.mem_cons.1 h with rfl | h
      · simp at ha
      · have := idx_mem (i := i + 1) h; omega
theorem idx_lt {u v : Int} : ∀ {l : List Int} {i : Nat}, l.Nodup → List.Sublist [u, v] l → 0 ≤ idxF (fun y => u == y) l i ∧ idxF (fun y => u == y) l i < idxF (fun y => v == y) l i
  | [], i, _, h => by simp at h
  | a :: l, i, hn, h => by
    rw [List.nodup_cons] at hn
    have hv : v ∈ l := by
      cases h with
      | cons _ h => exact h.subset (by simp)
      | cons_cons _ h => exact h.subset (by simp)
    have hva : (v == a) = false := by
      rw [beq_eq_false_iff_ne]
      rintro rfl
      exact hn.1 hv
    unfold idxF
    rw [hva, cond_false]
    cases hu : (u == a) with
    | true =>
      rw [cond_true]
      have := idx_mem (i := i + 1) hv
      omega
    | false =>
      rw [cond_false]
      refine idx_lt hn.2 ?_
      cases h with
      | cons _ h => exact h
      | cons_cons _ h => simp at hu
theorem two_sub {l : List Int} {j : Nat} (hj : j + 1 < l.length) : List.Sublist [l[j], l[j + 1]] l := by
  have h1 := drop_cons (l := l) (i := j) (by omega)
  have h2 := drop_cons (l := l) (i := j + 1) (by omega)
  have h3 : List.Sublist (l.drop j) l := List.drop_sublist j l
  rw [h1, h2] at h3
  exact List.Sublist.trans (List.Sublist.cons_cons _ (List.Sublist.cons_cons _ (List.nil_sublist _))) h3
theorem before_spec {k : Nat} {l : List Int} {u v : Int} (hl : l.length ≤ 40) (hk : 400 < k) (hn : l.Nodup) (h : List.Sublist [u, v] l) : f_lineage_Before.u k (l, (u, v)) = some true := by
  show f_lineage_Before.f _ k l u v = _
  have := idx_lt (i := 0) hn h
  rw [f_lineage_Before.f, f_lineage_Before.b, f_slices_Index_int.spec (by omega) (by omega), f_slices_Index_int.spec (by omega) (by omega), Option.bind_some, Option.bind_some, decide_eq_true (by omega), cond_true, decide_eq_true (by omega)]
/-! gathering -/
def addU (acc : List Int) (n : Int) : List Int := bif acc.any (fun y => n == y) then acc else acc ++ [n]
def gat (acc : List Int) (b : List Int) : List Int := b.foldl addU acc
theorem addU_len (acc : List Int) (n : Int) : (addU acc n).length ≤ acc.length + 1 := by
  unfold addU
  cases (acc.any _) <;> simp
theorem addU_mem (acc : List Int) (n v : Int) : v ∈ addU acc n ↔ v ∈ acc ∨ v = n := by
  unfold addU
  cases h : (acc.any fun y => n == y) with
  | true =>
    rw [cond_true]
    simp only [List.any_eq_true, beq_iff_eq, exists_eq_right'] at h
    constructor
    · exact .inl
    · rintro (h1 | rfl)
      · exact h1
      · exact h
  | false => rw [cond_false]; simp
theorem addU_nodup {acc : List Int} (h : acc.Nodup) (n : Int) : (addU acc n).Nodup := by
  unfold addU
  cases hc : (acc.any fun y => n == y) with
  | true => exact h
  | false =>
    rw [cond_false, List.nodup_append]
    refine ⟨h, by simp, fun a ha b hb => ?_⟩
    simp only [List.mem_singleton] at hb
    subst hb
    rintro rfl
    rw [List.any_eq_false] at hc
    exact hc a ha (by simp)
theorem gat_len : ∀ (b acc : List Int), (gat acc b).length ≤ acc.length + b.length
  | [], acc => by simp [gat]
  | n :: b, acc => by
    have h1 := gat_len b (addU acc n)
    have h2 := addU_len acc n
    simp only [gat, List.foldl_cons, List.length_cons] at h1 ⊢
    omega
theorem gat_mem : ∀ (b acc : List Int) (v : Int), v ∈ gat acc b ↔ v ∈ acc ∨ v ∈ b
  | [], acc, v => by simp [gat]
  | n :: b, acc, v => by
    have h1 := gat_mem b (addU acc n) v
    simp only [gat, List.foldl_cons] at h1 ⊢
    rw [h1, addU_mem, List.mem_cons]
    constructor
    · rintro ((h | h) | h)
      · exact .inl h
      · exact .inr (.inl h)
      · exact .inr (.inr h)
    · rintro (h | h | h)
      · exact .inl (.inl h)
      · exact .inl (.inr h)
      · exact .inr h
theorem gat_nodup : ∀ {b acc : List Int}, acc.Nodup → (gat acc b).Nodup
  | [], acc, h => h
  | n :: b, acc, h => by
    simp only [gat, List.foldl_cons]
    exact gat_nodup (addU_nodup h n)
def gatL (acc : List Int) (all : List (List Int)) : List Int := all.foldl gat acc
theorem gatL_len : ∀ (all : List (List Int)) (acc : List Int), (∀ b ∈ all, b.length ≤ 40) → (gatL acc all).length ≤ acc.length + all.length * 40
  | [], acc, _ => by simp [gatL]
  | b :: all, acc, h => by
    have h1 := gatL_len all (gat acc b) fun x hx => h x (List.mem_cons_of_mem _ hx)
    have h2 := gat_len b acc
    have h3 := h b List.mem_cons_self
    simp only [gatL, List.foldl_cons, List.length_cons] at h1 ⊢
    omega
theorem gatL_mem : ∀ (all : List (List Int)) (acc : List Int) (v : Int), v ∈ gatL acc all ↔ v ∈ acc ∨ ∃ b ∈ all, v ∈ b
  | [], acc, v => by simp [gatL]
  | b :: all, acc, v => by
    have h1 := gatL_mem all (gat acc b) v
    simp only [gatL, List.foldl_cons] at h1 ⊢
    rw [h1, gat_mem]
    simp only [List.mem_cons, exists_eq_or_imp, or_assoc]
theorem gatL_nodup : ∀ {all : List (List Int)} {acc : List Int}, acc.Nodup → (gatL acc all).Nodup
  | [], acc, h => h
  | b :: all, acc, h => by
    simp only [gatL, List.foldl_cons]
    exact gatL_nodup (gat_nodup h)
/-! a single linearization -/
theorem cnd_one {x : List Int} {r : List (List Int)} (hx : x ≠ []) (hn : x.Nodup) (hr : r = [] ∨ r = [[hdI x]]) : cnd (x :: r) = some (hdI x) := by
  have : freeB (x :: r) x = true := by
    unfold freeB inT
    rw [Bool.not_eq_true', List.any_eq_false]
    intro y hy
    have hy' : y = x ∨ y = [hdI x] := by
      rcases List.mem_cons.1 hy with rfl | hy
      · exact .inl rfl
      · rcases hr with rfl | rfl
        · simp at hy
        · exact .inr (List.mem_singleton.1 hy)
    rcases hy' with rfl | rfl
    · cases y with
      | nil => exact absurd rfl hx
      | cons a y =>
        rw [List.nodup_cons] at hn
        simp only [List.drop_one, List.tail_cons, List.any_eq_true, beq_iff_eq, exists_eq_right', hdI_cons]
        exact hn.1
    · simp
  rw [cnd, List.find?_cons, this]
  rfl
theorem mrg_one : ∀ (n : Nat) (out x : List Int), x.Nodup → x.length < n → mrg n out (ne [x]) = some (out ++ x, [])
  | 0, _, _, _, h => by omega
  | n + 1, out, [], _, _ => by
    rw [show ne [[]] = [] from rfl, mrg, show cnd [] = none from rfl, List.append_nil]
  | n + 1, out, a :: x, hn, h => by
    have e : ne [a :: x] = [a :: x] := ne_self (by simp)
    rw [e, mrg, cnd_one (by simp) hn (.inl rfl), hdI_cons]
    dsimp only
    have e2 : popd a [a :: x] = [x] := by simp [popd, pop1, hdI]
    rw [e2]
    rw [List.nodup_cons] at hn
    rw [mrg_one n _ x hn.2 (by simp at h; omega)]
    simp
theorem mrg_two {n : Nat} {x : List Int} (hx : x ≠ []) (hn : x.Nodup) (h : x.length < n) : mrg n [] (ini [x]) = some (x, []) := by
  cases x with
  | nil => exact absurd rfl hx
  | cons a x =>
    obtain ⟨n, rfl⟩ : ∃ m, n = m + 1 := ⟨n - 1, by omega⟩
    have e : ini [a :: x] = [a :: x, [a]] := by
      rw [ini]
      exact ne_self (by simp [heads, hdI])
    rw [e, mrg, show cnd [a :: x, [a]] = some a from cnd_one (by simp) hn (.inr rfl)]
    dsimp only
    have e2 : ne (popd a [a :: x, [a]]) = ne [x] := by
      have : popd a [a :: x, [a]] = [x, []] := by simp [popd, pop1, hdI]
      rw [this]
      cases x <;> rfl
    rw [e2]
    rw [List.nodup_cons] at hn
    rw [mrg_one n _ x hn.2 (by simp at h; omega)]
    rfl
end Go.Ab
