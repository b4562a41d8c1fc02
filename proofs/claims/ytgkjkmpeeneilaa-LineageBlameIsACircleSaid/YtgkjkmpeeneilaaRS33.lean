/- A part of the proof: RS33. -/
import Derived.Test.YtgkjkmpeeneilaaRS32
import Derived.Test.YtgkjkmpeeneilaaPl2
namespace Go.Ab
set_option linter.unusedVariables false
set_option linter.unusedSimpArgs false
/-! what a merging leaves: its circles -/
theorem pop1_suf (c : Int) (x : List Int) : pop1 c x <:+ x := by
  unfold pop1
  cases (hdI x == c) with
  | true => exact List.drop_suffix 1 x
  | false => exact List.suffix_rfl
theorem mrg_rest : ∀ (n : Nat) (out : List Int) (l : List (List Int)) (res : List Int) (rest : List (List Int)), (∀ x ∈ l, x ≠ []) → mrg n out l = some (res, rest) →
    (∀ x ∈ rest, x ≠ [] ∧ ∃ X ∈ l, x <:+ X) ∧ (∀ x ∈ rest, inT rest (hdI x) = true) ∧ rest.length ≤ l.length
  | 0, out, l, res, rest, _, h => by cases h
  | n + 1, out, l, res, rest, hne, h => by
    rw [mrg] at h
    cases hc : cnd l with
    | none =>
      rw [hc] at h
      cases h
      refine ⟨fun x hx => ⟨hne x hx, x, hx, List.suffix_rfl⟩, fun x hx => ?_, Nat.le_refl _⟩
      unfold cnd at hc
      rw [Option.map_eq_none_iff, List.find?_eq_none] at hc
      have := hc x hx
      simpa [freeB] using this
    | some c =>
      rw [hc] at h
      obtain ⟨h1, h2, h3⟩ := mrg_rest n _ _ res rest (fun y hy => (ne_mem.1 hy).2) h
      refine ⟨fun x hx => ?_, h2, Nat.le_trans h3 (Nat.le_trans (List.length_filter_le _ _) (by simp [popd]))⟩
      obtain ⟨q, X', hX', hs⟩ := h1 x hx
      obtain ⟨X, hX, rfl⟩ := List.mem_map.1 (ne_mem.1 hX').1
      exact ⟨q, X, hX, hs.trans (pop1_suf c X)⟩
def Stp (rest : List (List Int)) (b a : Int) : Prop := ∃ x ∈ rest, hdI x = b ∧ a ∈ x.drop 1
def nxP (a : Int) (x : List Int) : Bool := (x.drop 1).any fun y => a == y
def nxt (rest : List (List Int)) (a : Int) : Int := hdI (rest.getD (idxF (nxP a) rest 0).toNat [])
theorem nxt_at {rest : List (List Int)} {a : Int} (h : inT rest a = true) : ∃ (j : Nat) (hj : j < rest.length), idxF (nxP a) rest 0 = (j : Int) ∧ nxt rest a = hdI rest[j] ∧ nxP a rest[j] = true := by
  obtain ⟨j, hj, e, q⟩ := idxF_at (nxP a) rest 0 h
  rw [Nat.zero_add] at e
  exact ⟨j, hj, e, by rw [nxt, e, Int.toNat_natCast, getD_of hj], q⟩
theorem nxt_st {rest : List (List Int)} {a : Int} (h : inT rest a = true) : Stp rest (nxt rest a) a ∧ nxt rest a ∈ rest.map hdI := by
  obtain ⟨j, hj, _, e, q⟩ := nxt_at h
  refine ⟨⟨rest[j], List.getElem_mem hj, e.symm, ?_⟩, List.mem_map.2 ⟨_, List.getElem_mem hj, e.symm⟩⟩
  rw [nxP, List.any_eq_true] at q
  obtain ⟨y, hy, e⟩ := q
  rw [beq_iff_eq] at e
  rw [e]; exact hy
def wlk (rest : List (List Int)) : Nat → List Int → Int → Option (List Int × Int)
  | 0, _, _ => none
  | n + 1, w, a => bif w.any (fun y => a == y) then some (w, a) else wlk rest n (w ++ [a]) (nxt rest a)
theorem nodup_le : ∀ {w h : List Int}, w.Nodup → (∀ y ∈ w, y ∈ h) → w.length ≤ h.length
  | [], h, _, _ => by simp
  | x :: t, h, hn, hs => by
    rw [List.nodup_cons] at hn
    have hx := hs x List.mem_cons_self
    have := nodup_le (w := t) (h := h.erase x) hn.2 fun y hy => by
      rw [List.mem_erase_of_ne (by rintro rfl; exact hn.1 hy)]
      exact hs y (List.mem_cons_of_mem _ hy)
    rw [List.length_erase_of_mem hx] at this
    have := List.length_pos_of_mem hx
    simp only [List.length_cons]
    omega
theorem anyI {l : List Int} {v : Int} : l.any (fun y => v == y) = true ↔ v ∈ l := by
  rw [List.any_eq_true]
  constructor
  · rintro ⟨y, hy, e⟩
    rw [beq_iff_eq] at e
    rw [e]; exact hy
  · exact fun h => ⟨v, h, by simp⟩
theorem notanyI {l : List Int} {v : Int} (h : l.any (fun y => v == y) = false) : v ∉ l := fun hm => by rw [anyI.2 hm] at h; cases h
structure Ch (rest : List (List Int)) (w : List Int) : Prop where
  nd : w.Nodup
  hs : ∀ y ∈ w, y ∈ rest.map hdI
  ch : ∀ i (h : i + 1 < w.length), Stp rest w[i + 1] w[i]
theorem wlk_ok {rest : List (List Int)} (stuck : ∀ x ∈ rest, inT rest (hdI x) = true) : ∀ (n : Nat) (w : List Int) (a : Int), Ch rest w → a ∈ rest.map hdI → (∀ h : 0 < w.length, Stp rest a w[w.length - 1]) → rest.length < n + w.length →
    ∃ w' a', wlk rest n w a = some (w', a') ∧ Ch rest w' ∧ a' ∈ w' ∧ ∀ h : 0 < w'.length, Stp rest a' w'[w'.length - 1]
  | 0, w, a, hc, ha, hl, hn => by
    have := nodup_le hc.nd hc.hs
    rw [List.length_map] at this
    omega
  | n + 1, w, a, hc, ha, hl, hn => by
    rw [wlk]
    cases hin : w.any (fun y => a == y) with
    | true => exact ⟨w, a, rfl, hc, anyI.1 hin, hl⟩
    | false =>
      rw [cond_false]
      have hni := notanyI hin
      obtain ⟨x, hx, e⟩ := List.mem_map.1 ha
      have ht := stuck x hx
      rw [e] at ht
      obtain ⟨s1, s2⟩ := nxt_st ht
      refine wlk_ok stuck n (w ++ [a]) (nxt rest a) ⟨?_, fun y hy => ?_, fun i h => ?_⟩ s2 (fun h => ?_) (by simp; omega)
      · rw [List.nodup_append]
        refine ⟨hc.nd, by simp, fun u hu v hv e => ?_⟩
        rw [List.mem_singleton.1 hv] at e
        exact hni (e ▸ hu)
      · rcases List.mem_append.1 hy with hy | hy
        · exact hc.hs y hy
        · rw [List.mem_singleton.1 hy]; exact ha
      · simp only [List.length_append, List.length_cons, List.length_nil] at h
        by_cases h1 : i + 1 < w.length
        · rw [List.getElem_append_left h1, List.getElem_append_left (by omega)]
          exact hc.ch i h1
        · have h2 : i + 1 = w.length := by omega
          have h3 := hl (by omega)
          rw [List.getElem_append_right (by omega), List.getElem_append_left (by omega)]
          simp only [h2, Nat.sub_self, List.getElem_cons_zero]
          simpa [← h2] using h3
      · simp only [List.length_append, List.length_cons, List.length_nil]
        rw [List.getElem_append_right (by omega)]
        simpa using s1
structure Cyc (rest : List (List Int)) (C : List Int) : Prop where
  ne : 0 < C.length
  nd : C.Nodup
  ln : C.length ≤ rest.length
  ch : ∀ i (h : i + 1 < C.length), Stp rest C[i + 1] C[i]
  cl : Stp rest C[0] (C[C.length - 1]'(by omega))
theorem Cyc.of {rest : List (List Int)} {w : List Int} {a : Int} {j : Nat} (hc : Ch rest w) (hj : j < w.length) (e : w[j] = a) (hl : ∀ h : 0 < w.length, Stp rest a w[w.length - 1]) : Cyc rest (w.drop j) := by
  have h1 := nodup_le hc.nd hc.hs
  rw [List.length_map] at h1
  have h2 : (w.drop j).length = w.length - j := List.length_drop
  refine ⟨by omega, List.Nodup.sublist (List.drop_sublist _ _) hc.nd, by omega, fun i h => ?_, ?_⟩
  · rw [List.getElem_drop, List.getElem_drop]
    exact hc.ch (j + i) (by omega)
  · have h3 := hl (by omega)
    rw [List.getElem_drop, List.getElem_drop]
    simp only [Nat.add_zero, e]
    have h4 : j + ((w.drop j).length - 1) = w.length - 1 := by omega
    simp only [h4]
    exact h3
theorem Cyc.two {rest : List (List Int)} {C : List Int} (h : Cyc rest C) (nd : ∀ x ∈ rest, x ≠ [] ∧ x.Nodup) : 1 < C.length := by
  by_cases h1 : C.length = 1
  · obtain ⟨x, hx, e, q⟩ := h.cl
    obtain ⟨n1, n2⟩ := nd x hx
    cases x with
    | nil => exact absurd rfl n1
    | cons b t =>
      rw [List.nodup_cons] at n2
      refine absurd ?_ n2.1
      have h3 : C.length - 1 = 0 := by omega
      simp only [h3] at q
      rw [← e] at q
      exact q
  · have := h.ne; omega
/-- the circle, from its least element on, each ahead of the next -/
def outC (C : List Int) (t : Nat) : List Int := (List.range C.length).map fun j => C.getD ((t + C.length - j) % C.length) 0
theorem outC_len (C : List Int) (t : Nat) : (outC C t).length = C.length := by simp [outC]
theorem outC_get {C : List Int} {t i : Nat} (ht : t < C.length) (hi : i < C.length) : (outC C t)[i]'(by rw [outC_len]; exact hi) = if h : i ≤ t then C[t - i] else C[t + C.length - i] := by
  have h1 : (t + C.length - i) % C.length = if i ≤ t then t - i else t + C.length - i := by
    split
    · rw [show t + C.length - i = (t - i) + C.length by omega, Nat.add_mod_right, Nat.mod_eq_of_lt (by omega)]
    · rw [Nat.mod_eq_of_lt (by omega)]
  simp only [outC, List.getElem_map, List.getElem_range, h1]
  split
  · rw [getD_of (by omega)]
  · rw [getD_of (by omega)]
theorem outC_st {rest : List (List Int)} {C : List Int} {t i : Nat} (h : Cyc rest C) (ht : t < C.length) (hi : i < C.length) : Stp rest ((outC C t)[i]'(by rw [outC_len]; exact hi)) ((outC C t)[(i + 1) % C.length]'(by rw [outC_len]; exact Nat.mod_lt _ (by omega))) := by
  have hm : (i + 1) % C.length < C.length := Nat.mod_lt _ (by omega)
  rw [outC_get ht hi, outC_get ht hm]
  have key : ∀ (p q : Nat) (hp : p < C.length) (hq : q < C.length), p = q + 1 → Stp rest C[p] C[q] := by
    intro p q hp hq e
    subst e
    exact h.ch q hp
  have key0 : ∀ (p q : Nat) (hp : p < C.length) (hq : q < C.length), p = 0 → q = C.length - 1 → Stp rest C[p] C[q] := by
    intro p q hp hq e f
    subst e
    subst f
    exact h.cl
  by_cases h1 : i + 1 < C.length
  · have e1 : (i + 1) % C.length = i + 1 := Nat.mod_eq_of_lt h1
    rcases Nat.lt_trichotomy i t with h2 | h2 | h2
    · rw [dif_pos (by omega), dif_pos (by omega)]
      exact key _ _ _ _ (by omega)
    · rw [dif_pos (by omega), dif_neg (by omega)]
      exact key0 _ _ _ _ (by omega) (by omega)
    · rw [dif_neg (by omega), dif_neg (by omega)]
      exact key _ _ _ _ (by omega)
  · have e1 : (i + 1) % C.length = 0 := by rw [show i + 1 = C.length by omega, Nat.mod_self]
    by_cases h2 : i = t
    · rw [dif_pos (by omega), dif_pos (by omega)]
      exact key0 _ _ _ _ (by omega) (by omega)
    · rw [dif_neg (by omega), dif_pos (by omega)]
      exact key _ _ _ _ (by omega)
theorem turn_eq {C : List Int} {t : Nat} (ht : t < C.length) : C.reverse.drop (C.length - 1 - t) ++ C.reverse.take (C.length - 1 - t) = outC C t := by
  refine List.ext_getElem (by rw [outC_len]; simp; omega) fun i h1 h2 => ?_
  rw [outC_len] at h2
  rw [outC_get ht h2]
  by_cases hc : i ≤ t
  · rw [dif_pos hc, List.getElem_append_left (by simp; omega), List.getElem_drop, List.getElem_reverse]
    congr 1
    omega
  · rw [dif_neg hc, List.getElem_append_right (by simp; omega), List.getElem_take, List.getElem_reverse]
    congr 1
    simp
    omega
/-! ahead -/
def ahB (X : List Int) (b a : Int) : Bool := decide (0 ≤ idxF (fun y => b == y) X 0) && (X.drop ((idxF (fun y => b == y) X 0).toNat + 1)).any fun y => a == y
theorem ahB_of {X x : List Int} {b a : Int} (hn : X.Nodup) (hs : x <:+ X) (h0 : x ≠ []) (hb : hdI x = b) (ha : a ∈ x.drop 1) : ahB X b a = true := by
  obtain ⟨pre, rfl⟩ := hs
  cases x with
  | nil => exact absurd rfl h0
  | cons c t =>
    obtain rfl : c = b := hb
    have ha' : a ∈ t := ha
    obtain ⟨j, hj, e, q⟩ := idxF_at (fun y => c == y) (pre ++ c :: t) 0 (anyI.2 (by simp))
    rw [beq_iff_eq] at q
    have : j = pre.length := by
      refine nodup_inj hn hj (by simp) ?_
      rw [← q, List.getElem_append_right (Nat.le_refl _)]
      simp
    subst this
    rw [ahB, e, Nat.zero_add, decide_eq_true (by omega), Bool.true_and, Int.toNat_natCast, anyI, show pre.length + 1 = (pre ++ [c]).length by simp, show pre ++ c :: t = (pre ++ [c]) ++ t by simp, List.drop_left]
    exact ha'
theorem dup_nodup {l : List Int} (h : dupB l = false) : l.Nodup := by
  have key : ∀ n, n ≤ l.length → dupTo l n = false → (l.take n).Nodup := by
    intro n
    induction n with
    | zero => intro _ _; simp
    | succ n ih =>
      intro hn h
      rw [dupTo, Bool.or_eq_false_iff] at h
      rw [List.take_succ_eq_append_getElem (by omega), List.nodup_append]
      refine ⟨ih (by omega) h.1, by simp, fun u hu v hv e => ?_⟩
      have := h.2
      rw [getD_of (show n < l.length by omega)] at this
      exact notanyI this (by rw [List.mem_singleton.1 hv] at e; rw [← e]; exact hu)
  have := key l.length (Nat.le_refl _) h
  rwa [List.take_length] at this
theorem heads_nodup {all : List (List Int)} (h : good all all.length) : (heads all).Nodup := by
  rw [List.Nodup, List.pairwise_iff_getElem]
  intro i j hi hj hij e
  rw [heads, List.length_map] at hi hj
  have h5 := (ocd_ok (h j hj hj)).2.2.2.2
  rw [List.any_eq_false] at h5
  have := h5 all[i] (List.mem_take_iff_getElem.2 ⟨i, by omega, rfl⟩)
  simp only [heads, List.getElem_map] at e
  exact this (by rw [beq_iff_eq]; exact e)
end Go.Ab
