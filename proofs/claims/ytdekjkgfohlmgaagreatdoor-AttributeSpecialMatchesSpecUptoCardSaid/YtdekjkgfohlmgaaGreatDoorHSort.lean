/- slices.Sort and slices.Compact at []string, as the reading has them. -/
import Derived.Test.YtdekjkgfohlmgaaGreatDoorHLib
import Derived.Test.YtdekjkgfohlmgaaGreatDoorHShelf2
namespace Go.Ab
open Go.Proofs
set_option linter.unusedVariables false
set_option linter.unusedSimpArgs false
abbrev encS : List UInt8 → Value := encStr
def sortS (l : List (List UInt8)) : List (List UInt8) := l.mergeSort fun x y => decide (x ≤ y)
theorem putCells_get {α : Type} [Inhabited α] (enc : α → Value) (off : Nat) (d : Array α) (c : Array Value) (j : Nat) (hd : off + d.size ≤ c.size) :
    (Go.Sort.putCells enc off d c)[j]? = if off ≤ j ∧ j < off + d.size then (d[j - off]?).map enc else c[j]? := by
  rw [Go.Sort.putCells, Array.getElem?_mapIdx]
  by_cases hin : off ≤ j ∧ j < off + d.size
  · rw [if_pos hin]
    have hj : j < c.size := by omega
    have hr : j - off < d.size := by omega
    rw [Array.getElem?_eq_getElem hj, Option.map_some, if_pos hin, Array.getElem?_eq_getElem hr, Option.map_some, getElem!_pos d (j - off) hr]
  · rw [if_neg hin]
    cases hcj : c[j]? with
    | none => rfl
    | some x => rw [Option.map_some, if_neg hin]
/-- the cells of a row of strings hold them -/
theorem holds_strs {w : World} {b off : Nat} {cur : Array Value} {zs : List (List UInt8)} (hh : w.heap[b]? = some (.cells cur 9 (0, 0))) (hget : ∀ (j : Nat) (z : List UInt8), zs[j]? = some z → cur[off + j]? = some (Value.string ⟨z.toArray⟩)) :
    Go.Sort.Holds encS w b off zs.toArray := by
  intro j hj
  have hj' : j < zs.length := by simpa using hj
  have h1 := hget j _ (List.getElem?_eq_getElem hj')
  constructor
  · simp only [World.cell?, hh]
    rw [getElem!_pos zs.toArray j hj]
    simpa [encS] using h1
  · simp [World.frozen?, hh]
theorem sort_inp : InPlace Tryz.prog ⟨61, 9, .str, sortS⟩ := by
  refine ⟨enters_of Tryz.func61 (c := Func.code Tryz.f61) (by kernel_rfl) (by kernel_rfl), rfl, fun l => by simp [sortS], fun a cap w => Tryz.slices_Sort_string_none a cap w, ?_⟩
  intro b off cap zs cur w hh hle hml hget
  have hblk : b < w.heap.size := (Array.getElem?_eq_some_iff.1 hh).1
  refine (Tryz.slices_Sort_string b off cap zs w (holds_strs hh hget) hblk (by omega)).mono fun e w' ⟨he, n, os, hw⟩ => ⟨he, ?_⟩
  subst hw
  have hput : (Go.Sort.putRow encS (Go.Sort.ahead w n) b off (sortS zs).toArray).heap = w.heap.modify b (Go.Sort.onCells (Go.Sort.putCells encS off (sortS zs).toArray)) := rfl
  have hsz : (sortS zs).length = zs.length := by simp [sortS]
  have hgr : ∀ b', b' < w.heap.size → (Go.Sort.grow (Go.Sort.putRow encS (Go.Sort.ahead w n) b off (sortS zs).toArray) os).heap[b']? = (w.heap.modify b (Go.Sort.onCells (Go.Sort.putCells encS off (sortS zs).toArray)))[b']? := fun b' hb' => by
    show (Array.append _ _)[b']? = _
    rw [← hput]
    exact Array.getElem?_append_left (by rw [hput]; simpa using hb')
  refine ⟨⟨rfl, rfl, rfl, ?_, fun b' hb' hne => ?_⟩, Go.Sort.putCells encS off (sortS zs).toArray cur, ?_, by simp [Go.Sort.putCells], fun j => ?_⟩
  · show w.heap.size ≤ (Array.append _ _).size
    have : (w.heap.modify b (Go.Sort.onCells (Go.Sort.putCells encS off (sortS zs).toArray)) ++ os).size = w.heap.size + os.size := by simp
    exact Nat.le_trans (Nat.le_add_right _ os.size) (Nat.le_of_eq this.symm)
  · refine (hgr b' hb').trans ?_
    rw [Array.getElem?_modify, if_neg (fun h => hne h.symm)]
  · refine (hgr b hblk).trans ?_
    rw [Array.getElem?_modify, if_pos rfl, hh]; rfl
  · rw [putCells_get _ _ _ _ _ (by simp only [List.size_toArray]; omega)]
    simp only [List.size_toArray, hsz]
    split
    · simp only [List.getElem?_toArray]
      rfl
    · rfl
abbrev F62.A : List Sh := [(.o 9 .str)]
abbrev F62.R : List Sh := [(.o 9 .str)]
abbrev F62.E : Type := (List (List UInt8)) → Option (List (List UInt8))
def F62.u (k : Nat) : F62.E := fun y => if (Lib.compact y).length ≤ y.length then some (Lib.compact y) else none
theorem F62.sound (k : Nat) : Sound Tryz.prog ⟨62, F62.A, F62.R, F62.u k⟩ := by
  refine ⟨enters_of Tryz.func62 (c := Func.code Tryz.f62) (by kernel_rfl) (by kernel_rfl), fun s y hy w S vals Ms hw hargs hnd hM => ?_⟩
  obtain ⟨v1, us, M, N, rfl, rfl, hv1, rfl, rfl⟩ := hargs
  have h1 : ∃ v, [v1] = [v] ∧ OwnR w S 9 .str s v M := by simpa [SV, Sh.isAgg, SR, Sh.hd] using hv1
  obtain ⟨v, e1, hown⟩ := h1
  cases e1
  simp only [F62.u] at hy
  split at hy
  case isFalse => cases hy
  case isTrue hle =>
  cases hy
  rcases hown with ⟨rfl, rfl, rfl⟩ | ⟨b, cap, cur, rfl, rfl, hh, hc, hcm, hsz, hR⟩
  · refine (Tryz.slices_Compact_string_empty none 0 w).mono fun e w' ⟨he, hww⟩ => ?_
    subst he
    subst hww
    exact ⟨⟨[_], S, [], [], rfl, Left.refl _ _, fun _ _ h => h, fun _ _ h => .inl h, hw, List.nodup_nil, fun b hb => by simp at hb, ⟨_, [], [], [], rfl, rfl, (show SV _ _ _ (.o 9 .str) _ _ _ from ⟨_, rfl, .inl ⟨rfl, rfl, rfl⟩⟩), rfl, rfl⟩, ⟨_, [], rfl, rfl, rfl⟩⟩⟩
  · have hs1 : (Ty.str).size = 1 := rfl
    rw [hs1, Nat.mul_one] at hsz
    have hget : ∀ (j : Nat) (z : List UInt8), s[j]? = some z → cur[0 + j]? = some (Value.string ⟨z.toArray⟩) := by
      intro j z hz
      obtain ⟨c, hd, hcc⟩ := hR j z hz
      have hd' : c = [Value.string ⟨List.toArray (α := UInt8) z⟩] := hd
      subst hd'
      have := hcc 0 _ rfl
      rw [hs1, Nat.mul_one, Nat.add_zero, Array.getElem?_toList] at this
      rw [Nat.zero_add]
      exact this
    have hblk : b < w.heap.size := (Array.getElem?_eq_some_iff.1 hh).1
    refine (Tryz.slices_Compact_string b 0 cap s w (holds_strs hh hget) (by unfold maxLen at hcm; omega) hc).mono fun e w' ⟨he, q, hww⟩ => ?_
    subst he
    generalize hD : Lib.compact s ++ List.replicate (s.length - (Lib.compact s).length) ([] : List UInt8) = D at hww
    have hDl : D.length = s.length := by rw [← hD, List.length_append, List.length_replicate]; omega
    have hput : w'.heap = w.heap.modify b (Go.Sort.onCells (Go.Sort.putCells encS 0 D.toArray)) := by rw [hww]; rfl
    have hb : w'.heap[b]? = some (.cells (Go.Sort.putCells encS 0 D.toArray cur) 9 (0, 0)) := by
      rw [hput, Array.getElem?_modify, if_pos rfl, hh]; rfl
    have hleft : Left w w' (· ∈ [b] ++ []) := ⟨by rw [hww]; rfl, by rw [hww]; rfl, by rw [hww]; rfl, by rw [hput]; simp, fun b' hb' hne => by rw [hput, Array.getElem?_modify, if_neg (fun h => hne (by simp [h]))]⟩
    have hfree := (hM b (by simp)).2
    refine ⟨⟨[_], S, [b], [], rfl, hleft, fun _ _ h => h, fun _ _ h => .inl h, ⟨fun b' e h => by rw [hput]; simpa using hw.1 b' e h, hw.2.mono (fun _ _ h => h) (hleft.agree hw fun b' e h hm => hfree e (by simp at hm; rw [← hm]; exact h))⟩, by simp, fun b' hb' => ?_, ⟨_, [], [b], [], rfl, rfl, (show SV _ _ _ (.o 9 .str) _ _ _ from ⟨_, rfl, .inr ⟨b, cap, _, rfl, rfl, hb, Nat.le_trans hle hc, hcm, by rw [hs1, Nat.mul_one]; simp [Go.Sort.putCells, hsz], ?_⟩⟩), rfl, rfl⟩, ⟨_, [], rfl, rfl, rfl⟩⟩⟩
    · have : b' = b := by simpa using hb'
      subst this
      exact ⟨hfree, .inl (by simp), by rw [hput]; simpa using hblk⟩
    · intro j x hx
      refine ⟨[Value.string ⟨List.toArray (α := UInt8) x⟩], rfl, fun i u hu => ?_⟩
      have hi : i = 0 := by
        have := (List.getElem?_eq_some_iff.1 hu).1
        simpa using this
      subst hi
      simp only [List.getElem?_cons_zero, Option.some.injEq] at hu
      subst hu
      have hx' : (Lib.compact s)[j]? = some x := hx
      have hj : j < (Lib.compact s).length := (List.getElem?_eq_some_iff.1 hx').1
      rw [hs1, Nat.mul_one, Nat.add_zero, Array.getElem?_toList, putCells_get _ _ _ _ _ (by simp only [List.size_toArray]; omega), if_pos ⟨by omega, by simp only [List.size_toArray]; omega⟩, Nat.sub_zero]
      simp only [List.getElem?_toArray]
      rw [← hD, List.getElem?_append_left hj, hx']
      rfl
end Go.Ab
