/- A part of the proof: HLib. -/
import Derived.Test.YtdekjkgfohlmgaaGreatDoorFBase
import Derived.Test.YtdekjkgfohlmgaaGreatDoorFTy
import Derived.Test.YtdekjkgfohlmgaaGreatDoorAbG3
import Derived.Test.YtdekjkgfohlmgaaGreatDoorHShelf
namespace Go.Ab
open Go.Proofs Go.RowKit
set_option linter.unusedVariables false
set_option linter.unusedSimpArgs false
/-! Go's library: five functions by their contracts -/
theorem below_left {w w' : World} (h : Below w.heap.size w w') : Left w w' (· ∈ ([] : List Nat)) := ⟨h.os, h.tape, h.output, h.size, fun k hk _ => h.block k hk⟩
theorem within_left {w w' : World} {S : Sup} (hw : Within S w) (h : Left w w' (· ∈ ([] : List Nat))) : Within S w' :=
  ⟨fun b e hs => Nat.lt_of_lt_of_le (hw.1 b e hs) h.size, hw.2.mono (fun _ _ h => h) (h.agree hw fun _ _ _ hm => by simp at hm)⟩
theorem below_refl (w : World) : Left w w (· ∈ ([] : List Nat)) := ⟨rfl, rfl, rfl, Nat.le_refl _, fun _ _ _ => rfl⟩
theorem bytes_of (s : List UInt8) : (⟨s.toArray⟩ : ByteArray).data.toList = s := by simp
theorem bsize_of (s : List UInt8) : (⟨s.toArray⟩ : ByteArray).size = s.length := by simp [ByteArray.size]
abbrev F109.A : List Sh := [(.d .str), (.d .str)]
abbrev F109.R : List Sh := [(.d .bool)]
abbrev F109.E : Type := (List UInt8 × List UInt8) → Option (Bool)
def F109.u (k : Nat) : F109.E := fun y => if y.1.length < 4294967281 then some (Lib.contains y.1 y.2) else none
theorem F109.sound (k : Nat) : Sound Tryz.prog ⟨109, F109.A, F109.R, F109.u k⟩ := by
  refine ⟨enters_of Tryz.func109 (c := Func.code Tryz.f109) (by kernel_rfl) (by kernel_rfl), fun x y hy w S vals Ms hw hargs hnd hM => ?_⟩
  obtain ⟨s, t⟩ := x
  obtain ⟨v1, us, M, N, rfl, rfl, hv1, v2, us2, M2, N2, rfl, rfl, hv2, rfl, rfl⟩ := hargs
  have h1 : DR w S .str s [v1] ∧ M = [] := by simpa [SV, Sh.isAgg, Ty.isAgg, SR, Sh.hd] using hv1
  have h2 : DR w S .str t [v2] ∧ M2 = [] := by simpa [SV, Sh.isAgg, Ty.isAgg, SR, Sh.hd, Sh.tl] using hv2
  obtain ⟨d1, rfl⟩ := h1
  obtain ⟨d2, rfl⟩ := h2
  have e1 : [v1] = [Value.string ⟨s.toArray⟩] := d1
  have e2 : [v2] = [Value.string ⟨t.toArray⟩] := d2
  cases e1
  cases e2
  simp only [F109.u] at hy
  split at hy
  case isFalse => cases hy
  case isTrue hc =>
  cases hy
  obtain ⟨m, hm⟩ := hw.2.pred.max
  refine (Tryz.strings_Contains ⟨s.toArray⟩ ⟨t.toArray⟩ m w (by rw [bsize_of]; exact hc) hm).mono fun e w' ⟨he, hww⟩ => ?_
  subst he
  subst hww
  rw [bytes_of, bytes_of]
  exact ⟨⟨[.bool _], S, [], [], rfl, below_refl _, fun _ _ h => h, fun _ _ h => .inl h, hw, List.nodup_nil, fun b hb => by simp at hb,
      ⟨_, [], [], [], rfl, rfl, by (show (if _ then _ else _)); (simp [Sh.isAgg, Ty.isAgg, SR, DR]; rfl), rfl, rfl⟩, ⟨_, _, rfl, _, [], rfl, rfl, rfl⟩⟩⟩
abbrev F123.A : List Sh := [(.d .str)]
abbrev F123.R : List Sh := [(.d .bool)]
abbrev F123.E : Type := (List UInt8) → Option (Bool)
def F123.u (k : Nat) : F123.E := fun y => if y.length < 4294967281 then some (Lib.validD y) else none
theorem F123.sound (k : Nat) : Sound Tryz.prog ⟨123, F123.A, F123.R, F123.u k⟩ := by
  refine ⟨enters_of Tryz.func123 (c := Func.code Tryz.f123) (by kernel_rfl) (by kernel_rfl), fun s y hy w S vals Ms hw hargs hnd hM => ?_⟩
  obtain ⟨v1, us, M, N, rfl, rfl, hv1, rfl, rfl⟩ := hargs
  have h1 : DR w S .str s [v1] ∧ M = [] := by simpa [SV, Sh.isAgg, Ty.isAgg, SR, Sh.hd] using hv1
  obtain ⟨d1, rfl⟩ := h1
  have e1 : [v1] = [Value.string ⟨List.toArray (α := UInt8) s⟩] := d1
  cases e1
  simp only [F123.u] at hy
  split at hy
  case isFalse => cases hy
  case isTrue hc =>
  cases hy
  refine (Tryz.utf8_ValidString ⟨List.toArray (α := UInt8) s⟩ w (by rw [bsize_of]; omega) hw.2.pred.utf8).mono fun e w' ⟨he, hbel⟩ => ?_
  subst he
  rw [bytes_of]
  exact ⟨⟨[.bool _], S, [], [], rfl, below_left hbel, fun _ _ h => h, fun _ _ h => .inl h, within_left hw (below_left hbel), List.nodup_nil, fun b hb => by simp at hb,
      ⟨_, [], [], [], rfl, rfl, by (show (if _ then _ else _)); (simp [Sh.isAgg, Ty.isAgg, SR, DR]; rfl), rfl, rfl⟩, ⟨_, [], rfl, rfl, rfl⟩⟩⟩
abbrev F106.A : List Sh := [(.d .str), (.d .str)]
abbrev F106.R : List Sh := [(.d .str), (.d .str), (.d .bool)]
abbrev F106.E : Type := (List UInt8 × List UInt8) → Option (List UInt8 × (List UInt8 × Bool))
def F106.u (k : Nat) : F106.E := fun y => if y.1.length < 4294967281 then some (Lib.cut y.1 y.2) else none
theorem drewN_left (w : World) : ∀ n, Left w (w.drewN n) (· ∈ ([] : List Nat))
  | 0 => below_refl w
  | n + 1 => by
    have h := drewN_left w n
    exact ⟨h.os, h.tape, h.output, h.size, h.block⟩
theorem F106.sound (k : Nat) : Sound Tryz.prog ⟨106, F106.A, F106.R, F106.u k⟩ := by
  refine ⟨enters_of Tryz.func106 (c := Func.code Tryz.f106) (by kernel_rfl) (by kernel_rfl), fun x y hy w S vals Ms hw hargs hnd hM => ?_⟩
  obtain ⟨s, t⟩ := x
  obtain ⟨v1, us, M, N, rfl, rfl, hv1, v2, us2, M2, N2, rfl, rfl, hv2, rfl, rfl⟩ := hargs
  have h1 : DR w S .str s [v1] ∧ M = [] := by simpa [SV, Sh.isAgg, Ty.isAgg, SR, Sh.hd] using hv1
  have h2 : DR w S .str t [v2] ∧ M2 = [] := by simpa [SV, Sh.isAgg, Ty.isAgg, SR, Sh.hd, Sh.tl] using hv2
  obtain ⟨d1, rfl⟩ := h1
  obtain ⟨d2, rfl⟩ := h2
  have e1 : [v1] = [Value.string ⟨s.toArray⟩] := d1
  have e2 : [v2] = [Value.string ⟨t.toArray⟩] := d2
  cases e1
  cases e2
  simp only [F106.u] at hy
  split at hy
  case isFalse => cases hy
  case isTrue hc =>
  cases hy
  obtain ⟨m, hm⟩ := hw.2.pred.max
  refine (Tryz.strings_Cut ⟨s.toArray⟩ ⟨t.toArray⟩ m w (by rw [bsize_of]; exact hc) hm).mono fun e w' ⟨he, n, hww⟩ => ?_
  subst he
  subst hww
  rw [bytes_of, bytes_of]
  generalize Lib.cut s t = y
  refine ⟨⟨[.string _, .string _, .bool _], S, [], [], rfl, drewN_left w n, fun _ _ h => h, fun _ _ h => .inl h, within_left hw (drewN_left w n), List.nodup_nil, fun b hb => by simp at hb,
      ⟨_, _, [], [], rfl, rfl, ?_, _, _, [], [], rfl, rfl, ?_, _, [], [], [], rfl, rfl, ?_, rfl, rfl⟩, ⟨_, _, rfl, _, [], rfl, rfl, rfl⟩⟩⟩
  · show (if _ then _ else _); simp [Sh.isAgg, Ty.isAgg, SR, DR]; rfl
  · show (if _ then _ else _); simp [Sh.isAgg, Ty.isAgg, SR, DR]; rfl
  · show (if _ then _ else _); simp [Sh.isAgg, Ty.isAgg, SR, DR]; rfl
/-- a fresh row of texts -/
def moreS (w : World) (S : Sup) : Sup := fun b e => S b e ∨ (b = w.heap.size ∧ e = 9)
theorem alloc_leftN (w : World) (o : Obj) : Left w (w.alloc o) (· ∈ ([] : List Nat)) := (alloc_left w o).mono fun _ h => h.elim
theorem moreS_new {w : World} {S : Sup} {Ms : List Nat} : ∀ b e, moreS w S b e → S b e ∨ b ∈ Ms ∨ w.heap.size ≤ b := by
  rintro b e (h | ⟨rfl, _⟩)
  · exact .inl h
  · exact .inr (.inr (Nat.le_refl _))
theorem fresh_strs {w : World} {S : Sup} (hw : Within S w) (l : List (List UInt8)) {cs : Array Value} (hc : cs = (l.map fun x => Value.string ⟨x.toArray⟩).toArray) (n cap : Nat) (hn : n = l.length) (hcap : n ≤ cap) :
    Within (moreS w S) (w.alloc (.cells cs 9)) ∧ SV Tryz.prog (w.alloc (.cells cs 9)) (moreS w S) (.d (.sl 9 .str)) l (.slice (some ⟨w.heap.size, 0, none⟩) n cap) [] := by
  have hl := alloc_leftN w (.cells cs 9)
  have hA := hl.agree hw fun _ _ _ hm => by simp at hm
  refine ⟨⟨fun b e hs => ?_, hw.2.mono (fun _ _ h => .inl h) hA⟩, ?_⟩
  · rcases hs with hs | ⟨rfl, _⟩
    · exact Nat.lt_of_lt_of_le (hw.1 b e hs) hl.size
    · simp
  · show (if _ then _ else _)
    rw [if_neg (by simp [Sh.isAgg, Ty.isAgg])]
    refine ⟨⟨_, cap, by rw [hn], by rw [← hn]; exact hcap, fun h0 => ⟨_, rfl, .inr ⟨rfl, rfl⟩, fun i x hx => ⟨_, rfl, fun j u hu => ?_⟩⟩⟩, rfl⟩
    have hj : j = 0 := by
      have := (List.getElem?_eq_some_iff.1 hu).1
      simpa using this
    subst hj
    simp only [List.getElem?_cons_zero, Option.some.injEq] at hu
    subst hu
    have hx' : l[i]? = some x := hx
    have hcell : cs[i]? = some (Value.string ⟨List.toArray (α := UInt8) x⟩) := by rw [hc]; simp [hx']
    have had : (⟨w.heap.size, 0, none⟩ : Addr).add (i * Ty.size .str + 0) = ⟨w.heap.size, i, none⟩ := by
      rw [show i * Ty.size .str + 0 = i by simp [Ty.size]]
      unfold Addr.add
      split
      · rename_i h; simp_all
      · simp
    rw [had]
    have hh : (w.alloc (.cells cs 9)).heap[w.heap.size]? = some (.cells cs 9 (0, 0)) := heap_alloc_new w _
    simp only [World.cell?, hh]
    simpa using hcell
def splitF (s t : List UInt8) : List (List UInt8) := (Lib.splitB ⟨t.toArray⟩ 0 (Lib.countB ⟨s.toArray⟩ ⟨t.toArray⟩) ⟨s.toArray⟩).map (·.data.toList)
abbrev F151.A : List Sh := [(.d .str), (.d .str)]
abbrev F151.R : List Sh := [(.d (.sl 9 .str))]
abbrev F151.E : Type := (List UInt8 × List UInt8) → Option (List (List UInt8))
def F151.u (k : Nat) : F151.E := fun y => if y.1.length < 4294967281 ∧ 1 ≤ y.2.length then some (splitF y.1 y.2) else none
theorem F151.sound (k : Nat) : Sound Tryz.prog ⟨151, F151.A, F151.R, F151.u k⟩ := by
  refine ⟨enters_of Tryz.func151 (c := Func.code Tryz.f151) (by kernel_rfl) (by kernel_rfl), fun x y hy w S vals Ms hw hargs hnd hM => ?_⟩
  obtain ⟨s, t⟩ := x
  obtain ⟨v1, us, M, N, rfl, rfl, hv1, v2, us2, M2, N2, rfl, rfl, hv2, rfl, rfl⟩ := hargs
  have h1 : DR w S .str s [v1] ∧ M = [] := by simpa [SV, Sh.isAgg, Ty.isAgg, SR, Sh.hd] using hv1
  have h2 : DR w S .str t [v2] ∧ M2 = [] := by simpa [SV, Sh.isAgg, Ty.isAgg, SR, Sh.hd, Sh.tl] using hv2
  obtain ⟨d1, rfl⟩ := h1
  obtain ⟨d2, rfl⟩ := h2
  have e1 : [v1] = [Value.string ⟨s.toArray⟩] := d1
  have e2 : [v2] = [Value.string ⟨t.toArray⟩] := d2
  cases e1
  cases e2
  simp only [F151.u] at hy
  split at hy
  case isFalse => cases hy
  case isTrue hc =>
  cases hy
  obtain ⟨m, hm⟩ := hw.2.pred.max
  have hlen : (splitF s t).length = Lib.countB ⟨s.toArray⟩ ⟨t.toArray⟩ + 1 := by
    rw [splitF, List.length_map]
    exact Lib.splitB_all _ (by rw [bsize_of]; exact hc.2) 0 _ _ rfl
  refine (Tryz.strings_Split ⟨s.toArray⟩ ⟨t.toArray⟩ m w (by rw [bsize_of]; exact hc.1) hm (by rw [bsize_of]; exact hc.2)).mono fun e w' ⟨he, hww⟩ => ?_
  subst he
  subst hww
  obtain ⟨q1, q2⟩ := fresh_strs hw (splitF s t) (cs := ((Lib.splitB ⟨t.toArray⟩ 0 (Lib.countB ⟨s.toArray⟩ ⟨t.toArray⟩) ⟨s.toArray⟩).map Value.string).toArray) (by rw [splitF, List.map_map]; rfl) (Lib.countB ⟨s.toArray⟩ ⟨t.toArray⟩ + 1) (Lib.countB ⟨s.toArray⟩ ⟨t.toArray⟩ + 1) hlen.symm (Nat.le_refl _)
  exact ⟨⟨[_], moreS w S, [], [], rfl, alloc_leftN w _, fun _ _ h => .inl h, moreS_new, q1, List.nodup_nil, fun b hb => by simp at hb,
      ⟨_, [], [], [], rfl, rfl, q2, rfl, rfl⟩, ⟨_, _, rfl, _, [], rfl, rfl, rfl⟩⟩⟩
abbrev F66.A : List Sh := [(.d .str)]
abbrev F66.R : List Sh := [(.d (.sl 9 .str))]
abbrev F66.E : Type := (List UInt8) → Option (List (List UInt8))
def F66.u (k : Nat) : F66.E := fun y => if y.length < 4294967281 ∧ y.all (fun b => decide (b.toNat < 128)) = true then some (Lib.fields y) else none
theorem F66.sound (k : Nat) : Sound Tryz.prog ⟨66, F66.A, F66.R, F66.u k⟩ := by
  refine ⟨enters_of Tryz.func66 (c := Func.code Tryz.f66) (by kernel_rfl) (by kernel_rfl), fun s y hy w S vals Ms hw hargs hnd hM => ?_⟩
  obtain ⟨v1, us, M, N, rfl, rfl, hv1, rfl, rfl⟩ := hargs
  have h1 : DR w S .str s [v1] ∧ M = [] := by simpa [SV, Sh.isAgg, Ty.isAgg, SR, Sh.hd] using hv1
  obtain ⟨d1, rfl⟩ := h1
  have e1 : [v1] = [Value.string ⟨List.toArray (α := UInt8) s⟩] := d1
  cases e1
  simp only [F66.u] at hy
  split at hy
  case isFalse => cases hy
  case isTrue hc =>
  cases hy
  refine (Tryz.strings_Fields ⟨List.toArray (α := UInt8) s⟩ w (by rw [bsize_of]; exact hc.1) (fun j b hj => ?_) hw.2.pred.space).mono fun e w' ⟨he, hww⟩ => ?_
  · rw [bytes_of] at hj
    have := List.all_eq_true.1 hc.2 b (List.mem_iff_getElem?.2 ⟨j, hj⟩)
    simpa using this
  subst he
  subst hww
  rw [bytes_of]
  obtain ⟨q1, q2⟩ := fresh_strs hw (Lib.fields s) (cs := ((Lib.fields s).map fun l => Value.string ⟨l.toArray⟩).toArray) rfl (Lib.fields s).length (Lib.fields s).length rfl (Nat.le_refl _)
  exact ⟨⟨[_], moreS w S, [], [], rfl, alloc_leftN w _, fun _ _ h => .inl h, moreS_new, q1, List.nodup_nil, fun b hb => by simp at hb,
      ⟨_, [], [], [], rfl, rfl, q2, rfl, rfl⟩, ⟨_, [], rfl, rfl, rfl⟩⟩⟩
end Go.Ab
