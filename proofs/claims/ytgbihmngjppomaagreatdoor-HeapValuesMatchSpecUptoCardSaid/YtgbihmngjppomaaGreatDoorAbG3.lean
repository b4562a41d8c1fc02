/- A pure interpreter of the loaded code and its soundness, part 3. -/
import Derived.ChangeArms
import Derived.ChangeOld
import Derived.Below
import GoSem.ClaimJoined
import Derived.WideShapes
import Derived.ChangeShapes
import Derived.OpenShut
import Derived.Carry
import Derived.SizedLaws
import Derived.ChangeAt
import Derived.Test.YtgbihmngjppomaaGreatDoorAbG2
namespace Go.Ab
set_option linter.unusedVariables false
set_option linter.unusedSimpArgs false

/-! ### 58. The arguments, read -/
def coverB (P : Program) (one : TypeId → Bool) : List Field → Nat → Nat → Bool
  | [], o, sz => Nat.beq o sz
  | f :: r, o, sz => Nat.beq f.offset o && one f.type && coverB P one r (o + P.cellsOf f.type) sz
def oneB (P : Program) : Nat → TypeId → Bool
  | 0 => fun _ => false
  | n + 1 => fun t => match P.underlying t with
    | some (.struct fs) => coverB P (oneB P n) fs.toList 0 (P.cellsOf t)
    | some (.array _ _) => false
    | _ => true
def fieldsR (P : Program) (rd : TypeId → Ty → Bool) : List Field → Ty → Nat → Bool
  | [f], ty, o => Nat.beq f.offset o && (Nat.beq (P.cellsOf f.type) ty.size && rd f.type ty)
  | f :: g :: r, .pair a b, o => Nat.beq f.offset o && (Nat.beq (P.cellsOf f.type) a.size && (rd f.type a && fieldsR P rd (g :: r) b (o + a.size)))
  | _, _, _ => false
def rdB (P : Program) : Nat → TypeId → Ty → Bool
  | 0 => fun _ _ => false
  | n + 1 => fun t ty => match ty with
    | .int k => (match P.underlying t with | some (.int l) => Nat.beq (kindNo l) (kindNo k) | _ => false)
    | .bool => (match P.underlying t with | some .bool => true | _ => false)
    | .str => (match P.underlying t with | some .string => true | _ => false)
    | .blob m => Nat.beq (P.cellsOf t) m && oneB P n t
    | .sl e u => (match P.underlying t with | some (.slice e') => Nat.beq e' e && (Nat.beq (P.cellsOf e) u.size && (Nat.blt 0 u.size && rdB P n e u)) | _ => false)
    | .one u => (match P.underlying t with | some (.struct fs) => fieldsR P (rdB P n) fs.toList u 0 && Nat.beq (P.cellsOf t) u.size && Nat.beq fs.size 1 | _ => false)
    | .pair a b => (match P.underlying t with | some (.struct fs) => fieldsR P (rdB P n) fs.toList (.pair a b) 0 && Nat.beq (P.cellsOf t) (a.size + b.size) | _ => false)
    | .unit => false
section
variable {P : Program} {w : World} {H : Type} {enc : TypeId × Value → H} {base : Nat} {spare : Nat → Bool} {held : Bool}
theorem trod_one : ∀ {n : Nat}, (∀ {t : TypeId} {fuel : Nat} {cs : List Value} {d : DataW H} {ps : List MemPlace}, oneB P n t = true → DataW.trod enc P w base spare held fuel t cs = some (d, ps) → ∀ u ∈ cs, u.oneCell' = true) := by
  intro n
  induction n with
  | zero => intro t fuel cs d ps h; simp [oneB] at h
  | succ n ih =>
    intro t fuel cs d ps h ht
    cases fuel with
    | zero => simp [DataW.trod] at ht
    | succ fuel =>
      unfold oneB at h
      split at h
      · rename_i fs hu
        unfold DataW.trod at ht
        rw [hu] at ht
        simp only at ht
        split at ht
        case isFalse => cases ht
        case isTrue hlen =>
        cases hm : (fs.toList.mapM fun f => DataW.trod enc P w base spare held fuel f.type ((cs.drop f.offset).take (P.cellsOf f.type))) with
        | none => rw [hm] at ht; cases ht
        | some xs =>
          have cover : ∀ (l : List Field) (o : Nat) (ys : List (DataW H × List MemPlace)), coverB P (oneB P n) l o (P.cellsOf t) = true →
              (l.mapM fun f => DataW.trod enc P w base spare held fuel f.type ((cs.drop f.offset).take (P.cellsOf f.type))) = some ys → ∀ i u, o ≤ i → cs[i]? = some u → u.oneCell' = true := by
            intro l
            induction l with
            | nil =>
              intro o ys hc _ i u hi hu
              simp only [coverB] at hc
              have ho := nbeq_eq hc
              have := (List.getElem?_eq_some_iff.1 hu).1
              omega
            | cons f l ihl =>
              intro o ys hc hm i u hi hu
              simp only [coverB, Bool.and_eq_true] at hc
              obtain ⟨⟨h1, h2⟩, h3⟩ := hc
              have ho := nbeq_eq h1
              simp only [List.mapM_cons, Option.bind_eq_bind, Option.pure_def, Option.bind_eq_some_iff] at hm
              obtain ⟨y, hy, zs, hz, _⟩ := hm
              by_cases hlt : i < o + P.cellsOf f.type
              · refine ih h2 (show DataW.trod enc P w base spare held fuel f.type _ = some (y.1, y.2) from hy) u ?_
                rw [List.mem_iff_getElem?]
                refine ⟨i - o, ?_⟩
                rw [List.getElem?_take, if_pos (by omega), List.getElem?_drop, ho, show o + (i - o) = i by omega, hu]
              · exact ihl _ _ h3 hz i u (by omega) hu
          intro u hu
          obtain ⟨i, hi⟩ := List.mem_iff_getElem?.1 hu
          exact cover fs.toList 0 xs h hm i u (Nat.zero_le _) hi
      · cases h
      · rename_i h1 h2
        unfold DataW.trod at ht
        split at ht <;> first
          | (rename_i hu; exact absurd hu (h1 _))
          | (rename_i hu; exact absurd hu (h2 _ _))
          | (intro u hm; simp only [List.mem_singleton] at hm; subst hm; rfl)
          | (cases ht)
theorem list_of {A : Type} {p : Nat → A → Prop} : ∀ (n : Nat), (∀ i, i < n → ∃ x, p i x) → ∃ l : List A, l.length = n ∧ ∀ (i : Nat) (x : A), l[i]? = some x → p i x
  | 0, _ => ⟨[], rfl, fun i x h => by simp at h⟩
  | n + 1, h => by
    obtain ⟨l, hl, hp⟩ := list_of n fun i hi => h i (by omega)
    obtain ⟨x, hx⟩ := h n (by omega)
    refine ⟨l ++ [x], by simp [hl], fun i y hi => ?_⟩
    by_cases hlt : i < n
    · rw [List.getElem?_append_left (by omega)] at hi; exact hp i y hi
    · have hin : i < n + 1 := by have := (List.getElem?_eq_some_iff.1 hi).1; simp [hl] at this; omega
      obtain rfl : i = n := by omega
      rw [List.getElem?_append_right (by omega), hl, Nat.sub_self] at hi
      simp at hi
      subst hi
      exact hx

end
/-- whole numbers of their kinds; rows and texts that fit into memory, and of length M at most -/
def Okd (B : Nat → Nat) (M : Nat) : (t : Ty) → t.T → Prop
  | .int k, n => k.min ≤ n ∧ n ≤ k.max
  | .str, l => List.length (α := UInt8) l ≤ reachBytes ∧ List.length (α := UInt8) l ≤ M
  | .sl e t, xs => (List.length (α := t.T) xs * B e ≤ reachBytes ∧ List.length (α := t.T) xs ≤ M) ∧ ∀ x, List.Mem (α := t.T) x xs → Okd B M t x
  | .one t, x => Okd B M t x
  | .pair a b, x => Okd B M a x.1 ∧ Okd B M b x.2
  | _, _ => True
/-- what is asked of the data: no text and no row longer than M, at any depth -/
structure Short {H : Type} (M : Nat) (G : DataW H → Prop) : Prop where
  str : ∀ l, G (.lit (.string l)) → l.length ≤ M
  slice : ∀ es sp, G (.slice es sp) → es.length ≤ M ∧ ∀ d ∈ es, G d
  agg : ∀ ps, G (.agg ps) → ∀ d ∈ ps, G d
theorem weightsAll_mem {H : Type} {P : Program} {e : TypeId} : ∀ {l : List (DataW H)}, (DataW.weightsAll P e l).all (· ≤ reachBytes) = true → ∀ d ∈ l, (d.weights P e).all (· ≤ reachBytes) = true
  | [], _, d, hd => by simp at hd
  | a :: l, h, d, hd => by
    simp only [DataW.weightsAll, List.all_append, Bool.and_eq_true] at h
    rcases List.mem_cons.1 hd with rfl | hd
    · exact h.1
    · exact weightsAll_mem h.2 d hd
section
variable {P : Program} {w : World} {H : Type} {enc : TypeId × Value → H} {base : Nat} {spare : Nat → Bool} {held : Bool}
/-- what is read is data -/
theorem trod_DR {M : Nat} {G : DataW H → Prop} (hG : Short M G) : ∀ {n : Nat} {t : TypeId} {ty : Ty} {fuel : Nat} {cs : List Value} {x : DataW H × List MemPlace}, rdB P n t ty = true → DataW.trod enc P w base spare held fuel t cs = some x →
    (ty.isAgg = true → cs.length = P.cellsOf t) → (x.1.weights P t).all (· ≤ reachBytes) = true → G x.1 → ∃ y : ty.T, DR w (fun b _ => b < w.heap.size) ty y cs ∧ Okd P.bytesOf M ty y := by
  intro n
  induction n with
  | zero => intro t ty fuel cs x h; simp [rdB] at h
  | succ n ih =>
    intro t ty fuel cs x h ht hlen hw hgx
    have hfields : ∀ (m : Nat) (l : List Field) (ty : Ty) (o : Nat) (ys : List (DataW H × List MemPlace)), fieldsR P (rdB P n) l ty o = true →
        (∀ (i : Nat) (f : Field), l[i]? = some f → DataW.trod enc P w base spare held m f.type ((cs.drop f.offset).take (P.cellsOf f.type)) = ys[i]?) → ys.length = l.length →
        (DataW.weightsEach P (l.map (·.type)) (ys.map (·.1))).all (· ≤ reachBytes) = true → (∀ y ∈ ys, G y.1) → o + ty.size = cs.length → ∃ y : ty.T, DR w (fun b _ => b < w.heap.size) ty y (cs.drop o) ∧ Okd P.bytesOf M ty y := by
      intro m l
      induction l with
      | nil => intro ty o ys hc; simp [fieldsR] at hc
      | cons f l ihl =>
        intro ty o ys hc hm hyl hwt hgy hsz
        match ys, hyl with
        | y :: ys, hyl =>
        have hy := hm 0 f rfl
        simp only [List.getElem?_cons_zero] at hy
        simp only [List.map_cons, DataW.weightsEach, List.all_append, Bool.and_eq_true] at hwt
        cases l with
        | nil =>
          simp only [fieldsR, Bool.and_eq_true] at hc
          obtain ⟨h1, h2, h3⟩ := hc
          have ho := nbeq_eq h1
          have hc2 := nbeq_eq h2
          have e : (cs.drop f.offset).take (P.cellsOf f.type) = cs.drop o := by
            rw [ho, hc2, List.take_of_length_le]
            rw [List.length_drop]; omega
          rw [e] at hy
          exact ih h3 hy (fun _ => by rw [List.length_drop, hc2]; omega) hwt.1 (hgy y List.mem_cons_self)
        | cons g l =>
          cases ty <;> simp only [fieldsR] at hc <;> try (cases hc; done)
          rename_i a b
          simp only [Bool.and_eq_true] at hc
          obtain ⟨h1, h2, h3, h4⟩ := hc
          have ho := nbeq_eq h1
          have hc2 := nbeq_eq h2
          have hsz' : o + (a.size + b.size) = cs.length := hsz
          obtain ⟨x, hx, kx⟩ := ih h3 hy (fun _ => by rw [ho, hc2, List.length_take, List.length_drop]; omega) hwt.1 (hgy y List.mem_cons_self)
          obtain ⟨z, hz', kz⟩ := ihl b (o + a.size) ys h4 (fun i f' hf => by simpa using hm (i + 1) f' (by simpa using hf)) (by simpa using hyl) hwt.2 (fun z hz => hgy z (List.mem_cons_of_mem _ hz)) (by omega)
          refine ⟨(x, z), ⟨_, _, ?_, hx, hz'⟩, kx, kz⟩
          rw [ho, hc2, ← List.drop_drop, List.take_append_drop]
    cases ty with
    | unit => simp [rdB] at h
    | int k =>
      simp only [rdB] at h
      split at h
      case h_2 => cases h
      case h_1 l hu =>
      have hk := kindNo_inj (nbeq_eq h)
      subst hk
      obtain ⟨n, rfl, _, hwf⟩ := DataW.trod_int hu ht
      simp only [Lit.wf, Bool.and_eq_true, decide_eq_true_eq] at hwf
      exact ⟨n, rfl, hwf⟩
    | bool =>
      simp only [rdB] at h
      split at h
      case h_2 => cases h
      case h_1 hu =>
      obtain ⟨b, rfl, _⟩ := DataW.trod_bool hu ht
      exact ⟨b, rfl, trivial⟩
    | str =>
      simp only [rdB] at h
      split at h
      case h_2 => cases h
      case h_1 hu =>
      obtain ⟨s, rfl, hx, _⟩ := DataW.trod_string hu ht
      rw [hx] at hw hgx
      simp only [DataW.weights, List.all_cons, List.all_nil, Bool.and_true, decide_eq_true_eq] at hw
      exact ⟨s.data.toList, rfl, hw, hG.str _ hgx⟩
    | blob m =>
      simp only [rdB, Bool.and_eq_true] at h
      exact ⟨(), ⟨by rw [hlen rfl]; exact nbeq_eq h.1, trod_one h.2 (show DataW.trod enc P w base spare held fuel t cs = some (x.1, x.2) from ht)⟩, trivial⟩
    | one u =>
      simp only [rdB] at h
      split at h
      case h_2 => cases h
      case h_1 fs hu =>
      simp only [Bool.and_eq_true] at h
      obtain ⟨⟨h1, h2⟩, h3⟩ := h
      obtain ⟨xs, m, _, rfl, hl, hxl, hx⟩ := DataW.trod_struct hu ht
      have hw' : (DataW.weightsEach P (fs.toList.map (·.type)) (xs.map (·.1))).all (· ≤ reachBytes) = true := by simpa [DataW.weights, hu] using hw
      obtain ⟨y, hy, ky⟩ := hfields m fs.toList u 0 xs h1 (fun i f hf => hx i f (by simpa using hf)) (by simpa using hxl) hw' (fun z hz => hG.agg _ hgx _ (List.mem_map_of_mem hz)) (by rw [hlen rfl, nbeq_eq h2]; omega)
      exact ⟨y, hy, ky⟩
    | pair a b =>
      simp only [rdB] at h
      split at h
      case h_2 => cases h
      case h_1 fs hu =>
      simp only [Bool.and_eq_true] at h
      obtain ⟨h1, h2⟩ := h
      obtain ⟨xs, m, _, rfl, hl, hxl, hx⟩ := DataW.trod_struct hu ht
      have hw' : (DataW.weightsEach P (fs.toList.map (·.type)) (xs.map (·.1))).all (· ≤ reachBytes) = true := by simpa [DataW.weights, hu] using hw
      exact hfields m fs.toList (.pair a b) 0 xs h1 (fun i f hf => hx i f (by simpa using hf)) (by simpa using hxl) hw' (fun z hz => hG.agg _ hgx _ (List.mem_map_of_mem hz)) (by rw [hlen rfl, nbeq_eq h2]; simp [Ty.size])
    | sl e u =>
      simp only [rdB] at h
      split at h
      case h_2 => cases h
      case h_1 e' hu =>
      simp only [Bool.and_eq_true] at h
      obtain ⟨h1, h2, h3, h4⟩ := h
      obtain rfl := nbeq_eq h1
      have hsz := nbeq_eq h2
      have hpos : 0 < u.size := by rw [← Nat.blt_eq]; exact h3
      rcases DataW.trod_slice hu ht with ⟨rfl, rfl⟩ | ⟨a, len, cap, elems, rest, m, _, rfl, rfl, _, hlc, _, hel, hat, _, _⟩
      · exact ⟨[], ⟨none, 0, rfl, Nat.le_refl _, fun h => by simp at h⟩, ⟨by simp, by simp⟩, fun x hx => by cases hx⟩
      · have hgs := hG.slice _ _ hgx
        have hw' : ((elems.length + rest.length) * P.bytesOf e' ≤ reachBytes) ∧ (DataW.weightsAll P e' (elems.map (·.1))).all (· ≤ reachBytes) = true := by
          simp only [DataW.weights, hu, List.all_cons, List.all_append, Bool.and_eq_true, decide_eq_true_eq, List.length_map] at hw
          exact ⟨hw.1, hw.2.1⟩
        obtain ⟨xs, hxl, hxs⟩ := list_of (p := fun i (x : u.T) => (∃ c, DR w (fun b _ => b < w.heap.size) u x c ∧ (∀ j v, c[j]? = some v → w.cell? (a.add (i * u.size + j)) = some v) ∧ a.block < w.heap.size) ∧ Okd P.bytesOf M u x) len (by
          intro i hi
          have hxi := hat i hi
          obtain ⟨y, hy⟩ : ∃ y, elems[i]? = some y := ⟨elems[i]'(by omega), by rw [List.getElem?_eq_getElem]⟩
          rw [hy] at hxi
          obtain ⟨cs', hcs, htr⟩ := Option.bind_eq_some_iff.1 hxi
          have hbl := World.cells?_block hcs (by rw [hsz]; exact hpos)
          obtain ⟨_, hl', hc'⟩ := World.cells?_some hcs
          obtain ⟨x, hx, kx⟩ := ih h4 htr (fun _ => hl') (weightsAll_mem hw'.2 _ (List.mem_map_of_mem (List.mem_of_getElem? hy))) (hgs.2 _ (List.mem_map_of_mem (List.mem_of_getElem? hy)))
          refine ⟨x, ⟨cs', hx, fun j v hj => ?_, ?_⟩, kx⟩
          · have hj' : j < cs'.length := (List.getElem?_eq_some_iff.1 hj).1
            have := hc' j (by omega)
            rw [hj] at this
            rw [← this, hsz, add_add]
          · unfold Addr.add at hbl
            split at hbl <;> exact hbl)
        refine ⟨xs, ⟨some a, cap, by rw [hxl], by rw [hxl]; exact hlc, fun hp => ⟨a, rfl, ?_, fun i x hx => ?_⟩⟩, ?_, fun x hx => ?_⟩
        · obtain ⟨⟨c, _, _, hb⟩, _⟩ := hxs 0 (xs[0]'(by simpa using hp)) (by rw [List.getElem?_eq_getElem])
          exact hb
        · obtain ⟨⟨c, h1, h2, _⟩, _⟩ := hxs i x hx
          exact ⟨c, h1, h2⟩
        · refine ⟨?_, ?_⟩
          · show xs.length * _ ≤ _
            rw [hxl, ← hel]
            refine Nat.le_trans ?_ hw'.1
            exact Nat.mul_le_mul_right _ (Nat.le_add_right _ _)
          · show xs.length ≤ _
            rw [hxl, ← hel]
            simpa using hgs.1
        · obtain ⟨i, hi⟩ := List.mem_iff_getElem?.1 (show x ∈ xs from hx)
          exact (hxs i x hi).2
end
end Go.Ab

namespace Go.Ab
set_option linter.unusedVariables false
set_option linter.unusedSimpArgs false
open Go.ChangeShapes Go.WideShapes Go.ChangeAt Go.RowKit

/-! ### 59. All arguments of a law, read at once -/
@[reducible] def shs : List Ty → List Sh | [] => [] | t :: r => .d t :: shs r
/-- the types of the parameters are of these kinds -/
def parB (P : Program) : List TypeId → List Ty → Bool
  | [], [] => true
  | t :: ts, ty :: tys => rdB P 40 t ty && beqB (aggP P t) ty.isAgg && P.readableRec t && Nat.blt t P.types.size && parB P ts tys
  | _, _ => false
def OkArgs (B : Nat → Nat) (M : Nat) : (tys : List Ty) → Sh.Ts (shs tys) → Prop
  | [], _ => True
  | [t], x => Okd B M t x
  | t :: u :: r, x => Okd B M t x.1 ∧ OkArgs B M (u :: r) x.2
theorem OkArgs_cons {B : Nat → Nat} {M : Nat} {t : Ty} : ∀ {r : List Ty} {x : t.T} {y : Sh.Ts (shs r)}, Okd B M t x → OkArgs B M r y → OkArgs B M (t :: r) (Sh.cons (a := .d t) (shs r) x y)
  | [], x, y, h, _ => h
  | _ :: _, x, y, h, k => ⟨h, k⟩
section
variable {P : Program} {H : Type} {enc : TypeId × Value → H} {M : Nat} {G : DataW H → Prop}
theorem cells_one {v : Value} (h : ∀ cs, v ≠ .agg cs) : v.cells.toList = [v] := by
  cases v <;> first | rfl | exact absurd rfl (h _)
theorem okWide_notAgg {w : World} {r : Reach} {base : Nat} {t : TypeId} {v : Value} (ha : aggP P t = false) (h : Value.okWide P w r base t v) : ∀ cs, v ≠ .agg cs := by
  rintro cs rfl
  unfold Value.okWide at h
  unfold aggP at ha
  split at h
  · rename_i hu; rw [hu] at ha; cases ha
  · rename_i hu; rw [hu] at ha; cases ha
  · unfold Cell.okWide at h
    split at h <;> first
      | (rename_i e; cases e; done)
      | (unfold Cell.ok at h; split at h <;> simp_all)
theorem okWide_agg {w : World} {r : Reach} {base : Nat} {t : TypeId} {v : Value} (ha : aggP P t = true) (h : Value.okWide P w r base t v) : ∃ cs, v = .agg cs ∧ cs.size = P.cellsOf t := by
  unfold Value.okWide at h
  unfold aggP at ha
  split at h
  · obtain ⟨cs, rfl, h, _⟩ := h; exact ⟨cs, rfl, h⟩
  · obtain ⟨cs, rfl, h, _⟩ := h; exact ⟨cs, rfl, h⟩
  · rename_i h1 h2
    split at ha
    · rename_i fs hu; exact absurd hu (h1 _)
    · rename_i n e hu; exact absurd hu (h2 _ _)
    · cases ha
/-- one argument -/
theorem arg_open (hG : Short M G) {w : World} {base b0 : Nat} {spare : Nat → Bool} {held : Bool} {t : TypeId} {ty : Ty} {v : Value} {d : DataW H} {p : List MemPlace}
    (hr : rdB P 40 t ty = true) (ha : aggP P t = ty.isAgg) (hok : Value.okWide P w .any b0 t v) (ht : DataW.Trod enc P w base spare held t v d p) (hw : (d.weights P t).all (· ≤ reachBytes) = true) (hgd : G d) :
    ∃ y : ty.T, VD w (fun b _ => b < w.heap.size) ty y v ∧ Okd P.bytesOf M ty y := by
  obtain ⟨fuel, ht⟩ := ht
  cases h : ty.isAgg with
  | true =>
    rw [h] at ha
    obtain ⟨cs, rfl, hs⟩ := okWide_agg ha hok
    obtain ⟨y, hy, ky⟩ := trod_DR hG hr ht (fun _ => by simpa [Value.cells] using hs) hw hgd
    exact ⟨y, by unfold VD; rw [if_pos h]; exact ⟨cs, rfl, by simpa [Value.cells] using hy⟩, ky⟩
  | false =>
    rw [h] at ha
    have hc := cells_one (okWide_notAgg ha hok)
    rw [hc] at ht
    obtain ⟨y, hy, ky⟩ := trod_DR hG hr ht (fun k => by rw [h] at k; cases k) hw hgd
    exact ⟨y, by unfold VD; rw [if_neg (by rw [h]; exact Bool.false_ne_true)]; exact hy, ky⟩
/-- all arguments -/
theorem args_open (hG : Short M G) {w : World} {base b0 : Nat} {spare : Nat → Bool} {held : Bool} : ∀ {ts : List TypeId} {tys : List Ty} {vs : List Value} {ds : List (DataW H)} {ps : List MemPlace}, parB P ts tys = true →
    (∀ (j : Nat) t v, ts[j]? = some t → vs[j]? = some v → Value.okWide P w .any b0 t v) → DataW.TrodAll enc P w base spare held ts vs ds ps → (DataW.weightsEach P ts ds).all (· ≤ reachBytes) = true → (∀ d ∈ ds, G d) →
    ∃ y : Sh.Ts (shs tys), ArgsR P w (fun b _ => b < w.heap.size) (shs tys) y vs [] ∧ OkArgs P.bytesOf M tys y
  | [], [], vs, ds, ps, _, _, ht, _, _ => by
    obtain ⟨rfl, rfl, rfl⟩ := trodAll_nil ht
    exact ⟨(), ⟨rfl, rfl⟩, trivial⟩
  | [], _ :: _, vs, ds, ps, h, _, _, _, _ => by cases h
  | _ :: _, [], vs, ds, ps, h, _, _, _, _ => by cases h
  | t :: ts, ty :: tys, vs, ds, ps, h, hok, ht, hw, hgd => by
    obtain ⟨v, vs, d, ds, p, q, rfl, rfl, rfl, h0, r0⟩ := trodAll_cons ht
    simp only [parB, Bool.and_eq_true] at h
    simp only [DataW.weightsEach, List.all_append, Bool.and_eq_true] at hw
    obtain ⟨y, hy, ky⟩ := arg_open hG h.1.1.1.1 (beqB_of h.1.1.1.2) (hok 0 t v rfl rfl) h0 hw.1 (hgd d List.mem_cons_self)
    obtain ⟨z, hz, kz⟩ := args_open hG h.2 (fun j t v h1 h2 => hok (j + 1) t v (by simpa using h1) (by simpa using h2)) r0 hw.2 (fun d hd => hgd d (List.mem_cons_of_mem _ hd))
    refine ⟨Sh.cons (a := .d ty) (shs tys) y z, ⟨v, vs, [], [], rfl, rfl, ?_, ?_⟩, OkArgs_cons ky kz⟩
    · show SV P w _ (.d ty) (Sh.hd (a := .d ty) (shs tys) (Sh.cons (a := .d ty) (shs tys) y z)) v []
      rw [hd_cons]; exact VD_SV hy
    · show ArgsR P w _ (shs tys) (Sh.tl (a := .d ty) (shs tys) (Sh.cons (a := .d ty) (shs tys) y z)) vs []
      rw [tl_cons]; exact hz
/-- the arguments read behind the call as they did -/
theorem args_again {W W' : World} (hl : laidOutB P = true) (hb : Below W.heap.size W W') : ∀ {ts : List TypeId} {tys : List Ty} {vs : List Value} {ds : List (DataW H)} {ps : List MemPlace}, parB P ts tys = true →
    DataW.TrodAll enc P W 0 (fun _ => true) true ts vs ds ps → DataW.TrodAll enc P W' 0 (fun b => decide (b < W.heap.size)) true ts vs ds ps
  | [], [], vs, ds, ps, _, ht => by
    obtain ⟨rfl, rfl, rfl⟩ := trodAll_nil ht
    exact trodAll_mk0
  | [], _ :: _, vs, ds, ps, h, _ => by cases h
  | _ :: _, [], vs, ds, ps, h, _ => by cases h
  | t :: ts, ty :: tys, vs, ds, ps, h, ht => by
    obtain ⟨v, vs, d, ds, p, q, rfl, rfl, rfl, h0, r0⟩ := trodAll_cons ht
    simp only [parB, Bool.and_eq_true] at h
    refine trodAll_cons_mk (Below.trod hl h.1.1.2 (by have := h.1.2; rwa [Nat.blt_eq] at this) h0 hb (fun x hx => ?_)) (args_again hl hb h.2 r0)
    obtain ⟨m, hm⟩ := h0
    exact DataW.trod_lt m _ _ _ hm x hx
theorem Left.below {w w' : World} (h : Left w w' (· ∈ ([] : List Nat))) : Below w.heap.size w w' :=
  ⟨h.os, h.tape, h.output, h.size, fun k hk => h.block k hk (by simp)⟩
theorem outs_shs : ∀ (tys : List Ty), Sh.outs (shs tys) = []
  | [] => rfl
  | _ :: r => by simp only [Sh.outs]; exact outs_shs r
/-- A law that is sound and whose reading is true returns true and leaves alone what was there. -/
theorem law_calls (hG : Short M G) {f : Nat} {tys : List Ty} {g : Nat → Sh.Ts (shs tys) → Option (Sh.Ts ([.d .bool] ++ Sh.outs (shs tys)))} {ts : List TypeId}
    (hs : ∀ k, Sound P ⟨f, shs tys, [.d .bool], g k⟩) (hg : ∀ x, OkArgs P.bytesOf M tys x → ∃ k y, g k x = some y ∧ Sh.fstL [.d .bool] (Sh.outs (shs tys)) y = true)
    {W : World} {base b0 : Nat} {spare : Nat → Bool} {held : Bool} {vs : List Value} {ds : List (DataW H)} {ps : List MemPlace} (hp : parB P ts tys = true)
    (hok : ∀ (j : Nat) t v, ts[j]? = some t → vs[j]? = some v → Value.okWide P W .any b0 t v) (ht : DataW.TrodAll enc P W base spare held ts vs ds ps) (hw : (DataW.weightsEach P ts ds).all (· ≤ reachBytes) = true) (hgd : ∀ d ∈ ds, G d) (hT : TabPred W ∧ ∀ b, TabBlk b → b < W.heap.size := by exact ⟨trivial, fun _ h => h.elim⟩) :
    Calls P f vs.toArray W fun e W' => e = .returned (.bool true) ∧ Below W.heap.size W W' := by
  obtain ⟨x, hx, kx⟩ := args_open hG hp hok ht hw hgd
  obtain ⟨k, y, hy, hyt⟩ := hg x kx
  refine ((hs k).calls x y hy W (fun b _ => b < W.heap.size) vs [] ⟨fun b e h => h, hT.1, fun b hb => ⟨0, hT.2 b hb⟩⟩ hx List.nodup_nil (fun b hb => by simp at hb)).mono fun e W' hpost => ?_
  obtain ⟨⟨rs, S', M, N, rfl, hleft, _, _, _, _, _, hres, _⟩⟩ := hpost
  obtain ⟨v, us, M1, N1, rfl, _, hv, rfl, _⟩ := hres
  refine ⟨?_, hleft.below⟩
  have hv' : SV P W' S' (.d .bool) (Sh.fstL [.d .bool] (Sh.outs (shs tys)) y) v M1 := hv
  rw [hyt] at hv'
  have h2 : DR W' S' .bool true [v] ∧ M1 = [] := by simpa [SV, Sh.isAgg, Ty.isAgg, SR] using hv'
  have h3 : [v] = [Value.bool true] := h2.1
  cases h3
  rfl
end
end Go.Ab
