/- A pure interpreter of the loaded code and its soundness, part 2. -/
import Derived.Deep.LoopGhost
import Derived.Scope
import Derived.Orders
import Derived.Test.YtdekjkgfohlmgaaGreatDoorAbG1
namespace Go.Ab
set_option linter.unusedVariables false
set_option linter.unusedSimpArgs false

/-! ### 37. Clearing, converting, the least and the greatest -/
section
variable {P : Program} {w0 w w' : World} {M0 : Nat → Prop} {S0 S : Sup} {ρ : Rho} {ob : List OE} {C : Ctx} {R : Type} {r : R}
theorem setOb_same {x : OE} {l : List OE} (h : look l x.id = some x) : setOb l x = l := by
  induction l with
  | nil => simp [look] at h
  | cons y r ih =>
    rw [look_cons] at h
    rw [setOb_cons]
    by_cases hy : y.id = x.id
    · rw [if_pos hy] at h ⊢; cases h; rfl
    · rw [if_neg hy] at h ⊢; rw [ih h]
theorem zeroCells_eq (z : Array Value) (n : Nat) : Builtin.zeroCells z n = madeCells z (n * z.size) := rfl
theorem madeCells_one {t : Ty} {z : Value} (hz : zcells t z.cells.toList = some []) : ∀ n, ∀ u ∈ (madeCells z.cells n).toList, u.oneCell' = true := by
  intro n u hu
  obtain ⟨c, hc, hd⟩ := zcells_DR (w := default) (S := fun _ _ => False) t hz
  simp only [List.append_nil] at hc
  simp only [madeCells, Array.toList_map, List.mem_map] at hu
  obtain ⟨i, _, rfl⟩ := hu
  by_cases h : i % z.cells.size < z.cells.size
  · rw [getElem!_pos z.cells _ h]
    exact DR_one hd _ (by rw [← hc]; exact Array.mem_toList_iff.2 (Array.getElem_mem h))
  · rw [getElem!_neg z.cells _ h]; rfl
theorem clear_sound (hT : TyOk P C) (hok : StOk P w0 M0 S0 ρ S ob w) {t ty : TypeId} {v : V} {x : Value} {K : Eff → Option R} (hv : VR P w ρ S ob v x) (h : clearK C t ob v K = some r) :
    ∃ ef, K ef = some r ∧ ∃ val w', (Builtin.clear_ #[t] ty #[x]).run P w = .ok val w' ∧ Out P w0 M0 S0 ρ S ob w ef val w' := by
  unfold clearK at h
  split at h
  · rename_i e tt hty
    obtain ⟨hu, hpos, ⟨inf, z, hi, hisz, hz, hzc⟩, _⟩ := (hT t _ hty).sl _ _ rfl
    have nothing : ∀ a c, (Builtin.clear_ #[t] ty #[.slice a 0 c]).run P w = .ok (.tuple #[]) w := by
      intro a c
      cases a <;> simp [Builtin.clear_, run_underlying hu]
    split at h
    · have : x = .slice none 0 0 := hv
      subst this
      exact ⟨_, h, _, _, nothing _ _, ρ, S, trivial, hok, Ext.refl _ _, fun _ _ h => h, Agree.refl _ _⟩
    · rename_i id g off len
      split at h
      · rename_i e' u xs ho
        split at h
        · rename_i hc
          simp only [Bool.and_eq_true] at hc
          have he : e' = e := nbeq_eq hc.1
          have hut : u = tt := Ty.eq_of_eqb hc.2
          subst he
          subst hut
          split at h
          · rename_i hb
            refine ⟨_, h, ?_⟩
            obtain ⟨y, hy, hyg, _, hle, hcase⟩ := ref_at hok hv (.inl ho)
            have hya : y.o = .arr e' u xs := by
              obtain ⟨q, hq, hqg, hqo⟩ := obAt_live ho (by simp)
              rw [hy] at hq; cases hq; exact hqo
            have hyy : look ob id = some ⟨id, g, .arr e' u xs⟩ := by
              rw [hy]
              have := look_id hy
              cases y
              simp only at this hyg hya
              rw [this, hyg, hya]
            by_cases hl0 : len = 0
            · subst hl0
              have hsame : (⟨id, g, .arr e' u (xs.take off ++ List.replicate 0 u.z ++ xs.drop (off + 0))⟩ : OE) = ⟨id, g, .arr e' u xs⟩ := by simp
              have hval : ∃ a c, x = .slice a 0 c := by
                rcases hcase with ⟨_, rfl, _⟩ | ⟨b, cap, cur, e2, fr, _, _, _, (rfl | ⟨_, _, _, o', rfl⟩), _⟩
                · exact ⟨_, _, rfl⟩
                · exact ⟨_, _, rfl⟩
                · exact ⟨_, _, rfl⟩
              obtain ⟨a, c, rfl⟩ := hval
              refine ⟨_, _, nothing _ _, ρ, S, trivial, ?_, ?_, fun _ _ h => h, Agree.refl _ _⟩
              · simp only [updAll]; rw [hsame, setOb_same hyy]; exact hok
              · simp only [updAll]; rw [hsame, setOb_same hyy]; exact Ext.refl _ _
            · rcases hcase with ⟨_, _, rfl⟩ | ⟨b, cap, cur0, e2, fr, hr, hoc, hxc, hval, _, _⟩
              · simp at hb; omega
              · rcases hval with rfl | ⟨h0, _⟩
                · have hor := hok.obs id _ hyy
                  simp only [OR, hr] at hor
                  obtain ⟨cur, hh, h1, h2, h3, hR⟩ := hor
                  have hzs : z.cells.size = u.size := by
                    obtain ⟨c, hc, hd⟩ := zcells_DR (w := w) (S := S) u hzc
                    have := DR_len hd
                    have h2 := congrArg List.length hc
                    simp only [List.append_nil, Array.length_toList] at h2
                    omega
                  have hml : (madeCells z.cells (len * u.size)).toList.length = len * u.size := by rw [Array.length_toList, size_madeCells]
                  have hcap : (off + len) * u.size ≤ cap * u.size := Nat.mul_le_mul_right _ (by omega)
                  have hexp : (off + len) * u.size = off * u.size + len * u.size := Nat.add_mul _ _ _
                  have hcl : cur.toList.length = cap * u.size := by rw [Array.length_toList]; exact h3
                  have hst := run_storeCells_at P b (off * u.size) e' (madeCells z.cells (len * u.size)).toList 0 cur w hh (by rw [hml]; omega) (madeCells_one hzc _)
                  simp only [Nat.add_zero] at hst
                  obtain ⟨m, rfl⟩ : ∃ m, len = m + 1 := ⟨len - 1, by omega⟩
                  have hfit : off * u.size + (madeCells z.cells ((m + 1) * u.size)).toList.length ≤ cur.toList.length := by rw [hml]; omega
                  have hrun : (Builtin.clear_ #[t] ty #[.slice (some ⟨b, off * u.size, none⟩) (m + 1) (cap - off)]).run P w = .ok (.tuple #[]) (w.setRow b (cur.toList.take (off * u.size) ++ (madeCells z.cells ((m + 1) * u.size)).toList ++ cur.toList.drop (off * u.size + (madeCells z.cells ((m + 1) * u.size)).toList.length)).toArray) := by
                    simp only [Builtin.clear_, run_underlying hu, Sem.run_bind, run_zero hi hz, zeroCells_eq, hzs]
                    simp [run_underlying hu, run_zero hi hz, zeroCells_eq, hzs]
                    rw [hst]
                    simp
                  have hwl := setRow_left w b (cur.toList.take (off * u.size) ++ (madeCells z.cells ((m + 1) * u.size)).toList ++ cur.toList.drop (off * u.size + (madeCells z.cells ((m + 1) * u.size)).toList.length)).toArray
                  have hA := hwl.agree hok.within (fun b' f hs hb => (hok.own id _ b cap hyy trivial hr).1 f (hb ▸ hs))
                  have hlen' : (xs.take off ++ List.replicate (m + 1) u.z ++ xs.drop (off + (m + 1))).length = xs.length := by
                    simp only [List.length_append, List.length_take, List.length_replicate, List.length_drop]; omega
                  obtain ⟨hok', hE'⟩ := hok.upd hyy trivial hr hwl (o' := .arr e' u (xs.take off ++ List.replicate (m + 1) u.z ++ xs.drop (off + (m + 1)))) ⟨rfl, rfl, hlen'.symm⟩ trivial (by
                    simp only [OR, hr]
                    refine ⟨_, setRow_heap w b cur _ e' (0, 0) hh, by omega, h2, ?_, ?_⟩
                    · simp only [List.size_toArray, List.length_append, List.length_take, List.length_drop]; omega
                    · rw [List.toList_toArray]
                      intro j xj hxj
                      have hj : j < xs.length := by rw [← hlen']; exact (List.getElem?_eq_some_iff.1 hxj).1
                      by_cases hin : off ≤ j ∧ j < off + (m + 1)
                      · rw [List.append_assoc, List.getElem?_append_right (by simp; omega), List.getElem?_append_left (by simp; omega), List.getElem?_replicate] at hxj
                        simp only [List.length_take] at hxj
                        split at hxj
                        case isFalse => cases hxj
                        case isTrue =>
                        cases hxj
                        obtain ⟨c, hd, hcc⟩ := zero_rows (w := w) (S := S) hzc hpos (m + 1) (j - off) u.z (by rw [List.getElem?_replicate, if_pos (by omega)])
                        refine ⟨c, DR_mono (fun _ _ h => h) hA hd, fun k q hq => ?_⟩
                        have hk : k < u.size := by rw [← DR_len hd]; exact (List.getElem?_eq_some_iff.1 hq).1
                        have h5 : j * u.size = off * u.size + (j - off) * u.size := by rw [← Nat.add_mul]; congr 1; omega
                        have h6 : (j - off + 1) * u.size ≤ (m + 1) * u.size := Nat.mul_le_mul_right _ (by omega)
                        have h7 : (j - off + 1) * u.size = (j - off) * u.size + u.size := by rw [Nat.add_mul, Nat.one_mul]
                        rw [splice_get _ _ _ _ hfit, if_pos (by omega), ← hcc k q hq]
                        congr 1
                        omega
                      · have hxj' : xs[j]? = some xj := by
                          by_cases hlt : j < off
                          · rwa [List.append_assoc, List.getElem?_append_left (by simp; omega), List.getElem?_take, if_pos hlt] at hxj
                          · rw [List.getElem?_append_right (by simp; omega), List.getElem?_drop] at hxj
                            simp only [List.length_append, List.length_take, List.length_replicate] at hxj
                            rw [← hxj]
                            congr 1
                            omega
                        obtain ⟨c, hd, hcc⟩ := hR j xj hxj'
                        refine ⟨c, DR_mono (fun _ _ h => h) hA hd, fun k q hq => ?_⟩
                        have hk : k < u.size := by rw [← DR_len hd]; exact (List.getElem?_eq_some_iff.1 hq).1
                        rw [splice_get _ _ _ _ hfit, if_neg]
                        · exact hcc k q hq
                        · rintro ⟨q1, q2⟩
                          rw [hml] at q2
                          rcases Nat.lt_or_ge j off with hlt | hge
                          · have h5 : (j + 1) * u.size ≤ off * u.size := Nat.mul_le_mul_right _ hlt
                            have h6 : (j + 1) * u.size = j * u.size + u.size := by rw [Nat.add_mul, Nat.one_mul]
                            omega
                          · have h5 : (off + (m + 1)) * u.size ≤ j * u.size := Nat.mul_le_mul_right _ (by omega)
                            omega)
                  exact ⟨_, _, hrun, ρ, S, trivial, hok', hE', fun _ _ h => h, hA⟩
                · exact absurd h0 hl0
          · cases h
        · cases h
      · cases h
    · cases h
  · cases h
/-- The support grows by blocks that are nobody's. -/
theorem copy_none {t ty : TypeId} {e : Nat} {inf : TypeInfo} (hu : P.underlying t = some (.slice e)) (hi : P.info? e = some inf) {a b : Option Addr} {l c m d : Nat} (h0 : min m l = 0) :
    (Builtin.copy_ #[t, t] ty #[.slice a l c, .slice b m d]).run P w = .ok (.int .i64 0) w := by
  have h1 : Nat.min m l = 0 := h0
  have hl := fun ad => run_loadCells_list (P := P) w ad [] (by simp)
  simp only [List.length_nil] at hl
  cases a <;> cases b <;> simp [Builtin.copy_, run_underlying hu, Builtin.lenOf, Builtin.firstCells, sizeOf, typeInfo, hi, h1, storeCells, hl, goInt]
theorem copy_sound (hT : TyOk P C) (hok : StOk P w0 M0 S0 ρ S ob w) {t ty : TypeId} {v y : V} {x yv : Value} {K : Eff → Option R} (hv : VR P w ρ S ob v x) (hy : VR P w ρ S ob y yv) (h : copyK C t ob v y K = some r) :
    ∃ ef, K ef = some r ∧ ∃ val w', (Builtin.copy_ #[t, t] ty #[x, yv]).run P w = .ok val w' ∧ Out P w0 M0 S0 ρ S ob w ef val w' := by
  unfold copyK at h
  split at h
  case h_2 => cases h
  case h_1 e tt hty =>
  obtain ⟨hu, hpos, ⟨inf, z, hi, hisz, hz, hzc⟩, _⟩ := (hT t _ hty).sl _ _ rfl
  split at h
  case h_1 => cases h
  case h_2 ys hcl =>
  obtain ⟨ay, cy, rfl, _, hyr⟩ := slice_rows hok hy hcl
  split at h
  case h_2 => cases h
  case h_1 id g off len =>
  split at h
  case h_2 => cases h
  case h_1 e' u xs ho =>
  split at h
  case isFalse => cases h
  case isTrue hee =>
  have he : e' = e := nbeq_eq hee
  subst he
  split at h
  case h_2 => cases h
  case h_1 ys1 hcast =>
  split at h
  case isFalse => cases h
  case isTrue hb =>
  obtain ⟨htu, hxs⟩ := cast_some hcast
  injection htu with _ htu
  subst htu
  simp only at hxs
  subst hxs
  obtain ⟨yy, hyy0, hyg, _, hle, hcase⟩ := ref_at hok hv (.inl ho)
  have hya : yy.o = .arr e' tt xs := by
    obtain ⟨q, hq, hqg, hqo⟩ := obAt_live ho (by simp)
    rw [hyy0] at hq; cases hq; exact hqo
  have hyy : look ob id = some ⟨id, g, .arr e' tt xs⟩ := by
    rw [hyy0]
    have := look_id hyy0
    cases yy
    simp only at this hyg hya
    rw [this, hyg, hya]
  refine ⟨_, h, ?_⟩
  by_cases hn0 : min (List.length (α := tt.T) ys) len = 0
  · have hsame : (⟨id, g, .arr e' tt (xs.take off ++ List.take (α := tt.T) len ys ++ xs.drop (off + min (List.length (α := tt.T) ys) len))⟩ : OE) = ⟨id, g, .arr e' tt xs⟩ := by
      have : List.take (α := tt.T) len ys = [] := by
        apply List.eq_nil_of_length_eq_zero
        rw [List.length_take, Nat.min_comm]; exact hn0
      rw [this, hn0]; simp
    have hval : ∃ a c, x = .slice a len c := by
      rcases hcase with ⟨h0, rfl, hx0⟩ | ⟨b, cap, cur, e2, fr, _, _, _, (rfl | ⟨h0, _, _, o', rfl⟩), _⟩
      · have hl0 : len = 0 := by
          have hb' := hb
          rw [hx0] at hb'
          simp at hb'
          omega
        exact ⟨_, _, by rw [hl0]⟩
      · exact ⟨_, _, rfl⟩
      · exact ⟨_, _, by rw [h0]⟩
    obtain ⟨a, c, rfl⟩ := hval
    refine ⟨_, _, copy_none hu hi hn0, ρ, S, ?_, ?_, ?_, fun _ _ h => h, Agree.refl _ _⟩
    · rw [hn0]; exact VR_int.2 rfl
    · simp only [updAll]; rw [hsame, setOb_same hyy]; exact hok
    · simp only [updAll]; rw [hsame, setOb_same hyy]; exact Ext.refl _ _
  · rcases hcase with ⟨hl0, _, rfl⟩ | ⟨b, cap, cur0, e2, fr, hr, hoc, hxc, hval, _, _⟩
    · simp at hb; omega
    · rcases hval with rfl | ⟨h0, _⟩
      · have hor := hok.obs id _ hyy
        simp only [OR, hr] at hor
        obtain ⟨cur, hh, h1, h2, h3, hR⟩ := hor
        obtain ⟨ad, rfl, hrd⟩ := hyr (by omega)
        generalize hN : min (List.length (α := tt.T) ys) len = N at *
        obtain ⟨news, hnl, hnc, hn1, hnr⟩ := flat_rows (w := w) (S := S) (ys.take N) (fun j => w.cell? (ad.add j)) (by
          intro i x hxi
          rw [List.getElem?_take] at hxi
          split at hxi
          · exact hrd i x hxi
          · cases hxi)
        have hNl : (ys.take N).length = N := by rw [List.length_take]; omega
        rw [hNl] at hnl
        have hcap : (off + len) * tt.size ≤ cap * tt.size := Nat.mul_le_mul_right _ (by omega)
        have hexp : (off + len) * tt.size = off * tt.size + len * tt.size := Nat.add_mul _ _ _
        have hNle : N * tt.size ≤ len * tt.size := Nat.mul_le_mul_right _ (by omega)
        have hcl : cur.toList.length = cap * tt.size := by rw [Array.length_toList]; exact h3
        have hst := run_storeCells_at P b (off * tt.size) e' news 0 cur w hh (by rw [hnl]; rw [Array.length_toList] at hcl; omega) hn1
        simp only [Nat.add_zero] at hst
        have hfit : off * tt.size + news.length ≤ cur.toList.length := by rw [hnl]; omega
        have hld := run_loadCells_list (P := P) w ad news hnc
        rw [hnl] at hld
        have hNm : Nat.min (List.length (α := tt.T) ys) len = N := hN
        have hrun : (Builtin.copy_ #[t, t] ty #[.slice (some ⟨b, off * tt.size, none⟩) len (cap - off), .slice (some ad) (List.length (α := tt.T) ys) cy]).run P w = .ok (.int .i64 (N : Int)) (w.setRow b (cur.toList.take (off * tt.size) ++ news ++ cur.toList.drop (off * tt.size + news.length)).toArray) := by
          simp [Builtin.copy_, run_underlying hu, Builtin.lenOf, Builtin.firstCells, sizeOf, typeInfo, hi, hisz, hNm, hld, hst, goInt]
        have hwl := setRow_left w b (cur.toList.take (off * tt.size) ++ news ++ cur.toList.drop (off * tt.size + news.length)).toArray
        have hA := hwl.agree hok.within (fun b' f hs hb => (hok.own id _ b cap hyy trivial hr).1 f (hb ▸ hs))
        have htk : List.take (α := tt.T) len ys = List.take (α := tt.T) N ys := by
          rw [← hN]
          rcases Nat.le_total (List.length (α := tt.T) ys) len with hll | hll
          · rw [Nat.min_eq_left hll, List.take_of_length_le hll, List.take_of_length_le (Nat.le_refl _)]
          · rw [Nat.min_eq_right hll]
        rw [htk]
        have hlen' : (xs.take off ++ ys.take N ++ xs.drop (off + N)).length = xs.length := by
          simp only [List.length_append, List.length_take, List.length_drop]; omega
        obtain ⟨hok', hE'⟩ := hok.upd hyy trivial hr hwl (o' := .arr e' tt (xs.take off ++ ys.take N ++ xs.drop (off + N))) ⟨rfl, rfl, hlen'.symm⟩ trivial (by
          simp only [OR, hr]
          refine ⟨_, setRow_heap w b cur _ e' (0, 0) hh, by omega, h2, ?_, ?_⟩
          · simp only [List.size_toArray, List.length_append, List.length_take, List.length_drop]; omega
          · rw [List.toList_toArray]
            intro j xj hxj
            have hj : j < xs.length := by rw [← hlen']; exact (List.getElem?_eq_some_iff.1 hxj).1
            by_cases hin : off ≤ j ∧ j < off + N
            · rw [List.append_assoc, List.getElem?_append_right (by simp; omega), List.getElem?_append_left (by simp only [List.length_take]; omega)] at hxj
              rw [List.length_take, Nat.min_eq_left (by omega)] at hxj
              obtain ⟨c, hd, hcc⟩ := hnr (j - off) xj hxj
              refine ⟨c, DR_mono (fun _ _ h => h) hA hd, fun k q hq => ?_⟩
              have hk : k < tt.size := by rw [← DR_len hd]; exact (List.getElem?_eq_some_iff.1 hq).1
              have h5 : j * tt.size = off * tt.size + (j - off) * tt.size := by rw [← Nat.add_mul]; congr 1; omega
              have h6 : (j - off + 1) * tt.size ≤ N * tt.size := Nat.mul_le_mul_right _ (by omega)
              have h7 : (j - off + 1) * tt.size = (j - off) * tt.size + tt.size := by rw [Nat.add_mul, Nat.one_mul]
              rw [splice_get _ _ _ _ hfit, if_pos (by omega), ← hcc k q hq]
              congr 1
              omega
            · have hxj' : xs[j]? = some xj := by
                by_cases hlt : j < off
                · rwa [List.append_assoc, List.getElem?_append_left (by simp; omega), List.getElem?_take, if_pos hlt] at hxj
                · rw [List.getElem?_append_right (by simp only [List.length_append, List.length_take]; omega), List.getElem?_drop] at hxj
                  simp only [List.length_append, List.length_take] at hxj
                  rw [← hxj]
                  congr 1
                  omega
              obtain ⟨c, hd, hcc⟩ := hR j xj hxj'
              refine ⟨c, DR_mono (fun _ _ h => h) hA hd, fun k q hq => ?_⟩
              have hk : k < tt.size := by rw [← DR_len hd]; exact (List.getElem?_eq_some_iff.1 hq).1
              rw [splice_get _ _ _ _ hfit, if_neg]
              · exact hcc k q hq
              · rintro ⟨q1, q2⟩
                rw [hnl] at q2
                rcases Nat.lt_or_ge j off with hlt | hge
                · have h5 : (j + 1) * tt.size ≤ off * tt.size := Nat.mul_le_mul_right _ hlt
                  have h6 : (j + 1) * tt.size = j * tt.size + tt.size := by rw [Nat.add_mul, Nat.one_mul]
                  omega
                · have h5 : (off + N) * tt.size ≤ j * tt.size := Nat.mul_le_mul_right _ (by omega)
                  have h6 : (off + N) * tt.size = off * tt.size + N * tt.size := Nat.add_mul _ _ _
                  omega)
        exact ⟨_, _, hrun, ρ, S, VR_int.2 rfl, hok', hE', fun _ _ h => h, hA⟩
      · omega
theorem StOk.more {S' : Sup} (h : StOk P w0 M0 S0 ρ S ob w) (hS : ∀ b e, S b e → S' b e)
    (hn : ∀ b e, S' b e → S b e ∨ ((M0 b ∨ w0.heap.size ≤ b) ∧ b < w.heap.size ∧ ∀ id x c, look ob id = some x → x.o.live → ρ id = some (b, c) → False)) : StOk P w0 M0 S0 ρ S' ob w := by
  refine ⟨fun id x hx => ?_, h.inj, fun id x b c hx hv hr => ?_, ⟨fun b e hs => ?_, h.within.2.mono hS (Agree.refl _ _)⟩, fun b e hs => hS b e (h.sub b e hs), fun b e hs => ?_, h.left⟩
  · have ho := h.obs id x hx
    cases hxo : x.o with
    | dead => trivial
    | box v =>
      rw [hxo] at ho
      obtain ⟨b, c, cur, e, hr, hh, hv⟩ := ho
      exact ⟨b, c, cur, e, hr, hh, VC.later hS (Agree.refl S w) (Ext.refl ρ ob) hv⟩
    | arr e t xs =>
      rw [hxo] at ho
      simp only [OR] at ho ⊢
      cases hr : ρ id with
      | none => simpa [hr] using ho
      | some bc =>
        obtain ⟨b, cap⟩ := bc
        simp only [hr] at ho ⊢
        obtain ⟨cur, hh, h1, h2, h3, h4⟩ := ho
        exact ⟨cur, hh, h1, h2, h3, RowsR.less hS h4⟩
    | fz e t xs =>
      rw [hxo] at ho
      simp only [OR] at ho ⊢
      cases hr : ρ id with
      | none => simpa [hr] using ho
      | some bc =>
        obtain ⟨b, cap⟩ := bc
        simp only [hr] at ho ⊢
        obtain ⟨hs, h1, cur, e', fr, hh, h4⟩ := ho
        exact ⟨hS _ _ hs, h1, cur, e', fr, hh, RowsR.less hS h4⟩
  · obtain ⟨h1, h2, h3⟩ := h.own id x b c hx hv hr
    refine ⟨fun e he => ?_, h2, h3⟩
    rcases hn b e he with h4 | ⟨_, _, h4⟩
    · exact h1 e h4
    · exact h4 id x c hx hv hr
  · rcases hn b e hs with h4 | ⟨_, h4, _⟩
    · exact h.within.1 b e h4
    · exact h4
  · rcases hn b e hs with h4 | ⟨h4, _, _⟩
    · exact h.supp b e h4
    · exact .inr h4
theorem isU8_of (hT : TyOk P C) {e : Nat} (h : isU8 C e = true) : P.underlying e = some (.int .u8) := by
  unfold isU8 at h
  split at h
  · rename_i he; exact (hT e _ he).int _ rfl
  · cases h
theorem conv_sound (hT : TyOk P C) (hok : StOk P w0 M0 S0 ρ S ob w) {src dst : TypeId} {v : V} {x : Value} {K : V → Option R} (hv : VR P w ρ S ob v x) (h : convK C ob src dst v K = some r) :
    ∃ v', K v' = some r ∧ ∃ val w', (convert src dst x).run P w = .ok val w' ∧ Out P w0 M0 S0 ρ S ob w ⟨v', []⟩ val w' := by
  unfold convK at h
  split at h
  · rename_i k l hs hd
    split at h
    · rename_i k' a
      rw [VR_int] at hv
      subst hv
      have h1 := (hT _ _ hs).int _ rfl
      have h2 := (hT _ _ hd).int _ rfl
      exact ⟨_, h, _, w, by simp [convert, run_underlying h1, run_underlying h2, Conv.intToInt], Out.pure hok (VR_int.2 rfl)⟩
    · cases h
  · rename_i hs hd
    split at h
    · rename_i a
      rw [VR_str] at hv
      subst hv
      have h1 := (hT _ _ hs).str rfl
      have h2 := (hT _ _ hd).str rfl
      exact ⟨_, h, _, w, by simp [convert, run_underlying h1, run_underlying h2], Out.pure hok (VR_str.2 rfl)⟩
    · cases h
  · rename_i e hs hd
    split at h
    · rename_i a
      split at h
      · rename_i hu8
        rw [VR_str] at hv
        subst hv
        have h1 := (hT _ _ hs).str rfl
        have h2 := ((hT _ _ hd).sl _ _ rfl).1
        have h3 := isU8_of hT hu8
        refine ⟨_, h, _, _, Lib.run_convert_string_bytes w src dst e ⟨(List.toArray (α := UInt8) a)⟩ h1 h2 h3, ?_⟩
        have hleft : Left w (Lib.bytesWorld w e ⟨(List.toArray (α := UInt8) a)⟩) (fun _ => False) :=
          ⟨rfl, rfl, rfl, by rw [Lib.bytesWorld_size]; omega, fun b hb _ => Lib.bytesWorld_at_old w e _ b hb⟩
        have hok1 := hok.grow hleft
        have hA := hleft.agree hok.within fun _ _ _ => id
        refine ⟨ρ, fun b f => S b f ∨ (b = w.heap.size ∧ f = e), ?_, ?_, Ext.refl _ _, fun _ _ h => .inl h, hA⟩
        · rw [updAll, VR_sl]
          have hsz : (⟨List.toArray (α := UInt8) a⟩ : ByteArray).size = List.length (α := UInt8) a := by simp [ByteArray.size]
          refine ⟨some ⟨w.heap.size, 0, none⟩, grownCap w (List.length (α := UInt8) a) 0 e, ?_, ?_, fun hp => ⟨_, rfl, .inr ⟨rfl, rfl⟩, fun i y hy => ?_⟩⟩
          · simp [hsz]
          · simpa using grownCap_ge w (List.length (α := UInt8) a) 0 e
          · refine ⟨[.int .u8 y], rfl, fun j u hu => ?_⟩
            have hj : j = 0 := by
              have := (List.getElem?_eq_some_iff.1 hu).1
              simp at this; omega
            subst hj
            simp only [List.getElem?_cons_zero, Option.some.injEq] at hu
            subst hu
            have hi : i < List.length (α := UInt8) a := by
              have := (List.getElem?_eq_some_iff.1 hy).1
              simpa using this
            rw [add_at]
            simp only [Ty.size, Nat.mul_one, Nat.zero_add, Nat.add_zero]
            rw [Lib.bytesWorld_cell w e _ i (by rw [hsz]; exact hi)]
            rw [List.getElem?_map, List.getElem?_eq_getElem hi] at hy
            simp only [Option.map_some, Option.some.injEq] at hy
            subst hy
            simp [List.getD_eq_getElem?_getD, List.getElem?_eq_getElem hi]
        · refine hok1.more (fun _ _ h => .inl h) ?_
          rintro b f (hs | ⟨rfl, rfl⟩)
          · exact .inl hs
          · refine .inr ⟨.inr hok.left.size, by rw [Lib.bytesWorld_size]; omega, fun id x c hx hv hr => ?_⟩
            have := (hok.own id x _ c hx hv hr).2.2
            omega
      · cases h
    · cases h
  · rename_i e hs hd
    split at h
    · rename_i xs hcl
      split at h
      · rename_i hu8
        have h1 := ((hT _ _ hs).sl _ _ rfl).1
        have h2 := (hT _ _ hd).str rfl
        have h3 := isU8_of hT hu8
        obtain ⟨a, cap, rfl, _, hrow⟩ := slice_rows hok hv hcl
        refine ⟨_, h, _, w, ?_, Out.pure hok (VR_str.2 rfl)⟩
        cases a with
        | none =>
          have h0 : xs = [] := by
            cases xs with
            | nil => rfl
            | cons y ys => obtain ⟨ad, h, _⟩ := hrow (by simp); cases h
          subst h0
          exact run_convert_bytes_nil w src e h1 h3 _ _ dst h2
        | some ad =>
          have hl : (loadCells ad xs.length).run P w = .ok (List.map (Value.int .u8) xs).toArray w := by
            have := run_loadCells_list (P := P) w ad (List.map (Value.int .u8) xs) (fun j u hu => by
              rw [List.getElem?_map] at hu
              cases hx : (xs : List Int)[j]? with
              | none => rw [hx] at hu; cases hu
              | some x =>
                rw [hx] at hu
                simp only [Option.map_some, Option.some.injEq] at hu
                subst hu
                have hp : 0 < xs.length := by have := (List.getElem?_eq_some_iff.1 hx).1; omega
                obtain ⟨ad', h, hr⟩ := hrow hp
                cases h
                obtain ⟨c, hd, hc⟩ := hr j x hx
                have hd' : c = [.int .u8 x] := hd
                subst hd'
                have := hc 0 _ rfl
                simpa [Ty.size] using this)
            simpa using this
          rw [run_convert_bytes_string w src dst e _ _ cap h1 h3 h2, run_bytesToString w ad _ cap xs hl, foldl_push_bytes]
          simp [ByteArray.empty, ByteArray.emptyWithCapacity]
          rfl
      · cases h
    · cases h
  · cases h
theorem max2_eq (k : IntKind) (a b : Int) : Builtin.max2 (.int k a) (.int k b) = pure (.int k (if b > a then b else a)) := rfl
theorem min2_eq (k : IntKind) (a b : Int) : Builtin.min2 (.int k a) (.int k b) = pure (.int k (if b < a then b else a)) := rfl
theorem mm_sound {mx : Bool} {vs : List V} {xs : List Value} {K : V → Option R} (hl : xs.length = vs.length) (hv : ∀ (i : Nat) v x, vs[i]? = some v → xs[i]? = some x → VR P w ρ S ob v x) (ts : Array TypeId) (ty : TypeId) (h : mmK mx vs K = some r) :
    ∃ v', K v' = some r ∧ ∃ x, (if mx = true then Builtin.max_ ts ty xs.toArray else Builtin.min_ ts ty xs.toArray).run P w = .ok x w ∧ VR P w ρ S ob v' x := by
  unfold mmK at h
  split at h
  · rename_i k a l b
    split at h
    case isFalse => cases h
    case isTrue hk =>
    obtain rfl := kindNo_inj (nbeq_eq hk)
    match xs, hl with
    | [x, y], _ =>
      have h1 := hv 0 _ x rfl rfl
      have h2 := hv 1 _ y rfl rfl
      rw [VR_int] at h1 h2
      subst h1
      subst h2
      refine ⟨_, h, _, ?_, VR_int.2 rfl⟩
      cases mx
      · simp [Builtin.min_, min2_eq]
      · simp [Builtin.max_, max2_eq]
  · rename_i k a l b m c
    split at h
    case isFalse => cases h
    case isTrue hk =>
    simp only [Bool.and_eq_true] at hk
    obtain rfl := kindNo_inj (nbeq_eq hk.1)
    obtain rfl := kindNo_inj (nbeq_eq hk.2)
    match xs, hl with
    | [x, y, z], _ =>
      have h1 := hv 0 _ x rfl rfl
      have h2 := hv 1 _ y rfl rfl
      have h3 := hv 2 _ z rfl rfl
      rw [VR_int] at h1 h2 h3
      subst h1
      subst h2
      subst h3
      refine ⟨_, h, _, ?_, VR_int.2 rfl⟩
      cases mx
      · simp [Builtin.min_, min2_eq]
      · simp [Builtin.max_, max2_eq]
  · cases h
theorem run_append_make (w : World) (t ut ty e : TypeId) (i : TypeInfo) (z : Value) (ht : P.underlying t = some (.slice e)) (hu : P.underlying ut = some (.int .i64)) (hi : P.info? e = some i) (hz : i.zero = some z)
    (n : Int) (h0 : 0 < n) (hn : n ≤ 140737488355328) (h48 : n.toNat * i.bytes ≤ 140737488355328) (hs : 0 < i.size) :
    (Builtin.append_ #[t, ut] ty #[.slice none 0 0, .int .i64 n]).run P w =
      .ok (.slice (some ⟨w.heap.size, 0, none⟩) n.toNat (grownCap w n.toNat 0 e)) (w.drew.alloc (.cells (Builtin.zeroCells z.cells n.toNat ++ Builtin.zeroCells z.cells (grownCap w n.toNat 0 e - n.toNat)) e)) := by
  obtain ⟨m, rfl⟩ : ∃ m : Nat, n = m := ⟨n.toNat, (Int.toNat_of_nonneg (by omega)).symm⟩
  rw [Int.toNat_natCast] at *
  have hw : IntKind.i64.wrap (m : Int) = m := by
    simp only [IntKind.wrap, IntKind.signed, IntKind.bits]
    simp
    split <;> omega
  have h1 : ¬ ((m : Int) < 0) := by omega
  have h2 : ¬ (281474976710656 < (m : Int) * (i.bytes : Int)) := by rw [← Int.natCast_mul]; omega
  have h3 : ¬ (m * i.size = 0) := by
    intro e
    rcases Nat.mul_eq_zero.1 e with e | e <;> omega
  have h4 : ¬ (m ≤ 0) := by omega
  have h5 : ¬ (9223372036854775807 < (m : Int)) := by omega
  have h6 : ¬ (281474976710656 < Builtin.nextslicecap m 0 * i.bytes) := by rw [nextslicecap_zero (by omega)]; omega
  have h7 : m ≠ 0 := by omega
  simp [Builtin.append_, run_underlying ht, run_underlying hu, sizeOf, typeInfo, zeroValue, hi, hz, hw, h1, h2, h5, h6, h7, asInt, asIntOf, Question.forced, run_firstCells_none, newRow, grownCap]
  exact fun e => absurd e h3
theorem appendM_sound (hT : TyOk P C) (hok : StOk P w0 M0 S0 ρ S ob w) {sty nty ty : TypeId} {d : Nat} {x n : V} {xv nv : Value} {K : Eff → Option R} (hx : VR P w ρ S ob x xv) (hn : VR P w ρ S ob n nv)
    (h : appendMK C d sty nty x n ob K = some r) : ∃ ef, K ef = some r ∧ ∃ val w', (Builtin.append_ #[sty, nty] ty #[xv, nv]).run P w = .ok val w' ∧ Out P w0 M0 S0 ρ S ob w ef val w' := by
  unfold appendMK at h
  split at h
  case h_2 => cases h
  case h_1 =>
  split at h
  case h_2 => cases h
  case h_1 m =>
  split at h
  case h_2 => cases h
  case h_1 e t hty =>
  split at h
  case h_2 => cases h
  case h_1 hnt =>
  split at h
  case isFalse => cases h
  case isTrue hb =>
  obtain ⟨h0', hb1, hb2'⟩ := hb
  have h0 : (0 : Int) < m := h0'
  have hb2 : (m : Int) ≤ 140737488355328 := hb2'
  have hx' : xv = .slice none 0 0 := hx
  subst hx'
  rw [VR_int] at hn
  subst hn
  obtain ⟨hu, hpos, ⟨inf, z, hi, hisz, hz, hzc⟩, ⟨inf', hi', hby, hbp⟩⟩ := (hT sty _ hty).sl _ _ rfl
  rw [hi] at hi'
  cases hi'
  unfold LIM at hb1
  have hun := (hT nty _ hnt).int _ rfl
  have hzs : z.cells.size = t.size := by
    obtain ⟨c, hc, hd⟩ := zcells_DR (w := w) (S := S) t hzc
    have h2 := congrArg List.length hc
    simp only [List.append_nil, Array.length_toList] at h2
    rw [h2]; exact DR_len hd
  have hrun := run_append_make (P := P) w sty nty ty e inf z hu hun hi hz m h0 hb2 (by rw [hby]; exact hb1) (by rw [hisz]; exact hpos)
  refine ⟨_, h, _, _, hrun, ?_⟩
  have hm2 : Int.toNat m ≤ 140737488355328 := Int.toNat_le.2 hb2
  have hge := grownCap_ge w (Int.toNat m) 0 e
  have hmx := grownCap_le_maxLen w (Int.toNat m) 0 e (Nat.le_trans hm2 (by simp [maxLen]))
  have hh : (w.drew.alloc (.cells (Builtin.zeroCells z.cells (Int.toNat m) ++ Builtin.zeroCells z.cells (grownCap w (Int.toNat m) 0 e - Int.toNat m)) e)).heap[w.heap.size]? = some (.cells (Builtin.zeroCells z.cells (Int.toNat m) ++ Builtin.zeroCells z.cells (grownCap w (Int.toNat m) 0 e - Int.toNat m)) e (0, 0)) := heap_alloc_new w.drew _
  have hl : Left w (w.drew.alloc (.cells (Builtin.zeroCells z.cells (Int.toNat m) ++ Builtin.zeroCells z.cells (grownCap w (Int.toNat m) 0 e - Int.toNat m)) e)) (fun _ => False) := ⟨rfl, rfl, rfl, by simp, fun k hk _ => (alloc_left w.drew _).block k hk fun h => h⟩
  have := row_out (P := P) (M0 := M0) (S0 := S0) (w0 := w0) hok (d := d) (e := e) (cap := grownCap w (Int.toNat m) 0 e) (t := t) (xs := List.replicate (Int.toNat m) t.z) hl hh (by simpa using hge) hmx
    (by rw [Array.size_append, zeroCells_eq, zeroCells_eq, size_madeCells, size_madeCells, hzs, ← Nat.add_mul]; congr 1; omega) (by
      refine RowsR.of_take (m := Int.toNat m * t.size) ?_
      rw [Array.toList_append, List.take_append_of_le_length (by rw [Array.length_toList, zeroCells_eq, size_madeCells, hzs]; exact Nat.le_refl _), List.take_of_length_le (by rw [Array.length_toList, zeroCells_eq, size_madeCells, hzs]; exact Nat.le_refl _), zeroCells_eq, hzs]
      exact zero_rows hzc hpos _)
  simpa using this
end
end Go.Ab

namespace Go.Ab
set_option linter.unusedVariables false
set_option linter.unusedSimpArgs false

/-! ### 38. Arguments as they are handed over -/
/-- data of one cell -/
def Ty.val : (t : Ty) → t.T → Value
  | .int k, n => .int k n
  | .str, l => .string ⟨List.toArray (α := UInt8) l⟩
  | _, _ => .bool false
def Ty.isVal : Ty → Bool | .int _ | .str => true | _ => false
theorem isVal_size {t : Ty} (h : t.isVal = true) : t.size = 1 := by cases t <;> first | rfl | cases h
theorem isVal_DR {w : World} {S : Sup} {t : Ty} (h : t.isVal = true) {x : t.T} {cs : List Value} : DR w S t x cs ↔ cs = [t.val x] := by
  cases t <;> first | exact Iff.rfl | cases h
/-- A function changes a row in place. -/
structure InPlace (P : Program) (I : InPl) : Prop where
  enters : Enters P I.f
  val : I.t.isVal = true
  len : ∀ l, (I.g l).length = l.length
  zero : ∀ (a : Option Addr) (cap : Nat) (w : World), Calls P I.f #[.slice a 0 cap] w fun e w' => e = .returned (.tuple #[]) ∧ w' = w
  calls : ∀ (b off cap : Nat) (zs : List I.t.T) (cur : Array Value) (w : World), w.heap[b]? = some (.cells cur I.e (0, 0)) → off + zs.length ≤ cur.size → zs.length ≤ 4611686018427387903 → (∀ (j : Nat) (z : I.t.T), zs[j]? = some z → cur[off + j]? = some (I.t.val z)) →
    Calls P I.f #[.slice (some ⟨b, off, none⟩) zs.length cap] w fun e w' => e = .returned (.tuple #[]) ∧ Left w w' (· = b) ∧
      ∃ cur', w'.heap[b]? = some (.cells cur' I.e (0, 0)) ∧ cur'.size = cur.size ∧ ∀ j, cur'[j]? = if off ≤ j ∧ j < off + zs.length then (I.g zs)[j - off]?.map I.t.val else cur[j]?
def EnvOk (P : Program) (C : Ctx) : Prop := (∀ E, E ∈ C.env → Sound P E) ∧ ∀ I, I ∈ C.inp → InPlace P I
theorem inpOf_mem {l : List InPl} {f : Nat} {E : InPl} (h : inpOf l f = some E) : E ∈ l ∧ E.f = f := by
  induction l with
  | nil => simp [inpOf] at h
  | cons x r ih =>
    unfold inpOf at h
    split at h
    · rename_i hb; cases h; exact ⟨by simp, nbeq_eq hb⟩
    · obtain ⟨h1, h2⟩ := ih h; exact ⟨by simp [h1], h2⟩
theorem entOf_mem {l : List Ent} {f : Nat} {E : Ent} (h : entOf l f = some E) : E ∈ l ∧ E.f = f := by
  induction l with
  | nil => simp [entOf] at h
  | cons e r ih =>
    unfold entOf at h
    split at h
    · rename_i he; cases h; exact ⟨by simp, nbeq_eq he⟩
    · exact ⟨List.mem_cons_of_mem _ (ih h).1, (ih h).2⟩
section
variable {P : Program} {w0 w w' : World} {M0 : Nat → Prop} {S0 S : Sup} {ρ : Rho} {ob : List OE} {C : Ctx} {R : Type} {r : R}
def blocks (ρ : Rho) (ids : List Nat) : List Nat := ids.filterMap fun id => (ρ id).map (·.1)
structure LentAll (ρ : Rho) (ob : List OE) (ids : List Nat) (S : Sup) : Prop where
  row : Lent ρ ob ids S
  box : ∀ id ∈ ids, ∀ y v, look ob id = some y → y.o = .box v → ∀ b c, ρ id = some (b, c) → ∃ e, S b e
theorem LentAll.mono {ids ids' : List Nat} {S' : Sup} (h : LentAll ρ ob ids S') (hs : ∀ id ∈ ids', id ∈ ids) : LentAll ρ ob ids' S' :=
  ⟨fun id hid => h.row id (hs id hid), fun id hid => h.box id (hs id hid)⟩
theorem LentAll.left {l m : List Nat} {S' : Sup} (h : LentAll ρ ob (l ++ m) S') : LentAll ρ ob l S' := h.mono fun id hid => List.mem_append_left _ hid
theorem LentAll.right {l m : List Nat} {S' : Sup} (h : LentAll ρ ob (l ++ m) S') : LentAll ρ ob m S' := h.mono fun id hid => List.mem_append_right _ hid
theorem capAt_loadP {v u : V} (h : capAt ob v = some u) : loadP ob v = some u := by
  cases v <;> simp only [capAt] at h <;> first | exact h | cases h
theorem cap_sound (hok : StOk P w0 M0 S0 ρ S ob w) {S' : Sup} (hS : ∀ b e, S b e → S' b e) {v : V} {val : Value} {t : Ty} {p : Pk t.T} (hv : VR P w ρ S ob v val) (h : capK ob t v = some p) (hL : LentAll ρ ob p.lent S') :
    p.gone = [] ∧ ∃ ad, val = .pointer (some ad) ∧ PlaceR w S' t p.x ad := by
  unfold capK at h
  split at h
  case h_2 => cases h
  case h_1 u hu =>
  split at h
  case h_2 => cases h
  case h_1 x hx =>
  cases h
  refine ⟨rfl, ?_⟩
  obtain ⟨ad, cs, rfl, hc, hcell⟩ := place_at hok hv (capAt_loadP hu)
  refine ⟨ad, rfl, ?_⟩
  have hd := close_sound hok hS hc hx hL.right.row
  have hb : ∃ e, S' ad.block e := by
    cases v with
    | ip t x =>
      obtain ⟨ad', h1, e, _, hs, _⟩ := (hv : ∃ ad', Value.pointer (some ad) = .pointer (some ad') ∧ PlaceR w S t x ad')
      cases h1
      exact ⟨e, hS _ _ hs⟩
    | bp id g q =>
      simp only [capAt] at hu
      split at hu
      case h_2 => cases hu
      case h_1 bv ho =>
      have hv' : Now ob id g (fun o => BpO (ρ id) o q (.pointer (some ad))) ∧ _ := hv
      obtain ⟨y, hy, hyg, hyo, _, b, c, hr, hval⟩ := hv'.1.of ho (by simp)
      cases hval
      exact hL.box id (by simp [V.pid]) y bv hy hyo b c hr
    | ap id g i q =>
      simp only [capAt] at hu
      have hv' : Now ob id g (fun o => ApO (ρ id) o i q (.pointer (some ad))) ∧ _ := hv
      split at hu
      · rename_i e tt xs ho
        obtain ⟨y, hy, hyg, hyo, _, b, c, hr, hval⟩ := hv'.1.of ho (by simp)
        cases hval
        exact ⟨e, hL.row id (by simp [V.pid]) y e tt xs hy hyo b c hr⟩
      · rename_i e tt xs ho
        obtain ⟨y, hy, hyg, hyo, _, b, c, hr, hval⟩ := hv'.1.of ho (by simp)
        cases hval
        have hor := hok.obs id y hy
        rw [hyo] at hor
        simp only [OR, hr] at hor
        exact ⟨e, hS _ _ hor.1⟩
      · cases hu
    | _ => simp [capAt] at hu
  obtain ⟨e, he⟩ := hb
  exact ⟨e, cs, he, hd, hcell⟩
theorem CR_VR {v : V} {val : Value} (h : LR P w ρ S ob v val) : VR P w ρ S ob v val := by
  cases v <;> first | exact h | exact h.elim
theorem caps_sound (hok : StOk P w0 M0 S0 ρ S ob w) {S' : Sup} (hS : ∀ b e, S b e → S' b e) : ∀ {«as» : List Sh} {v : V} {vs : List Value} {p : Pk (Sh.Ts «as»)}, CR P w ρ S ob v vs → capsK ob «as» v = some p → LentAll ρ ob p.lent S' →
    p.gone = [] ∧ ArgsR P w S' «as» p.x vs [] ∧ Sh.outs «as» = []
  | [], v, vs, p, hv, h, hL => by
    cases v <;> simp only [capsK] at h <;> try (cases h; done)
    cases h
    exact ⟨rfl, ⟨hv, rfl⟩, rfl⟩
  | a :: r, v, vs, p, hv, h, hL => by
    cases a <;> cases v <;> simp only [capsK] at h <;> try (cases h; done)
    rename_i c u1 u2
    cases hp : capK ob c u1 with
    | none => simp [hp] at h
    | some p1 =>
      cases hq : capsK ob r u2 with
      | none => simp [hp, hq] at h
      | some q =>
        simp only [hp, hq, Option.some.injEq] at h
        subst h
        obtain ⟨x, us, rfl, h1, h2⟩ := hv
        obtain ⟨_, ad, rfl, hpl⟩ := cap_sound hok hS (CR_VR h1) hp hL.left
        obtain ⟨_, h3, h4⟩ := caps_sound hok hS h2 hq hL.right
        refine ⟨rfl, ⟨_, us, [], [], rfl, rfl, ?_, ?_⟩, h4⟩
        · show SR P w S' (.pi c) _ _ _
          have : Sh.hd (a := .pi c) r (Sh.cons r p1.x q.x) = p1.x := by cases r <;> rfl
          rw [this]
          exact ⟨ad, rfl, hpl, rfl⟩
        · have : Sh.tl (a := .pi c) r (Sh.cons r p1.x q.x) = q.x := by cases r <;> rfl
          rw [this]
          exact h3
theorem hd_cons {a : Sh} {r : List Sh} (x : a.T) (y : Sh.Ts r) : Sh.hd r (Sh.cons r x y) = x := by cases r <;> rfl
theorem tl_cons {a : Sh} {r : List Sh} (x : a.T) (y : Sh.Ts r) : Sh.tl r (Sh.cons r x y) = y := by cases r <;> rfl
theorem VD_SV {S : Sup} {t : Ty} {x : t.T} {v : Value} (h : VD w S t x v) : SV P w S (.d t) x v [] := by
  unfold VD at h
  unfold SV
  by_cases ht : t.isAgg = true
  · rw [if_pos ht] at h
    obtain ⟨cs, rfl, hd⟩ := h
    rw [if_pos (show Sh.isAgg (.d t) = true from ht)]
    exact ⟨cs, rfl, hd, rfl⟩
  · rw [if_neg ht] at h
    rw [if_neg (show ¬ Sh.isAgg (.d t) = true from ht)]
    exact ⟨h, rfl⟩
theorem SV_VD {S : Sup} {t : Ty} {x : t.T} {v : Value} {Ms : List Nat} (h : SV P w S (.d t) x v Ms) : VD w S t x v ∧ Ms = [] := by
  unfold SV at h
  unfold VD
  by_cases ht : t.isAgg = true
  · rw [if_pos (show Sh.isAgg (.d t) = true from ht)] at h
    obtain ⟨cs, rfl, hd, hm⟩ := h
    rw [if_pos ht]
    exact ⟨⟨cs, rfl, hd⟩, hm⟩
  · rw [if_neg (show ¬ Sh.isAgg (.d t) = true from ht)] at h
    rw [if_neg ht]
    exact h
theorem args_sound {S : Sup} : ∀ {n : Nat} {«as» : List Sh} {a : Ty} {x : a.T} {cs : Sh.Ts (capShapes n «as»)} {z : Sh.Ts «as»} {vals us : List Value}, argsOf n «as» a x cs = some z → ArgsD w S a x vals → ArgsR P w S (capShapes n «as») cs us [] →
    ArgsR P w S «as» z (vals ++ us) [] ∧ (Sh.outs (capShapes n «as») = [] → Sh.outs «as» = [])
  | 0, «as», a, x, cs, z, vals, us, h, hv, hc => by
    cases a <;> simp only [argsOf] at h <;> try (cases h; done)
    cases h
    cases vals with
    | nil => exact ⟨hc, id⟩
    | cons => exact hv.elim
  | n + 1, [], a, x, cs, z, vals, us, h, hv, hc => by simp [argsOf] at h
  | n + 1, b :: r, a, x, cs, z, vals, us, h, hv, hc => by
    cases a <;> cases b <;> simp only [argsOf] at h <;> try (cases h; done)
    rename_i a1 a2 u
    cases hx : Ty.cast u x.1 with
    | none => simp [hx] at h
    | some x1 =>
      cases hy : argsOf n r a2 x.2 cs with
      | none => simp [hx, hy] at h
      | some y =>
        simp only [hx, hy, Option.some.injEq] at h
        subst h
        cases vals with
        | nil => exact hv.elim
        | cons v vals =>
          obtain ⟨h1, h2⟩ := hv
          obtain ⟨rfl, rfl⟩ := cast_some hx
          obtain ⟨h3, h4⟩ := args_sound hy h2 hc
          exact ⟨⟨v, vals ++ us, [], [], rfl, rfl, by rw [hd_cons]; exact VD_SV h1, by rw [tl_cons]; exact h3⟩, h4⟩
theorem fn_res {S : Sup} {rt : Ty} : ∀ {rs os : List Sh} {y : Sh.Ts (rs ++ os)} {q : rt.T} {vs : List Value} {M : List Nat}, os = [] → fnOf rt (rs ++ os) y = some q → ArgsR P w S rs (Sh.fstL rs os y) vs M → ∃ v, vs = [v] ∧ VD w S rt q v
  | [], os, y, q, vs, M, ho, h, hv => by subst ho; simp [fnOf] at h
  | [a], os, y, q, vs, M, ho, h, hv => by
    subst ho
    cases a <;> simp only [fnOf, List.append_nil] at h <;> try (cases h; done)
    obtain ⟨rfl, rfl⟩ := cast_some h
    obtain ⟨v, us, M', N', rfl, _, h1, h2⟩ := hv
    obtain ⟨rfl, _⟩ := (h2 : us = [] ∧ N' = [])
    exact ⟨v, rfl, (SV_VD h1).1⟩
  | a :: b :: r, os, y, q, vs, M, ho, h, hv => by
    subst ho
    cases a <;> simp [fnOf] at h
theorem castFn_some {a r a' r' : Ty} {f : a'.T → Option r'.T} {g : a.T → Option r.T} (h : castFn a r f = some g) : ∃ (e : a' = a) (e' : r' = r), e ▸ e' ▸ f = g := by
  unfold castFn at h
  split at h
  · split at h
    · cases h
      exact ⟨Ty.eq_of_eqb ‹_›, Ty.eq_of_eqb ‹_›, rfl⟩
    · cases h
  · cases h
theorem packFn_sound (hEnv : EnvOk P C) (hok : StOk P w0 M0 S0 ρ S ob w) {S' : Sup} (hS : ∀ b e, S b e → S' b e) {v : V} {val : Value} {a rt : Ty} {p : Pk (a.T → Option rt.T)} (hv : VR P w ρ S ob v val)
    (h : packFn C ob a rt v = some p) (hL : LentAll ρ ob p.lent S') : p.gone = [] ∧ FnR P w S' a rt p.x val := by
  unfold packFn at h
  split at h
  · rename_i a' r' f
    cases hc : castFn a rt f with
    | none => simp [hc] at h
    | some g =>
      simp only [hc, Option.some.injEq] at h
      subst h
      obtain ⟨rfl, rfl, rfl⟩ := castFn_some hc
      exact ⟨rfl, FnR_mono hS (Agree.refl S w) hv⟩
  · rename_i f caps
    split at h
    case h_2 => cases h
    case h_1 f0 «as» rs g hent =>
    obtain ⟨hmem, hf⟩ := entOf_mem hent
    have hE := hEnv.1 _ hmem
    simp only at hf
    subst hf
    simp only at h
    split at h
    case h_2 => cases h
    case h_1 q hq =>
    cases h
    obtain ⟨vs, rfl, hcr⟩ := (hv : ∃ vs : List Value, val = .func (.func f0) #[] vs.toArray ∧ CR P w ρ S ob caps vs)
    obtain ⟨_, hcaps, houts⟩ := caps_sound hok hS hcr hq hL
    refine ⟨rfl, f0, vs.toArray, rfl, hE.enters, fun w1 S1 h1 h2 h3 x y hy vals hvals => ?_⟩
    simp only at hy
    cases hz : argsOf («as».length - caps.tupLen) «as» a x q.x with
    | none => simp [hz] at hy
    | some z =>
      simp only [hz] at hy
      cases hg : g z with
      | none => simp [hg] at hy
      | some out =>
        rw [hg] at hy
        simp only [Option.bind_some] at hy
        have hc1 : ArgsR P w1 S1 (capShapes («as».length - caps.tupLen) «as») q.x vs [] := by
          have key : ∀ {l : List Sh} {x : Sh.Ts l} {us : List Value} {Ms : List Nat}, (∀ s ∈ l, ∃ t, s = .pi t) → ArgsR P w S' l x us Ms → ArgsR P w1 S1 l x us Ms := by
            intro l
            induction l with
            | nil => intro x us Ms _ h; exact h
            | cons s l ih =>
              intro x us Ms hp h
              obtain ⟨v, us', M, N, rfl, rfl, q1, q2⟩ := h
              obtain ⟨t, rfl⟩ := hp s (by simp)
              refine ⟨v, us', M, N, rfl, rfl, ?_, ih (fun s hs => hp s (by simp [hs])) q2⟩
              obtain ⟨ad, e1, e2, e3⟩ := (q1 : ∃ ad, [v] = [.pointer (some ad)] ∧ PlaceR w S' t _ ad ∧ M = [])
              exact (⟨ad, e1, PlaceR_mono h1 h2 e2, e3⟩ : ∃ ad, [v] = [.pointer (some ad)] ∧ PlaceR w1 S1 t _ ad ∧ M = [])
          refine key ?_ hcaps
          have hpi : ∀ {l : List Sh} {v : V} {p : Pk (Sh.Ts l)}, capsK ob l v = some p → ∀ s ∈ l, ∃ t, s = .pi t := by
            intro l
            induction l with
            | nil => intro v p _ s hs; simp at hs
            | cons b l ih =>
              intro v p hp s hs
              cases b <;> cases v <;> simp only [capsK] at hp <;> try (cases hp; done)
              rename_i c u1 u2
              cases e1 : capK ob c u1 with
              | none => simp [e1] at hp
              | some p1 =>
                cases e2 : capsK ob l u2 with
                | none => simp [e1, e2] at hp
                | some p2 =>
                  rcases List.mem_cons.1 hs with rfl | hs
                  · exact ⟨c, rfl⟩
                  · exact ih e2 s hs
          exact hpi hq
        obtain ⟨ha, ho⟩ := args_sound hz hvals hc1
        have hcall := hE.calls z out hg w1 S1 (vals ++ vs) [] h3 ha (by simp) (by simp)
        rw [show (vals ++ vs).toArray = vals.toArray ++ vs.toArray by simp] at hcall
        refine hcall.mono fun e w2 hpost => ?_
        obtain ⟨rvs, S2, M, N, he, hl, hsub, hnew, hwi, _, _, hargs, _⟩ := hpost.out
        obtain ⟨v, rfl, hvd⟩ := fn_res (ho houts) hy hargs
        refine ⟨v, S2, he, hvd, hl.mono fun b hb => by simp at hb, hsub, fun b e hs => ?_, hwi⟩
        rcases hnew b e hs with h | h | h
        · exact .inl h
        · simp at h
        · exact .inr h
  · cases h
/-- a value that is no struct has one cell: itself -/
theorem VR_leaf {v : V} {val : Value} (h : VR P w ρ S ob v val) (hb : v.sk ≠ .bad) (ha : v.sk.agg = false) : VC P w ρ S ob v [val] := by
  cases v with
  | un => exact absurd rfl hb
  | ud => exact absurd rfl hb
  | tup a b => exact absurd rfl hb
  | dat t x =>
    have h' : VD w S t x val := h
    unfold VD at h'
    rw [if_neg (by rw [← Ty.sk_agg]; simpa [V.sk] using ha)] at h'
    exact h'
  | st1 a => simp [V.sk, Sk.agg] at ha
  | st a b => simp [V.sk, Sk.agg] at ha
  | _ => exact ⟨val, rfl, h⟩
theorem close_agg : ∀ {t : Ty} {v : V} {x : t.T}, close ob t v = some x → v.sk.agg = t.isAgg := by
  intro t v x h
  cases v with
  | dat u y =>
    have h' : Ty.cast t y = some x := by cases t <;> simpa [close] using h
    obtain ⟨rfl, _⟩ := cast_some h'
    exact Ty.sk_agg u
  | nils => cases t <;> simp [close] at h <;> rfl
  | ref id g off len => cases t <;> first | rfl | simp [close] at h
  | st1 a => cases t <;> first | rfl | simp [close] at h
  | st a b => cases t <;> first | rfl | simp [close] at h
  | _ => cases t <;> simp [close] at h
theorem blocks_append (l m : List Nat) : blocks ρ (l ++ m) = blocks ρ l ++ blocks ρ m := by simp [blocks]
theorem pack_bad {a : Sh} {v : V} {p : Pk a.T} (h : pack C ob a v = some p) : v.sk ≠ .bad ∧ v.sk.agg = a.isAgg := by
  cases a with
  | d t =>
    simp only [pack] at h
    cases hc : close ob t v with
    | none => simp [hc] at h
    | some x => exact ⟨close_ne_bad hc, close_agg hc⟩
  | o e t => cases v <;> first | (simp [pack] at h; done) | exact ⟨by simp [V.sk], rfl⟩
  | one a => cases v <;> first | (simp [pack] at h; done) | exact ⟨by simp [V.sk], rfl⟩
  | pair a b =>
    cases v with
    | dat t x => cases t <;> first | (simp [pack] at h; done) | exact ⟨by simp [V.sk, Ty.sk], rfl⟩
    | st u v => exact ⟨by simp [V.sk], rfl⟩
    | _ => simp [pack] at h
  | fn a r =>
    simp only [pack] at h
    cases v <;> first | (simp [packFn] at h; done) | exact ⟨by simp [V.sk], rfl⟩
  | pi t =>
    simp only [pack] at h
    cases v <;> first | (simp [capK, capAt] at h; done) | exact ⟨by simp [V.sk], rfl⟩
  | pm a => cases v <;> first | (simp [pack] at h; done) | exact ⟨by simp [V.sk], rfl⟩
  | nl => cases v <;> first | (simp [pack] at h; done) | exact ⟨by simp [V.sk], rfl⟩
theorem pack_cells (hEnv : EnvOk P C) (hok : StOk P w0 M0 S0 ρ S ob w) {S' : Sup} (hS : ∀ b e, S b e → S' b e) : ∀ {a : Sh} {v : V} {cs : List Value} {p : Pk a.T}, VC P w ρ S ob v cs → pack C ob a v = some p → LentAll ρ ob p.lent S' →
    SR P w S' a p.x cs (blocks ρ p.gone)
  | .d t, v, cs, p, hv, h, hL => by
    simp only [pack] at h
    cases hc : close ob t v with
    | none => simp [hc] at h
    | some x =>
      simp only [hc, Option.some.injEq] at h
      subst h
      exact ⟨close_sound hok hS hv hc hL.row, rfl⟩
  | .o e t, v, cs, p, hv, h, hL => by
    cases v with
    | nils =>
      simp only [pack, Option.some.injEq] at h
      subst h
      obtain ⟨val, rfl, hl⟩ := hv
      exact ⟨val, rfl, .inl ⟨hl, rfl, rfl⟩⟩
    | ref id g off len =>
      obtain ⟨val, rfl, hl⟩ := hv
      cases off with
      | succ n => simp [pack] at h
      | zero =>
      simp only [pack] at h
      split at h
      case h_2 => cases h
      case h_1 e' u xs ho =>
      split at h
      case isFalse => cases h
      case isTrue he =>
      obtain rfl := nbeq_eq he
      split at h
      case h_2 => cases h
      case h_1 x hx =>
      cases h
      obtain ⟨rfl, rfl⟩ := cast_at hx
      obtain ⟨y, hy, hyg, _, hle, hcase⟩ := ref_at hok (CR_VR hl) (.inl ho)
      have hya : y.o = .arr e' u xs := by
        obtain ⟨q, hq, hqg, hqo⟩ := obAt_live ho (by simp)
        rw [hy] at hq; cases hq; exact hqo
      refine ⟨val, rfl, ?_⟩
      have hxl : List.length (α := u.T) (xs.take len) = len := by rw [List.length_take]; omega
      rcases hcase with ⟨hr, rfl, rfl⟩ | ⟨b, cap, cur, e2, fr, hr, hoc, hxc, hval, hwh, hR⟩
      · exact .inl ⟨rfl, by simp, by simp [blocks, hr]⟩
      · have hor := hok.obs id y hy
        rw [hya] at hor
        simp only [OR, hr] at hor
        obtain ⟨cur', hh, h1, h2, h3, h4⟩ := hor
        rcases hval with rfl | ⟨_, _, hbad, _⟩
        · refine .inr ⟨b, cap, cur', by simp [hxl], by simp [blocks, hr], hh, (by show List.length (α := u.T) (xs.take len) ≤ cap; omega), h2, h3, ?_⟩
          have := (RowsR.less hS h4).take len (len * u.size) (Nat.le_refl _)
          exact this.of_take
        · omega
    | _ => simp [pack] at h
  | .one a, v, cs, p, hv, h, hL => by
    cases v with
    | st1 u =>
      simp only [pack] at h
      split at h
      case h_2 => cases h
      case h_1 q hq =>
      cases h
      exact pack_cells hEnv hok hS (a := a) (v := u) hv hq hL
    | _ => simp [pack] at h
  | .pair a b, v, cs, p, hv, h, hL => by
    cases v with
    | st u1 u2 =>
      simp only [pack] at h
      split at h
      case h_2 => cases h
      case h_1 p1 hp1 =>
      split at h
      case h_2 => cases h
      case h_1 p2 hp2 =>
      cases h
      obtain ⟨c, d, rfl, h1, h2⟩ := hv
      exact ⟨c, d, _, _, rfl, blocks_append _ _, pack_cells hEnv hok hS h1 hp1 hL.left, pack_cells hEnv hok hS h2 hp2 hL.right⟩
    | dat t x =>
      cases t with
      | pair t u =>
        simp only [pack] at h
        split at h
        case h_2 => cases h
        case h_1 p1 hp1 =>
        split at h
        case h_2 => cases h
        case h_1 p2 hp2 =>
        cases h
        obtain ⟨c, d, rfl, h1, h2⟩ := (hv : ∃ c d, cs = c ++ d ∧ DR w S t x.1 c ∧ DR w S u x.2 d)
        exact ⟨c, d, _, _, rfl, blocks_append _ _, pack_cells hEnv hok hS (v := .dat t x.1) h1 hp1 hL.left, pack_cells hEnv hok hS (v := .dat u x.2) h2 hp2 hL.right⟩
      | _ => simp [pack] at h
    | _ => simp [pack] at h
  | .fn a r, v, cs, p, hv, h, hL => by
    simp only [pack] at h
    split at h
    case h_2 => cases h
    case h_1 q hq =>
    cases h
    have hl : ∃ val, cs = [val] ∧ VR P w ρ S ob v val := by
      cases v <;> first | (simp [packFn] at hq; done) | (obtain ⟨val, rfl, hl⟩ := hv; exact ⟨val, rfl, CR_VR hl⟩)
    obtain ⟨val, rfl, hvr⟩ := hl
    obtain ⟨hg, hf⟩ := packFn_sound hEnv hok hS hvr hq hL
    exact ⟨val, rfl, hf, by rw [hg]; rfl⟩
  | .pi t, v, cs, p, hv, h, hL => by
    simp only [pack] at h
    split at h
    case h_2 => cases h
    case h_1 q hq =>
    cases h
    have hl : ∃ val, cs = [val] ∧ VR P w ρ S ob v val := by
      cases v <;> first | (simp [capK, capAt] at hq; done) | (obtain ⟨val, rfl, hl⟩ := hv; exact ⟨val, rfl, CR_VR hl⟩)
    obtain ⟨val, rfl, hvr⟩ := hl
    obtain ⟨hg, ad, rfl, hp⟩ := cap_sound hok hS hvr hq hL
    exact ⟨ad, rfl, hp, by rw [hg]; rfl⟩
  | .nl, v, cs, p, hv, h, hL => by
    cases v with
    | nils =>
      simp only [pack, Option.some.injEq] at h
      subst h
      obtain ⟨val, rfl, hl⟩ := hv
      have hl' : val = .slice none 0 0 := hl
      subst hl'
      exact ⟨rfl, rfl⟩
    | _ => simp [pack] at h
  | .pm a, v, cs, p, hv, h, hL => by
    cases v with
    | bp id g q =>
      cases q with
      | cons c q => simp [pack] at h
      | nil =>
      simp only [pack] at h
      split at h
      case h_2 => cases h
      case h_1 bv ho =>
      split at h
      case h_2 => cases h
      case h_1 q hq =>
      cases h
      obtain ⟨val, rfl, hl⟩ := hv
      have hl' : Now ob id g (fun o => BpO (ρ id) o [] val) ∧ _ := hl
      obtain ⟨y, hy, hyg, hyo, _, b, c, hr, rfl⟩ := hl'.1.of ho (by simp)
      have hor := hok.obs id y hy
      rw [hyo] at hor
      obtain ⟨b', c', cur, e, hr', hh, hvc⟩ := hor
      rw [hr] at hr'
      cases hr'
      have hoff : Sk.off [] bv.sk = 0 := by cases bv.sk <;> rfl
      exact ⟨b, e, cur, blocks ρ q.gone, by rw [hoff], by simp [blocks, hr], hh, pack_cells hEnv hok hS hvc hq hL⟩
    | _ => simp [pack] at h
theorem pack_sound (hEnv : EnvOk P C) (hok : StOk P w0 M0 S0 ρ S ob w) {S' : Sup} (hS : ∀ b e, S b e → S' b e) {a : Sh} {v : V} {val : Value} {p : Pk a.T} (hv : VR P w ρ S ob v val) (h : pack C ob a v = some p) (hL : LentAll ρ ob p.lent S') :
    SV P w S' a p.x val (blocks ρ p.gone) := by
  obtain ⟨hb, hag⟩ := pack_bad h
  unfold SV
  by_cases ha : a.isAgg = true
  · rw [if_pos ha]
    obtain ⟨hc, hagg⟩ := VR_cells hv hb
    obtain ⟨cs, rfl⟩ := hagg.2 (by rw [hag, ha])
    exact ⟨cs, rfl, pack_cells hEnv hok hS hc h hL⟩
  · rw [if_neg ha]
    exact pack_cells hEnv hok hS (VR_leaf hv hb (by rw [hag]; simpa using ha)) h hL
def VRs (P : Program) (w : World) (ρ : Rho) (S : Sup) (ob : List OE) : List V → List Value → Prop
  | [], vs => vs = []
  | v :: r, vs => ∃ x xs, vs = x :: xs ∧ VR P w ρ S ob v x ∧ VRs P w ρ S ob r xs
theorem packs_sound (hEnv : EnvOk P C) (hok : StOk P w0 M0 S0 ρ S ob w) {S' : Sup} (hS : ∀ b e, S b e → S' b e) : ∀ {«as» : List Sh} {vs : List V} {vals : List Value} {p : Pk (Sh.Ts «as»)}, VRs P w ρ S ob vs vals → packs C ob «as» vs = some p → LentAll ρ ob p.lent S' →
    ArgsR P w S' «as» p.x vals (blocks ρ p.gone)
  | [], [], vals, p, hv, h, hL => by
    simp only [packs, Option.some.injEq] at h
    subst h
    exact ⟨hv, rfl⟩
  | [], _ :: _, vals, p, hv, h, hL => by simp [packs] at h
  | _ :: _, [], vals, p, hv, h, hL => by simp [packs] at h
  | a :: «as», v :: vs, vals, p, hv, h, hL => by
    simp only [packs] at h
    split at h
    case h_2 => cases h
    case h_1 p1 hp1 =>
    split at h
    case h_2 => cases h
    case h_1 p2 hp2 =>
    cases h
    obtain ⟨x, xs, rfl, h1, h2⟩ := hv
    exact ⟨x, xs, _, _, rfl, blocks_append _ _, by rw [hd_cons]; exact pack_sound hEnv hok hS h1 hp1 hL.left, by rw [tl_cons]; exact packs_sound hEnv hok hS h2 hp2 hL.right⟩
end
end Go.Ab

namespace Go.Ab
set_option linter.unusedVariables false
set_option linter.unusedSimpArgs false

/-! ### 39. What comes back, laid out -/
abbrev Lay := List (OE × Option (Nat × Nat))
def layBlocks (l : Lay) : List Nat := l.filterMap fun x => x.2.map (·.1)
def Laid (ρ : Rho) (ob : List OE) (l : Lay) : Prop := ∀ x ∈ l, look ob x.1.id = some x.1 ∧ ρ x.1.id = x.2
theorem Laid.left {ρ : Rho} {ob : List OE} {l m : Lay} (h : Laid ρ ob (l ++ m)) : Laid ρ ob l := fun x hx => h x (List.mem_append_left _ hx)
theorem Laid.right {ρ : Rho} {ob : List OE} {l m : Lay} (h : Laid ρ ob (l ++ m)) : Laid ρ ob m := fun x hx => h x (List.mem_append_right _ hx)
structure Lays (P : Program) (w : World) (S : Sup) (ob : List OE) (ρ : Rho) (gone : List Nat) (u : List OE) (Ms : List Nat) (F : Rho → List OE → Prop) (l : Lay) : Prop where
  names : l.map (·.1) = u
  blk : layBlocks l = Ms
  all : ∀ ρ' ob', Laid ρ' ob' l → (∀ x ∈ l, OR P w ρ' S ob' x.1.id x.1.o) ∧ F ρ' ob'
  live : ∀ x ∈ l, x.1.o.live
  gen : ∀ x ∈ l, x.1.g = genOf ob x.1.id ∨ (∃ v0 v, look ob x.1.id = some ⟨x.1.id, x.1.g, .box v0⟩ ∧ x.1.o = .box v ∧ v0.sk = v.sk ∧ ρ x.1.id = x.2 ∧ x.1.id ∈ gone)
def Sh.sk : Sh → Sk | .d t => t.sk | .one a => .one a.sk | .pair a b => .pair a.sk b.sk | _ => .leaf
theorem close_sk {ob : List OE} : ∀ {v : V} {t : Ty} {x : t.T}, close ob t v = some x → v.sk = t.sk := by
  intro v
  induction v with
  | dat u y =>
    intro t x h
    have h' : Ty.cast t y = some x := by cases t <;> simpa [close] using h
    obtain ⟨rfl, _⟩ := cast_some h'
    rfl
  | nils => intro t x h; cases t <;> first | rfl | simp [close] at h
  | ref id g off len => intro t x h; cases t <;> first | rfl | simp [close] at h
  | st1 a ih =>
    intro t x h
    cases t <;> simp only [close] at h <;> try (cases h; done)
    rename_i t
    have := ih (t := t) h
    simp [V.sk, Ty.sk, this]
  | st a b iha ihb =>
    intro t x h
    cases t <;> simp only [close] at h <;> try (cases h; done)
    rename_i t u
    cases h1 : close ob t a with
    | none => simp [h1] at h
    | some y =>
      cases h2 : close ob u b with
      | none => simp [h1, h2] at h
      | some z => simp [V.sk, Ty.sk, iha h1, ihb h2]
  | _ => intro t x h; cases t <;> simp [close] at h
theorem pack_sk {C : Ctx} {ob : List OE} : ∀ {a : Sh} {v : V} {p : Pk a.T}, pack C ob a v = some p → v.sk = a.sk
  | .d t, v, p, h => by
    simp only [pack] at h
    cases hc : close ob t v with
    | none => simp [hc] at h
    | some x => exact close_sk hc
  | .o e t, v, p, h => by cases v <;> first | rfl | simp [pack] at h
  | .one a, v, p, h => by
    cases v <;> first | (simp [pack] at h; done) | skip
    rename_i u
    simp only [pack] at h
    split at h
    case h_2 => cases h
    case h_1 q hq => simp [V.sk, Sh.sk, pack_sk hq]
  | .pair a b, v, p, h => by
    cases v with
    | st u1 u2 =>
      simp only [pack] at h
      split at h
      case h_2 => cases h
      case h_1 p1 hp1 =>
      split at h
      case h_2 => cases h
      case h_1 p2 hp2 => simp [V.sk, Sh.sk, pack_sk hp1, pack_sk hp2]
    | dat t x =>
      cases t with
      | pair t u =>
        simp only [pack] at h
        split at h
        case h_2 => cases h
        case h_1 p1 hp1 =>
        split at h
        case h_2 => cases h
        case h_1 p2 hp2 =>
          have h1 := pack_sk hp1
          have h2 := pack_sk hp2
          simp only [V.sk] at h1 h2
          simp [V.sk, Ty.sk, Sh.sk, h1, h2]
      | _ => simp [pack] at h
    | _ => simp [pack] at h
  | .fn a r, v, p, h => by
    simp only [pack] at h
    cases v <;> first | rfl | (simp [packFn] at h; done)
  | .pi t, v, p, h => by
    simp only [pack] at h
    cases v <;> first | rfl | (simp [capK, capAt] at h; done)
  | .pm a, v, p, h => by cases v <;> first | rfl | (simp [pack] at h; done)
  | .nl, v, p, h => by cases v <;> first | rfl | (simp [pack] at h; done)
theorem unpack_sk {ob : List OE} {h : Nat → Nat} : ∀ {a : Sh} {x : a.T} {k : Nat}, a.plain = true → (unpack ob h a x k).v.sk = a.sk
  | .d t, x, k, hp => rfl
  | .o e t, x, k, hp => rfl
  | .one a, x, k, hp => by simp only [unpack]; rw [sk_mk1, unpack_sk (a := a) hp]; rfl
  | .pair a b, x, k, hp => by
    simp only [Sh.plain, Bool.and_eq_true] at hp
    simp only [unpack]; rw [sk_mkp, unpack_sk (a := a) hp.1, unpack_sk (a := b) hp.2]; rfl
  | .fn _ _, x, k, hp => by simp [Sh.plain] at hp
  | .pi _, x, k, hp => by simp [Sh.plain] at hp
  | .pm _, x, k, hp => by simp [Sh.plain] at hp
  | .nl, x, k, hp => by simp [Sh.plain] at hp
theorem Sh.sk_agg {a : Sh} : a.sk.agg = a.isAgg := by
  cases a with
  | d t => exact Ty.sk_agg t
  | _ => rfl
theorem Sh.sk_ne_bad (a : Sh) : a.sk ≠ .bad := by
  cases a with
  | d t => exact Ty.sk_ne_bad t
  | _ => simp [Sh.sk]
section
variable {P : Program} {w0 w w' : World} {M0 : Nat → Prop} {S0 S : Sup} {ρ : Rho} {ob : List OE} {C : Ctx} {R : Type} {r : R} {gone : List Nat}
theorem Lays.nil {F : Rho → List OE → Prop} (h : ∀ ρ' ob', F ρ' ob') : Lays P w S ob ρ gone [] [] F [] :=
  ⟨rfl, rfl, fun ρ' ob' _ => ⟨fun x hx => by simp at hx, h ρ' ob'⟩, fun x hx => by simp at hx, fun x hx => by simp at hx⟩
theorem Lays.append {u1 u2 : List OE} {M1 M2 : List Nat} {F G : Rho → List OE → Prop} {l m : Lay} (h1 : Lays P w S ob ρ gone u1 M1 F l) (h2 : Lays P w S ob ρ gone u2 M2 G m) :
    Lays P w S ob ρ gone (u1 ++ u2) (M1 ++ M2) (fun ρ' ob' => F ρ' ob' ∧ G ρ' ob') (l ++ m) := by
  refine ⟨by rw [List.map_append, h1.names, h2.names], by rw [← h1.blk, ← h2.blk]; simp [layBlocks], fun ρ' ob' hL => ?_, fun x hx => ?_, fun x hx => ?_⟩
  · have q1 := h1.all ρ' ob' hL.left
    have q2 := h2.all ρ' ob' hL.right
    refine ⟨fun x hx => ?_, q1.2, q2.2⟩
    rcases List.mem_append.1 hx with h | h
    · exact q1.1 x h
    · exact q2.1 x h
  · rcases List.mem_append.1 hx with h | h
    · exact h1.live x h
    · exact h2.live x h
  · rcases List.mem_append.1 hx with h | h
    · exact h1.gen x h
    · exact h2.gen x h
theorem Lays.mono {u : List OE} {M : List Nat} {F G : Rho → List OE → Prop} {l : Lay} (h : Lays P w S ob ρ gone u M F l) (hFG : ∀ ρ' ob', Laid ρ' ob' l → F ρ' ob' → G ρ' ob') : Lays P w S ob ρ gone u M G l :=
  ⟨h.names, h.blk, fun ρ' ob' hL => ⟨(h.all ρ' ob' hL).1, hFG ρ' ob' hL (h.all ρ' ob' hL).2⟩, h.live, h.gen⟩
theorem unpack_sound {h : Nat → Nat} : ∀ {a : Sh} {x : a.T} {k : Nat} {cs : List Value} {Ms : List Nat}, a.plain = true → SR P w S a x cs Ms →
    ∃ l, Lays P w S ob ρ gone (unpack ob h a x k).u Ms (fun ρ' ob' => VC P w ρ' S ob' (unpack ob h a x k).v cs) l
  | .d t, x, k, cs, Ms, hp, hs => by
    obtain ⟨hd, rfl⟩ := hs
    exact ⟨[], Lays.nil fun _ _ => hd⟩
  | .o e t, x, k, cs, Ms, hp, hs => by
    obtain ⟨v, rfl, ho⟩ := hs
    rcases ho with ⟨rfl, rfl, rfl⟩ | ⟨b, cap, cur, rfl, rfl, hh, h1, h2, h3, h4⟩
    · refine ⟨[(⟨h k, genOf ob (h k), .arr e t []⟩, none)], rfl, rfl, fun ρ' ob' hL => ⟨fun y hy => ?_, ?_⟩, fun y hy => ?_, fun y hy => ?_⟩
      · simp only [List.mem_singleton] at hy
        subst hy
        have := (hL _ (List.mem_singleton.2 rfl)).2
        simp only [OR]
        simp only at this
        rw [this]
        trivial
      · obtain ⟨q1, q2⟩ := hL _ (List.mem_singleton.2 rfl)
        refine ⟨_, rfl, ⟨_, q1, Nat.le_refl _, fun _ => ?_⟩, _, _, _, rfl⟩
        simp only [RefO]
        simp only at q2
        rw [q2]
        exact ⟨by simp, trivial⟩
      · simp only [List.mem_singleton] at hy; subst hy; trivial
      · simp only [List.mem_singleton] at hy; subst hy; exact .inl rfl
    · refine ⟨[(⟨h k, genOf ob (h k), .arr e t x⟩, some (b, cap))], rfl, rfl, fun ρ' ob' hL => ⟨fun y hy => ?_, ?_⟩, fun y hy => ?_, fun y hy => ?_⟩
      · simp only [List.mem_singleton] at hy
        subst hy
        have := (hL _ (List.mem_singleton.2 rfl)).2
        simp only [OR]
        simp only at this
        rw [this]
        exact ⟨cur, hh, h1, h2, h3, h4⟩
      · obtain ⟨q1, q2⟩ := hL _ (List.mem_singleton.2 rfl)
        refine ⟨_, rfl, ⟨_, q1, Nat.le_refl _, fun _ => ?_⟩, _, _, _, rfl⟩
        simp only [RefO]
        simp only at q2
        rw [q2]
        exact ⟨by simp, Nat.zero_le _, .inl (by simp)⟩
      · simp only [List.mem_singleton] at hy; subst hy; trivial
      · simp only [List.mem_singleton] at hy; subst hy; exact .inl rfl
  | .one a, x, k, cs, Ms, hp, hs => by
    obtain ⟨l, hl⟩ := unpack_sound (a := a) (x := x) (k := k) hp hs
    exact ⟨l, hl.mono fun ρ' ob' _ hv => VC_mk1 hv⟩
  | .pair a b, x, k, cs, Ms, hp, hs => by
    simp only [Sh.plain, Bool.and_eq_true] at hp
    obtain ⟨c, d, M, N, rfl, rfl, h1, h2⟩ := hs
    obtain ⟨l, hl⟩ := unpack_sound (a := a) (x := x.1) (k := k) hp.1 h1
    obtain ⟨m, hm⟩ := unpack_sound (a := b) (x := x.2) (k := (unpack ob h a x.1 k).k) hp.2 h2
    exact ⟨l ++ m, (hl.append hm).mono fun ρ' ob' _ hv => VC_mkp hv.1 hv.2⟩
  | .fn _ _, x, k, cs, Ms, hp, hs => by simp [Sh.plain] at hp
  | .pi _, x, k, cs, Ms, hp, hs => by simp [Sh.plain] at hp
  | .pm _, x, k, cs, Ms, hp, hs => by simp [Sh.plain] at hp
  | .nl, x, k, cs, Ms, hp, hs => by simp [Sh.plain] at hp
theorem unpack_one {h : Nat → Nat} {a : Sh} {x : a.T} {k : Nat} {v : Value} {Ms : List Nat} (hp : a.plain = true) (hs : SV P w S a x v Ms) :
    ∃ l, Lays P w S ob ρ gone (unpack ob h a x k).u Ms (fun ρ' ob' => VR P w ρ' S ob' (unpack ob h a x k).v v) l := by
  have hsk := unpack_sk (ob := ob) (h := h) (a := a) (x := x) (k := k) hp
  unfold SV at hs
  by_cases ha : a.isAgg = true
  · rw [if_pos ha] at hs
    obtain ⟨cs, rfl, hc⟩ := hs
    obtain ⟨l, hl⟩ := unpack_sound (h := h) (k := k) (ob := ob) (ρ := ρ) (gone := gone) hp hc
    refine ⟨l, hl.mono fun ρ' ob' _ hv => ?_⟩
    have := VC_agg hv (by rw [hsk, Sh.sk_agg, ha])
    simpa using this
  · rw [if_neg ha] at hs
    obtain ⟨l, hl⟩ := unpack_sound (h := h) (k := k) (ob := ob) (ρ := ρ) (gone := gone) hp hs
    refine ⟨l, hl.mono fun ρ' ob' _ hv => ?_⟩
    obtain ⟨val, hval, hr⟩ := VC_leaf hv (by rw [hsk, Sh.sk_agg]; simpa using ha)
    cases hval
    exact hr
theorem TR_of {v : V} {val : Value} (h : VR P w ρ S ob v val) (hb : v.sk ≠ .bad) : TR P w ρ S ob v [val] := by
  cases v with
  | tup a b => exact absurd rfl hb
  | un => exact absurd rfl hb
  | ud => exact absurd rfl hb
  | _ => exact ⟨val, rfl, h⟩
theorem VRn_of {v : V} {val : Value} (h : VR P w ρ S ob v val) (hb : v.sk ≠ .bad) : VRn P w ρ S ob v val := by
  cases v with
  | tup a b => exact absurd rfl hb
  | _ => exact h
theorem unpacks_TR {h : Nat → Nat} : ∀ {rs : List Sh} {y : Sh.Ts rs} {k : Nat} {vs : List Value} {Ms : List Nat}, plainL rs = true → rs ≠ [] → ArgsR P w S rs y vs Ms →
    ∃ l, Lays P w S ob ρ gone (unpacks ob h rs y k).u Ms (fun ρ' ob' => TR P w ρ' S ob' (unpacks ob h rs y k).v vs ∧ (∀ v, vs = [v] → VR P w ρ' S ob' (unpacks ob h rs y k).v v) ∧ (2 ≤ rs.length → ∃ a b, (unpacks ob h rs y k).v = .tup a b ∧ 2 ≤ vs.length)) l
  | [], y, k, vs, Ms, hp, hne, hs => absurd rfl hne
  | [a], y, k, vs, Ms, hp, hne, hs => by
    simp only [plainL, Bool.and_true] at hp
    obtain ⟨v, us, M, N, rfl, rfl, h1, h2⟩ := hs
    obtain ⟨rfl, rfl⟩ := (h2 : us = [] ∧ N = [])
    obtain ⟨l, hl⟩ := unpack_one (h := h) (k := k) (ob := ob) (ρ := ρ) (gone := gone) hp h1
    have hb : (unpack ob h a y k).v.sk ≠ .bad := by rw [unpack_sk hp]; exact Sh.sk_ne_bad a
    refine ⟨l, ?_⟩
    rw [List.append_nil]
    refine hl.mono fun ρ' ob' _ hv => ⟨TR_of hv hb, fun v' hv' => by cases hv'; exact hv, fun h => by simp at h⟩
  | a :: b :: r, y, k, vs, Ms, hp, hne, hs => by
    rw [plainL, Bool.and_eq_true] at hp
    obtain ⟨v, us, M, N, rfl, rfl, h1, h2⟩ := hs
    obtain ⟨l, hl⟩ := unpack_one (h := h) (k := k) (ob := ob) (ρ := ρ) (gone := gone) hp.1 h1
    obtain ⟨m, hm⟩ := unpacks_TR (rs := b :: r) (y := y.2) (k := (unpack ob h a y.1 k).k) hp.2 (by simp) h2
    have hb : (unpack ob h a y.1 k).v.sk ≠ .bad := by rw [unpack_sk hp.1]; exact Sh.sk_ne_bad a
    have hus : 1 ≤ us.length := by
      obtain ⟨v', us', _, _, rfl, _⟩ := h2
      simp
    refine ⟨l ++ m, (hl.append hm).mono fun ρ' ob' _ hv => ⟨⟨v, us, rfl, VRn_of hv.1 hb, hv.2.1⟩, fun v' hv' => ?_, fun _ => ⟨_, _, rfl, by simp; omega⟩⟩⟩
    rw [List.cons.injEq] at hv'
    rw [hv'.2] at hus
    simp at hus
theorem unpacks_sound {h : Nat → Nat} {rs : List Sh} {y : Sh.Ts rs} {k : Nat} {vs : List Value} {Ms : List Nat} (hp : plainL rs = true) (hs : ArgsR P w S rs y vs Ms) :
    ∃ l, Lays P w S ob ρ gone (unpacks ob h rs y k).u Ms (fun ρ' ob' => VR P w ρ' S ob' (unpacks ob h rs y k).v (retOf vs)) l := by
  cases rs with
  | nil =>
    obtain ⟨rfl, rfl⟩ := (hs : vs = [] ∧ Ms = [])
    exact ⟨[], Lays.nil fun _ _ => trivial⟩
  | cons a r =>
    obtain ⟨l, hl⟩ := unpacks_TR (h := h) (k := k) (ob := ob) (ρ := ρ) (gone := gone) hp (by simp) hs
    refine ⟨l, hl.mono fun ρ' ob' _ hv => ?_⟩
    obtain ⟨h1, h2, h3⟩ := hv
    cases r with
    | nil =>
      obtain ⟨v, us, M, N, rfl, rfl, q1, q2⟩ := hs
      obtain ⟨rfl, rfl⟩ := (q2 : us = [] ∧ N = [])
      exact h2 v rfl
    | cons b r =>
      obtain ⟨a', b', he, hl2⟩ := h3 (by simp)
      rw [he] at h1 ⊢
      have : retOf vs = .tuple vs.toArray := by
        match vs, hl2 with
        | _ :: _ :: _, _ => rfl
      exact ⟨vs, this, h1⟩
end
end Go.Ab

namespace Go.Ab
set_option linter.unusedVariables false
set_option linter.unusedSimpArgs false

/-! ### 40. Looking up -/
theorem nodupb_nodup : ∀ {l : List Nat}, nodupb l = true → l.Nodup
  | [], _ => List.nodup_nil
  | m :: r, h => by
    unfold nodupb at h
    split at h
    · cases h
    · rename_i hm
      exact List.nodup_cons.2 ⟨fun hi => hm (memb_mem.2 hi), nodupb_nodup h⟩
theorem apart_spec : ∀ {l m : List Nat}, apart l m = true → ∀ id ∈ l, id ∉ m
  | l, [], _, id, _ => by simp
  | l, k :: r, h, id, hid => by
    unfold apart at h
    split at h
    · cases h
    · rename_i hm
      intro hi
      rcases List.mem_cons.1 hi with rfl | hi
      · exact hm (memb_mem.2 hid)
      · exact apart_spec h id hid hi
theorem idsOf_map : ∀ (l : List OE), idsOf l = l.map (·.id)
  | [] => rfl
  | x :: r => by simp [idsOf, idsOf_map r]
theorem updAll_other {id : Nat} : ∀ {us l : List OE}, id ∉ us.map (·.id) → look (updAll l us) id = look l id
  | [], l, _ => rfl
  | u :: us, l, h => by
    simp only [List.map_cons, List.mem_cons, not_or] at h
    rw [updAll, updAll_other h.2, look_setOb, if_neg (fun e => h.1 e.symm)]
theorem updAll_mem : ∀ {us l : List OE} {x : OE}, (us.map (·.id)).Nodup → x ∈ us → look (updAll l us) x.id = some x
  | u :: us, l, x, hn, hx => by
    simp only [List.map_cons, List.nodup_cons] at hn
    rcases List.mem_cons.1 hx with rfl | hx
    · rw [updAll, updAll_other hn.1, look_setOb, if_pos rfl]
    · rw [updAll]; exact updAll_mem hn.2 hx
theorem frz_mem {ob : List OE} {all : Bool} {es : List Nat} : ∀ {ids : List Nat} {x : OE}, x ∈ frz ob all es ids ↔ ∃ e t xs, x.o = .fz e t xs ∧ x.id ∈ ids ∧ look ob x.id = some ⟨x.id, x.g, .arr e t xs⟩ ∧ (all || memb e es) = true
  | [], x => by simp [frz]
  | id :: r, x => by
    have step : frz ob all es (id :: r) = frz ob all es r ∨ (∃ g e t xs, look ob id = some ⟨id, g, .arr e t xs⟩ ∧ (all || memb e es) = true ∧ id ∉ r ∧ frz ob all es (id :: r) = ⟨id, g, .fz e t xs⟩ :: frz ob all es r) := by
      by_cases hm : memb id r = true
      · left; simp [frz, hm]
      · cases hl : look ob id with
        | none => left; simp [frz, hm, hl]
        | some y =>
          obtain ⟨yi, yg, yo⟩ := y
          have hi := look_id hl
          simp only at hi
          subst hi
          cases yo with
          | arr e t xs =>
            by_cases hc : (all || memb e es) = true
            · right; exact ⟨yg, e, t, xs, rfl, hc, fun hi => hm (memb_mem.2 hi), by simp only [frz, hl, if_neg hm, if_pos hc]⟩
            · left; simp only [frz, hl, if_neg hm, if_neg hc]
          | dead => left; simp [frz, hm, hl]
          | box v => left; simp [frz, hm, hl]
          | fz e t xs => left; simp [frz, hm, hl]
    rcases step with h | ⟨g, e, t, xs, hl, hc, hnr, h⟩
    · rw [h, frz_mem]
      constructor
      · rintro ⟨e, t, xs, h1, h2, h3⟩
        exact ⟨e, t, xs, h1, List.mem_cons_of_mem _ h2, h3⟩
      · rintro ⟨e, t, xs, h1, h2, h3, h4⟩
        rcases List.mem_cons.1 h2 with h2 | h2
        · -- the head was skipped: it lies in r
          refine ⟨e, t, xs, h1, ?_, h3, h4⟩
          by_cases hm : memb id r = true
          · rw [h2]; exact memb_mem.1 hm
          · exfalso
            rw [h2] at h3
            have : frz ob all es (id :: r) = ⟨id, x.g, .fz e t xs⟩ :: frz ob all es r := by simp only [frz, h3, if_neg hm, if_pos h4]
            rw [this] at h
            have := congrArg List.length h
            simp at this
        · exact ⟨e, t, xs, h1, h2, h3, h4⟩
    · rw [h, List.mem_cons, frz_mem]
      constructor
      · rintro (rfl | ⟨e', t', xs', h1, h2, h3⟩)
        · exact ⟨e, t, xs, rfl, by simp, hl, hc⟩
        · exact ⟨e', t', xs', h1, List.mem_cons_of_mem _ h2, h3⟩
      · rintro ⟨e', t', xs', h1, h2, h3, h4⟩
        rcases List.mem_cons.1 h2 with h5 | h2
        · left
          rw [h5, hl] at h3
          cases x
          simp only at h1 h5 h3
          subst h1
          subst h5
          cases h3
          rfl
        · exact .inr ⟨e', t', xs', h1, h2, h3, h4⟩
theorem frz_nodup {ob : List OE} {all : Bool} {es : List Nat} : ∀ {ids : List Nat}, ((frz ob all es ids).map (·.id)).Nodup
  | [] => by simp [frz]
  | id :: r => by
    by_cases hm : memb id r = true
    · simp only [frz, if_pos hm]; exact frz_nodup
    · simp only [frz, if_neg hm]
      split
      · rename_i yi g e t xs hl
        split
        · rw [List.map_cons, List.nodup_cons]
          refine ⟨fun hi => ?_, frz_nodup⟩
          obtain ⟨x, hx, hxi⟩ := List.mem_map.1 hi
          obtain ⟨e', t', xs', _, h2, _⟩ := frz_mem.1 hx
          simp only at hxi
          rw [hxi] at h2
          exact hm (memb_mem.2 h2)
        · exact frz_nodup
      · exact frz_nodup
theorem kill_mem {ob : List OE} : ∀ {ids : List Nat} {x : OE}, x ∈ kill ob ids ↔ x.o = .dead ∧ x.id ∈ ids ∧ ∃ e t xs, look ob x.id = some ⟨x.id, x.g, .arr e t xs⟩
  | [], x => by simp [kill]
  | id :: r, x => by
    unfold kill
    split
    · rename_i yi g e t xs hl
      have hi := look_id hl
      simp only at hi
      subst hi
      rw [List.mem_cons, kill_mem]
      constructor
      · rintro (rfl | ⟨h1, h2, h3⟩)
        · exact ⟨rfl, by simp, e, t, xs, hl⟩
        · exact ⟨h1, List.mem_cons_of_mem _ h2, h3⟩
      · rintro ⟨h1, h2, e', t', xs', h3⟩
        rcases List.mem_cons.1 h2 with h5 | h2
        · left
          rw [h5, hl] at h3
          cases x
          simp only at h1 h5 h3
          subst h1
          subst h5
          cases h3
          rfl
        · exact .inr ⟨h1, h2, e', t', xs', h3⟩
    · rename_i hno
      rw [kill_mem]
      constructor
      · rintro ⟨h1, h2, h3⟩
        exact ⟨h1, List.mem_cons_of_mem _ h2, h3⟩
      · rintro ⟨h1, h2, e', t', xs', h3⟩
        rcases List.mem_cons.1 h2 with h2 | h2
        · rw [h2] at h3; exact absurd h3 (hno _ _ _ _ _)
        · exact ⟨h1, h2, e', t', xs', h3⟩
theorem kill_nodup {ob : List OE} : ∀ {ids : List Nat}, ids.Nodup → ((kill ob ids).map (·.id)).Nodup
  | [], _ => by simp [kill]
  | id :: r, h => by
    rw [List.nodup_cons] at h
    unfold kill
    split
    · rw [List.map_cons, List.nodup_cons]
      refine ⟨fun hi => ?_, kill_nodup h.2⟩
      obtain ⟨x, hx, hxi⟩ := List.mem_map.1 hi
      simp only at hxi
      have := (kill_mem.1 hx).2.1
      rw [hxi] at this
      exact h.1 this
    · exact kill_nodup h.2

/-! ### 41. The names' blocks behind a call -/
def layRho : Lay → Rho → Rho
  | [], ρ => ρ
  | x :: r, ρ => fun id => if x.1.id = id then x.2 else layRho r ρ id
theorem layRho_mem : ∀ {l : Lay} {ρ : Rho} {x : OE × Option (Nat × Nat)}, (l.map (·.1.id)).Nodup → x ∈ l → layRho l ρ x.1.id = x.2
  | y :: r, ρ, x, hn, hx => by
    simp only [List.map_cons, List.nodup_cons] at hn
    rcases List.mem_cons.1 hx with rfl | hx
    · simp [layRho]
    · have : y.1.id ≠ x.1.id := fun e => hn.1 (by rw [e]; exact List.mem_map.2 ⟨x, hx, rfl⟩)
      simp only [layRho, if_neg this]
      exact layRho_mem hn.2 hx
theorem layRho_other : ∀ {l : Lay} {ρ : Rho} {id : Nat}, id ∉ l.map (·.1.id) → layRho l ρ id = ρ id
  | [], ρ, id, _ => rfl
  | y :: r, ρ, id, h => by
    simp only [List.map_cons, List.mem_cons, not_or] at h
    have hne : ¬ y.1.id = id := fun e => h.1 e.symm
    simp only [layRho, if_neg hne]
    exact layRho_other h.2
theorem layBlocks_inj : ∀ {l : Lay} {x y : OE × Option (Nat × Nat)} {b c c' : Nat}, (layBlocks l).Nodup → x ∈ l → y ∈ l → x.2 = some (b, c) → y.2 = some (b, c') → x = y
  | z :: r, x, y, b, c, c', hn, hx, hy, h1, h2 => by
    have mem : ∀ {q : OE × Option (Nat × Nat)} {k}, q ∈ r → q.2 = some (b, k) → b ∈ layBlocks r := fun hq hk => List.mem_filterMap.2 ⟨_, hq, by rw [hk]; rfl⟩
    unfold layBlocks at hn mem
    cases hz : z.2 with
    | none =>
      simp only [List.filterMap_cons, hz, Option.map_none] at hn
      rcases List.mem_cons.1 hx with rfl | hx
      · rw [hz] at h1; cases h1
      · rcases List.mem_cons.1 hy with rfl | hy
        · rw [hz] at h2; cases h2
        · exact layBlocks_inj hn hx hy h1 h2
    | some q =>
      simp only [List.filterMap_cons, hz, Option.map_some, List.nodup_cons] at hn
      rcases List.mem_cons.1 hx with rfl | hx'
      · rcases List.mem_cons.1 hy with rfl | hy'
        · rfl
        · rw [hz] at h1
          cases h1
          exact absurd (mem hy' h2) hn.1
      · rcases List.mem_cons.1 hy with rfl | hy
        · rw [hz] at h2
          cases h2
          exact absurd (mem hx' h1) hn.1
        · exact layBlocks_inj hn.2 hx' hy h1 h2
section
variable {P : Program} {w0 w w' : World} {M0 : Nat → Prop} {S0 S : Sup} {ρ : Rho} {ob : List OE} {C : Ctx} {R : Type} {r : R}
theorem OR_keep {S' : Sup} {ρ' : Rho} {ob' : List OE} {id : Nat} {o : Ob} (h : OR P w ρ S ob id o) (hS : ∀ b e, S b e → S' b e) (hA : Agree S w w') (hE : Ext ρ ob ρ' ob') (hr : ρ' id = ρ id)
    (hb : ∀ b c, ρ id = some (b, c) → o.live → w'.heap[b]? = w.heap[b]?) : OR P w' ρ' S' ob' id o := by
  cases o with
  | dead => trivial
  | box v =>
    obtain ⟨b, c, cur, e, h1, h2, h3⟩ := h
    exact ⟨b, c, cur, e, hr.trans h1, (hb b c h1 trivial).trans h2, VC.later hS hA hE h3⟩
  | arr e t xs =>
    simp only [OR] at h ⊢
    rw [hr]
    cases hρ : ρ id with
    | none => simpa [hρ] using h
    | some bc =>
      obtain ⟨b, cap⟩ := bc
      simp only [hρ] at h ⊢
      obtain ⟨cur, h1, h2, h3, h4, h5⟩ := h
      exact ⟨cur, (hb b cap hρ trivial).trans h1, h2, h3, h4, RowsR_mono hS hA h5⟩
  | fz e t xs =>
    simp only [OR] at h ⊢
    rw [hr]
    cases hρ : ρ id with
    | none => simpa [hρ] using h
    | some bc =>
      obtain ⟨b, cap⟩ := bc
      simp only [hρ] at h ⊢
      obtain ⟨h0, h1, cur, e', fr, h2, h3⟩ := h
      exact ⟨hS _ _ h0, h1, cur, e', fr, (hA b e h0).trans h2, RowsR_mono hS hA h3⟩
/-- what the callee may lead to -/
def supC (ρ : Rho) (ob : List OE) (lent : List Nat) (E0 : Nat) (S : Sup) : Sup := fun b e =>
  S b e ∨ ∃ id ∈ lent, ∃ x c, look ob id = some x ∧ ρ id = some (b, c) ∧ (match x.o with | .arr e' _ _ => e = e' | .box _ => e = E0 | _ => False)
/-- what stays the caller's own of what was lent -/
def stays (ρ : Rho) (ob : List OE) (lent es : List Nat) (b : Nat) : Prop :=
  ∃ id ∈ lent, ∃ x c, look ob id = some x ∧ ρ id = some (b, c) ∧ (match x.o with | .arr e' _ _ => memb e' es = false | .box _ => True | _ => False)
def supR (ρ : Rho) (ob : List OE) (lent es : List Nat) (S : Sup) : Sup := fun b e => S b e ∧ ¬ stays ρ ob lent es b
theorem blocks_mem {ids : List Nat} {b : Nat} : b ∈ blocks ρ ids ↔ ∃ id ∈ ids, ∃ c, ρ id = some (b, c) := by
  simp only [blocks, List.mem_filterMap, Option.map_eq_some_iff]
  constructor
  · rintro ⟨id, hid, ⟨b', c⟩, h, rfl⟩; exact ⟨id, hid, c, h⟩
  · rintro ⟨id, hid, c, h⟩; exact ⟨id, hid, (b, c), h, rfl⟩
/-- the frame of a call -/
structure CallF (ρ : Rho) (ob : List OE) (S : Sup) (w : World) (lent gone es : List Nat) (E0 : Nat) (w' : World) (S' : Sup) : Prop where
  live : ∀ id ∈ gone, ∃ y, look ob id = some y ∧ y.o.live
  nodup : gone.Nodup
  apart : ∀ id ∈ gone, id ∉ lent
  e0 : memb E0 es = false
  left : Left w w' (· ∈ blocks ρ gone)
  sub : ∀ b e, supC ρ ob lent E0 S b e → S' b e
  new : ∀ b e, S' b e → supC ρ ob lent E0 S b e ∨ b ∈ blocks ρ gone ∨ w.heap.size ≤ b
  within : Within S' w'
theorem CallF.old {lent gone es : List Nat} {E0 : Nat} {S' : Sup} (F : CallF ρ ob S w lent gone es E0 w' S') (hok : StOk P w0 M0 S0 ρ S ob w) {id : Nat} {x : OE} {b c e : Nat} (hx : look ob id = some x) (hl : x.o.live)
    (hr : ρ id = some (b, c)) (hg : id ∉ gone) (hs : S' b e) : ∃ id2 ∈ lent, id2 = id ∧ (match x.o with | .arr e' _ _ => e = e' | .box _ => e = E0 | _ => False) := by
  obtain ⟨o1, o2, o3⟩ := hok.own id x b c hx hl hr
  rcases F.new b e hs with (h | ⟨id2, h2, y, c2, hy, hr2, hm⟩) | h | h
  · exact absurd h (o1 e)
  · have hyl : y.o.live := by
      obtain ⟨_, _, yo⟩ := y
      cases yo <;> first | trivial | exact hm.elim
    have := hok.inj id2 id y x b c2 c hy hx hyl hl hr2 hr
    subst this
    rw [hx] at hy
    cases hy
    exact ⟨id2, h2, rfl, hm⟩
  · obtain ⟨id2, h2, c2, hr2⟩ := blocks_mem.1 h
    obtain ⟨y, hy, hyl⟩ := F.live id2 h2
    have := hok.inj id2 id y x b c2 c hy hx hyl hl hr2 hr
    subst this
    exact absurd h2 hg
  · omega
theorem CallF.less {lent gone es : List Nat} {E0 : Nat} {S' : Sup} (F : CallF ρ ob S w lent gone es E0 w' S') (hok : StOk P w0 M0 S0 ρ S ob w) {b e : Nat} (he : e ∈ es) (hs : S' b e) : supR ρ ob lent es S' b e := by
  refine ⟨hs, ?_⟩
  rintro ⟨id, hid, x, c, hx, hr, hm⟩
  have hl : x.o.live := by
    obtain ⟨_, _, xo⟩ := x
    cases xo <;> first | trivial | exact hm.elim
  obtain ⟨_, _, _, hm2⟩ := F.old hok hx hl hr (fun hg => F.apart id hg hid) hs
  obtain ⟨_, _, xo⟩ := x
  cases xo with
  | arr e' t xs =>
    simp only at hm hm2
    subst hm2
    rw [memb_mem.2 he] at hm
    cases hm
  | box v =>
    simp only at hm2
    subst hm2
    have := F.e0
    rw [memb_mem.2 he] at this
    cases this
  | _ => exact hm.elim
theorem call_out {lent gone es : List Nat} {E0 : Nat} {S' : Sup} (hok : StOk P w0 M0 S0 ρ S ob w) (F : CallF ρ ob S w lent gone es E0 w' S') {l : Lay} {U : List OE} {v : V} {val : Value} {Ms : List Nat}
    (hlay : Lays P w' (supR ρ ob lent es S') ob ρ gone U Ms (fun ρ' ob' => VR P w' ρ' (supR ρ ob lent es S') ob' v val) l) (hMn : Ms.Nodup) (hM : ∀ b ∈ Ms, (∀ e, ¬ S' b e) ∧ (b ∈ blocks ρ gone ∨ w.heap.size ≤ b) ∧ b < w'.heap.size)
    (hids : (U.map (·.id)).Nodup) (hcov : ∀ id ∈ gone, ∀ g v, look ob id = some ⟨id, g, .box v⟩ → id ∈ U.map (·.id)) :
    Out P w0 M0 S0 ρ S ob w ⟨v, frz ob false es lent ++ kill ob gone ++ U⟩ val w' := by
  have hln : l.map (fun x => x.1.id) = U.map (·.id) := by rw [← hlay.names]; simp
  have hlnod : (l.map (fun x => x.1.id)).Nodup := by rw [hln]; exact hids
  obtain ⟨ob', hob'⟩ : ∃ ob', ob' = updAll ob (frz ob false es lent ++ kill ob gone ++ U) := ⟨_, rfl⟩
  -- the lookups
  have hin : ∀ x ∈ l, look ob' x.1.id = some x.1 := by
    intro x hx
    rw [hob', updAll_append]
    exact updAll_mem hids (by rw [← hlay.names]; exact List.mem_map.2 ⟨x, hx, rfl⟩)
  have hout : ∀ id, id ∉ U.map (·.id) → (∃ g e t xs, id ∈ gone ∧ look ob id = some ⟨id, g, .arr e t xs⟩ ∧ look ob' id = some ⟨id, g, .dead⟩) ∨
      (id ∉ gone ∧ ∃ g e t xs, id ∈ lent ∧ memb e es = true ∧ look ob id = some ⟨id, g, .arr e t xs⟩ ∧ look ob' id = some ⟨id, g, .fz e t xs⟩) ∨
      (id ∉ gone ∧ look ob' id = look ob id ∧ ∀ g e t xs, id ∈ lent → look ob id = some ⟨id, g, .arr e t xs⟩ → memb e es = false) := by
    intro id hid
    have h1 : look ob' id = look (updAll ob (frz ob false es lent ++ kill ob gone)) id := by rw [hob', updAll_append, updAll_other hid]
    rw [updAll_append] at h1
    by_cases hg : id ∈ gone
    · obtain ⟨y, hy, hyl⟩ := F.live id hg
      obtain ⟨yi, yg, yo⟩ := y
      have hyi := look_id hy
      simp only at hyi
      subst hyi
      cases yo with
      | arr e t xs =>
        left
        refine ⟨yg, e, t, xs, hg, hy, ?_⟩
        rw [h1]
        have : (⟨yi, yg, .dead⟩ : OE) ∈ kill ob gone := kill_mem.2 ⟨rfl, hg, e, t, xs, hy⟩
        exact updAll_mem (x := ⟨yi, yg, .dead⟩) (kill_nodup F.nodup) this
      | box v => exact absurd (hcov yi hg yg v hy) hid
      | _ => exact hyl.elim
    · have hk : id ∉ (kill ob gone).map (·.id) := by
        intro hi
        obtain ⟨x, hx, rfl⟩ := List.mem_map.1 hi
        exact hg (kill_mem.1 hx).2.1
      rw [updAll_other hk] at h1
      by_cases hf : id ∈ (frz ob false es lent).map (·.id)
      · obtain ⟨x, hx, hxi⟩ := List.mem_map.1 hf
        obtain ⟨e, t, xs, h2, h3, h4, h5⟩ := frz_mem.1 hx
        rw [hxi] at h3 h4
        right; left
        refine ⟨hg, x.g, e, t, xs, h3, by simpa using h5, h4, ?_⟩
        rw [h1]
        have := updAll_mem (l := ob) frz_nodup hx
        rw [hxi] at this
        rw [this]
        cases x
        simp only at h2 hxi
        subst h2
        subst hxi
        rfl
      · right; right
        refine ⟨hg, by rw [h1, updAll_other hf], fun g e t xs hl hlk => ?_⟩
        cases hm : memb e es with
        | false => rfl
        | true => exact absurd (List.mem_map.2 ⟨⟨id, g, .fz e t xs⟩, frz_mem.2 ⟨e, t, xs, rfl, hl, hlk, by simp [hm]⟩, rfl⟩) hf
  have hUl : ∀ id, id ∈ U.map (·.id) → ∃ x ∈ l, x.1.id = id := by
    intro id hid
    rw [← hln] at hid
    obtain ⟨x, hx, h⟩ := List.mem_map.1 hid
    exact ⟨x, hx, h⟩
  have hρin : ∀ x ∈ l, layRho l ρ x.1.id = x.2 := fun x hx => layRho_mem hlnod hx
  have hρout : ∀ id, id ∉ U.map (·.id) → layRho l ρ id = ρ id := fun id hid => layRho_other (by rw [hln]; exact hid)
  have hLaid : Laid (layRho l ρ) ob' l := fun x hx => ⟨hin x hx, hρin x hx⟩
  obtain ⟨hOR, hVR⟩ := hlay.all _ _ hLaid
  have hS : ∀ b e, S b e → supR ρ ob lent es S' b e := by
    intro b e hs
    refine ⟨F.sub b e (.inl hs), ?_⟩
    rintro ⟨id, hid, x, c, hx, hr, hm⟩
    have hl : x.o.live := by
      obtain ⟨_, _, xo⟩ := x
      cases xo <;> first | trivial | exact hm.elim
    exact (hok.own id x b c hx hl hr).1 e hs
  have hMs : ∀ b, b ∈ blocks ρ gone → ∀ e, ¬ S b e := by
    intro b hb e
    obtain ⟨id, hid, c, hr⟩ := blocks_mem.1 hb
    obtain ⟨y, hy, hyl⟩ := F.live id hid
    exact (hok.own id y b c hy hyl hr).1 e
  have hA : Agree S w w' := F.left.agree hok.within fun b e hs hb => hMs b hb e hs
  have hblk : ∀ id x b c, look ob id = some x → x.o.live → id ∉ gone → ρ id = some (b, c) → w'.heap[b]? = w.heap[b]? := by
    intro id x b c hx hl hg hr
    refine F.left.block b (hok.own id x b c hx hl hr).2.2 fun hb => ?_
    obtain ⟨id2, h2, c2, hr2⟩ := blocks_mem.1 hb
    obtain ⟨y, hy, hyl⟩ := F.live id2 h2
    have := hok.inj id2 id y x b c2 c hy hx hyl hl hr2 hr
    subst this
    exact hg h2
  have hE : Ext ρ ob (layRho l ρ) ob' := by
    refine ⟨fun id x hx => ?_⟩
    by_cases hid : id ∈ U.map (·.id)
    · obtain ⟨y, hy, rfl⟩ := hUl id hid
      refine ⟨y.1, hin y hy, ?_⟩
      rcases hlay.gen y hy with hg | ⟨v0, v1, h1, h2, h3, h4, h5⟩
      · have : y.1.g = x.g + 1 := by rw [hg]; simp [genOf, hx]
        exact ⟨by omega, fun e => by omega⟩
      · rw [hx] at h1
        cases h1
        refine ⟨Nat.le_refl _, fun _ => ⟨?_, by rw [hρin y hy, h4]⟩⟩
        simp only [h2]
        exact h3
    · rcases hout id hid with ⟨g, e, t, xs, hg, h1, h2⟩ | ⟨hg, g, e, t, xs, hl, he, h1, h2⟩ | ⟨hg, h1, _⟩
      · rw [hx] at h1; cases h1
        exact ⟨_, h2, Nat.le_refl _, fun _ => ⟨trivial, hρout id hid⟩⟩
      · rw [hx] at h1; cases h1
        exact ⟨_, h2, Nat.le_refl _, fun _ => ⟨⟨rfl, rfl, rfl⟩, hρout id hid⟩⟩
      · exact ⟨x, by rw [h1, hx], Nat.le_refl _, fun _ => ⟨Ob.later_refl _, hρout id hid⟩⟩
  -- a live row or box of the caller's that goes on
  have hkeep : ∀ id x, id ∉ U.map (·.id) → look ob' id = some x → x.o.live → id ∉ gone ∧ look ob id = some x ∧ (∀ g e t xs, id ∈ lent → look ob id = some ⟨id, g, .arr e t xs⟩ → memb e es = false) := by
    intro id x hid hx hl
    rcases hout id hid with ⟨g, e, t, xs, hg, h1, h2⟩ | ⟨hg, g, e, t, xs, hl', he, h1, h2⟩ | ⟨hg, h1, h2⟩
    · rw [hx] at h2; cases h2; exact hl.elim
    · rw [hx] at h2; cases h2; exact hl.elim
    · exact ⟨hg, by rw [← h1, hx], h2⟩
  have hnotS : ∀ id x b c e, look ob id = some x → x.o.live → id ∉ gone → (∀ g e t xs, id ∈ lent → look ob id = some ⟨id, g, .arr e t xs⟩ → memb e es = false) → ρ id = some (b, c) → ¬ supR ρ ob lent es S' b e := by
    intro id x b c e hx hl hg hlt hr hs
    obtain ⟨id2, h2, rfl, hm⟩ := F.old hok hx hl hr hg hs.1
    refine hs.2 ⟨id2, h2, x, c, hx, hr, ?_⟩
    obtain ⟨xi, xg, xo⟩ := x
    have := look_id hx
    simp only at this
    subst this
    cases xo with
    | arr e' t xs => exact hlt xg e' t xs h2 hx
    | box v => trivial
    | _ => exact hl.elim
  have hlayb : ∀ x ∈ l, ∀ b c, x.2 = some (b, c) → b ∈ Ms := by
    intro x hx b c hr
    rw [← hlay.blk]
    exact List.mem_filterMap.2 ⟨x, hx, by rw [hr]; rfl⟩
  refine ⟨layRho l ρ, supR ρ ob lent es S', ?_, ?_, ?_, hS, hA⟩
  · rw [← hob']; exact hVR
  · rw [← hob']
    refine ⟨fun id x hx => ?_, ?_, ?_, ⟨fun b e hs => F.within.1 b e hs.1, hok.within.2.mono hS hA⟩, fun b e hs => hS b e (hok.sub b e hs), ?_, hok.left.trans F.left fun b hb hbg => ?_⟩
    · by_cases hid : id ∈ U.map (·.id)
      · obtain ⟨y, hy, rfl⟩ := hUl id hid
        rw [hin y hy] at hx
        cases hx
        exact hOR y hy
      · rcases hout id hid with ⟨g, e, t, xs, hg, h1, h2⟩ | ⟨hg, g, e, t, xs, hl, he, h1, h2⟩ | ⟨hg, h1, _⟩
        · rw [hx] at h2; cases h2; trivial
        · rw [hx] at h2; cases h2
          have ho := hok.obs id _ h1
          simp only [OR] at ho ⊢
          rw [hρout id hid]
          cases hr : ρ id with
          | none => simpa [hr] using ho
          | some bc =>
            obtain ⟨b, cap⟩ := bc
            simp only [hr] at ho ⊢
            obtain ⟨cur, q1, q2, q3, q4, q5⟩ := ho
            refine ⟨⟨F.sub b e (.inr ⟨id, hl, _, cap, h1, hr, rfl⟩), ?_⟩, q2, cur, e, (0, 0), ?_, RowsR_mono hS hA q5⟩
            · rintro ⟨id2, h3, y, c2, hy, hr2, hm⟩
              have hyl : y.o.live := by
                obtain ⟨_, _, yo⟩ := y
                cases yo <;> first | trivial | exact hm.elim
              have := hok.inj id2 id y _ b c2 cap hy h1 hyl trivial hr2 hr
              subst this
              rw [h1] at hy
              cases hy
              simp only at hm
              rw [he] at hm
              cases hm
            · rw [hblk id _ b cap h1 trivial hg hr]; exact q1
        · rw [h1] at hx
          exact OR_keep (hok.obs id x hx) hS hA hE (hρout id hid) fun b c hr hl => hblk id x b c hx hl hg hr
    · intro i j x y b c c' hi hj li lj hr hr'
      by_cases hui : i ∈ U.map (·.id)
      · obtain ⟨p, hp, rfl⟩ := hUl i hui
        rw [hρin p hp] at hr
        by_cases huj : j ∈ U.map (·.id)
        · obtain ⟨q, hq, rfl⟩ := hUl j huj
          rw [hρin q hq] at hr'
          rw [layBlocks_inj (by rw [hlay.blk]; exact hMn) hp hq hr hr']
        · exfalso
          obtain ⟨hg, hlk, _⟩ := hkeep j y huj hj lj
          rw [hρout j huj] at hr'
          have hb := (hM b (hlayb p hp b c hr)).2.1
          have o3 := (hok.own j y b c' hlk lj hr').2.2
          rcases hb with hb | hb
          · obtain ⟨id2, h2, c2, hr2⟩ := blocks_mem.1 hb
            obtain ⟨z, hz, hzl⟩ := F.live id2 h2
            have := hok.inj id2 j z y b c2 c' hz hlk hzl lj hr2 hr'
            subst this
            exact hg h2
          · omega
      · obtain ⟨hg, hlk, _⟩ := hkeep i x hui hi li
        rw [hρout i hui] at hr
        by_cases huj : j ∈ U.map (·.id)
        · exfalso
          obtain ⟨q, hq, rfl⟩ := hUl j huj
          rw [hρin q hq] at hr'
          have hb := (hM b (hlayb q hq b c' hr')).2.1
          have o3 := (hok.own i x b c hlk li hr).2.2
          rcases hb with hb | hb
          · obtain ⟨id2, h2, c2, hr2⟩ := blocks_mem.1 hb
            obtain ⟨z, hz, hzl⟩ := F.live id2 h2
            have := hok.inj id2 i z x b c2 c hz hlk hzl li hr2 hr
            subst this
            exact hg h2
          · omega
        · obtain ⟨_, hlk', _⟩ := hkeep j y huj hj lj
          rw [hρout j huj] at hr'
          exact hok.inj i j x y b c c' hlk hlk' li lj hr hr'
    · intro i x b c hi li hr
      by_cases hui : i ∈ U.map (·.id)
      · obtain ⟨p, hp, rfl⟩ := hUl i hui
        rw [hρin p hp] at hr
        obtain ⟨h1, h2, h3⟩ := hM b (hlayb p hp b c hr)
        refine ⟨fun e hs => h1 e hs.1, ?_, h3⟩
        rcases h2 with hb | hb
        · obtain ⟨id2, h2, c2, hr2⟩ := blocks_mem.1 hb
          obtain ⟨z, hz, hzl⟩ := F.live id2 h2
          exact (hok.own id2 z b c2 hz hzl hr2).2.1
        · right; have := hok.left.size; omega
      · obtain ⟨hg, hlk, hlt⟩ := hkeep i x hui hi li
        rw [hρout i hui] at hr
        obtain ⟨o1, o2, o3⟩ := hok.own i x b c hlk li hr
        exact ⟨fun e hs => hnotS i x b c e hlk li hg hlt hr hs, o2, Nat.lt_of_lt_of_le o3 F.left.size⟩
    · intro b e hs
      rcases F.new b e hs.1 with (h | ⟨id2, h2, y, c2, hy, hr2, hm⟩) | h | h
      · exact hok.supp b e h
      · have hyl : y.o.live := by
          obtain ⟨_, _, yo⟩ := y
          cases yo <;> first | trivial | exact hm.elim
        exact .inr (hok.own id2 y b c2 hy hyl hr2).2.1
      · obtain ⟨id2, h2, c2, hr2⟩ := blocks_mem.1 h
        obtain ⟨z, hz, hzl⟩ := F.live id2 h2
        exact .inr (hok.own id2 z b c2 hz hzl hr2).2.1
      · right; right; have := hok.left.size; omega
    · obtain ⟨id2, h2, c2, hr2⟩ := blocks_mem.1 hbg
      obtain ⟨z, hz, hzl⟩ := F.live id2 h2
      rcases (hok.own id2 z b c2 hz hzl hr2).2.1 with h | h
      · exact h
      · omega
  · rw [← hob']; exact hE
end
end Go.Ab

namespace Go.Ab
set_option linter.unusedVariables false
set_option linter.unusedSimpArgs false

/-! ### 42. Calls -/
section
variable {P : Program} {w0 w w' : World} {M0 : Nat → Prop} {S0 S : Sup} {ρ : Rho} {ob : List OE} {C : Ctx} {R : Type} {r : R}
theorem SR_to {S' : Sup} : ∀ {a : Sh} {x : a.T} {cs : List Value} {Ms : List Nat}, a.plain = true → (∀ b e, e ∈ a.elems → S b e → S' b e) → SR P w S a x cs Ms → SR P w S' a x cs Ms
  | .d t, x, cs, Ms, hp, hS, h => ⟨DR_less hS h.1, h.2⟩
  | .o e t, x, cs, Ms, hp, hS, h => by
    obtain ⟨v, rfl, ho⟩ := h
    refine ⟨v, rfl, ?_⟩
    rcases ho with h | ⟨b, cap, cur, rfl, rfl, hh, h1, h2, h3, h4⟩
    · exact .inl h
    · refine .inr ⟨b, cap, cur, rfl, rfl, hh, h1, h2, h3, fun i y hy => ?_⟩
      obtain ⟨c, hd, hc⟩ := h4 i y hy
      exact ⟨c, DR_less (fun b e' he => hS b e' (by simp [Sh.elems, he])) hd, hc⟩
  | .one a, x, cs, Ms, hp, hS, h => SR_to (a := a) hp hS h
  | .pair a b, x, cs, Ms, hp, hS, h => by
    simp only [Sh.plain, Bool.and_eq_true] at hp
    obtain ⟨c, d, M, N, rfl, rfl, h1, h2⟩ := h
    exact ⟨c, d, M, N, rfl, rfl, SR_to hp.1 (fun q e he => hS q e (by simp [Sh.elems, he])) h1, SR_to hp.2 (fun q e he => hS q e (by simp [Sh.elems, he])) h2⟩
  | .fn _ _, x, cs, Ms, hp, hS, h => by simp [Sh.plain] at hp
  | .pi _, x, cs, Ms, hp, hS, h => by simp [Sh.plain] at hp
  | .pm _, x, cs, Ms, hp, hS, h => by simp [Sh.plain] at hp
  | .nl, x, cs, Ms, hp, hS, h => by simp [Sh.plain] at hp
theorem SV_to {S' : Sup} {a : Sh} {x : a.T} {v : Value} {Ms : List Nat} (hp : a.plain = true) (hS : ∀ b e, e ∈ a.elems → S b e → S' b e) (h : SV P w S a x v Ms) : SV P w S' a x v Ms := by
  unfold SV at h ⊢
  split
  · rename_i ha; rw [if_pos ha] at h; obtain ⟨cs, rfl, h⟩ := h; exact ⟨cs, rfl, SR_to hp hS h⟩
  · rename_i ha; rw [if_neg ha] at h; exact SR_to hp hS h
theorem ArgsR_to {S' : Sup} : ∀ {«as» : List Sh} {x : Sh.Ts «as»} {vs : List Value} {Ms : List Nat}, plainL «as» = true → (∀ b e, e ∈ Sh.elemsL «as» → S b e → S' b e) → ArgsR P w S «as» x vs Ms → ArgsR P w S' «as» x vs Ms
  | [], x, vs, Ms, hp, hS, h => h
  | a :: r, x, vs, Ms, hp, hS, h => by
    rw [plainL, Bool.and_eq_true] at hp
    obtain ⟨v, us, M, N, rfl, rfl, h1, h2⟩ := h
    exact ⟨v, us, M, N, rfl, rfl, SV_to hp.1 (fun b e he => hS b e (by simp [Sh.elemsL, he])) h1, ArgsR_to hp.2 (fun b e he => hS b e (by simp [Sh.elemsL, he])) h2⟩
theorem OutsR_to {S' : Sup} : ∀ {«as» : List Sh} {vs : List Value} {y : Sh.Ts (Sh.outs «as»)} {Ms : List Nat}, okArgs «as» = true → (∀ b e, e ∈ Sh.elemsL (Sh.outs «as») → S b e → S' b e) → OutsR P w S «as» vs y Ms → OutsR P w S' «as» vs y Ms
  | [], vs, y, Ms, hp, hS, h => h
  | .pm a :: r, vs, y, Ms, hp, hS, h => by
    simp only [okArgs, Bool.and_eq_true] at hp
    obtain ⟨b, us, e, cur, M, N, rfl, rfl, hh, h1, h2⟩ := h
    exact ⟨b, us, e, cur, M, N, rfl, rfl, hh, SR_to hp.1 (fun b e he => hS b e (by simp [Sh.outs, Sh.elemsL, Sh.elems, he])) h1, OutsR_to hp.2 (fun b e he => hS b e (by simp [Sh.outs, Sh.elemsL, Sh.elems, he])) h2⟩
  | .d _ :: r, vs, y, Ms, hp, hS, h => by simp only [okArgs, Bool.and_eq_true] at hp; obtain ⟨v, us, rfl, h⟩ := h; exact ⟨v, us, rfl, OutsR_to («as» := r) hp.2 hS h⟩
  | .o _ _ :: r, vs, y, Ms, hp, hS, h => by simp only [okArgs, Bool.and_eq_true] at hp; obtain ⟨v, us, rfl, h⟩ := h; exact ⟨v, us, rfl, OutsR_to («as» := r) hp.2 hS h⟩
  | .one _ :: r, vs, y, Ms, hp, hS, h => by simp only [okArgs, Bool.and_eq_true] at hp; obtain ⟨v, us, rfl, h⟩ := h; exact ⟨v, us, rfl, OutsR_to («as» := r) hp.2 hS h⟩
  | .pair _ _ :: r, vs, y, Ms, hp, hS, h => by simp only [okArgs, Bool.and_eq_true] at hp; obtain ⟨v, us, rfl, h⟩ := h; exact ⟨v, us, rfl, OutsR_to («as» := r) hp.2 hS h⟩
  | .fn _ _ :: r, vs, y, Ms, hp, hS, h => by simp only [okArgs, Bool.and_eq_true] at hp; obtain ⟨v, us, rfl, h⟩ := h; exact ⟨v, us, rfl, OutsR_to («as» := r) hp.2 hS h⟩
  | .nl :: r, vs, y, Ms, hp, hS, h => by simp only [okArgs, Bool.and_eq_true] at hp; obtain ⟨v, us, rfl, h⟩ := h; exact ⟨v, us, rfl, OutsR_to («as» := r) hp.2 hS h⟩
  | .pi _ :: r, vs, y, Ms, hp, hS, h => by simp only [okArgs, Bool.and_eq_true] at hp; obtain ⟨v, us, rfl, h⟩ := h; exact ⟨v, us, rfl, OutsR_to («as» := r) hp.2 hS h⟩
theorem elemsL_append : ∀ (a b : List Sh), Sh.elemsL (a ++ b) = Sh.elemsL a ++ Sh.elemsL b
  | [], b => rfl
  | x :: a, b => by simp [Sh.elemsL, elemsL_append a b]
theorem pack_live : ∀ {a : Sh} {v : V} {p : Pk a.T}, pack C ob a v = some p → ∀ id ∈ p.gone, ∃ y, look ob id = some y ∧ y.o.live
  | .d t, v, p, h, id, hid => by
    simp only [pack] at h
    split at h
    · cases h; simp at hid
    · cases h
  | .o e t, v, p, h, id, hid => by
    cases v with
    | nils => simp only [pack, Option.some.injEq] at h; subst h; simp at hid
    | ref i g off len =>
      cases off with
      | succ n => simp [pack] at h
      | zero =>
      simp only [pack] at h
      split at h
      case h_2 => cases h
      case h_1 e' u xs ho =>
      split at h
      case isFalse => cases h
      case isTrue he =>
      split at h
      case h_2 => cases h
      case h_1 x hx =>
      cases h
      simp only [List.mem_singleton] at hid
      subst hid
      obtain ⟨y, hy, _, hyo⟩ := obAt_live ho (by simp)
      exact ⟨y, hy, by rw [hyo]; trivial⟩
    | _ => simp [pack] at h
  | .one a, v, p, h, id, hid => by
    cases v with
    | st1 u =>
      simp only [pack] at h
      split at h
      case h_2 => cases h
      case h_1 q hq => cases h; exact pack_live hq id hid
    | _ => simp [pack] at h
  | .pair a b, v, p, h, id, hid => by
    cases v with
    | st u1 u2 =>
      simp only [pack] at h
      split at h
      case h_2 => cases h
      case h_1 p1 hp1 =>
      split at h
      case h_2 => cases h
      case h_1 p2 hp2 =>
      cases h
      rcases List.mem_append.1 hid with hid | hid
      · exact pack_live hp1 id hid
      · exact pack_live hp2 id hid
    | dat t x =>
      cases t with
      | pair t u =>
        simp only [pack] at h
        split at h
        case h_2 => cases h
        case h_1 p1 hp1 =>
        split at h
        case h_2 => cases h
        case h_1 p2 hp2 =>
        cases h
        rcases List.mem_append.1 hid with hid | hid
        · exact pack_live hp1 id hid
        · exact pack_live hp2 id hid
      | _ => simp [pack] at h
    | _ => simp [pack] at h
  | .fn a r, v, p, h, id, hid => by
    simp only [pack] at h
    split at h
    case h_2 => cases h
    case h_1 q hq =>
    cases h
    have : q.gone = [] := by
      unfold packFn at hq
      split at hq
      · split at hq <;> cases hq; rfl
      · split at hq
        · simp only at hq
          split at hq <;> cases hq; rfl
        · cases hq
      · cases hq
    simp [this] at hid
  | .nl, v, p, h, id, hid => by
    cases v with
    | nils => simp only [pack, Option.some.injEq] at h; subst h; simp at hid
    | _ => simp [pack] at h
  | .pi t, v, p, h, id, hid => by
    simp only [pack] at h
    split at h
    case h_2 => cases h
    case h_1 q hq =>
    cases h
    have : q.gone = [] := by
      unfold capK at hq
      split at hq
      · split at hq <;> cases hq; rfl
      · cases hq
    simp [this] at hid
  | .pm a, v, p, h, id, hid => by
    cases v with
    | bp i g q =>
      cases q with
      | cons c q => simp [pack] at h
      | nil =>
      simp only [pack] at h
      split at h
      case h_2 => cases h
      case h_1 bv ho =>
      split at h
      case h_2 => cases h
      case h_1 q hq =>
      cases h
      rcases List.mem_cons.1 hid with rfl | hid
      · obtain ⟨y, hy, _, hyo⟩ := obAt_live ho (by simp)
        exact ⟨y, hy, by rw [hyo]; trivial⟩
      · exact pack_live hq id hid
    | _ => simp [pack] at h
/-- where nothing is written through, only rows are handed over -/
theorem pack_rows : ∀ {a : Sh} {v : V} {p : Pk a.T}, a.noPm = true → pack C ob a v = some p → ∀ id ∈ p.gone, ∀ g v', look ob id ≠ some ⟨id, g, .box v'⟩
  | .d t, v, p, hn, h, id, hid => by
    simp only [pack] at h
    split at h
    · cases h; simp at hid
    · cases h
  | .o e t, v, p, hn, h, id, hid => by
    cases v with
    | nils => simp only [pack, Option.some.injEq] at h; subst h; simp at hid
    | ref i g off len =>
      cases off with
      | succ n => simp [pack] at h
      | zero =>
      simp only [pack] at h
      split at h
      case h_2 => cases h
      case h_1 e' u xs ho =>
      split at h
      case isFalse => cases h
      case isTrue he =>
      split at h
      case h_2 => cases h
      case h_1 x hx =>
      cases h
      simp only [List.mem_singleton] at hid
      subst hid
      obtain ⟨y, hy, _, hyo⟩ := obAt_live ho (by simp)
      intro g v' hl
      rw [hl] at hy
      cases hy
      cases hyo
    | _ => simp [pack] at h
  | .one a, v, p, hn, h, id, hid => by
    cases v with
    | st1 u =>
      simp only [pack] at h
      split at h
      case h_2 => cases h
      case h_1 q hq => cases h; exact pack_rows (a := a) hn hq id hid
    | _ => simp [pack] at h
  | .pair a b, v, p, hn, h, id, hid => by
    simp only [Sh.noPm, Bool.and_eq_true] at hn
    cases v with
    | st u1 u2 =>
      simp only [pack] at h
      split at h
      case h_2 => cases h
      case h_1 p1 hp1 =>
      split at h
      case h_2 => cases h
      case h_1 p2 hp2 =>
      cases h
      rcases List.mem_append.1 hid with hid | hid
      · exact pack_rows hn.1 hp1 id hid
      · exact pack_rows hn.2 hp2 id hid
    | dat t x =>
      cases t with
      | pair t u =>
        simp only [pack] at h
        split at h
        case h_2 => cases h
        case h_1 p1 hp1 =>
        split at h
        case h_2 => cases h
        case h_1 p2 hp2 =>
        cases h
        rcases List.mem_append.1 hid with hid | hid
        · exact pack_rows hn.1 hp1 id hid
        · exact pack_rows hn.2 hp2 id hid
      | _ => simp [pack] at h
    | _ => simp [pack] at h
  | .fn a r, v, p, hn, h, id, hid => by
    simp only [pack] at h
    split at h
    case h_2 => cases h
    case h_1 q hq =>
    cases h
    have : q.gone = [] := by
      unfold packFn at hq
      split at hq
      · split at hq <;> cases hq; rfl
      · split at hq
        · simp only at hq
          split at hq <;> cases hq; rfl
        · cases hq
      · cases hq
    simp [this] at hid
  | .nl, v, p, hn, h, id, hid => by
    cases v with
    | nils => simp only [pack, Option.some.injEq] at h; subst h; simp at hid
    | _ => simp [pack] at h
  | .pi t, v, p, hn, h, id, hid => by
    simp only [pack] at h
    split at h
    case h_2 => cases h
    case h_1 q hq =>
    cases h
    have : q.gone = [] := by
      unfold capK at hq
      split at hq
      · split at hq <;> cases hq; rfl
      · cases hq
    simp [this] at hid
  | .pm a, v, p, hn, h, id, hid => by simp [Sh.noPm] at hn
theorem plain_noPm : ∀ {a : Sh}, a.plain = true → a.noPm = true
  | .d _, _ => rfl
  | .o _ _, _ => rfl
  | .one a, h => plain_noPm (a := a) h
  | .pair a b, h => by
    simp only [Sh.plain, Bool.and_eq_true] at h
    simp [Sh.noPm, plain_noPm h.1, plain_noPm h.2]
  | .fn _ _, _ => rfl
  | .pi _, _ => rfl
  | .nl, _ => rfl
  | .pm _, h => by simp [Sh.plain] at h
theorem packs_live : ∀ {«as» : List Sh} {vs : List V} {p : Pk (Sh.Ts «as»)}, packs C ob «as» vs = some p → ∀ id ∈ p.gone, ∃ y, look ob id = some y ∧ y.o.live
  | [], [], p, h, id, hid => by simp only [packs, Option.some.injEq] at h; subst h; simp at hid
  | [], _ :: _, p, h, id, hid => by simp [packs] at h
  | _ :: _, [], p, h, id, hid => by simp [packs] at h
  | a :: «as», v :: vs, p, h, id, hid => by
    simp only [packs] at h
    split at h
    case h_2 => cases h
    case h_1 p1 hp1 =>
    split at h
    case h_2 => cases h
    case h_1 p2 hp2 =>
    cases h
    rcases List.mem_append.1 hid with hid | hid
    · exact pack_live hp1 id hid
    · exact packs_live hp2 id hid
/-- what lies behind the pointers, laid out again; and every box that was handed over is there -/
theorem outs_sound {S1 : Sup} {gone : List Nat} : ∀ {«as» : List Sh} {vs : List V} {vals : List Value} {p : Pk (Sh.Ts «as»)} {y : Sh.Ts (Sh.outs «as»)} {Ms : List Nat} {u : List OE}, okArgs «as» = true → VRs P w ρ S ob vs vals → packs C ob «as» vs = some p →
    (∀ id ∈ p.gone, id ∈ gone) → OutsR P w' S1 «as» vals y Ms → outsU ob «as» vs y = some u →
    (∃ l, Lays P w' S1 ob ρ gone u Ms (fun _ _ => True) l) ∧ ∀ id ∈ p.gone, ∀ g v, look ob id = some ⟨id, g, .box v⟩ → id ∈ u.map (·.id)
  | [], vs, vals, p, y, Ms, u, hok, hv, h, hg, ho, hu => by
    simp only [outsU, Option.some.injEq] at hu
    subst hu
    obtain ⟨_, rfl⟩ := (ho : vals = [] ∧ Ms = [])
    cases vs with
    | cons => simp [packs] at h
    | nil =>
    simp only [packs, Option.some.injEq] at h
    subst h
    exact ⟨⟨[], Lays.nil fun _ _ => trivial⟩, fun id hid => by simp at hid⟩
  | a :: r, [], vals, p, y, Ms, u, hok, hv, h, hg, ho, hu => by simp [packs] at h
  | a :: r, v :: vs, vals, p, y, Ms, u, hok, hv, h, hg, ho, hu => by
    obtain ⟨x, xs, rfl, hv1, hv2⟩ := hv
    simp only [packs] at h
    split at h
    case h_2 => cases h
    case h_1 p1 hp1 =>
    split at h
    case h_2 => cases h
    case h_1 p2 hp2 =>
    cases h
    simp only at hg
    have hg1 : ∀ id ∈ p1.gone, id ∈ gone := fun id hid => hg id (List.mem_append_left _ hid)
    have hg2 : ∀ id ∈ p2.gone, id ∈ gone := fun id hid => hg id (List.mem_append_right _ hid)
    by_cases hpm : ∃ a', a = .pm a'
    · obtain ⟨a', rfl⟩ := hpm
      simp only [okArgs, Bool.and_eq_true] at hok
      obtain ⟨b, us, e, cur, M, N, hvs, rfl, hh, h1, h2⟩ := ho
      cases hvs
      cases v with
      | bp id g q =>
        cases q with
        | cons c q => simp [pack] at hp1
        | nil =>
        have hp1' := hp1
        simp only [pack] at hp1
        split at hp1
        case h_2 => cases hp1
        case h_1 bv hob =>
        split at hp1
        case h_2 => cases hp1
        case h_1 q hq =>
        cases hp1
        simp only [outsU] at hu
        cases hus : outsU ob r vs (Sh.tl (a := .pm a') (Sh.outs r) y) with
        | none => simp [hus] at hu
        | some u2 =>
          simp only [hus, Option.some.injEq] at hu
          subst hu
          obtain ⟨⟨m, hm⟩, hcov⟩ := outs_sound hok.2 hv2 hp2 hg2 h2 hus
          obtain ⟨l, hl⟩ := unpack_sound (h := hbox id) (k := 0) (ob := ob) (ρ := ρ) (gone := gone) hok.1 h1
          have hl' : Now ob id g (fun o => BpO (ρ id) o [] (.pointer (some ⟨b, 0, none⟩))) ∧ _ := hv1
          obtain ⟨z, hz, hzg, hzo, _, b', c, hr, hval⟩ := hl'.1.of hob (by simp)
          cases hval
          have hzz : look ob id = some ⟨id, g, .box bv⟩ := by
            rw [hz]
            have := look_id hz
            cases z
            simp only at this hzg hzo
            rw [this, hzg, hzo]
          refine ⟨⟨((⟨id, g, .box (unpack ob (hbox id) a' (Sh.hd (a := .pm a') (Sh.outs r) y) 0).v⟩, some (b, c)) :: l) ++ m, ?_⟩, ?_⟩
          · have hbx : Lays P w' S1 ob ρ gone (⟨id, g, .box (unpack ob (hbox id) a' (Sh.hd (a := .pm a') (Sh.outs r) y) 0).v⟩ :: (unpack ob (hbox id) a' (Sh.hd (a := .pm a') (Sh.outs r) y) 0).u) (b :: M) (fun _ _ => True)
                ((⟨id, g, .box (unpack ob (hbox id) a' (Sh.hd (a := .pm a') (Sh.outs r) y) 0).v⟩, some (b, c)) :: l) := by
              refine ⟨by rw [List.map_cons, hl.names], by rw [← hl.blk]; simp [layBlocks], fun ρ' ob' hL => ?_, fun q hq => ?_, fun q hq => ?_⟩
              · obtain ⟨q1, q2⟩ := hl.all ρ' ob' fun q hq => hL q (List.mem_cons_of_mem _ hq)
                refine ⟨fun q hq => ?_, trivial⟩
                rcases List.mem_cons.1 hq with rfl | hq
                · exact ⟨b, c, cur, e, (hL _ (by simp)).2, hh, q2⟩
                · exact q1 q hq
              · rcases List.mem_cons.1 hq with rfl | hq
                · trivial
                · exact hl.live q hq
              · rcases List.mem_cons.1 hq with rfl | hq
                · exact .inr ⟨bv, _, hzz, rfl, by rw [unpack_sk hok.1, pack_sk ‹pack C ob a' bv = some _›], hr, hg1 id (by simp)⟩
                · exact hl.gen q hq
            exact (hbx.append hm).mono fun _ _ _ _ => trivial
          · intro i hi g' v' hlk
            rw [List.map_append, List.mem_append]
            rcases List.mem_append.1 hi with hi | hi
            · rcases List.mem_cons.1 hi with rfl | hi
              · left; simp
              · exact absurd hlk (pack_rows (plain_noPm hok.1) ‹pack C ob a' bv = some _› i hi g' v')
            · exact .inr (hcov i hi g' v' hlk)
      | _ => simp [pack] at hp1
    · have hno : a.noPm = true ∧ okArgs r = true := by
        cases a with
        | pm a' => exact absurd ⟨a', rfl⟩ hpm
        | _ => simpa [okArgs] using hok
      have key : ∀ {y' : Sh.Ts (Sh.outs r)}, OutsR P w' S1 r xs y' Ms → outsU ob r vs y' = some u → (∃ l, Lays P w' S1 ob ρ gone u Ms (fun _ _ => True) l) ∧ ∀ id ∈ p1.gone ++ p2.gone, ∀ g v, look ob id = some ⟨id, g, .box v⟩ → id ∈ u.map (·.id) := by
        intro y' ho' hu'
        obtain ⟨hl, hcov⟩ := outs_sound hno.2 hv2 hp2 hg2 ho' hu'
        refine ⟨hl, fun id hid g v hlk => ?_⟩
        rcases List.mem_append.1 hid with hid | hid
        · exact absurd hlk (pack_rows hno.1 hp1 id hid g v)
        · exact hcov id hid g v hlk
      cases a with
      | pm a' => exact absurd ⟨a', rfl⟩ hpm
      | d _ => obtain ⟨v', us', e1, ho'⟩ := ho; cases e1; exact key (y' := y) ho' hu
      | o _ _ => obtain ⟨v', us', e1, ho'⟩ := ho; cases e1; exact key (y' := y) ho' hu
      | one _ => obtain ⟨v', us', e1, ho'⟩ := ho; cases e1; exact key (y' := y) ho' hu
      | pair _ _ => obtain ⟨v', us', e1, ho'⟩ := ho; cases e1; exact key (y' := y) ho' hu
      | fn _ _ => obtain ⟨v', us', e1, ho'⟩ := ho; cases e1; exact key (y' := y) ho' hu
      | pi _ => obtain ⟨v', us', e1, ho'⟩ := ho; cases e1; exact key (y' := y) ho' hu
      | nl => obtain ⟨v', us', e1, ho'⟩ := ho; cases e1; exact key (y' := y) ho' hu
theorem fresh_nat (l : List Nat) : ∃ n, memb n l = false := by
  have key : ∀ l : List Nat, ∃ n, ∀ m ∈ l, m < n := by
    intro l
    induction l with
    | nil => exact ⟨0, by simp⟩
    | cons a l ih =>
      obtain ⟨n, hn⟩ := ih
      refine ⟨max n (a + 1), fun m hm => ?_⟩
      rcases List.mem_cons.1 hm with rfl | hm
      · omega
      · have := hn m hm; omega
  obtain ⟨n, hn⟩ := key l
  refine ⟨n, ?_⟩
  cases h : memb n l with
  | false => rfl
  | true => exact absurd (hn n (memb_mem.1 h)) (Nat.lt_irrefl _)
theorem lent_supC (hok : StOk P w0 M0 S0 ρ S ob w) {lent : List Nat} {E0 : Nat} : LentAll ρ ob lent (supC ρ ob lent E0 S) := by
  refine ⟨fun id hid y e t xs hy hyo b c hr => ?_, fun id hid y v hy hyo b c hr => ⟨E0, ?_⟩⟩
  · exact .inr ⟨id, hid, y, c, hy, hr, by rw [hyo]⟩
  · exact .inr ⟨id, hid, y, c, hy, hr, by rw [hyo]⟩
theorem supC_within (hok : StOk P w0 M0 S0 ρ S ob w) {lent : List Nat} {E0 : Nat} : Within (supC ρ ob lent E0 S) w := by
  refine ⟨?_, hok.within.2.mono (fun b e h => .inl h) (Agree.refl _ _)⟩
  rintro b e (h | ⟨id, _, x, c, hx, hr, hm⟩)
  · exact hok.within.1 b e h
  · have hl : x.o.live := by
      obtain ⟨_, _, xo⟩ := x
      cases xo <;> first | trivial | exact hm.elim
    exact (hok.own id x b c hx hl hr).2.2
theorem blocks_nodup (hok : StOk P w0 M0 S0 ρ S ob w) : ∀ {ids : List Nat}, ids.Nodup → (∀ id ∈ ids, ∃ y, look ob id = some y ∧ y.o.live) → (blocks ρ ids).Nodup
  | [], _, _ => by simp [blocks]
  | id :: r, hn, hl => by
    rw [List.nodup_cons] at hn
    have ih := blocks_nodup hok hn.2 (fun i hi => hl i (by simp [hi]))
    unfold blocks at ih ⊢
    cases hr : ρ id with
    | none => simpa [List.filterMap_cons, hr] using ih
    | some bc =>
      obtain ⟨b, c⟩ := bc
      simp only [List.filterMap_cons, hr, Option.map_some, List.nodup_cons]
      refine ⟨fun hb => ?_, ih⟩
      obtain ⟨i, hi, c', hri⟩ := blocks_mem.1 (show b ∈ blocks ρ r from hb)
      obtain ⟨x, hx, hxl⟩ := hl id (by simp)
      obtain ⟨y, hy, hyl⟩ := hl i (by simp [hi])
      have := hok.inj id i x y b c c' hx hy hxl hyl hr hri
      subst this
      exact hn.1 hi
end
end Go.Ab

namespace Go.Ab
set_option linter.unusedVariables false
set_option linter.unusedSimpArgs false

/-! ### 43. Calls, seen from the caller -/
section
variable {P : Program} {w0 w w' : World} {M0 : Nat → Prop} {S0 S : Sup} {ρ : Rho} {ob : List OE} {C : Ctx} {R : Type} {r : R}
/-- the outcome of a call -/
def CallR (P : Program) (w0 : World) (M0 : Nat → Prop) (S0 : Sup) (ρ : Rho) (S : Sup) (ob : List OE) (w : World) (ef : Eff) (e : Ending) (w' : World) : Prop :=
  ∃ v, e = .returned v ∧ Out P w0 M0 S0 ρ S ob w ef v w'
theorem closeArgs_sound (hok : StOk P w0 M0 S0 ρ S ob w) {S' : Sup} (hS : ∀ b e, S b e → S' b e) : ∀ {a : Ty} {vs : List V} {vals : List Value} {x : a.T}, VRs P w ρ S ob vs vals → closeArgs ob a vs = some x → Lent ρ ob (idsL vs) S' → ArgsD w S' a x vals
  | a, [], vals, x, hv, h, hL => by
    cases a <;> simp only [closeArgs] at h <;> try (cases h; done)
    obtain rfl : vals = [] := hv
    trivial
  | a, v :: vs, vals, x, hv, h, hL => by
    cases a <;> simp only [closeArgs] at h <;> try (cases h; done)
    rename_i a b
    split at h
    · rename_i y z hy hz
      cases h
      obtain ⟨q, qs, rfl, h1, h2⟩ := hv
      refine ⟨?_, closeArgs_sound hok hS h2 hz fun id hid => hL id (by simp [idsL, hid])⟩
      have hL1 : Lent ρ ob v.ids S' := fun id hid => hL id (by simp [idsL, hid])
      have hb := close_ne_bad hy
      have hag := close_agg hy
      show VD w S' a y q
      unfold VD
      by_cases ha : a.isAgg = true
      · rw [if_pos ha]
        obtain ⟨hc, hagg⟩ := VR_cells h1 hb
        obtain ⟨cs, rfl⟩ := hagg.2 (by rw [hag, ha])
        exact ⟨cs, rfl, close_sound hok hS hc hy hL1⟩
      · rw [if_neg ha]
        exact close_sound hok hS (VR_leaf h1 hb (by rw [hag]; simpa using ha)) hy hL1
    · cases h
theorem splice_int {α : Type} {xs ys : List α} {off len : Nat} (h : off + len ≤ xs.length) (hy : ys.length = len) (j : Nat) : (xs.take off ++ (ys ++ xs.drop (off + len)))[j]? = if off ≤ j ∧ j < off + len then ys[j - off]? else xs[j]? := by
  by_cases h1 : j < off
  · rw [List.getElem?_append_left (by simp; omega), List.getElem?_take, if_pos h1, if_neg (by omega)]
  · rw [List.getElem?_append_right (by simp; omega)]
    simp only [List.length_take]
    by_cases h2 : j < off + len
    · rw [List.getElem?_append_left (by omega), if_pos ⟨by omega, h2⟩]
      congr 1
      omega
    · rw [List.getElem?_append_right (by omega), List.getElem?_drop, if_neg (by omega)]
      congr 1
      omega
theorem inpK_sound {i : InPl} (hI : InPlace P i) (hok : StOk P w0 M0 S0 ρ S ob w) {vs : List V} {vals : List Value} {K : Eff → Option R} (hv : VRs P w ρ S ob vs vals)
    (h : inpK i vs ob K = some r) : ∃ ef, K ef = some r ∧ Calls P i.f vals.toArray w (CallR P w0 M0 S0 ρ S ob w ef) := by
  unfold inpK at h
  split at h
  case h_2 => cases h
  case h_1 id g off len =>
  obtain ⟨x, ys, rfl, hv1, hv2⟩ := hv
  obtain rfl : ys = [] := hv2
  split at h
  case h_2 => cases h
  case h_1 e' u xs0 ho =>
  split at h
  case h_2 => cases h
  case h_1 xs hcs =>
  split at hcs
  case isFalse => cases hcs
  case isTrue hbe =>
  have he : e' = i.e := nbeq_eq hbe
  subst he
  obtain ⟨hu, hxs⟩ := cast_at hcs
  subst hu
  have hxs' : xs0 = xs := hxs
  subst hxs'
  split at h
  case isFalse => cases h
  case isTrue hb0 =>
  refine ⟨_, h, ?_⟩
  obtain ⟨hb, hb1⟩ := hb0
  have hval1 := hI.val
  have hs1 := isVal_size hval1
  obtain ⟨y, hy, hyg, _, hle, hcase⟩ := ref_at hok hv1 (.inl ho)
  have hya : y.o = .arr i.e i.t xs0 := by
    obtain ⟨q, hq, hqg, hqo⟩ := obAt_live ho (by simp)
    rw [hy] at hq; cases hq; exact hqo
  have hyy : look ob id = some ⟨id, g, .arr i.e i.t xs0⟩ := by
    rw [hy]
    have := look_id hy
    cases y
    simp only at this hyg hya
    rw [this, hyg, hya]
  generalize hgz : i.g (List.take len (List.drop off xs0)) = zs'
  have hzl : zs'.length = len := by
    rw [← hgz, hI.len, List.length_take, List.length_drop]; omega
  show Calls P i.f [x].toArray w (CallR P w0 M0 S0 ρ S ob w ⟨.un, [⟨id, g, .arr i.e i.t (List.take off xs0 ++ (zs' ++ List.drop (off + len) xs0))⟩]⟩)
  by_cases hl0 : len = 0
  · subst hl0
    obtain rfl : zs' = [] := List.length_eq_zero_iff.1 hzl
    have hsame : (⟨id, g, .arr i.e i.t (List.take off xs0 ++ ([] ++ List.drop (off + 0) xs0))⟩ : OE) = ⟨id, g, .arr i.e i.t xs0⟩ := by
      rw [List.nil_append, Nat.add_zero, List.take_append_drop]
    have hval : ∃ a c, x = .slice a 0 c := by
      rcases hcase with ⟨_, rfl, _⟩ | ⟨b, cap, cur, e2, fr, _, _, _, (rfl | ⟨_, _, _, o', rfl⟩), _⟩
      · exact ⟨_, _, rfl⟩
      · exact ⟨_, _, rfl⟩
      · exact ⟨_, _, rfl⟩
    obtain ⟨a, c, rfl⟩ := hval
    refine (hI.zero a c w).mono fun e w' ⟨he, hw⟩ => ?_
    subst he
    subst hw
    rw [hsame]
    refine ⟨_, rfl, ρ, S, trivial, ?_, ?_, fun _ _ h => h, Agree.refl _ _⟩
    · simp only [updAll]; rw [setOb_same hyy]; exact hok
    · simp only [updAll]; rw [setOb_same hyy]; exact Ext.refl _ _
  · rcases hcase with ⟨_, _, rfl⟩ | ⟨b, cap, cur0, e2, fr, hr, hoc, hxc, hval, _, _⟩
    · exact absurd hb (by simp; omega)
    · rcases hval with rfl | ⟨h0, _⟩
      · have hor := hok.obs id _ hyy
        simp only [OR, hr] at hor
        obtain ⟨cur, hh, h1, h2, h3, hR⟩ := hor
        rw [hs1, Nat.mul_one] at h3
        generalize hzs : List.take len (List.drop off xs0) = zs at hgz
        have hzl2 : zs.length = len := by rw [← hzs, List.length_take, List.length_drop]; omega
        have hget : ∀ (j : Nat) (z : i.t.T), xs0[j]? = some z → cur[j]? = some (i.t.val z) := by
          intro j z hz
          obtain ⟨c, hd, hcc⟩ := hR j z hz
          rw [isVal_DR hval1] at hd
          subst hd
          have := hcc 0 _ rfl
          rw [hs1, Nat.mul_one, Nat.add_zero, Array.getElem?_toList] at this
          exact this
        have hcall := hI.calls b (off * i.t.size) (cap - off) zs cur w hh (by rw [hs1]; omega) (by omega) (fun j z hz => by
          rw [hs1, Nat.mul_one]
          refine hget (off + j) z ?_
          rw [← hzs, List.getElem?_take] at hz
          split at hz
          · rw [List.getElem?_drop] at hz; exact hz
          · cases hz)
        rw [hzl2] at hcall
        refine hcall.mono fun e w' ⟨he, hwl, cur', hh', hsz, hcur⟩ => ?_
        subst he
        have hA := hwl.agree hok.within (fun b' f hs hb => (hok.own id _ b cap hyy trivial hr).1 f (hb ▸ hs))
        have hlen' : (List.take off xs0 ++ (zs' ++ List.drop (off + len) xs0)).length = xs0.length := by
          simp only [List.length_append, List.length_take, List.length_drop]; omega
        obtain ⟨hok', hE'⟩ := hok.upd hyy trivial hr hwl (o' := .arr i.e i.t (List.take off xs0 ++ (zs' ++ List.drop (off + len) xs0))) ⟨rfl, rfl, hlen'.symm⟩ trivial (by
          simp only [OR, hr]
          refine ⟨cur', hh', by exact Nat.le_trans (Nat.le_of_eq hlen') h1, h2, by rw [hsz, hs1, Nat.mul_one]; exact h3, ?_⟩
          intro j xj hxj
          refine ⟨[i.t.val xj], (isVal_DR hval1).2 rfl, fun q u hq => ?_⟩
          have hq0 : q = 0 := by
            have := (List.getElem?_eq_some_iff.1 hq).1
            simpa using this
          subst hq0
          simp only [List.getElem?_cons_zero, Option.some.injEq] at hq
          subst hq
          rw [hs1, Nat.mul_one, Nat.add_zero, Array.getElem?_toList, hcur j, hs1, Nat.mul_one]
          have hxj' : (List.take off xs0 ++ (zs' ++ List.drop (off + len) xs0))[j]? = some xj := hxj
          rw [splice_int hb hzl] at hxj'
          split at hxj'
          · rename_i hin; rw [if_pos hin, hgz, hxj']; rfl
          · rename_i hin; rw [if_neg hin]; exact hget j xj hxj')
        exact ⟨_, rfl, ρ, S, trivial, hok', hE', fun _ _ h => h, hA⟩
      · exact absurd h0 hl0
theorem call_sound (hEnv : EnvOk P C) (hok : StOk P w0 M0 S0 ρ S ob w) {d : Option Nat} {fv : V} {fval : Value} {vs : List V} {vals : List Value} {K : Eff → Option R} (hf : VR P w ρ S ob fv fval) (hv : VRs P w ρ S ob vs vals)
    (h : callK C d fv vs ob K = some r) : ∃ ef, K ef = some r ∧ ∃ f caps, fval = .func (.func f) #[] caps ∧ Enters P f ∧ Calls P f (vals.toArray ++ caps) w (CallR P w0 M0 S0 ρ S ob w ef) := by
  unfold callK at h
  split at h
  · rename_i f
    split at h
    case h_2 =>
      split at h
      case h_2 => cases h
      case h_1 i hin =>
      obtain ⟨hmem, hf0⟩ := inpOf_mem hin
      have hI := hEnv.2 _ hmem
      subst hf0
      obtain ⟨us, rfl, hcr⟩ := (hf : ∃ us : List Value, fval = .func (.func i.f) #[] us.toArray ∧ CR P w ρ S ob .un us)
      obtain rfl : us = [] := hcr
      obtain ⟨ef, hK, hc⟩ := inpK_sound hI hok hv h
      exact ⟨ef, hK, i.f, #[], rfl, hI.enters, by rw [Array.append_empty]; exact hc⟩
    case h_1 f0 sh rs g hent =>
    obtain ⟨hmem, hf0⟩ := entOf_mem hent
    have hE := hEnv.1 _ hmem
    simp only at hf0
    subst hf0
    obtain ⟨us, rfl, hcr⟩ := (hf : ∃ us : List Value, fval = .func (.func f0) #[] us.toArray ∧ CR P w ρ S ob .un us)
    obtain rfl : us = [] := hcr
    split at h
    case h_2 => cases h
    case h_1 p hp =>
    split at h
    case isFalse => cases h
    case isTrue hpk =>
    cases hg : g p.x with
    | none => rw [hg] at h; cases h
    | some y =>
      rw [hg] at h
      simp only [Option.bind_some] at h
      cases hou : outsU ob sh vs (Sh.sndL rs (Sh.outs sh) y) with
      | none => simp [hou] at h
      | some u' =>
        simp only [hou] at h
        split at h
        case isFalse => cases h
        case isTrue hck =>
        simp only [Bool.and_eq_true] at hck
        obtain ⟨⟨hck1, hck2⟩, hck3⟩ := hck
        refine ⟨_, h, f0, #[], rfl, hE.enters, ?_⟩
        unfold Pk.ok at hpk
        simp only [Bool.and_eq_true] at hpk
        obtain ⟨E0, hE0⟩ := fresh_nat (Sh.elemsL (rs ++ Sh.outs sh))
        have hnd := nodupb_nodup hpk.1
        have hap := apart_spec hpk.2
        have hlive := packs_live hp
        have hL := lent_supC (lent := p.lent) (E0 := E0) hok
        have hargs := packs_sound hEnv hok (fun b e h => (.inl h : supC ρ ob p.lent E0 S b e)) hv hp hL
        have hcall := hE.calls p.x y hg w (supC ρ ob p.lent E0 S) vals (blocks ρ p.gone) (supC_within hok) hargs (blocks_nodup hok hnd hlive) (fun b hb => by
          obtain ⟨id, hid, c, hr⟩ := blocks_mem.1 hb
          obtain ⟨z, hz, hzl⟩ := hlive id hid
          obtain ⟨o1, o2, o3⟩ := hok.own id z b c hz hzl hr
          refine ⟨o3, ?_⟩
          rintro e (hs | ⟨id2, h2, q, c2, hq, hr2, hm⟩)
          · exact o1 e hs
          · have hql : q.o.live := by
              obtain ⟨_, _, qo⟩ := q
              cases qo <;> first | trivial | exact hm.elim
            have := hok.inj id2 id q z b c2 c hq hz hql hzl hr2 hr
            subst this
            exact hap id2 hid h2)
        rw [Array.append_empty]
        refine hcall.mono fun e w' hpost => ?_
        obtain ⟨rvs, S', M, N, he, hl, hsub, hnew, hwi, hMN, hfr, hret, houts⟩ := hpost.out
        refine ⟨retOf rvs, he, ?_⟩
        have F : CallF ρ ob S w p.lent p.gone (Sh.elemsL (rs ++ Sh.outs sh)) E0 w' S' := ⟨hlive, hnd, hap, hE0, hl, hsub, hnew, hwi⟩
        have hless : ∀ b e, e ∈ Sh.elemsL (rs ++ Sh.outs sh) → S' b e → supR ρ ob p.lent (Sh.elemsL (rs ++ Sh.outs sh)) S' b e := fun b e he hs => F.less hok he hs
        have hres' := ArgsR_to hck2 (fun b e he hs => hless b e (by rw [elemsL_append]; exact List.mem_append_left _ he) hs) hret
        have houts' := OutsR_to hck1 (fun b e he hs => hless b e (by rw [elemsL_append]; exact List.mem_append_right _ he) hs) houts
        obtain ⟨l1, hl1⟩ := unpacks_sound (h := hres (d.getD 999)) (k := 0) (ob := ob) (ρ := ρ) (gone := p.gone) hck2 hres'
        obtain ⟨⟨l2, hl2⟩, hcov⟩ := outs_sound hck1 hv hp (fun id h => h) houts' hou
        refine call_out hok F ((hl1.append hl2).mono fun _ _ _ h => h.1) hMN hfr ?_ ?_
        · have := nodupb_nodup hck3
          rw [idsOf_map] at this
          exact this
        · intro id hid g v hlk
          rw [List.map_append]
          exact List.mem_append_right _ (hcov id hid g v hlk)
  · rename_i a rt g
    split at h
    case h_2 => cases h
    case h_1 x hx =>
    cases hg : g x with
    | none => rw [hg] at h; cases h
    | some y =>
      rw [hg] at h
      simp only [Option.bind_some] at h
      refine ⟨_, h, ?_⟩
      obtain ⟨f, caps, rfl, hent, hcalls⟩ := (hf : FnR P w S a rt g fval)
      refine ⟨f, caps, rfl, hent, ?_⟩
      obtain ⟨E0, hE0⟩ := fresh_nat rt.elems
      have hL := lent_supC (lent := idsL vs) (E0 := E0) hok
      have hargs := closeArgs_sound hok (fun b e h => (.inl h : supC ρ ob (idsL vs) E0 S b e)) hv hx hL.row
      refine (hcalls w (supC ρ ob (idsL vs) E0 S) (fun b e h => .inl h) (Agree.refl _ _) (supC_within hok) x y hg vals hargs).mono fun e w' hpost => ?_
      obtain ⟨rv, S', he, hvd, hl, hsub, hnew, hwi⟩ := hpost.out
      refine ⟨rv, he, ?_⟩
      have F : CallF ρ ob S w (idsL vs) [] rt.elems E0 w' S' := ⟨fun id h => by simp at h, by simp, fun id h => by simp at h, hE0, hl.mono fun b hb => hb.elim, hsub, fun b e hs => by
        rcases hnew b e hs with h | h
        · exact .inl h
        · exact .inr (.inr h), hwi⟩
      have hvd' : VD w' (supR ρ ob (idsL vs) rt.elems S') rt y rv := by
        unfold VD at hvd ⊢
        split
        · rename_i ha
          rw [if_pos ha] at hvd
          obtain ⟨cs, rfl, hd⟩ := hvd
          exact ⟨cs, rfl, DR_less (fun b e he hs => F.less hok he hs) hd⟩
        · rename_i ha
          rw [if_neg ha] at hvd
          exact DR_less (fun b e he hs => F.less hok he hs) hvd
      have := call_out (U := []) (l := []) (v := .dat rt y) (val := rv) (Ms := []) hok F (Lays.nil fun _ _ => hvd') (by simp) (by simp) (by simp) (by simp)
      simpa [kill] using this
  · cases h
end
end Go.Ab

namespace Go.Ab
set_option linter.unusedVariables false
set_option linter.unusedSimpArgs false

/-! ### 44. Operations -/
section
variable {P : Program} {w0 w : World} {M0 : Nat → Prop} {S0 S : Sup} {Pin : Nat → Nat → Prop} {ρ : Rho} {s : St} {a : Act} {C : Ctx} {R : Type} {r : R}
theorem VRs_map {ρo : Operand → V} {ρv : Operand → Value} {ob : List OE} (hv : ∀ x, VR P w ρ S ob (ρo x) (ρv x)) : ∀ (xs : List Operand), VRs P w ρ S ob (xs.map ρo) (xs.map ρv)
  | [] => rfl
  | x :: xs => ⟨_, _, rfl, hv x, VRs_map hv xs⟩
theorem VRs_len {ob : List OE} : ∀ {vs : List V} {xs : List Value}, VRs P w ρ S ob vs xs → xs.length = vs.length
  | [], xs, h => by obtain rfl : xs = [] := h; rfl
  | v :: vs, xs, h => by obtain ⟨x, ys, rfl, _, h⟩ := h; simp [VRs_len h]
theorem VRs_get {ob : List OE} : ∀ {vs : List V} {xs : List Value}, VRs P w ρ S ob vs xs → ∀ (i : Nat) v x, vs[i]? = some v → xs[i]? = some x → VR P w ρ S ob v x
  | [], xs, h, i, v, x, hv, hx => by simp at hv
  | v :: vs, xs, h, i, v', x', hv, hx => by
    obtain ⟨x, ys, rfl, h1, h⟩ := h
    cases i with
    | zero => simp at hv hx; subst hv; subst hx; exact h1
    | succ i => simp at hv hx; exact VRs_get h i v' x' hv hx
theorem leafCap_of {v : V} (h : leafCap v = true) : v.sk = .leaf ∧ ∀ t y, v ≠ .dat t y := by
  cases v <;> simp [leafCap] at h <;> exact ⟨rfl, fun t y e => by cases e⟩
theorem capsLeaf_of {ρo : Operand → V} : ∀ {xs : List Operand}, capsLeaf ρo xs = true → ∀ x ∈ xs, (ρo x).sk = .leaf ∧ ∀ t y, ρo x ≠ .dat t y
  | [], _, x, hx => by simp at hx
  | y :: xs, h, x, hx => by
    simp only [capsLeaf, Bool.and_eq_true] at h
    rcases List.mem_cons.1 hx with rfl | hx
    · exact leafCap_of h.1
    · exact capsLeaf_of h.2 x hx
theorem OptR_map {ob : List OE} {ρo : Operand → V} {ρv : Operand → Value} (hv : ∀ x, VR P w ρ S ob (ρo x) (ρv x)) (o : Option Operand) : OptR P w ρ S ob (o.map ρo) (o.map ρv) := by
  cases o with
  | none => trivial
  | some x => exact hv x
theorem builtin_sound (hT : TyOk P C) (hok : StOk P w0 M0 S0 ρ S s.ob w) {d : Option Nat} {b : Builtin} {ts : Array TypeId} {ty : TypeId} {vs : List V} {vals : List Value} {K : Eff → Option R}
    (hv : VRs P w ρ S s.ob vs vals) (h : builtinK C d b ts.toList vs s.ob K = some r) :
    ∃ ef, K ef = some r ∧ ∃ val w', (∀ cs, (builtin b ts ty cs vals.toArray).run P w = .ok (.value val) w') ∧ Out P w0 M0 S0 ρ S s.ob w ef val w' := by
  unfold builtinK at h
  split at h
  · rename_i x t hts
    obtain ⟨x', ys, rfl, h1, h2⟩ := hv
    obtain rfl : ys = [] := h2
    obtain rfl : ts = #[t] := by rw [← Array.toArray_toList (xs := ts), hts]
    obtain ⟨v, val, hK, hrun, hvr⟩ := len_sound (ty := ty) hT hok h1 h
    exact ⟨_, hK, val, w, fun cs => by simp [builtin, hrun], Out.pure hok hvr⟩
  · rename_i t hts
    obtain ⟨x', ys, rfl, h1, h2⟩ := hv
    obtain rfl : ys = [] := h2
    obtain rfl : ts = #[t] := by rw [← Array.toArray_toList (xs := ts), hts]
    split at h
    · rename_i e u hty
      obtain ⟨hu, _⟩ := (hT t _ hty).sl _ _ rfl
      have hx : x' = .slice none 0 0 := h1
      subst hx
      exact ⟨_, h, .int .i64 0, w, fun cs => by simp [builtin, Builtin.cap_, run_underlying hu, goInt], Out.pure hok (VR_int.2 rfl)⟩
    · cases h
  · rename_i x y t t' hts
    split at h
    case isFalse =>
      obtain ⟨x', ys, rfl, h1, h2⟩ := hv
      obtain ⟨y', zs, rfl, h3, h4⟩ := h2
      obtain rfl : zs = [] := h4
      obtain rfl : ts = #[t, t'] := by rw [← Array.toArray_toList (xs := ts), hts]
      obtain ⟨ef, hK, val, w', hrun, hout⟩ := appendM_sound (ty := ty) hT hok h1 h3 h
      exact ⟨ef, hK, val, w', fun cs => by simp [builtin, hrun], hout⟩
    case isTrue ht =>
    obtain rfl := nbeq_eq ht
    obtain ⟨x', ys, rfl, h1, h2⟩ := hv
    obtain ⟨y', zs, rfl, h3, h4⟩ := h2
    obtain rfl : zs = [] := h4
    obtain rfl : ts = #[t, t] := by rw [← Array.toArray_toList (xs := ts), hts]
    obtain ⟨ef, hK, val, w', hrun, hout⟩ := append_sound (ty := ty) hT hok h1 h3 h
    exact ⟨ef, hK, val, w', fun cs => by simp [builtin, hrun], hout⟩
  · rename_i x t hts
    obtain ⟨x', ys, rfl, h1, h2⟩ := hv
    obtain rfl : ys = [] := h2
    obtain rfl : ts = #[t] := by rw [← Array.toArray_toList (xs := ts), hts]
    obtain ⟨ef, hK, val, w', hrun, hout⟩ := clear_sound (ty := ty) hT hok h1 h
    exact ⟨ef, hK, val, w', fun cs => by simp [builtin, hrun], hout⟩
  · rename_i x y t t' hts
    split at h
    case isFalse => cases h
    case isTrue ht =>
    obtain rfl := nbeq_eq ht
    obtain ⟨x', ys, rfl, h1, h2⟩ := hv
    obtain ⟨y', zs, rfl, h3, h4⟩ := h2
    obtain rfl : zs = [] := h4
    obtain rfl : ts = #[t, t] := by rw [← Array.toArray_toList (xs := ts), hts]
    obtain ⟨ef, hK, val, w', hrun, hout⟩ := copy_sound (ty := ty) hT hok h1 h3 h
    exact ⟨ef, hK, val, w', fun cs => by simp [builtin, hrun], hout⟩
  · obtain ⟨v, hK, val, hrun, hvr⟩ := mm_sound (VRs_len hv) (VRs_get hv) ts ty h
    have hrun' : (Builtin.max_ ts ty vals.toArray).run P w = .ok val w := by simpa using hrun
    exact ⟨_, hK, val, w, fun cs => by simp [builtin, hrun'], Out.pure hok hvr⟩
  · obtain ⟨v, hK, val, hrun, hvr⟩ := mm_sound (VRs_len hv) (VRs_get hv) ts ty h
    have hrun' : (Builtin.min_ ts ty vals.toArray).run P w = .ok val w := by simpa using hrun
    exact ⟨_, hK, val, w, fun cs => by simp [builtin, hrun'], Out.pure hok hvr⟩
  · cases h
theorem eff_sound (hT : TyOk P C) (hEnv : EnvOk P C) (h : Rel P w0 M0 S0 Pin ρ S s a w) {o : Oper} {K : Eff → Option R} (he : effK C o (ev s) s.ob K = some r) :
    ∃ ef, K ef = some r ∧ OpOk P o a w (fun v w' => Out P w0 M0 S0 ρ S s.ob w ef v w') := by
  have hv := h.ev
  have hok := h.ok
  obtain ⟨dst, op, type, pos, after, guard⟩ := o
  have pureV : ∀ {o : Oper} {v : V} {x : Value}, (execOp a.eval o).run P w = .ok (.value x) w → VR P w ρ S s.ob v x → K ⟨v, []⟩ = some r → ∃ ef, K ef = some r ∧ OpOk P o a w (fun v w' => Out P w0 M0 S0 ρ S s.ob w ef v w') :=
    fun hr hx hk => ⟨_, hk, OpOk.value hr (Out.pure hok hx)⟩
  cases op with
  | move x => exact pureV (x := a.eval x) (by simp [execOp]) (hv x) he
  | assign x => exact pureV (x := a.eval x) (by simp [execOp]) (hv x) he
  | pick c x y =>
    simp only [effK] at he
    split at he
    case h_2 => cases he
    case h_1 b hc =>
    have hcv := hv c
    rw [hc, VR_bool] at hcv
    cases b with
    | true => exact pureV (x := a.eval x) (by simp [execOp, hcv, asBool]) (hv x) he
    | false => exact pureV (x := a.eval y) (by simp [execOp, hcv, asBool]) (hv y) he
  | alloc t =>
    simp only [effK] at he
    split at he
    case h_2 => cases he
    case h_1 =>
    rename_i ty d hty
    obtain ⟨val, w', hrun, hout⟩ := alloc_sound (d := d) hT hok hty
    exact ⟨_, he, OpOk.value (by simp [execOp, hrun]) hout⟩
  | box t x =>
    simp only [effK] at he
    split at he
    case h_2 => cases he
    case h_1 =>
    rename_i d
    split at he
    case isFalse => cases he
    case isTrue ht =>
    obtain ⟨val, w', hrun, hout⟩ := box_sound (d := d) hok (hv x) ht
    exact ⟨_, he, OpOk.value (by simp [execOp, hrun]) hout⟩
  | build t ps =>
    simp only [effK] at he
    split at he
    case h_2 => cases he
    case h_1 ty n hty hn =>
    split at he
    case h_2 => cases he
    case h_1 v hf =>
    obtain ⟨x, hrun, hx⟩ := build_sound hT hv hty hn hf
    exact pureV (by simp only [execOp, Sem.run_bind, hrun]; rfl) hx he
  | buildSlice t n ps =>
    simp only [effK] at he
    split at he
    case h_2 => cases he
    case h_1 =>
    rename_i e tt d hty
    split at he
    case isFalse => cases he
    case isTrue hn =>
    split at he
    case h_2 => cases he
    case h_1 l hl =>
    obtain ⟨val, w', hrun, hout⟩ := buildSlice_sound (d := d) hT hok hv hty hn hl
    exact ⟨_, he, OpOk.value (by simp only [execOp, Sem.run_bind, hrun]; rfl) hout⟩
  | load t x =>
    simp only [effK] at he
    split at he
    case h_2 => cases he
    case h_1 v hl =>
    split at he
    case isFalse => cases he
    case isTrue ht =>
    obtain ⟨val, hrun, hx⟩ := load_sound hT hok (hv x) hl ht
    exact pureV (by simp [execOp, hrun]) hx he
  | store t x y =>
    simp only [effK] at he
    split at he
    case isFalse => cases he
    case isTrue ht =>
    split at he
    case h_2 => cases he
    case h_1 u hl =>
    obtain ⟨w', hrun, hout⟩ := store_sound hT hok (hv x) (hv y) ht hl
    exact ⟨_, he, OpOk.skip (by simp [execOp, hrun]) hout⟩
  | nilCheck x =>
    simp only [effK] at he
    have hx := hv x
    have place : ∀ {v u : V}, ev s x = v → loadP s.ob v = some u → K ⟨v, []⟩ = some r → ∃ ef, K ef = some r ∧ OpOk P ⟨dst, .nilCheck x, type, pos, after, guard⟩ a w (fun v w' => Out P w0 M0 S0 ρ S s.ob w ef v w') := by
      intro v u hvx hl hk
      rw [hvx] at hx
      obtain ⟨ad, cs, had, _⟩ := place_at hok hx hl
      exact pureV (x := a.eval x) (by simp [execOp, had]) hx hk
    split at he
    · rename_i id g p hp
      split at he
      · rename_i u hl; exact place hp hl he
      · cases he
    · rename_i id g i p hp
      split at he
      · rename_i u hl; exact place hp hl he
      · cases he
    · rename_i t y hp; exact place hp rfl he
    · rename_i f c hp
      rw [hp] at hx
      have hx2 := hx
      obtain ⟨vs, hf, _⟩ := (hx2 : ∃ vs : List Value, a.eval x = .func (.func f) #[] vs.toArray ∧ CR P w ρ S s.ob c vs)
      exact pureV (x := a.eval x) (by simp [execOp, hf]) hx he
    · rename_i t u f hp
      rw [hp] at hx
      have hx2 := hx
      obtain ⟨fid, caps, hf, _⟩ := (hx2 : FnR P w S t u f (a.eval x))
      exact pureV (x := a.eval x) (by simp [execOp, hf]) hx he
    · cases he
  | binOp op t x y _ =>
    simp only [effK] at he
    obtain ⟨v, val, hK, hrun, hx⟩ := binK_sound (x := x) (y := y) hT (hv x) (hv y) he
    exact pureV (x := val) (by simp only [execOp]; rw [Sem.run_bind]; simp [hrun]) hx hK
  | unOp op t x =>
    simp only [effK] at he
    obtain ⟨v, val, hK, hrun, hx⟩ := un_sound (hv x) he
    exact pureV (by simp [execOp, hrun]) hx hK
  | convert sr t x =>
    simp only [effK] at he
    obtain ⟨v, hK, val, w', hrun, hout⟩ := conv_sound hT hok (hv x) he
    exact ⟨_, hK, OpOk.value (by simp [execOp, hrun]) hout⟩
  | makeSlice t n c =>
    simp only [effK] at he
    obtain ⟨ef, hK, val, w', hrun, hout⟩ := make_sound hT hok (hv n) (hv c) he
    exact ⟨_, hK, OpOk.value (by simp [execOp, hrun]) hout⟩
  | makeFunc fn fs cs =>
    cases fn with
    | func f =>
      simp only [effK] at he
      split at he
      case isFalse => cases he
      case isTrue hc =>
      simp only [Bool.and_eq_true] at hc
      have hfs : fs = #[] := Array.eq_empty_of_size_eq_zero (nbeq_eq hc.1)
      subst hfs
      have hcr := capsOf_sound hv cs.toList (capsLeaf_of hc.2)
      refine pureV (v := .clo f (capsOf (ev s) cs.toList)) (x := .func (.func f) #[] (cs.toList.map a.eval).toArray) ?_ ⟨_, rfl, hcr⟩ he
      have e : cs.map a.eval = (cs.toList.map a.eval).toArray := by rw [← Array.toList_map]
      simp only [execOp, Instr.makeFunc, Sem.run_bind, e]
      simp
    | _ => simp [effK] at he
  | slice t x lo hi mx =>
    cases mx with
    | some m => simp [effK] at he
    | none =>
      simp only [effK] at he
      obtain ⟨v, val, hK, hrun, hx⟩ := slice_sound hT hok (hv x) (OptR_map hv lo) (OptR_map hv hi) he
      exact pureV (by simp [execOp, hrun]) hx hK
  | fieldAddr t x j =>
    simp only [effK] at he
    split at he
    case h_2 => cases he
    case h_1 n hn =>
    split at he
    case h_2 => cases he
    case h_1 u v hl hf =>
    split at he
    case isFalse => cases he
    case isTrue ht =>
    split at he
    case isFalse => cases he
    case isTrue hj =>
    obtain ⟨val, hrun, hx⟩ := field_sound hT hok (hv x) hl ht hn hf hj
    exact pureV (by simp [execOp, hrun]) hx he
  | field t x j =>
    simp only [effK] at he
    split at he
    case h_2 => cases he
    case h_1 n hn =>
    split at he
    case h_2 => cases he
    case h_1 v hf =>
    split at he
    case isFalse => cases he
    case isTrue ht =>
    split at he
    case isFalse => cases he
    case isTrue hj =>
    obtain ⟨val, hrun, hx⟩ := part_sound hT (hv x) ht hn hj hf
    exact pureV (by simp [execOp, hrun]) hx he
  | indexAddr t x i =>
    simp only [effK] at he
    obtain ⟨v, val, hK, hrun, hx⟩ := idx_sound hT hok (hv x) (hv i) he
    exact pureV (by simp [execOp, hrun]) hx hK
  | index t x i =>
    simp only [effK] at he
    split at he
    case h_1 e n har =>
      split at he
      case h_2 => cases he
      case h_1 k i' u hi hu =>
      split at he
      case h_2 => cases he
      case h_1 l hl =>
      split at he
      case isFalse => cases he
      case isTrue ht =>
      split at he
      case isFalse => cases he
      case isTrue hb =>
      have h2 := hv i
      rw [hi, VR_int] at h2
      obtain ⟨y, hrun, hy⟩ := index_array (k := k) hT (hv x) ht har hl hb.1 hb.2
      exact pureV (by simp only [execOp, h2, Sem.run_bind, hrun]; rfl) hy he
    case h_2 =>
    split at he
    case h_2 => cases he
    case h_1 l k n hx hi =>
    split at he
    case h_2 => cases he
    case h_1 hty =>
    split at he
    case isFalse => cases he
    case isTrue hb =>
    have h1 := hv x
    have h2 := hv i
    rw [hx, VR_str] at h1
    rw [hi, VR_int] at h2
    have hu := (hT _ _ hty).str rfl
    have h3 : (0 : Int) ≤ n := hb.1
    have h4 : (n : Int) < (List.length (α := UInt8) l : Int) := hb.2
    have h5 : Int.toNat n < List.length (α := UInt8) l := by
      have := Int.toNat_of_nonneg h3
      exact Int.ofNat_lt.1 (by rw [this]; exact h4)
    refine pureV (x := .int .u8 ((List.getD (α := UInt8) l (Int.toNat n) 0).toNat : Int)) ?_ (VR_int.2 rfl) he
    have hsz : (⟨List.toArray (α := UInt8) l⟩ : ByteArray).size = List.length (α := UInt8) l := by simp [ByteArray.size]
    have hrun := run_index_string (P := P) w t ⟨List.toArray (α := UInt8) l⟩ k n hu
    rw [dif_pos ⟨h3, by rw [hsz]; exact h4⟩] at hrun
    simp only [execOp, h1, h2, Sem.run_bind, hrun]
    simp [List.getD_eq_getElem?_getD, List.getElem?_eq_getElem h5]
    rfl
  | extract x n =>
    simp only [effK] at he
    split at he
    case h_2 => cases he
    case h_1 v hf =>
    obtain ⟨val, hrun, hx⟩ := extract_sound (hv x) hf
    exact pureV (by simp [execOp, hrun]) hx he
  | call c =>
    obtain ⟨callee, args, argTypes⟩ := c
    cases callee with
    | value f =>
      simp only [effK] at he
      obtain ⟨ef, hK, fid, caps, hf, hent, hcalls⟩ := call_sound hEnv hok (hv f) (VRs_map hv args.toList) he
      refine ⟨ef, hK, OpOk.call (f := fid) (args := (args.toList.map a.eval).toArray ++ caps) (w1 := w) ?_ hcalls fun e w' he => he⟩
      have hent' := hent (((args.toList.map a.eval).toArray) ++ caps) w
      have e : args.map a.eval = (args.toList.map a.eval).toArray := by rw [← Array.toList_map]
      simp only [execOp, resolve, hf, Deferred.ofValue, Sem.run_bind]
      simp [invoke]
      rw [e]
      exact hent'
    | builtin b =>
      simp only [effK] at he
      obtain ⟨ef, hK, val, w', hrun, hout⟩ := builtin_sound (ty := type) hT hok (VRs_map hv args.toList) he
      refine ⟨ef, hK, OpOk.value ?_ hout⟩
      have e : args.map a.eval = (args.toList.map a.eval).toArray := by rw [← Array.toList_map]
      simp only [execOp, resolve, Sem.run_bind, e]
      simp [invoke]
      exact hrun _
    | invoke _ _ => simp [effK] at he
  | _ => simp [effK] at he
end
end Go.Ab

namespace Go.Ab
set_option linter.unusedVariables false
set_option linter.unusedSimpArgs false

/-! ### 45. Rows of operations, in order -/
section
variable {P : Program} {w0 w : World} {M0 : Nat → Prop} {S0 S : Sup} {Pin : Nat → Nat → Prop} {ρ : Rho} {s : St} {a : Act} {C : Ctx} {R : Type} {r : R}
/-- the state is the frame's, and the rest of the code gives r -/
def Good (P : Program) (w0 : World) (M0 : Nat → Prop) (S0 : Sup) (Pin : Nat → Nat → Prop) (K : St → Option R) (r : R) (a : Act) (w : World) : Prop :=
  ∃ ρ S s, Rel P w0 M0 S0 Pin ρ S s a w ∧ K s = some r
theorem op_sound (hT : TyOk P C) (hEnv : EnvOk P C) (h : Rel P w0 M0 S0 Pin ρ S s a w) {o : Oper} {K : St → Option R} (he : opK C o s K = some r) :
    OpOk P o a w (fun v w' => Good P w0 M0 S0 Pin K r (a.put o.dst v) w') := by
  obtain ⟨ef, hK, hok⟩ := eff_sound hT hEnv h he
  intro next Q hn
  refine hok next Q fun v w' ho => hn v w' ?_
  obtain ⟨ρ', S', hr⟩ := h.app (d := o.dst) ho
  exact ⟨ρ', S', _, hr, hK⟩
theorem Rel.same (h : Rel P w0 M0 S0 Pin ρ S s a w) {d : Nat} {v : V} (hd : d < s.tm.length) (hv : VR P w ρ S s.ob v (a.tmps.getD d undef)) : Rel P w0 M0 S0 Pin ρ S (s.set (some d) v) a w := by
  have := h.set (d := some d) hv
  have e : a.put (some d) (a.tmps.getD d undef) = a := by
    have hd' : d < a.tmps.size := by rw [h.size]; exact hd
    obtain ⟨t, ds⟩ := a
    simp only [Act.put, Act.mk.injEq, and_true]
    apply Array.ext
    · simp
    · intro i h1 h2
      rw [Array.getElem_setIfInBounds (by simpa using h2)]
      split
      · rename_i hi; subst hi; simp [Array.getD, show d < t.size from hd']
      · rfl
  rwa [e] at this
theorem step_sound (hT : TyOk P C) (hEnv : EnvOk P C) (h : Rel P w0 M0 S0 Pin ρ S s a w) {ops : Array Oper} {o : Oper} {K : St → Option R} (he : stepK C ops.toList o s K = some r) {N : Act → World → Prop} {Q : Exit → Act → World → Prop}
    (hN : ∀ a' w', Good P w0 M0 S0 Pin K r a' w' → N a' w') : if Region.wanted o (yielded ops a.tmps) then o.wp P a w N Q else N (a.put o.dst undef) w := by
  unfold stepK at he
  cases hg : o.guard with
  | none =>
    simp only [hg] at he
    rw [if_pos (by simp [Region.wanted, hg])]
    exact op_sound hT hEnv h he N Q fun v w' hgd => hN _ _ hgd
  | some jw =>
    obtain ⟨j, wt⟩ := jw
    simp only [hg] at he
    cases hd : gdst ops.toList j with
    | none => simp [hd] at he
    | some d =>
      simp only [hd] at he
      have hd' : (ops[j]?).bind (·.dst) = some d := by
        unfold gdst at hd
        rw [Array.getElem?_toList] at hd
        cases ho : ops[j]? with
        | none => simp [ho] at hd
        | some o' => simpa [ho] using hd
      split at he
      case h_3 => cases he
      case h_2 hb =>
        have hlt : d < s.tm.length := by
          rcases Nat.lt_or_ge d s.tm.length with hlt | hge
          · exact hlt
          · rw [List.getD_eq_getElem?_getD, List.getElem?_eq_none hge] at hb
            cases hb
        have hsd : s.tm[d]? = some .ud := by
          rw [List.getElem?_eq_getElem hlt]
          rw [List.getD_eq_getElem?_getD, List.getElem?_eq_getElem hlt] at hb
          simpa using hb
        have hval : a.tmps.getD d undef = undef := h.tmps d _ hsd
        have hdt : d < a.tmps.size := by rw [h.size]; exact hlt
        have hgt : a.tmps[d]? = some undef := by
          rw [Array.getElem?_eq_getElem hdt]
          simpa [Array.getD, hdt] using hval
        have hy : yielded ops a.tmps j = none := by
          unfold yielded
          rw [hd']
          simp only [Option.bind_some, hgt, undef]
        have hw : Region.wanted o (yielded ops a.tmps) = false := by
          simp only [Region.wanted, hg, hy]
          rfl
        rw [hw]
        exact hN _ _ ⟨ρ, S, _, h.set (d := o.dst) (v := .ud) (val := undef) rfl, he⟩
      case h_1 b hb =>
      have hlt : d < s.tm.length := by
        rcases Nat.lt_or_ge d s.tm.length with hlt | hge
        · exact hlt
        · rw [List.getD_eq_getElem?_getD, List.getElem?_eq_none hge] at hb
          cases hb
      have hsd : s.tm[d]? = some (.dat .bool b) := by
        rw [List.getElem?_eq_getElem hlt]
        rw [List.getD_eq_getElem?_getD, List.getElem?_eq_getElem hlt] at hb
        simpa using hb
      have hvr := h.tmps d _ hsd
      have hval := hvr
      rw [VR_bool] at hval
      have hdt : d < a.tmps.size := by rw [h.size]; exact hlt
      have hgt : a.tmps[d]? = some (.bool b) := by
        rw [Array.getElem?_eq_getElem hdt]
        simpa [Array.getD, hdt] using hval
      have hy : yielded ops a.tmps j = some b := by
        unfold yielded
        rw [hd']
        simp [hgt]
      have hrel := h.same hlt hvr
      have key := he
      have hw : Region.wanted o (yielded ops a.tmps) = (b == wt) := by
        simp only [Region.wanted, hg, hy]
        cases b <;> cases wt <;> rfl
      rw [hw]
      have run : opK C o (s.set (some d) (.dat .bool b)) K = some r → o.wp P a w N Q := fun hr => op_sound hT hEnv hrel hr N Q fun v w' hgd => hN _ _ hgd
      have skip : K ((s.set (some d) (.dat .bool b)).set o.dst .ud) = some r → N (a.put o.dst undef) w := fun hr => hN _ _ ⟨ρ, S, _, hrel.set (d := o.dst) (v := .ud) (val := undef) rfl, hr⟩
      cases b <;> cases wt
      · exact run key
      · exact skip key
      · exact skip key
      · exact run key
theorem ops_sound (hT : TyOk P C) (hEnv : EnvOk P C) {ops : Array Oper} {Q : Exit → Act → World → Prop} : ∀ (l : List Oper) {ρ : Rho} {S : Sup} {s : St} {a : Act} {w : World} {K : St → Option R}, Rel P w0 M0 S0 Pin ρ S s a w →
    opsK C ops.toList l s K = some r → (∀ a' w', Good P w0 M0 S0 Pin K r a' w' → Q .normal a' w') → wpList P ops Q l a w
  | [], ρ, S, s, a, w, K, h, he, hQ => hQ a w ⟨ρ, S, s, h, he⟩
  | o :: l, ρ, S, s, a, w, K, h, he, hQ => by
    have := step_sound (Q := Q) hT hEnv h (ops := ops) (o := o) (K := fun s => opsK C ops.toList l s K) he (N := wpList P ops Q l) fun a' w' hg => by
      obtain ⟨ρ', S', s', hr, hk⟩ := hg
      exact ops_sound hT hEnv l hr hk hQ
    unfold wpList
    split
    · rename_i hw; rw [if_pos hw] at this; exact .inl this
    · rename_i hw; rw [if_neg hw] at this; exact this
end

/-! ### 46. A loop's head -/
theorem look_mem : ∀ {l : List OE} {x : OE}, (l.map (·.id)).Nodup → x ∈ l → look l x.id = some x
  | y :: l, x, hn, hx => by
    simp only [List.map_cons, List.nodup_cons] at hn
    rw [look_cons]
    rcases List.mem_cons.1 hx with rfl | hx
    · rw [if_pos rfl]
    · rw [if_neg, look_mem hn.2 hx]
      intro e
      exact hn.1 (by rw [e]; exact List.mem_map.2 ⟨x, hx, rfl⟩)
theorem look_some_mem : ∀ {l : List OE} {id : Nat} {x : OE}, look l id = some x → x ∈ l
  | y :: l, id, x, h => by
    rw [look_cons] at h
    split at h
    · cases h; simp
    · exact List.mem_cons_of_mem _ (look_some_mem h)
section
variable {P : Program} {w0 w : World} {M0 : Nat → Prop} {S0 S : Sup} {Pin : Nat → Nat → Prop} {ρ : Rho} {s : St} {a : Act} {C : Ctx} {R : Type} {r : R}
/-- a state is made of rows and boxes that were laid out -/
theorem start_ok {S' : Sup} {u : List OE} {Ms : List Nat} {F : Rho → List OE → Prop} {l : Lay} (hl : Lays P w S' [] ρ [] u Ms F l) (hids : (u.map (·.id)).Nodup) (hMn : Ms.Nodup)
    (hM : ∀ b ∈ Ms, (∀ e, ¬ S' b e) ∧ (M0 b ∨ w0.heap.size ≤ b) ∧ b < w.heap.size) (hw : Within S' w) (hsub : ∀ b e, S0 b e → S' b e) (hsup : ∀ b e, S' b e → S0 b e ∨ M0 b ∨ w0.heap.size ≤ b) (hleft : Left w0 w M0) :
    StOk P w0 M0 S0 (layRho l fun _ => none) S' u w ∧ F (layRho l fun _ => none) u ∧ Laid (layRho l fun _ => none) u l := by
  have hln : l.map (fun x => x.1.id) = u.map (·.id) := by rw [← hl.names]; simp
  have hlnod : (l.map (fun x => x.1.id)).Nodup := by rw [hln]; exact hids
  have hlaid : Laid (layRho l fun _ => none) u l := fun x hx => ⟨look_mem hids (by rw [← hl.names]; exact List.mem_map.2 ⟨x, hx, rfl⟩), layRho_mem hlnod hx⟩
  obtain ⟨hor, hF⟩ := hl.all _ _ hlaid
  have hget : ∀ id y, look u id = some y → ∃ x ∈ l, x.1 = y ∧ x.1.id = id := by
    intro id y hy
    have hm := look_some_mem hy
    rw [← hl.names] at hm
    obtain ⟨x, hx, rfl⟩ := List.mem_map.1 hm
    exact ⟨x, hx, rfl, look_id hy⟩
  have hb : ∀ x ∈ l, ∀ b c, x.2 = some (b, c) → b ∈ Ms := by
    intro x hx b c hr
    rw [← hl.blk]
    exact List.mem_filterMap.2 ⟨x, hx, by rw [hr]; rfl⟩
  refine ⟨⟨fun id y hy => ?_, ?_, ?_, hw, hsub, hsup, hleft⟩, hF, hlaid⟩
  · obtain ⟨x, hx, rfl, rfl⟩ := hget id y hy
    exact hor x hx
  · intro i j x y b c c' hi hj li lj hr hr'
    obtain ⟨p, hp, rfl, rfl⟩ := hget i x hi
    obtain ⟨q, hq, rfl, rfl⟩ := hget j y hj
    rw [(hlaid p hp).2] at hr
    rw [(hlaid q hq).2] at hr'
    rw [layBlocks_inj (by rw [hl.blk]; exact hMn) hp hq hr hr']
  · intro i x b c hi li hr
    obtain ⟨p, hp, rfl, rfl⟩ := hget i x hi
    rw [(hlaid p hp).2] at hr
    exact hM b (hb p hp b c hr)
theorem close_VD (hok : StOk P w0 M0 S0 ρ S s.ob w) {S' : Sup} (hS : ∀ b e, S b e → S' b e) {v : V} {val : Value} {t : Ty} {x : t.T} (hv : VR P w ρ S s.ob v val) (hc : close s.ob t v = some x) (hL : Lent ρ s.ob v.ids S') : VD w S' t x val := by
  have hb := close_ne_bad hc
  have hag := close_agg hc
  unfold VD
  by_cases ha : t.isAgg = true
  · rw [if_pos ha]
    obtain ⟨hcs, hagg⟩ := VR_cells hv hb
    obtain ⟨cs, rfl⟩ := hagg.2 (by rw [hag, ha])
    exact ⟨cs, rfl, close_sound hok hS hcs hc hL⟩
  · rw [if_neg ha]
    exact close_sound hok hS (VR_leaf hv hb (by rw [hag]; simpa using ha)) hc hL
/-- what the new head holds so far -/
structure Head (P : Program) (w : World) (ρ : Rho) (S' : Sup) (ob : List OE) (a : Act) (c : Cn) : Prop where
  lay : ∃ l, Lays P w S' [] ρ [] c.ob (blocks ρ c.gone) (fun ρ' ob' => ∀ i v, c.tm[i]? = some v → VR P w ρ' S' ob' v (a.tmps.getD i undef)) l ∧
    ∀ x ∈ l, isPin x.1.id = true → x.1.g = 0 ∧ ∃ y, look ob x.1.id = some y ∧ y.g = 0 ∧ ρ x.1.id = x.2
  live : ∀ id ∈ c.gone, ∃ y, look ob id = some y ∧ y.o.live
theorem set_get {l : List V} {i : Nat} {v : V} {P' : Nat → V → Prop} (h : ∀ j u, l[j]? = some u → P' j u) (hv : P' i v) : ∀ j u, (l.set i v)[j]? = some u → P' j u := by
  intro j u hj
  rw [List.getElem?_set] at hj
  split at hj
  · rename_i hij
    split at hj
    · cases hj; subst hij; exact hv
    · cases hj
  · exact h j u hj
theorem slot_VR (h : Rel P w0 M0 S0 Pin ρ S s a w) (i : Nat) : VR P w ρ S s.ob (s.tm.getD i .un) (a.tmps.getD i undef) := by
  rw [List.getD_eq_getElem?_getD]
  cases hi : s.tm[i]? with
  | none => trivial
  | some v => exact h.tmps i v hi
theorem noPins_of : ∀ {l : List OE}, noPins l = true → ∀ x ∈ l, isPin x.id = false
  | y :: l, h, x, hx => by
    simp only [noPins, Bool.and_eq_true, Bool.not_eq_true'] at h
    rcases List.mem_cons.1 hx with rfl | hx
    · exact h.1
    · exact noPins_of h.2 x hx
theorem alOne_of {i j : Nat} {c c' : Cn} (h : alOne s i j c = some c') : ∃ id g len len' n g' o m e t xs, s.tm.getD i .un = .ref id g 0 len ∧ s.tm.getD j .un = .ref id g 0 len' ∧ c.tm.getD j .un = .ref n g' o m ∧
    obAt s.ob id g = .arr e t xs ∧ c' = ⟨c.tm.set i (.ref n g' o m), c.ob, c.lent, c.gone⟩ := by
  unfold alOne at h
  split at h
  · rename_i id g len id' g' len' n h' o m h1 h2 h3
    split at h
    · rename_i e t xs hob
      split at h
      · rename_i hb
        simp only [Bool.and_eq_true] at hb
        obtain rfl := nbeq_eq hb.1
        obtain rfl := nbeq_eq hb.2
        cases h
        exact ⟨_, _, _, _, _, _, _, _, _, _, _, h1, h2, h3, hob, rfl⟩
      · cases h
    · cases h
  · cases h
theorem canonOne_lent {c c' : Cn} {q : SS} (h : canonOne C s c q = some c') : ∀ id ∈ c.lent, id ∈ c'.lent := by
  intro id hid
  cases q with
  | d i ty => simp only [canonOne] at h; split at h <;> cases h; simp [hid]
  | o i n e ty =>
    simp only [canonOne] at h
    split at h
    · split at h <;> cases h; simp [hid]
    · cases h
  | cp i =>
    simp only [canonOne] at h
    split at h <;> cases h <;> exact hid
  | bx i n sh =>
    simp only [canonOne] at h
    split at h
    · split at h
      · split at h
        · split at h <;> cases h; simp [hid]
        · cases h
      · cases h
    · cases h
  | al i j =>
    obtain ⟨_, _, _, _, _, _, _, _, _, _, _, _, _, _, _, rfl⟩ := alOne_of (show alOne s i j c = some c' from h)
    exact hid
/-- what is asked of a slot that holds another one's row -/
def alP (s : St) : SS → Prop
  | .al i j => ∀ id g o len id' g' o' len', s.tm.getD i .un = .ref id g o len → s.tm.getD j .un = .ref id' g' o' len' → len = len'
  | _ => True
theorem alK_of {R : Type} {s : St} : ∀ {l : List SS} {X : Option R} {r : R}, alK s l X = some r → (∀ q ∈ l, alP s q) ∧ X = some r
  | [], X, r, h => ⟨fun q hq => by simp at hq, h⟩
  | .al i j :: l, X, r, h => by
    simp only [alK] at h
    split at h
    · rename_i id g o len id' g' o' len' h1 h2
      split at h
      · rename_i hl
        obtain ⟨k1, k2⟩ := alK_of h
        refine ⟨fun q hq => ?_, k2⟩
        rcases List.mem_cons.1 hq with rfl | hq
        · intro _ _ _ _ _ _ _ _ e1 e2
          rw [h1] at e1
          rw [h2] at e2
          cases e1
          cases e2
          exact hl
        · exact k1 q hq
      · cases h
    · cases h
  | .d _ _ :: l, X, r, h => by
    obtain ⟨k1, k2⟩ := alK_of (l := l) h
    refine ⟨fun q hq => ?_, k2⟩
    rcases List.mem_cons.1 hq with rfl | hq
    · trivial
    · exact k1 q hq
  | .o _ _ _ _ :: l, X, r, h => by
    obtain ⟨k1, k2⟩ := alK_of (l := l) h
    refine ⟨fun q hq => ?_, k2⟩
    rcases List.mem_cons.1 hq with rfl | hq
    · trivial
    · exact k1 q hq
  | .cp _ :: l, X, r, h => by
    obtain ⟨k1, k2⟩ := alK_of (l := l) h
    refine ⟨fun q hq => ?_, k2⟩
    rcases List.mem_cons.1 hq with rfl | hq
    · trivial
    · exact k1 q hq
  | .bx _ _ _ :: l, X, r, h => by
    obtain ⟨k1, k2⟩ := alK_of (l := l) h
    refine ⟨fun q hq => ?_, k2⟩
    rcases List.mem_cons.1 hq with rfl | hq
    · trivial
    · exact k1 q hq
/-- a row's value is known by its name -/
theorem ref_one {id g len : Nat} {x y : Value} {ob : List OE} (h : LR P w ρ S ob (.ref id g 0 len) x) (k : LR P w ρ S ob (.ref id g 0 len) y) {e : Nat} {t : Ty} {xs : List t.T} (ho : obAt ob id g = .arr e t xs) : x = y := by
  obtain ⟨h, _⟩ := h
  obtain ⟨k, _⟩ := k
  obtain ⟨_, _, _, _, h1⟩ := h.of ho (by simp)
  obtain ⟨_, _, _, _, k1⟩ := k.of ho (by simp)
  obtain ⟨_, h2⟩ := h1
  obtain ⟨_, k2⟩ := k1
  cases hr : ρ id with
  | none => rw [hr] at h2 k2; simp only at h2 k2; rw [h2, k2]
  | some bc =>
    obtain ⟨b, cc⟩ := bc
    rw [hr] at h2 k2
    simp only at h2 k2
    have h3 := h2.2
    have k3 := k2.2
    rcases h3 with h3 | ⟨_, _, h0, _⟩
    · rcases k3 with k3 | ⟨_, _, k0, _⟩
      · rw [h3, k3]
      · omega
    · omega
theorem canonOne_sound (hEnv : EnvOk P C) (h : Rel P w0 M0 S0 Pin ρ S s a w) {S' : Sup} (hS : ∀ b e, S b e → S' b e) {c c' : Cn} {q : SS} (hq : alP s q) (hc : canonOne C s c q = some c') (hL : LentAll ρ s.ob c'.lent S') (hH : Head P w ρ S' s.ob a c) :
    Head P w ρ S' s.ob a c' := by
  obtain ⟨⟨l, hl, hpin⟩, hlive⟩ := hH
  cases q with
  | d i ty =>
    simp only [canonOne] at hc
    split at hc
    case h_2 => cases hc
    case h_1 x hx =>
    cases hc
    have hvd := close_VD h.ok hS (slot_VR h i) hx hL.left.row
    exact ⟨⟨l, hl.mono fun ρ' ob' _ hF => set_get hF hvd, hpin⟩, hlive⟩
  | o i n e ty =>
    simp only [canonOne] at hc
    split at hc
    case h_2 => cases hc
    case h_1 p hp =>
    split at hc
    case isTrue => cases hc
    case isFalse hpn =>
    cases hc
    have hsr := pack_sound hEnv h.ok hS (slot_VR h i) hp hL.left
    obtain ⟨m, hm⟩ := unpack_one (h := fun _ => n) (k := 0) (ob := []) (ρ := ρ) (gone := []) (a := .o e ty) rfl hsr
    refine ⟨⟨m ++ l, ?_, ?_⟩, ?_⟩
    · have := hm.append hl
      rw [← blocks_append] at this
      refine this.mono fun ρ' ob' _ hF => ?_
      exact set_get hF.2 hF.1
    · intro x hx hpx
      rcases List.mem_append.1 hx with hx | hx
      · exfalso
        have : x.1 ∈ m.map (·.1) := List.mem_map.2 ⟨x, hx, rfl⟩
        rw [hm.names] at this
        simp only [unpack, List.mem_singleton] at this
        rw [this] at hpx
        exact hpn hpx
      · exact hpin x hx hpx
    · intro id hid
      rcases List.mem_append.1 hid with hid | hid
      · exact pack_live hp id hid
      · exact hlive id hid
  | cp i =>
    have hsv := slot_VR h i
    simp only [canonOne] at hc
    split at hc
    · rename_i ty x hx
      cases hc
      rw [hx] at hsv
      obtain ⟨ad, hv, hp⟩ := (hsv : ∃ ad, a.tmps.getD i undef = .pointer (some ad) ∧ PlaceR w S ty x ad)
      exact ⟨⟨l, hl.mono fun ρ' ob' _ hF => set_get hF ⟨ad, hv, PlaceR_mono hS (Agree.refl S w) hp⟩, hpin⟩, hlive⟩
    · rename_i u1 u2 f hx
      cases hc
      rw [hx] at hsv
      have hsv' : FnR P w S u1 u2 f (a.tmps.getD i undef) := hsv
      exact ⟨⟨l, hl.mono fun ρ' ob' _ hF => set_get hF (FnR_mono hS (Agree.refl S w) hsv'), hpin⟩, hlive⟩
    · rename_i f hx
      cases hc
      rw [hx] at hsv
      obtain ⟨vs, hv, hcr⟩ := (hsv : ∃ vs : List Value, a.tmps.getD i undef = .func (.func f) #[] vs.toArray ∧ CR P w ρ S s.ob .un vs)
      exact ⟨⟨l, hl.mono fun ρ' ob' _ hF => set_get hF ⟨vs, hv, hcr⟩, hpin⟩, hlive⟩
    · cases hc
  | bx i n sh =>
    have hsv := slot_VR h i
    simp only [canonOne] at hc
    split at hc
    case h_2 => cases hc
    case h_1 id' g hx =>
    split at hc
    case h_2 => cases hc
    case h_1 v hob =>
    split at hc
    case h_2 => cases hc
    case h_1 p hp =>
    split at hc
    case isFalse => cases hc
    case isTrue hck =>
    cases hc
    simp only [Bool.and_eq_true] at hck
    obtain ⟨⟨hpl, hnp⟩, hpn⟩ := hck
    rw [hx] at hsv
    have hl' : Now s.ob id' g (fun o => BpO (ρ id') o [] (a.tmps.getD i undef)) ∧ _ := hsv
    obtain ⟨z, hz, hzg, hzo, _, b, cc, hr, hval⟩ := hl'.1.of hob (by simp)
    have hor := h.ok.obs id' z hz
    rw [hzo] at hor
    obtain ⟨b', c', cur, e, hr', hh, hvc⟩ := hor
    rw [hr] at hr'
    cases hr'
    have hsr := pack_cells hEnv h.ok hS hvc hp hL.left
    obtain ⟨m, hm⟩ := unpack_sound (h := hbox n) (k := 0) (ob := []) (ρ := ρ) (gone := []) hpl hsr
    have hbx : Lays P w S' [] ρ [] (⟨n, 0, .box (unpack [] (hbox n) sh p.x 0).v⟩ :: (unpack [] (hbox n) sh p.x 0).u) (b :: blocks ρ p.gone)
        (fun ρ' ob' => VR P w ρ' S' ob' (.bp n 0 []) (a.tmps.getD i undef)) ((⟨n, 0, .box (unpack [] (hbox n) sh p.x 0).v⟩, some (b, cc)) :: m) := by
      refine ⟨by rw [List.map_cons, hm.names], by rw [← hm.blk]; simp [layBlocks], fun ρ' ob' hLd => ?_, fun q hq => ?_, fun q hq => ?_⟩
      · obtain ⟨q1, q2⟩ := hm.all ρ' ob' fun q hq => hLd q (List.mem_cons_of_mem _ hq)
        obtain ⟨k1, k2⟩ := hLd _ (List.mem_cons_self ..)
        refine ⟨fun q hq => ?_, ?_⟩
        · rcases List.mem_cons.1 hq with rfl | hq
          · exact ⟨b, cc, cur, e, k2, hh, q2⟩
          · exact q1 q hq
        · refine ⟨⟨_, k1, Nat.le_refl _, fun _ => ⟨rfl, b, cc, k2, ?_⟩⟩, _, hval⟩
          rw [hval]
          have e1 : Sk.off [] v.sk = 0 := by cases v.sk <;> rfl
          have e2 : ∀ u : V, Sk.off [] u.sk = 0 := fun u => by cases u.sk <;> rfl
          rw [e1, e2]
      · rcases List.mem_cons.1 hq with rfl | hq
        · trivial
        · exact hm.live q hq
      · rcases List.mem_cons.1 hq with rfl | hq
        · exact .inl rfl
        · exact hm.gen q hq
    refine ⟨⟨((⟨n, 0, .box (unpack [] (hbox n) sh p.x 0).v⟩, some (b, cc)) :: m) ++ l, ?_, ?_⟩, ?_⟩
    · have := hbx.append hl
      have e : (b :: blocks ρ p.gone) ++ blocks ρ c.gone = blocks ρ (id' :: p.gone ++ c.gone) := by
        rw [List.cons_append, ← blocks_append]
        simp [blocks, hr]
      rw [e] at this
      exact this.mono fun ρ' ob' _ hF => set_get hF.2 hF.1
    · intro x hx hpx
      rcases List.mem_append.1 hx with hx | hx
      · rcases List.mem_cons.1 hx with rfl | hx
        · simp only at hpx
          rw [hpx] at hpn
          simp only [Bool.not_true, Bool.false_or, Bool.and_eq_true] at hpn
          obtain rfl := nbeq_eq hpn.1
          obtain rfl := nbeq_eq hpn.2
          exact ⟨rfl, z, hz, hzg, hr⟩
        · exfalso
          have : x.1 ∈ m.map (·.1) := List.mem_map.2 ⟨x, hx, rfl⟩
          rw [hm.names] at this
          rw [noPins_of hnp _ this] at hpx
          cases hpx
      · exact hpin x hx hpx
    · intro id hid
      rcases List.mem_append.1 hid with hid | hid
      · rcases List.mem_cons.1 hid with rfl | hid
        · exact ⟨z, hz, by rw [hzo]; trivial⟩
        · exact pack_live hp id hid
      · exact hlive id hid
  | al i j =>
    obtain ⟨id, g, len, len', n, g', o, m, e, t, xs, h1, h2, h3, hob, rfl⟩ := alOne_of (show alOne s i j c = some c' from hc)
    have hi := slot_VR h i
    have hj := slot_VR h j
    obtain rfl := hq _ _ _ _ _ _ _ _ h1 h2
    rw [h1] at hi
    rw [h2] at hj
    have hv : a.tmps.getD i undef = a.tmps.getD j undef := ref_one (P := P) (w := w) (S := S) hi hj hob
    refine ⟨⟨l, hl.mono fun ρ' ob' _ hF => set_get hF ?_, hpin⟩, hlive⟩
    have hc3 : c.tm[j]? = some (.ref n g' o m) := by
      rw [List.getD_eq_getElem?_getD] at h3
      cases hcj : c.tm[j]? with
      | none => rw [hcj] at h3; cases h3
      | some v => rw [hcj] at h3; simp only [Option.getD_some] at h3; rw [h3]
    rw [hv]
    exact hF j _ hc3
theorem canonL_sound (hEnv : EnvOk P C) (h : Rel P w0 M0 S0 Pin ρ S s a w) {S' : Sup} (hS : ∀ b e, S b e → S' b e) : ∀ {qs : List SS} {c c' : Cn}, (∀ q ∈ qs, alP s q) → canonL C s qs c = some c' → LentAll ρ s.ob c'.lent S' → Head P w ρ S' s.ob a c →
    Head P w ρ S' s.ob a c' ∧ ∀ id ∈ c.lent, id ∈ c'.lent
  | [], c, c', hq, hc, hL, hH => by
    simp only [canonL, Option.some.injEq] at hc
    subst hc
    exact ⟨hH, fun _ h => h⟩
  | q :: qs, c, c', hq, hc, hL, hH => by
    simp only [canonL] at hc
    split at hc
    case h_2 => cases hc
    case h_1 c1 h1 =>
    have key : ∀ {qs : List SS} {c c' : Cn}, canonL C s qs c = some c' → ∀ id ∈ c.lent, id ∈ c'.lent := by
      intro qs
      induction qs with
      | nil => intro c c' hc id hid; simp only [canonL, Option.some.injEq] at hc; subst hc; exact hid
      | cons q qs ih =>
        intro c c' hc id hid
        simp only [canonL] at hc
        split at hc
        case h_2 => cases hc
        case h_1 c1 h1 => exact ih hc id (canonOne_lent h1 id hid)
    have hH1 := canonOne_sound hEnv h hS (hq q List.mem_cons_self) h1 (hL.mono (key hc)) hH
    exact ⟨(canonL_sound hEnv h hS (fun q' hq' => hq q' (List.mem_cons_of_mem _ hq')) hc hL hH1).1, fun id hid => key hc id (canonOne_lent h1 id hid)⟩
theorem pinsKept_of {l : List Nat} : ∀ {obs : List OE}, pinsKept l obs = true → ∀ x ∈ obs, isPin x.id = true → x.id ∈ l
  | y :: obs, h, x, hx, hp => by
    simp only [pinsKept, Bool.and_eq_true, Bool.or_eq_true, Bool.not_eq_true'] at h
    rcases List.mem_cons.1 hx with rfl | hx
    · rcases h.1 with h1 | h1
      · rw [h1] at hp; cases hp
      · exact memb_mem.1 h1
    · exact pinsKept_of h.2 x hx hp
theorem canonOne_len {c c' : Cn} {q : SS} (h : canonOne C s c q = some c') : c'.tm.length = c.tm.length := by
  cases q with
  | d i ty => simp only [canonOne] at h; split at h <;> cases h; simp
  | o i n e ty =>
    simp only [canonOne] at h
    split at h
    · split at h <;> cases h; simp
    · cases h
  | cp i =>
    simp only [canonOne] at h
    split at h <;> cases h <;> simp
  | bx i n sh =>
    simp only [canonOne] at h
    split at h
    · split at h
      · split at h
        · split at h <;> cases h; simp
        · cases h
      · cases h
    · cases h
  | al i j =>
    obtain ⟨_, _, _, _, _, _, _, _, _, _, _, _, _, _, _, rfl⟩ := alOne_of (show alOne s i j c = some c' from h)
    simp
theorem canonL_len : ∀ {qs : List SS} {c c' : Cn}, canonL C s qs c = some c' → c'.tm.length = c.tm.length
  | [], c, c', hc => by simp only [canonL, Option.some.injEq] at hc; subst hc; rfl
  | q :: qs, c, c', hc => by
    simp only [canonL] at hc
    split at hc
    case h_2 => cases hc
    case h_1 c1 h1 =>
    rw [canonL_len hc, canonOne_len h1]
theorem canon_sound (hEnv : EnvOk P C) (hPin : ∀ i b, Pin i b → isPin i = true) (h : Rel P w0 M0 S0 Pin ρ S s a w) {cur : Nat} {s' : St} (hq : ∀ q ∈ (assoc C.spec cur).getD [], alP s q) (hc : canon C cur s = some s') : ∃ ρ' S', Rel P w0 M0 S0 Pin ρ' S' s' a w := by
  unfold canon at hc
  split at hc
  case h_2 => cases hc
  case h_1 c hcl =>
  split at hc
  case isFalse => cases hc
  case isTrue hck =>
  cases hc
  simp only [Bool.and_eq_true] at hck
  obtain ⟨⟨⟨h1, h2⟩, h3⟩, h4⟩ := hck
  have hS : ∀ b e, S b e → supC ρ s.ob c.lent 0 S b e := fun b e h => .inl h
  have hH0 : Head P w ρ (supC ρ s.ob c.lent 0 S) s.ob a ⟨List.replicate s.tm.length .un, [], [], []⟩ :=
    ⟨⟨[], Lays.nil (fun ρ' ob' (i : Nat) (v : V) (hi : (List.replicate s.tm.length V.un)[i]? = some v) => by
      rw [List.getElem?_replicate] at hi
      split at hi
      · cases hi; trivial
      · cases hi), fun x hx => by simp at hx⟩, fun id hid => by simp at hid⟩
  obtain ⟨⟨⟨l, hl, hpin⟩, hlive⟩, _⟩ := canonL_sound hEnv h hS hq hcl (lent_supC h.ok) hH0
  have hnd := nodupb_nodup h1
  have hap := apart_spec h2
  have hids := nodupb_nodup h3
  rw [idsOf_map] at hids
  obtain ⟨hok, hF, hlaid⟩ := start_ok (M0 := M0) (S0 := S0) (w0 := w0) hl hids (blocks_nodup h.ok hnd hlive) (fun b hb => by
    obtain ⟨id, hid, c1, hr⟩ := blocks_mem.1 hb
    obtain ⟨z, hz, hzl⟩ := hlive id hid
    obtain ⟨o1, o2, o3⟩ := h.ok.own id z b c1 hz hzl hr
    refine ⟨?_, o2, o3⟩
    rintro e (hs | ⟨id2, h2, q, c2, hq, hr2, hm⟩)
    · exact o1 e hs
    · have hql : q.o.live := by
        obtain ⟨_, _, qo⟩ := q
        cases qo <;> first | trivial | exact hm.elim
      have := h.ok.inj id2 id q z b c2 c1 hq hz hql hzl hr2 hr
      subst this
      exact hap id2 hid h2) (supC_within h.ok) (fun b e hs => .inl (h.ok.sub b e hs)) (fun b e hs => by
    rcases hs with hs | ⟨id2, h2, y, c2, hy, hr2, hm⟩
    · exact h.ok.supp b e hs
    · have hyl : y.o.live := by
        obtain ⟨_, _, yo⟩ := y
        cases yo <;> first | trivial | exact hm.elim
      exact .inr (h.ok.own id2 y b c2 hy hyl hr2).2.1) h.ok.left
  refine ⟨_, _, ⟨h.defers, ?_, hF, hok, fun i b hp => ?_⟩⟩
  · rw [h.size, canonL_len hcl]; simp
  · obtain ⟨x, hx, hr⟩ := h.pins i b hp
    have hxi := look_id hx
    have hip := hPin i b hp
    have hin := pinsKept_of h4 x (look_some_mem hx) (by rw [hxi]; exact hip)
    rw [hxi, idsOf_map] at hin
    obtain ⟨y, hy, hyi⟩ := List.mem_map.1 hin
    have hy' := hy
    rw [← hl.names] at hy'
    obtain ⟨z, hz, rfl⟩ := List.mem_map.1 hy'
    obtain ⟨hg, q, hq, hq0, hqr⟩ := hpin z hz (by rw [hyi]; exact hip)
    rw [hyi] at hq hqr
    rw [hx] at hq
    cases hq
    obtain ⟨cc, hcc⟩ := hr hq0
    have hl2 := hlaid z hz
    rw [hyi] at hl2
    exact ⟨z.1, hl2.1, fun _ => ⟨cc, by rw [hl2.2, ← hqr, hcc]⟩⟩
end
end Go.Ab

namespace Go.Ab
set_option linter.unusedVariables false
set_option linter.unusedSimpArgs false

section
variable {C : Ctx} {ob ob' : List OE} {R : Type} {r : R}
theorem obAt_congr {id g : Nat} (h : look ob' id = look ob id) : obAt ob' id g = obAt ob id g := by unfold obAt; rw [h]
theorem genOf_congr {id : Nat} (h : look ob' id = look ob id) : genOf ob' id = genOf ob id := by unfold genOf; rw [h]
theorem close_congr : ∀ {v : V} {t : Ty}, (∀ id ∈ v.ids, look ob' id = look ob id) → close ob' t v = close ob t v := by
  intro v
  induction v with
  | ref id g off len =>
    intro t h
    cases t <;> simp only [close]
    rw [obAt_congr (h id (by simp [V.ids]))]
  | st1 a ih =>
    intro t h
    cases t <;> simp only [close]
    exact ih fun id hid => h id (by simpa [V.ids] using hid)
  | st a b iha ihb =>
    intro t h
    cases t <;> simp only [close]
    rw [iha fun id hid => h id (by simp [V.ids, hid]), ihb fun id hid => h id (by simp [V.ids, hid])]
  | _ => intro t h; cases t <;> simp only [close]
theorem capK_congr {t : Ty} {v : V} (hf : v.flat = true) : capK ob' t v = capK ob t v := by
  cases v with
  | ip u x =>
    have h : close ob' t (.dat u x) = close ob t (.dat u x) := close_congr fun id hid => by simp [V.ids] at hid
    simp only [capK, capAt, h]
  | bp id g p => simp [V.flat] at hf
  | ap id g i p => simp [V.flat] at hf
  | _ => rfl
theorem capsK_un {«as» : List Sh} : capsK ob' «as» .un = capsK ob «as» .un := by
  cases «as» with
  | nil => rfl
  | cons a r => cases a <;> rfl
theorem packFn_congr {a r : Ty} {v : V} (hf : v.flat = true) : packFn C ob' a r v = packFn C ob a r v := by
  cases v with
  | clo f c =>
    cases c <;> simp [V.flat] at hf
    simp only [packFn]
    split
    · simp only [capsK_un (ob := ob) (ob' := ob')]
    · rfl
  | _ => rfl
theorem pack_congr : ∀ {a : Sh} {v : V}, v.flat = true → (∀ id ∈ v.ids, look ob' id = look ob id) → pack C ob' a v = pack C ob a v
  | .d t, v, hf, h => by simp only [pack, close_congr h]
  | .o e t, v, hf, h => by
    cases v with
    | ref id g off len =>
      cases off with
      | succ n => rfl
      | zero => simp only [pack, obAt_congr (h id (by simp [V.ids]))]
    | _ => rfl
  | .one a, v, hf, h => by
    cases v with
    | st1 u => simp only [pack]; rw [pack_congr (a := a) (v := u) hf h]
    | _ => rfl
  | .pair a b, v, hf, h => by
    cases v with
    | st u w =>
      simp only [V.flat, Bool.and_eq_true] at hf
      simp only [pack]
      rw [pack_congr (a := a) hf.1 fun id hid => h id (by simp [V.ids, hid]), pack_congr (a := b) hf.2 fun id hid => h id (by simp [V.ids, hid])]
    | dat t x =>
      cases t with
      | pair t u =>
        simp only [pack]
        rw [pack_congr (a := a) (v := .dat t x.1) rfl fun id hid => by simp [V.ids] at hid, pack_congr (a := b) (v := .dat u x.2) rfl fun id hid => by simp [V.ids] at hid]
      | _ => rfl
    | _ => rfl
  | .fn a r, v, hf, h => by simp only [pack, packFn_congr (ob := ob) (ob' := ob') hf]
  | .pi t, v, hf, h => by simp only [pack, capK_congr (ob := ob) (ob' := ob') hf]
  | .nl, v, hf, h => by cases v <;> rfl
  | .pm a, v, hf, h => by
    cases v with
    | bp id g p => simp [V.flat] at hf
    | _ => rfl
theorem pack_congr_plain : ∀ {a : Sh} {v : V}, a.plain = true → (∀ id ∈ v.ids, look ob' id = look ob id) → pack C ob' a v = pack C ob a v
  | .d t, v, hf, h => by simp only [pack, close_congr h]
  | .o e t, v, hf, h => by
    cases v with
    | ref id g off len =>
      cases off with
      | succ n => rfl
      | zero => simp only [pack, obAt_congr (h id (by simp [V.ids]))]
    | _ => rfl
  | .one a, v, hf, h => by
    cases v with
    | st1 u => simp only [pack]; rw [pack_congr_plain (a := a) (v := u) hf h]
    | _ => rfl
  | .pair a b, v, hf, h => by
    simp only [Sh.plain, Bool.and_eq_true] at hf
    cases v with
    | st u w =>
      simp only [pack]
      rw [pack_congr_plain (a := a) hf.1 fun id hid => h id (by simp [V.ids, hid]), pack_congr_plain (a := b) hf.2 fun id hid => h id (by simp [V.ids, hid])]
    | dat t x =>
      cases t with
      | pair t u =>
        simp only [pack]
        rw [pack_congr_plain (a := a) (v := .dat t x.1) hf.1 fun id hid => by simp [V.ids] at hid, pack_congr_plain (a := b) (v := .dat u x.2) hf.2 fun id hid => by simp [V.ids] at hid]
      | _ => rfl
    | _ => rfl
  | .fn _ _, v, hf, h => by simp [Sh.plain] at hf
  | .pi _, v, hf, h => by simp [Sh.plain] at hf
  | .nl, v, hf, h => by simp [Sh.plain] at hf
  | .pm _, v, hf, h => by simp [Sh.plain] at hf
theorem fst_ids {v w : V} (h : v.fst = some w) : ∀ id ∈ w.ids, id ∈ v.ids := by
  cases v with
  | dat t x => cases t <;> simp [V.fst] at h <;> subst h <;> simp [V.ids]
  | st1 a => simp [V.fst] at h; subst h; simp [V.ids]
  | st a b => simp [V.fst] at h; subst h; intro id hid; simp [V.ids, hid]
  | _ => simp [V.fst] at h
theorem snd_ids {v w : V} (h : v.snd = some w) : ∀ id ∈ w.ids, id ∈ v.ids := by
  cases v with
  | dat t x => cases t <;> simp [V.snd] at h <;> subst h <;> simp [V.ids]
  | st a b => simp [V.snd] at h; subst h; intro id hid; simp [V.ids, hid]
  | _ => simp [V.snd] at h
theorem at_ids : ∀ {p : List Bool} {v w : V}, V.at p v = some w → ∀ id ∈ w.ids, id ∈ v.ids
  | [], v, w, h => by simp only [V.at, Option.some.injEq] at h; subst h; exact fun _ h => h
  | false :: p, v, w, h => by
    simp only [V.at] at h
    cases hf : v.fst with
    | none => simp [hf] at h
    | some u => rw [hf] at h; exact fun id hid => fst_ids hf id (at_ids (p := p) h id hid)
  | true :: p, v, w, h => by
    simp only [V.at] at h
    cases hf : v.snd with
    | none => simp [hf] at h
    | some u => rw [hf] at h; exact fun id hid => snd_ids hf id (at_ids (p := p) h id hid)
theorem deep_flat {v : V} (hf : v.flat = true) : v.deep ob = v.ids := by cases v <;> first | rfl | simp [V.flat] at hf
theorem flatP_cases {v : V} (h : v.flatP = true) : v.flat = true ∨ (∃ id g p, v = .bp id g p) ∨ ∃ id g i p, v = .ap id g i p := by
  cases v with
  | bp id g p => exact .inr (.inl ⟨_, _, _, rfl⟩)
  | ap id g i p => exact .inr (.inr ⟨_, _, _, _, rfl⟩)
  | _ => exact .inl h
theorem capAt_ids {v w : V} (h : capAt ob v = some w) : ∀ id ∈ w.ids, id ∈ v.deep ob := by
  cases v with
  | ip u x => simp only [capAt, Option.some.injEq] at h; subst h; simp [V.ids]
  | bp id g p =>
    simp only [capAt] at h
    split at h
    · rename_i u hu
      intro i hi
      simp only [V.deep, hu, List.mem_cons]
      exact .inr (at_ids h i hi)
    · cases h
  | ap id g i p =>
    simp only [capAt] at h
    split at h
    · intro j hj; exact absurd (at_ids h j hj) (by simp [V.ids])
    · intro j hj; exact absurd (at_ids h j hj) (by simp [V.ids])
    · cases h
  | _ => simp [capAt] at h
theorem capK_congr_deep {t : Ty} {v : V} (hf : v.flatP = true) (h : ∀ id ∈ v.deep ob, look ob' id = look ob id) : capK ob' t v = capK ob t v := by
  rcases flatP_cases hf with hf | ⟨id, g, p, rfl⟩ | ⟨id, g, i, p, rfl⟩
  · exact capK_congr hf
  · have hc : capAt ob' (.bp id g p) = capAt ob (.bp id g p) := by simp only [capAt, obAt_congr (h id (by simp [V.deep]))]
    simp only [capK, hc]
    split
    · rename_i w hw; rw [close_congr fun i hi => h i (capAt_ids hw i hi)]
    · rfl
  · have hc : capAt ob' (.ap id g i p) = capAt ob (.ap id g i p) := by simp only [capAt, obAt_congr (h id (by simp [V.deep]))]
    simp only [capK, hc]
    split
    · rename_i w hw; rw [close_congr fun i hi => h i (capAt_ids hw i hi)]
    · rfl
def okArg : Sh → Bool | .pm a => a.plain | a => a.noPm
theorem okArgs_cons {a : Sh} {r : List Sh} : okArgs (a :: r) = (okArg a && okArgs r) := by cases a <;> rfl
theorem pack_congr_deep {a : Sh} {v : V} (ha : okArg a = true) (hf : v.flatP = true) (h : ∀ id ∈ v.deep ob, look ob' id = look ob id) : pack C ob' a v = pack C ob a v := by
  rcases flatP_cases hf with hv | ⟨id, g, p, rfl⟩ | ⟨id, g, i, p, rfl⟩
  · exact pack_congr hv fun id hid => h id (by rw [deep_flat hv]; exact hid)
  · cases a with
    | pi t => simp only [pack, capK_congr_deep hf h]
    | pm a =>
      cases p with
      | cons _ _ => rfl
      | nil =>
        simp only [pack, obAt_congr (h id (by simp [V.deep]))]
        split
        · rename_i w hw; rw [pack_congr_plain ha fun i hi => h i (by simp [V.deep, hw, hi])]
        · rfl
    | d t => simp only [pack, close_congr (ob := ob) (ob' := ob') (v := .bp id g p) (t := t) (by simp [V.ids])]
    | _ => rfl
  · cases a with
    | pi t => simp only [pack, capK_congr_deep hf h]
    | d t => simp only [pack, close_congr (ob := ob) (ob' := ob') (v := .ap id g i p) (t := t) (by simp [V.ids])]
    | _ => rfl
theorem packs_congr : ∀ {«as» : List Sh} {vs : List V}, okArgs «as» = true → flatL vs = true → (∀ id ∈ deepL ob vs, look ob' id = look ob id) → packs C ob' «as» vs = packs C ob «as» vs
  | [], [], ho, hf, h => rfl
  | [], _ :: _, ho, hf, h => rfl
  | _ :: _, [], ho, hf, h => rfl
  | a :: «as», v :: vs, ho, hf, h => by
    simp only [flatL, Bool.and_eq_true] at hf
    rw [okArgs_cons, Bool.and_eq_true] at ho
    simp only [packs]
    rw [pack_congr_deep ho.1 hf.1 fun id hid => h id (by simp [deepL, hid]), packs_congr ho.2 hf.2 fun id hid => h id (by simp [deepL, hid])]
theorem deep_congr {v : V} (h : ∀ id ∈ v.deep ob, look ob' id = look ob id) : v.deep ob' = v.deep ob := by
  cases v with
  | bp id g p => simp only [V.deep, obAt_congr (h id (by simp [V.deep]))]
  | _ => rfl
theorem deepL_congr : ∀ {vs : List V}, (∀ id ∈ deepL ob vs, look ob' id = look ob id) → deepL ob' vs = deepL ob vs
  | [], h => rfl
  | v :: vs, h => by
    simp only [deepL]
    rw [deep_congr fun id hid => h id (by simp [deepL, hid]), deepL_congr fun id hid => h id (by simp [deepL, hid])]
theorem frz_congr {all : Bool} {es : List Nat} : ∀ {ids : List Nat}, (∀ id ∈ ids, look ob' id = look ob id) → frz ob' all es ids = frz ob all es ids
  | [], h => rfl
  | id :: r, h => by
    unfold frz
    rw [h id (by simp), frz_congr fun i hi => h i (by simp [hi])]
theorem kill_congr : ∀ {ids : List Nat}, (∀ id ∈ ids, look ob' id = look ob id) → kill ob' ids = kill ob ids
  | [], h => rfl
  | id :: r, h => by
    unfold kill
    rw [h id (by simp), kill_congr fun i hi => h i (by simp [hi])]
theorem loadP_congr {v : V} (h : ∀ id ∈ v.pid, look ob' id = look ob id) : loadP ob' v = loadP ob v := by
  cases v with
  | bp id g p => simp only [loadP, obAt_congr (h id (by simp [V.pid]))]
  | ap id g i p => simp only [loadP, obAt_congr (h id (by simp [V.pid]))]
  | _ => rfl
theorem mkp_ids (a b : V) : ∀ id ∈ (V.mkp a b).ids, id ∈ a.ids ∨ id ∈ b.ids := by
  intro id h
  cases a <;> cases b <;> simp_all [V.mkp, V.ids, or_assoc]
theorem mk1_ids (a : V) : ∀ id ∈ (V.mk1 a).ids, id ∈ a.ids := by
  intro id h
  cases a <;> simp_all [V.mk1, V.ids]
theorem putG_ids {n : V} : ∀ {p : List Bool} {v v' : V}, V.putG n p v = some v' → ∀ id ∈ v'.ids, id ∈ n.ids ∨ id ∈ v.ids
  | [], v, v', h, id, hid => by simp only [V.putG, Option.some.injEq] at h; subst h; exact .inl hid
  | false :: p, v, v', h, id, hid => by
    unfold V.putG at h
    split at h
    · split at h
      · rename_i y hy
        cases h
        rcases mkp_ids _ _ id hid with h1 | h1
        · rcases putG_ids hy id h1 with h2 | h2
          · exact .inl h2
          · simp [V.ids] at h2
        · simp [V.ids] at h1
      · cases h
    · split at h
      · rename_i y hy
        cases h
        rcases putG_ids hy id (mk1_ids _ id hid) with h2 | h2
        · exact .inl h2
        · simp [V.ids] at h2
      · cases h
    · split at h
      · rename_i y hy
        cases h
        rcases mkp_ids _ _ id hid with h1 | h1
        · rcases putG_ids hy id h1 with h2 | h2
          · exact .inl h2
          · exact .inr (by simp [V.ids, h2])
        · exact .inr (by simp [V.ids, h1])
      · cases h
    · split at h
      · rename_i y hy
        cases h
        rcases putG_ids hy id (mk1_ids _ id hid) with h2 | h2
        · exact .inl h2
        · exact .inr (by simpa [V.ids] using h2)
      · cases h
    · cases h
  | true :: p, v, v', h, id, hid => by
    unfold V.putG at h
    split at h
    · split at h
      · rename_i y hy
        cases h
        rcases mkp_ids _ _ id hid with h1 | h1
        · simp [V.ids] at h1
        · rcases putG_ids hy id h1 with h2 | h2
          · exact .inl h2
          · simp [V.ids] at h2
      · cases h
    · split at h
      · rename_i y hy
        cases h
        rcases mkp_ids _ _ id hid with h1 | h1
        · exact .inr (by simp [V.ids, h1])
        · rcases putG_ids hy id h1 with h2 | h2
          · exact .inl h2
          · exact .inr (by simp [V.ids, h2])
      · cases h
    · cases h
theorem storeP_congr {v a : V} (h1 : ∀ id ∈ a.pid, look ob' id = look ob id) (h2 : ∀ id ∈ v.ids, look ob' id = look ob id) : storeP ob' v a = storeP ob v a := by
  cases a with
  | bp id g p => simp only [storeP, obAt_congr (h1 id (by simp [V.pid]))]
  | ap id g i p =>
    simp only [storeP, obAt_congr (h1 id (by simp [V.pid]))]
    split
    · split
      · rename_i w hw
        have hids : ∀ i ∈ w.ids, look ob' i = look ob i := by
          intro i hi
          unfold V.put at hw
          split at hw
          · split at hw
            · rcases putG_ids hw i hi with h | h
              · exact h2 i h
              · simp [V.ids] at h
            · cases hw
          · cases hw
        rw [close_congr hids, frz_congr hids]
      · rfl
    · rfl
  | _ => rfl
theorem elemIs_congr {id g e n : Nat} (h : look ob' id = look ob id) : elemIs ob' id g e n = elemIs ob id g e n := by unfold elemIs; rw [obAt_congr h]
theorem idxK_congr {ty : Nat} {x i : V} {K : V → Option R} (h : ∀ id ∈ x.ids, look ob' id = look ob id) : idxK C ty ob' x i K = idxK C ty ob x i K := by
  unfold idxK
  split
  · rfl
  · split
    · rw [elemIs_congr (h _ (by simp [V.ids]))]
    · rfl
  · rfl
theorem lenK_congr {ty : Nat} {x : V} {K : V → Option R} (h : ∀ id ∈ x.ids, look ob' id = look ob id) : lenK C ty ob' x K = lenK C ty ob x K := by
  unfold lenK
  split
  · rfl
  · rfl
  · rw [elemIs_congr (h _ (by simp [V.ids]))]
  · rfl
  · rfl
theorem sliceK_congr {ty : Nat} {x : V} {lo hi : Option V} {K : V → Option R} (h : ∀ id ∈ x.ids, look ob' id = look ob id) : sliceK C ob' ty x lo hi K = sliceK C ob ty x lo hi K := by
  unfold sliceK
  split
  · rfl
  · rfl
  · rfl
  · split
    · split
      · rw [elemIs_congr (h _ (by simp [V.ids]))]
      · rfl
    · rfl
  · rfl
theorem sliceParts_congr {ρ : Operand → V} {t : Ty} : ∀ {ps : List (Nat × Operand)} {l : List t.T}, (∀ id ∈ partIds ρ ps, look ob' id = look ob id) → sliceParts ob' ρ t ps l = sliceParts ob ρ t ps l
  | [], l, h => rfl
  | (j, x) :: r, l, h => by
    simp only [sliceParts]
    rw [close_congr fun id hid => h id (by simp [partIds, hid])]
    split
    · rw [sliceParts_congr fun id hid => h id (by simp [partIds, hid])]
    · rfl
theorem unpack_congr {h : Nat → Nat} : ∀ {a : Sh} {x : a.T} {k : Nat}, (∀ y ∈ (unpack ob h a x k).u, look ob' y.id = look ob y.id) → unpack ob' h a x k = unpack ob h a x k
  | .d t, x, k, H => rfl
  | .o e t, x, k, H => by
    simp only [unpack]
    rw [genOf_congr (H ⟨h k, genOf ob (h k), .arr e t x⟩ (by simp [unpack]) : look ob' (h k) = look ob (h k))]
  | .one a, x, k, H => by
    simp only [unpack]
    rw [unpack_congr (a := a) (x := x) (k := k) H]
  | .pair a b, x, k, H => by
    simp only [unpack] at H ⊢
    rw [unpack_congr (a := a) fun y hy => H y (List.mem_append_left _ hy), unpack_congr (a := b) fun y hy => H y (List.mem_append_right _ hy)]
  | .fn _ _, x, k, H => rfl
  | .pi _, x, k, H => rfl
  | .pm _, x, k, H => rfl
  | .nl, x, k, H => rfl
theorem unpacks_congr {h : Nat → Nat} : ∀ {rs : List Sh} {x : Sh.Ts rs} {k : Nat}, (∀ y ∈ (unpacks ob h rs x k).u, look ob' y.id = look ob y.id) → unpacks ob' h rs x k = unpacks ob h rs x k
  | [], x, k, H => rfl
  | [a], x, k, H => unpack_congr (a := a) (x := x) H
  | a :: b :: r, x, k, H => by
    simp only [unpacks] at H ⊢
    rw [unpack_congr (a := a) fun y hy => H y (List.mem_append_left _ hy), unpacks_congr (rs := b :: r) fun y hy => H y (List.mem_append_right _ hy)]
theorem outsU_congr : ∀ {«as» : List Sh} {vs : List V} {y : Sh.Ts (Sh.outs «as»)} {u : List OE}, outsU ob «as» vs y = some u → (∀ x ∈ u, look ob' x.id = look ob x.id) → outsU ob' «as» vs y = some u
  | [], vs, y, u, hu, h => by simpa only [outsU] using hu
  | .pm a :: r, [], y, u, hu, h => by simp [outsU] at hu
  | .pm a :: r, v :: vs, y, u, hu, h => by
    cases v with
    | bp id g p =>
      simp only [outsU] at hu ⊢
      split at hu
      case h_2 => cases hu
      case h_1 us hus =>
      cases hu
      rw [unpack_congr (a := a) fun y hy => h y (by simp [hy]), outsU_congr («as» := r) hus fun x hx => h x (by simp [hx])]
    | _ => simp [outsU] at hu
  | .d _ :: r, vs, y, u, hu, h => by cases vs with | nil => simp [outsU] at hu | cons v vs => exact outsU_congr («as» := r) (vs := vs) hu h
  | .o _ _ :: r, vs, y, u, hu, h => by cases vs with | nil => simp [outsU] at hu | cons v vs => exact outsU_congr («as» := r) (vs := vs) hu h
  | .one _ :: r, vs, y, u, hu, h => by cases vs with | nil => simp [outsU] at hu | cons v vs => exact outsU_congr («as» := r) (vs := vs) hu h
  | .pair _ _ :: r, vs, y, u, hu, h => by cases vs with | nil => simp [outsU] at hu | cons v vs => exact outsU_congr («as» := r) (vs := vs) hu h
  | .fn _ _ :: r, vs, y, u, hu, h => by cases vs with | nil => simp [outsU] at hu | cons v vs => exact outsU_congr («as» := r) (vs := vs) hu h
  | .pi _ :: r, vs, y, u, hu, h => by cases vs with | nil => simp [outsU] at hu | cons v vs => exact outsU_congr («as» := r) (vs := vs) hu h
  | .nl :: r, vs, y, u, hu, h => by cases vs with | nil => simp [outsU] at hu | cons v vs => exact outsU_congr («as» := r) (vs := vs) hu h
end
end Go.Ab

namespace Go.Ab
set_option linter.unusedVariables false
set_option linter.unusedSimpArgs false

/-! ### 51. An operation of a drawn row: one outcome, and what it hangs on -/
section
variable {C : Ctx} {ob ob' : List OE} {R : Type} {r : R}
theorem intBin_ret {op : BinOp} {k : IntKind} {a b : Int} {K : V → Option R} (h : intBin op k a b K = some r) : ∃ v, (∀ {R' : Type} (K2 : V → Option R'), intBin op k a b K2 = K2 v) ∧ K v = some r := by
  unfold intBin at h
  split at h <;> first
    | exact ⟨_, fun K2 => rfl, h⟩
    | (split at h
       · cases h
       · rename_i hc; exact ⟨_, fun K2 => by simp only [intBin, if_neg hc], h⟩)
theorem strBin_ret {op : BinOp} {a b : List UInt8} {K : V → Option R} (h : strBin op a b K = some r) : ∃ v, (∀ {R' : Type} (K2 : V → Option R'), strBin op a b K2 = K2 v) ∧ K v = some r := by
  unfold strBin at h
  split at h <;> first
    | exact ⟨_, fun K2 => rfl, h⟩
    | (split at h
       · rename_i hc; exact ⟨_, fun K2 => by simp only [strBin, if_pos hc], h⟩
       · cases h)
    | cases h
theorem binK_ret {op : BinOp} {ty : Nat} {x y : V} {K : V → Option R} (hx : isDat x = true) (hy : isDat y = true) (h : binK C op ty x y K = some r) : ∃ v, (∀ {R' : Type} (K2 : V → Option R'), binK C op ty x y K2 = K2 v) ∧ K v = some r := by
  unfold binK at h
  split at h
  · split at h
    · rename_i hc
      obtain ⟨v, h1, h2⟩ := intBin_ret h
      exact ⟨v, fun K2 => by simp only [binK, if_pos hc]; exact h1 K2, h2⟩
    · cases h
  · obtain ⟨v, h1, h2⟩ := strBin_ret h
    exact ⟨v, fun K2 => by simp only [binK]; exact h1 K2, h2⟩
  · split at h
    · rename_i ht
      split at h
      · exact ⟨_, fun K2 => by simp only [binK, ht], h⟩
      · exact ⟨_, fun K2 => by simp only [binK, ht], h⟩
      · cases h
    · cases h
  · split at h
    · rename_i ht
      split at h
      · rename_i hc
        split at h
        · rename_i e1 e2
          split at h
          · exact ⟨_, fun K2 => by simp only [binK, ht, if_pos hc, e1, e2], h⟩
          · exact ⟨_, fun K2 => by simp only [binK, ht, if_pos hc, e1, e2], h⟩
          · cases h
        · cases h
      · cases h
    · cases h
  · simp [isDat] at hx
  · simp [isDat] at hy
  · simp [isDat] at hx
  · cases h
theorem unK_ret {op : UnOp} {x : V} {K : V → Option R} (h : unK op x K = some r) : ∃ v, (∀ {R' : Type} (K2 : V → Option R'), unK op x K2 = K2 v) ∧ K v = some r := by
  unfold unK at h
  split at h <;> first | exact ⟨_, fun K2 => rfl, h⟩ | cases h
theorem idxK_ret {ty : Nat} {x i : V} {K : V → Option R} (h : idxK C ty ob x i K = some r) : ∃ v, (∀ {R' : Type} (K2 : V → Option R'), idxK C ty ob x i K2 = K2 v) ∧ K v = some r := by
  unfold idxK at h
  split at h
  · split at h
    · rename_i ht
      split at h
      · rename_i h1
        split at h
        · rename_i h2; exact ⟨_, fun K2 => by simp only [idxK, ht, if_pos h1, if_pos h2], h⟩
        · cases h
      · cases h
    · cases h
  · split at h
    · rename_i ht
      split at h
      · rename_i h1
        split at h
        · rename_i h2; exact ⟨_, fun K2 => by simp only [idxK, ht, if_pos h1, if_pos h2], h⟩
        · cases h
      · cases h
    · cases h
  · cases h
theorem lenK_ret {ty : Nat} {x : V} {K : V → Option R} (h : lenK C ty ob x K = some r) : ∃ v, (∀ {R' : Type} (K2 : V → Option R'), lenK C ty ob x K2 = K2 v) ∧ K v = some r := by
  unfold lenK at h
  split at h
  · rename_i ht; exact ⟨_, fun K2 => by simp only [lenK, ht], h⟩
  · rename_i ht; exact ⟨_, fun K2 => by simp only [lenK, ht], h⟩
  · rename_i ht
    split at h
    · rename_i h1; exact ⟨_, fun K2 => by simp only [lenK, ht, if_pos h1], h⟩
    · cases h
  · rename_i ht; exact ⟨_, fun K2 => by simp only [lenK, ht], h⟩
  · cases h
theorem sliceK_ret {ty : Nat} {x : V} {lo hi : Option V} {K : V → Option R} (h : sliceK C ob ty x lo hi K = some r) : ∃ v, (∀ {R' : Type} (K2 : V → Option R'), sliceK C ob ty x lo hi K2 = K2 v) ∧ K v = some r := by
  unfold sliceK at h
  split at h
  · split at h
    · rename_i ht
      split at h
      · rename_i h1
        split at h
        · rename_i e1 e2
          split at h
          · rename_i h2; exact ⟨_, fun K2 => by simp only [sliceK, ht, if_pos h1, e1, e2, if_pos h2], h⟩
          · cases h
        · cases h
      · cases h
    · cases h
  · split at h
    · rename_i ht
      split at h
      · rename_i e1 e2
        split at h
        · rename_i h2; exact ⟨_, fun K2 => by simp only [sliceK, ht, e1, e2, if_pos h2], h⟩
        · cases h
      · cases h
    · cases h
  · split at h
    · rename_i ht
      split at h
      · rename_i e1 e2
        split at h
        · rename_i h2; exact ⟨_, fun K2 => by simp only [sliceK, ht, e1, e2, if_pos h2], h⟩
        · cases h
      · cases h
    · cases h
  · split at h
    · rename_i ht
      split at h
      · rename_i e1 e2
        split at h
        · rename_i h1
          split at h
          · rename_i h2; exact ⟨_, fun K2 => by simp only [sliceK, ht, e1, e2, if_pos h1, if_pos h2], h⟩
          · cases h
        · cases h
      · cases h
    · cases h
  · cases h
theorem mmK_ret {mx : Bool} {l : List V} {K : V → Option R} (h : mmK mx l K = some r) : ∃ v, (∀ {R' : Type} (K2 : V → Option R'), mmK mx l K2 = K2 v) ∧ K v = some r := by
  unfold mmK at h
  split at h
  · split at h
    · rename_i h1; exact ⟨_, fun K2 => by simp only [mmK, if_pos h1], h⟩
    · cases h
  · split at h
    · rename_i h1; exact ⟨_, fun K2 => by simp only [mmK, if_pos h1], h⟩
    · cases h
  · cases h
/-- append, and what it hangs on -/
theorem appendK_ret {d sty : Nat} {x y : V} {K : Eff → Option R} (h : appendK C d sty ob x y K = some r) :
    ∃ e, (∀ (ob' : List OE), (∀ id, id ∈ x.ids ∨ id ∈ y.ids ∨ id ∈ e.u.map (·.id) → look ob' id = look ob id) → ∀ {R' : Type} (K2 : Eff → Option R'), appendK C d sty ob' x y K2 = K2 e) ∧ K e = some r := by
  unfold appendK at h
  split at h
  case h_2 => cases h
  case h_1 e t ht =>
  split at h
  case h_1 => cases h
  case h_2 ys hys =>
  split at h
  · split at h
    · rename_i h1
      refine ⟨_, fun ob' H R' K2 => ?_, h⟩
      simp only [appendK, ht]
      rw [close_congr (fun id hid => H id (.inr (.inl hid))), hys]
      simp only [if_pos h1]
      rw [genOf_congr (H d (.inr (.inr (by simp))))]
    · cases h
  · rename_i id g len
    split at h
    · rename_i e' u xs ho
      split at h
      · rename_i xs' hxs
        split at h
        · cases h
        · rename_i hm
          split at h
          · rename_i hb
            split at h
            · rename_i hid
              obtain rfl := nbeq_eq hid
              refine ⟨_, fun ob' H R' K2 => ?_, h⟩
              simp only [appendK, ht]
              rw [close_congr (fun id hid => H id (.inr (.inl hid))), hys]
              simp only [obAt_congr (H id (.inl (by simp [V.ids]))), ho, hxs, if_neg hm, if_pos hb, if_pos hid]
            · rename_i hid
              refine ⟨_, fun ob' H R' K2 => ?_, h⟩
              simp only [appendK, ht]
              rw [close_congr (fun id hid => H id (.inr (.inl hid))), hys]
              simp only [obAt_congr (H id (.inl (by simp [V.ids]))), ho, hxs, if_neg hm, if_pos hb, if_neg hid]
              rw [genOf_congr (H d (.inr (.inr (by simp))))]
          · cases h
      · cases h
    · cases h
  · cases h
theorem capsK_nil : ∀ {l : List Sh} {q : Pk (Sh.Ts l)}, capsK ob l .un = some q → q.lent = []
  | [], q, h => by simp only [capsK, Option.some.injEq] at h; subst h; rfl
  | b :: l, q, h => by cases b <;> simp [capsK] at h
theorem packFn_flat {a r : Ty} {v : V} {p : Pk (a.T → Option r.T)} (hf : v.flat = true) (h : packFn C ob a r v = some p) : p.lent = [] ∧ p.gone = [] := by
  unfold packFn at h
  split at h
  · split at h <;> cases h; exact ⟨rfl, rfl⟩
  · rename_i f c
    cases c <;> simp [V.flat] at hf
    split at h
    · rename_i f0 «as» rs g hent
      simp only at h
      split at h
      · rename_i q hq
        cases h
        exact ⟨capsK_nil hq, rfl⟩
      · cases h
    · cases h
  · cases h
theorem pack_sub : ∀ {a : Sh} {v : V} {p : Pk a.T}, pack C ob a v = some p → v.flat = true → (∀ id ∈ p.lent, id ∈ v.ids) ∧ ∀ id ∈ p.gone, id ∈ v.ids
  | .d t, v, p, h, hf => by
    simp only [pack] at h
    split at h
    · cases h; exact ⟨fun _ h => h, by simp⟩
    · cases h
  | .o e t, v, p, h, hf => by
    cases v with
    | nils => simp only [pack, Option.some.injEq] at h; subst h; simp
    | ref i g off len =>
      cases off with
      | succ n => simp [pack] at h
      | zero =>
      simp only [pack] at h
      split at h
      case h_2 => cases h
      case h_1 e' u xs ho =>
      split at h
      case isFalse => cases h
      case isTrue he =>
      split at h
      case h_2 => cases h
      case h_1 x hx => cases h; simp [V.ids]
    | _ => simp [pack] at h
  | .one a, v, p, h, hf => by
    cases v with
    | st1 u =>
      simp only [pack] at h
      split at h
      case h_2 => cases h
      case h_1 q hq => cases h; exact pack_sub (a := a) (v := u) hq hf
    | _ => simp [pack] at h
  | .pair a b, v, p, h, hf => by
    cases v with
    | st u1 u2 =>
      simp only [V.flat, Bool.and_eq_true] at hf
      simp only [pack] at h
      split at h
      case h_2 => cases h
      case h_1 p1 hp1 =>
      split at h
      case h_2 => cases h
      case h_1 p2 hp2 =>
      cases h
      have h1 := pack_sub hp1 hf.1
      have h2 := pack_sub hp2 hf.2
      refine ⟨fun id hid => ?_, fun id hid => ?_⟩
      · rcases List.mem_append.1 hid with h | h
        · simp [V.ids, h1.1 id h]
        · simp [V.ids, h2.1 id h]
      · rcases List.mem_append.1 hid with h | h
        · simp [V.ids, h1.2 id h]
        · simp [V.ids, h2.2 id h]
    | dat t x =>
      cases t with
      | pair t u =>
        simp only [pack] at h
        split at h
        case h_2 => cases h
        case h_1 p1 hp1 =>
        split at h
        case h_2 => cases h
        case h_1 p2 hp2 =>
        cases h
        have h1 := pack_sub (v := .dat t x.1) hp1 rfl
        have h2 := pack_sub (v := .dat u x.2) hp2 rfl
        refine ⟨fun id hid => ?_, fun id hid => ?_⟩
        · rcases List.mem_append.1 hid with h | h
          · exact absurd (h1.1 id h) (by simp [V.ids])
          · exact absurd (h2.1 id h) (by simp [V.ids])
        · rcases List.mem_append.1 hid with h | h
          · exact absurd (h1.2 id h) (by simp [V.ids])
          · exact absurd (h2.2 id h) (by simp [V.ids])
      | _ => simp [pack] at h
    | _ => simp [pack] at h
  | .fn a r, v, p, h, hf => by
    simp only [pack] at h
    split at h
    case h_2 => cases h
    case h_1 q hq =>
    cases h
    obtain ⟨h1, h2⟩ := packFn_flat hf hq
    simp [h1, h2]
  | .nl, v, p, h, hf => by
    cases v with
    | nils => simp only [pack, Option.some.injEq] at h; subst h; simp
    | _ => simp [pack] at h
  | .pi t, v, p, h, hf => by
    simp only [pack] at h
    split at h
    case h_2 => cases h
    case h_1 q hq =>
    cases h
    unfold capK at hq
    cases v <;> simp only [capAt] at hq <;> first | (cases hq; done) | (simp [V.flat] at hf; done) | skip
    split at hq
    · cases hq; simp [V.ids, V.pid]
    · cases hq
  | .pm a, v, p, h, hf => by
    cases v <;> first | (simp [V.flat] at hf; done) | (simp [pack] at h; done)
theorem pack_sub_plain : ∀ {a : Sh} {v : V} {p : Pk a.T}, a.plain = true → pack C ob a v = some p → (∀ id ∈ p.lent, id ∈ v.ids) ∧ ∀ id ∈ p.gone, id ∈ v.ids
  | .d t, v, p, hf, h => by
    simp only [pack] at h
    split at h
    · cases h; exact ⟨fun _ h => h, by simp⟩
    · cases h
  | .o e t, v, p, hf, h => by
    cases v with
    | nils => exact pack_sub h rfl
    | ref i g off len => exact pack_sub h rfl
    | _ => simp [pack] at h
  | .one a, v, p, hf, h => by
    cases v with
    | st1 u =>
      simp only [pack] at h
      split at h
      case h_2 => cases h
      case h_1 q hq => cases h; exact pack_sub_plain (a := a) (v := u) hf hq
    | _ => simp [pack] at h
  | .pair a b, v, p, hf, h => by
    simp only [Sh.plain, Bool.and_eq_true] at hf
    cases v with
    | st u1 u2 =>
      simp only [pack] at h
      split at h
      case h_2 => cases h
      case h_1 p1 hp1 =>
      split at h
      case h_2 => cases h
      case h_1 p2 hp2 =>
      cases h
      have h1 := pack_sub_plain hf.1 hp1
      have h2 := pack_sub_plain hf.2 hp2
      refine ⟨fun id hid => ?_, fun id hid => ?_⟩
      · rcases List.mem_append.1 hid with h | h
        · simp [V.ids, h1.1 id h]
        · simp [V.ids, h2.1 id h]
      · rcases List.mem_append.1 hid with h | h
        · simp [V.ids, h1.2 id h]
        · simp [V.ids, h2.2 id h]
    | dat t x => exact pack_sub h rfl
    | _ => simp [pack] at h
  | .fn _ _, v, p, hf, h => by simp [Sh.plain] at hf
  | .pi _, v, p, hf, h => by simp [Sh.plain] at hf
  | .nl, v, p, hf, h => by simp [Sh.plain] at hf
  | .pm _, v, p, hf, h => by simp [Sh.plain] at hf
theorem pack_sub_deep {a : Sh} {v : V} {p : Pk a.T} (ha : okArg a = true) (hf : v.flatP = true) (h : pack C ob a v = some p) : (∀ id ∈ p.lent, id ∈ v.deep ob) ∧ ∀ id ∈ p.gone, id ∈ v.deep ob := by
  have pin : ∀ {t : Ty} (hne : ∀ id ∈ v.pid, id ∈ v.deep ob) {p : Pk t.T}, capK ob t v = some p → (∀ id ∈ p.lent, id ∈ v.deep ob) ∧ ∀ id ∈ p.gone, id ∈ v.deep ob := by
    intro t hne p h
    unfold capK at h
    split at h
    case h_2 => cases h
    case h_1 w hw =>
    split at h
    case h_2 => cases h
    case h_1 x hx =>
    cases h
    refine ⟨fun id hid => ?_, by simp⟩
    rcases List.mem_append.1 hid with h | h
    · exact hne id h
    · exact capAt_ids hw id h
  rcases flatP_cases hf with hv | ⟨id, g, q, rfl⟩ | ⟨id, g, i, q, rfl⟩
  · rw [deep_flat hv]; exact pack_sub h hv
  · cases a with
    | pi t =>
      simp only [pack] at h
      split at h
      case h_2 => cases h
      case h_1 p1 hp1 => cases h; exact pin (by simp [V.pid, V.deep]) hp1
    | pm a =>
      cases q with
      | cons _ _ => simp [pack] at h
      | nil =>
        simp only [pack] at h
        split at h
        case h_2 => cases h
        case h_1 w hw =>
        split at h
        case h_2 => cases h
        case h_1 p1 hp1 =>
        cases h
        have := pack_sub_plain ha hp1
        simp only [V.deep, hw, List.mem_cons]
        exact ⟨fun i hi => .inr (this.1 i hi), fun i hi => hi.imp (fun h => h) fun hi => this.2 i hi⟩
    | d t => cases t <;> simp [pack, close] at h
    | _ => simp [pack, packFn] at h
  · cases a with
    | pi t =>
      simp only [pack] at h
      split at h
      case h_2 => cases h
      case h_1 p1 hp1 => cases h; exact pin (by simp [V.pid, V.deep]) hp1
    | d t => cases t <;> simp [pack, close] at h
    | _ => simp [pack, packFn] at h
theorem packs_sub : ∀ {«as» : List Sh} {vs : List V} {p : Pk (Sh.Ts «as»)}, okArgs «as» = true → flatL vs = true → packs C ob «as» vs = some p → (∀ id ∈ p.lent, id ∈ deepL ob vs) ∧ (∀ id ∈ p.gone, id ∈ deepL ob vs)
  | [], [], p, ho, hf, h => by simp only [packs, Option.some.injEq] at h; subst h; simp
  | [], _ :: _, p, ho, hf, h => by simp [packs] at h
  | _ :: _, [], p, ho, hf, h => by simp [packs] at h
  | a :: «as», v :: vs, p, ho, hf, h => by
    rw [okArgs_cons, Bool.and_eq_true] at ho
    simp only [flatL, Bool.and_eq_true] at hf
    simp only [packs] at h
    split at h
    case h_2 => cases h
    case h_1 p1 hp1 =>
    split at h
    case h_2 => cases h
    case h_1 p2 hp2 =>
    cases h
    have h1 := pack_sub_deep ho.1 hf.1 hp1
    have h2 := packs_sub ho.2 hf.2 hp2
    refine ⟨fun id hid => ?_, fun id hid => ?_⟩
    · rcases List.mem_append.1 hid with h | h
      · simp [deepL, h1.1 id h]
      · simp [deepL, h2.1 id h]
    · rcases List.mem_append.1 hid with h | h
      · simp [deepL, h1.2 id h]
      · simp [deepL, h2.2 id h]
theorem callK_ret {d : Option Nat} {f : Nat} {«as» : List V} {K : Eff → Option R} (hf : flatL «as» = true) (h : callK C d (.clo f .un) «as» ob K = some r) :
    ∃ e, (∀ (ob' : List OE), (∀ id, id ∈ deepL ob «as» ∨ id ∈ e.u.map (·.id) → look ob' id = look ob id) → ∀ {R' : Type} (K2 : Eff → Option R'), callK C d (.clo f .un) «as» ob' K2 = K2 e) ∧ K e = some r := by
  unfold callK at h
  simp only at h
  split at h
  case h_2 hnone =>
    split at h
    case h_2 => cases h
    case h_1 i hin =>
    have h' := h
    unfold inpK at h
    split at h
    case h_2 => cases h
    case h_1 id g off len =>
    split at h
    case h_2 => cases h
    case h_1 e' kk xs ho =>
    split at h
    case h_2 => cases h
    case h_1 ys hys =>
    split at h
    case isFalse => cases h
    case isTrue hb =>
    refine ⟨_, fun ob' H R' K2 => ?_, h⟩
    have ho' : obAt ob' id g = .arr e' kk xs := by
      rw [← ho, obAt, obAt, H id (.inl (by simp [deepL, V.deep, V.ids]))]
    simp only [callK, hnone, hin, inpK, ho', hys, if_pos hb]
  case h_1 f0 sh rs g hent =>
  split at h
  case h_2 => cases h
  case h_1 p hp =>
  split at h
  case isFalse => cases h
  case isTrue hok =>
  cases hg : g p.x with
  | none => rw [hg] at h; cases h
  | some y =>
    rw [hg] at h
    simp only [Option.bind_some] at h
    cases hou : outsU ob sh «as» (Sh.sndL rs (Sh.outs sh) y) with
    | none => simp [hou] at h
    | some u' =>
      simp only [hou] at h
      split at h
      case isFalse => cases h
      case isTrue hck =>
      refine ⟨_, fun ob' H R' K2 => ?_, h⟩
      have hck2 := hck
      simp only [Bool.and_eq_true] at hck2
      have ho := hck2.1.1
      have hp' : packs C ob' sh «as» = some p := by rw [packs_congr ho hf fun id hid => H id (.inl hid), hp]
      have hou' : outsU ob' sh «as» (Sh.sndL rs (Sh.outs sh) y) = some u' := outsU_congr hou fun z hz => H z.id (.inr (by simp only [List.map_append, List.mem_append]; right; right; exact List.mem_map.2 ⟨z, hz, rfl⟩))
      have hsub := packs_sub ho hf hp
      have hun : unpacks ob' (hres (d.getD 999)) rs (Sh.fstL rs (Sh.outs sh) y) 0 = unpacks ob (hres (d.getD 999)) rs (Sh.fstL rs (Sh.outs sh) y) 0 :=
        unpacks_congr fun z hz => H z.id (.inr (by simp only [List.map_append, List.mem_append]; right; left; exact List.mem_map.2 ⟨z, hz, rfl⟩))
      simp only [callK, hent, hp', if_pos hok, hg, Option.bind_some, hou', hun, if_pos hck]
      rw [frz_congr fun id hid => H id (.inl (hsub.1 id hid)), kill_congr fun id hid => H id (.inl (hsub.2 id hid))]
theorem closeArgs_congr : ∀ {vs : List V} {a : Ty}, (∀ id ∈ idsL vs, look ob' id = look ob id) → closeArgs ob' a vs = closeArgs ob a vs := by
  intro vs
  induction vs with
  | nil => intro a h; cases a <;> rfl
  | cons v r ih =>
    intro a h
    cases a with
    | pair a b =>
      simp only [closeArgs]
      rw [close_congr fun id hid => h id (by simp [idsL, hid]), ih fun id hid => h id (by simp [idsL, hid])]
    | _ => rfl
theorem callK_fnv_ret {d : Option Nat} {a r0 : Ty} {g : a.T → Option r0.T} {«as» : List V} {K : Eff → Option R} (h : callK C d (.fnv a r0 g) «as» ob K = some r) :
    ∃ e, (∀ (ob' : List OE), (∀ id, id ∈ idsL «as» ∨ id ∈ e.u.map (·.id) → look ob' id = look ob id) → ∀ {R' : Type} (K2 : Eff → Option R'), callK C d (.fnv a r0 g) «as» ob' K2 = K2 e) ∧ K e = some r := by
  unfold callK at h
  simp only at h
  split at h
  case h_2 => cases h
  case h_1 x hx =>
  cases hg : g x with
  | none => rw [hg] at h; cases h
  | some y =>
    rw [hg] at h
    simp only [Option.bind_some] at h
    refine ⟨_, fun ob' H R' K2 => ?_, h⟩
    have hx' : closeArgs ob' a «as» = some x := by rw [closeArgs_congr fun id hid => H id (.inl hid), hx]
    simp only [callK, hx', hg, Option.bind_some]
    rw [frz_congr fun id hid => H id (.inl hid)]
theorem appendMK_ret {d sty nty : Nat} {x n : V} {K : Eff → Option R} (h : appendMK C d sty nty x n ob K = some r) :
    ∃ e, (∀ (ob' : List OE), (∀ id, id ∈ e.u.map (·.id) → look ob' id = look ob id) → ∀ {R' : Type} (K2 : Eff → Option R'), appendMK C d sty nty x n ob' K2 = K2 e) ∧ K e = some r := by
  unfold appendMK at h
  split at h
  case h_2 => cases h
  case h_1 =>
  split at h
  case h_2 => cases h
  case h_1 m =>
  split at h
  case h_2 => cases h
  case h_1 e t hty =>
  split at h
  case h_2 => cases h
  case h_1 hnt =>
  split at h
  case isFalse => cases h
  case isTrue hb =>
  refine ⟨_, fun ob' H R' K2 => ?_, h⟩
  have hg : genOf ob' d = genOf ob d := by unfold genOf; rw [H d (by simp)]
  simp only [appendMK, hty, hnt]
  rw [if_pos hb, hg]
theorem builtinK_ret {d : Option Nat} {b : Builtin} {ts : List Nat} {vs : List V} {K : Eff → Option R} (hb : b ≠ .clear ∧ b ≠ .copy) (h : builtinK C d b ts vs ob K = some r) :
    ∃ e, (∀ (ob' : List OE), (∀ id, id ∈ looksL vs ∨ id ∈ e.u.map (·.id) → look ob' id = look ob id) → ∀ {R' : Type} (K2 : Eff → Option R'), builtinK C d b ts vs ob' K2 = K2 e) ∧ K e = some r := by
  unfold builtinK at h
  split at h
  · obtain ⟨v, h1, h2⟩ := lenK_ret h
    refine ⟨_, fun ob' H R' K2 => ?_, h2⟩
    simp only [builtinK]
    rw [lenK_congr fun id hid => H id (.inl (by simp [looksL, V.looks, hid]))]
    exact h1 _
  · split at h
    · rename_i hty; exact ⟨_, fun ob' H R' K2 => by simp only [builtinK, hty], h⟩
    · cases h
  · split at h
    case isFalse htt =>
      obtain ⟨e, h1, h2⟩ := appendMK_ret h
      refine ⟨e, fun ob' H R' K2 => ?_, h2⟩
      simp only [builtinK, if_neg htt]
      exact h1 ob' (fun id hid => H id (.inr hid)) K2
    case isTrue htt =>
    obtain ⟨e, h1, h2⟩ := appendK_ret h
    refine ⟨e, fun ob' H R' K2 => ?_, h2⟩
    simp only [builtinK, if_pos htt]
    refine h1 ob' (fun id hid => H id ?_) K2
    rcases hid with h | h | h
    · exact .inl (by simp [looksL, V.looks, h])
    · exact .inl (by simp [looksL, V.looks, h])
    · exact .inr h
  · exact absurd rfl hb.1
  · exact absurd rfl hb.2
  · obtain ⟨v, h1, h2⟩ := mmK_ret h
    exact ⟨_, fun ob' H R' K2 => by simp only [builtinK]; exact h1 _, h2⟩
  · obtain ⟨v, h1, h2⟩ := mmK_ret h
    exact ⟨_, fun ob' H R' K2 => by simp only [builtinK]; exact h1 _, h2⟩
  · cases h
/-- THE LAW OF ONE OPERATION: it has one outcome, and that hangs on nothing but the names that it looks up or makes. -/
theorem effK_ret {o : Oper} {ρ : Operand → V} {F : List Nat} {K : Eff → Option R} (hd : drawLooks o ρ ob = some F) (h : effK C o ρ ob K = some r) :
    ∃ e, (∀ (ob' : List OE), (∀ id, id ∈ F ∨ id ∈ e.u.map (·.id) → look ob' id = look ob id) → ∀ {R' : Type} (K2 : Eff → Option R'), effK C o ρ ob' K2 = K2 e) ∧ K e = some r := by
  obtain ⟨dst, op, type, pos, after, guard⟩ := o
  have one : ∀ {o : Oper} {v : V}, (∀ (ob' : List OE), (∀ id, id ∈ F → look ob' id = look ob id) → ∀ {R' : Type} (K2 : Eff → Option R'), effK C o ρ ob' K2 = K2 ⟨v, []⟩) → K ⟨v, []⟩ = some r →
      ∃ e, (∀ (ob' : List OE), (∀ id, id ∈ F ∨ id ∈ e.u.map (·.id) → look ob' id = look ob id) → ∀ {R' : Type} (K2 : Eff → Option R'), effK C o ρ ob' K2 = K2 e) ∧ K e = some r :=
    fun h1 h2 => ⟨_, fun ob' H R' K2 => h1 ob' (fun id hid => H id (.inl hid)) K2, h2⟩
  cases op with
  | move x => exact one (fun ob' H R' K2 => rfl) h
  | assign x => exact one (fun ob' H R' K2 => rfl) h
  | pick c x y =>
    simp only [effK] at h
    split at h
    case h_2 => cases h
    case h_1 b hb =>
    cases b with
    | true => exact one (fun ob' H R' K2 => by simp only [effK, hb]; rfl) h
    | false => exact one (fun ob' H R' K2 => by simp only [effK, hb]; rfl) h
  | alloc t =>
    simp only [effK] at h
    split at h
    case h_2 => cases h
    case h_1 =>
    rename_i ty d hty
    refine ⟨_, fun ob' H R' K2 => ?_, h⟩
    simp only [effK, hty]
    rw [genOf_congr (H d (.inr (by simp)))]
  | box t x =>
    simp only [effK] at h
    split at h
    case h_2 => cases h
    case h_1 =>
    rename_i d
    split at h
    case isFalse => cases h
    case isTrue ht =>
    refine ⟨_, fun ob' H R' K2 => ?_, h⟩
    simp only [effK, if_pos ht]
    rw [genOf_congr (H d (.inr (by simp)))]
  | build t ps =>
    simp only [effK] at h
    split at h
    case h_2 => cases h
    case h_1 ty n hty hn =>
    split at h
    case h_2 => cases h
    case h_1 v hf => exact one (fun ob' H R' K2 => by simp only [effK, hty, hn, hf]) h
  | buildSlice t n ps =>
    simp only [drawLooks, Option.some.injEq] at hd
    subst hd
    simp only [effK] at h
    split at h
    case h_2 => cases h
    case h_1 =>
    rename_i e tt d hty
    split at h
    case isFalse => cases h
    case isTrue hn =>
    split at h
    case h_2 => cases h
    case h_1 l hl =>
    refine ⟨_, fun ob' H R' K2 => ?_, h⟩
    have hp : ∀ id ∈ partIds ρ ps.toList, look ob' id = look ob id := fun id hid => H id (.inl hid)
    simp only [effK, hty, if_pos hn]
    rw [sliceParts_congr hp, hl]
    simp only
    rw [frz_congr hp, genOf_congr (H d (.inr (by simp)))]
  | load t x =>
    simp only [drawLooks, Option.some.injEq] at hd
    subst hd
    simp only [effK] at h
    split at h
    case h_2 => cases h
    case h_1 v hl =>
    split at h
    case isFalse => cases h
    case isTrue ht =>
    refine one (fun ob' H R' K2 => ?_) h
    simp only [effK]
    rw [loadP_congr (fun id hid => H id (List.mem_append_right _ hid)), hl]
    simp only [if_pos ht]
  | store t x y =>
    simp only [drawLooks, Option.some.injEq] at hd
    subst hd
    simp only [effK] at h
    split at h
    case isFalse => cases h
    case isTrue ht =>
    split at h
    case h_2 => cases h
    case h_1 u hl =>
    refine ⟨_, fun ob' H R' K2 => ?_, h⟩
    simp only [effK, if_pos ht]
    rw [storeP_congr (fun id hid => H id (.inl (List.mem_append_left _ (List.mem_append_right _ hid)))) (fun id hid => H id (.inl (List.mem_append_right _ hid))), hl]
  | nilCheck x =>
    simp only [drawLooks, Option.some.injEq] at hd
    subst hd
    simp only [effK] at h
    have hl : ∀ ob' : List OE, (∀ id, id ∈ (ρ x).looks → look ob' id = look ob id) → loadP ob' (ρ x) = loadP ob (ρ x) := fun ob' H => loadP_congr fun id hid => H id (List.mem_append_right _ hid)
    split at h
    · rename_i id g p hp
      split at h
      · rename_i u hu
        refine one (fun ob' H R' K2 => ?_) h
        have := hl ob' H
        rw [hp, hu] at this
        simp only [effK, hp, this]
      · cases h
    · rename_i id g i p hp
      split at h
      · rename_i u hu
        refine one (fun ob' H R' K2 => ?_) h
        have := hl ob' H
        rw [hp, hu] at this
        simp only [effK, hp, this]
      · cases h
    · rename_i t y hp; exact one (fun ob' H R' K2 => by simp only [effK, hp]) h
    · rename_i f c hp; exact one (fun ob' H R' K2 => by simp only [effK, hp]) h
    · rename_i t u f hp; exact one (fun ob' H R' K2 => by simp only [effK, hp]) h
    · cases h
  | binOp op t x y _ =>
    simp only [drawLooks] at hd
    split at hd
    case isFalse => cases hd
    case isTrue hxy =>
    simp only [Bool.and_eq_true] at hxy
    simp only [effK] at h
    obtain ⟨v, h1, h2⟩ := binK_ret hxy.1 hxy.2 h
    exact one (fun ob' H R' K2 => by simp only [effK]; exact h1 _) h2
  | convert sr ds x =>
    simp only [drawLooks] at hd
    split at hd
    case h_2 => cases hd
    case h_1 k n hx =>
    simp only [effK, hx, convK] at h
    split at h
    · rename_i k1 k2 hs ht
      exact one (fun ob' H R' K2 => by simp only [effK, hx, convK, hs, ht]) h
    · cases h
    · cases h
    · rename_i e2 hs ht
      split at h
      · rename_i xs hxs
        simp [close, Ty.cast, Ty.eqb] at hxs
      · cases h
    · cases h
  | unOp op t x =>
    simp only [effK] at h
    obtain ⟨v, h1, h2⟩ := unK_ret h
    exact one (fun ob' H R' K2 => by simp only [effK]; exact h1 _) h2
  | slice t x lo hi mx =>
    cases mx with
    | some m => simp [effK] at h
    | none =>
      simp only [drawLooks, Option.some.injEq] at hd
      subst hd
      simp only [effK] at h
      obtain ⟨v, h1, h2⟩ := sliceK_ret h
      refine one (fun ob' H R' K2 => ?_) h2
      simp only [effK]
      rw [sliceK_congr fun id hid => H id (List.mem_append_left _ hid)]
      exact h1 _
  | fieldAddr t x j =>
    simp only [drawLooks, Option.some.injEq] at hd
    subst hd
    simp only [effK] at h
    split at h
    case h_2 => cases h
    case h_1 n hn =>
    split at h
    case h_2 => cases h
    case h_1 u v hl hf =>
    split at h
    case isFalse => cases h
    case isTrue ht =>
    split at h
    case isFalse => cases h
    case isTrue hj =>
    refine one (fun ob' H R' K2 => ?_) h
    simp only [effK, hn]
    rw [loadP_congr (fun id hid => H id (List.mem_append_right _ hid)), hl, hf]
    simp only [if_pos ht, if_pos hj]
  | field t x j =>
    simp only [effK] at h
    split at h
    case h_2 => cases h
    case h_1 n hn =>
    split at h
    case h_2 => cases h
    case h_1 v hf =>
    split at h
    case isFalse => cases h
    case isTrue ht =>
    split at h
    case isFalse => cases h
    case isTrue hj => exact one (fun ob' H R' K2 => by simp only [effK, hn, hf, if_pos ht, if_pos hj]) h
  | indexAddr t x i =>
    simp only [drawLooks, Option.some.injEq] at hd
    subst hd
    simp only [effK] at h
    obtain ⟨v, h1, h2⟩ := idxK_ret h
    refine one (fun ob' H R' K2 => ?_) h2
    simp only [effK]
    rw [idxK_congr fun id hid => H id (List.mem_append_left _ hid)]
    exact h1 _
  | index t x i =>
    simp only [effK] at h
    split at h
    case h_1 e n har =>
      split at h
      case h_2 => cases h
      case h_1 k i' u hi hu =>
      split at h
      case h_2 => cases h
      case h_1 l hl =>
      split at h
      case isFalse => cases h
      case isTrue ht =>
      split at h
      case isFalse => cases h
      case isTrue hb => exact one (fun ob' H R' K2 => by simp only [effK, har, hi, hu, hl, if_pos ht, if_pos hb]) h
    case h_2 har =>
    split at h
    case h_2 => cases h
    case h_1 l k n hx hi =>
    split at h
    case h_2 => cases h
    case h_1 hty =>
    split at h
    case isFalse => cases h
    case isTrue hb => exact one (fun ob' H R' K2 => by simp only [effK, har, hx, hi, hty, if_pos hb]) h
  | extract x n =>
    simp only [effK] at h
    split at h
    case h_2 => cases h
    case h_1 v hf => exact one (fun ob' H R' K2 => by simp only [effK, hf]) h
  | call c =>
    obtain ⟨callee, args, argTypes⟩ := c
    cases callee with
    | value f =>
      simp only [drawLooks] at hd
      split at hd
      case h_3 => cases hd
      case h_2 a0 r0 g0 hf =>
        cases hd
        simp only [effK, hf] at h
        obtain ⟨e, h1, h2⟩ := callK_fnv_ret h
        exact ⟨e, fun ob' H R' K2 => by simp only [effK, hf]; exact h1 ob' H K2, h2⟩
      case h_1 f0 hf =>
      split at hd
      case isFalse => cases hd
      case isTrue hfl =>
      cases hd
      simp only [effK, hf] at h
      obtain ⟨e, h1, h2⟩ := callK_ret hfl h
      exact ⟨e, fun ob' H R' K2 => by simp only [effK, hf]; exact h1 ob' H K2, h2⟩
    | builtin b =>
      have hb : (b ≠ .clear ∧ b ≠ .copy) ∧ F = looksL (args.toList.map ρ) := by
        cases b <;> simp only [drawLooks] at hd <;> cases hd <;> exact ⟨⟨by simp, by simp⟩, rfl⟩
      obtain ⟨hb, rfl⟩ := hb
      simp only [effK] at h
      obtain ⟨e, h1, h2⟩ := builtinK_ret hb h
      exact ⟨e, fun ob' H R' K2 => by simp only [effK]; exact h1 ob' H K2, h2⟩
    | invoke _ _ => simp [effK] at h
  | _ => simp [drawLooks] at hd
end
end Go.Ab

namespace Go.Ab
set_option linter.unusedVariables false
set_option linter.unusedSimpArgs false

/-! ### 52. Drawn rows -/
section
variable {C : Ctx} {ops : Array Oper} {R : Type} {r : R}
def setD (tm : List V) (d : Option Nat) (v : V) : List V := match d with | some d => tm.set d v | none => tm
/-- the states are alike: the same slots, the same rows and boxes -/
structure Alike (s s' : St) : Prop where
  tm : s.tm = s'.tm
  ob : ∀ id, look s.ob id = look s'.ob id
theorem Alike.refl (s : St) : Alike s s := ⟨rfl, fun _ => rfl⟩
theorem Alike.symm {s s' : St} (h : Alike s s') : Alike s' s := ⟨h.tm.symm, fun id => (h.ob id).symm⟩
theorem Alike.trans {s s' s'' : St} (h : Alike s s') (k : Alike s' s'') : Alike s s'' := ⟨h.tm.trans k.tm, fun id => (h.ob id).trans (k.ob id)⟩
theorem updAll_in {id : Nat} : ∀ {us l l' : List OE}, (id ∈ us.map (·.id) ∨ look l id = look l' id) → look (updAll l us) id = look (updAll l' us) id
  | [], l, l', h => by
    rcases h with h | h
    · simp at h
    · exact h
  | u :: us, l, l', h => by
    rw [updAll, updAll]
    refine updAll_in ?_
    by_cases hu : u.id = id
    · right; rw [look_setOb, look_setOb, if_pos hu, if_pos hu]
    · rw [look_setOb, look_setOb, if_neg hu, if_neg hu]
      rcases h with h | h
      · simp only [List.map_cons, List.mem_cons] at h
        rcases h with h | h
        · exact absurd h.symm hu
        · exact .inl h
      · exact .inr h
theorem ev_congr {s s0 : St} {x : Operand} (h : ∀ t, x = .tmp t → s0.tm.getD t .un = s.tm.getD t .un) : ev s0 x = ev s x := by
  cases x with
  | tmp t => exact h t rfl
  | _ => rfl
theorem fillParts_ev {ρ ρ' : Operand → V} {n : Nat} : ∀ {ps : List (Nat × Operand)} {v : V}, (∀ p ∈ ps, ρ' p.2 = ρ p.2) → fillParts ρ' n ps v = fillParts ρ n ps v
  | [], v, h => rfl
  | (j, x) :: r, v, h => by
    simp only [fillParts, h (j, x) (by simp)]
    split
    · split
      · exact fillParts_ev fun p hp => h p (by simp [hp])
      · rfl
    · rfl
theorem sliceParts_ev {ρ ρ' : Operand → V} {ob : List OE} {t : Ty} : ∀ {ps : List (Nat × Operand)} {l : List t.T}, (∀ p ∈ ps, ρ' p.2 = ρ p.2) → sliceParts ob ρ' t ps l = sliceParts ob ρ t ps l
  | [], l, h => rfl
  | (j, x) :: r, l, h => by
    simp only [sliceParts, h (j, x) (by simp)]
    split
    · split
      · exact sliceParts_ev fun p hp => h p (by simp [hp])
      · rfl
    · rfl
theorem partIds_ev {ρ ρ' : Operand → V} : ∀ {ps : List (Nat × Operand)}, (∀ p ∈ ps, ρ' p.2 = ρ p.2) → partIds ρ' ps = partIds ρ ps
  | [], h => rfl
  | (j, x) :: r, h => by
    have ih : partIds ρ' r = partIds ρ r := partIds_ev fun p hp => h p (List.mem_cons_of_mem _ hp)
    simp only [partIds, h (j, x) (by simp), ih]
theorem map_ev {ρ ρ' : Operand → V} : ∀ {l : List Operand}, (∀ x ∈ l, ρ' x = ρ x) → l.map ρ' = l.map ρ := fun h => List.map_congr_left h
/-- what an operation does hangs on its operands alone -/
theorem eff_ev {o : Oper} {ρ ρ' : Operand → V} (h : ∀ x ∈ o.op.operands, ρ' x = ρ x) {F : List Nat} {ob0 : List OE} (hd : drawLooks o ρ ob0 = some F) :
    drawLooks o ρ' ob0 = some F ∧ ∀ {R' : Type} (ob : List OE) (K : Eff → Option R'), effK C o ρ' ob K = effK C o ρ ob K := by
  obtain ⟨dst, op, type, pos, after, guard⟩ := o
  have pairs : ∀ {ps : Array (Nat × Operand)}, (∀ x ∈ (ps.toList.map (·.2)).toArray, ρ' x = ρ x) → ∀ p ∈ ps.toList, ρ' p.2 = ρ p.2 := fun hp p hm => hp p.2 (by simpa using ⟨p.1, by simpa using hm⟩)
  cases op <;> simp only [Op.operands] at h <;> simp only [drawLooks] at hd <;> try (cases hd; done)
  case move x => exact ⟨hd, fun ob K => by simp only [effK, h x (by simp)]⟩
  case assign x => exact ⟨hd, fun ob K => by simp only [effK, h x (by simp)]⟩
  case pick c x y => exact ⟨by simp only [drawLooks, h c (by simp)]; exact hd, fun ob K => by simp only [effK, h c (by simp), h x (by simp), h y (by simp)]⟩
  case alloc t => exact ⟨hd, fun ob K => rfl⟩
  case box t x => exact ⟨hd, fun ob K => by simp only [effK, h x (by simp)]⟩
  case build t ps => exact ⟨hd, fun ob K => by simp only [effK, fillParts_ev (pairs h)]⟩
  case buildSlice t n ps => exact ⟨by simp only [drawLooks, partIds_ev (pairs h)]; exact hd, fun ob K => by simp only [effK, sliceParts_ev (pairs h), partIds_ev (pairs h)]⟩
  case convert sr ds x => exact ⟨by simp only [drawLooks, h x (by simp)]; exact hd, fun ob K => by simp only [effK, h x (by simp)]⟩
  case load t x => exact ⟨by simp only [drawLooks, h x (by simp)]; exact hd, fun ob K => by simp only [effK, h x (by simp)]⟩
  case store t x y => exact ⟨by simp only [drawLooks, h x (by simp), h y (by simp)]; exact hd, fun ob K => by simp only [effK, h x (by simp), h y (by simp)]⟩
  case nilCheck x => exact ⟨by simp only [drawLooks, h x (by simp)]; exact hd, fun ob K => by simp only [effK, h x (by simp)]⟩
  case binOp op t x y u => exact ⟨by simp only [drawLooks, h x (by simp), h y (by simp)]; exact hd, fun ob K => by simp only [effK, h x (by simp), h y (by simp)]⟩
  case unOp op t x => exact ⟨hd, fun ob K => by simp only [effK, h x (by simp)]⟩
  case slice t x lo hi mx =>
    cases mx with
    | some m => simp at hd
    | none =>
      have hx := h x (by simp)
      have hlo : lo.map ρ' = lo.map ρ := by
        cases lo with
        | none => rfl
        | some l => simp only [Option.map_some]; rw [h l (by simp)]
      have hhi : hi.map ρ' = hi.map ρ := by
        cases hi with
        | none => rfl
        | some l => simp only [Option.map_some]; rw [h l (by simp)]
      exact ⟨by simp only [drawLooks, hx]; exact hd, fun ob K => by simp only [effK, hx, hlo, hhi]⟩
  case fieldAddr t x j => exact ⟨by simp only [drawLooks, h x (by simp)]; exact hd, fun ob K => by simp only [effK, h x (by simp)]⟩
  case field t x j => exact ⟨hd, fun ob K => by simp only [effK, h x (by simp)]⟩
  case indexAddr t x i => exact ⟨by simp only [drawLooks, h x (by simp)]; exact hd, fun ob K => by simp only [effK, h x (by simp), h i (by simp)]⟩
  case index t x i => exact ⟨hd, fun ob K => by simp only [effK, h x (by simp), h i (by simp)]⟩
  case extract x n => exact ⟨hd, fun ob K => by simp only [effK, h x (by simp)]⟩
  case call c =>
    obtain ⟨callee, args, argTypes⟩ := c
    have ha : args.toList.map ρ' = args.toList.map ρ := map_ev fun x hx => h x (by simp [Call.operands]; right; simpa using hx)
    cases callee with
    | value f =>
      have hf : ρ' f = ρ f := h f (by simp [Call.operands])
      exact ⟨by simp only [drawLooks, hf, ha]; exact hd, fun ob K => by simp only [effK, hf, ha]⟩
    | builtin b =>
      exact ⟨by simp only [drawLooks, ha]; exact hd, fun ob K => by simp only [effK, ha]⟩
    | invoke _ _ => simp at hd
/-- and what it looks up hangs on that alone -/
theorem looks_ob {o : Oper} {ρ : Operand → V} {ob ob' : List OE} {F : List Nat} (hd : drawLooks o ρ ob = some F) (h : ∀ id ∈ F, look ob' id = look ob id) : drawLooks o ρ ob' = some F := by
  obtain ⟨dst, op, type, pos, after, guard⟩ := o
  cases op with
  | call c =>
    obtain ⟨callee, args, argTypes⟩ := c
    cases callee with
    | value f =>
      simp only [drawLooks] at hd ⊢
      split at hd
      · split at hd
        · rename_i hfl
          cases hd
          simp only [if_pos hfl, deepL_congr h]
        · cases hd
      · exact hd
      · cases hd
    | _ => exact hd
  | slice t x lo hi mx => cases mx <;> exact hd
  | _ => exact hd
theorem idsOf_ids (l : List OE) : idsOf l = l.map (·.id) := idsOf_map l
/-- one operation, described: what it puts into its slot, what it writes; the same wherever its slots and names are the same -/
structure Des (C : Ctx) (ops : Array Oper) (o : Oper) (s : St) (v : V) (u : List OE) (F W : List Nat) : Prop where
  w : W = u.map (·.id)
  at_ : ∀ s0, (∀ t ∈ o.looksAt ops, s0.tm.getD t .un = s.tm.getD t .un) → (∀ id, id ∈ F ∨ id ∈ W → look s0.ob id = look s.ob id) →
    (∀ {R' : Type} (K : St → List Nat → List Nat → Option R'), stepT C ops.toList o s0 K = K ⟨setD s0.tm o.dst v, updAll s0.ob u⟩ F W) ∧ ∀ {R' : Type} (K : St → Option R'), stepK C ops.toList o s0 K = K ⟨setD s0.tm o.dst v, updAll s0.ob u⟩
theorem opT_des {o : Oper} {s : St} {K : St → List Nat → List Nat → Option R} (h : opT C o s K = some r) :
    ∃ v u F, (∀ s0, (∀ x ∈ o.op.operands, ev s0 x = ev s x) → (∀ id, id ∈ F ∨ id ∈ u.map (·.id) → look s0.ob id = look s.ob id) →
      (∀ {R' : Type} (K2 : St → List Nat → List Nat → Option R'), opT C o s0 K2 = K2 ⟨setD s0.tm o.dst v, updAll s0.ob u⟩ F (u.map (·.id))) ∧ ∀ {R' : Type} (K2 : St → Option R'), opK C o s0 K2 = K2 ⟨setD s0.tm o.dst v, updAll s0.ob u⟩) ∧
      K ⟨setD s.tm o.dst v, updAll s.ob u⟩ F (u.map (·.id)) = some r := by
  unfold opT at h
  split at h
  case h_2 => cases h
  case h_1 F hF =>
  obtain ⟨e, h1, h2⟩ := effK_ret hF h
  have happ : ∀ s0 : St, s0.app o.dst e = ⟨setD s0.tm o.dst e.v, updAll s0.ob e.u⟩ := fun s0 => by unfold St.app setD; rfl
  refine ⟨e.v, e.u, F, fun s0 hx hid => ?_, by rw [← idsOf_ids, ← happ]; exact h2⟩
  obtain ⟨hF0, heff⟩ := eff_ev hx hF
  replace hF0 := looks_ob (ob' := s0.ob) hF0 fun id hm => hid id (.inl hm)
  refine ⟨fun K2 => ?_, fun K2 => ?_⟩
  · unfold opT
    simp only [hF0]
    rw [heff, h1 s0.ob hid, happ, idsOf_ids]
  · unfold opK
    rw [heff, h1 s0.ob hid, happ]
theorem set_self {tm : List V} {d : Nat} {b : Bool} (h : tm.getD d .un = .dat .bool b) : tm.set d (.dat .bool b) = tm := by
  apply List.ext_getElem?
  intro i
  rw [List.getElem?_set]
  split
  · rename_i hi
    subst hi
    rw [List.getD_eq_getElem?_getD] at h
    cases hd : tm[d]? with
    | none => rw [hd] at h; cases h
    | some v =>
      rw [hd] at h
      simp only [Option.getD_some] at h
      have hlt : d < tm.length := (List.getElem?_eq_some_iff.1 hd).1
      rw [if_pos hlt, h]
  · rfl
theorem gdst_looks {o : Oper} {j d : Nat} {w : Bool} (hg : o.guard = some (j, w)) (hd : gdst ops.toList j = some d) : d ∈ o.looksAt ops := by
  unfold Oper.looksAt
  rw [hg]
  unfold gdst at hd
  rw [Array.getElem?_toList] at hd
  refine List.mem_append_right _ ?_
  cases ho : ops[j]? with
  | none => simp [ho] at hd
  | some o' => simp [ho] at hd; simp [ho, hd]
theorem ops_looks {o : Oper} {s s0 : St} (h : ∀ t ∈ o.looksAt ops, s0.tm.getD t .un = s.tm.getD t .un) : ∀ x ∈ o.op.operands, ev s0 x = ev s x :=
  fun x hx => ev_congr fun t ht => h t (by
    subst ht
    exact List.mem_append_left _ (List.mem_filterMap.2 ⟨.tmp t, by simpa using hx, rfl⟩))
theorem stepT_des {o : Oper} {s : St} {K : St → List Nat → List Nat → Option R} (h : stepT C ops.toList o s K = some r) :
    ∃ v u F W, Des C ops o s v u F W ∧ K ⟨setD s.tm o.dst v, updAll s.ob u⟩ F W = some r := by
  unfold stepT at h
  cases hg : o.guard with
  | none =>
    simp only [hg] at h
    obtain ⟨v, u, F, h1, h2⟩ := opT_des h
    refine ⟨v, u, F, _, ⟨rfl, fun s0 ht hid => ?_⟩, h2⟩
    obtain ⟨q1, q2⟩ := h1 s0 (ops_looks ht) hid
    exact ⟨fun K2 => by unfold stepT; simp only [hg]; exact q1 K2, fun K2 => by unfold stepK; simp only [hg]; exact q2 K2⟩
  | some jw =>
    obtain ⟨j, wt⟩ := jw
    simp only [hg] at h
    cases hd : gdst ops.toList j with
    | none => simp [hd] at h
    | some d =>
      simp only [hd] at h
      split at h
      case h_3 => cases h
      case h_2 hb =>
        have hset : ∀ s0 : St, s0.set o.dst .ud = ⟨setD s0.tm o.dst .ud, updAll s0.ob []⟩ := fun s0 => by unfold St.set setD; cases o.dst <;> rfl
        have hdl := gdst_looks hg hd
        refine ⟨.ud, [], [], [], ⟨rfl, fun s0 ht hid => ?_⟩, by rw [← hset]; exact h⟩
        have hb0 : s0.tm.getD d .un = .ud := by rw [ht d hdl, hb]
        exact ⟨fun K2 => by unfold stepT; simp only [hg, hd, hb0]; rw [hset], fun K2 => by unfold stepK; simp only [hg, hd, hb0]; rw [hset]⟩
      case h_1 b hb =>
      have hself : ∀ s0 : St, s0.tm.getD d .un = .dat .bool b → s0.set (some d) (.dat .bool b) = s0 := fun s0 h0 => by
        obtain ⟨tm, ob⟩ := s0
        simp only [St.set, St.mk.injEq, and_true]
        exact set_self h0
      have hdl := gdst_looks hg hd
      have run : ∀ (hbw : b = wt) , opT C o s K = some r → ∃ v u F W, Des C ops o s v u F W ∧ K ⟨setD s.tm o.dst v, updAll s.ob u⟩ F W = some r := by
        intro hbw hr
        obtain ⟨v, u, F, h1, h2⟩ := opT_des hr
        refine ⟨v, u, F, _, ⟨rfl, fun s0 ht hid => ?_⟩, h2⟩
        obtain ⟨q1, q2⟩ := h1 s0 (ops_looks ht) hid
        have hb0 : s0.tm.getD d .un = .dat .bool b := by rw [ht d hdl, hb]
        have hs0 := hself s0 hb0
        refine ⟨fun K2 => ?_, fun K2 => ?_⟩
        · unfold stepT
          simp only [hg, hd, hb0]
          cases b <;> cases wt <;> simp only [cond_true, cond_false] at hbw ⊢ <;> first | (cases hbw; done) | (rw [hs0]; exact q1 K2)
        · unfold stepK
          simp only [hg, hd, hb0]
          cases b <;> cases wt <;> simp only [cond_true, cond_false] at hbw ⊢ <;> first | (cases hbw; done) | (rw [hs0]; exact q2 K2)
      have skip : ∀ (hbw : b ≠ wt), K (s.set o.dst .ud) [] [] = some r → ∃ v u F W, Des C ops o s v u F W ∧ K ⟨setD s.tm o.dst v, updAll s.ob u⟩ F W = some r := by
        intro hbw hr
        have hset : ∀ s0 : St, s0.set o.dst .ud = ⟨setD s0.tm o.dst .ud, updAll s0.ob []⟩ := fun s0 => by unfold St.set setD; cases o.dst <;> rfl
        refine ⟨.ud, [], [], [], ⟨rfl, fun s0 ht hid => ?_⟩, by rw [← hset]; exact hr⟩
        have hb0 : s0.tm.getD d .un = .dat .bool b := by rw [ht d hdl, hb]
        have hs0 := hself s0 hb0
        refine ⟨fun K2 => ?_, fun K2 => ?_⟩
        · unfold stepT
          simp only [hg, hd, hb0]
          cases b <;> cases wt <;> simp only [cond_true, cond_false] at hbw ⊢ <;> first | (exact absurd rfl hbw) | (rw [hs0, hset])
        · unfold stepK
          simp only [hg, hd, hb0]
          cases b <;> cases wt <;> simp only [cond_true, cond_false] at hbw ⊢ <;> first | (exact absurd rfl hbw) | (rw [hs0, hset])
      have hs := hself s hb
      cases b <;> cases wt <;> simp only [cond_true, cond_false] at h
      · rw [hs] at h; exact run rfl h
      · rw [hs] at h; exact skip (by simp) h
      · rw [hs] at h; exact skip (by simp) h
      · rw [hs] at h; exact run rfl h
end
end Go.Ab

namespace Go.Ab
set_option linter.unusedVariables false
set_option linter.unusedSimpArgs false

/-! ### 53. Drawn rows: every order comes to the same -/
section
variable {C : Ctx} {ops : Array Oper} {R : Type} {r : R}
inductive RunI (C : Ctx) (ops : Array Oper) : List It → St → St → Prop
  | nil (s : St) : RunI C ops [] s s
  | cons {x : It} {l : List It} {s s2 : St} {v : V} {u : List OE} : Des C ops x.o s v u x.F x.W → RunI C ops l ⟨setD s.tm x.o.dst v, updAll s.ob u⟩ s2 → RunI C ops (x :: l) s s2
theorem drawK_run : ∀ {l : List Oper} {s : St} {tr : List (List Nat × List Nat)} {K : St → List (List Nat × List Nat) → Option R}, drawK C ops.toList l s tr K = some r →
    ∃ fws s', K s' (tr ++ fws) = some r ∧ fws.length = l.length ∧ ∀ i («as» : List (List Nat)), l.length ≤ «as».length → RunI C ops (mkIts i l fws «as») s s'
  | [], s, tr, K, h => ⟨[], s, by simpa [drawK] using h, rfl, fun i «as» _ => by simp only [mkIts]; exact .nil s⟩
  | o :: l, s, tr, K, h => by
    simp only [drawK] at h
    obtain ⟨v, u, F, W, hd, h1⟩ := stepT_des h
    obtain ⟨fws, s', h2, h3, h4⟩ := drawK_run h1
    refine ⟨(F, W) :: fws, s', by simpa [List.append_assoc] using h2, by simp [h3], fun i «as» hl => ?_⟩
    match «as», hl with
    | a :: «as», hl =>
      simp only [mkIts]
      exact .cons hd (h4 (i + 1) «as» (by simpa using hl))
theorem Des.alike {o : Oper} {s s0 : St} {v : V} {u : List OE} {F W : List Nat} (h : Des C ops o s v u F W) (ha : Alike s s0) : Des C ops o s0 v u F W :=
  ⟨h.w, fun s1 ht hid => h.at_ s1 (fun t hm => by rw [ht t hm, ha.tm]) fun id hm => by rw [hid id hm, ha.ob id]⟩
theorem Alike.step {s s0 : St} (h : Alike s s0) (d : Option Nat) (v : V) (u : List OE) : Alike ⟨setD s.tm d v, updAll s.ob u⟩ ⟨setD s0.tm d v, updAll s0.ob u⟩ :=
  ⟨by simp only [h.tm], fun id => updAll_in (.inr (h.ob id))⟩
theorem RunI.alike : ∀ {l : List It} {s s0 s2 : St}, RunI C ops l s s2 → Alike s s0 → ∃ s3, RunI C ops l s0 s3 ∧ Alike s2 s3
  | [], s, s0, s2, h, ha => by cases h; exact ⟨s0, .nil s0, ha⟩
  | x :: l, s, s0, s2, h, ha => by
    cases h with
    | cons hd hr =>
      obtain ⟨s3, h3, h4⟩ := RunI.alike hr (ha.step x.o.dst _ _)
      exact ⟨s3, .cons (hd.alike ha) h3, h4⟩
theorem getD_setD {tm : List V} {d : Option Nat} {v : V} {t : Nat} (h : d ≠ some t) : (setD tm d v).getD t .un = tm.getD t .un := by
  cases d with
  | none => rfl
  | some d =>
    simp only [setD, List.getD_eq_getElem?_getD, List.getElem?_set]
    rw [if_neg (fun e => h (by rw [e]))]
theorem okPair_spec {x y : It} (h : okPair ops x y = true) : (∀ d, x.o.dst = some d → d ∉ y.o.looksAt ops) ∧ (∀ d, x.o.dst = some d → y.o.dst ≠ some d) ∧ (∀ d, y.o.dst = some d → d ∉ x.o.looksAt ops) ∧
    (∀ id ∈ x.W, id ∉ y.F) ∧ (∀ id ∈ x.W, id ∉ y.W) ∧ (∀ id ∈ y.W, id ∉ x.F) := by
  simp only [okPair, Bool.and_eq_true] at h
  obtain ⟨h1, h2, h3, h4⟩ := h
  obtain ⟨a, b, c⟩ := Oper.apart_spec h1
  exact ⟨a, b, c, apart_spec h2, apart_spec h3, apart_spec h4⟩
theorem swap {x y : It} {s : St} {vx vy : V} {ux uy : List OE} (h : okPair ops x y = true) (hx : Des C ops x.o s vx ux x.F x.W) (hy : Des C ops y.o ⟨setD s.tm x.o.dst vx, updAll s.ob ux⟩ vy uy y.F y.W) :
    Des C ops y.o s vy uy y.F y.W ∧ Des C ops x.o ⟨setD s.tm y.o.dst vy, updAll s.ob uy⟩ vx ux x.F x.W ∧
      Alike ⟨setD (setD s.tm x.o.dst vx) y.o.dst vy, updAll (updAll s.ob ux) uy⟩ ⟨setD (setD s.tm y.o.dst vy) x.o.dst vx, updAll (updAll s.ob uy) ux⟩ := by
  obtain ⟨h1, h2, h3, h4, h5, h6⟩ := okPair_spec h
  have wx := hx.w
  have wy := hy.w
  refine ⟨⟨wy, fun s0 ht hid => hy.at_ s0 (fun t hm => ?_) fun id hm => ?_⟩, ⟨wx, fun s0 ht hid => hx.at_ s0 (fun t hm => ?_) fun id hm => ?_⟩, ⟨?_, fun id => ?_⟩⟩
  · rw [ht t hm]
    exact (getD_setD fun e => h1 t e hm).symm
  · rw [hid id hm]
    refine (updAll_other fun hi => ?_).symm
    rw [← wx] at hi
    rcases hm with hm | hm
    · exact h4 id hi hm
    · exact h5 id hi hm
  · rw [ht t hm]
    exact getD_setD fun e => h3 t e hm
  · rw [hid id hm]
    refine updAll_other fun hi => ?_
    rw [← wy] at hi
    rcases hm with hm | hm
    · exact h6 id hi hm
    · exact h5 id hm hi
  · cases hdx : x.o.dst with
    | none => rfl
    | some d =>
      cases hdy : y.o.dst with
      | none => rfl
      | some e =>
        have hne : d ≠ e := fun he => h2 d hdx (by rw [hdy, he])
        simp only [setD]
        exact List.set_comm _ _ hne
  · simp only
    by_cases hy' : id ∈ uy.map (·.id)
    · have hx' : id ∉ ux.map (·.id) := fun hx' => h5 id (by rw [wx]; exact hx') (by rw [wy]; exact hy')
      rw [updAll_other (us := ux) hx']
      exact updAll_in (.inl hy')
    · rw [updAll_other (us := uy) hy']
      by_cases hx' : id ∈ ux.map (·.id)
      · exact updAll_in (.inl hx')
      · rw [updAll_other hx', updAll_other hx', updAll_other hy']
/-- an operation that hangs on none of those ahead of it may go first -/
theorem front {x : It} : ∀ {pre post : List It} {s s2 : St}, RunI C ops (pre ++ x :: post) s s2 → (∀ y ∈ pre, okPair ops y x = true) →
    ∃ v u s3, Des C ops x.o s v u x.F x.W ∧ RunI C ops (pre ++ post) ⟨setD s.tm x.o.dst v, updAll s.ob u⟩ s3 ∧ Alike s2 s3
  | [], post, s, s2, h, hp => by
    cases h with
    | cons hd hr => exact ⟨_, _, s2, hd, hr, Alike.refl s2⟩
  | y :: pre, post, s, s2, h, hp => by
    cases h with
    | cons hd hr =>
      obtain ⟨v, u, s3, h1, h2, h3⟩ := front hr fun z hz => hp z (List.mem_cons_of_mem _ hz)
      obtain ⟨q1, q2, q3⟩ := swap (hp y (List.mem_cons_self ..)) hd h1
      obtain ⟨s4, r1, r2⟩ := h2.alike q3
      exact ⟨v, u, s4, q1, .cons q2 r1, h3.trans r2⟩

/-! ### 54. What must come ahead -/
def isEdge (ops : Array Oper) (k j : Nat) : Prop := ∃ o, ops[j]? = some o ∧ k ∈ edgesL o.after.toList
inductive Bef (ops : Array Oper) : Nat → Nat → Prop
  | dir {k j : Nat} : isEdge ops k j → Bef ops k j
  | tr {k e j : Nat} : isEdge ops e j → Bef ops k e → Bef ops k j
theorem edgesL_mem : ∀ {l : List Edge} {k : Nat}, k ∈ edgesL l ↔ ∃ e ∈ l, Region.binds .any e = true ∧ e.on = k
  | [], k => by simp [edgesL]
  | e :: l, k => by
    obtain ⟨on, g⟩ := e
    cases g <;> simp only [edgesL, List.mem_cons, edgesL_mem (l := l)] <;> constructor
    all_goals first
      | (rintro (rfl | ⟨e, he, hb, rfl⟩)
         · exact ⟨_, .inl rfl, rfl, rfl⟩
         · exact ⟨e, .inr he, hb, rfl⟩)
      | (rintro ⟨e, he, hb, rfl⟩
         first
           | exact ⟨e, .inr he, hb, rfl⟩
           | (rcases he with rfl | he
              · first | exact .inl rfl | (exact absurd hb (by simp [Region.binds]))
              · first | exact .inr ⟨e, he, hb, rfl⟩ | exact ⟨e, he, hb, rfl⟩))
def DC (ops : Array Oper) (listed : Array Bool) : Prop := ∀ j k, listed.getD j false = true → isEdge ops k j → listed.getD k false = true
theorem Bef.listed {listed : Array Bool} (hdc : DC ops listed) {k j : Nat} (h : Bef ops k j) (hj : ∀ e, isEdge ops e j → listed.getD e false = true) : listed.getD k false = true := by
  induction h with
  | dir h => exact hj _ h
  | tr h hb ih => exact ih fun e he => hdc _ _ (hj _ h) he
theorem ins_mem {n m : Nat} {l : List Nat} : m ∈ ins n l ↔ m = n ∨ m ∈ l := by
  unfold ins
  split
  · rename_i h
    constructor
    · exact .inr
    · rintro (rfl | h')
      · exact memb_mem.1 h
      · exact h'
  · simp
theorem insAll_mem {m : Nat} : ∀ {r l : List Nat}, m ∈ insAll r l ↔ m ∈ r ∨ m ∈ l
  | [], l => by simp [insAll]
  | n :: r, l => by
    rw [insAll, insAll_mem, ins_mem]
    simp only [List.mem_cons]
    constructor
    · rintro (h | h | h)
      · exact .inl (.inr h)
      · exact .inl (.inl h)
      · exact .inr h
    · rintro ((h | h) | h)
      · exact .inr (.inl h)
      · exact .inl h
      · exact .inr (.inr h)
theorem ancOf_mem {acc : List (List Nat)} {m : Nat} : ∀ {es : List Nat}, m ∈ ancOf acc es → ∃ e ∈ es, m = e ∨ m ∈ acc.getD e []
  | [], h => by simp [ancOf] at h
  | e :: r, h => by
    rw [ancOf, ins_mem, insAll_mem] at h
    rcases h with h | h | h
    · exact ⟨e, by simp, .inl h⟩
    · exact ⟨e, by simp, .inr h⟩
    · obtain ⟨e', he, h'⟩ := ancOf_mem h
      exact ⟨e', List.mem_cons_of_mem _ he, h'⟩
theorem ancs_ok : ∀ {l : List Oper} {acc : List (List Nat)}, (∀ j, l[j]? = ops.toList[acc.length + j]?) → (∀ j k, k ∈ acc.getD j [] → Bef ops k j) →
    (∀ j k, k ∈ (ancs l acc).getD j [] → Bef ops k j) ∧ (ancs l acc).length = acc.length + l.length
  | [], acc, hl, hb => ⟨hb, by simp [ancs]⟩
  | o :: l, acc, hl, hb => by
    rw [ancs]
    have ho : ops[acc.length]? = some o := by
      have := hl 0
      simpa using this.symm
    have := ancs_ok (l := l) (acc := acc ++ [ancOf acc (edgesL o.after.toList)]) (fun j => by
      have := hl (j + 1)
      rw [List.getElem?_cons_succ] at this
      rw [this]
      congr 1
      simp
      omega) (fun j k hk => by
      by_cases hj : j < acc.length
      · rw [List.getD_eq_getElem?_getD, List.getElem?_append_left hj, ← List.getD_eq_getElem?_getD] at hk
        exact hb j k hk
      · by_cases hj2 : j = acc.length
        · subst hj2
          rw [List.getD_eq_getElem?_getD, List.getElem?_append_right (Nat.le_refl _)] at hk
          simp only [Nat.sub_self, List.getElem?_cons_zero, Option.getD_some] at hk
          obtain ⟨e, he, h⟩ := ancOf_mem hk
          rcases h with rfl | h
          · exact .dir ⟨o, ho, he⟩
          · exact .tr ⟨o, ho, he⟩ (hb e k h)
        · rw [List.getD_eq_getElem?_getD, List.getElem?_eq_none (by simp; omega)] at hk
          simp at hk)
    refine ⟨this.1, by rw [this.2]; simp; omega⟩
theorem allLt_spec {n : Nat} : ∀ {l : List Nat}, allLt n l = true → ∀ m ∈ l, m < n
  | [], _, m, h => by simp at h
  | k :: r, hl, m, h => by
    simp only [allLt, Bool.and_eq_true] at hl
    rcases List.mem_cons.1 h with rfl | h
    · have := hl.1; rw [Nat.blt_eq] at this; exact this
    · exact allLt_spec hl.2 m h
theorem edgesLt_spec : ∀ {l : List Oper} {i : Nat}, edgesLt i l = true → ∀ j o, l[j]? = some o → ∀ k ∈ edgesL o.after.toList, k < i + j
  | [], i, h, j, o, ho => by simp at ho
  | o' :: l, i, h, j, o, ho => by
    simp only [edgesLt, Bool.and_eq_true] at h
    cases j with
    | zero => simp at ho; subst ho; exact allLt_spec h.1
    | succ j =>
      simp at ho
      intro k hk
      have := edgesLt_spec h.2 j o ho k hk
      omega
theorem okAll_spec {x : It} : ∀ {l : List It}, okAll ops x l = true → ∀ y ∈ l, x.i ∈ y.anc ∨ okPair ops x y = true
  | [], _, y, h => by simp at h
  | z :: l, hl, y, h => by
    simp only [okAll, Bool.and_eq_true, Bool.or_eq_true] at hl
    rcases List.mem_cons.1 h with rfl | h
    · rcases hl.1 with h1 | h1
      · exact .inl (memb_mem.1 h1)
      · exact .inr h1
    · exact okAll_spec hl.2 y h
theorem pairsOk_spec : ∀ {l : List It}, pairsOk ops l = true → l.Pairwise fun x y => x.i ∈ y.anc ∨ okPair ops x y = true
  | [], _ => .nil
  | x :: l, h => by
    simp only [pairsOk, Bool.and_eq_true] at h
    exact .cons (okAll_spec h.1) (pairsOk_spec h.2)
theorem mkIts_ok : ∀ {l : List Oper} {fws : List (List Nat × List Nat)} {«as» : List (List Nat)} {i : Nat}, ∀ x ∈ mkIts i l fws «as», i ≤ x.i ∧ l[x.i - i]? = some x.o ∧ «as».getD (x.i - i) [] = x.anc
  | [], fws, «as», i, x, h => by simp [mkIts] at h
  | o :: l, [], «as», i, x, h => by simp [mkIts] at h
  | o :: l, fw :: fws, [], i, x, h => by simp [mkIts] at h
  | o :: l, (F, W) :: fws, a :: «as», i, x, h => by
    simp only [mkIts] at h
    rcases List.mem_cons.1 h with rfl | h
    · simp
    · obtain ⟨h1, h2, h3⟩ := mkIts_ok x h
      have e : x.i - i = (x.i - (i + 1)) + 1 := by omega
      refine ⟨by omega, ?_, ?_⟩
      · rw [e, List.getElem?_cons_succ]; exact h2
      · rw [e]; simpa using h3
theorem mkIts_idx : ∀ {l : List Oper} {fws : List (List Nat × List Nat)} {«as» : List (List Nat)} {i : Nat}, fws.length = l.length → l.length ≤ «as».length → (mkIts i l fws «as»).map (·.i) = List.range' i l.length
  | [], fws, «as», i, h1, h2 => by simp [mkIts]
  | o :: l, (F, W) :: fws, a :: «as», i, h1, h2 => by
    simp only [mkIts, List.map_cons, List.length_cons]
    rw [mkIts_idx (by simpa using h1) (by simpa using h2), List.range'_succ]
end

/-! ### 55. The machine's drawn rows -/
section
variable {P : Program} {w0 : World} {M0 : Nat → Prop} {S0 : Sup} {Pin : Nat → Nat → Prop} {C : Ctx} {R : Type} {r : R} {ops : Array Oper}
theorem Rel.alike {ρ : Rho} {S : Sup} {s s' : St} {a : Act} {w : World} (h : Rel P w0 M0 S0 Pin ρ S s a w) (ha : Alike s s') : Rel P w0 M0 S0 Pin ρ S s' a w := by
  have hE : Ext ρ s.ob ρ s'.ob := ⟨fun id x hx => ⟨x, by rw [← ha.ob id]; exact hx, Nat.le_refl _, fun _ => ⟨Ob.later_refl _, rfl⟩⟩⟩
  have back : ∀ {id x}, look s'.ob id = some x → look s.ob id = some x := fun hx => by rw [ha.ob]; exact hx
  refine ⟨h.defers, by rw [h.size, ha.tm], fun i v hi => ?_, ⟨fun id x hx => ?_, ?_, ?_, h.ok.within, h.ok.sub, h.ok.supp, h.ok.left⟩, fun i b hp => ?_⟩
  · rw [← ha.tm] at hi
    exact (h.tmps i v hi).later (fun _ _ h => h) (Agree.refl S w) hE
  · exact OR_keep (h.ok.obs id x (back hx)) (fun _ _ h => h) (Agree.refl S w) hE rfl fun _ _ _ _ => rfl
  · intro i j x y b c c' hi hj
    exact h.ok.inj i j x y b c c' (back hi) (back hj)
  · intro i x b c hi
    exact h.ok.own i x b c (back hi)
  · obtain ⟨x, hx, hr⟩ := h.pins i b hp
    exact ⟨x, by rw [← ha.ob i]; exact hx, hr⟩
/-- what is still to come -/
structure Cov (ops : Array Oper) (listed : Array Bool) (items : List It) : Prop where
  op : ∀ x ∈ items, ops[x.i]? = some x.o
  out : ∀ x ∈ items, listed.getD x.i true = false
  all : ∀ j, listed.getD j true = false → ∃ x ∈ items, x.i = j
  asc : items.Pairwise fun x y => x.i < y.i
  anc : ∀ x ∈ items, ∀ k ∈ x.anc, Bef ops k x.i
  ok : items.Pairwise fun x y => x.i ∈ y.anc ∨ okPair ops x y = true
theorem getD_tf {listed : Array Bool} {i : Nat} : listed.getD i false = true ↔ (i < listed.size ∧ listed.getD i true ≠ false) := by
  by_cases h : i < listed.size
  · simp [Array.getD, h]
  · simp [Array.getD, h]
theorem mem_ready_iff {listed : Array Bool} {i : Nat} : i ∈ Region.ready .any ops listed ↔ listed.getD i true = false ∧ ∃ o, ops[i]? = some o ∧ ∀ k ∈ edgesL o.after.toList, listed.getD k false = true := by
  rw [mem_ready]
  constructor
  · rintro ⟨h, o, ho, he⟩
    refine ⟨h, o, ho, fun k hk => ?_⟩
    obtain ⟨e, hm, hb, rfl⟩ := edgesL_mem.1 hk
    exact he e (by simpa using hm) hb
  · rintro ⟨h, o, ho, he⟩
    exact ⟨h, o, ho, fun e hm hb => he e.on (edgesL_mem.2 ⟨e, by simpa using hm, hb, rfl⟩)⟩
theorem draw_any (hT : TyOk P C) (hEnv : EnvOk P C) {Q : Exit → Act → World → Prop} {s2 : St} (hlt : ∀ j o, ops[j]? = some o → ∀ k ∈ edgesL o.after.toList, k < j)
    (hQ : ∀ ρ S s a w, Rel P w0 M0 S0 Pin ρ S s a w → Alike s2 s → Q .normal a w) : ∀ (fuel : Nat) {listed : Array Bool} {items : List It} {ρ : Rho} {S : Sup} {s s3 : St} {a : Act} {w : World},
    items.length ≤ fuel → listed.size = ops.size → Cov ops listed items → DC ops listed → Rel P w0 M0 S0 Pin ρ S s a w → RunI C ops items s s3 → Alike s2 s3 → wpAny P .any ops Q fuel listed a w := by
  intro fuel
  have done : ∀ {listed : Array Bool} {items : List It}, listed.size = ops.size → Cov ops listed items → Region.ready .any ops listed = [] → items = [] := by
    intro listed items hsz hc hr
    cases hit : items with
    | nil => rfl
    | cons x l =>
      exfalso
      have hx : x ∈ items := by rw [hit]; simp
      have : x.i ∈ Region.ready .any ops listed := by
        rw [mem_ready_iff]
        refine ⟨hc.out x hx, x.o, hc.op x hx, fun k hk => ?_⟩
        have hk2 := hlt x.i x.o (hc.op x hx) k hk
        have hxs : x.i < ops.size := (Array.getElem?_eq_some_iff.1 (hc.op x hx)).1
        rw [getD_tf]
        refine ⟨by omega, fun hf => ?_⟩
        obtain ⟨y, hy, hyk⟩ := hc.all k hf
        have hasc := hc.asc
        rw [hit] at hasc hy
        rcases List.mem_cons.1 hy with rfl | hy
        · omega
        · have := List.rel_of_pairwise_cons hasc hy
          omega
      rw [hr] at this
      simp at this
  induction fuel with
  | zero =>
    intro listed items ρ S s s3 a w hlen hsz hc hdc hrel hrun hal
    have hit : items = [] := List.eq_nil_of_length_eq_zero (by omega)
    subst hit
    cases hrun
    refine ⟨?_, hQ ρ S s a w hrel hal⟩
    cases hr : Region.ready .any ops listed with
    | nil => rfl
    | cons i l =>
      exfalso
      have : i ∈ Region.ready .any ops listed := by rw [hr]; simp
      rw [mem_ready_iff] at this
      obtain ⟨y, hy, _⟩ := hc.all i this.1
      simp at hy
  | succ fuel ih =>
    intro listed items ρ S s s3 a w hlen hsz hc hdc hrel hrun hal
    refine ⟨fun hr => ?_, fun i hi => ?_⟩
    · have hit := done hsz hc hr
      subst hit
      cases hrun
      exact hQ ρ S s a w hrel hal
    · rw [mem_ready_iff] at hi
      obtain ⟨hout, o, ho, hedge⟩ := hi
      obtain ⟨x, hx, rfl⟩ := hc.all i hout
      obtain ⟨pre, post, rfl⟩ := List.append_of_mem hx
      have hxo : x.o = o := by have := hc.op x hx; rw [ho] at this; cases this; rfl
      subst hxo
      have hpre : ∀ y ∈ pre, okPair ops y x = true := by
        intro y hy
        have := (List.pairwise_append.1 hc.ok).2.2 y hy x (by simp)
        rcases this with h | h
        · exfalso
          have hl := Bef.listed hdc (hc.anc x hx _ h) fun e he => by
            obtain ⟨o', ho', he'⟩ := he
            rw [ho] at ho'
            cases ho'
            exact hedge e he'
          have hyo := hc.out y (by simp [hy])
          rw [getD_tf] at hl
          exact hl.2 hyo
        · exact h
      obtain ⟨v, u, s4, hdes, hrun2, hal2⟩ := front hrun hpre
      obtain ⟨_, hstep⟩ := hdes.at_ s (fun _ _ => rfl) (fun _ _ => rfl)
      have hxs : x.i < listed.size := by
        have := (Array.getElem?_eq_some_iff.1 ho).1
        omega
      have hcov : Cov ops (listed.setIfInBounds x.i true) (pre ++ post) := by
        have hasc := List.pairwise_append.1 hc.asc
        have hne : ∀ y ∈ pre ++ post, y.i ≠ x.i := by
          intro y hy
          rcases List.mem_append.1 hy with hy | hy
          · have := hasc.2.2 y hy x (by simp); omega
          · have := List.rel_of_pairwise_cons hasc.2.1 hy; omega
        have hmem : ∀ y ∈ pre ++ post, y ∈ pre ++ x :: post := by
          intro y hy
          rcases List.mem_append.1 hy with hy | hy
          · simp [hy]
          · simp [hy]
        have hsub : (pre ++ post).Sublist (pre ++ x :: post) := List.Sublist.append (List.Sublist.refl pre) (List.sublist_cons_self x post)
        refine ⟨fun y hy => hc.op y (hmem y hy), fun y hy => ?_, fun j hj => ?_, hc.asc.sublist hsub, fun y hy => hc.anc y (hmem y hy), hc.ok.sublist hsub⟩
        · rw [getD_set_ne true (fun e => hne y hy e.symm)]
          exact hc.out y (hmem y hy)
        · by_cases hjx : x.i = j
          · subst hjx
            simp [Array.getD, hxs] at hj
          · rw [getD_set_ne true hjx] at hj
            obtain ⟨y, hy, rfl⟩ := hc.all j hj
            refine ⟨y, ?_, rfl⟩
            rcases List.mem_append.1 hy with hy | hy
            · exact List.mem_append_left _ hy
            · rcases List.mem_cons.1 hy with rfl | hy
              · exact absurd rfl hjx
              · exact List.mem_append_right _ hy
      have hdc2 : DC ops (listed.setIfInBounds x.i true) := by
        intro j k hj hk
        by_cases hjx : x.i = j
        · subst hjx
          obtain ⟨o', ho', hk'⟩ := hk
          rw [ho] at ho'
          cases ho'
          exact getD_set_true (hedge k hk')
        · rw [getD_set_ne false hjx] at hj
          exact getD_set_true (hdc j k hj hk)
      have hsp := step_sound (Q := Q) hT hEnv hrel (ops := ops) (o := x.o) (K := some) (r := ⟨setD s.tm x.o.dst v, updAll s.ob u⟩) (hstep some) (N := wpAny P .any ops Q fuel (listed.setIfInBounds x.i true)) fun a' w' hg => by
        obtain ⟨ρ', S', s', hr', hs'⟩ := hg
        cases hs'
        exact ih (by simp at hlen ⊢; omega) (by simpa using hsz) hcov hdc2 hr' hrun2 (hal.trans hal2)
      unfold wpOp
      simp only [ho]
      split
      · rename_i hw; rw [if_pos hw] at hsp; exact .inl hsp
      · rename_i hw; rw [if_neg hw] at hsp; exact hsp
theorem Rel.drawn {ρ : Rho} {S : Sup} {s : St} {a : Act} {w : World} (h : Rel P w0 M0 S0 Pin ρ S s a w) (n : Nat) : Rel P w0 M0 S0 Pin ρ S s a { w with drawn := n } := by
  have hl : Left w { w with drawn := n } (fun _ => False) := ⟨rfl, rfl, rfl, Nat.le_refl _, fun _ _ _ => rfl⟩
  exact ⟨h.defers, h.size, fun i v hi => (h.tmps i v hi).later (fun _ _ h => h) (hl.agree h.ok.within fun _ _ _ => id) (Ext.refl _ _), h.ok.grow hl, h.pins⟩
theorem draw_sound (hT : TyOk P C) (hEnv : EnvOk P C) (hmix : P.follows .mixedOrders = true) {Q : Ex → St → Option R} {ρ : Rho} {S : Sup} {s : St} {a : Act} {w : World} {id : Nat} (h : Rel P w0 M0 S0 Pin ρ S s a w)
    (he : drawK C ops.toList ops.toList s [] (fun s tr => if indep ops tr then Q .normal s else none) = some r) {QC : Exit → Act → World → Prop} (hQ : ∀ a' w', Good P w0 M0 S0 Pin (Q .normal) r a' w' → QC .normal a' w') :
    (Code.region id ops true).wp P QC a w := by
  obtain ⟨fws, s2, h1, h2, h3⟩ := drawK_run he
  simp only [List.nil_append] at h1
  split at h1
  case isFalse => cases h1
  case isTrue hind =>
  simp only [indep, Bool.and_eq_true] at hind
  obtain ⟨ha, hl⟩ := ancs_ok (ops := ops) (l := ops.toList) (acc := []) (fun j => by simp) (fun j k hk => by simp at hk)
  have hrun := h3 0 (ancs ops.toList []) (by rw [hl]; simp)
  have hit := mkIts_ok (l := ops.toList) (fws := fws) («as» := ancs ops.toList []) (i := 0)
  have hidx := mkIts_idx (l := ops.toList) (fws := fws) («as» := ancs ops.toList []) (i := 0) h2 (by rw [hl]; simp)
  refine wp_region_any hmix ?_
  have hrep : ∀ j d, (Array.replicate ops.size false).getD j d = if j < ops.size then false else d := by
    intro j d
    by_cases hj : j < ops.size
    · simp [Array.getD, hj]
    · simp [Array.getD, hj]
  refine draw_any hT hEnv (s2 := s2) (fun j o ho k hk => by simpa using edgesLt_spec hind.2 j o (by simpa using ho) k hk) (fun ρ' S' s' a' w' hr' hal => hQ a' w' ⟨ρ', S', s2, hr'.alike hal.symm, h1⟩) ops.size (items := mkIts 0 ops.toList fws (ancs ops.toList [])) ?_ (by simp) ?_ ?_ (h.drawn _) hrun (Alike.refl s2)
  · have := congrArg List.length hidx
    simp at this
    omega
  · refine ⟨fun x hx => ?_, fun x hx => ?_, fun j hj => ?_, ?_, fun x hx k hk => ?_, pairsOk_spec hind.1⟩
    · have := (hit x hx).2.1
      simpa using this
    · have := (hit x hx).2.1
      simp only [Nat.sub_zero, Array.getElem?_toList] at this
      rw [hrep, if_pos (Array.getElem?_eq_some_iff.1 this).1]
    · rw [hrep] at hj
      split at hj
      · rename_i hlt
        have : j ∈ (mkIts 0 ops.toList fws (ancs ops.toList [])).map (·.i) := by rw [hidx]; simp; omega
        obtain ⟨x, hx, hxi⟩ := List.mem_map.1 this
        exact ⟨x, hx, hxi⟩
      · cases hj
    · have : ((mkIts 0 ops.toList fws (ancs ops.toList [])).map (·.i)).Pairwise (· < ·) := by rw [hidx]; exact List.pairwise_lt_range' ..
      exact List.pairwise_map.1 this
    · have := (hit x hx).2.2
      rw [Nat.sub_zero] at this
      exact ha x.i k (by rw [this]; exact hk)
  · intro j k hj _
    rw [hrep] at hj
    split at hj <;> cases hj
end
end Go.Ab
