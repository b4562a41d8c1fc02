/- A pure interpreter of the loaded code and its soundness, part 3. -/
import Derived.KernelRfl
import Derived.ChangeArms
import Derived.ChangeOld
import Derived.Below
import GoSem.ClaimJoined
import Derived.WideShapes
import Derived.ChangeShapes
import Derived.OpenShut
import Derived.Carry
import Derived.SizedLaws
import Derived.ChangeAt
import Derived.Test.YtdekjkgfohlmgaaGreatDoorAbG2
namespace Go.Ab
set_option linter.unusedVariables false
set_option linter.unusedSimpArgs false

/-! ### 47. Code -/
def Ex.to : Ex → Exit | .normal => .normal | .exit i => .exit i | .ret => .ret
section
variable {P : Program} {w0 : World} {M0 : Nat → Prop} {S0 : Sup} {Pin : Nat → Nat → Prop} {C : Ctx} {R : Type} {r : R}
def GoodQ (P : Program) (w0 : World) (M0 : Nat → Prop) (S0 : Sup) (Pin : Nat → Nat → Prop) (Q : Ex → St → Option R) (r : R) (e : Exit) (a : Act) (w : World) : Prop :=
  ∃ x : Ex, e = x.to ∧ Good P w0 M0 S0 Pin (Q x) r a w
theorem code_sound (hT : TyOk P C) (hEnv : EnvOk P C) (hmix : P.follows .mixedOrders = true) (hPin : ∀ i b, Pin i b → isPin i = true) {k : Nat} : ∀ (c : Code) {cur : Nat} {Q : Ex → St → Option R} {ρ : Rho} {S : Sup} {s : St} {a : Act} {w : World},
    Rel P w0 M0 S0 Pin ρ S s a w → exec C k cur c Q s = some r → c.wp P (GoodQ P w0 M0 S0 Pin Q r) a w := by
  intro c
  induction c with
  | skip => intro cur Q ρ S s a w h he; exact wp_skip ⟨.normal, rfl, ρ, S, s, h, by simpa [exec] using he⟩
  | label l => intro cur Q ρ S s a w h he; exact wp_label ⟨.normal, rfl, ρ, S, s, h, by simpa [exec] using he⟩
  | region id ops draw =>
    intro cur Q ρ S s a w h he
    cases draw with
    | false =>
      simp only [exec] at he
      split at he
      · exact wp_region_list (ops_sound hT hEnv ops.toList h he fun a' w' hg => ⟨.normal, rfl, hg⟩)
      · obtain ⟨hq, he⟩ := alK_of he
        split at he
        case h_2 => cases he
        case h_1 s1 hs1 =>
        obtain ⟨ρ1, S1, h1⟩ := canon_sound hEnv hPin h hq hs1
        cases k with
        | zero => simp [gate] at he
        | succ k => exact wp_region_list (ops_sound hT hEnv ops.toList h1 he fun a' w' hg => ⟨.normal, rfl, hg⟩)
    | true =>
      simp only [exec] at he
      split at he
      · exact draw_sound hT hEnv hmix h he fun a' w' hg => ⟨.normal, rfl, hg⟩
      · obtain ⟨hq, he⟩ := alK_of he
        split at he
        case h_2 => cases he
        case h_1 s1 hs1 =>
        obtain ⟨ρ1, S1, h1⟩ := canon_sound hEnv hPin h hq hs1
        cases k with
        | zero => simp [gate] at he
        | succ k => exact draw_sound hT hEnv hmix h1 he fun a' w' hg => ⟨.normal, rfl, hg⟩
  | seq x y ihx ihy =>
    intro cur Q ρ S s a w h he
    simp only [exec] at he
    refine wp_seq (wp_mono (ihx h he) fun e a' w' hg => ?_)
    obtain ⟨x', rfl, ρ', S', s', hr, hk⟩ := hg
    cases x' with
    | normal => exact ihy hr hk
    | exit i => exact ⟨.exit i, rfl, ρ', S', s', hr, hk⟩
    | ret => exact ⟨.ret, rfl, ρ', S', s', hr, hk⟩
  | cond c x y ihx ihy =>
    intro cur Q ρ S s a w h he
    simp only [exec] at he
    split at he
    case h_2 => cases he
    case h_1 b hb =>
    have hc := h.ev c
    rw [hb, VR_bool] at hc
    cases b with
    | true => exact wp_cond_true hc (ihx h he)
    | false => exact wp_cond_false hc (ihy h he)
  | block id x ih =>
    intro cur Q ρ S s a w h he
    simp only [exec] at he
    refine wp_block (wp_mono (ih h he) fun e a' w' hg => ?_)
    obtain ⟨x', rfl, ρ', S', s', hr, hk⟩ := hg
    cases x' with
    | normal => exact ⟨.normal, rfl, ρ', S', s', hr, hk⟩
    | exit i =>
      simp only [kblk] at hk
      show if i = id then _ else _
      by_cases hi : i = id
      · rw [if_pos hi]
        rw [if_pos (nbeq_true hi)] at hk
        exact ⟨.normal, rfl, ρ', S', s', hr, hk⟩
      · rw [if_neg hi]
        rw [nbeq_false hi] at hk
        exact ⟨.exit i, rfl, ρ', S', s', hr, hk⟩
    | ret => exact ⟨.ret, rfl, ρ', S', s', hr, hk⟩
  | loop x ih =>
    intro cur Q ρ S s a w h he
    simp only [exec] at he
    obtain ⟨hq, he⟩ := alK_of he
    split at he
    case h_2 => cases he
    case h_1 s1 hs1 =>
    obtain ⟨ρ1, S1, h1⟩ := canon_sound hEnv hPin h hq hs1
    refine wp_loop_ghost (fun n a w => ∃ ρ S s, Rel P w0 M0 S0 Pin ρ S s a w ∧ iter (fun Q s => exec C k cur x Q s) (alC C cur) (canon C cur) Q n s = some r) k ⟨ρ1, S1, s1, h1, he⟩ ?_
    rintro n a' w' ⟨ρ2, S2, s2, h2, hi⟩
    cases n with
    | zero => simp [iter] at hi
    | succ n =>
      simp only [iter] at hi
      refine wp_mono (ih h2 hi) fun e a3 w3 hg => ?_
      obtain ⟨x', rfl, ρ', S', s', hr, hk⟩ := hg
      cases x' with
      | normal =>
        simp only [kthen] at hk
        obtain ⟨hq4, hk⟩ := alK_of hk
        split at hk
        case h_2 => cases hk
        case h_1 s4 hs4 =>
        obtain ⟨ρ4, S4, h4⟩ := canon_sound hEnv hPin hr hq4 hs4
        exact ⟨n, Nat.lt_succ_self n, ρ4, S4, s4, h4, hk⟩
      | exit i => exact ⟨.exit i, rfl, ρ', S', s', hr, hk⟩
      | ret => exact ⟨.ret, rfl, ρ', S', s', hr, hk⟩
  | exit id => intro cur Q ρ S s a w h he; exact wp_exit ⟨.exit id, rfl, ρ, S, s, h, by simpa [exec] using he⟩
  | ret => intro cur Q ρ S s a w h he; exact wp_ret ⟨.ret, rfl, ρ, S, s, h, by simpa [exec] using he⟩
  | scope x ih =>
    intro cur Q ρ S s a w h he
    simp only [exec] at he
    refine wp_scope_straight (wp_mono (ih h he) fun e a' w' hg => ?_)
    obtain ⟨x', rfl, hg⟩ := hg
    cases x' with
    | normal => exact ⟨.normal, rfl, hg⟩
    | exit i => exact ⟨.exit i, rfl, hg⟩
    | ret => exact ⟨.ret, rfl, hg⟩
  | _ => intro cur Q ρ S s a w h he; simp [exec] at he

/-! ### 48. Functions -/
theorem packs_split {ob : List OE} : ∀ {rs os : List Sh} {vs us : List V} {p : Pk (Sh.Ts (rs ++ os))}, vs.length = rs.length → packs C ob (rs ++ os) (vs ++ us) = some p →
    ∃ p1 p2, packs C ob rs vs = some p1 ∧ packs C ob os us = some p2 ∧ Sh.fstL rs os p.x = p1.x ∧ Sh.sndL rs os p.x = p2.x ∧ p.lent = p1.lent ++ p2.lent ∧ p.gone = p1.gone ++ p2.gone
  | [], os, vs, us, p, hl, h => by
    obtain rfl : vs = [] := List.eq_nil_of_length_eq_zero (by simpa using hl)
    exact ⟨⟨(), [], []⟩, p, rfl, h, rfl, by simp [Sh.sndL], rfl, rfl⟩
  | [a], os, vs, us, p, hl, h => by
    match vs, hl with
    | [v], _ =>
      simp only [List.cons_append, List.nil_append, packs] at h
      split at h
      case h_2 => cases h
      case h_1 p1 hp1 =>
      split at h
      case h_2 => cases h
      case h_1 p2 hp2 =>
      cases h
      refine ⟨⟨p1.x, p1.lent ++ [], p1.gone ++ []⟩, p2, by simp [packs, hp1, Sh.cons], hp2, ?_, ?_, by simp, by simp⟩
      · cases os <;> rfl
      · cases os with
        | nil => cases us <;> simp [packs] at hp2; subst hp2; rfl
        | cons b os => rfl
  | a :: b :: r, os, vs, us, p, hl, h => by
    match vs, hl with
    | v :: vs, hl =>
      simp only [List.cons_append, packs] at h
      split at h
      case h_2 => cases h
      case h_1 p1 hp1 =>
      split at h
      case h_2 => cases h
      case h_1 p2 hp2 =>
      cases h
      obtain ⟨q1, q2, h1, h2, h3, h4, h5, h6⟩ := packs_split (rs := b :: r) (os := os) (vs := vs) (us := us) (p := p2) (by simpa using hl) hp2
      refine ⟨⟨Sh.cons (b :: r) p1.x q1.x, p1.lent ++ q1.lent, p1.gone ++ q1.gone⟩, q2, by simp only [packs, hp1, h1], h2, ?_, ?_, by simp [h5], by simp [h6]⟩
      · simp only [Sh.cons, Sh.fstL]
        rw [← h3]
      · rw [← h4]
        rfl
/-- parameters, laid out -/
theorem argV_sound {w : World} {S : Sup} {ρ : Rho} {i : Nat} {a : Sh} {x : a.T} {v : Value} {Ms : List Nat} (hp : okPar a = true) (hs : SV P w S a x v Ms) :
    ∃ l, Lays P w S [] ρ [] (argV i a x).2 Ms (fun ρ' ob' => VR P w ρ' S ob' (argV i a x).1 v) l ∧ ∀ a', a = .pm a' → ∃ b u, v = .pointer (some ⟨b, 0, none⟩) ∧ (⟨900000 + i, 0, .box u⟩, some (b, 0)) ∈ l := by
  cases a with
  | d t =>
    obtain ⟨hv, rfl⟩ := SV_VD hs
    exact ⟨[], Lays.nil fun _ _ => hv, fun a' h => by cases h⟩
  | o e t =>
    obtain ⟨l, hl⟩ := unpack_one (h := hpar i) (k := 0) (ob := []) (ρ := ρ) (gone := []) hp hs
    exact ⟨l, hl, fun a' h => by cases h⟩
  | one b =>
    obtain ⟨l, hl⟩ := unpack_one (h := hpar i) (k := 0) (ob := []) (ρ := ρ) (gone := []) (a := .one b) hp hs
    exact ⟨l, hl, fun a' h => by cases h⟩
  | pair b c =>
    obtain ⟨l, hl⟩ := unpack_one (h := hpar i) (k := 0) (ob := []) (ρ := ρ) (gone := []) (a := .pair b c) hp hs
    exact ⟨l, hl, fun a' h => by cases h⟩
  | fn b c =>
    obtain ⟨u, hu, hf, rfl⟩ := (hs : ∃ u, [v] = [u] ∧ FnR P w S b c x u ∧ Ms = [])
    cases hu
    exact ⟨[], Lays.nil fun _ _ => hf, fun a' h => by cases h⟩
  | nl =>
    obtain ⟨hu, rfl⟩ := (hs : [v] = [.slice none 0 0] ∧ Ms = [])
    cases hu
    exact ⟨[], Lays.nil fun _ _ => rfl, fun a' h => by cases h⟩
  | pi t =>
    obtain ⟨ad, hu, hf, rfl⟩ := (hs : ∃ ad, [v] = [.pointer (some ad)] ∧ PlaceR w S t x ad ∧ Ms = [])
    cases hu
    exact ⟨[], Lays.nil fun _ _ => ⟨ad, rfl, hf⟩, fun a' h => by cases h⟩
  | pm a =>
    obtain ⟨b, e, cur, N, hu, rfl, hh, hsr⟩ := (hs : ∃ b e cur N, [v] = [.pointer (some ⟨b, 0, none⟩)] ∧ Ms = b :: N ∧ w.heap[b]? = some (.cells cur e (0, 0)) ∧ SR P w S a x cur.toList N)
    cases hu
    obtain ⟨m, hm⟩ := unpack_sound (h := hbox (900000 + i)) (k := 0) (ob := []) (ρ := ρ) (gone := []) hp hsr
    refine ⟨(⟨900000 + i, 0, .box (unpack [] (hbox (900000 + i)) a x 0).v⟩, some (b, 0)) :: m, ?_, fun a' h => ⟨b, _, rfl, List.mem_cons_self ..⟩⟩
    refine ⟨by rw [List.map_cons, hm.names]; rfl, by rw [← hm.blk]; simp [layBlocks], fun ρ' ob' hLd => ?_, fun q hq => ?_, fun q hq => ?_⟩
    · obtain ⟨q1, q2⟩ := hm.all ρ' ob' fun q hq => hLd q (List.mem_cons_of_mem _ hq)
      obtain ⟨k1, k2⟩ := hLd _ (List.mem_cons_self ..)
      refine ⟨fun q hq => ?_, ?_⟩
      · rcases List.mem_cons.1 hq with rfl | hq
        · exact ⟨b, 0, cur, e, k2, hh, q2⟩
        · exact q1 q hq
      · refine ⟨⟨_, k1, Nat.le_refl _, fun _ => ⟨rfl, b, 0, k2, ?_⟩⟩, _, rfl⟩
        have e2 : ∀ u : V, Sk.off [] u.sk = 0 := fun u => by cases u.sk <;> rfl
        rw [e2]
    · rcases List.mem_cons.1 hq with rfl | hq
      · trivial
      · exact hm.live q hq
    · rcases List.mem_cons.1 hq with rfl | hq
      · exact .inl rfl
      · exact hm.gen q hq
theorem argVs_sound {w : World} {S : Sup} {ρ : Rho} : ∀ {«as» : List Sh} {i : Nat} {x : Sh.Ts «as»} {vals : List Value} {Ms : List Nat}, okPars «as» = true → ArgsR P w S «as» x vals Ms →
    ∃ l, Lays P w S [] ρ [] (argVs i «as» x).2 Ms (fun ρ' ob' => VRs P w ρ' S ob' (argVs i «as» x).1 vals) l ∧ ∀ j a', «as»[j]? = some (.pm a') → ∃ b u, vals[j]? = some (.pointer (some ⟨b, 0, none⟩)) ∧ (⟨900000 + (i + j), 0, .box u⟩, some (b, 0)) ∈ l
  | [], i, x, vals, Ms, hp, h => by
    obtain ⟨rfl, rfl⟩ := (h : vals = [] ∧ Ms = [])
    exact ⟨[], Lays.nil fun _ _ => rfl, fun j a' h => by simp at h⟩
  | a :: r, i, x, vals, Ms, hp, h => by
    rw [okPars, Bool.and_eq_true] at hp
    obtain ⟨v, us, M, N, rfl, rfl, h1, h2⟩ := h
    obtain ⟨l, hl, hl2⟩ := argV_sound (ρ := ρ) (i := i) hp.1 h1
    obtain ⟨m, hm, hm2⟩ := argVs_sound (ρ := ρ) (i := i + 1) hp.2 h2
    refine ⟨l ++ m, (hl.append hm).mono fun ρ' ob' _ hv => ⟨v, us, rfl, hv.1, hv.2⟩, fun j a' hj => ?_⟩
    cases j with
    | zero =>
      simp only [List.getElem?_cons_zero, Option.some.injEq] at hj
      obtain ⟨b, u, hv, hmem⟩ := hl2 a' hj
      exact ⟨b, u, by simp [hv], List.mem_append_left _ hmem⟩
    | succ j =>
      simp only [List.getElem?_cons_succ] at hj
      obtain ⟨b, u, hv, hmem⟩ := hm2 j a' hj
      exact ⟨b, u, by simpa using hv, List.mem_append_right _ (by rw [show i + (j + 1) = i + 1 + j by omega]; exact hmem)⟩
theorem ArgsR_len {w : World} {S : Sup} : ∀ {«as» : List Sh} {x : Sh.Ts «as»} {vals : List Value} {Ms : List Nat}, ArgsR P w S «as» x vals Ms → vals.length = «as».length
  | [], x, vals, Ms, h => by obtain ⟨rfl, _⟩ := (h : vals = [] ∧ Ms = []); rfl
  | a :: r, x, vals, Ms, h => by obtain ⟨v, us, M, N, rfl, _, _, h⟩ := h; simp [ArgsR_len h]
/-- what lies behind the pointers at the end -/
theorem outs_res {w : World} {S S' : Sup} {ρ : Rho} {ob : List OE} (hEnv : EnvOk P C) (hok : StOk P w0 M0 S0 ρ S ob w) (hS : ∀ b e, S b e → S' b e) : ∀ {«as» : List Sh} {i : Nat} {vals : List Value} {p : Pk (Sh.Ts (Sh.outs «as»))}, vals.length = «as».length →
    (∀ j a', «as»[j]? = some (.pm a') → ∃ b x, vals[j]? = some (.pointer (some ⟨b, 0, none⟩)) ∧ look ob (900000 + (i + j)) = some x ∧ (x.g = 0 → ∃ c, ρ (900000 + (i + j)) = some (b, c))) →
    packs C ob (Sh.outs «as») (outV i «as») = some p → LentAll ρ ob p.lent S' → OutsR P w S' «as» vals p.x (blocks ρ p.gone)
  | [], i, vals, p, hl, hp, h, hL => by
    obtain rfl : vals = [] := List.eq_nil_of_length_eq_zero (by simpa using hl)
    simp only [Sh.outs, outV, packs] at h
    cases h
    exact ⟨rfl, rfl⟩
  | a :: r, i, vals, p, hl, hp, h, hL => by
    match vals, hl with
    | v :: us, hl =>
      have hl' : us.length = r.length := by simpa using hl
      have hp' : ∀ j a', r[j]? = some (.pm a') → ∃ b x, us[j]? = some (.pointer (some ⟨b, 0, none⟩)) ∧ look ob (900000 + (i + 1 + j)) = some x ∧ (x.g = 0 → ∃ c, ρ (900000 + (i + 1 + j)) = some (b, c)) := by
        intro j a' hj
        obtain ⟨b, x, q1, q2, q3⟩ := hp (j + 1) a' (by simpa using hj)
        rw [show i + (j + 1) = i + 1 + j by omega] at q2 q3
        exact ⟨b, x, by simpa using q1, q2, q3⟩
      cases a with
      | pm a =>
        simp only [Sh.outs, outV, packs] at h
        split at h
        case h_2 => cases h
        case h_1 p1 hp1 =>
        split at h
        case h_2 => cases h
        case h_1 p2 hp2 =>
        cases h
        obtain ⟨b, x, q1, q2, q3⟩ := hp 0 a rfl
        simp only [List.getElem?_cons_zero, Option.some.injEq, Nat.add_zero] at q1 q2 q3
        subst q1
        have hvr : VR P w ρ S ob (.bp (900000 + i) 0 []) (.pointer (some ⟨b, 0, none⟩)) := by
          refine ⟨⟨x, q2, Nat.zero_le _, fun hg => ?_⟩, _, rfl⟩
          obtain ⟨c, hc⟩ := q3 hg
          cases hxo : x.o with
          | box v =>
            refine ⟨rfl, b, c, hc, ?_⟩
            have e2 : Sk.off [] v.sk = 0 := by cases v.sk <;> rfl
            rw [e2]
          | _ => trivial
        have hsr := pack_sound hEnv hok hS hvr hp1 hL.left
        obtain ⟨b', e, cur, N, hv, hM, hh, hsr'⟩ := (hsr : ∃ b' e cur N, [Value.pointer (some ⟨b, 0, none⟩)] = [.pointer (some ⟨b', 0, none⟩)] ∧ blocks ρ p1.gone = b' :: N ∧ w.heap[b']? = some (.cells cur e (0, 0)) ∧ SR P w S' a p1.x cur.toList N)
        cases hv
        refine ⟨b, us, e, cur, N, blocks ρ p2.gone, rfl, ?_, hh, ?_, ?_⟩
        · rw [blocks_append, hM]
        · have : Sh.hd (a := .pm a) (Sh.outs r) (Sh.cons (a := .pm a) (Sh.outs r) p1.x p2.x) = p1.x := hd_cons _ _
          rw [this]
          exact hsr'
        · have : Sh.tl (a := .pm a) (Sh.outs r) (Sh.cons (a := .pm a) (Sh.outs r) p1.x p2.x) = p2.x := tl_cons _ _
          rw [this]
          exact outs_res hEnv hok hS hl' hp' hp2 hL.right
      | d _ => exact ⟨v, us, rfl, outs_res («as» := r) (i := i + 1) hEnv hok hS hl' hp' h hL⟩
      | o _ _ => exact ⟨v, us, rfl, outs_res («as» := r) (i := i + 1) hEnv hok hS hl' hp' h hL⟩
      | one _ => exact ⟨v, us, rfl, outs_res («as» := r) (i := i + 1) hEnv hok hS hl' hp' h hL⟩
      | pair _ _ => exact ⟨v, us, rfl, outs_res («as» := r) (i := i + 1) hEnv hok hS hl' hp' h hL⟩
      | fn _ _ => exact ⟨v, us, rfl, outs_res («as» := r) (i := i + 1) hEnv hok hS hl' hp' h hL⟩
      | pi _ => exact ⟨v, us, rfl, outs_res («as» := r) (i := i + 1) hEnv hok hS hl' hp' h hL⟩
      | nl => exact ⟨v, us, rfl, outs_res («as» := r) (i := i + 1) hEnv hok hS hl' hp' h hL⟩
theorem packs_bad {ob : List OE} : ∀ {«as» : List Sh} {vs : List V} {p : Pk (Sh.Ts «as»)}, packs C ob «as» vs = some p → ∀ v ∈ vs, v.sk ≠ .bad
  | [], [], p, h, v, hv => by simp at hv
  | [], _ :: _, p, h, v, hv => by simp [packs] at h
  | _ :: _, [], p, h, v, hv => by simp [packs] at h
  | a :: «as», u :: us, p, h, v, hv => by
    simp only [packs] at h
    split at h
    case h_2 => cases h
    case h_1 p1 hp1 =>
    split at h
    case h_2 => cases h
    case h_1 p2 hp2 =>
    rcases List.mem_cons.1 hv with rfl | hv
    · exact (pack_bad hp1).1
    · exact packs_bad hp2 v hv
def readRes (ts : Array Value) : ResultVar → Sem Value
  | .tmp t => pure (ts.getD t undef)
  | .cell q t => do loadVar t (← asAddr (ts.getD q undef))
/-- the results are read -/
theorem res_run (hT : TyOk P C) {ρ : Rho} {S : Sup} {s : St} {a : Act} {w : World} (h : Rel P w0 M0 S0 Pin ρ S s a w) : ∀ (rs : List ResultVar), (∀ v ∈ resV C s rs, v.sk ≠ .bad) →
    ∃ vals, (rs.mapM (readRes a.tmps)).run P w = .ok vals w ∧ VRs P w ρ S s.ob (resV C s rs) vals
  | [], _ => ⟨[], by simp, rfl⟩
  | .tmp t :: rs, hb => by
    obtain ⟨vals, hrun, hv⟩ := res_run hT h rs fun v hm => hb v (by simp [resV, hm])
    exact ⟨a.tmps.getD t undef :: vals, by simp only [List.mapM_cons, readRes, Sem.run_bind, hrun, Sem.run_pure, Result.andThen_ok], _, _, rfl, slot_VR h t, hv⟩
  | .cell q t :: rs, hb => by
    obtain ⟨vals, hrun, hv⟩ := res_run hT h rs fun v hm => hb v (by simp [resV, hm])
    have hq := hb _ (by simp only [resV]; exact List.mem_cons_self ..)
    have hsl := slot_VR h q
    cases hl : loadP s.ob (s.tm.getD q .un) with
    | none => rw [hl] at hq; exact absurd rfl hq
    | some v =>
      by_cases ht : tySk C t v = true
      · obtain ⟨x, hx, hxv⟩ := load_sound hT h.ok hsl hl ht
        obtain ⟨ad, cs, had, _⟩ := place_at h.ok hsl hl
        have hx' : (loadVar t ad).run P w = .ok x w := by
          rw [had] at hx
          simpa [Instr.loadAt, Instr.sureAddr] using hx
        refine ⟨x :: vals, ?_, x, vals, rfl, ?_, hv⟩
        · simp only [List.mapM_cons, readRes, had, asAddr, Sem.run_bind, hx', hrun, Sem.run_pure, Result.andThen_ok]
        · simp only [hl, ht, if_true]; exact hxv
      · simp only [hl, if_neg ht] at hq; exact absurd rfl hq
end
end Go.Ab

namespace Go.Ab
set_option linter.unusedVariables false
set_option linter.unusedSimpArgs false

/-! ### 49. A function does what its reading says -/
section
variable {P : Program} {C : Ctx}
theorem resV_len (C : Ctx) (s : St) : ∀ (rs : List ResultVar), (resV C s rs).length = rs.length
  | [] => rfl
  | .tmp _ :: rs => by simp [resV, resV_len C s rs]
  | .cell _ _ :: rs => by simp [resV, resV_len C s rs]
theorem run_results {w : World} {F : Func} {tmps : Array Value} {vals : List Value} (h : (F.results.toList.mapM (readRes tmps)).run P w = .ok vals w) :
    (results F tmps).run P w = .ok (retOf vals) w := by
  have h2 : (F.results.mapM (readRes tmps)).run P w = .ok vals.toArray w := by
    rw [Array.mapM_eq_mapM_toList]
    simp [h]
  have e : results F tmps = (do let vs ← F.results.mapM (readRes tmps); pure (if h : vs.size = 1 then vs[0] else .tuple vs)) := by
    unfold results
    congr 1
  rw [e, Sem.run_bind, h2]
  simp only [Result.andThen_ok]
  match vals with
  | [] => simp [retOf]
  | [v] => simp [retOf]
  | v :: u :: r => simp [retOf]
theorem enters_of {f : FuncId} {F : Func} {c : Code} (hf : P.funcs[f]? = some F) (hb : F.body = some c) (hn : (F.name == "runtime.NumGoroutine") = false) : Enters P f := by
  intro args w
  have hn' : F.name ≠ "runtime.NumGoroutine" := by simpa using hn
  simp [callFunc, hf, hb, hn']
theorem fn_sound_in (hT : TyOk P C) (hEnv : EnvOk P C) (hmix : P.follows .mixedOrders = true) {k : Nat} {f : FuncId} {F : Func} {«as» rs : List Sh} (hf : P.funcs[f]? = some F) (hb : F.body.isSome = true) (hn : (F.name == "runtime.NumGoroutine") = false) :
    Sound P ⟨f, «as», rs, fn C k F «as» rs⟩ := by
  obtain ⟨c, hc⟩ := Option.isSome_iff_exists.1 hb
  refine ⟨enters_of hf hc hn, ?_⟩
  intro x y hg w S vals Ms hw hargs hMn hM
  simp only at hg hargs
  have hcode : Func.code F = c := by unfold Func.code; rw [hc]
  unfold fn at hg
  cases hav : argVs 0 «as» x with
  | mk vs u =>
  simp only [hav] at hg
  split at hg
  case isFalse => cases hg
  case isTrue hck =>
  simp only [Bool.and_eq_true] at hck
  obtain ⟨⟨⟨hpar, hids⟩, hrl⟩, hlt⟩ := hck
  have hids' := nodupb_nodup hids
  rw [idsOf_map] at hids'
  obtain ⟨l, hl, hpins⟩ := argVs_sound (P := P) (ρ := fun _ => none) (i := 0) hpar hargs
  rw [hav] at hl
  obtain ⟨hok, hF, hlaid⟩ := start_ok (P := P) (M0 := (· ∈ Ms)) (S0 := S) (w0 := w) hl hids' hMn (fun b hb => ⟨(hM b hb).2, .inl hb, (hM b hb).1⟩) hw (fun _ _ h => h) (fun _ _ h => .inl h) (Left.refl w _)
  have hlen := ArgsR_len hargs
  have hvl : vals.length = vs.length := VRs_len hF
  let Pin : Nat → Nat → Prop := fun n b => ∃ j a', n = 900000 + j ∧ «as»[j]? = some (.pm a') ∧ vals[j]? = some (.pointer (some ⟨b, 0, none⟩))
  have hPin : ∀ i b, Pin i b → isPin i = true := by
    rintro i b ⟨j, a', rfl, hj, _⟩
    have h1 : j < «as».length := (List.getElem?_eq_some_iff.1 hj).1
    have h2 : «as».length < 16 := by rw [← Nat.blt_eq]; exact hlt
    simp only [isPin, Bool.and_eq_true]
    exact ⟨by rw [Nat.ble_eq]; omega, by rw [Nat.blt_eq]; omega⟩
  have hrel : Rel P w (· ∈ Ms) S Pin (layRho l fun _ => none) S ⟨vs ++ List.replicate (F.ntmps - vs.length) .un, u⟩ { tmps := vals.toArray ++ Array.replicate (F.ntmps - vals.toArray.size) undef, defers := [] } w := by
    refine ⟨rfl, by simp [hvl], fun i v hi => ?_, hok, ?_⟩
    · rw [List.getElem?_append] at hi
      split at hi
      · rename_i hil
        have hx : ∃ x, vals[i]? = some x := ⟨vals[i]'(by omega), by rw [List.getElem?_eq_getElem]⟩
        obtain ⟨x, hx⟩ := hx
        have := VRs_get hF i v x hi hx
        have e : (vals.toArray ++ Array.replicate (F.ntmps - vals.toArray.size) undef).getD i undef = x := by
          rw [Array.getD_eq_getD_getElem?, Array.getElem?_append_left (by simp; omega)]
          simp [hx]
        simp only
        rw [e]
        exact this
      · rw [List.getElem?_replicate] at hi
        split at hi
        · cases hi; trivial
        · cases hi
    · rintro i b ⟨j, a', rfl, hj, hv⟩
      obtain ⟨b', v, hv', hmem⟩ := hpins j a' hj
      rw [hv] at hv'
      cases hv'
      obtain ⟨q1, q2⟩ := hlaid _ hmem
      simp only [Nat.zero_add] at q1 q2
      exact ⟨_, q1, fun _ => ⟨0, q2⟩⟩
  rw [hcode] at hg
  refine calls_of_wp hf hc (wp_mono (code_sound hT hEnv hmix hPin c hrel hg) fun e a' w' hgood => ?_)
  obtain ⟨ex, rfl, ρ', S', s', hr, hk⟩ := hgood
  -- the end
  have fin : ∀ q : Option (Sh.Ts (rs ++ Sh.outs «as»)), q = (match packs C s'.ob (rs ++ Sh.outs «as») (resV C s' F.results.toList ++ outV 0 «as») with
      | some p => if p.ok = true then some p.x else none
      | none => none) → q = some y → a'.defers = [] ∧ ∃ v, (results F a'.tmps).run P w' = .ok v w' ∧ Post P w S «as» rs vals Ms y (.returned v) w' := by
    intro q hq hy
    rw [hq] at hy
    split at hy
    case h_2 => cases hy
    case h_1 p hp =>
    split at hy
    case isFalse => cases hy
    case isTrue hpk =>
    cases hy
    unfold Pk.ok at hpk
    simp only [Bool.and_eq_true] at hpk
    have hnd := nodupb_nodup hpk.1
    have hap := apart_spec hpk.2
    have hlive := packs_live hp
    obtain ⟨p1, p2, hp1, hp2, hx1, hx2, hL, hG⟩ := packs_split (rs := rs) (os := Sh.outs «as») (by rw [resV_len, Array.length_toList]; exact nbeq_eq hrl) hp
    obtain ⟨rvals, hrun, hrv⟩ := res_run hT hr F.results.toList (packs_bad hp1)
    have hLA := lent_supC (lent := p.lent) (E0 := 0) hr.ok
    have hSc : ∀ b e, S' b e → supC ρ' s'.ob p.lent 0 S' b e := fun b e h => .inl h
    have hres := packs_sound hEnv hr.ok hSc hrv hp1 (hLA.mono fun id hid => by rw [hL]; exact List.mem_append_left _ hid)
    have houts := outs_res (i := 0) (vals := vals) hEnv hr.ok hSc hlen (fun j a' hj => by
      obtain ⟨b, v, hv, _⟩ := hpins j a' hj
      obtain ⟨x, q1, q2⟩ := hr.pins (900000 + j) b ⟨j, a', rfl, hj, hv⟩
      exact ⟨b, x, hv, by rw [Nat.zero_add]; exact q1, by rw [Nat.zero_add]; exact q2⟩) hp2 (hLA.mono fun id hid => by rw [hL]; exact List.mem_append_right _ hid)
    refine ⟨hr.defers, retOf rvals, run_results hrun, ⟨rvals, supC ρ' s'.ob p.lent 0 S', blocks ρ' p1.gone, blocks ρ' p2.gone, rfl, hr.ok.left, fun b e hs => .inl (hr.ok.sub b e hs), ?_, supC_within hr.ok, ?_, ?_, ?_, ?_⟩⟩
    · rintro b e (hs | ⟨id2, h2, q, c2, hq, hr2, hm⟩)
      · exact hr.ok.supp b e hs
      · have hql : q.o.live := by
          obtain ⟨_, _, qo⟩ := q
          cases qo <;> first | trivial | exact hm.elim
        exact .inr (hr.ok.own id2 q b c2 hq hql hr2).2.1
    · rw [← blocks_append, ← hG]
      exact blocks_nodup hr.ok hnd hlive
    · intro b hb
      rw [← blocks_append, ← hG] at hb
      obtain ⟨id, hid, c1, hr1⟩ := blocks_mem.1 hb
      obtain ⟨z, hz, hzl⟩ := hlive id hid
      obtain ⟨o1, o2, o3⟩ := hr.ok.own id z b c1 hz hzl hr1
      refine ⟨?_, o2, o3⟩
      rintro e (hs | ⟨id2, h2, q, c2, hq, hr2, hm⟩)
      · exact o1 e hs
      · have hql : q.o.live := by
          obtain ⟨_, _, qo⟩ := q
          cases qo <;> first | trivial | exact hm.elim
        have := hr.ok.inj id2 id q z b c2 c1 hq hz hql hzl hr2 hr1
        subst this
        exact hap id2 hid h2
    · rw [hx1]; exact hres
    · rw [hx2]; exact houts
  cases ex with
  | normal => exact fin _ rfl hk
  | exit i => simp [kfin] at hk
  | ret => exact fin _ rfl hk
theorem fn_sound (hT : TyOk P C) (hEnv : ∀ E, E ∈ C.env → Sound P E) (hmix : P.follows .mixedOrders = true) {k : Nat} {f : FuncId} {F : Func} {«as» rs : List Sh} (hf : P.funcs[f]? = some F) (hb : F.body.isSome = true) (hn : (F.name == "runtime.NumGoroutine") = false) (hI : C.inp = [] := by rfl) :
    Sound P ⟨f, «as», rs, fn C k F «as» rs⟩ := fn_sound_in hT ⟨hEnv, fun I h => by rw [hI] at h; cases h⟩ hmix hf hb hn
end
end Go.Ab

namespace Go.Ab
set_option linter.unusedVariables false
set_option linter.unusedSimpArgs false

/-! ### 56. The table of types, checked -/
def sizeB (P : Program) (t : TypeId) (ty : Ty) : Bool :=
  match P.info? t with
  | some i => Nat.beq i.size ty.size && (match i.zero with | some z => (match zcells ty z.cells.toList with | some [] => true | _ => false) | none => false)
  | none => false
theorem sizeB_of {P : Program} {t : TypeId} {ty : Ty} (h : sizeB P t ty = true) : SizeF P t ty := by
  unfold sizeB at h
  split at h
  · rename_i i hi
    simp only [Bool.and_eq_true] at h
    obtain ⟨h1, h2⟩ := h
    split at h2
    · rename_i z hz
      split at h2
      · rename_i hc; exact ⟨i, z, hi, nbeq_eq h1, hz, hc⟩
      · cases h2
    · cases h2
  · cases h
def beqB : Bool → Bool → Bool | true, true | false, false => true | _, _ => false
theorem beqB_of {a b : Bool} (h : beqB a b = true) : a = b := by cases a <;> cases b <;> first | rfl | cases h
def undLeafB (P : Program) (ft : TypeId) : Ty → Bool
  | .int k => (match P.underlying ft with | some (.int l) => Nat.beq (kindNo l) (kindNo k) | _ => false)
  | .bool => (match P.underlying ft with | some .bool => true | _ => false)
  | .str => (match P.underlying ft with | some .string => true | _ => false)
  | _ => false
theorem undLeafB_of {P : Program} {ft : TypeId} : ∀ {ty : Ty}, undLeafB P ft ty = true → UndLeaf P ft ty
  | .int k, h => by
    simp only [undLeafB] at h
    split at h
    · rename_i l hu; rw [← kindNo_inj (nbeq_eq h)]; exact hu
    · cases h
  | .bool, h => by
    simp only [undLeafB] at h
    split at h
    · rename_i hu; exact hu
    · cases h
  | .str, h => by
    simp only [undLeafB] at h
    split at h
    · rename_i hu; exact hu
    · cases h
  | .unit, h => by simp [undLeafB] at h
  | .blob _, h => by simp [undLeafB] at h
  | .sl _ _, h => by simp [undLeafB] at h
  | .one _, h => by simp [undLeafB] at h
  | .pair _ _, h => by simp [undLeafB] at h
def leafB (P : Program) (t : TypeId) : Ty → Bool
  | .int k => undLeafB P t (.int k)
  | .bool => undLeafB P t .bool
  | .str => undLeafB P t .str
  | _ => true
def slB (P : Program) (C : Ctx) (t : TypeId) : Ty → Bool
  | .sl e u => (match P.underlying t with | some (.slice e') => Nat.beq e' e | _ => false) && Nat.blt 0 u.size && sizeB P e u &&
      (match P.info? e with | some i => Nat.beq i.bytes ((assoc C.by_ e).getD 0) && Nat.blt 0 i.bytes | none => false)
  | _ => true
def eqRowB (P : Program) : List Field → Ty → Nat → Bool
  | [f], t, o => !(f.name == "_") && Nat.beq f.offset o && undLeafB P f.type t
  | f :: g :: fs, .pair a b, o => !(f.name == "_") && Nat.beq f.offset o && undLeafB P f.type a && eqRowB P (g :: fs) b (o + 1)
  | _, _, _ => false
theorem eqRowB_of {P : Program} : ∀ {fs : List Field} {t : Ty} {o : Nat}, eqRowB P fs t o = true → EqRow P fs t o
  | [f], t, o, h => by
    simp only [eqRowB, Bool.and_eq_true, Bool.not_eq_true'] at h
    refine ⟨fun e => ?_, nbeq_eq h.1.2, undLeafB_of h.2⟩
    rw [e] at h
    simp at h
  | f :: g :: fs, .pair a b, o, h => by
    simp only [eqRowB, Bool.and_eq_true, Bool.not_eq_true'] at h
    refine ⟨fun e => ?_, nbeq_eq h.1.1.2, undLeafB_of h.1.2, eqRowB_of h.2⟩
    rw [e] at h
    simp at h
  | [], t, o, h => by simp [eqRowB] at h
  | _ :: _ :: _, .unit, o, h => by simp [eqRowB] at h
  | _ :: _ :: _, .int _, o, h => by simp [eqRowB] at h
  | _ :: _ :: _, .bool, o, h => by simp [eqRowB] at h
  | _ :: _ :: _, .str, o, h => by simp [eqRowB] at h
  | _ :: _ :: _, .blob _, o, h => by simp [eqRowB] at h
  | _ :: _ :: _, .sl _ _, o, h => by simp [eqRowB] at h
  | _ :: _ :: _, .one _, o, h => by simp [eqRowB] at h
def eqB (P : Program) (t : TypeId) (ty : Ty) : Bool :=
  match ty with
  | .pair u v => !(Ty.pair u v).eqable || (match P.underlying t with | some (.struct fs) => !P.stoodInHeld t && !P.eqGuardType P.depth t && eqRowB P fs.toList (.pair u v) 0 | _ => false)
  | _ => true
def fieldsB (P : Program) (ty : Ty) (n : Nat) : Nat → List Field → Bool
  | _, [] => true
  | j, f :: r => (match Ty.at (fpath n j) ty with
      | some u => Nat.beq f.offset (Sk.off (fpath n j) ty.sk) && Nat.blt 0 u.size && sizeB P f.type u && (P.underlying f.type).isSome && beqB (aggP P f.type) u.isAgg && !(f.name == "_")
      | none => false) && fieldsB P ty n (j + 1) r
theorem fieldsB_of {P : Program} {ty : Ty} {n : Nat} : ∀ {l : List Field} {i : Nat}, fieldsB P ty n i l = true → ∀ (j : Nat) (f : Field), l[j]? = some f →
    ∃ u, Ty.at (fpath n (i + j)) ty = some u ∧ f.offset = Sk.off (fpath n (i + j)) ty.sk ∧ 0 < u.size ∧ SizeF P f.type u ∧ (P.underlying f.type).isSome = true ∧ aggP P f.type = u.isAgg ∧ f.name ≠ "_"
  | [], i, h, j, f, hf => by simp at hf
  | g :: l, i, h, j, f, hf => by
    simp only [fieldsB, Bool.and_eq_true] at h
    cases j with
    | zero =>
      simp at hf
      subst hf
      obtain ⟨h1, _⟩ := h
      split at h1
      · rename_i u hu
        simp only [Bool.and_eq_true, Bool.not_eq_true'] at h1
        obtain ⟨⟨⟨⟨⟨a, b⟩, c⟩, d⟩, e⟩, g'⟩ := h1
        refine ⟨u, hu, nbeq_eq a, by rw [Nat.blt_eq] at b; exact b, sizeB_of c, d, beqB_of e, fun e => ?_⟩
        rw [e] at g'
        simp at g'
      · cases h1
    | succ j =>
      simp at hf
      have := fieldsB_of h.2 j f hf
      rwa [show i + 1 + j = i + (j + 1) by omega] at this
def structB (P : Program) (C : Ctx) (t : TypeId) (ty : Ty) : Bool :=
  match assoc C.nf t with
  | none => true
  | some n => match P.underlying t with
    | some (.struct fs) => Nat.beq fs.size n && fieldsB P ty n 0 fs.toList
    | _ => false
def arrB (P : Program) (C : Ctx) (t : TypeId) (ty : Ty) : Bool :=
  match assoc C.arr t with
  | none => true
  | some (e, n) => (match P.underlying t with | some (.array m f) => Nat.beq m n && Nat.beq f e | _ => false) && ((P.underlying e).isSome &&
      (match Ty.at (fpath n 0) ty with
       | some u => Nat.blt 0 u.size && (sizeB P e u && (beqB (aggP P e) u.isAgg && (List.range n).all fun j => (match Ty.at (fpath n j) ty with | some v => v.eqb u | none => false) && Nat.beq (Sk.off (fpath n j) ty.sk) (j * u.size)))
       | none => false))
theorem arrB_of {P : Program} {C : Ctx} {t : TypeId} {ty : Ty} (h : arrB P C t ty = true) : ∀ e n, assoc C.arr t = some (e, n) → P.underlying t = some (.array n e) ∧ (P.underlying e).isSome = true ∧ ∃ u, 0 < u.size ∧ SizeF P e u ∧ aggP P e = u.isAgg ∧ ∀ j, j < n → Ty.at (fpath n j) ty = some u ∧ Sk.off (fpath n j) ty.sk = j * u.size := by
  intro e n hn
  simp only [arrB, hn, Bool.and_eq_true] at h
  obtain ⟨h1, h2, h3⟩ := h
  split at h1
  · rename_i m f hu
    rw [Bool.and_eq_true] at h1
    obtain rfl := nbeq_eq h1.1
    obtain rfl := nbeq_eq h1.2
    refine ⟨hu, h2, ?_⟩
    split at h3
    · rename_i u hu
      simp only [Bool.and_eq_true] at h3
      obtain ⟨a, b, c, d⟩ := h3
      refine ⟨u, by rw [Nat.blt_eq] at a; exact a, sizeB_of b, beqB_of c, fun j hj => ?_⟩
      have := List.all_eq_true.1 d j (List.mem_range.2 hj)
      rw [Bool.and_eq_true] at this
      obtain ⟨x, y⟩ := this
      split at x
      · rename_i v hv
        rw [hv, Ty.eq_of_eqb x]
        exact ⟨rfl, nbeq_eq y⟩
      · cases x
    · cases h3
  · cases h1
def tyB (P : Program) (C : Ctx) (t : TypeId) (ty : Ty) : Bool :=
  arrB P C t ty && sizeB P t ty && (P.underlying t).isSome && beqB (aggP P t) ty.isAgg && leafB P t ty && slB P C t ty && eqB P t ty && structB P C t ty
theorem tyB_of {P : Program} {C : Ctx} {t : TypeId} {ty : Ty} (h : tyB P C t ty = true) : TyF P C t ty := by
  simp only [tyB, Bool.and_eq_true] at h
  obtain ⟨⟨⟨⟨⟨⟨⟨h0, h1⟩, h2⟩, h3⟩, h4⟩, h5⟩, h6⟩, h7⟩ := h
  refine ⟨sizeB_of h1, h2, beqB_of h3, ?_, ?_, ?_, ?_, ?_, ?_, arrB_of h0⟩
  · rintro k rfl; exact undLeafB_of (P := P) (ty := .int k) h4
  · rintro rfl; exact undLeafB_of (P := P) (ty := .bool) h4
  · rintro rfl; exact undLeafB_of (P := P) (ty := .str) h4
  · rintro e u rfl
    simp only [slB, Bool.and_eq_true] at h5
    obtain ⟨⟨⟨a, b⟩, c⟩, d⟩ := h5
    split at a
    · rename_i e' hu
      obtain rfl := nbeq_eq a
      split at d
      · rename_i i hi
        simp only [Bool.and_eq_true] at d
        exact ⟨hu, by rw [Nat.blt_eq] at b; exact b, sizeB_of c, i, hi, nbeq_eq d.1, by have := d.2; rw [Nat.blt_eq] at this; exact this⟩
      · cases d
    · cases a
  · rintro u v rfl he
    simp only [eqB, he, Bool.not_true, Bool.false_or] at h6
    split at h6
    · rename_i fs hu
      simp only [Bool.and_eq_true, Bool.not_eq_true'] at h6
      exact ⟨fs, hu, h6.1.1, h6.1.2, eqRowB_of h6.2⟩
    · cases h6
  · intro n hn
    simp only [structB, hn] at h7
    split at h7
    · rename_i fs hu
      simp only [Bool.and_eq_true] at h7
      refine ⟨fs, hu, nbeq_eq h7.1, fun j f hf => ?_⟩
      have := fieldsB_of h7.2 j f (by simpa using hf)
      rwa [Nat.zero_add] at this
    · cases h7
def tysB (P : Program) (C : Ctx) : List (Nat × Ty) → Bool
  | [] => true
  | (t, ty) :: r => tyB P C t ty && tysB P C r
theorem tysB_of {P : Program} {C : Ctx} : ∀ {l : List (Nat × Ty)}, tysB P C l = true → ∀ t ty, assoc l t = some ty → TyF P C t ty
  | [], _, t, ty, h => by simp [assoc] at h
  | (t', ty') :: r, hl, t, ty, h => by
    simp only [tysB, Bool.and_eq_true] at hl
    simp only [assoc] at h
    split at h
    · rename_i he; cases h; obtain rfl := nbeq_eq he; exact tyB_of hl.1
    · exact tysB_of hl.2 t ty h
theorem tyOk_of {P : Program} {C : Ctx} (h : tysB P C C.ty = true) : TyOk P C := tysB_of h
theorem al0 {P : Program} : ∀ E, E ∈ ([] : List Ent) → Sound P E := fun _ h => by cases h
theorem al {P : Program} {E : Ent} {l : List Ent} (h : Sound P E) (t : ∀ E, E ∈ l → Sound P E) : ∀ D, D ∈ E :: l → Sound P D := fun D hD => by
  rcases List.mem_cons.1 hD with rfl | hD
  · exact h
  · exact t _ hD
theorem snd {P : Program} {C : Ctx} {k : Nat} {f : FuncId} {F : Func} {«as» rs : List Sh} {u : Sh.Ts «as» → Option (Sh.Ts (rs ++ Sh.outs «as»))} (hT : tysB P C C.ty = true) (hEnv : ∀ E, E ∈ C.env → Sound P E) (hmix : P.follows .mixedOrders = true) (hf : P.funcs[f]? = some F) (hb : F.body.isSome = true) (hn : (F.name == "runtime.NumGoroutine") = false) (he : ∀ y, fn C k F «as» rs y = u y) (hI : C.inp = [] := by rfl) : Sound P ⟨f, «as», rs, u⟩ := by
  have h := fn_sound (k := k) («as» := «as») (rs := rs) (tyOk_of hT) hEnv hmix hf hb hn hI
  rw [show fn C k F «as» rs = u from funext he] at h
  exact h
end Go.Ab

namespace Go.Ab
set_option linter.unusedVariables false
set_option linter.unusedSimpArgs false

/-! ### 57. A place within a function's code, and what follows it -/
section
variable {R : Type}
noncomputable def into (C : Ctx) (k : Nat) : List Nat → List Nat → Nat → Code → (Ex → St → Option R) → Nat × Code × (Ex → St → Option R)
  | [], _, cur, c, Q => (cur, c, Q)
  | 0 :: p, ns, cur, .seq a b, Q => into C k p ns cur a (kthen (fun s => exec C k cur b Q s) Q)
  | _ :: p, ns, cur, .seq a b, Q => into C k p ns cur b Q
  | 0 :: p, ns, cur, .cond _ a _, Q => into C k p ns cur a Q
  | _ :: p, ns, cur, .cond _ _ b, Q => into C k p ns cur b Q
  | _ :: p, ns, _, .block id a, Q => into C k p ns id a (kblk id Q)
  | _ :: p, n :: ns, cur, .loop a, Q => into C k p ns cur a (kthen (fun s => alC C cur s (match canon C cur s with | some s => iter (fun Q s => exec C k cur a Q s) (alC C cur) (canon C cur) Q n s | none => none)) Q)
  | _ :: p, ns, cur, .scope a, Q => into C k p ns cur a Q
  | _, _, cur, c, Q => (cur, c, Q)
noncomputable def atLoop (C : Ctx) (k n : Nat) (p ns : List Nat) (c : Code) (Q : Ex → St → Option R) (s : St) : Option R :=
  match into C k p ns 0 c Q with
  | (cur, .loop a, Q) => iter (fun Q s => exec C k cur a Q s) (alC C cur) (canon C cur) Q n s
  | _ => none
noncomputable def atGate (C : Ctx) (k : Nat) (p ns : List Nat) (c : Code) (Q : Ex → St → Option R) (s : St) : Option R :=
  match into C k p ns 0 c Q with
  | (_, .region _ ops false, Q) => gate k (opsK C ops.toList ops.toList s (Q .normal))
  | (_, .region _ ops true, Q) => gate k (drawK C ops.toList ops.toList s [] fun s tr => if indep ops tr then Q .normal s else none)
  | _ => none
noncomputable def lpAt (C : Ctx) (k n : Nat) (p ns : List Nat) (F : Func) (a r : List Sh) (s : St) : Option (Sh.Ts (r ++ Sh.outs a)) := atLoop C k n p ns (Func.code F) (kfin C F a r) s
noncomputable def gtAt (C : Ctx) (k : Nat) (p ns : List Nat) (F : Func) (a r : List Sh) (s : St) : Option (Sh.Ts (r ++ Sh.outs a)) := atGate C k p ns (Func.code F) (kfin C F a r) s
theorem lpAt0 {C : Ctx} {k : Nat} {p ns : List Nat} {F : Func} {a r : List Sh} {s : St} : lpAt C k 0 p ns F a r s = none := by
  unfold lpAt atLoop
  split <;> rfl
end

/-! ### 58. A function does what its reading says, in one line -/
theorem TyOk.env {P : Program} {C D : Ctx} (h : TyOk P C) (h1 : D.ty = C.ty) (h2 : D.nf = C.nf) (h3 : D.by_ = C.by_) (h4 : D.arr = C.arr) : TyOk P D := by
  intro t ty ht
  rw [h1] at ht
  have q := h t ty ht
  exact ⟨q.size, q.und, q.agg, q.int, q.bool, q.str, by rw [h3]; exact q.sl, q.eq, by rw [h2]; exact q.fields, by rw [h4]; exact q.arr⟩
/-- what holds of a program and its table of types -/
structure Gr (P : Program) (C : Ctx) : Prop where
  ty : TyOk P C
  mix : P.follows .mixedOrders = true
theorem sn {P : Program} {C C0 : Ctx} {k : Nat} {f : FuncId} {F : Func} {«as» rs : List Sh} {u : Sh.Ts «as» → Option (Sh.Ts (rs ++ Sh.outs «as»))} (g : Gr P C0) (hf : P.funcs[f]? = some F) (he : ∀ y, fn C k F «as» rs y = u y) (hEnv : ∀ E, E ∈ C.env → Sound P E) (hb : (F.body.isSome && !(F.name == "runtime.NumGoroutine")) = true := by kernel_rfl)
    (h1 : C.ty = C0.ty := by rfl) (h2 : C.nf = C0.nf := by rfl) (h3 : C.by_ = C0.by_ := by rfl) (h4 : C.arr = C0.arr := by rfl) (h5 : C.inp = [] := by rfl) : Sound P ⟨f, «as», rs, u⟩ := by
  rw [Bool.and_eq_true, Bool.not_eq_true'] at hb
  have h := fn_sound (k := k) («as» := «as») (rs := rs) (g.ty.env h1 h2 h3 h4) hEnv g.mix hf hb.1 hb.2 h5
  rw [show fn C k F «as» rs = u from funext he] at h
  exact h
theorem al0i {P : Program} : ∀ I, I ∈ ([] : List InPl) → InPlace P I := fun _ h => by cases h
theorem ali {P : Program} {I : InPl} {l : List InPl} (h : InPlace P I) (t : ∀ I, I ∈ l → InPlace P I) : ∀ J, J ∈ I :: l → InPlace P J := fun J hJ => by
  rcases List.mem_cons.1 hJ with rfl | hJ
  · exact h
  · exact t _ hJ
theorem sni {P : Program} {C C0 : Ctx} {k : Nat} {f : FuncId} {F : Func} {«as» rs : List Sh} {u : Sh.Ts «as» → Option (Sh.Ts (rs ++ Sh.outs «as»))} (g : Gr P C0) (hf : P.funcs[f]? = some F) (he : ∀ y, fn C k F «as» rs y = u y) (hEnv : ∀ E, E ∈ C.env → Sound P E) (hI : ∀ I, I ∈ C.inp → InPlace P I) (hb : (F.body.isSome && !(F.name == "runtime.NumGoroutine")) = true := by kernel_rfl)
    (h1 : C.ty = C0.ty := by rfl) (h2 : C.nf = C0.nf := by rfl) (h3 : C.by_ = C0.by_ := by rfl) (h4 : C.arr = C0.arr := by rfl) : Sound P ⟨f, «as», rs, u⟩ := by
  rw [Bool.and_eq_true, Bool.not_eq_true'] at hb
  have h := fn_sound_in (k := k) («as» := «as») (rs := rs) (g.ty.env h1 h2 h3 h4) ⟨hEnv, hI⟩ g.mix hf hb.1 hb.2
  rw [show fn C k F «as» rs = u from funext he] at h
  exact h
/-- what cleans a printed body -/
theorem qq : (∀ (α : Type) (l : List α), List.take l.length l = l) ∧ (∀ (α : Type) (a : α), List.take 1 [a] = [a]) ∧ (∀ n : Nat, 0 + n = n) ∧ (∀ n : Nat, Int.toNat (n : Int) = n) ∧ Int.toNat 0 = 0 ∧ (∀ (α : Type) (l : List α), List.drop 0 l = l) ∧
    (∀ (α : Type) (l m : List α), List.append l m = l ++ m) ∧ (∀ n : Nat, (n ≤ n) = True) ∧ (∀ n : Int, (n ≤ n) = True) ∧ (∀ p, (True ∧ p) = p) ∧ (∀ p, (p ∧ True) = p) ∧ ((0 : Int) ≤ 1) = True ∧ (∀ (α : Type) (a b : α), (if True then a else b) = a) ∧
    (∀ (α β : Type) (p : α × β), (p.1, p.2) = p) ∧ ((0 : Nat) : Int) = 0 :=
  ⟨fun _ _ => List.take_length, fun _ _ => rfl, Nat.zero_add, Int.toNat_natCast, rfl, fun _ _ => rfl, fun _ _ _ => rfl, fun n => eq_true (Nat.le_refl n), fun n => eq_true (Int.le_refl n), true_and, and_true, eq_true (by decide), fun _ _ _ => rfl, fun _ _ _ => rfl, rfl⟩
end Go.Ab

namespace Go.Ab
set_option linter.unusedVariables false
set_option linter.unusedSimpArgs false

/-! ### 58. The arguments, read -/
def coverB (P : Program) (one : TypeId → Bool) : List Field → Nat → Nat → Bool
  | [], o, sz => Nat.beq o sz
  | f :: r, o, sz => Nat.beq f.offset o && one f.type && coverB P one r (o + P.cellsOf f.type) sz
def oneB (P : Program) : Nat → TypeId → Bool
  | 0 => fun _ => false
  | n + 1 => fun t => match P.underlying t with
    | some (.struct fs) => coverB P (oneB P n) fs.toList 0 (P.cellsOf t)
    | some (.array _ _) => false
    | _ => true
def fieldsR (P : Program) (rd : TypeId → Ty → Bool) : List Field → Ty → Nat → Bool
  | [f], ty, o => Nat.beq f.offset o && (Nat.beq (P.cellsOf f.type) ty.size && rd f.type ty)
  | f :: g :: r, .pair a b, o => Nat.beq f.offset o && (Nat.beq (P.cellsOf f.type) a.size && (rd f.type a && fieldsR P rd (g :: r) b (o + a.size)))
  | _, _, _ => false
def rdB (P : Program) : Nat → TypeId → Ty → Bool
  | 0 => fun _ _ => false
  | n + 1 => fun t ty => match ty with
    | .int k => (match P.underlying t with | some (.int l) => Nat.beq (kindNo l) (kindNo k) | _ => false)
    | .bool => (match P.underlying t with | some .bool => true | _ => false)
    | .str => (match P.underlying t with | some .string => true | _ => false)
    | .blob m => Nat.beq (P.cellsOf t) m && oneB P n t
    | .sl e u => (match P.underlying t with | some (.slice e') => Nat.beq e' e && (Nat.beq (P.cellsOf e) u.size && (Nat.blt 0 u.size && rdB P n e u)) | _ => false)
    | .one u => (match P.underlying t with | some (.struct fs) => fieldsR P (rdB P n) fs.toList u 0 && Nat.beq (P.cellsOf t) u.size && Nat.beq fs.size 1 | _ => false)
    | .pair a b => (match P.underlying t with | some (.struct fs) => fieldsR P (rdB P n) fs.toList (.pair a b) 0 && Nat.beq (P.cellsOf t) (a.size + b.size) | _ => false)
    | .unit => false
section
variable {P : Program} {w : World} {H : Type} {enc : TypeId × Value → H} {base : Nat} {spare : Nat → Bool} {held : Bool}
theorem trod_one : ∀ {n : Nat}, (∀ {t : TypeId} {fuel : Nat} {cs : List Value} {d : DataW H} {ps : List MemPlace}, oneB P n t = true → DataW.trod enc P w base spare held fuel t cs = some (d, ps) → ∀ u ∈ cs, u.oneCell' = true) := by
  intro n
  induction n with
  | zero => intro t fuel cs d ps h; simp [oneB] at h
  | succ n ih =>
    intro t fuel cs d ps h ht
    cases fuel with
    | zero => simp [DataW.trod] at ht
    | succ fuel =>
      unfold oneB at h
      split at h
      · rename_i fs hu
        unfold DataW.trod at ht
        rw [hu] at ht
        simp only at ht
        split at ht
        case isFalse => cases ht
        case isTrue hlen =>
        cases hm : (fs.toList.mapM fun f => DataW.trod enc P w base spare held fuel f.type ((cs.drop f.offset).take (P.cellsOf f.type))) with
        | none => rw [hm] at ht; cases ht
        | some xs =>
          have cover : ∀ (l : List Field) (o : Nat) (ys : List (DataW H × List MemPlace)), coverB P (oneB P n) l o (P.cellsOf t) = true →
              (l.mapM fun f => DataW.trod enc P w base spare held fuel f.type ((cs.drop f.offset).take (P.cellsOf f.type))) = some ys → ∀ i u, o ≤ i → cs[i]? = some u → u.oneCell' = true := by
            intro l
            induction l with
            | nil =>
              intro o ys hc _ i u hi hu
              simp only [coverB] at hc
              have ho := nbeq_eq hc
              have := (List.getElem?_eq_some_iff.1 hu).1
              omega
            | cons f l ihl =>
              intro o ys hc hm i u hi hu
              simp only [coverB, Bool.and_eq_true] at hc
              obtain ⟨⟨h1, h2⟩, h3⟩ := hc
              have ho := nbeq_eq h1
              simp only [List.mapM_cons, Option.bind_eq_bind, Option.pure_def, Option.bind_eq_some_iff] at hm
              obtain ⟨y, hy, zs, hz, _⟩ := hm
              by_cases hlt : i < o + P.cellsOf f.type
              · refine ih h2 (show DataW.trod enc P w base spare held fuel f.type _ = some (y.1, y.2) from hy) u ?_
                rw [List.mem_iff_getElem?]
                refine ⟨i - o, ?_⟩
                rw [List.getElem?_take, if_pos (by omega), List.getElem?_drop, ho, show o + (i - o) = i by omega, hu]
              · exact ihl _ _ h3 hz i u (by omega) hu
          intro u hu
          obtain ⟨i, hi⟩ := List.mem_iff_getElem?.1 hu
          exact cover fs.toList 0 xs h hm i u (Nat.zero_le _) hi
      · cases h
      · rename_i h1 h2
        unfold DataW.trod at ht
        split at ht <;> first
          | (rename_i hu; exact absurd hu (h1 _))
          | (rename_i hu; exact absurd hu (h2 _ _))
          | (intro u hm; simp only [List.mem_singleton] at hm; subst hm; rfl)
          | (cases ht)
theorem list_of {A : Type} {p : Nat → A → Prop} : ∀ (n : Nat), (∀ i, i < n → ∃ x, p i x) → ∃ l : List A, l.length = n ∧ ∀ (i : Nat) (x : A), l[i]? = some x → p i x
  | 0, _ => ⟨[], rfl, fun i x h => by simp at h⟩
  | n + 1, h => by
    obtain ⟨l, hl, hp⟩ := list_of n fun i hi => h i (by omega)
    obtain ⟨x, hx⟩ := h n (by omega)
    refine ⟨l ++ [x], by simp [hl], fun i y hi => ?_⟩
    by_cases hlt : i < n
    · rw [List.getElem?_append_left (by omega)] at hi; exact hp i y hi
    · have hin : i < n + 1 := by have := (List.getElem?_eq_some_iff.1 hi).1; simp [hl] at this; omega
      obtain rfl : i = n := by omega
      rw [List.getElem?_append_right (by omega), hl, Nat.sub_self] at hi
      simp at hi
      subst hi
      exact hx

end
/-- whole numbers of their kinds; rows and texts that fit into memory, and of length M at most -/
def Okd (B : Nat → Nat) (M : Nat) : (t : Ty) → t.T → Prop
  | .int k, n => k.min ≤ n ∧ n ≤ k.max
  | .str, l => List.length (α := UInt8) l ≤ reachBytes ∧ List.length (α := UInt8) l ≤ M
  | .sl e t, xs => (List.length (α := t.T) xs * B e ≤ reachBytes ∧ List.length (α := t.T) xs ≤ M) ∧ ∀ x, List.Mem (α := t.T) x xs → Okd B M t x
  | .one t, x => Okd B M t x
  | .pair a b, x => Okd B M a x.1 ∧ Okd B M b x.2
  | _, _ => True
/-- what is asked of the data: no text and no row longer than M, at any depth -/
structure Short {H : Type} (M : Nat) (G : DataW H → Prop) : Prop where
  str : ∀ l, G (.lit (.string l)) → l.length ≤ M
  slice : ∀ es sp, G (.slice es sp) → es.length ≤ M ∧ ∀ d ∈ es, G d
  agg : ∀ ps, G (.agg ps) → ∀ d ∈ ps, G d
theorem weightsAll_mem {H : Type} {P : Program} {e : TypeId} : ∀ {l : List (DataW H)}, (DataW.weightsAll P e l).all (· ≤ reachBytes) = true → ∀ d ∈ l, (d.weights P e).all (· ≤ reachBytes) = true
  | [], _, d, hd => by simp at hd
  | a :: l, h, d, hd => by
    simp only [DataW.weightsAll, List.all_append, Bool.and_eq_true] at h
    rcases List.mem_cons.1 hd with rfl | hd
    · exact h.1
    · exact weightsAll_mem h.2 d hd
section
variable {P : Program} {w : World} {H : Type} {enc : TypeId × Value → H} {base : Nat} {spare : Nat → Bool} {held : Bool}
/-- what is read is data -/
theorem trod_DR {M : Nat} {G : DataW H → Prop} (hG : Short M G) : ∀ {n : Nat} {t : TypeId} {ty : Ty} {fuel : Nat} {cs : List Value} {x : DataW H × List MemPlace}, rdB P n t ty = true → DataW.trod enc P w base spare held fuel t cs = some x →
    (ty.isAgg = true → cs.length = P.cellsOf t) → (x.1.weights P t).all (· ≤ reachBytes) = true → G x.1 → ∃ y : ty.T, DR w (fun b _ => b < w.heap.size) ty y cs ∧ Okd P.bytesOf M ty y := by
  intro n
  induction n with
  | zero => intro t ty fuel cs x h; simp [rdB] at h
  | succ n ih =>
    intro t ty fuel cs x h ht hlen hw hgx
    have hfields : ∀ (m : Nat) (l : List Field) (ty : Ty) (o : Nat) (ys : List (DataW H × List MemPlace)), fieldsR P (rdB P n) l ty o = true →
        (∀ (i : Nat) (f : Field), l[i]? = some f → DataW.trod enc P w base spare held m f.type ((cs.drop f.offset).take (P.cellsOf f.type)) = ys[i]?) → ys.length = l.length →
        (DataW.weightsEach P (l.map (·.type)) (ys.map (·.1))).all (· ≤ reachBytes) = true → (∀ y ∈ ys, G y.1) → o + ty.size = cs.length → ∃ y : ty.T, DR w (fun b _ => b < w.heap.size) ty y (cs.drop o) ∧ Okd P.bytesOf M ty y := by
      intro m l
      induction l with
      | nil => intro ty o ys hc; simp [fieldsR] at hc
      | cons f l ihl =>
        intro ty o ys hc hm hyl hwt hgy hsz
        match ys, hyl with
        | y :: ys, hyl =>
        have hy := hm 0 f rfl
        simp only [List.getElem?_cons_zero] at hy
        simp only [List.map_cons, DataW.weightsEach, List.all_append, Bool.and_eq_true] at hwt
        cases l with
        | nil =>
          simp only [fieldsR, Bool.and_eq_true] at hc
          obtain ⟨h1, h2, h3⟩ := hc
          have ho := nbeq_eq h1
          have hc2 := nbeq_eq h2
          have e : (cs.drop f.offset).take (P.cellsOf f.type) = cs.drop o := by
            rw [ho, hc2, List.take_of_length_le]
            rw [List.length_drop]; omega
          rw [e] at hy
          exact ih h3 hy (fun _ => by rw [List.length_drop, hc2]; omega) hwt.1 (hgy y List.mem_cons_self)
        | cons g l =>
          cases ty <;> simp only [fieldsR] at hc <;> try (cases hc; done)
          rename_i a b
          simp only [Bool.and_eq_true] at hc
          obtain ⟨h1, h2, h3, h4⟩ := hc
          have ho := nbeq_eq h1
          have hc2 := nbeq_eq h2
          have hsz' : o + (a.size + b.size) = cs.length := hsz
          obtain ⟨x, hx, kx⟩ := ih h3 hy (fun _ => by rw [ho, hc2, List.length_take, List.length_drop]; omega) hwt.1 (hgy y List.mem_cons_self)
          obtain ⟨z, hz', kz⟩ := ihl b (o + a.size) ys h4 (fun i f' hf => by simpa using hm (i + 1) f' (by simpa using hf)) (by simpa using hyl) hwt.2 (fun z hz => hgy z (List.mem_cons_of_mem _ hz)) (by omega)
          refine ⟨(x, z), ⟨_, _, ?_, hx, hz'⟩, kx, kz⟩
          rw [ho, hc2, ← List.drop_drop, List.take_append_drop]
    cases ty with
    | unit => simp [rdB] at h
    | int k =>
      simp only [rdB] at h
      split at h
      case h_2 => cases h
      case h_1 l hu =>
      have hk := kindNo_inj (nbeq_eq h)
      subst hk
      obtain ⟨n, rfl, _, hwf⟩ := DataW.trod_int hu ht
      simp only [Lit.wf, Bool.and_eq_true, decide_eq_true_eq] at hwf
      exact ⟨n, rfl, hwf⟩
    | bool =>
      simp only [rdB] at h
      split at h
      case h_2 => cases h
      case h_1 hu =>
      obtain ⟨b, rfl, _⟩ := DataW.trod_bool hu ht
      exact ⟨b, rfl, trivial⟩
    | str =>
      simp only [rdB] at h
      split at h
      case h_2 => cases h
      case h_1 hu =>
      obtain ⟨s, rfl, hx, _⟩ := DataW.trod_string hu ht
      rw [hx] at hw hgx
      simp only [DataW.weights, List.all_cons, List.all_nil, Bool.and_true, decide_eq_true_eq] at hw
      exact ⟨s.data.toList, rfl, hw, hG.str _ hgx⟩
    | blob m =>
      simp only [rdB, Bool.and_eq_true] at h
      exact ⟨(), ⟨by rw [hlen rfl]; exact nbeq_eq h.1, trod_one h.2 (show DataW.trod enc P w base spare held fuel t cs = some (x.1, x.2) from ht)⟩, trivial⟩
    | one u =>
      simp only [rdB] at h
      split at h
      case h_2 => cases h
      case h_1 fs hu =>
      simp only [Bool.and_eq_true] at h
      obtain ⟨⟨h1, h2⟩, h3⟩ := h
      obtain ⟨xs, m, _, rfl, hl, hxl, hx⟩ := DataW.trod_struct hu ht
      have hw' : (DataW.weightsEach P (fs.toList.map (·.type)) (xs.map (·.1))).all (· ≤ reachBytes) = true := by simpa [DataW.weights, hu] using hw
      obtain ⟨y, hy, ky⟩ := hfields m fs.toList u 0 xs h1 (fun i f hf => hx i f (by simpa using hf)) (by simpa using hxl) hw' (fun z hz => hG.agg _ hgx _ (List.mem_map_of_mem hz)) (by rw [hlen rfl, nbeq_eq h2]; omega)
      exact ⟨y, hy, ky⟩
    | pair a b =>
      simp only [rdB] at h
      split at h
      case h_2 => cases h
      case h_1 fs hu =>
      simp only [Bool.and_eq_true] at h
      obtain ⟨h1, h2⟩ := h
      obtain ⟨xs, m, _, rfl, hl, hxl, hx⟩ := DataW.trod_struct hu ht
      have hw' : (DataW.weightsEach P (fs.toList.map (·.type)) (xs.map (·.1))).all (· ≤ reachBytes) = true := by simpa [DataW.weights, hu] using hw
      exact hfields m fs.toList (.pair a b) 0 xs h1 (fun i f hf => hx i f (by simpa using hf)) (by simpa using hxl) hw' (fun z hz => hG.agg _ hgx _ (List.mem_map_of_mem hz)) (by rw [hlen rfl, nbeq_eq h2]; simp [Ty.size])
    | sl e u =>
      simp only [rdB] at h
      split at h
      case h_2 => cases h
      case h_1 e' hu =>
      simp only [Bool.and_eq_true] at h
      obtain ⟨h1, h2, h3, h4⟩ := h
      obtain rfl := nbeq_eq h1
      have hsz := nbeq_eq h2
      have hpos : 0 < u.size := by rw [← Nat.blt_eq]; exact h3
      rcases DataW.trod_slice hu ht with ⟨rfl, rfl⟩ | ⟨a, len, cap, elems, rest, m, _, rfl, rfl, _, hlc, _, hel, hat, _, _⟩
      · exact ⟨[], ⟨none, 0, rfl, Nat.le_refl _, fun h => by simp at h⟩, ⟨by simp, by simp⟩, fun x hx => by cases hx⟩
      · have hgs := hG.slice _ _ hgx
        have hw' : ((elems.length + rest.length) * P.bytesOf e' ≤ reachBytes) ∧ (DataW.weightsAll P e' (elems.map (·.1))).all (· ≤ reachBytes) = true := by
          simp only [DataW.weights, hu, List.all_cons, List.all_append, Bool.and_eq_true, decide_eq_true_eq, List.length_map] at hw
          exact ⟨hw.1, hw.2.1⟩
        obtain ⟨xs, hxl, hxs⟩ := list_of (p := fun i (x : u.T) => (∃ c, DR w (fun b _ => b < w.heap.size) u x c ∧ (∀ j v, c[j]? = some v → w.cell? (a.add (i * u.size + j)) = some v) ∧ a.block < w.heap.size) ∧ Okd P.bytesOf M u x) len (by
          intro i hi
          have hxi := hat i hi
          obtain ⟨y, hy⟩ : ∃ y, elems[i]? = some y := ⟨elems[i]'(by omega), by rw [List.getElem?_eq_getElem]⟩
          rw [hy] at hxi
          obtain ⟨cs', hcs, htr⟩ := Option.bind_eq_some_iff.1 hxi
          have hbl := World.cells?_block hcs (by rw [hsz]; exact hpos)
          obtain ⟨_, hl', hc'⟩ := World.cells?_some hcs
          obtain ⟨x, hx, kx⟩ := ih h4 htr (fun _ => hl') (weightsAll_mem hw'.2 _ (List.mem_map_of_mem (List.mem_of_getElem? hy))) (hgs.2 _ (List.mem_map_of_mem (List.mem_of_getElem? hy)))
          refine ⟨x, ⟨cs', hx, fun j v hj => ?_, ?_⟩, kx⟩
          · have hj' : j < cs'.length := (List.getElem?_eq_some_iff.1 hj).1
            have := hc' j (by omega)
            rw [hj] at this
            rw [← this, hsz, add_add]
          · unfold Addr.add at hbl
            split at hbl <;> exact hbl)
        refine ⟨xs, ⟨some a, cap, by rw [hxl], by rw [hxl]; exact hlc, fun hp => ⟨a, rfl, ?_, fun i x hx => ?_⟩⟩, ?_, fun x hx => ?_⟩
        · obtain ⟨⟨c, _, _, hb⟩, _⟩ := hxs 0 (xs[0]'(by simpa using hp)) (by rw [List.getElem?_eq_getElem])
          exact hb
        · obtain ⟨⟨c, h1, h2, _⟩, _⟩ := hxs i x hx
          exact ⟨c, h1, h2⟩
        · refine ⟨?_, ?_⟩
          · show xs.length * _ ≤ _
            rw [hxl, ← hel]
            refine Nat.le_trans ?_ hw'.1
            exact Nat.mul_le_mul_right _ (Nat.le_add_right _ _)
          · show xs.length ≤ _
            rw [hxl, ← hel]
            simpa using hgs.1
        · obtain ⟨i, hi⟩ := List.mem_iff_getElem?.1 (show x ∈ xs from hx)
          exact (hxs i x hi).2
end
end Go.Ab

namespace Go.Ab
set_option linter.unusedVariables false
set_option linter.unusedSimpArgs false
open Go.ChangeShapes Go.WideShapes Go.ChangeAt Go.RowKit

/-! ### 59. All arguments of a law, read at once -/
@[reducible] def shs : List Ty → List Sh | [] => [] | t :: r => .d t :: shs r
/-- the types of the parameters are of these kinds -/
def parB (P : Program) : List TypeId → List Ty → Bool
  | [], [] => true
  | t :: ts, ty :: tys => rdB P 40 t ty && beqB (aggP P t) ty.isAgg && P.readableRec t && Nat.blt t P.types.size && parB P ts tys
  | _, _ => false
def OkArgs (B : Nat → Nat) (M : Nat) : (tys : List Ty) → Sh.Ts (shs tys) → Prop
  | [], _ => True
  | [t], x => Okd B M t x
  | t :: u :: r, x => Okd B M t x.1 ∧ OkArgs B M (u :: r) x.2
theorem OkArgs_cons {B : Nat → Nat} {M : Nat} {t : Ty} : ∀ {r : List Ty} {x : t.T} {y : Sh.Ts (shs r)}, Okd B M t x → OkArgs B M r y → OkArgs B M (t :: r) (Sh.cons (a := .d t) (shs r) x y)
  | [], x, y, h, _ => h
  | _ :: _, x, y, h, k => ⟨h, k⟩
section
variable {P : Program} {H : Type} {enc : TypeId × Value → H} {M : Nat} {G : DataW H → Prop}
theorem cells_one {v : Value} (h : ∀ cs, v ≠ .agg cs) : v.cells.toList = [v] := by
  cases v <;> first | rfl | exact absurd rfl (h _)
theorem okWide_notAgg {w : World} {r : Reach} {base : Nat} {t : TypeId} {v : Value} (ha : aggP P t = false) (h : Value.okWide P w r base t v) : ∀ cs, v ≠ .agg cs := by
  rintro cs rfl
  unfold Value.okWide at h
  unfold aggP at ha
  split at h
  · rename_i hu; rw [hu] at ha; cases ha
  · rename_i hu; rw [hu] at ha; cases ha
  · unfold Cell.okWide at h
    split at h <;> first
      | (rename_i e; cases e; done)
      | (unfold Cell.ok at h; split at h <;> simp_all)
theorem okWide_agg {w : World} {r : Reach} {base : Nat} {t : TypeId} {v : Value} (ha : aggP P t = true) (h : Value.okWide P w r base t v) : ∃ cs, v = .agg cs ∧ cs.size = P.cellsOf t := by
  unfold Value.okWide at h
  unfold aggP at ha
  split at h
  · obtain ⟨cs, rfl, h, _⟩ := h; exact ⟨cs, rfl, h⟩
  · obtain ⟨cs, rfl, h, _⟩ := h; exact ⟨cs, rfl, h⟩
  · rename_i h1 h2
    split at ha
    · rename_i fs hu; exact absurd hu (h1 _)
    · rename_i n e hu; exact absurd hu (h2 _ _)
    · cases ha
/-- one argument -/
theorem arg_open (hG : Short M G) {w : World} {base b0 : Nat} {spare : Nat → Bool} {held : Bool} {t : TypeId} {ty : Ty} {v : Value} {d : DataW H} {p : List MemPlace}
    (hr : rdB P 40 t ty = true) (ha : aggP P t = ty.isAgg) (hok : Value.okWide P w .any b0 t v) (ht : DataW.Trod enc P w base spare held t v d p) (hw : (d.weights P t).all (· ≤ reachBytes) = true) (hgd : G d) :
    ∃ y : ty.T, VD w (fun b _ => b < w.heap.size) ty y v ∧ Okd P.bytesOf M ty y := by
  obtain ⟨fuel, ht⟩ := ht
  cases h : ty.isAgg with
  | true =>
    rw [h] at ha
    obtain ⟨cs, rfl, hs⟩ := okWide_agg ha hok
    obtain ⟨y, hy, ky⟩ := trod_DR hG hr ht (fun _ => by simpa [Value.cells] using hs) hw hgd
    exact ⟨y, by unfold VD; rw [if_pos h]; exact ⟨cs, rfl, by simpa [Value.cells] using hy⟩, ky⟩
  | false =>
    rw [h] at ha
    have hc := cells_one (okWide_notAgg ha hok)
    rw [hc] at ht
    obtain ⟨y, hy, ky⟩ := trod_DR hG hr ht (fun k => by rw [h] at k; cases k) hw hgd
    exact ⟨y, by unfold VD; rw [if_neg (by rw [h]; exact Bool.false_ne_true)]; exact hy, ky⟩
/-- all arguments -/
theorem args_open (hG : Short M G) {w : World} {base b0 : Nat} {spare : Nat → Bool} {held : Bool} : ∀ {ts : List TypeId} {tys : List Ty} {vs : List Value} {ds : List (DataW H)} {ps : List MemPlace}, parB P ts tys = true →
    (∀ (j : Nat) t v, ts[j]? = some t → vs[j]? = some v → Value.okWide P w .any b0 t v) → DataW.TrodAll enc P w base spare held ts vs ds ps → (DataW.weightsEach P ts ds).all (· ≤ reachBytes) = true → (∀ d ∈ ds, G d) →
    ∃ y : Sh.Ts (shs tys), ArgsR P w (fun b _ => b < w.heap.size) (shs tys) y vs [] ∧ OkArgs P.bytesOf M tys y
  | [], [], vs, ds, ps, _, _, ht, _, _ => by
    obtain ⟨rfl, rfl, rfl⟩ := trodAll_nil ht
    exact ⟨(), ⟨rfl, rfl⟩, trivial⟩
  | [], _ :: _, vs, ds, ps, h, _, _, _, _ => by cases h
  | _ :: _, [], vs, ds, ps, h, _, _, _, _ => by cases h
  | t :: ts, ty :: tys, vs, ds, ps, h, hok, ht, hw, hgd => by
    obtain ⟨v, vs, d, ds, p, q, rfl, rfl, rfl, h0, r0⟩ := trodAll_cons ht
    simp only [parB, Bool.and_eq_true] at h
    simp only [DataW.weightsEach, List.all_append, Bool.and_eq_true] at hw
    obtain ⟨y, hy, ky⟩ := arg_open hG h.1.1.1.1 (beqB_of h.1.1.1.2) (hok 0 t v rfl rfl) h0 hw.1 (hgd d List.mem_cons_self)
    obtain ⟨z, hz, kz⟩ := args_open hG h.2 (fun j t v h1 h2 => hok (j + 1) t v (by simpa using h1) (by simpa using h2)) r0 hw.2 (fun d hd => hgd d (List.mem_cons_of_mem _ hd))
    refine ⟨Sh.cons (a := .d ty) (shs tys) y z, ⟨v, vs, [], [], rfl, rfl, ?_, ?_⟩, OkArgs_cons ky kz⟩
    · show SV P w _ (.d ty) (Sh.hd (a := .d ty) (shs tys) (Sh.cons (a := .d ty) (shs tys) y z)) v []
      rw [hd_cons]; exact VD_SV hy
    · show ArgsR P w _ (shs tys) (Sh.tl (a := .d ty) (shs tys) (Sh.cons (a := .d ty) (shs tys) y z)) vs []
      rw [tl_cons]; exact hz
/-- the arguments read behind the call as they did -/
theorem args_again {W W' : World} (hl : laidOutB P = true) (hb : Below W.heap.size W W') : ∀ {ts : List TypeId} {tys : List Ty} {vs : List Value} {ds : List (DataW H)} {ps : List MemPlace}, parB P ts tys = true →
    DataW.TrodAll enc P W 0 (fun _ => true) true ts vs ds ps → DataW.TrodAll enc P W' 0 (fun b => decide (b < W.heap.size)) true ts vs ds ps
  | [], [], vs, ds, ps, _, ht => by
    obtain ⟨rfl, rfl, rfl⟩ := trodAll_nil ht
    exact trodAll_mk0
  | [], _ :: _, vs, ds, ps, h, _ => by cases h
  | _ :: _, [], vs, ds, ps, h, _ => by cases h
  | t :: ts, ty :: tys, vs, ds, ps, h, ht => by
    obtain ⟨v, vs, d, ds, p, q, rfl, rfl, rfl, h0, r0⟩ := trodAll_cons ht
    simp only [parB, Bool.and_eq_true] at h
    refine trodAll_cons_mk (Below.trod hl h.1.1.2 (by have := h.1.2; rwa [Nat.blt_eq] at this) h0 hb (fun x hx => ?_)) (args_again hl hb h.2 r0)
    obtain ⟨m, hm⟩ := h0
    exact DataW.trod_lt m _ _ _ hm x hx
theorem Left.below {w w' : World} (h : Left w w' (· ∈ ([] : List Nat))) : Below w.heap.size w w' :=
  ⟨h.os, h.tape, h.output, h.size, fun k hk => h.block k hk (by simp)⟩
/-- A law that is sound and whose reading is true returns true and leaves alone what was there. -/
theorem law_calls (hG : Short M G) {f : Nat} {tys : List Ty} {g : Nat → Sh.Ts (shs tys) → Option (Sh.Ts ([.d .bool] ++ Sh.outs (shs tys)))} {ts : List TypeId}
    (hs : ∀ k, Sound P ⟨f, shs tys, [.d .bool], g k⟩) (hg : ∀ x, OkArgs P.bytesOf M tys x → ∃ k y, g k x = some y ∧ Sh.fstL [.d .bool] (Sh.outs (shs tys)) y = true)
    {W : World} {base b0 : Nat} {spare : Nat → Bool} {held : Bool} {vs : List Value} {ds : List (DataW H)} {ps : List MemPlace} (hp : parB P ts tys = true)
    (hok : ∀ (j : Nat) t v, ts[j]? = some t → vs[j]? = some v → Value.okWide P W .any b0 t v) (ht : DataW.TrodAll enc P W base spare held ts vs ds ps) (hw : (DataW.weightsEach P ts ds).all (· ≤ reachBytes) = true) (hgd : ∀ d ∈ ds, G d) (hT : TabPred W ∧ ∀ b, TabBlk b → b < W.heap.size := by exact ⟨trivial, fun _ h => h.elim⟩) :
    Calls P f vs.toArray W fun e W' => e = .returned (.bool true) ∧ Below W.heap.size W W' := by
  obtain ⟨x, hx, kx⟩ := args_open hG hp hok ht hw hgd
  obtain ⟨k, y, hy, hyt⟩ := hg x kx
  refine ((hs k).calls x y hy W (fun b _ => b < W.heap.size) vs [] ⟨fun b e h => h, hT.1, fun b hb => ⟨0, hT.2 b hb⟩⟩ hx List.nodup_nil (fun b hb => by simp at hb)).mono fun e W' hpost => ?_
  obtain ⟨⟨rs, S', M, N, rfl, hleft, _, _, _, _, _, hres, _⟩⟩ := hpost
  obtain ⟨v, us, M1, N1, rfl, _, hv, rfl, _⟩ := hres
  refine ⟨?_, hleft.below⟩
  have hv' : SV P W' S' (.d .bool) (Sh.fstL [.d .bool] (Sh.outs (shs tys)) y) v M1 := hv
  rw [hyt] at hv'
  have h2 : DR W' S' .bool true [v] ∧ M1 = [] := by simpa [SV, Sh.isAgg, Ty.isAgg, SR] using hv'
  have h3 : [v] = [Value.bool true] := h2.1
  cases h3
  rfl
end
end Go.Ab
