/- A part of the proof: HRev. -/
import Derived.Shelf.Slices.Reverse
import Derived.Test.YtgkjkmpeeneilaaFBase
namespace Go.Proofs
open Go.Shelf
set_option linter.unusedVariables false
set_option linter.unusedSimpArgs false
def Try.lays112_ren : Go.Shelf.Ren := ⟨fun | 112 => 56 | n => n, fun | 28 => 22 | 3 => 3 | 4 => 4 | 0 => 0 | n => n, fun | n => n⟩
theorem Try.lays112 : Go.Proofs.Lays.n112 Try.prog Try.lays112_ren := {
  mixed := by kernel_rfl
  f112 := Try.func56.trans (congrArg some (by kernel_rfl))
  t0 := Try.underlying0
  a0 := Try.isAgg0
  z0 := Try.sizeOf0
  v0 := Try.zeroValue0
  t3 := Try.underlying3
  a3 := Try.isAgg3
  z3 := Try.sizeOf3
  v3 := Try.zeroValue3
  t4 := Try.underlying4
  a4 := Try.isAgg4
  z4 := Try.sizeOf4
  v4 := Try.zeroValue4
  t28 := Try.underlying22
  a28 := Try.isAgg22
  z28 := Try.sizeOf22
  v28 := Try.zeroValue22 }
open Go.RowKit Go.Lib Go.Sort in
theorem Try.slices_Reverse_int (blk off cap : Nat) (zs : List Int) (w : World) (hH : Holds (Value.int .i64) w blk off zs.toArray) (hsz : zs.length ≤ 9223372036854775807) :
    Calls Try.prog 56 #[.slice (some ⟨blk, off, none⟩) zs.length cap] w fun e w' => e = .returned (.tuple #[]) ∧ ∃ n, w' = putRow (Value.int .i64) (Sort.ahead w n) blk off zs.reverse.toArray := Any.slices_Reverse_int Try.lays112 blk off cap zs w hH hsz
open Go.RowKit Go.Lib Go.Sort in
theorem Try.slices_Reverse_int_empty (a : Option Addr) (cap : Nat) (w : World) :
    Calls Try.prog 56 #[.slice a 0 cap] w fun e w' => e = .returned (.tuple #[]) ∧ w' = w := Any.slices_Reverse_int_empty Try.lays112 a cap w
end Go.Proofs
namespace Go.Ab
open Go.Proofs
/-- slices.Reverse over integers, in place -/
theorem reverse_inp : InPlace Try.prog ⟨56, 3, .i64, List.reverse⟩ := by
  refine ⟨enters_of Try.func56 (c := Func.code Try.f56) (by kernel_rfl) (by kernel_rfl), fun l => by simp, fun a cap w => Try.slices_Reverse_int_empty a cap w, ?_⟩
  intro b off cap zs cur w hh hle hml hget
  have hc : ∀ j, j < zs.length → w.cell? ⟨b, off + j, none⟩ = some (.int .i64 (zs[j]!)) ∧ w.frozen? ⟨b, off + j, none⟩ = false := by
    intro j hj
    have h1 := hget j _ (List.getElem?_eq_getElem hj)
    constructor
    · simp only [World.cell?, hh]
      rw [getElem!_pos zs j hj]
      simpa using h1
    · simp [World.frozen?, hh]
  refine (Try.slices_Reverse_int b off cap zs w (fun j hj => ?_) (by unfold maxLen at hml; omega)).mono fun e w' ⟨he, n, hw⟩ => ⟨he, ?_⟩
  · have hj' : j < zs.length := by simpa using hj
    have := hc j hj'
    simpa using this
  · subst hw
    have hput : (Go.Sort.putRow (Value.int .i64) (Go.Sort.ahead w n) b off zs.reverse.toArray).heap = w.heap.modify b (Go.Sort.onCells (Go.Sort.putCells (Value.int .i64) off zs.reverse.toArray)) := rfl
    refine ⟨⟨rfl, rfl, rfl, ?_, fun b' hb' hne => ?_⟩, Go.Sort.putCells (Value.int .i64) off zs.reverse.toArray cur, ?_, ?_, fun j => ?_⟩
    · rw [hput]; simp
    · rw [hput, Array.getElem?_modify, if_neg (fun h => hne h.symm)]
    · rw [hput, Array.getElem?_modify, if_pos rfl, hh]; rfl
    · simp [Go.Sort.putCells]
    · rw [Go.Sort.putCells, Array.getElem?_mapIdx]
      simp only [List.size_toArray, List.length_reverse]
      by_cases hin : off ≤ j ∧ j < off + zs.length
      · rw [if_pos hin]
        have hj : j < cur.size := by omega
        rw [Array.getElem?_eq_getElem hj, Option.map_some, if_pos hin]
        have hr : j - off < zs.reverse.length := by simp; omega
        rw [List.getElem?_eq_getElem hr, Option.map_some]
        simp only [Option.some.injEq, Value.int.injEq, true_and]
        rw [getElem!_pos _ _ (by simpa using hr)]
        simp
      · rw [if_neg hin]
        cases hcj : cur[j]? with
        | none => rfl
        | some x => rw [Option.map_some, if_neg hin]
end Go.Ab
