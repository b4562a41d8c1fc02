/- A part of the proof: FLs. -/
import Derived.Test.YtdekjkgfohlmgaaGreatDoorFTy
namespace Go.Ab
open Go.Proofs
set_option linter.unusedVariables false
set_option linter.unusedSimpArgs false
abbrev LB := List UInt8
abbrev LLB := List LB
abbrev LI := List Int
abbrev LLI := List LI
abbrev LV := List X_Value
abbrev LO := List X_Object
def TYL : List (Nat × Ty) := [(3, (.int .i64)), (4, .bool), (5, (.int .u8)), (9, .str), (22, (.sl 56 Y_Object)), (24, Y_Heap), (25, (.sl 109 (.int .u32))), (27, Y_Int), (29, Y_Value), (33, (.sl 36 Y_Step)), (34, (.sl 29 Y_Value)), (36, Y_Step), (38, Y_Plan), (50, (.sl 9 .str)), (54, (.sl 3 (.int .i64))), (56, Y_Object), (62, Y_Fault), (70, (.pair .str .str)), (71, (.pair (.pair .str .str) (.pair (.pair .str .str) (.pair .str .str)))), (81, (.sl 3 (.int .i64))), (83, (.pair .bool (.sl 3 (.int .i64)))), (85, (.pair (.pair .bool (.sl 3 (.int .i64))) (.sl 3 (.int .i64)))), (109, (.int .u32)), (117, Y_Ratio), (124, (.sl 4 .bool)), (147, (.sl 54 (.sl 3 (.int .i64)))), (152, (.sl 34 (.sl 29 Y_Value))), (176, (.int .u64)), (195, (.sl 27 Y_Int))]
def NFL : List (Nat × Nat) := [(24, 1), (27, 2), (29, 5), (36, 6), (38, 2), (56, 10), (62, 2), (70, 2), (83, 2), (85, 2), (117, 2)]
def BYL : List (Nat × Nat) := [(3, 8), (4, 1), (9, 16), (27, 32), (29, 96), (34, 24), (36, 248), (54, 24), (56, 168), (109, 4)]
def ARL : List (Nat × (Nat × Nat)) := [(71, (70, 3))]
/-- the context of a function: the shared tables, its callees, its places -/
abbrev cx (env : List Ent) (spec : List (Nat × List SS)) : Ctx := { ty := TYL, nf := NFL, by_ := BYL, env := env, spec := spec, arr := ARL }
theorem gr : Gr Tryz.prog (cx [] []) := ⟨tyOk_of (by kernel_rfl), mixed⟩
end Go.Ab
