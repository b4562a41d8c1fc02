/- A part of the proof: FTy. -/
import Derived.Test.YtgkjkmpeeneilaaFBase
namespace Go.Ab
/-- struct { msg string; addr uintptr } -/
abbrev Y13 : Ty := .pair .str (.int .u64)
abbrev X13 : Type := (List UInt8) × (Int)
/-- struct { Code int; Index int } -/
abbrev Y26 : Ty := .pair (.int .i64) (.int .i64)
abbrev X26 : Type := (Int) × (Int)
/-- struct { Neg bool; Limbs []uint32 } -/
abbrev Y55 : Ty := .pair .bool (.sl 113 (.int .u32))
abbrev X55 : Type := (Bool) × (List (Int))
/-- struct { Kind int; Name string; Default []api.Expr } -/
abbrev Y50 : Ty := .pair (.int .i64) (.pair .str (.sl 132 (.blob 15)))
abbrev X50 : Type := (Int) × ((List UInt8) × (List (Unit)))
/-- struct { Target api.Expr; Iter api.Expr; Conds []api.Expr } -/
abbrev Y134 : Ty := .pair (.blob 15) (.pair (.blob 15) (.sl 132 (.blob 15)))
abbrev X134 : Type := (Unit) × ((Unit) × (List (Unit)))
/-- struct { Kind int; Num api.Int; Den api.Int; Text string; Ref int } -/
abbrev Y57 : Ty := .pair (.int .i64) (.pair Y55 (.pair Y55 (.pair .str (.int .i64))))
abbrev X57 : Type := (Int) × (X55 × (X55 × X13))
/-- struct { Values []api.Value; Names []string; Named []api.Value } -/
abbrev Y38 : Ty := .pair (.sl 58 Y57) (.pair (.sl 9 .str) (.sl 58 Y57))
abbrev X38 : Type := (List X57) × ((List (List UInt8)) × (List X57))
/-- struct { Kind int; Line int; Const api.Value; Name string; Op int; Ops []int; Args []api.Expr; Loops []api.Loop; Params []api.Param } -/
abbrev Y131 : Ty := .pair (.int .i64) (.pair (.int .i64) (.pair Y57 (.pair .str (.pair (.int .i64) (.pair (.sl 3 (.int .i64)) (.pair (.sl 132 (.blob 15)) (.pair (.sl 135 Y134) (.sl 51 Y50))))))))
abbrev X131 : Type := (Int) × ((Int) × (X57 × ((List UInt8) × ((Int) × ((List (Int)) × ((List (Unit)) × ((List X134) × (List X50))))))))
/-- struct { Values []api.Value; Rest []api.Value; Names []string; Named []api.Value } -/
abbrev Y40 : Ty := .pair (.sl 58 Y57) Y38
abbrev X40 : Type := (List X57) × X38
/-- struct { params []api.Param; function string; api.Bound } -/
abbrev Y75 : Ty := .pair (.sl 51 Y50) (.pair .str Y40)
abbrev X75 : Type := (List X50) × ((List UInt8) × X40)
end Go.Ab
