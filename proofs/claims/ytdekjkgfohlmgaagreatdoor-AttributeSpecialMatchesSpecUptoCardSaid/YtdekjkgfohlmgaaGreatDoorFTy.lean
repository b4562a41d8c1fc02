/- A part of the proof: FTy. -/
import Derived.Test.YtdekjkgfohlmgaaGreatDoorFBase
namespace Go.Ab
abbrev X_errorAddressString : Type := (List UInt8) × (Int)
abbrev X_acceptRange : Type := (Int) × (Int)
abbrev Y_Fault : Ty := .pair (.int .i64) (.int .i64)
abbrev X_Fault : Type := (Int) × (Int)
abbrev Y_Int : Ty := .pair .bool (.sl 109 (.int .u32))
abbrev X_Int : Type := (Bool) × (List (Int))
abbrev Y_Ratio : Ty := .pair Y_Int Y_Int
abbrev X_Ratio : Type := X_Int × X_Int
abbrev Y_Value : Ty := .pair (.int .i64) (.pair Y_Int (.pair Y_Int (.pair .str (.int .i64))))
abbrev X_Value : Type := (Int) × (X_Int × (X_Int × X_errorAddressString))
abbrev Z_Value : X_Value := ((0 : Int), ((false, []), ((false, []), ([], (0 : Int)))))
abbrev Y_Object : Ty := .pair (.int .i64) (.pair .str (.pair (.int .i64) (.pair (.sl 3 (.int .i64)) (.pair (.sl 3 (.int .i64)) (.pair (.sl 9 .str) (.pair (.sl 29 Y_Value) (.pair (.sl 29 Y_Value) Y_Fault)))))))
abbrev X_Object : Type := (Int) × ((List UInt8) × ((Int) × ((List (Int)) × ((List (Int)) × ((List (List UInt8)) × ((List X_Value) × ((List X_Value) × X_acceptRange)))))))
abbrev Z_Object : X_Object := ((0 : Int), ([], ((0 : Int), ([], ([], ([], ([], ([], ((0 : Int), (0 : Int))))))))))
abbrev Y_Step : Ty := .pair (.int .i64) (.pair Y_Value (.pair (.int .i64) (.pair .str (.pair Y_Value (.sl 29 Y_Value)))))
abbrev X_Step : Type := (Int) × (X_Value × ((Int) × ((List UInt8) × (X_Value × (List X_Value)))))
abbrev Y_Heap : Ty := .one (.sl 56 Y_Object)
abbrev X_Heap : Type := List X_Object
abbrev Y_Plan : Ty := .pair (.sl 36 Y_Step) Y_Step
abbrev X_Plan : Type := (List X_Step) × X_Step
end Go.Ab
