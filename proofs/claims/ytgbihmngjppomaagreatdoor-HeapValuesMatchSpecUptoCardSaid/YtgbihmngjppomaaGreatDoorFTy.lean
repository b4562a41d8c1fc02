/- A part of the proof: FTy. -/
import Derived.Test.YtgbihmngjppomaaGreatDoorFBase
namespace Go.Ab
abbrev Y_errorAddressString : Ty := .pair .str (.int .u64)
abbrev X_errorAddressString : Type := (List UInt8) × (Int)
abbrev Z_errorAddressString : X_errorAddressString := ([], (0 : Int))
abbrev Y_acceptRange : Ty := .pair (.int .u8) (.int .u8)
abbrev X_acceptRange : Type := (Int) × (Int)
abbrev Z_acceptRange : X_acceptRange := ((0 : Int), (0 : Int))
abbrev Y_Fault : Ty := .pair (.int .i64) (.int .i64)
abbrev X_Fault : Type := (Int) × (Int)
abbrev Z_Fault : X_Fault := ((0 : Int), (0 : Int))
abbrev Y_span : Ty := Y_Fault
abbrev X_span : Type := X_Fault
abbrev Z_span : X_span := Z_Fault
abbrev Y_Int : Ty := .pair .bool (.sl 72 (.int .u32))
abbrev X_Int : Type := (Bool) × (List (Int))
abbrev Z_Int : X_Int := (false, [])
abbrev Y_Range16 : Ty := .pair (.int .u16) (.pair (.int .u16) (.int .u16))
abbrev X_Range16 : Type := (Int) × X_acceptRange
abbrev Z_Range16 : X_Range16 := ((0 : Int), ((0 : Int), (0 : Int)))
abbrev Y_Range32 : Ty := .pair (.int .u32) (.pair (.int .u32) (.int .u32))
abbrev X_Range32 : Type := (Int) × X_acceptRange
abbrev Z_Range32 : X_Range32 := Z_Range16
abbrev Y_Ratio : Ty := .pair Y_Int Y_Int
abbrev X_Ratio : Type := X_Int × X_Int
abbrev Z_Ratio : X_Ratio := ((false, []), (false, []))
abbrev Y_Value : Ty := .pair (.int .i64) (.pair Y_Int (.pair Y_Int (.pair .str (.int .i64))))
abbrev X_Value : Type := (Int) × (X_Int × (X_Int × X_errorAddressString))
abbrev Z_Value : X_Value := ((0 : Int), ((false, []), ((false, []), ([], (0 : Int)))))
abbrev Y_RangeTable : Ty := .pair (.sl 158 Y_Range16) (.pair (.sl 161 Y_Range32) (.int .i64))
abbrev X_RangeTable : Type := (List X_Range16) × ((List X_Range16) × (Int))
abbrev Z_RangeTable : X_RangeTable := ([], ([], (0 : Int)))
abbrev Y_parts : Ty := .pair Y_Value Y_Value
abbrev X_parts : Type := X_Value × X_Value
abbrev Z_parts : X_parts := (Z_Value, Z_Value)
abbrev Y_Object : Ty := .pair (.int .i64) (.pair .str (.pair (.int .i64) (.pair (.sl 3 (.int .i64)) (.pair (.sl 3 (.int .i64)) (.pair (.sl 9 .str) (.pair (.sl 29 Y_Value) (.pair (.sl 29 Y_Value) Y_Fault)))))))
abbrev X_Object : Type := (Int) × ((List UInt8) × ((Int) × ((List (Int)) × ((List (Int)) × ((List (List UInt8)) × ((List X_Value) × ((List X_Value) × X_acceptRange)))))))
abbrev Z_Object : X_Object := ((0 : Int), ([], ((0 : Int), ([], ([], ([], ([], ([], ((0 : Int), (0 : Int))))))))))
abbrev Y_Step : Ty := .pair (.int .i64) (.pair Y_Value (.pair (.int .i64) (.pair .str (.pair Y_Value (.sl 29 Y_Value)))))
abbrev X_Step : Type := (Int) × (X_Value × ((Int) × ((List UInt8) × (X_Value × (List X_Value)))))
abbrev Z_Step : X_Step := ((0 : Int), (Z_Value, ((0 : Int), ([], (Z_Value, [])))))
abbrev Y_Heap : Ty := .one (.sl 36 Y_Object)
abbrev X_Heap : Type := List X_Object
abbrev Z_Heap : X_Heap := []
end Go.Ab
