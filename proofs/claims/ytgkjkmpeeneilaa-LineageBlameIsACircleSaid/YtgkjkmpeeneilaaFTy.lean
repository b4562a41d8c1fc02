/- A part of the proof: FTy. -/
import Derived.Test.YtgkjkmpeeneilaaFBase
namespace Go.Ab
abbrev Y_errorAddressString : Ty := .pair .str (.int .u64)
abbrev X_errorAddressString : Type := (List UInt8) × (Int)
abbrev Z_errorAddressString : X_errorAddressString := ([], (0 : Int))
abbrev Y_Fault : Ty := .pair (.int .i64) (.int .i64)
abbrev X_Fault : Type := (Int) × (Int)
abbrev Z_Fault : X_Fault := ((0 : Int), (0 : Int))
abbrev Y_Int : Ty := .pair .bool (.sl 113 (.int .u32))
abbrev X_Int : Type := (Bool) × (List (Int))
abbrev Z_Int : X_Int := (false, [])
abbrev Y_Param : Ty := .pair (.int .i64) (.pair .str (.sl 132 (.blob 15)))
abbrev X_Param : Type := (Int) × ((List UInt8) × (List (Unit)))
abbrev Z_Param : X_Param := ((0 : Int), ([], []))
abbrev Y_Loop : Ty := .pair (.blob 15) (.pair (.blob 15) (.sl 132 (.blob 15)))
abbrev X_Loop : Type := (Unit) × ((Unit) × (List (Unit)))
abbrev Z_Loop : X_Loop := ((), ((), []))
abbrev Y_Value : Ty := .pair (.int .i64) (.pair Y_Int (.pair Y_Int (.pair .str (.int .i64))))
abbrev X_Value : Type := (Int) × (X_Int × (X_Int × X_errorAddressString))
abbrev Z_Value : X_Value := ((0 : Int), ((false, []), ((false, []), ([], (0 : Int)))))
abbrev Y_Arguments : Ty := .pair (.sl 58 Y_Value) (.pair (.sl 9 .str) (.sl 58 Y_Value))
abbrev X_Arguments : Type := (List X_Value) × ((List (List UInt8)) × (List X_Value))
abbrev Z_Arguments : X_Arguments := ([], ([], []))
abbrev Y_Bound : Ty := .pair (.sl 58 Y_Value) Y_Arguments
abbrev X_Bound : Type := (List X_Value) × X_Arguments
abbrev Z_Bound : X_Bound := ([], ([], ([], [])))
abbrev Y_binding : Ty := .pair (.sl 51 Y_Param) (.pair .str Y_Bound)
abbrev X_binding : Type := (List X_Param) × ((List UInt8) × X_Bound)
abbrev Z_binding : X_binding := ([], ([], ([], ([], ([], [])))))
end Go.Ab
