/- Steps and exceptions: what is made of them. -/
import Derived.Test.YtdekjkgfohlmgaaGreatDoorV9
import Derived.Test.YtdekjkgfohlmgaaGreatDoorGA
namespace Go.Ab
set_option linter.unusedVariables false
set_option linter.unusedSimpArgs false
def zV : X_Value := (0, ((false, []), ((false, []), ([], 0))))
def rais (c : Int) (t : List UInt8) : X_Step := (1, (zV, (c, (t, (zV, [])))))
def resu (v : X_Value) : X_Step := (0, (v, (0, ([], (zV, [])))))
theorem tv_zV : TV zV := ⟨(fun d h => by cases h), (fun d h => by cases h), (by show ([] : List Int).length ≤ _; simp), (by show ([] : List Int).length ≤ _; simp), (by show ([] : List UInt8).length ≤ _; simp)⟩
end Go.Ab
