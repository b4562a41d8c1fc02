/- Steps and exceptions: what is made of them. -/
import Derived.Test.YtdekjkgfohlmgaaGreatDoorV9
import Derived.Test.YtdekjkgfohlmgaaGreatDoorGA
namespace Go.Ab
set_option linter.unusedVariables false
set_option linter.unusedSimpArgs false
def zV : X_Value := (0, ((false, []), ((false, []), ([], 0))))
theorem tv_zV : TV zV := ⟨(fun d h => by cases h), (fun d h => by cases h), (by show ([] : List Int).length ≤ _; simp), (by show ([] : List Int).length ≤ _; simp), (by show ([] : List UInt8).length ≤ _; simp)⟩
end Go.Ab
