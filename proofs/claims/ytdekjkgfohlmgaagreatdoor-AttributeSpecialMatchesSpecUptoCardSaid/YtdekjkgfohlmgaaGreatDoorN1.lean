/- Whole numbers as the program has them: limbs of 32 bits. -/
import Derived.Test.YtdekjkgfohlmgaaGreatDoorW0
namespace Go.Ab
set_option linter.unusedVariables false
set_option linter.unusedSimpArgs false
theorem getD_out {α : Type} {l : List α} {i : Nat} (h : l.length ≤ i) (z : α) : l.getD i z = z := by simp [List.getD, List.getElem?_eq_none h]
def dl (n : Nat) : List Int := if h : n = 0 then [] else ((n % 4294967296 : Nat) : Int) :: dl (n / 4294967296)
termination_by n
decreasing_by exact Nat.div_lt_self (by omega) (by omega)
def lb (n : Nat) : List Bool := if h : n = 0 then [] else (n % 2 == 1) :: lb (n / 2)
termination_by n
decreasing_by exact Nat.div_lt_self (by omega) (by omega)
/-- the value of a number -/
def hval (n : Int) : X_Value := (2, ((decide (n < 0), dl n.natAbs), ((false, []), ([], 0))))
end Go.Ab
