/- A part of the proof: FBase. -/
import Derived.Test.YtdekjkgfohlmgaaGreatDoorProg
import Derived.KernelRfl
import Derived.Test.YtdekjkgfohlmgaaGreatDoorAbG3
namespace Go.Ab
open Go.Proofs
theorem mixed : Tryz.prog.follows .mixedOrders = true := by kernel_rfl
end Go.Ab
