/- A part of the proof: FBase. -/
import Derived.Test.YtdekjkgfohlmgaaGreatDoorProg
import Derived.KernelRfl
import Derived.Test.YtdekjkgfohlmgaaGreatDoorAbG3
namespace Go.Ab
open Go.Proofs
theorem mixed : Tryz.prog.follows .mixedOrders = true := by kernel_rfl
/-- the complement of a whole number of a kind -/
def notI (k : IntKind) (a : Int) : Int := k.wrap (BitVec.ofInt k.bits (if k.signed then -1 else k.max) ^^^ BitVec.ofInt k.bits a).toNat
end Go.Ab
