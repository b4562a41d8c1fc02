/- A part of the proof: FBase. -/
import Derived.Test.YtgkjkmpeeneilaaProg
import Derived.KernelRfl
import Derived.Test.YtgkjkmpeeneilaaAbG2
namespace Go.Ab
open Go.Proofs
theorem mixed : Try.prog.follows .mixedOrders = true := by kernel_rfl
end Go.Ab
