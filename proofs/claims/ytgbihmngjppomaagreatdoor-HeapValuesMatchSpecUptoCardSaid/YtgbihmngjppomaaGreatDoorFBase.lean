/- A part of the proof: FBase. -/
import Derived.Test.YtgbihmngjppomaaGreatDoorProg
import Derived.KernelRfl
import Derived.Test.YtgbihmngjppomaaGreatDoorAbG2
namespace Go.Ab
open Go.Proofs
theorem mixed : Tryz.prog.follows .mixedOrders = true := by kernel_rfl
theorem take_one {α : Type} (a : α) : List.take 1 [a] = [a] := rfl
theorem prod_eta {α β : Type} (p : α × β) : (p.1, p.2) = p := rfl
theorem zero_le_one : (0 : Int) ≤ 1 := by decide
end Go.Ab
