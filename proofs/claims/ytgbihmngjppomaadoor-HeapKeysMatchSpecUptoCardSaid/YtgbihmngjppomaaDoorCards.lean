/-
  DERIVED. GIVEN WITH THE SEED: THE CARDS: each row of YtgbihmngjppomaaDoorRows.lean that lists a variable, with what it lists TIED to the program's text (the seventh form; the later family's looks); each row that meets fmt, with fmt's text TOLD by the authors' own Lean function (tested against real Go, not proved from fmt's source: count such statements apart). THE CARD IS WHAT COUNTS. Prove the row's statement (the work); the ties are given (YtgbihmngjppomaaDoorTie.lean); close each card by the builder's one call (the guide's Derived/Test/ToyasCard.lean, 'card_holds'). Laid BY PROGRAM, IN A SANDBOX (cutbox-door.mjs). By AI agents, Wed Nov 11 2026. No macro, syntax, notation, axiom, sorry.
-/
import Derived.Test.YtgbihmngjppomaaDoorRows
import GoSem.ClaimSeven
namespace Go.Proofs.YtgbihmngjppomaaDoor
namespace Rows

/-- THE TIED CARD OF 'brindlewoodlaw7.InlineNumbersMatchOperators'. -/
def inlineNumbersMatchOperatorsCard : Claim7 := { stood := { row := inlineNumbersMatchOperatorsRow, standIns := [], harness := (true, "419d273ac5350936e0dc717b26d3736faf17b947225a5cc1bc72c6dee6c06661"), looks := false }, kinds := [], alts := [], laidByText := true, laidKinds := [.data, .pinned], laidTests := true, laidLooks := .later }
def InlineNumbersMatchOperatorsCardSaid : Prop := Claim7.holds Tryd.pinned (.plain (OpenSpec.ofChange inlineNumbersMatchOperatorsSpec)) inlineNumbersMatchOperatorsCard

/-- THE TIED CARD OF 'brindlewoodlaw7.HeapKeysMatchSpec'. -/
def heapKeysMatchSpecCard : Claim7 := { stood := { row := heapKeysMatchSpecRow, standIns := [], harness := (true, "419d273ac5350936e0dc717b26d3736faf17b947225a5cc1bc72c6dee6c06661"), looks := false }, kinds := [], alts := [], laidByText := true, laidKinds := [.data, .listed, .data, .pinned], laidTests := true, laidLooks := .later }
def HeapKeysMatchSpecCardSaid : Prop := Claim7.holds Tryd.pinned (.plain (OpenSpec.ofChange heapKeysMatchSpecSpec)) heapKeysMatchSpecCard

/-- THE SECOND FORM's CARD OF 'brindlewoodlaw7.InlineNumbersMatchOperators'. -/
def inlineNumbersMatchOperatorsUptoCard : Claim7 := { stood := { row := inlineNumbersMatchOperatorsUptoRow, standIns := [], harness := (true, "419d273ac5350936e0dc717b26d3736faf17b947225a5cc1bc72c6dee6c06661"), looks := false }, kinds := [], alts := [], laidByText := true, laidKinds := [.data, .pinned], laidTests := true, laidLooks := .later }
def InlineNumbersMatchOperatorsUptoCardSaid : Prop := Claim7.holds Tryd.pinned (.plain (OpenSpec.upto inlineNumbersMatchOperatorsSpec)) inlineNumbersMatchOperatorsUptoCard

/-- THE SECOND FORM's CARD OF 'brindlewoodlaw7.HeapKeysMatchSpec'. -/
def heapKeysMatchSpecUptoCard : Claim7 := { stood := { row := heapKeysMatchSpecUptoRow, standIns := [], harness := (true, "419d273ac5350936e0dc717b26d3736faf17b947225a5cc1bc72c6dee6c06661"), looks := false }, kinds := [], alts := [], laidByText := true, laidKinds := [.data, .listed, .data, .pinned], laidTests := true, laidLooks := .later }
def HeapKeysMatchSpecUptoCardSaid : Prop := Claim7.holds Tryd.pinned (.plain (OpenSpec.upto heapKeysMatchSpecSpec)) heapKeysMatchSpecUptoCard
end Rows
end Go.Proofs.YtgbihmngjppomaaDoor
