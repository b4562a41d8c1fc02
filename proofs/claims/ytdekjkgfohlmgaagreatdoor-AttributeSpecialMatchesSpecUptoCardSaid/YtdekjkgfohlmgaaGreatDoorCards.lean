/-
  DERIVED. GIVEN WITH THE SEED: THE CARDS: each row of YtdekjkgfohlmgaaGreatDoorRows.lean that lists a variable, with what it lists TIED to the program's text (the seventh form; the later family's looks); each row that meets fmt, with fmt's text TOLD by the authors' own Lean function (tested against real Go, not proved from fmt's source: count such statements apart). THE CARD IS WHAT COUNTS. Prove the row's statement (the work); the ties are given (YtdekjkgfohlmgaaGreatDoorTie.lean); close each card by the builder's one call (the guide's Derived/Test/ToyasCard.lean, 'card_holds'). Laid BY PROGRAM, IN A SANDBOX (cutbox-door.mjs). By AI agents, Wed Nov 11 2026. No macro, syntax, notation, axiom, sorry.
-/
import Derived.Test.YtdekjkgfohlmgaaGreatDoorRows
import GoSem.ClaimSeven
namespace Go.Proofs.YtdekjkgfohlmgaaGreatDoor
namespace Rows

/-- THE TIED CARD OF 'brindlewoodlaw7.OperatorsUnaryMatchesSpec'. -/
def operatorsUnaryMatchesSpecCard : Claim7 := { stood := { row := operatorsUnaryMatchesSpecRow, standIns := [], harness := (true, "f7d4312941af268f8c19d63317648d82211de1fb2c4a5df03cf9410700c3af34"), looks := false }, kinds := [], alts := [], laidByText := true, laidKinds := [.data, .listed, .data, .pinned], laidTests := true, laidLooks := .later }
def OperatorsUnaryMatchesSpecCardSaid : Prop := Claim7.holds Tryz.pinned (.plain (OpenSpec.ofChange operatorsUnaryMatchesSpecSpec)) operatorsUnaryMatchesSpecCard

/-- THE TIED CARD OF 'brindlewoodlaw7.AttributeSpecialMatchesSpec'. -/
def attributeSpecialMatchesSpecCard : Claim7 := { stood := { row := attributeSpecialMatchesSpecRow, standIns := [], harness := (true, "f7d4312941af268f8c19d63317648d82211de1fb2c4a5df03cf9410700c3af34"), looks := false }, kinds := [], alts := [], laidByText := true, laidKinds := [.data, .listed, .data, .pinned], laidTests := true, laidLooks := .later }
def AttributeSpecialMatchesSpecCardSaid : Prop := Claim7.holds Tryz.pinned (.plain (OpenSpec.ofChange attributeSpecialMatchesSpecSpec)) attributeSpecialMatchesSpecCard

/-- THE SECOND FORM's CARD OF 'brindlewoodlaw7.OperatorsUnaryMatchesSpec'. -/
def operatorsUnaryMatchesSpecUptoCard : Claim7 := { stood := { row := operatorsUnaryMatchesSpecUptoRow, standIns := [], harness := (true, "f7d4312941af268f8c19d63317648d82211de1fb2c4a5df03cf9410700c3af34"), looks := false }, kinds := [], alts := [], laidByText := true, laidKinds := [.data, .listed, .data, .pinned], laidTests := true, laidLooks := .later }
def OperatorsUnaryMatchesSpecUptoCardSaid : Prop := Claim7.holds Tryz.pinned (.plain (OpenSpec.upto operatorsUnaryMatchesSpecSpec)) operatorsUnaryMatchesSpecUptoCard

/-- THE SECOND FORM's CARD OF 'brindlewoodlaw7.AttributeSpecialMatchesSpec'. -/
def attributeSpecialMatchesSpecUptoCard : Claim7 := { stood := { row := attributeSpecialMatchesSpecUptoRow, standIns := [], harness := (true, "f7d4312941af268f8c19d63317648d82211de1fb2c4a5df03cf9410700c3af34"), looks := false }, kinds := [], alts := [], laidByText := true, laidKinds := [.data, .listed, .data, .pinned], laidTests := true, laidLooks := .later }
def AttributeSpecialMatchesSpecUptoCardSaid : Prop := Claim7.holds Tryz.pinned (.plain (OpenSpec.upto attributeSpecialMatchesSpecSpec)) attributeSpecialMatchesSpecUptoCard
end Rows
end Go.Proofs.YtdekjkgfohlmgaaGreatDoor
