/-
  DERIVED. GIVEN WITH THE SEED: THE CARDS: each row of YtfiopamaiolfhabGreatDoorRows.lean that lists a variable, with what it lists TIED to the program's text (the seventh form; the later family's looks); each row that meets fmt, with fmt's text TOLD by the authors' own Lean function (tested against real Go, not proved from fmt's source: count such statements apart). THE CARD IS WHAT COUNTS. Prove the row's statement (the work); the ties are given (YtfiopamaiolfhabGreatDoorTie.lean); close each card by the builder's one call (the guide's Derived/Test/ToyasCard.lean, 'card_holds'). Laid BY PROGRAM, IN A SANDBOX (cutbox-door.mjs). By AI agents, Wed Nov 11 2026. No macro, syntax, notation, axiom, sorry.
-/
import Derived.Test.YtfiopamaiolfhabGreatDoorRows
import GoSem.ClaimSeven
namespace Go.Proofs.YtfiopamaiolfhabGreatDoor
namespace Rows

/-- THE TIED CARD OF 'pentimentolaw12.LayerKnown'. -/
def layerKnownCard : Claim7 := { stood := { row := layerKnownRow, standIns := [], harness := (true, "04779575f02e22f515351ae1bd21bb91b43f54d08588994805a0198645f201b4"), looks := false }, kinds := [], alts := [], laidByText := true, laidKinds := [.data, .pinned], laidTests := true, laidLooks := .later }
def LayerKnownCardSaid : Prop := Claim7.holds Tryz.pinned (.plain (OpenSpec.ofChange layerKnownSpec)) layerKnownCard

/-- THE SECOND FORM's CARD OF 'pentimentolaw12.LayerKnown'. -/
def layerKnownUptoCard : Claim7 := { stood := { row := layerKnownUptoRow, standIns := [], harness := (true, "04779575f02e22f515351ae1bd21bb91b43f54d08588994805a0198645f201b4"), looks := false }, kinds := [], alts := [], laidByText := true, laidKinds := [.data, .pinned], laidTests := true, laidLooks := .later }
def LayerKnownUptoCardSaid : Prop := Claim7.holds Tryz.pinned (.plain (OpenSpec.upto layerKnownSpec)) layerKnownUptoCard
end Rows
end Go.Proofs.YtfiopamaiolfhabGreatDoor
