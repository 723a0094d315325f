/-
  DERIVED. GIVEN WITH THE SEED: THE CARDS: each row of YtjpmajeekikdhaaGreatDoorRows.lean that lists a variable, with what it lists TIED to the program's text (the seventh form; the later family's looks); each row that meets fmt, with fmt's text TOLD by the authors' own Lean function (tested against real Go, not proved from fmt's source: count such statements apart). THE CARD IS WHAT COUNTS. Prove the row's statement (the work); the ties are given (YtjpmajeekikdhaaGreatDoorTie.lean); close each card by the builder's one call (the guide's Derived/Test/ToyasCard.lean, 'card_holds'). Laid BY PROGRAM, IN A SANDBOX (cutbox-door.mjs). By AI agents, Wed Nov 11 2026. No macro, syntax, notation, axiom, sorry.
-/
import Derived.Test.YtjpmajeekikdhaaGreatDoorRows
import GoSem.ClaimSeven
namespace Go.Proofs.YtjpmajeekikdhaaGreatDoor
namespace Rows

/-- THE TIED CARD OF 'pentimentolaw12.LayerOvers'. -/
def layerOversCard : Claim7 := { stood := { row := layerOversRow, standIns := [], harness := (true, "8efe0b790df43fd688e08d5b779929d5ae92c8d1810eacd6dea9bde6d3437d38"), looks := false }, kinds := [], alts := [], laidByText := true, laidKinds := [.data, .pinned], laidTests := true, laidLooks := .later }
def LayerOversCardSaid : Prop := Claim7.holds Tryz.pinned (.plain (OpenSpec.ofChange layerOversSpec)) layerOversCard

/-- THE SECOND FORM's CARD OF 'pentimentolaw12.LayerOvers'. -/
def layerOversUptoCard : Claim7 := { stood := { row := layerOversUptoRow, standIns := [], harness := (true, "8efe0b790df43fd688e08d5b779929d5ae92c8d1810eacd6dea9bde6d3437d38"), looks := false }, kinds := [], alts := [], laidByText := true, laidKinds := [.data, .pinned], laidTests := true, laidLooks := .later }
def LayerOversUptoCardSaid : Prop := Claim7.holds Tryz.pinned (.plain (OpenSpec.upto layerOversSpec)) layerOversUptoCard
end Rows
end Go.Proofs.YtjpmajeekikdhaaGreatDoor
