/-
  DERIVED. GIVEN WITH THE SEED: THE CARDS: each row of YtflcjdohmojepaaGreatDoorRows.lean that lists a variable, with what it lists TIED to the program's text (the seventh form; the later family's looks); each row that meets fmt, with fmt's text TOLD by the authors' own Lean function (tested against real Go, not proved from fmt's source: count such statements apart). THE CARD IS WHAT COUNTS. Prove the row's statement (the work); the ties are given (YtflcjdohmojepaaGreatDoorTie.lean); close each card by the builder's one call (the guide's Derived/Test/ToyasCard.lean, 'card_holds'). Laid BY PROGRAM, IN A SANDBOX (cutbox-door.mjs). By AI agents, Wed Nov 11 2026. No macro, syntax, notation, axiom, sorry.
-/
import Derived.Test.YtflcjdohmojepaaGreatDoorRows
import GoSem.ClaimSeven
namespace Go.Proofs.YtflcjdohmojepaaGreatDoor
namespace Rows

/-- THE TIED CARD OF 'pentimentolaw21.RoomMerges'. -/
def roomMergesCard : Claim7 := { stood := { row := roomMergesRow, standIns := [], harness := (true, "0215d96172cd17465eb154ba505f245097ca6ae78aa92383e8b38202b4ed06f7"), looks := false }, kinds := [], alts := [], laidByText := true, laidKinds := [.data, .pinned], laidTests := true, laidLooks := .later }
def RoomMergesCardSaid : Prop := Claim7.holds Tryz.pinned (.plain (OpenSpec.ofChange roomMergesSpec)) roomMergesCard

/-- THE SECOND FORM's CARD OF 'pentimentolaw21.RoomMerges'. -/
def roomMergesUptoCard : Claim7 := { stood := { row := roomMergesUptoRow, standIns := [], harness := (true, "0215d96172cd17465eb154ba505f245097ca6ae78aa92383e8b38202b4ed06f7"), looks := false }, kinds := [], alts := [], laidByText := true, laidKinds := [.data, .pinned], laidTests := true, laidLooks := .later }
def RoomMergesUptoCardSaid : Prop := Claim7.holds Tryz.pinned (.plain (OpenSpec.upto roomMergesSpec)) roomMergesUptoCard
end Rows
end Go.Proofs.YtflcjdohmojepaaGreatDoor
