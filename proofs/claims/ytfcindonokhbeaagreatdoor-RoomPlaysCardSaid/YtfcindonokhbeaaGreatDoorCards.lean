/-
  DERIVED. GIVEN WITH THE SEED: THE CARDS: each row of YtfcindonokhbeaaGreatDoorRows.lean that lists a variable, with what it lists TIED to the program's text (the seventh form; the later family's looks); each row that meets fmt, with fmt's text TOLD by the authors' own Lean function (tested against real Go, not proved from fmt's source: count such statements apart). THE CARD IS WHAT COUNTS. Prove the row's statement (the work); the ties are given (YtfcindonokhbeaaGreatDoorTie.lean); close each card by the builder's one call (the guide's Derived/Test/ToyasCard.lean, 'card_holds'). Laid BY PROGRAM, IN A SANDBOX (cutbox-door.mjs). By AI agents, Wed Nov 11 2026. No macro, syntax, notation, axiom, sorry.
-/
import Derived.Test.YtfcindonokhbeaaGreatDoorRows
import GoSem.ClaimSeven
namespace Go.Proofs.YtfcindonokhbeaaGreatDoor
namespace Rows

/-- THE TIED CARD OF 'pentimentolaw21.RoomPlays'. -/
def roomPlaysCard : Claim7 := { stood := { row := roomPlaysRow, standIns := [], harness := (true, "42b625a5b502cf103ee23695fa44d2c7bb37df1d14636ccb476f9af7d38eec49"), looks := false }, kinds := [], alts := [], laidByText := true, laidKinds := [.data, .data, .data, .pinned], laidTests := true, laidLooks := .later }
def RoomPlaysCardSaid : Prop := Claim7.holds Tryz.pinned (.plain (OpenSpec.ofChange roomPlaysSpec)) roomPlaysCard

/-- THE SECOND FORM's CARD OF 'pentimentolaw21.RoomPlays'. -/
def roomPlaysUptoCard : Claim7 := { stood := { row := roomPlaysUptoRow, standIns := [], harness := (true, "42b625a5b502cf103ee23695fa44d2c7bb37df1d14636ccb476f9af7d38eec49"), looks := false }, kinds := [], alts := [], laidByText := true, laidKinds := [.data, .data, .data, .pinned], laidTests := true, laidLooks := .later }
def RoomPlaysUptoCardSaid : Prop := Claim7.holds Tryz.pinned (.plain (OpenSpec.upto roomPlaysSpec)) roomPlaysUptoCard
end Rows
end Go.Proofs.YtfcindonokhbeaaGreatDoor
