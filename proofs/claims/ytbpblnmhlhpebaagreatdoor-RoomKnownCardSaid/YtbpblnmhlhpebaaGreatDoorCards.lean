/-
  DERIVED. GIVEN WITH THE SEED: THE CARDS: each row of YtbpblnmhlhpebaaGreatDoorRows.lean that lists a variable, with what it lists TIED to the program's text (the seventh form; the later family's looks); each row that meets fmt, with fmt's text TOLD by the authors' own Lean function (tested against real Go, not proved from fmt's source: count such statements apart). THE CARD IS WHAT COUNTS. Prove the row's statement (the work); the ties are given (YtbpblnmhlhpebaaGreatDoorTie.lean); close each card by the builder's one call (the guide's Derived/Test/ToyasCard.lean, 'card_holds'). Laid BY PROGRAM, IN A SANDBOX (cutbox-door.mjs). By AI agents, Wed Nov 11 2026. No macro, syntax, notation, axiom, sorry.
-/
import Derived.Test.YtbpblnmhlhpebaaGreatDoorRows
import GoSem.ClaimSeven
namespace Go.Proofs.YtbpblnmhlhpebaaGreatDoor
namespace Rows

/-- THE TIED CARD OF 'pentimentolaw21.RoomForks'. -/
def roomForksCard : Claim7 := { stood := { row := roomForksRow, standIns := [], harness := (true, "c7b9580e9c39843784411e9f523db78e9b0dfaf482024113ab20eba2d9fe6782"), looks := false }, kinds := [], alts := [], laidByText := true, laidKinds := [.data, .pinned], laidTests := true, laidLooks := .later }
def RoomForksCardSaid : Prop := Claim7.holds Tryz.pinned (.plain (OpenSpec.ofChange roomForksSpec)) roomForksCard

/-- THE TIED CARD OF 'pentimentolaw21.RoomKnown'. -/
def roomKnownCard : Claim7 := { stood := { row := roomKnownRow, standIns := [], harness := (true, "c7b9580e9c39843784411e9f523db78e9b0dfaf482024113ab20eba2d9fe6782"), looks := false }, kinds := [], alts := [], laidByText := true, laidKinds := [.data, .pinned], laidTests := true, laidLooks := .later }
def RoomKnownCardSaid : Prop := Claim7.holds Tryz.pinned (.plain (OpenSpec.ofChange roomKnownSpec)) roomKnownCard

/-- THE TIED CARD OF 'pentimentolaw21.RoomDrops'. -/
def roomDropsCard : Claim7 := { stood := { row := roomDropsRow, standIns := [], harness := (true, "c7b9580e9c39843784411e9f523db78e9b0dfaf482024113ab20eba2d9fe6782"), looks := false }, kinds := [], alts := [], laidByText := true, laidKinds := [.data, .data, .data, .pinned], laidTests := true, laidLooks := .later }
def RoomDropsCardSaid : Prop := Claim7.holds Tryz.pinned (.plain (OpenSpec.ofChange roomDropsSpec)) roomDropsCard

/-- THE TIED CARD OF 'pentimentolaw21.RoomPlays'. -/
def roomPlaysCard : Claim7 := { stood := { row := roomPlaysRow, standIns := [], harness := (true, "c7b9580e9c39843784411e9f523db78e9b0dfaf482024113ab20eba2d9fe6782"), looks := false }, kinds := [], alts := [], laidByText := true, laidKinds := [.data, .data, .data, .pinned], laidTests := true, laidLooks := .later }
def RoomPlaysCardSaid : Prop := Claim7.holds Tryz.pinned (.plain (OpenSpec.ofChange roomPlaysSpec)) roomPlaysCard

/-- THE SECOND FORM's CARD OF 'pentimentolaw21.RoomForks'. -/
def roomForksUptoCard : Claim7 := { stood := { row := roomForksUptoRow, standIns := [], harness := (true, "c7b9580e9c39843784411e9f523db78e9b0dfaf482024113ab20eba2d9fe6782"), looks := false }, kinds := [], alts := [], laidByText := true, laidKinds := [.data, .pinned], laidTests := true, laidLooks := .later }
def RoomForksUptoCardSaid : Prop := Claim7.holds Tryz.pinned (.plain (OpenSpec.upto roomForksSpec)) roomForksUptoCard

/-- THE SECOND FORM's CARD OF 'pentimentolaw21.RoomKnown'. -/
def roomKnownUptoCard : Claim7 := { stood := { row := roomKnownUptoRow, standIns := [], harness := (true, "c7b9580e9c39843784411e9f523db78e9b0dfaf482024113ab20eba2d9fe6782"), looks := false }, kinds := [], alts := [], laidByText := true, laidKinds := [.data, .pinned], laidTests := true, laidLooks := .later }
def RoomKnownUptoCardSaid : Prop := Claim7.holds Tryz.pinned (.plain (OpenSpec.upto roomKnownSpec)) roomKnownUptoCard

/-- THE SECOND FORM's CARD OF 'pentimentolaw21.RoomDrops'. -/
def roomDropsUptoCard : Claim7 := { stood := { row := roomDropsUptoRow, standIns := [], harness := (true, "c7b9580e9c39843784411e9f523db78e9b0dfaf482024113ab20eba2d9fe6782"), looks := false }, kinds := [], alts := [], laidByText := true, laidKinds := [.data, .data, .data, .pinned], laidTests := true, laidLooks := .later }
def RoomDropsUptoCardSaid : Prop := Claim7.holds Tryz.pinned (.plain (OpenSpec.upto roomDropsSpec)) roomDropsUptoCard

/-- THE SECOND FORM's CARD OF 'pentimentolaw21.RoomPlays'. -/
def roomPlaysUptoCard : Claim7 := { stood := { row := roomPlaysUptoRow, standIns := [], harness := (true, "c7b9580e9c39843784411e9f523db78e9b0dfaf482024113ab20eba2d9fe6782"), looks := false }, kinds := [], alts := [], laidByText := true, laidKinds := [.data, .data, .data, .pinned], laidTests := true, laidLooks := .later }
def RoomPlaysUptoCardSaid : Prop := Claim7.holds Tryz.pinned (.plain (OpenSpec.upto roomPlaysSpec)) roomPlaysUptoCard
end Rows
end Go.Proofs.YtbpblnmhlhpebaaGreatDoor
