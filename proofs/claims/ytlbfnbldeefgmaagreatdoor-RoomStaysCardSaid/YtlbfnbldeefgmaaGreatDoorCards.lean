/-
  DERIVED. GIVEN WITH THE SEED: THE CARDS: each row of YtlbfnbldeefgmaaGreatDoorRows.lean that lists a variable, with what it lists TIED to the program's text (the seventh form; the later family's looks); each row that meets fmt, with fmt's text TOLD by the authors' own Lean function (tested against real Go, not proved from fmt's source: count such statements apart). THE CARD IS WHAT COUNTS. Prove the row's statement (the work); the ties are given (YtlbfnbldeefgmaaGreatDoorTie.lean); close each card by the builder's one call (the guide's Derived/Test/ToyasCard.lean, 'card_holds'). Laid BY PROGRAM, IN A SANDBOX (cutbox-door.mjs). By AI agents, Wed Nov 11 2026. No macro, syntax, notation, axiom, sorry.
-/
import Derived.Test.YtlbfnbldeefgmaaGreatDoorRows
import GoSem.ClaimSeven
namespace Go.Proofs.YtlbfnbldeefgmaaGreatDoor
namespace Rows

/-- THE TIED CARD OF 'pentimentolaw21.RoomDeep'. -/
def roomDeepCard : Claim7 := { stood := { row := roomDeepRow, standIns := [], harness := (true, "8c0297879aecc529d10a2351a65e74dcc30a4fec545c776259228776ca879da0"), looks := false }, kinds := [], alts := [], laidByText := true, laidKinds := [.data, .data, .pinned], laidTests := true, laidLooks := .later }
def RoomDeepCardSaid : Prop := Claim7.holds Tryz.pinned (.plain (OpenSpec.ofChange roomDeepSpec)) roomDeepCard

/-- THE TIED CARD OF 'pentimentolaw21.RoomMakes'. -/
def roomMakesCard : Claim7 := { stood := { row := roomMakesRow, standIns := [], harness := (true, "8c0297879aecc529d10a2351a65e74dcc30a4fec545c776259228776ca879da0"), looks := false }, kinds := [], alts := [], laidByText := true, laidKinds := [.data, .data, .data, .pinned], laidTests := true, laidLooks := .later }
def RoomMakesCardSaid : Prop := Claim7.holds Tryz.pinned (.plain (OpenSpec.ofChange roomMakesSpec)) roomMakesCard

/-- THE TIED CARD OF 'pentimentolaw21.RoomAsks'. -/
def roomAsksCard : Claim7 := { stood := { row := roomAsksRow, standIns := [], harness := (true, "8c0297879aecc529d10a2351a65e74dcc30a4fec545c776259228776ca879da0"), looks := false }, kinds := [], alts := [], laidByText := true, laidKinds := [.data, .data, .pinned], laidTests := true, laidLooks := .later }
def RoomAsksCardSaid : Prop := Claim7.holds Tryz.pinned (.plain (OpenSpec.ofChange roomAsksSpec)) roomAsksCard

/-- THE TIED CARD OF 'pentimentolaw21.RoomDrops'. -/
def roomDropsCard : Claim7 := { stood := { row := roomDropsRow, standIns := [], harness := (true, "8c0297879aecc529d10a2351a65e74dcc30a4fec545c776259228776ca879da0"), looks := false }, kinds := [], alts := [], laidByText := true, laidKinds := [.data, .data, .data, .pinned], laidTests := true, laidLooks := .later }
def RoomDropsCardSaid : Prop := Claim7.holds Tryz.pinned (.plain (OpenSpec.ofChange roomDropsSpec)) roomDropsCard

/-- THE TIED CARD OF 'pentimentolaw21.RoomStays'. -/
def roomStaysCard : Claim7 := { stood := { row := roomStaysRow, standIns := [], harness := (true, "8c0297879aecc529d10a2351a65e74dcc30a4fec545c776259228776ca879da0"), looks := false }, kinds := [], alts := [], laidByText := true, laidKinds := [.data, .data, .data, .pinned], laidTests := true, laidLooks := .later }
def RoomStaysCardSaid : Prop := Claim7.holds Tryz.pinned (.plain (OpenSpec.ofChange roomStaysSpec)) roomStaysCard

/-- THE SECOND FORM's CARD OF 'pentimentolaw21.RoomDeep'. -/
def roomDeepUptoCard : Claim7 := { stood := { row := roomDeepUptoRow, standIns := [], harness := (true, "8c0297879aecc529d10a2351a65e74dcc30a4fec545c776259228776ca879da0"), looks := false }, kinds := [], alts := [], laidByText := true, laidKinds := [.data, .data, .pinned], laidTests := true, laidLooks := .later }
def RoomDeepUptoCardSaid : Prop := Claim7.holds Tryz.pinned (.plain (OpenSpec.upto roomDeepSpec)) roomDeepUptoCard

/-- THE SECOND FORM's CARD OF 'pentimentolaw21.RoomMakes'. -/
def roomMakesUptoCard : Claim7 := { stood := { row := roomMakesUptoRow, standIns := [], harness := (true, "8c0297879aecc529d10a2351a65e74dcc30a4fec545c776259228776ca879da0"), looks := false }, kinds := [], alts := [], laidByText := true, laidKinds := [.data, .data, .data, .pinned], laidTests := true, laidLooks := .later }
def RoomMakesUptoCardSaid : Prop := Claim7.holds Tryz.pinned (.plain (OpenSpec.upto roomMakesSpec)) roomMakesUptoCard

/-- THE SECOND FORM's CARD OF 'pentimentolaw21.RoomAsks'. -/
def roomAsksUptoCard : Claim7 := { stood := { row := roomAsksUptoRow, standIns := [], harness := (true, "8c0297879aecc529d10a2351a65e74dcc30a4fec545c776259228776ca879da0"), looks := false }, kinds := [], alts := [], laidByText := true, laidKinds := [.data, .data, .pinned], laidTests := true, laidLooks := .later }
def RoomAsksUptoCardSaid : Prop := Claim7.holds Tryz.pinned (.plain (OpenSpec.upto roomAsksSpec)) roomAsksUptoCard

/-- THE SECOND FORM's CARD OF 'pentimentolaw21.RoomDrops'. -/
def roomDropsUptoCard : Claim7 := { stood := { row := roomDropsUptoRow, standIns := [], harness := (true, "8c0297879aecc529d10a2351a65e74dcc30a4fec545c776259228776ca879da0"), looks := false }, kinds := [], alts := [], laidByText := true, laidKinds := [.data, .data, .data, .pinned], laidTests := true, laidLooks := .later }
def RoomDropsUptoCardSaid : Prop := Claim7.holds Tryz.pinned (.plain (OpenSpec.upto roomDropsSpec)) roomDropsUptoCard

/-- THE SECOND FORM's CARD OF 'pentimentolaw21.RoomStays'. -/
def roomStaysUptoCard : Claim7 := { stood := { row := roomStaysUptoRow, standIns := [], harness := (true, "8c0297879aecc529d10a2351a65e74dcc30a4fec545c776259228776ca879da0"), looks := false }, kinds := [], alts := [], laidByText := true, laidKinds := [.data, .data, .data, .pinned], laidTests := true, laidLooks := .later }
def RoomStaysUptoCardSaid : Prop := Claim7.holds Tryz.pinned (.plain (OpenSpec.upto roomStaysSpec)) roomStaysUptoCard
end Rows
end Go.Proofs.YtlbfnbldeefgmaaGreatDoor
