/-
  DERIVED. GIVEN WITH THE SEED: THE CARDS: each row of YtnbgaphhhjnjlaaGreatDoorRows.lean that lists a variable, with what it lists TIED to the program's text (the seventh form; the later family's looks); each row that meets fmt, with fmt's text TOLD by the authors' own Lean function (tested against real Go, not proved from fmt's source: count such statements apart). THE CARD IS WHAT COUNTS. Prove the row's statement (the work); the ties are given (YtnbgaphhhjnjlaaGreatDoorTie.lean); close each card by the builder's one call (the guide's Derived/Test/ToyasCard.lean, 'card_holds'). Laid BY PROGRAM, IN A SANDBOX (cutbox-door.mjs). By AI agents, Wed Nov 11 2026. No macro, syntax, notation, axiom, sorry.
-/
import Derived.Test.YtnbgaphhhjnjlaaGreatDoorRows
import GoSem.ClaimSeven
namespace Go.Proofs.YtnbgaphhhjnjlaaGreatDoor
namespace Rows

/-- THE TIED CARD OF 'pentimentolaw16.CallsKnown'. -/
def callsKnownCard : Claim7 := { stood := { row := callsKnownRow, standIns := [], harness := (true, "492c6e5f79a519e2d5ff160ea550d4d9c1c7871f872b4e2f9b809b57ada3169b"), looks := false }, kinds := [], alts := [], laidByText := true, laidKinds := [.data, .pinned], laidTests := true, laidLooks := .later }
def CallsKnownCardSaid : Prop := Claim7.holds Tryz.pinned (.plain (OpenSpec.ofChange callsKnownSpec)) callsKnownCard

/-- THE TIED CARD OF 'pentimentolaw16.CallsPlay'. -/
def callsPlayCard : Claim7 := { stood := { row := callsPlayRow, standIns := [], harness := (true, "492c6e5f79a519e2d5ff160ea550d4d9c1c7871f872b4e2f9b809b57ada3169b"), looks := false }, kinds := [], alts := [], laidByText := true, laidKinds := [.data, .data, .pinned], laidTests := true, laidLooks := .later }
def CallsPlayCardSaid : Prop := Claim7.holds Tryz.pinned (.plain (OpenSpec.ofChange callsPlaySpec)) callsPlayCard

/-- THE TIED CARD OF 'pentimentolaw16.CallsBytes'. -/
def callsBytesCard : Claim7 := { stood := { row := callsBytesRow, standIns := [], harness := (true, "492c6e5f79a519e2d5ff160ea550d4d9c1c7871f872b4e2f9b809b57ada3169b"), looks := false }, kinds := [], alts := [], laidByText := true, laidKinds := [.data, .pinned], laidTests := true, laidLooks := .later }
def CallsBytesCardSaid : Prop := Claim7.holds Tryz.pinned (.plain (OpenSpec.ofChange callsBytesSpec)) callsBytesCard

/-- THE TIED CARD OF 'pentimentolaw16.CallsMoves'. -/
def callsMovesCard : Claim7 := { stood := { row := callsMovesRow, standIns := [], harness := (true, "492c6e5f79a519e2d5ff160ea550d4d9c1c7871f872b4e2f9b809b57ada3169b"), looks := false }, kinds := [], alts := [], laidByText := true, laidKinds := [.data, .pinned], laidTests := true, laidLooks := .later }
def CallsMovesCardSaid : Prop := Claim7.holds Tryz.pinned (.plain (OpenSpec.ofChange callsMovesSpec)) callsMovesCard

/-- THE TIED CARD OF 'pentimentolaw16.CallsApart'. -/
def callsApartCard : Claim7 := { stood := { row := callsApartRow, standIns := [], harness := (true, "492c6e5f79a519e2d5ff160ea550d4d9c1c7871f872b4e2f9b809b57ada3169b"), looks := false }, kinds := [], alts := [], laidByText := true, laidKinds := [.data, .data, .pinned], laidTests := true, laidLooks := .later }
def CallsApartCardSaid : Prop := Claim7.holds Tryz.pinned (.plain (OpenSpec.ofChange callsApartSpec)) callsApartCard

/-- THE TIED CARD OF 'pentimentolaw16.CallsKeep'. -/
def callsKeepCard : Claim7 := { stood := { row := callsKeepRow, standIns := [], harness := (true, "492c6e5f79a519e2d5ff160ea550d4d9c1c7871f872b4e2f9b809b57ada3169b"), looks := false }, kinds := [], alts := [], laidByText := true, laidKinds := [.data, .data, .pinned], laidTests := true, laidLooks := .later }
def CallsKeepCardSaid : Prop := Claim7.holds Tryz.pinned (.plain (OpenSpec.ofChange callsKeepSpec)) callsKeepCard

/-- THE SECOND FORM's CARD OF 'pentimentolaw16.CallsKnown'. -/
def callsKnownUptoCard : Claim7 := { stood := { row := callsKnownUptoRow, standIns := [], harness := (true, "492c6e5f79a519e2d5ff160ea550d4d9c1c7871f872b4e2f9b809b57ada3169b"), looks := false }, kinds := [], alts := [], laidByText := true, laidKinds := [.data, .pinned], laidTests := true, laidLooks := .later }
def CallsKnownUptoCardSaid : Prop := Claim7.holds Tryz.pinned (.plain (OpenSpec.upto callsKnownSpec)) callsKnownUptoCard

/-- THE SECOND FORM's CARD OF 'pentimentolaw16.CallsPlay'. -/
def callsPlayUptoCard : Claim7 := { stood := { row := callsPlayUptoRow, standIns := [], harness := (true, "492c6e5f79a519e2d5ff160ea550d4d9c1c7871f872b4e2f9b809b57ada3169b"), looks := false }, kinds := [], alts := [], laidByText := true, laidKinds := [.data, .data, .pinned], laidTests := true, laidLooks := .later }
def CallsPlayUptoCardSaid : Prop := Claim7.holds Tryz.pinned (.plain (OpenSpec.upto callsPlaySpec)) callsPlayUptoCard

/-- THE SECOND FORM's CARD OF 'pentimentolaw16.CallsBytes'. -/
def callsBytesUptoCard : Claim7 := { stood := { row := callsBytesUptoRow, standIns := [], harness := (true, "492c6e5f79a519e2d5ff160ea550d4d9c1c7871f872b4e2f9b809b57ada3169b"), looks := false }, kinds := [], alts := [], laidByText := true, laidKinds := [.data, .pinned], laidTests := true, laidLooks := .later }
def CallsBytesUptoCardSaid : Prop := Claim7.holds Tryz.pinned (.plain (OpenSpec.upto callsBytesSpec)) callsBytesUptoCard

/-- THE SECOND FORM's CARD OF 'pentimentolaw16.CallsMoves'. -/
def callsMovesUptoCard : Claim7 := { stood := { row := callsMovesUptoRow, standIns := [], harness := (true, "492c6e5f79a519e2d5ff160ea550d4d9c1c7871f872b4e2f9b809b57ada3169b"), looks := false }, kinds := [], alts := [], laidByText := true, laidKinds := [.data, .pinned], laidTests := true, laidLooks := .later }
def CallsMovesUptoCardSaid : Prop := Claim7.holds Tryz.pinned (.plain (OpenSpec.upto callsMovesSpec)) callsMovesUptoCard

/-- THE SECOND FORM's CARD OF 'pentimentolaw16.CallsApart'. -/
def callsApartUptoCard : Claim7 := { stood := { row := callsApartUptoRow, standIns := [], harness := (true, "492c6e5f79a519e2d5ff160ea550d4d9c1c7871f872b4e2f9b809b57ada3169b"), looks := false }, kinds := [], alts := [], laidByText := true, laidKinds := [.data, .data, .pinned], laidTests := true, laidLooks := .later }
def CallsApartUptoCardSaid : Prop := Claim7.holds Tryz.pinned (.plain (OpenSpec.upto callsApartSpec)) callsApartUptoCard

/-- THE SECOND FORM's CARD OF 'pentimentolaw16.CallsKeep'. -/
def callsKeepUptoCard : Claim7 := { stood := { row := callsKeepUptoRow, standIns := [], harness := (true, "492c6e5f79a519e2d5ff160ea550d4d9c1c7871f872b4e2f9b809b57ada3169b"), looks := false }, kinds := [], alts := [], laidByText := true, laidKinds := [.data, .data, .pinned], laidTests := true, laidLooks := .later }
def CallsKeepUptoCardSaid : Prop := Claim7.holds Tryz.pinned (.plain (OpenSpec.upto callsKeepSpec)) callsKeepUptoCard
end Rows
end Go.Proofs.YtnbgaphhhjnjlaaGreatDoor
