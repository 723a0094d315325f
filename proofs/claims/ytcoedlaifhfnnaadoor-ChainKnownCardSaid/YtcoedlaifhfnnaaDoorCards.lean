/-
  DERIVED. GIVEN WITH THE SEED: THE CARDS: each row of YtcoedlaifhfnnaaDoorRows.lean that lists a variable, with what it lists TIED to the program's text (the seventh form; the later family's looks); each row that meets fmt, with fmt's text TOLD by the authors' own Lean function (tested against real Go, not proved from fmt's source: count such statements apart). THE CARD IS WHAT COUNTS. Prove the row's statement (the work); the ties are given (YtcoedlaifhfnnaaDoorTie.lean); close each card by the builder's one call (the guide's Derived/Test/ToyasCard.lean, 'card_holds'). Laid BY PROGRAM, IN A SANDBOX (cutbox-door.mjs). By AI agents, Wed Nov 11 2026. No macro, syntax, notation, axiom, sorry.
-/
import Derived.Test.YtcoedlaifhfnnaaDoorRows
import GoSem.ClaimSeven
namespace Go.Proofs.YtcoedlaifhfnnaaDoor
namespace Rows

/-- THE TIED CARD OF 'pentimentolaw14.ChainKnown'. -/
def chainKnownCard : Claim7 := { stood := { row := chainKnownRow, standIns := [], harness := (true, "d7bc63690785ba595a0651d6df5329b2bcd6253bdc2e329f75f474e76c42d1c7"), looks := false }, kinds := [], alts := [], laidByText := true, laidKinds := [.data, .pinned], laidTests := true, laidLooks := .later }
def ChainKnownCardSaid : Prop := Claim7.holds Tryd.pinned (.plain (OpenSpec.ofChange chainKnownSpec)) chainKnownCard

/-- THE SECOND FORM's CARD OF 'pentimentolaw14.ChainKnown'. -/
def chainKnownUptoCard : Claim7 := { stood := { row := chainKnownUptoRow, standIns := [], harness := (true, "d7bc63690785ba595a0651d6df5329b2bcd6253bdc2e329f75f474e76c42d1c7"), looks := false }, kinds := [], alts := [], laidByText := true, laidKinds := [.data, .pinned], laidTests := true, laidLooks := .later }
def ChainKnownUptoCardSaid : Prop := Claim7.holds Tryd.pinned (.plain (OpenSpec.upto chainKnownSpec)) chainKnownUptoCard
end Rows
end Go.Proofs.YtcoedlaifhfnnaaDoor
