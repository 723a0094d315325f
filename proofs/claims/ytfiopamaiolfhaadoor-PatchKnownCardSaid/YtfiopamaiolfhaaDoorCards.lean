/-
  DERIVED. GIVEN WITH THE SEED: THE CARDS: each row of YtfiopamaiolfhaaDoorRows.lean that lists a variable, with what it lists TIED to the program's text (the seventh form; the later family's looks); each row that meets fmt, with fmt's text TOLD by the authors' own Lean function (tested against real Go, not proved from fmt's source: count such statements apart). THE CARD IS WHAT COUNTS. Prove the row's statement (the work); the ties are given (YtfiopamaiolfhaaDoorTie.lean); close each card by the builder's one call (the guide's Derived/Test/ToyasCard.lean, 'card_holds'). Laid BY PROGRAM, IN A SANDBOX (cutbox-door.mjs). By AI agents, Wed Nov 11 2026. No macro, syntax, notation, axiom, sorry.
-/
import Derived.Test.YtfiopamaiolfhaaDoorRows
import GoSem.ClaimSeven
namespace Go.Proofs.YtfiopamaiolfhaaDoor
namespace Rows

/-- THE TIED CARD OF 'pentimentolaw19.PatchKnown'. -/
def patchKnownCard : Claim7 := { stood := { row := patchKnownRow, standIns := [], harness := (true, "4d6c626a58578ad6aa616af84e21b8b43e3f8b8d7210bfe36a312ae56b5b21a9"), looks := false }, kinds := [], alts := [], laidByText := true, laidKinds := [.data, .pinned], laidTests := true, laidLooks := .later }
def PatchKnownCardSaid : Prop := Claim7.holds Tryd.pinned (.plain (OpenSpec.ofChange patchKnownSpec)) patchKnownCard

/-- THE TIED CARD OF 'pentimentolaw14.ChainKnown'. -/
def chainKnownCard : Claim7 := { stood := { row := chainKnownRow, standIns := [], harness := (true, "4d6c626a58578ad6aa616af84e21b8b43e3f8b8d7210bfe36a312ae56b5b21a9"), looks := false }, kinds := [], alts := [], laidByText := true, laidKinds := [.data, .pinned], laidTests := true, laidLooks := .later }
def ChainKnownCardSaid : Prop := Claim7.holds Tryd.pinned (.plain (OpenSpec.ofChange chainKnownSpec)) chainKnownCard

/-- THE SECOND FORM's CARD OF 'pentimentolaw19.PatchKnown'. -/
def patchKnownUptoCard : Claim7 := { stood := { row := patchKnownUptoRow, standIns := [], harness := (true, "4d6c626a58578ad6aa616af84e21b8b43e3f8b8d7210bfe36a312ae56b5b21a9"), looks := false }, kinds := [], alts := [], laidByText := true, laidKinds := [.data, .pinned], laidTests := true, laidLooks := .later }
def PatchKnownUptoCardSaid : Prop := Claim7.holds Tryd.pinned (.plain (OpenSpec.upto patchKnownSpec)) patchKnownUptoCard

/-- THE SECOND FORM's CARD OF 'pentimentolaw14.ChainKnown'. -/
def chainKnownUptoCard : Claim7 := { stood := { row := chainKnownUptoRow, standIns := [], harness := (true, "4d6c626a58578ad6aa616af84e21b8b43e3f8b8d7210bfe36a312ae56b5b21a9"), looks := false }, kinds := [], alts := [], laidByText := true, laidKinds := [.data, .pinned], laidTests := true, laidLooks := .later }
def ChainKnownUptoCardSaid : Prop := Claim7.holds Tryd.pinned (.plain (OpenSpec.upto chainKnownSpec)) chainKnownUptoCard
end Rows
end Go.Proofs.YtfiopamaiolfhaaDoor
