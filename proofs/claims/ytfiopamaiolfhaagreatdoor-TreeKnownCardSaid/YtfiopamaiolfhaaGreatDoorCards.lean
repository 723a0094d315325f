/-
  DERIVED. GIVEN WITH THE SEED: THE CARDS: each row of YtfiopamaiolfhaaGreatDoorRows.lean that lists a variable, with what it lists TIED to the program's text (the seventh form; the later family's looks); each row that meets fmt, with fmt's text TOLD by the authors' own Lean function (tested against real Go, not proved from fmt's source: count such statements apart). THE CARD IS WHAT COUNTS. Prove the row's statement (the work); the ties are given (YtfiopamaiolfhaaGreatDoorTie.lean); close each card by the builder's one call (the guide's Derived/Test/ToyasCard.lean, 'card_holds'). Laid BY PROGRAM, IN A SANDBOX (cutbox-door.mjs). By AI agents, Wed Nov 11 2026. No macro, syntax, notation, axiom, sorry.
-/
import Derived.Test.YtfiopamaiolfhaaGreatDoorRows
import GoSem.ClaimSeven
namespace Go.Proofs.YtfiopamaiolfhaaGreatDoor
namespace Rows

/-- THE TIED CARD OF 'pentimentolaw14.ChainRaw'. -/
def chainRawCard : Claim7 := { stood := { row := chainRawRow, standIns := [], harness := (true, "0f1e9ac677c74d64b8234db5925ebcade0fb1c103bb3cc055f217e3c9b7d751a"), looks := false }, kinds := [], alts := [], laidByText := true, laidKinds := [.data, .pinned], laidTests := true, laidLooks := .later }
def ChainRawCardSaid : Prop := Claim7.holds Tryz.pinned (.plain (OpenSpec.ofChange chainRawSpec)) chainRawCard

/-- THE TIED CARD OF 'pentimentolaw14.ChainDeep'. -/
def chainDeepCard : Claim7 := { stood := { row := chainDeepRow, standIns := [], harness := (true, "0f1e9ac677c74d64b8234db5925ebcade0fb1c103bb3cc055f217e3c9b7d751a"), looks := false }, kinds := [], alts := [], laidByText := true, laidKinds := [.data, .pinned], laidTests := true, laidLooks := .later }
def ChainDeepCardSaid : Prop := Claim7.holds Tryz.pinned (.plain (OpenSpec.ofChange chainDeepSpec)) chainDeepCard

/-- THE TIED CARD OF 'pentimentolaw14.ChainSteps'. -/
def chainStepsCard : Claim7 := { stood := { row := chainStepsRow, standIns := [], harness := (true, "0f1e9ac677c74d64b8234db5925ebcade0fb1c103bb3cc055f217e3c9b7d751a"), looks := false }, kinds := [], alts := [], laidByText := true, laidKinds := [.data, .pinned], laidTests := true, laidLooks := .later }
def ChainStepsCardSaid : Prop := Claim7.holds Tryz.pinned (.plain (OpenSpec.ofChange chainStepsSpec)) chainStepsCard

/-- THE TIED CARD OF 'pentimentolaw14.ChainTells'. -/
def chainTellsCard : Claim7 := { stood := { row := chainTellsRow, standIns := [], harness := (true, "0f1e9ac677c74d64b8234db5925ebcade0fb1c103bb3cc055f217e3c9b7d751a"), looks := false }, kinds := [], alts := [], laidByText := true, laidKinds := [.data, .pinned], laidTests := true, laidLooks := .later }
def ChainTellsCardSaid : Prop := Claim7.holds Tryz.pinned (.plain (OpenSpec.ofChange chainTellsSpec)) chainTellsCard

/-- THE TIED CARD OF 'pentimentolaw12.LayerMakes'. -/
def layerMakesCard : Claim7 := { stood := { row := layerMakesRow, standIns := [], harness := (true, "0f1e9ac677c74d64b8234db5925ebcade0fb1c103bb3cc055f217e3c9b7d751a"), looks := false }, kinds := [], alts := [], laidByText := true, laidKinds := [.data, .pinned], laidTests := true, laidLooks := .later }
def LayerMakesCardSaid : Prop := Claim7.holds Tryz.pinned (.plain (OpenSpec.ofChange layerMakesSpec)) layerMakesCard

/-- THE TIED CARD OF 'pentimentolaw12.LayerBack'. -/
def layerBackCard : Claim7 := { stood := { row := layerBackRow, standIns := [], harness := (true, "0f1e9ac677c74d64b8234db5925ebcade0fb1c103bb3cc055f217e3c9b7d751a"), looks := false }, kinds := [], alts := [], laidByText := true, laidKinds := [.data, .pinned], laidTests := true, laidLooks := .later }
def LayerBackCardSaid : Prop := Claim7.holds Tryz.pinned (.plain (OpenSpec.ofChange layerBackSpec)) layerBackCard

/-- THE TIED CARD OF 'pentimentolaw12.LayerShows'. -/
def layerShowsCard : Claim7 := { stood := { row := layerShowsRow, standIns := [], harness := (true, "0f1e9ac677c74d64b8234db5925ebcade0fb1c103bb3cc055f217e3c9b7d751a"), looks := false }, kinds := [], alts := [], laidByText := true, laidKinds := [.data, .pinned], laidTests := true, laidLooks := .later }
def LayerShowsCardSaid : Prop := Claim7.holds Tryz.pinned (.plain (OpenSpec.ofChange layerShowsSpec)) layerShowsCard

/-- THE TIED CARD OF 'pentimentolaw12.LayerJoins'. -/
def layerJoinsCard : Claim7 := { stood := { row := layerJoinsRow, standIns := [], harness := (true, "0f1e9ac677c74d64b8234db5925ebcade0fb1c103bb3cc055f217e3c9b7d751a"), looks := false }, kinds := [], alts := [], laidByText := true, laidKinds := [.data, .pinned], laidTests := true, laidLooks := .later }
def LayerJoinsCardSaid : Prop := Claim7.holds Tryz.pinned (.plain (OpenSpec.ofChange layerJoinsSpec)) layerJoinsCard

/-- THE TIED CARD OF 'pentimentolaw11.TreeKnown'. -/
def treeKnownCard : Claim7 := { stood := { row := treeKnownRow, standIns := [], harness := (true, "0f1e9ac677c74d64b8234db5925ebcade0fb1c103bb3cc055f217e3c9b7d751a"), looks := false }, kinds := [], alts := [], laidByText := true, laidKinds := [.data, .pinned], laidTests := true, laidLooks := .later }
def TreeKnownCardSaid : Prop := Claim7.holds Tryz.pinned (.plain (OpenSpec.ofChange treeKnownSpec)) treeKnownCard

/-- THE TIED CARD OF 'pentimentolaw12.LayerOvers'. -/
def layerOversCard : Claim7 := { stood := { row := layerOversRow, standIns := [], harness := (true, "0f1e9ac677c74d64b8234db5925ebcade0fb1c103bb3cc055f217e3c9b7d751a"), looks := false }, kinds := [], alts := [], laidByText := true, laidKinds := [.data, .pinned], laidTests := true, laidLooks := .later }
def LayerOversCardSaid : Prop := Claim7.holds Tryz.pinned (.plain (OpenSpec.ofChange layerOversSpec)) layerOversCard

/-- THE SECOND FORM's CARD OF 'pentimentolaw14.ChainRaw'. -/
def chainRawUptoCard : Claim7 := { stood := { row := chainRawUptoRow, standIns := [], harness := (true, "0f1e9ac677c74d64b8234db5925ebcade0fb1c103bb3cc055f217e3c9b7d751a"), looks := false }, kinds := [], alts := [], laidByText := true, laidKinds := [.data, .pinned], laidTests := true, laidLooks := .later }
def ChainRawUptoCardSaid : Prop := Claim7.holds Tryz.pinned (.plain (OpenSpec.upto chainRawSpec)) chainRawUptoCard

/-- THE SECOND FORM's CARD OF 'pentimentolaw14.ChainDeep'. -/
def chainDeepUptoCard : Claim7 := { stood := { row := chainDeepUptoRow, standIns := [], harness := (true, "0f1e9ac677c74d64b8234db5925ebcade0fb1c103bb3cc055f217e3c9b7d751a"), looks := false }, kinds := [], alts := [], laidByText := true, laidKinds := [.data, .pinned], laidTests := true, laidLooks := .later }
def ChainDeepUptoCardSaid : Prop := Claim7.holds Tryz.pinned (.plain (OpenSpec.upto chainDeepSpec)) chainDeepUptoCard

/-- THE SECOND FORM's CARD OF 'pentimentolaw14.ChainSteps'. -/
def chainStepsUptoCard : Claim7 := { stood := { row := chainStepsUptoRow, standIns := [], harness := (true, "0f1e9ac677c74d64b8234db5925ebcade0fb1c103bb3cc055f217e3c9b7d751a"), looks := false }, kinds := [], alts := [], laidByText := true, laidKinds := [.data, .pinned], laidTests := true, laidLooks := .later }
def ChainStepsUptoCardSaid : Prop := Claim7.holds Tryz.pinned (.plain (OpenSpec.upto chainStepsSpec)) chainStepsUptoCard

/-- THE SECOND FORM's CARD OF 'pentimentolaw14.ChainTells'. -/
def chainTellsUptoCard : Claim7 := { stood := { row := chainTellsUptoRow, standIns := [], harness := (true, "0f1e9ac677c74d64b8234db5925ebcade0fb1c103bb3cc055f217e3c9b7d751a"), looks := false }, kinds := [], alts := [], laidByText := true, laidKinds := [.data, .pinned], laidTests := true, laidLooks := .later }
def ChainTellsUptoCardSaid : Prop := Claim7.holds Tryz.pinned (.plain (OpenSpec.upto chainTellsSpec)) chainTellsUptoCard

/-- THE SECOND FORM's CARD OF 'pentimentolaw12.LayerMakes'. -/
def layerMakesUptoCard : Claim7 := { stood := { row := layerMakesUptoRow, standIns := [], harness := (true, "0f1e9ac677c74d64b8234db5925ebcade0fb1c103bb3cc055f217e3c9b7d751a"), looks := false }, kinds := [], alts := [], laidByText := true, laidKinds := [.data, .pinned], laidTests := true, laidLooks := .later }
def LayerMakesUptoCardSaid : Prop := Claim7.holds Tryz.pinned (.plain (OpenSpec.upto layerMakesSpec)) layerMakesUptoCard

/-- THE SECOND FORM's CARD OF 'pentimentolaw12.LayerBack'. -/
def layerBackUptoCard : Claim7 := { stood := { row := layerBackUptoRow, standIns := [], harness := (true, "0f1e9ac677c74d64b8234db5925ebcade0fb1c103bb3cc055f217e3c9b7d751a"), looks := false }, kinds := [], alts := [], laidByText := true, laidKinds := [.data, .pinned], laidTests := true, laidLooks := .later }
def LayerBackUptoCardSaid : Prop := Claim7.holds Tryz.pinned (.plain (OpenSpec.upto layerBackSpec)) layerBackUptoCard

/-- THE SECOND FORM's CARD OF 'pentimentolaw12.LayerShows'. -/
def layerShowsUptoCard : Claim7 := { stood := { row := layerShowsUptoRow, standIns := [], harness := (true, "0f1e9ac677c74d64b8234db5925ebcade0fb1c103bb3cc055f217e3c9b7d751a"), looks := false }, kinds := [], alts := [], laidByText := true, laidKinds := [.data, .pinned], laidTests := true, laidLooks := .later }
def LayerShowsUptoCardSaid : Prop := Claim7.holds Tryz.pinned (.plain (OpenSpec.upto layerShowsSpec)) layerShowsUptoCard

/-- THE SECOND FORM's CARD OF 'pentimentolaw12.LayerJoins'. -/
def layerJoinsUptoCard : Claim7 := { stood := { row := layerJoinsUptoRow, standIns := [], harness := (true, "0f1e9ac677c74d64b8234db5925ebcade0fb1c103bb3cc055f217e3c9b7d751a"), looks := false }, kinds := [], alts := [], laidByText := true, laidKinds := [.data, .pinned], laidTests := true, laidLooks := .later }
def LayerJoinsUptoCardSaid : Prop := Claim7.holds Tryz.pinned (.plain (OpenSpec.upto layerJoinsSpec)) layerJoinsUptoCard

/-- THE SECOND FORM's CARD OF 'pentimentolaw11.TreeKnown'. -/
def treeKnownUptoCard : Claim7 := { stood := { row := treeKnownUptoRow, standIns := [], harness := (true, "0f1e9ac677c74d64b8234db5925ebcade0fb1c103bb3cc055f217e3c9b7d751a"), looks := false }, kinds := [], alts := [], laidByText := true, laidKinds := [.data, .pinned], laidTests := true, laidLooks := .later }
def TreeKnownUptoCardSaid : Prop := Claim7.holds Tryz.pinned (.plain (OpenSpec.upto treeKnownSpec)) treeKnownUptoCard

/-- THE SECOND FORM's CARD OF 'pentimentolaw12.LayerOvers'. -/
def layerOversUptoCard : Claim7 := { stood := { row := layerOversUptoRow, standIns := [], harness := (true, "0f1e9ac677c74d64b8234db5925ebcade0fb1c103bb3cc055f217e3c9b7d751a"), looks := false }, kinds := [], alts := [], laidByText := true, laidKinds := [.data, .pinned], laidTests := true, laidLooks := .later }
def LayerOversUptoCardSaid : Prop := Claim7.holds Tryz.pinned (.plain (OpenSpec.upto layerOversSpec)) layerOversUptoCard
end Rows
end Go.Proofs.YtfiopamaiolfhaaGreatDoor
