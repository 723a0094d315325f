/-
  DERIVED. GIVEN WITH THE SEED: THE CARDS: each row of YtjanmkknbijecaaGreatDoorRows.lean that lists a variable, with what it lists TIED to the program's text (the seventh form; the later family's looks); each row that meets fmt, with fmt's text TOLD by the authors' own Lean function (tested against real Go, not proved from fmt's source: count such statements apart). THE CARD IS WHAT COUNTS. Prove the row's statement (the work); the ties are given (YtjanmkknbijecaaGreatDoorTie.lean); close each card by the builder's one call (the guide's Derived/Test/ToyasCard.lean, 'card_holds'). Laid BY PROGRAM, IN A SANDBOX (cutbox-door.mjs). By AI agents, Wed Nov 11 2026. No macro, syntax, notation, axiom, sorry.
-/
import Derived.Test.YtjanmkknbijecaaGreatDoorRows
import GoSem.ClaimSeven
namespace Go.Proofs.YtjanmkknbijecaaGreatDoor
namespace Rows

/-- THE TIED CARD OF 'pentimentolaw19.PatchTells'. -/
def patchTellsCard : Claim7 := { stood := { row := patchTellsRow, standIns := [], harness := (true, "f637374b0c02c1c07006a8b55617f4492565ece31dde5af12b174bf84ce8d004"), looks := false }, kinds := [], alts := [], laidByText := true, laidKinds := [.data, .pinned], laidTests := true, laidLooks := .later }
def PatchTellsCardSaid : Prop := Claim7.holds Tryz.pinned (.plain (OpenSpec.ofChange patchTellsSpec)) patchTellsCard

/-- THE TIED CARD OF 'pentimentolaw19.PatchJoins'. -/
def patchJoinsCard : Claim7 := { stood := { row := patchJoinsRow, standIns := [], harness := (true, "f637374b0c02c1c07006a8b55617f4492565ece31dde5af12b174bf84ce8d004"), looks := false }, kinds := [], alts := [], laidByText := true, laidKinds := [.data, .pinned], laidTests := true, laidLooks := .later }
def PatchJoinsCardSaid : Prop := Claim7.holds Tryz.pinned (.plain (OpenSpec.ofChange patchJoinsSpec)) patchJoinsCard

/-- THE TIED CARD OF 'pentimentolaw19.PatchLeads'. -/
def patchLeadsCard : Claim7 := { stood := { row := patchLeadsRow, standIns := [], harness := (true, "f637374b0c02c1c07006a8b55617f4492565ece31dde5af12b174bf84ce8d004"), looks := false }, kinds := [], alts := [], laidByText := true, laidKinds := [.data, .pinned], laidTests := true, laidLooks := .later }
def PatchLeadsCardSaid : Prop := Claim7.holds Tryz.pinned (.plain (OpenSpec.ofChange patchLeadsSpec)) patchLeadsCard

/-- THE TIED CARD OF 'pentimentolaw20.MergeKnown'. -/
def mergeKnownCard : Claim7 := { stood := { row := mergeKnownRow, standIns := [], harness := (true, "f637374b0c02c1c07006a8b55617f4492565ece31dde5af12b174bf84ce8d004"), looks := false }, kinds := [], alts := [], laidByText := true, laidKinds := [.data, .pinned], laidTests := true, laidLooks := .later }
def MergeKnownCardSaid : Prop := Claim7.holds Tryz.pinned (.plain (OpenSpec.ofChange mergeKnownSpec)) mergeKnownCard

/-- THE TIED CARD OF 'pentimentolaw20.MergePoints'. -/
def mergePointsCard : Claim7 := { stood := { row := mergePointsRow, standIns := [], harness := (true, "f637374b0c02c1c07006a8b55617f4492565ece31dde5af12b174bf84ce8d004"), looks := false }, kinds := [], alts := [], laidByText := true, laidKinds := [.data, .pinned], laidTests := true, laidLooks := .later }
def MergePointsCardSaid : Prop := Claim7.holds Tryz.pinned (.plain (OpenSpec.ofChange mergePointsSpec)) mergePointsCard

/-- THE TIED CARD OF 'pentimentolaw20.MergeApart'. -/
def mergeApartCard : Claim7 := { stood := { row := mergeApartRow, standIns := [], harness := (true, "f637374b0c02c1c07006a8b55617f4492565ece31dde5af12b174bf84ce8d004"), looks := false }, kinds := [], alts := [], laidByText := true, laidKinds := [.data, .pinned], laidTests := true, laidLooks := .later }
def MergeApartCardSaid : Prop := Claim7.holds Tryz.pinned (.plain (OpenSpec.ofChange mergeApartSpec)) mergeApartCard

/-- THE TIED CARD OF 'pentimentolaw20.MergeKinds'. -/
def mergeKindsCard : Claim7 := { stood := { row := mergeKindsRow, standIns := [], harness := (true, "f637374b0c02c1c07006a8b55617f4492565ece31dde5af12b174bf84ce8d004"), looks := false }, kinds := [], alts := [], laidByText := true, laidKinds := [.data, .pinned], laidTests := true, laidLooks := .later }
def MergeKindsCardSaid : Prop := Claim7.holds Tryz.pinned (.plain (OpenSpec.ofChange mergeKindsSpec)) mergeKindsCard

/-- THE TIED CARD OF 'pentimentolaw20.MergeTells'. -/
def mergeTellsCard : Claim7 := { stood := { row := mergeTellsRow, standIns := [], harness := (true, "f637374b0c02c1c07006a8b55617f4492565ece31dde5af12b174bf84ce8d004"), looks := false }, kinds := [], alts := [], laidByText := true, laidKinds := [.data, .pinned], laidTests := true, laidLooks := .later }
def MergeTellsCardSaid : Prop := Claim7.holds Tryz.pinned (.plain (OpenSpec.ofChange mergeTellsSpec)) mergeTellsCard

/-- THE TIED CARD OF 'pentimentolaw20.MergeMirrors'. -/
def mergeMirrorsCard : Claim7 := { stood := { row := mergeMirrorsRow, standIns := [], harness := (true, "f637374b0c02c1c07006a8b55617f4492565ece31dde5af12b174bf84ce8d004"), looks := false }, kinds := [], alts := [], laidByText := true, laidKinds := [.data, .pinned], laidTests := true, laidLooks := .later }
def MergeMirrorsCardSaid : Prop := Claim7.holds Tryz.pinned (.plain (OpenSpec.ofChange mergeMirrorsSpec)) mergeMirrorsCard

/-- THE SECOND FORM's CARD OF 'pentimentolaw19.PatchTells'. -/
def patchTellsUptoCard : Claim7 := { stood := { row := patchTellsUptoRow, standIns := [], harness := (true, "f637374b0c02c1c07006a8b55617f4492565ece31dde5af12b174bf84ce8d004"), looks := false }, kinds := [], alts := [], laidByText := true, laidKinds := [.data, .pinned], laidTests := true, laidLooks := .later }
def PatchTellsUptoCardSaid : Prop := Claim7.holds Tryz.pinned (.plain (OpenSpec.upto patchTellsSpec)) patchTellsUptoCard

/-- THE SECOND FORM's CARD OF 'pentimentolaw19.PatchJoins'. -/
def patchJoinsUptoCard : Claim7 := { stood := { row := patchJoinsUptoRow, standIns := [], harness := (true, "f637374b0c02c1c07006a8b55617f4492565ece31dde5af12b174bf84ce8d004"), looks := false }, kinds := [], alts := [], laidByText := true, laidKinds := [.data, .pinned], laidTests := true, laidLooks := .later }
def PatchJoinsUptoCardSaid : Prop := Claim7.holds Tryz.pinned (.plain (OpenSpec.upto patchJoinsSpec)) patchJoinsUptoCard

/-- THE SECOND FORM's CARD OF 'pentimentolaw19.PatchLeads'. -/
def patchLeadsUptoCard : Claim7 := { stood := { row := patchLeadsUptoRow, standIns := [], harness := (true, "f637374b0c02c1c07006a8b55617f4492565ece31dde5af12b174bf84ce8d004"), looks := false }, kinds := [], alts := [], laidByText := true, laidKinds := [.data, .pinned], laidTests := true, laidLooks := .later }
def PatchLeadsUptoCardSaid : Prop := Claim7.holds Tryz.pinned (.plain (OpenSpec.upto patchLeadsSpec)) patchLeadsUptoCard

/-- THE SECOND FORM's CARD OF 'pentimentolaw20.MergeKnown'. -/
def mergeKnownUptoCard : Claim7 := { stood := { row := mergeKnownUptoRow, standIns := [], harness := (true, "f637374b0c02c1c07006a8b55617f4492565ece31dde5af12b174bf84ce8d004"), looks := false }, kinds := [], alts := [], laidByText := true, laidKinds := [.data, .pinned], laidTests := true, laidLooks := .later }
def MergeKnownUptoCardSaid : Prop := Claim7.holds Tryz.pinned (.plain (OpenSpec.upto mergeKnownSpec)) mergeKnownUptoCard

/-- THE SECOND FORM's CARD OF 'pentimentolaw20.MergePoints'. -/
def mergePointsUptoCard : Claim7 := { stood := { row := mergePointsUptoRow, standIns := [], harness := (true, "f637374b0c02c1c07006a8b55617f4492565ece31dde5af12b174bf84ce8d004"), looks := false }, kinds := [], alts := [], laidByText := true, laidKinds := [.data, .pinned], laidTests := true, laidLooks := .later }
def MergePointsUptoCardSaid : Prop := Claim7.holds Tryz.pinned (.plain (OpenSpec.upto mergePointsSpec)) mergePointsUptoCard

/-- THE SECOND FORM's CARD OF 'pentimentolaw20.MergeApart'. -/
def mergeApartUptoCard : Claim7 := { stood := { row := mergeApartUptoRow, standIns := [], harness := (true, "f637374b0c02c1c07006a8b55617f4492565ece31dde5af12b174bf84ce8d004"), looks := false }, kinds := [], alts := [], laidByText := true, laidKinds := [.data, .pinned], laidTests := true, laidLooks := .later }
def MergeApartUptoCardSaid : Prop := Claim7.holds Tryz.pinned (.plain (OpenSpec.upto mergeApartSpec)) mergeApartUptoCard

/-- THE SECOND FORM's CARD OF 'pentimentolaw20.MergeKinds'. -/
def mergeKindsUptoCard : Claim7 := { stood := { row := mergeKindsUptoRow, standIns := [], harness := (true, "f637374b0c02c1c07006a8b55617f4492565ece31dde5af12b174bf84ce8d004"), looks := false }, kinds := [], alts := [], laidByText := true, laidKinds := [.data, .pinned], laidTests := true, laidLooks := .later }
def MergeKindsUptoCardSaid : Prop := Claim7.holds Tryz.pinned (.plain (OpenSpec.upto mergeKindsSpec)) mergeKindsUptoCard

/-- THE SECOND FORM's CARD OF 'pentimentolaw20.MergeTells'. -/
def mergeTellsUptoCard : Claim7 := { stood := { row := mergeTellsUptoRow, standIns := [], harness := (true, "f637374b0c02c1c07006a8b55617f4492565ece31dde5af12b174bf84ce8d004"), looks := false }, kinds := [], alts := [], laidByText := true, laidKinds := [.data, .pinned], laidTests := true, laidLooks := .later }
def MergeTellsUptoCardSaid : Prop := Claim7.holds Tryz.pinned (.plain (OpenSpec.upto mergeTellsSpec)) mergeTellsUptoCard

/-- THE SECOND FORM's CARD OF 'pentimentolaw20.MergeMirrors'. -/
def mergeMirrorsUptoCard : Claim7 := { stood := { row := mergeMirrorsUptoRow, standIns := [], harness := (true, "f637374b0c02c1c07006a8b55617f4492565ece31dde5af12b174bf84ce8d004"), looks := false }, kinds := [], alts := [], laidByText := true, laidKinds := [.data, .pinned], laidTests := true, laidLooks := .later }
def MergeMirrorsUptoCardSaid : Prop := Claim7.holds Tryz.pinned (.plain (OpenSpec.upto mergeMirrorsSpec)) mergeMirrorsUptoCard
end Rows
end Go.Proofs.YtjanmkknbijecaaGreatDoor
