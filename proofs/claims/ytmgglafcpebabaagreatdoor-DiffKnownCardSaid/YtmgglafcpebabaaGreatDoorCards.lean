/-
  DERIVED. GIVEN WITH THE SEED: THE CARDS: each row of YtmgglafcpebabaaGreatDoorRows.lean that lists a variable, with what it lists TIED to the program's text (the seventh form; the later family's looks); each row that meets fmt, with fmt's text TOLD by the authors' own Lean function (tested against real Go, not proved from fmt's source: count such statements apart). THE CARD IS WHAT COUNTS. Prove the row's statement (the work); the ties are given (YtmgglafcpebabaaGreatDoorTie.lean); close each card by the builder's one call (the guide's Derived/Test/ToyasCard.lean, 'card_holds'). Laid BY PROGRAM, IN A SANDBOX (cutbox-door.mjs). By AI agents, Wed Nov 11 2026. No macro, syntax, notation, axiom, sorry.
-/
import Derived.Test.YtmgglafcpebabaaGreatDoorRows
import GoSem.ClaimSeven
namespace Go.Proofs.YtmgglafcpebabaaGreatDoor
namespace Rows

/-- THE TIED CARD OF 'pentimentolaw11.TreeCodes'. -/
def treeCodesCard : Claim7 := { stood := { row := treeCodesRow, standIns := [], harness := (true, "9078e50b8989b8ded6a7fc6c231caf8f699ed2f8dec97755c3d458a781fbb216"), looks := false }, kinds := [], alts := [], laidByText := true, laidKinds := [.data, .pinned], laidTests := true, laidLooks := .later }
def TreeCodesCardSaid : Prop := Claim7.holds Tryz.pinned (.plain (OpenSpec.ofChange treeCodesSpec)) treeCodesCard

/-- THE TIED CARD OF 'pentimentolaw11.TreeBack'. -/
def treeBackCard : Claim7 := { stood := { row := treeBackRow, standIns := [], harness := (true, "9078e50b8989b8ded6a7fc6c231caf8f699ed2f8dec97755c3d458a781fbb216"), looks := false }, kinds := [], alts := [], laidByText := true, laidKinds := [.data, .pinned], laidTests := true, laidLooks := .later }
def TreeBackCardSaid : Prop := Claim7.holds Tryz.pinned (.plain (OpenSpec.ofChange treeBackSpec)) treeBackCard

/-- THE TIED CARD OF 'pentimentolaw17.DiffCodes'. -/
def diffCodesCard : Claim7 := { stood := { row := diffCodesRow, standIns := [], harness := (true, "9078e50b8989b8ded6a7fc6c231caf8f699ed2f8dec97755c3d458a781fbb216"), looks := false }, kinds := [], alts := [], laidByText := true, laidKinds := [.data, .pinned], laidTests := true, laidLooks := .later }
def DiffCodesCardSaid : Prop := Claim7.holds Tryz.pinned (.plain (OpenSpec.ofChange diffCodesSpec)) diffCodesCard

/-- THE TIED CARD OF 'pentimentolaw17.DiffBack'. -/
def diffBackCard : Claim7 := { stood := { row := diffBackRow, standIns := [], harness := (true, "9078e50b8989b8ded6a7fc6c231caf8f699ed2f8dec97755c3d458a781fbb216"), looks := false }, kinds := [], alts := [], laidByText := true, laidKinds := [.data, .pinned], laidTests := true, laidLooks := .later }
def DiffBackCardSaid : Prop := Claim7.holds Tryz.pinned (.plain (OpenSpec.ofChange diffBackSpec)) diffBackCard

/-- THE TIED CARD OF 'pentimentolaw17.DiffKnown'. -/
def diffKnownCard : Claim7 := { stood := { row := diffKnownRow, standIns := [], harness := (true, "9078e50b8989b8ded6a7fc6c231caf8f699ed2f8dec97755c3d458a781fbb216"), looks := false }, kinds := [], alts := [], laidByText := true, laidKinds := [.data, .pinned], laidTests := true, laidLooks := .later }
def DiffKnownCardSaid : Prop := Claim7.holds Tryz.pinned (.plain (OpenSpec.ofChange diffKnownSpec)) diffKnownCard

/-- THE SECOND FORM's CARD OF 'pentimentolaw11.TreeCodes'. -/
def treeCodesUptoCard : Claim7 := { stood := { row := treeCodesUptoRow, standIns := [], harness := (true, "9078e50b8989b8ded6a7fc6c231caf8f699ed2f8dec97755c3d458a781fbb216"), looks := false }, kinds := [], alts := [], laidByText := true, laidKinds := [.data, .pinned], laidTests := true, laidLooks := .later }
def TreeCodesUptoCardSaid : Prop := Claim7.holds Tryz.pinned (.plain (OpenSpec.upto treeCodesSpec)) treeCodesUptoCard

/-- THE SECOND FORM's CARD OF 'pentimentolaw11.TreeBack'. -/
def treeBackUptoCard : Claim7 := { stood := { row := treeBackUptoRow, standIns := [], harness := (true, "9078e50b8989b8ded6a7fc6c231caf8f699ed2f8dec97755c3d458a781fbb216"), looks := false }, kinds := [], alts := [], laidByText := true, laidKinds := [.data, .pinned], laidTests := true, laidLooks := .later }
def TreeBackUptoCardSaid : Prop := Claim7.holds Tryz.pinned (.plain (OpenSpec.upto treeBackSpec)) treeBackUptoCard

/-- THE SECOND FORM's CARD OF 'pentimentolaw17.DiffCodes'. -/
def diffCodesUptoCard : Claim7 := { stood := { row := diffCodesUptoRow, standIns := [], harness := (true, "9078e50b8989b8ded6a7fc6c231caf8f699ed2f8dec97755c3d458a781fbb216"), looks := false }, kinds := [], alts := [], laidByText := true, laidKinds := [.data, .pinned], laidTests := true, laidLooks := .later }
def DiffCodesUptoCardSaid : Prop := Claim7.holds Tryz.pinned (.plain (OpenSpec.upto diffCodesSpec)) diffCodesUptoCard

/-- THE SECOND FORM's CARD OF 'pentimentolaw17.DiffBack'. -/
def diffBackUptoCard : Claim7 := { stood := { row := diffBackUptoRow, standIns := [], harness := (true, "9078e50b8989b8ded6a7fc6c231caf8f699ed2f8dec97755c3d458a781fbb216"), looks := false }, kinds := [], alts := [], laidByText := true, laidKinds := [.data, .pinned], laidTests := true, laidLooks := .later }
def DiffBackUptoCardSaid : Prop := Claim7.holds Tryz.pinned (.plain (OpenSpec.upto diffBackSpec)) diffBackUptoCard

/-- THE SECOND FORM's CARD OF 'pentimentolaw17.DiffKnown'. -/
def diffKnownUptoCard : Claim7 := { stood := { row := diffKnownUptoRow, standIns := [], harness := (true, "9078e50b8989b8ded6a7fc6c231caf8f699ed2f8dec97755c3d458a781fbb216"), looks := false }, kinds := [], alts := [], laidByText := true, laidKinds := [.data, .pinned], laidTests := true, laidLooks := .later }
def DiffKnownUptoCardSaid : Prop := Claim7.holds Tryz.pinned (.plain (OpenSpec.upto diffKnownSpec)) diffKnownUptoCard
end Rows
end Go.Proofs.YtmgglafcpebabaaGreatDoor
