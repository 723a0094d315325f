/-
  DERIVED. GIVEN WITH THE SEED: THE CARDS: each row of YtomaddpcacoodaaGreatDoorRows.lean that lists a variable, with what it lists TIED to the program's text (the seventh form; the later family's looks); each row that meets fmt, with fmt's text TOLD by the authors' own Lean function (tested against real Go, not proved from fmt's source: count such statements apart). THE CARD IS WHAT COUNTS. Prove the row's statement (the work); the ties are given (YtomaddpcacoodaaGreatDoorTie.lean); close each card by the builder's one call (the guide's Derived/Test/ToyasCard.lean, 'card_holds'). Laid BY PROGRAM, IN A SANDBOX (cutbox-door.mjs). By AI agents, Wed Nov 11 2026. No macro, syntax, notation, axiom, sorry.
-/
import Derived.Test.YtomaddpcacoodaaGreatDoorRows
import GoSem.ClaimSeven
namespace Go.Proofs.YtomaddpcacoodaaGreatDoor
namespace Rows

/-- THE TIED CARD OF 'pentimentolaw14.ChainRaw'. -/
def chainRawCard : Claim7 := { stood := { row := chainRawRow, standIns := [], harness := (true, "c5ce2d46269f2b469079bc401cc7fe4e9dbf73cb2459fd60971ebc67095d8479"), looks := false }, kinds := [], alts := [], laidByText := true, laidKinds := [.data, .pinned], laidTests := true, laidLooks := .later }
def ChainRawCardSaid : Prop := Claim7.holds Tryz.pinned (.plain (OpenSpec.ofChange chainRawSpec)) chainRawCard

/-- THE TIED CARD OF 'pentimentolaw14.ChainDeep'. -/
def chainDeepCard : Claim7 := { stood := { row := chainDeepRow, standIns := [], harness := (true, "c5ce2d46269f2b469079bc401cc7fe4e9dbf73cb2459fd60971ebc67095d8479"), looks := false }, kinds := [], alts := [], laidByText := true, laidKinds := [.data, .pinned], laidTests := true, laidLooks := .later }
def ChainDeepCardSaid : Prop := Claim7.holds Tryz.pinned (.plain (OpenSpec.ofChange chainDeepSpec)) chainDeepCard

/-- THE TIED CARD OF 'pentimentolaw14.ChainSteps'. -/
def chainStepsCard : Claim7 := { stood := { row := chainStepsRow, standIns := [], harness := (true, "c5ce2d46269f2b469079bc401cc7fe4e9dbf73cb2459fd60971ebc67095d8479"), looks := false }, kinds := [], alts := [], laidByText := true, laidKinds := [.data, .pinned], laidTests := true, laidLooks := .later }
def ChainStepsCardSaid : Prop := Claim7.holds Tryz.pinned (.plain (OpenSpec.ofChange chainStepsSpec)) chainStepsCard

/-- THE TIED CARD OF 'pentimentolaw11.TreeNames'. -/
def treeNamesCard : Claim7 := { stood := { row := treeNamesRow, standIns := [], harness := (true, "c5ce2d46269f2b469079bc401cc7fe4e9dbf73cb2459fd60971ebc67095d8479"), looks := false }, kinds := [], alts := [], laidByText := true, laidKinds := [.data, .pinned], laidTests := true, laidLooks := .later }
def TreeNamesCardSaid : Prop := Claim7.holds Tryz.pinned (.plain (OpenSpec.ofChange treeNamesSpec)) treeNamesCard

/-- THE TIED CARD OF 'pentimentolaw11.TreeCodes'. -/
def treeCodesCard : Claim7 := { stood := { row := treeCodesRow, standIns := [], harness := (true, "c5ce2d46269f2b469079bc401cc7fe4e9dbf73cb2459fd60971ebc67095d8479"), looks := false }, kinds := [], alts := [], laidByText := true, laidKinds := [.data, .pinned], laidTests := true, laidLooks := .later }
def TreeCodesCardSaid : Prop := Claim7.holds Tryz.pinned (.plain (OpenSpec.ofChange treeCodesSpec)) treeCodesCard

/-- THE TIED CARD OF 'pentimentolaw19.PatchTells'. -/
def patchTellsCard : Claim7 := { stood := { row := patchTellsRow, standIns := [], harness := (true, "c5ce2d46269f2b469079bc401cc7fe4e9dbf73cb2459fd60971ebc67095d8479"), looks := false }, kinds := [], alts := [], laidByText := true, laidKinds := [.data, .pinned], laidTests := true, laidLooks := .later }
def PatchTellsCardSaid : Prop := Claim7.holds Tryz.pinned (.plain (OpenSpec.ofChange patchTellsSpec)) patchTellsCard

/-- THE TIED CARD OF 'pentimentolaw17.DiffTells'. -/
def diffTellsCard : Claim7 := { stood := { row := diffTellsRow, standIns := [], harness := (true, "c5ce2d46269f2b469079bc401cc7fe4e9dbf73cb2459fd60971ebc67095d8479"), looks := false }, kinds := [], alts := [], laidByText := true, laidKinds := [.data, .pinned], laidTests := true, laidLooks := .later }
def DiffTellsCardSaid : Prop := Claim7.holds Tryz.pinned (.plain (OpenSpec.ofChange diffTellsSpec)) diffTellsCard

/-- THE SECOND FORM's CARD OF 'pentimentolaw14.ChainRaw'. -/
def chainRawUptoCard : Claim7 := { stood := { row := chainRawUptoRow, standIns := [], harness := (true, "c5ce2d46269f2b469079bc401cc7fe4e9dbf73cb2459fd60971ebc67095d8479"), looks := false }, kinds := [], alts := [], laidByText := true, laidKinds := [.data, .pinned], laidTests := true, laidLooks := .later }
def ChainRawUptoCardSaid : Prop := Claim7.holds Tryz.pinned (.plain (OpenSpec.upto chainRawSpec)) chainRawUptoCard

/-- THE SECOND FORM's CARD OF 'pentimentolaw14.ChainDeep'. -/
def chainDeepUptoCard : Claim7 := { stood := { row := chainDeepUptoRow, standIns := [], harness := (true, "c5ce2d46269f2b469079bc401cc7fe4e9dbf73cb2459fd60971ebc67095d8479"), looks := false }, kinds := [], alts := [], laidByText := true, laidKinds := [.data, .pinned], laidTests := true, laidLooks := .later }
def ChainDeepUptoCardSaid : Prop := Claim7.holds Tryz.pinned (.plain (OpenSpec.upto chainDeepSpec)) chainDeepUptoCard

/-- THE SECOND FORM's CARD OF 'pentimentolaw14.ChainSteps'. -/
def chainStepsUptoCard : Claim7 := { stood := { row := chainStepsUptoRow, standIns := [], harness := (true, "c5ce2d46269f2b469079bc401cc7fe4e9dbf73cb2459fd60971ebc67095d8479"), looks := false }, kinds := [], alts := [], laidByText := true, laidKinds := [.data, .pinned], laidTests := true, laidLooks := .later }
def ChainStepsUptoCardSaid : Prop := Claim7.holds Tryz.pinned (.plain (OpenSpec.upto chainStepsSpec)) chainStepsUptoCard

/-- THE SECOND FORM's CARD OF 'pentimentolaw11.TreeNames'. -/
def treeNamesUptoCard : Claim7 := { stood := { row := treeNamesUptoRow, standIns := [], harness := (true, "c5ce2d46269f2b469079bc401cc7fe4e9dbf73cb2459fd60971ebc67095d8479"), looks := false }, kinds := [], alts := [], laidByText := true, laidKinds := [.data, .pinned], laidTests := true, laidLooks := .later }
def TreeNamesUptoCardSaid : Prop := Claim7.holds Tryz.pinned (.plain (OpenSpec.upto treeNamesSpec)) treeNamesUptoCard

/-- THE SECOND FORM's CARD OF 'pentimentolaw11.TreeCodes'. -/
def treeCodesUptoCard : Claim7 := { stood := { row := treeCodesUptoRow, standIns := [], harness := (true, "c5ce2d46269f2b469079bc401cc7fe4e9dbf73cb2459fd60971ebc67095d8479"), looks := false }, kinds := [], alts := [], laidByText := true, laidKinds := [.data, .pinned], laidTests := true, laidLooks := .later }
def TreeCodesUptoCardSaid : Prop := Claim7.holds Tryz.pinned (.plain (OpenSpec.upto treeCodesSpec)) treeCodesUptoCard

/-- THE SECOND FORM's CARD OF 'pentimentolaw19.PatchTells'. -/
def patchTellsUptoCard : Claim7 := { stood := { row := patchTellsUptoRow, standIns := [], harness := (true, "c5ce2d46269f2b469079bc401cc7fe4e9dbf73cb2459fd60971ebc67095d8479"), looks := false }, kinds := [], alts := [], laidByText := true, laidKinds := [.data, .pinned], laidTests := true, laidLooks := .later }
def PatchTellsUptoCardSaid : Prop := Claim7.holds Tryz.pinned (.plain (OpenSpec.upto patchTellsSpec)) patchTellsUptoCard

/-- THE SECOND FORM's CARD OF 'pentimentolaw17.DiffTells'. -/
def diffTellsUptoCard : Claim7 := { stood := { row := diffTellsUptoRow, standIns := [], harness := (true, "c5ce2d46269f2b469079bc401cc7fe4e9dbf73cb2459fd60971ebc67095d8479"), looks := false }, kinds := [], alts := [], laidByText := true, laidKinds := [.data, .pinned], laidTests := true, laidLooks := .later }
def DiffTellsUptoCardSaid : Prop := Claim7.holds Tryz.pinned (.plain (OpenSpec.upto diffTellsSpec)) diffTellsUptoCard
end Rows
end Go.Proofs.YtomaddpcacoodaaGreatDoor
