/-
  No cell of these rows narrows 'for every input' (looked for: loops, veiled, ifaces, maps, wideKeys, modest, calm, conditions, laid).
  DERIVED. THE GIVEN ROWS OF THIS SEAT. 4 by the template 'for every input the law returns true; each argument reads behind the call as it read before'; 0 by the template 'total and deterministic' (their statements: YtomaddpcacoodaaTotals.lean).
  GIVEN WITH THE SEED: the statements are not yours to turn. If you find one false, say at which input.
  Laid BY PROGRAM, IN A SANDBOX (cutbox-rows.mjs): the forced cells as the released guide's own fill.sh prints them over the translation 8d764310b5286d58… (all of the seat's roots in one cut). By AI agents, Wed Nov 11 2026. No macro, syntax, notation, axiom, sorry.
-/
import Derived.Test.YtomaddpcacoodaaChecked
import GoSem.Claim
import GoSem.ClaimJoined
import GoSem.ClaimMapViews
import Derived.JoinedTies
import Derived.KernelRfl
namespace Go.Proofs.Ytomaddpcacoodaa
/- THE CELL 'sum', in the pinned program and in every row, IS THE sha256 OF THE DUMP (.gsa) THAT YtomaddpcacoodaaProg.lean LOADS. Nothing in Lean hashes anything: it is a label: what it is worth is what the hold of that sum in a sandbox is worth. -/
noncomputable def Try.pinned : Pinned := { name := "ytomaddpcacoodaa", sum := "8d764310b5286d5869eae8389bb0c9f9551b881916b8b81dc7023deb6791cbfa", checked := Try.checked }
namespace Rows
def none {H : Type} : Left H := { results := [], args := [] }

/-- 'pentimentolaw20.MergeNodes': WHATEVER THE INPUT: true; the input reads as it did. -/
def mergeNodesSpec : ChangeSpec := { name := "mergeNodes", fn := fun _ => fun
  | [d1, d2, d3, d4, d5, d6, d7, d8, d9] => { results := [.lit (.bool true)], args := [d1, d2, d3, d4, d5, d6, d7, d8, d9] }
  | _ => none }
def mergeNodesRow : OpenClaim := { program := "ytomaddpcacoodaa", sum := "8d764310b5286d5869eae8389bb0c9f9551b881916b8b81dc7023deb6791cbfa", func := "pentimento/pentimentolaw20.MergeNodes", spec := "mergeNodes", inPlace := ["math.Float64bits", "math.Float64frombits"], apart := false }
def MergeNodesSaid : Prop := mergeNodesRow.holds Try.pinned (OpenSpec.ofChange mergeNodesSpec)

/-- ITS FALSE NEIGHBOUR: 'it returns false'. Refute it at one input. -/
def mergeNodesWrong : ChangeSpec := { name := "mergeNodes", fn := fun _ => fun
  | [d1, d2, d3, d4, d5, d6, d7, d8, d9] => { results := [.lit (.bool false)], args := [d1, d2, d3, d4, d5, d6, d7, d8, d9] }
  | _ => none }
def MergeNodesWrongFalsely : Prop := mergeNodesRow.holds Try.pinned (OpenSpec.ofChange mergeNodesWrong)

/-- 'pentimentolaw20.MergeTimes': WHATEVER THE INPUT: true; the input reads as it did. -/
def mergeTimesSpec : ChangeSpec := { name := "mergeTimes", fn := fun _ => fun
  | [d1, d2, d3, d4, d5, d6, d7] => { results := [.lit (.bool true)], args := [d1, d2, d3, d4, d5, d6, d7] }
  | _ => none }
def mergeTimesRow : OpenClaim := { program := "ytomaddpcacoodaa", sum := "8d764310b5286d5869eae8389bb0c9f9551b881916b8b81dc7023deb6791cbfa", func := "pentimento/pentimentolaw20.MergeTimes", spec := "mergeTimes", inPlace := ["math.Float64bits", "math.Float64frombits"], apart := false }
def MergeTimesSaid : Prop := mergeTimesRow.holds Try.pinned (OpenSpec.ofChange mergeTimesSpec)

/-- ITS FALSE NEIGHBOUR: 'it returns false'. Refute it at one input. -/
def mergeTimesWrong : ChangeSpec := { name := "mergeTimes", fn := fun _ => fun
  | [d1, d2, d3, d4, d5, d6, d7] => { results := [.lit (.bool false)], args := [d1, d2, d3, d4, d5, d6, d7] }
  | _ => none }
def MergeTimesWrongFalsely : Prop := mergeTimesRow.holds Try.pinned (OpenSpec.ofChange mergeTimesWrong)

/-- 'pentimentolaw17.DiffKinds': WHATEVER THE INPUT: true; the input reads as it did. -/
def diffKindsSpec : ChangeSpec := { name := "diffKinds", fn := fun _ => fun
  | [d1, d2] => { results := [.lit (.bool true)], args := [d1, d2] }
  | _ => none }
def diffKindsRow : OpenClaim := { program := "ytomaddpcacoodaa", sum := "8d764310b5286d5869eae8389bb0c9f9551b881916b8b81dc7023deb6791cbfa", func := "pentimento/pentimentolaw17.DiffKinds", spec := "diffKinds", inPlace := ["math.Float64bits", "math.Float64frombits", "internal/bytealg.abigen_runtime_cmpstring"], unfollowed := true, recurses := true, apart := false }
def DiffKindsSaid : Prop := diffKindsRow.holds Try.pinned (OpenSpec.ofChange diffKindsSpec)

/-- ITS FALSE NEIGHBOUR: 'it returns false'. Refute it at one input. -/
def diffKindsWrong : ChangeSpec := { name := "diffKinds", fn := fun _ => fun
  | [d1, d2] => { results := [.lit (.bool false)], args := [d1, d2] }
  | _ => none }
def DiffKindsWrongFalsely : Prop := diffKindsRow.holds Try.pinned (OpenSpec.ofChange diffKindsWrong)

/-- 'pentimentolaw17.DiffExact': WHATEVER THE INPUT: true; the input reads as it did. -/
def diffExactSpec : ChangeSpec := { name := "diffExact", fn := fun _ => fun
  | [d1, d2] => { results := [.lit (.bool true)], args := [d1, d2] }
  | _ => none }
def diffExactRow : OpenClaim := { program := "ytomaddpcacoodaa", sum := "8d764310b5286d5869eae8389bb0c9f9551b881916b8b81dc7023deb6791cbfa", func := "pentimento/pentimentolaw17.DiffExact", spec := "diffExact", inPlace := ["math.Float64bits", "math.Float64frombits", "internal/bytealg.abigen_runtime_cmpstring"], unfollowed := true, recurses := true, apart := false }
def DiffExactSaid : Prop := diffExactRow.holds Try.pinned (OpenSpec.ofChange diffExactSpec)

/-- ITS FALSE NEIGHBOUR: 'it returns false'. Refute it at one input. -/
def diffExactWrong : ChangeSpec := { name := "diffExact", fn := fun _ => fun
  | [d1, d2] => { results := [.lit (.bool false)], args := [d1, d2] }
  | _ => none }
def DiffExactWrongFalsely : Prop := diffExactRow.holds Try.pinned (OpenSpec.ofChange diffExactWrong)

/- THE SECOND FORM. 'bulk': how many values and letters a reading holds, each counted each time it is reached (what is shared counts as often as it is met; a slice's spare places count too). A statement '..UptoSaid' is the law's where the arguments, and the package variables that the reading takes, are together of bulk at most 1048576: NARROWER than '..Said'. Prove '..Said' where nothing that the law and all that it calls make is longer than what came in: it says more and counts as full. Else prove '..UptoSaid'. A law counts once. -/
mutual
def uptoBulk {H : Type} : DataW H → Nat
  | .lit (.string bytes) => bytes.length + 1
  | .lit _ => 1
  | .nil => 1
  | .ptr d => uptoBulk d + 1
  | .slice elems spare => uptoBulkAll elems + uptoBulkAll spare + 1
  | .agg parts => uptoBulkAll parts + 1
  | .iface _ d => uptoBulk d + 1
  | .map entries => uptoBulkEntries entries + 1
  | .held _ => 1
def uptoBulkAll {H : Type} : List (DataW H) → Nat
  | [] => 0
  | d :: r => uptoBulk d + uptoBulkAll r
def uptoBulkEntries {H : Type} : List (Lit × DataW H) → Nat
  | [] => 0
  | x :: r => uptoBulkEntry x + uptoBulkEntries r
def uptoBulkEntry {H : Type} : Lit × DataW H → Nat
  | (.string bytes, d) => bytes.length + uptoBulk d + 1
  | (_, d) => uptoBulk d + 1
 end
def uptoSmall : (H : Type) → List (DataW H) → Bool := fun _ ds => decide (uptoBulkAll ds ≤ 1048576)
def OpenSpec.upto (s : _root_.Go.ChangeSpec) : _root_.Go.OpenSpec := { _root_.Go.OpenSpec.ofChange s with cond := some uptoSmall }

/-- 'pentimentolaw20.MergeNodes', WHERE WHAT IT READS IS OF BULK AT MOST 1048576: true; the input reads as it did. -/
def mergeNodesUptoRow : OpenClaim := { program := "ytomaddpcacoodaa", sum := "8d764310b5286d5869eae8389bb0c9f9551b881916b8b81dc7023deb6791cbfa", func := "pentimento/pentimentolaw20.MergeNodes", spec := "mergeNodes", inPlace := ["math.Float64bits", "math.Float64frombits"], apart := false, narrowed := true }
def MergeNodesUptoSaid : Prop := mergeNodesUptoRow.holds Try.pinned (OpenSpec.upto mergeNodesSpec)

/-- 'pentimentolaw20.MergeTimes', WHERE WHAT IT READS IS OF BULK AT MOST 1048576: true; the input reads as it did. -/
def mergeTimesUptoRow : OpenClaim := { program := "ytomaddpcacoodaa", sum := "8d764310b5286d5869eae8389bb0c9f9551b881916b8b81dc7023deb6791cbfa", func := "pentimento/pentimentolaw20.MergeTimes", spec := "mergeTimes", inPlace := ["math.Float64bits", "math.Float64frombits"], apart := false, narrowed := true }
def MergeTimesUptoSaid : Prop := mergeTimesUptoRow.holds Try.pinned (OpenSpec.upto mergeTimesSpec)

/-- 'pentimentolaw17.DiffKinds', WHERE WHAT IT READS IS OF BULK AT MOST 1048576: true; the input reads as it did. -/
def diffKindsUptoRow : OpenClaim := { program := "ytomaddpcacoodaa", sum := "8d764310b5286d5869eae8389bb0c9f9551b881916b8b81dc7023deb6791cbfa", func := "pentimento/pentimentolaw17.DiffKinds", spec := "diffKinds", inPlace := ["math.Float64bits", "math.Float64frombits", "internal/bytealg.abigen_runtime_cmpstring"], unfollowed := true, recurses := true, apart := false, narrowed := true }
def DiffKindsUptoSaid : Prop := diffKindsUptoRow.holds Try.pinned (OpenSpec.upto diffKindsSpec)

/-- 'pentimentolaw17.DiffExact', WHERE WHAT IT READS IS OF BULK AT MOST 1048576: true; the input reads as it did. -/
def diffExactUptoRow : OpenClaim := { program := "ytomaddpcacoodaa", sum := "8d764310b5286d5869eae8389bb0c9f9551b881916b8b81dc7023deb6791cbfa", func := "pentimento/pentimentolaw17.DiffExact", spec := "diffExact", inPlace := ["math.Float64bits", "math.Float64frombits", "internal/bytealg.abigen_runtime_cmpstring"], unfollowed := true, recurses := true, apart := false, narrowed := true }
def DiffExactUptoSaid : Prop := diffExactUptoRow.holds Try.pinned (OpenSpec.upto diffExactSpec)

end Rows
end Go.Proofs.Ytomaddpcacoodaa
