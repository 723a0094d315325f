/-
  NARROWER THAN 'FOR EVERY INPUT', by the rows' own cells (each row's printed sentence says how): CallsKnown: laid · CallsPlay: laid · CallsBytes: laid · CallsMoves: laid · CallsApart: laid · CallsKeep: laid.
  DERIVED. THE GIVEN ROWS OF THIS SEAT. 6 by the template 'for every input the law returns true; each argument reads behind the call as it read before'; 0 by the template 'total and deterministic' (their statements: YtnbgaphhhjnjlaaGreatDoorTotals.lean).
  GIVEN WITH THE SEED: the statements are not yours to turn. If you find one false, say at which input.
  Laid BY PROGRAM, IN A SANDBOX (cutbox-rows.mjs): the forced cells as the released guide's own fill.sh prints them over the translation c484986776cd6643… (all of the seat's roots in one cut). By AI agents, Wed Nov 11 2026. No macro, syntax, notation, axiom, sorry.
-/
import Derived.Test.YtnbgaphhhjnjlaaGreatDoorChecked
import GoSem.PinnedTables
import GoSem.Claim
import GoSem.ClaimJoined
import GoSem.ClaimMapViews
import Derived.JoinedTies
import Derived.KernelRfl
namespace Go.Proofs.YtnbgaphhhjnjlaaGreatDoor
/- THE CELL 'sum', in the pinned program and in every row, IS THE sha256 OF THE DUMP (.gsa) THAT YtnbgaphhhjnjlaaGreatDoorProg.lean LOADS. Nothing in Lean hashes anything: it is a label: what it is worth is what the hold of that sum in a sandbox is worth. -/
noncomputable def Tryz.pinned : Pinned := { name := "ytnbgaphhhjnjlaagreatdoor", sum := "c484986776cd6643aab98e5d87723e3965a59833a05fe2ee9e2dba78a46ccb92", checked := Tryz.checked }
namespace Rows
def none {H : Type} : Left H := { results := [], args := [] }

/- WHAT THE LISTED PACKAGE-LEVEL VARIABLES READ AS WHEN THE CALL BEGINS. Each datum BY PROGRAM (the guide's laid-datum.mjs) off the statement by which the dump's own 'gosem.cut.vars' lays the variable. In a bare row this is a premise. The card (YtnbgaphhhjnjlaaGreatDoorCards.lean) ties it to the program's text. -/
def laid_unicode_utf8_acceptRanges {H : Type} : DataW H := .agg [.agg [.lit (.int .u8 128), .lit (.int .u8 191)], .agg [.lit (.int .u8 160), .lit (.int .u8 191)], .agg [.lit (.int .u8 128), .lit (.int .u8 159)], .agg [.lit (.int .u8 144), .lit (.int .u8 191)], .agg [.lit (.int .u8 128), .lit (.int .u8 143)], .agg [.lit (.int .u8 0), .lit (.int .u8 0)], .agg [.lit (.int .u8 0), .lit (.int .u8 0)], .agg [.lit (.int .u8 0), .lit (.int .u8 0)], .agg [.lit (.int .u8 0), .lit (.int .u8 0)], .agg [.lit (.int .u8 0), .lit (.int .u8 0)], .agg [.lit (.int .u8 0), .lit (.int .u8 0)], .agg [.lit (.int .u8 0), .lit (.int .u8 0)], .agg [.lit (.int .u8 0), .lit (.int .u8 0)], .agg [.lit (.int .u8 0), .lit (.int .u8 0)], .agg [.lit (.int .u8 0), .lit (.int .u8 0)], .agg [.lit (.int .u8 0), .lit (.int .u8 0)]]
/-- One of Go's own tables, pinned by name: the form's constant. -/
def laid_unicode_utf8_first : DataW Unit := Go.Pinned.utf8First
def laid_pentimento_pentimentohand_kinds {H : Type} : DataW H := .agg [.lit (.int .i64 1), .lit (.int .i64 1), .lit (.int .i64 1), .lit (.int .i64 2), .lit (.int .i64 2), .lit (.int .i64 2), .lit (.int .i64 3), .lit (.int .i64 3), .lit (.int .i64 4), .lit (.int .i64 5), .lit (.int .i64 6), .lit (.int .i64 7), .lit (.int .i64 7), .lit (.int .i64 8), .lit (.int .i64 9), .lit (.int .i64 9), .lit (.int .i64 10), .lit (.int .i64 11), .lit (.int .i64 11), .lit (.int .i64 12), .lit (.int .i64 13), .lit (.int .i64 14), .lit (.int .i64 15), .lit (.int .i64 15)]

/-- 'pentimentolaw16.CallsKnown': WHATEVER THE INPUT: true; the input reads as it did. -/
def callsKnownSpec : ChangeSpec := { name := "callsKnown", fn := fun _ => fun
  | [] => { results := [.lit (.bool true)], args := [] }
  | _ => none }
def callsKnownRow : OpenClaim := { program := "ytnbgaphhhjnjlaagreatdoor", sum := "c484986776cd6643aab98e5d87723e3965a59833a05fe2ee9e2dba78a46ccb92", func := "pentimento/pentimentolaw16.CallsKnown", spec := "callsKnown", inPlace := ["internal/bytealg.IndexByteString", "internal/bytealg.CountString", "internal/bytealg.IndexString", "internal/bytealg.abigen_runtime_cmpstring", "math.Float64frombits", "internal/bytealg.IndexByte", "math.Float64bits", "slices.overlaps[pentimento/api.Item]"], unfollowed := true, recurses := true, named := ["unicode/utf8.first", "unicode/utf8.acceptRanges", "internal/bytealg.MaxLen"], apart := false, laid := [("unicode/utf8.acceptRanges", laid_unicode_utf8_acceptRanges), ("unicode/utf8.first", laid_unicode_utf8_first)] }
def CallsKnownSaid : Prop := callsKnownRow.holds Tryz.pinned (OpenSpec.ofChange callsKnownSpec)

/-- ITS FALSE NEIGHBOUR: 'it returns false'. Refute it at one input. -/
def callsKnownWrong : ChangeSpec := { name := "callsKnown", fn := fun _ => fun
  | [] => { results := [.lit (.bool false)], args := [] }
  | _ => none }
def CallsKnownWrongFalsely : Prop := callsKnownRow.holds Tryz.pinned (OpenSpec.ofChange callsKnownWrong)

/-- 'pentimentolaw16.CallsPlay': WHATEVER THE INPUT: true; the input reads as it did. -/
def callsPlaySpec : ChangeSpec := { name := "callsPlay", fn := fun _ => fun
  | [d1, d2, d3] => { results := [.lit (.bool true)], args := [d1, d2, d3] }
  | _ => none }
def callsPlayRow : OpenClaim := { program := "ytnbgaphhhjnjlaagreatdoor", sum := "c484986776cd6643aab98e5d87723e3965a59833a05fe2ee9e2dba78a46ccb92", func := "pentimento/pentimentolaw16.CallsPlay", spec := "callsPlay", inPlace := ["math.Float64bits", "math.Float64frombits", "internal/bytealg.IndexByteString", "internal/bytealg.CountString", "internal/bytealg.IndexString", "internal/bytealg.abigen_runtime_cmpstring", "internal/bytealg.IndexByte", "slices.overlaps[pentimento/api.Item]"], unfollowed := true, recurses := true, named := ["unicode/utf8.first", "unicode/utf8.acceptRanges", "internal/bytealg.MaxLen", "pentimento/pentimentohand.kinds"], apart := false, laid := [("unicode/utf8.acceptRanges", laid_unicode_utf8_acceptRanges), ("pentimento/pentimentohand.kinds", laid_pentimento_pentimentohand_kinds), ("unicode/utf8.first", laid_unicode_utf8_first)] }
def CallsPlaySaid : Prop := callsPlayRow.holds Tryz.pinned (OpenSpec.ofChange callsPlaySpec)

/-- ITS FALSE NEIGHBOUR: 'it returns false'. Refute it at one input. -/
def callsPlayWrong : ChangeSpec := { name := "callsPlay", fn := fun _ => fun
  | [d1, d2, d3] => { results := [.lit (.bool false)], args := [d1, d2, d3] }
  | _ => none }
def CallsPlayWrongFalsely : Prop := callsPlayRow.holds Tryz.pinned (OpenSpec.ofChange callsPlayWrong)

/-- 'pentimentolaw16.CallsBytes': WHATEVER THE INPUT: true; the input reads as it did. -/
def callsBytesSpec : ChangeSpec := { name := "callsBytes", fn := fun _ => fun
  | [d1, d2, d3, d4, d5, d6, d7] => { results := [.lit (.bool true)], args := [d1, d2, d3, d4, d5, d6, d7] }
  | _ => none }
def callsBytesRow : OpenClaim := { program := "ytnbgaphhhjnjlaagreatdoor", sum := "c484986776cd6643aab98e5d87723e3965a59833a05fe2ee9e2dba78a46ccb92", func := "pentimento/pentimentolaw16.CallsBytes", spec := "callsBytes", inPlace := ["internal/bytealg.IndexByteString", "internal/bytealg.CountString", "internal/bytealg.IndexString", "internal/bytealg.abigen_runtime_cmpstring", "math.Float64frombits", "internal/bytealg.IndexByte", "math.Float64bits", "slices.overlaps[pentimento/api.Item]"], unfollowed := true, recurses := true, named := ["unicode/utf8.first", "unicode/utf8.acceptRanges", "internal/bytealg.MaxLen"], apart := false, laid := [("unicode/utf8.acceptRanges", laid_unicode_utf8_acceptRanges), ("unicode/utf8.first", laid_unicode_utf8_first)] }
def CallsBytesSaid : Prop := callsBytesRow.holds Tryz.pinned (OpenSpec.ofChange callsBytesSpec)

/-- ITS FALSE NEIGHBOUR: 'it returns false'. Refute it at one input. -/
def callsBytesWrong : ChangeSpec := { name := "callsBytes", fn := fun _ => fun
  | [d1, d2, d3, d4, d5, d6, d7] => { results := [.lit (.bool false)], args := [d1, d2, d3, d4, d5, d6, d7] }
  | _ => none }
def CallsBytesWrongFalsely : Prop := callsBytesRow.holds Tryz.pinned (OpenSpec.ofChange callsBytesWrong)

/-- 'pentimentolaw16.CallsMoves': WHATEVER THE INPUT: true; the input reads as it did. -/
def callsMovesSpec : ChangeSpec := { name := "callsMoves", fn := fun _ => fun
  | [d1, d2, d3] => { results := [.lit (.bool true)], args := [d1, d2, d3] }
  | _ => none }
def callsMovesRow : OpenClaim := { program := "ytnbgaphhhjnjlaagreatdoor", sum := "c484986776cd6643aab98e5d87723e3965a59833a05fe2ee9e2dba78a46ccb92", func := "pentimento/pentimentolaw16.CallsMoves", spec := "callsMoves", inPlace := ["math.Float64bits", "math.Float64frombits", "internal/bytealg.IndexByteString", "internal/bytealg.CountString", "internal/bytealg.IndexString", "internal/bytealg.abigen_runtime_cmpstring", "internal/bytealg.IndexByte", "slices.overlaps[pentimento/api.Item]"], unfollowed := true, recurses := true, named := ["unicode/utf8.first", "unicode/utf8.acceptRanges", "internal/bytealg.MaxLen"], apart := false, laid := [("unicode/utf8.acceptRanges", laid_unicode_utf8_acceptRanges), ("unicode/utf8.first", laid_unicode_utf8_first)] }
def CallsMovesSaid : Prop := callsMovesRow.holds Tryz.pinned (OpenSpec.ofChange callsMovesSpec)

/-- ITS FALSE NEIGHBOUR: 'it returns false'. Refute it at one input. -/
def callsMovesWrong : ChangeSpec := { name := "callsMoves", fn := fun _ => fun
  | [d1, d2, d3] => { results := [.lit (.bool false)], args := [d1, d2, d3] }
  | _ => none }
def CallsMovesWrongFalsely : Prop := callsMovesRow.holds Tryz.pinned (OpenSpec.ofChange callsMovesWrong)

/-- 'pentimentolaw16.CallsApart': WHATEVER THE INPUT: true; the input reads as it did. -/
def callsApartSpec : ChangeSpec := { name := "callsApart", fn := fun _ => fun
  | [d1, d2] => { results := [.lit (.bool true)], args := [d1, d2] }
  | _ => none }
def callsApartRow : OpenClaim := { program := "ytnbgaphhhjnjlaagreatdoor", sum := "c484986776cd6643aab98e5d87723e3965a59833a05fe2ee9e2dba78a46ccb92", func := "pentimento/pentimentolaw16.CallsApart", spec := "callsApart", inPlace := ["math.Float64bits", "math.Float64frombits", "internal/bytealg.IndexByteString", "internal/bytealg.CountString", "internal/bytealg.IndexString", "internal/bytealg.abigen_runtime_cmpstring", "internal/bytealg.IndexByte", "slices.overlaps[pentimento/api.Item]"], unfollowed := true, recurses := true, named := ["unicode/utf8.first", "unicode/utf8.acceptRanges", "internal/bytealg.MaxLen", "pentimento/pentimentohand.kinds"], apart := false, laid := [("unicode/utf8.acceptRanges", laid_unicode_utf8_acceptRanges), ("pentimento/pentimentohand.kinds", laid_pentimento_pentimentohand_kinds), ("unicode/utf8.first", laid_unicode_utf8_first)] }
def CallsApartSaid : Prop := callsApartRow.holds Tryz.pinned (OpenSpec.ofChange callsApartSpec)

/-- ITS FALSE NEIGHBOUR: 'it returns false'. Refute it at one input. -/
def callsApartWrong : ChangeSpec := { name := "callsApart", fn := fun _ => fun
  | [d1, d2] => { results := [.lit (.bool false)], args := [d1, d2] }
  | _ => none }
def CallsApartWrongFalsely : Prop := callsApartRow.holds Tryz.pinned (OpenSpec.ofChange callsApartWrong)

/-- 'pentimentolaw16.CallsKeep': WHATEVER THE INPUT: true; the input reads as it did. -/
def callsKeepSpec : ChangeSpec := { name := "callsKeep", fn := fun _ => fun
  | [d1, d2] => { results := [.lit (.bool true)], args := [d1, d2] }
  | _ => none }
def callsKeepRow : OpenClaim := { program := "ytnbgaphhhjnjlaagreatdoor", sum := "c484986776cd6643aab98e5d87723e3965a59833a05fe2ee9e2dba78a46ccb92", func := "pentimento/pentimentolaw16.CallsKeep", spec := "callsKeep", inPlace := ["math.Float64bits", "math.Float64frombits", "internal/bytealg.IndexByteString", "internal/bytealg.CountString", "internal/bytealg.IndexString", "internal/bytealg.abigen_runtime_cmpstring", "internal/bytealg.IndexByte", "slices.overlaps[pentimento/api.Item]"], unfollowed := true, recurses := true, named := ["unicode/utf8.first", "unicode/utf8.acceptRanges", "internal/bytealg.MaxLen", "pentimento/pentimentohand.kinds"], apart := false, laid := [("unicode/utf8.acceptRanges", laid_unicode_utf8_acceptRanges), ("pentimento/pentimentohand.kinds", laid_pentimento_pentimentohand_kinds), ("unicode/utf8.first", laid_unicode_utf8_first)] }
def CallsKeepSaid : Prop := callsKeepRow.holds Tryz.pinned (OpenSpec.ofChange callsKeepSpec)

/-- ITS FALSE NEIGHBOUR: 'it returns false'. Refute it at one input. -/
def callsKeepWrong : ChangeSpec := { name := "callsKeep", fn := fun _ => fun
  | [d1, d2] => { results := [.lit (.bool false)], args := [d1, d2] }
  | _ => none }
def CallsKeepWrongFalsely : Prop := callsKeepRow.holds Tryz.pinned (OpenSpec.ofChange callsKeepWrong)

/- THE SECOND FORM. 'bulk': how many values and letters a reading holds, each counted each time it is reached (what is shared counts as often as it is met; a slice's spare places count too). A statement '..UptoSaid' is the law's where the arguments, and the package variables that the reading takes, are together of bulk at most 1048576: NARROWER than '..Said'. Prove '..Said' where nothing that the law and all that it calls make is longer than what came in: it says more and counts as full. Else prove '..UptoSaid'. A law counts once. -/
mutual
def uptoBulk {H : Type} : DataW H → Nat
  | .lit (.string bytes) => bytes.length + 1
  | .lit _ => 1
  | .nil => 1
  | .ptr d => uptoBulk d + 1
  | .slice elems spare => uptoBulkAll elems + uptoBulkAll spare + 1
  | .agg parts => uptoBulkAll parts + 1
  | .iface _ d => uptoBulk d + 1
  | .map entries => uptoBulkEntries entries + 1
  | .held _ => 1
def uptoBulkAll {H : Type} : List (DataW H) → Nat
  | [] => 0
  | d :: r => uptoBulk d + uptoBulkAll r
def uptoBulkEntries {H : Type} : List (Lit × DataW H) → Nat
  | [] => 0
  | x :: r => uptoBulkEntry x + uptoBulkEntries r
def uptoBulkEntry {H : Type} : Lit × DataW H → Nat
  | (.string bytes, d) => bytes.length + uptoBulk d + 1
  | (_, d) => uptoBulk d + 1
 end
def uptoSmall : (H : Type) → List (DataW H) → Bool := fun _ ds => decide (uptoBulkAll ds ≤ 1048576)
def OpenSpec.upto (s : _root_.Go.ChangeSpec) : _root_.Go.OpenSpec := { _root_.Go.OpenSpec.ofChange s with cond := some uptoSmall }

/-- 'pentimentolaw16.CallsKnown', WHERE WHAT IT READS IS OF BULK AT MOST 1048576: true; the input reads as it did. -/
def callsKnownUptoRow : OpenClaim := { program := "ytnbgaphhhjnjlaagreatdoor", sum := "c484986776cd6643aab98e5d87723e3965a59833a05fe2ee9e2dba78a46ccb92", func := "pentimento/pentimentolaw16.CallsKnown", spec := "callsKnown", inPlace := ["internal/bytealg.IndexByteString", "internal/bytealg.CountString", "internal/bytealg.IndexString", "internal/bytealg.abigen_runtime_cmpstring", "math.Float64frombits", "internal/bytealg.IndexByte", "math.Float64bits", "slices.overlaps[pentimento/api.Item]"], unfollowed := true, recurses := true, named := ["unicode/utf8.first", "unicode/utf8.acceptRanges", "internal/bytealg.MaxLen"], apart := false, laid := [("unicode/utf8.acceptRanges", laid_unicode_utf8_acceptRanges), ("unicode/utf8.first", laid_unicode_utf8_first)], narrowed := true }
def CallsKnownUptoSaid : Prop := callsKnownUptoRow.holds Tryz.pinned (OpenSpec.upto callsKnownSpec)

/-- 'pentimentolaw16.CallsPlay', WHERE WHAT IT READS IS OF BULK AT MOST 1048576: true; the input reads as it did. -/
def callsPlayUptoRow : OpenClaim := { program := "ytnbgaphhhjnjlaagreatdoor", sum := "c484986776cd6643aab98e5d87723e3965a59833a05fe2ee9e2dba78a46ccb92", func := "pentimento/pentimentolaw16.CallsPlay", spec := "callsPlay", inPlace := ["math.Float64bits", "math.Float64frombits", "internal/bytealg.IndexByteString", "internal/bytealg.CountString", "internal/bytealg.IndexString", "internal/bytealg.abigen_runtime_cmpstring", "internal/bytealg.IndexByte", "slices.overlaps[pentimento/api.Item]"], unfollowed := true, recurses := true, named := ["unicode/utf8.first", "unicode/utf8.acceptRanges", "internal/bytealg.MaxLen", "pentimento/pentimentohand.kinds"], apart := false, laid := [("unicode/utf8.acceptRanges", laid_unicode_utf8_acceptRanges), ("pentimento/pentimentohand.kinds", laid_pentimento_pentimentohand_kinds), ("unicode/utf8.first", laid_unicode_utf8_first)], narrowed := true }
def CallsPlayUptoSaid : Prop := callsPlayUptoRow.holds Tryz.pinned (OpenSpec.upto callsPlaySpec)

/-- 'pentimentolaw16.CallsBytes', WHERE WHAT IT READS IS OF BULK AT MOST 1048576: true; the input reads as it did. -/
def callsBytesUptoRow : OpenClaim := { program := "ytnbgaphhhjnjlaagreatdoor", sum := "c484986776cd6643aab98e5d87723e3965a59833a05fe2ee9e2dba78a46ccb92", func := "pentimento/pentimentolaw16.CallsBytes", spec := "callsBytes", inPlace := ["internal/bytealg.IndexByteString", "internal/bytealg.CountString", "internal/bytealg.IndexString", "internal/bytealg.abigen_runtime_cmpstring", "math.Float64frombits", "internal/bytealg.IndexByte", "math.Float64bits", "slices.overlaps[pentimento/api.Item]"], unfollowed := true, recurses := true, named := ["unicode/utf8.first", "unicode/utf8.acceptRanges", "internal/bytealg.MaxLen"], apart := false, laid := [("unicode/utf8.acceptRanges", laid_unicode_utf8_acceptRanges), ("unicode/utf8.first", laid_unicode_utf8_first)], narrowed := true }
def CallsBytesUptoSaid : Prop := callsBytesUptoRow.holds Tryz.pinned (OpenSpec.upto callsBytesSpec)

/-- 'pentimentolaw16.CallsMoves', WHERE WHAT IT READS IS OF BULK AT MOST 1048576: true; the input reads as it did. -/
def callsMovesUptoRow : OpenClaim := { program := "ytnbgaphhhjnjlaagreatdoor", sum := "c484986776cd6643aab98e5d87723e3965a59833a05fe2ee9e2dba78a46ccb92", func := "pentimento/pentimentolaw16.CallsMoves", spec := "callsMoves", inPlace := ["math.Float64bits", "math.Float64frombits", "internal/bytealg.IndexByteString", "internal/bytealg.CountString", "internal/bytealg.IndexString", "internal/bytealg.abigen_runtime_cmpstring", "internal/bytealg.IndexByte", "slices.overlaps[pentimento/api.Item]"], unfollowed := true, recurses := true, named := ["unicode/utf8.first", "unicode/utf8.acceptRanges", "internal/bytealg.MaxLen"], apart := false, laid := [("unicode/utf8.acceptRanges", laid_unicode_utf8_acceptRanges), ("unicode/utf8.first", laid_unicode_utf8_first)], narrowed := true }
def CallsMovesUptoSaid : Prop := callsMovesUptoRow.holds Tryz.pinned (OpenSpec.upto callsMovesSpec)

/-- 'pentimentolaw16.CallsApart', WHERE WHAT IT READS IS OF BULK AT MOST 1048576: true; the input reads as it did. -/
def callsApartUptoRow : OpenClaim := { program := "ytnbgaphhhjnjlaagreatdoor", sum := "c484986776cd6643aab98e5d87723e3965a59833a05fe2ee9e2dba78a46ccb92", func := "pentimento/pentimentolaw16.CallsApart", spec := "callsApart", inPlace := ["math.Float64bits", "math.Float64frombits", "internal/bytealg.IndexByteString", "internal/bytealg.CountString", "internal/bytealg.IndexString", "internal/bytealg.abigen_runtime_cmpstring", "internal/bytealg.IndexByte", "slices.overlaps[pentimento/api.Item]"], unfollowed := true, recurses := true, named := ["unicode/utf8.first", "unicode/utf8.acceptRanges", "internal/bytealg.MaxLen", "pentimento/pentimentohand.kinds"], apart := false, laid := [("unicode/utf8.acceptRanges", laid_unicode_utf8_acceptRanges), ("pentimento/pentimentohand.kinds", laid_pentimento_pentimentohand_kinds), ("unicode/utf8.first", laid_unicode_utf8_first)], narrowed := true }
def CallsApartUptoSaid : Prop := callsApartUptoRow.holds Tryz.pinned (OpenSpec.upto callsApartSpec)

/-- 'pentimentolaw16.CallsKeep', WHERE WHAT IT READS IS OF BULK AT MOST 1048576: true; the input reads as it did. -/
def callsKeepUptoRow : OpenClaim := { program := "ytnbgaphhhjnjlaagreatdoor", sum := "c484986776cd6643aab98e5d87723e3965a59833a05fe2ee9e2dba78a46ccb92", func := "pentimento/pentimentolaw16.CallsKeep", spec := "callsKeep", inPlace := ["math.Float64bits", "math.Float64frombits", "internal/bytealg.IndexByteString", "internal/bytealg.CountString", "internal/bytealg.IndexString", "internal/bytealg.abigen_runtime_cmpstring", "internal/bytealg.IndexByte", "slices.overlaps[pentimento/api.Item]"], unfollowed := true, recurses := true, named := ["unicode/utf8.first", "unicode/utf8.acceptRanges", "internal/bytealg.MaxLen", "pentimento/pentimentohand.kinds"], apart := false, laid := [("unicode/utf8.acceptRanges", laid_unicode_utf8_acceptRanges), ("pentimento/pentimentohand.kinds", laid_pentimento_pentimentohand_kinds), ("unicode/utf8.first", laid_unicode_utf8_first)], narrowed := true }
def CallsKeepUptoSaid : Prop := callsKeepUptoRow.holds Tryz.pinned (OpenSpec.upto callsKeepSpec)

end Rows
end Go.Proofs.YtnbgaphhhjnjlaaGreatDoor
