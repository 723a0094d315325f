/-
  NARROWER THAN 'FOR EVERY INPUT', by the rows' own cells (each row's printed sentence says how): RoomForks: laid · RoomKnown: laid · RoomDrops: laid · RoomPlays: laid.
  DERIVED. THE GIVEN ROWS OF THIS SEAT. 4 by the template 'for every input the law returns true; each argument reads behind the call as it read before'; 0 by the template 'total and deterministic' (their statements: YtbpblnmhlhpebaaGreatDoorTotals.lean).
  GIVEN WITH THE SEED: the statements are not yours to turn. If you find one false, say at which input.
  Laid BY PROGRAM, IN A SANDBOX (cutbox-rows.mjs): the forced cells as the released guide's own fill.sh prints them over the translation 7ec1d5c2cbe8177b… (all of the seat's roots in one cut). By AI agents, Wed Nov 11 2026. No macro, syntax, notation, axiom, sorry.
-/
import Derived.Test.YtbpblnmhlhpebaaGreatDoorChecked
import GoSem.PinnedTables
import GoSem.Claim
import GoSem.ClaimJoined
import GoSem.ClaimMapViews
import Derived.JoinedTies
import Derived.KernelRfl
namespace Go.Proofs.YtbpblnmhlhpebaaGreatDoor
/- THE CELL 'sum', in the pinned program and in every row, IS THE sha256 OF THE DUMP (.gsa) THAT YtbpblnmhlhpebaaGreatDoorProg.lean LOADS. Nothing in Lean hashes anything: it is a label: what it is worth is what the hold of that sum in a sandbox is worth. -/
noncomputable def Tryz.pinned : Pinned := { name := "ytbpblnmhlhpebaagreatdoor", sum := "7ec1d5c2cbe8177bda11031510cd417d129ebb4cd4375f1d7c6d38a8ec4cff90", checked := Tryz.checked }
namespace Rows
def none {H : Type} : Left H := { results := [], args := [] }

/- WHAT THE LISTED PACKAGE-LEVEL VARIABLES READ AS WHEN THE CALL BEGINS. Each datum BY PROGRAM (the guide's laid-datum.mjs) off the statement by which the dump's own 'gosem.cut.vars' lays the variable. In a bare row this is a premise. The card (YtbpblnmhlhpebaaGreatDoorCards.lean) ties it to the program's text. -/
def laid_unicode_utf8_acceptRanges {H : Type} : DataW H := .agg [.agg [.lit (.int .u8 128), .lit (.int .u8 191)], .agg [.lit (.int .u8 160), .lit (.int .u8 191)], .agg [.lit (.int .u8 128), .lit (.int .u8 159)], .agg [.lit (.int .u8 144), .lit (.int .u8 191)], .agg [.lit (.int .u8 128), .lit (.int .u8 143)], .agg [.lit (.int .u8 0), .lit (.int .u8 0)], .agg [.lit (.int .u8 0), .lit (.int .u8 0)], .agg [.lit (.int .u8 0), .lit (.int .u8 0)], .agg [.lit (.int .u8 0), .lit (.int .u8 0)], .agg [.lit (.int .u8 0), .lit (.int .u8 0)], .agg [.lit (.int .u8 0), .lit (.int .u8 0)], .agg [.lit (.int .u8 0), .lit (.int .u8 0)], .agg [.lit (.int .u8 0), .lit (.int .u8 0)], .agg [.lit (.int .u8 0), .lit (.int .u8 0)], .agg [.lit (.int .u8 0), .lit (.int .u8 0)], .agg [.lit (.int .u8 0), .lit (.int .u8 0)]]
/-- One of Go's own tables, pinned by name: the form's constant. -/
def laid_unicode_utf8_first : DataW Unit := Go.Pinned.utf8First
def laid_pentimento_pentimentohand_kinds {H : Type} : DataW H := .agg [.lit (.int .i64 1), .lit (.int .i64 1), .lit (.int .i64 1), .lit (.int .i64 2), .lit (.int .i64 2), .lit (.int .i64 2), .lit (.int .i64 3), .lit (.int .i64 3), .lit (.int .i64 4), .lit (.int .i64 5), .lit (.int .i64 6), .lit (.int .i64 7), .lit (.int .i64 7), .lit (.int .i64 8), .lit (.int .i64 9), .lit (.int .i64 9), .lit (.int .i64 10), .lit (.int .i64 11), .lit (.int .i64 11), .lit (.int .i64 12), .lit (.int .i64 13), .lit (.int .i64 14), .lit (.int .i64 15), .lit (.int .i64 15)]
def laid_pentimento_pentimentoplay_names {H : Type} : DataW H := .agg [.lit (.string [109, 97, 105, 110]), .lit (.string [118, 49]), .lit (.string [118, 50]), .lit (.string [119, 49]), .lit (.string [119, 50]), .lit (.string [118, 51]), .lit (.string [109, 97, 105, 110])]

/-- 'pentimentolaw21.RoomForks': WHATEVER THE INPUT: true; the input reads as it did. -/
def roomForksSpec : ChangeSpec := { name := "roomForks", fn := fun _ => fun
  | [d1, d2, d3] => { results := [.lit (.bool true)], args := [d1, d2, d3] }
  | _ => none }
def roomForksRow : OpenClaim := { program := "ytbpblnmhlhpebaagreatdoor", sum := "7ec1d5c2cbe8177bda11031510cd417d129ebb4cd4375f1d7c6d38a8ec4cff90", func := "pentimento/pentimentolaw21.RoomForks", spec := "roomForks", inPlace := ["math.Float64bits", "math.Float64frombits", "internal/bytealg.abigen_runtime_cmpstring", "internal/bytealg.IndexByteString", "slices.overlaps[pentimento/room.Name]", "internal/bytealg.CountString", "internal/bytealg.IndexString", "internal/bytealg.IndexByte", "slices.overlaps[pentimento/api.Item]"], unfollowed := true, recurses := true, named := ["unicode/utf8.first", "unicode/utf8.acceptRanges", "internal/bytealg.MaxLen"], apart := false, laid := [("unicode/utf8.acceptRanges", laid_unicode_utf8_acceptRanges), ("unicode/utf8.first", laid_unicode_utf8_first)] }
def RoomForksSaid : Prop := roomForksRow.holds Tryz.pinned (OpenSpec.ofChange roomForksSpec)

/-- ITS FALSE NEIGHBOUR: 'it returns false'. Refute it at one input. -/
def roomForksWrong : ChangeSpec := { name := "roomForks", fn := fun _ => fun
  | [d1, d2, d3] => { results := [.lit (.bool false)], args := [d1, d2, d3] }
  | _ => none }
def RoomForksWrongFalsely : Prop := roomForksRow.holds Tryz.pinned (OpenSpec.ofChange roomForksWrong)

/-- 'pentimentolaw21.RoomKnown': WHATEVER THE INPUT: true; the input reads as it did. -/
def roomKnownSpec : ChangeSpec := { name := "roomKnown", fn := fun _ => fun
  | [] => { results := [.lit (.bool true)], args := [] }
  | _ => none }
def roomKnownRow : OpenClaim := { program := "ytbpblnmhlhpebaagreatdoor", sum := "7ec1d5c2cbe8177bda11031510cd417d129ebb4cd4375f1d7c6d38a8ec4cff90", func := "pentimento/pentimentolaw21.RoomKnown", spec := "roomKnown", inPlace := ["internal/bytealg.abigen_runtime_cmpstring", "internal/bytealg.IndexByteString", "slices.overlaps[pentimento/room.Name]", "internal/bytealg.CountString", "internal/bytealg.IndexString", "math.Float64bits", "math.Float64frombits", "internal/bytealg.IndexByte", "slices.overlaps[pentimento/api.Item]"], unfollowed := true, recurses := true, named := ["unicode/utf8.first", "unicode/utf8.acceptRanges", "internal/bytealg.MaxLen"], apart := false, laid := [("unicode/utf8.acceptRanges", laid_unicode_utf8_acceptRanges), ("unicode/utf8.first", laid_unicode_utf8_first)] }
def RoomKnownSaid : Prop := roomKnownRow.holds Tryz.pinned (OpenSpec.ofChange roomKnownSpec)

/-- ITS FALSE NEIGHBOUR: 'it returns false'. Refute it at one input. -/
def roomKnownWrong : ChangeSpec := { name := "roomKnown", fn := fun _ => fun
  | [] => { results := [.lit (.bool false)], args := [] }
  | _ => none }
def RoomKnownWrongFalsely : Prop := roomKnownRow.holds Tryz.pinned (OpenSpec.ofChange roomKnownWrong)

/-- 'pentimentolaw21.RoomDrops': WHATEVER THE INPUT: true; the input reads as it did. -/
def roomDropsSpec : ChangeSpec := { name := "roomDrops", fn := fun _ => fun
  | [d1, d2] => { results := [.lit (.bool true)], args := [d1, d2] }
  | _ => none }
def roomDropsRow : OpenClaim := { program := "ytbpblnmhlhpebaagreatdoor", sum := "7ec1d5c2cbe8177bda11031510cd417d129ebb4cd4375f1d7c6d38a8ec4cff90", func := "pentimento/pentimentolaw21.RoomDrops", spec := "roomDrops", inPlace := ["internal/bytealg.abigen_runtime_cmpstring", "internal/bytealg.IndexByteString", "slices.overlaps[pentimento/room.Name]", "internal/bytealg.CountString", "internal/bytealg.IndexString", "math.Float64bits", "math.Float64frombits", "internal/bytealg.IndexByte", "slices.overlaps[pentimento/api.Item]"], unfollowed := true, recurses := true, named := ["unicode/utf8.first", "unicode/utf8.acceptRanges", "internal/bytealg.MaxLen", "pentimento/pentimentoplay.names", "pentimento/pentimentohand.kinds"], apart := false, laid := [("unicode/utf8.acceptRanges", laid_unicode_utf8_acceptRanges), ("pentimento/pentimentohand.kinds", laid_pentimento_pentimentohand_kinds), ("pentimento/pentimentoplay.names", laid_pentimento_pentimentoplay_names), ("unicode/utf8.first", laid_unicode_utf8_first)] }
def RoomDropsSaid : Prop := roomDropsRow.holds Tryz.pinned (OpenSpec.ofChange roomDropsSpec)

/-- ITS FALSE NEIGHBOUR: 'it returns false'. Refute it at one input. -/
def roomDropsWrong : ChangeSpec := { name := "roomDrops", fn := fun _ => fun
  | [d1, d2] => { results := [.lit (.bool false)], args := [d1, d2] }
  | _ => none }
def RoomDropsWrongFalsely : Prop := roomDropsRow.holds Tryz.pinned (OpenSpec.ofChange roomDropsWrong)

/-- 'pentimentolaw21.RoomPlays': WHATEVER THE INPUT: true; the input reads as it did. -/
def roomPlaysSpec : ChangeSpec := { name := "roomPlays", fn := fun _ => fun
  | [d] => { results := [.lit (.bool true)], args := [d] }
  | _ => none }
def roomPlaysRow : OpenClaim := { program := "ytbpblnmhlhpebaagreatdoor", sum := "7ec1d5c2cbe8177bda11031510cd417d129ebb4cd4375f1d7c6d38a8ec4cff90", func := "pentimento/pentimentolaw21.RoomPlays", spec := "roomPlays", inPlace := ["internal/bytealg.abigen_runtime_cmpstring", "internal/bytealg.IndexByteString", "slices.overlaps[pentimento/room.Name]", "internal/bytealg.CountString", "internal/bytealg.IndexString", "math.Float64bits", "math.Float64frombits", "internal/bytealg.IndexByte", "slices.overlaps[pentimento/api.Item]"], unfollowed := true, recurses := true, named := ["unicode/utf8.first", "unicode/utf8.acceptRanges", "internal/bytealg.MaxLen", "pentimento/pentimentoplay.names", "pentimento/pentimentohand.kinds"], apart := false, laid := [("unicode/utf8.acceptRanges", laid_unicode_utf8_acceptRanges), ("pentimento/pentimentohand.kinds", laid_pentimento_pentimentohand_kinds), ("pentimento/pentimentoplay.names", laid_pentimento_pentimentoplay_names), ("unicode/utf8.first", laid_unicode_utf8_first)] }
def RoomPlaysSaid : Prop := roomPlaysRow.holds Tryz.pinned (OpenSpec.ofChange roomPlaysSpec)

/-- ITS FALSE NEIGHBOUR: 'it returns false'. Refute it at one input. -/
def roomPlaysWrong : ChangeSpec := { name := "roomPlays", fn := fun _ => fun
  | [d] => { results := [.lit (.bool false)], args := [d] }
  | _ => none }
def RoomPlaysWrongFalsely : Prop := roomPlaysRow.holds Tryz.pinned (OpenSpec.ofChange roomPlaysWrong)

/- THE SECOND FORM. 'bulk': how many values and letters a reading holds, each counted each time it is reached (what is shared counts as often as it is met; a slice's spare places count too). A statement '..UptoSaid' is the law's where the arguments, and the package variables that the reading takes, are together of bulk at most 1048576: NARROWER than '..Said'. Prove '..Said' where nothing that the law and all that it calls make is longer than what came in: it says more and counts as full. Else prove '..UptoSaid'. A law counts once. -/
mutual
def uptoBulk {H : Type} : DataW H → Nat
  | .lit (.string bytes) => bytes.length + 1
  | .lit _ => 1
  | .nil => 1
  | .ptr d => uptoBulk d + 1
  | .slice elems spare => uptoBulkAll elems + uptoBulkAll spare + 1
  | .agg parts => uptoBulkAll parts + 1
  | .iface _ d => uptoBulk d + 1
  | .map entries => uptoBulkEntries entries + 1
  | .held _ => 1
def uptoBulkAll {H : Type} : List (DataW H) → Nat
  | [] => 0
  | d :: r => uptoBulk d + uptoBulkAll r
def uptoBulkEntries {H : Type} : List (Lit × DataW H) → Nat
  | [] => 0
  | x :: r => uptoBulkEntry x + uptoBulkEntries r
def uptoBulkEntry {H : Type} : Lit × DataW H → Nat
  | (.string bytes, d) => bytes.length + uptoBulk d + 1
  | (_, d) => uptoBulk d + 1
 end
def uptoSmall : (H : Type) → List (DataW H) → Bool := fun _ ds => decide (uptoBulkAll ds ≤ 1048576)
def OpenSpec.upto (s : _root_.Go.ChangeSpec) : _root_.Go.OpenSpec := { _root_.Go.OpenSpec.ofChange s with cond := some uptoSmall }

/-- 'pentimentolaw21.RoomForks', WHERE WHAT IT READS IS OF BULK AT MOST 1048576: true; the input reads as it did. -/
def roomForksUptoRow : OpenClaim := { program := "ytbpblnmhlhpebaagreatdoor", sum := "7ec1d5c2cbe8177bda11031510cd417d129ebb4cd4375f1d7c6d38a8ec4cff90", func := "pentimento/pentimentolaw21.RoomForks", spec := "roomForks", inPlace := ["math.Float64bits", "math.Float64frombits", "internal/bytealg.abigen_runtime_cmpstring", "internal/bytealg.IndexByteString", "slices.overlaps[pentimento/room.Name]", "internal/bytealg.CountString", "internal/bytealg.IndexString", "internal/bytealg.IndexByte", "slices.overlaps[pentimento/api.Item]"], unfollowed := true, recurses := true, named := ["unicode/utf8.first", "unicode/utf8.acceptRanges", "internal/bytealg.MaxLen"], apart := false, laid := [("unicode/utf8.acceptRanges", laid_unicode_utf8_acceptRanges), ("unicode/utf8.first", laid_unicode_utf8_first)], narrowed := true }
def RoomForksUptoSaid : Prop := roomForksUptoRow.holds Tryz.pinned (OpenSpec.upto roomForksSpec)

/-- 'pentimentolaw21.RoomKnown', WHERE WHAT IT READS IS OF BULK AT MOST 1048576: true; the input reads as it did. -/
def roomKnownUptoRow : OpenClaim := { program := "ytbpblnmhlhpebaagreatdoor", sum := "7ec1d5c2cbe8177bda11031510cd417d129ebb4cd4375f1d7c6d38a8ec4cff90", func := "pentimento/pentimentolaw21.RoomKnown", spec := "roomKnown", inPlace := ["internal/bytealg.abigen_runtime_cmpstring", "internal/bytealg.IndexByteString", "slices.overlaps[pentimento/room.Name]", "internal/bytealg.CountString", "internal/bytealg.IndexString", "math.Float64bits", "math.Float64frombits", "internal/bytealg.IndexByte", "slices.overlaps[pentimento/api.Item]"], unfollowed := true, recurses := true, named := ["unicode/utf8.first", "unicode/utf8.acceptRanges", "internal/bytealg.MaxLen"], apart := false, laid := [("unicode/utf8.acceptRanges", laid_unicode_utf8_acceptRanges), ("unicode/utf8.first", laid_unicode_utf8_first)], narrowed := true }
def RoomKnownUptoSaid : Prop := roomKnownUptoRow.holds Tryz.pinned (OpenSpec.upto roomKnownSpec)

/-- 'pentimentolaw21.RoomDrops', WHERE WHAT IT READS IS OF BULK AT MOST 1048576: true; the input reads as it did. -/
def roomDropsUptoRow : OpenClaim := { program := "ytbpblnmhlhpebaagreatdoor", sum := "7ec1d5c2cbe8177bda11031510cd417d129ebb4cd4375f1d7c6d38a8ec4cff90", func := "pentimento/pentimentolaw21.RoomDrops", spec := "roomDrops", inPlace := ["internal/bytealg.abigen_runtime_cmpstring", "internal/bytealg.IndexByteString", "slices.overlaps[pentimento/room.Name]", "internal/bytealg.CountString", "internal/bytealg.IndexString", "math.Float64bits", "math.Float64frombits", "internal/bytealg.IndexByte", "slices.overlaps[pentimento/api.Item]"], unfollowed := true, recurses := true, named := ["unicode/utf8.first", "unicode/utf8.acceptRanges", "internal/bytealg.MaxLen", "pentimento/pentimentoplay.names", "pentimento/pentimentohand.kinds"], apart := false, laid := [("unicode/utf8.acceptRanges", laid_unicode_utf8_acceptRanges), ("pentimento/pentimentohand.kinds", laid_pentimento_pentimentohand_kinds), ("pentimento/pentimentoplay.names", laid_pentimento_pentimentoplay_names), ("unicode/utf8.first", laid_unicode_utf8_first)], narrowed := true }
def RoomDropsUptoSaid : Prop := roomDropsUptoRow.holds Tryz.pinned (OpenSpec.upto roomDropsSpec)

/-- 'pentimentolaw21.RoomPlays', WHERE WHAT IT READS IS OF BULK AT MOST 1048576: true; the input reads as it did. -/
def roomPlaysUptoRow : OpenClaim := { program := "ytbpblnmhlhpebaagreatdoor", sum := "7ec1d5c2cbe8177bda11031510cd417d129ebb4cd4375f1d7c6d38a8ec4cff90", func := "pentimento/pentimentolaw21.RoomPlays", spec := "roomPlays", inPlace := ["internal/bytealg.abigen_runtime_cmpstring", "internal/bytealg.IndexByteString", "slices.overlaps[pentimento/room.Name]", "internal/bytealg.CountString", "internal/bytealg.IndexString", "math.Float64bits", "math.Float64frombits", "internal/bytealg.IndexByte", "slices.overlaps[pentimento/api.Item]"], unfollowed := true, recurses := true, named := ["unicode/utf8.first", "unicode/utf8.acceptRanges", "internal/bytealg.MaxLen", "pentimento/pentimentoplay.names", "pentimento/pentimentohand.kinds"], apart := false, laid := [("unicode/utf8.acceptRanges", laid_unicode_utf8_acceptRanges), ("pentimento/pentimentohand.kinds", laid_pentimento_pentimentohand_kinds), ("pentimento/pentimentoplay.names", laid_pentimento_pentimentoplay_names), ("unicode/utf8.first", laid_unicode_utf8_first)], narrowed := true }
def RoomPlaysUptoSaid : Prop := roomPlaysUptoRow.holds Tryz.pinned (OpenSpec.upto roomPlaysSpec)

end Rows
end Go.Proofs.YtbpblnmhlhpebaaGreatDoor
