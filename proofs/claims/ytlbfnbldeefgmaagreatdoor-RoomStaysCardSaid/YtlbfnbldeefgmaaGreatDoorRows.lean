/-
  NARROWER THAN 'FOR EVERY INPUT', by the rows' own cells (each row's printed sentence says how): RoomDeep: laid · RoomMakes: laid · RoomAsks: laid · RoomDrops: laid · RoomStays: laid.
  DERIVED. THE GIVEN ROWS OF THIS SEAT. 5 by the template 'for every input the law returns true; each argument reads behind the call as it read before'; 0 by the template 'total and deterministic' (their statements: YtlbfnbldeefgmaaGreatDoorTotals.lean).
  GIVEN WITH THE SEED: the statements are not yours to turn. If you find one false, say at which input.
  Laid BY PROGRAM, IN A SANDBOX (cutbox-rows.mjs): the forced cells as the released guide's own fill.sh prints them over the translation d0d4f5374791364f… (all of the seat's roots in one cut). By AI agents, Wed Nov 11 2026. No macro, syntax, notation, axiom, sorry.
-/
import Derived.Test.YtlbfnbldeefgmaaGreatDoorChecked
import GoSem.PinnedTables
import GoSem.Claim
import GoSem.ClaimJoined
import GoSem.ClaimMapViews
import Derived.JoinedTies
import Derived.KernelRfl
namespace Go.Proofs.YtlbfnbldeefgmaaGreatDoor
/- THE CELL 'sum', in the pinned program and in every row, IS THE sha256 OF THE DUMP (.gsa) THAT YtlbfnbldeefgmaaGreatDoorProg.lean LOADS. Nothing in Lean hashes anything: it is a label: what it is worth is what the hold of that sum in a sandbox is worth. -/
noncomputable def Tryz.pinned : Pinned := { name := "ytlbfnbldeefgmaagreatdoor", sum := "d0d4f5374791364f48d73851eaabd8082cec72948612c465e97cf50f83106b49", checked := Tryz.checked }
namespace Rows
def none {H : Type} : Left H := { results := [], args := [] }

/- WHAT THE LISTED PACKAGE-LEVEL VARIABLES READ AS WHEN THE CALL BEGINS. Each datum BY PROGRAM (the guide's laid-datum.mjs) off the statement by which the dump's own 'gosem.cut.vars' lays the variable. In a bare row this is a premise. The card (YtlbfnbldeefgmaaGreatDoorCards.lean) ties it to the program's text. -/
def laid_unicode_utf8_acceptRanges {H : Type} : DataW H := .agg [.agg [.lit (.int .u8 128), .lit (.int .u8 191)], .agg [.lit (.int .u8 160), .lit (.int .u8 191)], .agg [.lit (.int .u8 128), .lit (.int .u8 159)], .agg [.lit (.int .u8 144), .lit (.int .u8 191)], .agg [.lit (.int .u8 128), .lit (.int .u8 143)], .agg [.lit (.int .u8 0), .lit (.int .u8 0)], .agg [.lit (.int .u8 0), .lit (.int .u8 0)], .agg [.lit (.int .u8 0), .lit (.int .u8 0)], .agg [.lit (.int .u8 0), .lit (.int .u8 0)], .agg [.lit (.int .u8 0), .lit (.int .u8 0)], .agg [.lit (.int .u8 0), .lit (.int .u8 0)], .agg [.lit (.int .u8 0), .lit (.int .u8 0)], .agg [.lit (.int .u8 0), .lit (.int .u8 0)], .agg [.lit (.int .u8 0), .lit (.int .u8 0)], .agg [.lit (.int .u8 0), .lit (.int .u8 0)], .agg [.lit (.int .u8 0), .lit (.int .u8 0)]]
def laid_pentimento_pentimentohand_kinds {H : Type} : DataW H := .agg [.lit (.int .i64 1), .lit (.int .i64 1), .lit (.int .i64 1), .lit (.int .i64 2), .lit (.int .i64 2), .lit (.int .i64 2), .lit (.int .i64 3), .lit (.int .i64 3), .lit (.int .i64 4), .lit (.int .i64 5), .lit (.int .i64 6), .lit (.int .i64 7), .lit (.int .i64 7), .lit (.int .i64 8), .lit (.int .i64 9), .lit (.int .i64 9), .lit (.int .i64 10), .lit (.int .i64 11), .lit (.int .i64 11), .lit (.int .i64 12), .lit (.int .i64 13), .lit (.int .i64 14), .lit (.int .i64 15), .lit (.int .i64 15)]
/-- One of Go's own tables, pinned by name: the form's constant. -/
def laid_unicode_utf8_first : DataW Unit := Go.Pinned.utf8First
def laid_pentimento_pentimentoplay_names {H : Type} : DataW H := .agg [.lit (.string [109, 97, 105, 110]), .lit (.string [118, 49]), .lit (.string [118, 50]), .lit (.string [119, 49]), .lit (.string [119, 50]), .lit (.string [118, 51]), .lit (.string [109, 97, 105, 110])]

/-- 'pentimentolaw21.RoomDeep': WHATEVER THE INPUT: true; the input reads as it did. -/
def roomDeepSpec : ChangeSpec := { name := "roomDeep", fn := fun _ => fun
  | [d] => { results := [.lit (.bool true)], args := [d] }
  | _ => none }
def roomDeepRow : OpenClaim := { program := "ytlbfnbldeefgmaagreatdoor", sum := "d0d4f5374791364f48d73851eaabd8082cec72948612c465e97cf50f83106b49", func := "pentimento/pentimentolaw21.RoomDeep", spec := "roomDeep", inPlace := ["internal/bytealg.abigen_runtime_cmpstring", "internal/bytealg.IndexByteString", "slices.overlaps[pentimento/room.Name]", "internal/bytealg.CountString", "internal/bytealg.IndexString", "math.Float64bits", "math.Float64frombits", "internal/bytealg.IndexByte", "slices.overlaps[pentimento/api.Item]"], unfollowed := true, recurses := true, named := ["unicode/utf8.first", "unicode/utf8.acceptRanges", "internal/bytealg.MaxLen", "pentimento/pentimentohand.kinds"], apart := false, laid := [("unicode/utf8.acceptRanges", laid_unicode_utf8_acceptRanges), ("pentimento/pentimentohand.kinds", laid_pentimento_pentimentohand_kinds), ("unicode/utf8.first", laid_unicode_utf8_first)] }
def RoomDeepSaid : Prop := roomDeepRow.holds Tryz.pinned (OpenSpec.ofChange roomDeepSpec)

/-- ITS FALSE NEIGHBOUR: 'it returns false'. Refute it at one input. -/
def roomDeepWrong : ChangeSpec := { name := "roomDeep", fn := fun _ => fun
  | [d] => { results := [.lit (.bool false)], args := [d] }
  | _ => none }
def RoomDeepWrongFalsely : Prop := roomDeepRow.holds Tryz.pinned (OpenSpec.ofChange roomDeepWrong)

/-- 'pentimentolaw21.RoomMakes': WHATEVER THE INPUT: true; the input reads as it did. -/
def roomMakesSpec : ChangeSpec := { name := "roomMakes", fn := fun _ => fun
  | [d1, d2, d3] => { results := [.lit (.bool true)], args := [d1, d2, d3] }
  | _ => none }
def roomMakesRow : OpenClaim := { program := "ytlbfnbldeefgmaagreatdoor", sum := "d0d4f5374791364f48d73851eaabd8082cec72948612c465e97cf50f83106b49", func := "pentimento/pentimentolaw21.RoomMakes", spec := "roomMakes", inPlace := ["math.Float64bits", "math.Float64frombits", "internal/bytealg.IndexByteString", "internal/bytealg.CountString", "internal/bytealg.IndexString", "internal/bytealg.IndexByte", "internal/bytealg.abigen_runtime_cmpstring", "slices.overlaps[pentimento/api.Item]", "slices.overlaps[pentimento/room.Name]"], unfollowed := true, recurses := true, named := ["pentimento/pentimentoplay.names", "pentimento/pentimentohand.kinds", "unicode/utf8.first", "unicode/utf8.acceptRanges", "internal/bytealg.MaxLen"], apart := false, laid := [("unicode/utf8.acceptRanges", laid_unicode_utf8_acceptRanges), ("pentimento/pentimentohand.kinds", laid_pentimento_pentimentohand_kinds), ("pentimento/pentimentoplay.names", laid_pentimento_pentimentoplay_names), ("unicode/utf8.first", laid_unicode_utf8_first)] }
def RoomMakesSaid : Prop := roomMakesRow.holds Tryz.pinned (OpenSpec.ofChange roomMakesSpec)

/-- ITS FALSE NEIGHBOUR: 'it returns false'. Refute it at one input. -/
def roomMakesWrong : ChangeSpec := { name := "roomMakes", fn := fun _ => fun
  | [d1, d2, d3] => { results := [.lit (.bool false)], args := [d1, d2, d3] }
  | _ => none }
def RoomMakesWrongFalsely : Prop := roomMakesRow.holds Tryz.pinned (OpenSpec.ofChange roomMakesWrong)

/-- 'pentimentolaw21.RoomAsks': WHATEVER THE INPUT: true; the input reads as it did. -/
def roomAsksSpec : ChangeSpec := { name := "roomAsks", fn := fun _ => fun
  | [d1, d2] => { results := [.lit (.bool true)], args := [d1, d2] }
  | _ => none }
def roomAsksRow : OpenClaim := { program := "ytlbfnbldeefgmaagreatdoor", sum := "d0d4f5374791364f48d73851eaabd8082cec72948612c465e97cf50f83106b49", func := "pentimento/pentimentolaw21.RoomAsks", spec := "roomAsks", inPlace := ["internal/bytealg.abigen_runtime_cmpstring", "internal/bytealg.IndexByteString", "slices.overlaps[pentimento/room.Name]", "internal/bytealg.CountString", "internal/bytealg.IndexString", "math.Float64bits", "math.Float64frombits", "internal/bytealg.IndexByte", "slices.overlaps[pentimento/api.Item]"], unfollowed := true, recurses := true, named := ["unicode/utf8.first", "unicode/utf8.acceptRanges", "internal/bytealg.MaxLen", "pentimento/pentimentohand.kinds"], apart := false, laid := [("unicode/utf8.acceptRanges", laid_unicode_utf8_acceptRanges), ("pentimento/pentimentohand.kinds", laid_pentimento_pentimentohand_kinds), ("unicode/utf8.first", laid_unicode_utf8_first)] }
def RoomAsksSaid : Prop := roomAsksRow.holds Tryz.pinned (OpenSpec.ofChange roomAsksSpec)

/-- ITS FALSE NEIGHBOUR: 'it returns false'. Refute it at one input. -/
def roomAsksWrong : ChangeSpec := { name := "roomAsks", fn := fun _ => fun
  | [d1, d2] => { results := [.lit (.bool false)], args := [d1, d2] }
  | _ => none }
def RoomAsksWrongFalsely : Prop := roomAsksRow.holds Tryz.pinned (OpenSpec.ofChange roomAsksWrong)

/-- 'pentimentolaw21.RoomDrops': WHATEVER THE INPUT: true; the input reads as it did. -/
def roomDropsSpec : ChangeSpec := { name := "roomDrops", fn := fun _ => fun
  | [d1, d2] => { results := [.lit (.bool true)], args := [d1, d2] }
  | _ => none }
def roomDropsRow : OpenClaim := { program := "ytlbfnbldeefgmaagreatdoor", sum := "d0d4f5374791364f48d73851eaabd8082cec72948612c465e97cf50f83106b49", func := "pentimento/pentimentolaw21.RoomDrops", spec := "roomDrops", inPlace := ["internal/bytealg.abigen_runtime_cmpstring", "internal/bytealg.IndexByteString", "slices.overlaps[pentimento/room.Name]", "internal/bytealg.CountString", "internal/bytealg.IndexString", "math.Float64bits", "math.Float64frombits", "internal/bytealg.IndexByte", "slices.overlaps[pentimento/api.Item]"], unfollowed := true, recurses := true, named := ["unicode/utf8.first", "unicode/utf8.acceptRanges", "internal/bytealg.MaxLen", "pentimento/pentimentoplay.names", "pentimento/pentimentohand.kinds"], apart := false, laid := [("unicode/utf8.acceptRanges", laid_unicode_utf8_acceptRanges), ("pentimento/pentimentohand.kinds", laid_pentimento_pentimentohand_kinds), ("pentimento/pentimentoplay.names", laid_pentimento_pentimentoplay_names), ("unicode/utf8.first", laid_unicode_utf8_first)] }
def RoomDropsSaid : Prop := roomDropsRow.holds Tryz.pinned (OpenSpec.ofChange roomDropsSpec)

/-- ITS FALSE NEIGHBOUR: 'it returns false'. Refute it at one input. -/
def roomDropsWrong : ChangeSpec := { name := "roomDrops", fn := fun _ => fun
  | [d1, d2] => { results := [.lit (.bool false)], args := [d1, d2] }
  | _ => none }
def RoomDropsWrongFalsely : Prop := roomDropsRow.holds Tryz.pinned (OpenSpec.ofChange roomDropsWrong)

/-- 'pentimentolaw21.RoomStays': WHATEVER THE INPUT: true; the input reads as it did. -/
def roomStaysSpec : ChangeSpec := { name := "roomStays", fn := fun _ => fun
  | [d] => { results := [.lit (.bool true)], args := [d] }
  | _ => none }
def roomStaysRow : OpenClaim := { program := "ytlbfnbldeefgmaagreatdoor", sum := "d0d4f5374791364f48d73851eaabd8082cec72948612c465e97cf50f83106b49", func := "pentimento/pentimentolaw21.RoomStays", spec := "roomStays", inPlace := ["internal/bytealg.abigen_runtime_cmpstring", "internal/bytealg.IndexByteString", "slices.overlaps[pentimento/room.Name]", "internal/bytealg.CountString", "internal/bytealg.IndexString", "math.Float64bits", "math.Float64frombits", "internal/bytealg.IndexByte", "slices.overlaps[pentimento/api.Item]"], unfollowed := true, recurses := true, named := ["unicode/utf8.first", "unicode/utf8.acceptRanges", "internal/bytealg.MaxLen", "pentimento/pentimentoplay.names", "pentimento/pentimentohand.kinds"], apart := false, laid := [("unicode/utf8.acceptRanges", laid_unicode_utf8_acceptRanges), ("pentimento/pentimentohand.kinds", laid_pentimento_pentimentohand_kinds), ("pentimento/pentimentoplay.names", laid_pentimento_pentimentoplay_names), ("unicode/utf8.first", laid_unicode_utf8_first)] }
def RoomStaysSaid : Prop := roomStaysRow.holds Tryz.pinned (OpenSpec.ofChange roomStaysSpec)

/-- ITS FALSE NEIGHBOUR: 'it returns false'. Refute it at one input. -/
def roomStaysWrong : ChangeSpec := { name := "roomStays", fn := fun _ => fun
  | [d] => { results := [.lit (.bool false)], args := [d] }
  | _ => none }
def RoomStaysWrongFalsely : Prop := roomStaysRow.holds Tryz.pinned (OpenSpec.ofChange roomStaysWrong)

/- THE SECOND FORM. 'bulk': how many values and letters a reading holds, each counted each time it is reached (what is shared counts as often as it is met; a slice's spare places count too). A statement '..UptoSaid' is the law's where the arguments, and the package variables that the reading takes, are together of bulk at most 1048576: NARROWER than '..Said'. Prove '..Said' where nothing that the law and all that it calls make is longer than what came in: it says more and counts as full. Else prove '..UptoSaid'. A law counts once. -/
mutual
def uptoBulk {H : Type} : DataW H → Nat
  | .lit (.string bytes) => bytes.length + 1
  | .lit _ => 1
  | .nil => 1
  | .ptr d => uptoBulk d + 1
  | .slice elems spare => uptoBulkAll elems + uptoBulkAll spare + 1
  | .agg parts => uptoBulkAll parts + 1
  | .iface _ d => uptoBulk d + 1
  | .map entries => uptoBulkEntries entries + 1
  | .held _ => 1
def uptoBulkAll {H : Type} : List (DataW H) → Nat
  | [] => 0
  | d :: r => uptoBulk d + uptoBulkAll r
def uptoBulkEntries {H : Type} : List (Lit × DataW H) → Nat
  | [] => 0
  | x :: r => uptoBulkEntry x + uptoBulkEntries r
def uptoBulkEntry {H : Type} : Lit × DataW H → Nat
  | (.string bytes, d) => bytes.length + uptoBulk d + 1
  | (_, d) => uptoBulk d + 1
 end
def uptoSmall : (H : Type) → List (DataW H) → Bool := fun _ ds => decide (uptoBulkAll ds ≤ 1048576)
def OpenSpec.upto (s : _root_.Go.ChangeSpec) : _root_.Go.OpenSpec := { _root_.Go.OpenSpec.ofChange s with cond := some uptoSmall }

/-- 'pentimentolaw21.RoomDeep', WHERE WHAT IT READS IS OF BULK AT MOST 1048576: true; the input reads as it did. -/
def roomDeepUptoRow : OpenClaim := { program := "ytlbfnbldeefgmaagreatdoor", sum := "d0d4f5374791364f48d73851eaabd8082cec72948612c465e97cf50f83106b49", func := "pentimento/pentimentolaw21.RoomDeep", spec := "roomDeep", inPlace := ["internal/bytealg.abigen_runtime_cmpstring", "internal/bytealg.IndexByteString", "slices.overlaps[pentimento/room.Name]", "internal/bytealg.CountString", "internal/bytealg.IndexString", "math.Float64bits", "math.Float64frombits", "internal/bytealg.IndexByte", "slices.overlaps[pentimento/api.Item]"], unfollowed := true, recurses := true, named := ["unicode/utf8.first", "unicode/utf8.acceptRanges", "internal/bytealg.MaxLen", "pentimento/pentimentohand.kinds"], apart := false, laid := [("unicode/utf8.acceptRanges", laid_unicode_utf8_acceptRanges), ("pentimento/pentimentohand.kinds", laid_pentimento_pentimentohand_kinds), ("unicode/utf8.first", laid_unicode_utf8_first)], narrowed := true }
def RoomDeepUptoSaid : Prop := roomDeepUptoRow.holds Tryz.pinned (OpenSpec.upto roomDeepSpec)

/-- 'pentimentolaw21.RoomMakes', WHERE WHAT IT READS IS OF BULK AT MOST 1048576: true; the input reads as it did. -/
def roomMakesUptoRow : OpenClaim := { program := "ytlbfnbldeefgmaagreatdoor", sum := "d0d4f5374791364f48d73851eaabd8082cec72948612c465e97cf50f83106b49", func := "pentimento/pentimentolaw21.RoomMakes", spec := "roomMakes", inPlace := ["math.Float64bits", "math.Float64frombits", "internal/bytealg.IndexByteString", "internal/bytealg.CountString", "internal/bytealg.IndexString", "internal/bytealg.IndexByte", "internal/bytealg.abigen_runtime_cmpstring", "slices.overlaps[pentimento/api.Item]", "slices.overlaps[pentimento/room.Name]"], unfollowed := true, recurses := true, named := ["pentimento/pentimentoplay.names", "pentimento/pentimentohand.kinds", "unicode/utf8.first", "unicode/utf8.acceptRanges", "internal/bytealg.MaxLen"], apart := false, laid := [("unicode/utf8.acceptRanges", laid_unicode_utf8_acceptRanges), ("pentimento/pentimentohand.kinds", laid_pentimento_pentimentohand_kinds), ("pentimento/pentimentoplay.names", laid_pentimento_pentimentoplay_names), ("unicode/utf8.first", laid_unicode_utf8_first)], narrowed := true }
def RoomMakesUptoSaid : Prop := roomMakesUptoRow.holds Tryz.pinned (OpenSpec.upto roomMakesSpec)

/-- 'pentimentolaw21.RoomAsks', WHERE WHAT IT READS IS OF BULK AT MOST 1048576: true; the input reads as it did. -/
def roomAsksUptoRow : OpenClaim := { program := "ytlbfnbldeefgmaagreatdoor", sum := "d0d4f5374791364f48d73851eaabd8082cec72948612c465e97cf50f83106b49", func := "pentimento/pentimentolaw21.RoomAsks", spec := "roomAsks", inPlace := ["internal/bytealg.abigen_runtime_cmpstring", "internal/bytealg.IndexByteString", "slices.overlaps[pentimento/room.Name]", "internal/bytealg.CountString", "internal/bytealg.IndexString", "math.Float64bits", "math.Float64frombits", "internal/bytealg.IndexByte", "slices.overlaps[pentimento/api.Item]"], unfollowed := true, recurses := true, named := ["unicode/utf8.first", "unicode/utf8.acceptRanges", "internal/bytealg.MaxLen", "pentimento/pentimentohand.kinds"], apart := false, laid := [("unicode/utf8.acceptRanges", laid_unicode_utf8_acceptRanges), ("pentimento/pentimentohand.kinds", laid_pentimento_pentimentohand_kinds), ("unicode/utf8.first", laid_unicode_utf8_first)], narrowed := true }
def RoomAsksUptoSaid : Prop := roomAsksUptoRow.holds Tryz.pinned (OpenSpec.upto roomAsksSpec)

/-- 'pentimentolaw21.RoomDrops', WHERE WHAT IT READS IS OF BULK AT MOST 1048576: true; the input reads as it did. -/
def roomDropsUptoRow : OpenClaim := { program := "ytlbfnbldeefgmaagreatdoor", sum := "d0d4f5374791364f48d73851eaabd8082cec72948612c465e97cf50f83106b49", func := "pentimento/pentimentolaw21.RoomDrops", spec := "roomDrops", inPlace := ["internal/bytealg.abigen_runtime_cmpstring", "internal/bytealg.IndexByteString", "slices.overlaps[pentimento/room.Name]", "internal/bytealg.CountString", "internal/bytealg.IndexString", "math.Float64bits", "math.Float64frombits", "internal/bytealg.IndexByte", "slices.overlaps[pentimento/api.Item]"], unfollowed := true, recurses := true, named := ["unicode/utf8.first", "unicode/utf8.acceptRanges", "internal/bytealg.MaxLen", "pentimento/pentimentoplay.names", "pentimento/pentimentohand.kinds"], apart := false, laid := [("unicode/utf8.acceptRanges", laid_unicode_utf8_acceptRanges), ("pentimento/pentimentohand.kinds", laid_pentimento_pentimentohand_kinds), ("pentimento/pentimentoplay.names", laid_pentimento_pentimentoplay_names), ("unicode/utf8.first", laid_unicode_utf8_first)], narrowed := true }
def RoomDropsUptoSaid : Prop := roomDropsUptoRow.holds Tryz.pinned (OpenSpec.upto roomDropsSpec)

/-- 'pentimentolaw21.RoomStays', WHERE WHAT IT READS IS OF BULK AT MOST 1048576: true; the input reads as it did. -/
def roomStaysUptoRow : OpenClaim := { program := "ytlbfnbldeefgmaagreatdoor", sum := "d0d4f5374791364f48d73851eaabd8082cec72948612c465e97cf50f83106b49", func := "pentimento/pentimentolaw21.RoomStays", spec := "roomStays", inPlace := ["internal/bytealg.abigen_runtime_cmpstring", "internal/bytealg.IndexByteString", "slices.overlaps[pentimento/room.Name]", "internal/bytealg.CountString", "internal/bytealg.IndexString", "math.Float64bits", "math.Float64frombits", "internal/bytealg.IndexByte", "slices.overlaps[pentimento/api.Item]"], unfollowed := true, recurses := true, named := ["unicode/utf8.first", "unicode/utf8.acceptRanges", "internal/bytealg.MaxLen", "pentimento/pentimentoplay.names", "pentimento/pentimentohand.kinds"], apart := false, laid := [("unicode/utf8.acceptRanges", laid_unicode_utf8_acceptRanges), ("pentimento/pentimentohand.kinds", laid_pentimento_pentimentohand_kinds), ("pentimento/pentimentoplay.names", laid_pentimento_pentimentoplay_names), ("unicode/utf8.first", laid_unicode_utf8_first)], narrowed := true }
def RoomStaysUptoSaid : Prop := roomStaysUptoRow.holds Tryz.pinned (OpenSpec.upto roomStaysSpec)

end Rows
end Go.Proofs.YtlbfnbldeefgmaaGreatDoor
