/-
  NARROWER THAN 'FOR EVERY INPUT', by the rows' own cells (each row's printed sentence says how): ChainRaw: laid · ChainDeep: laid · ChainSteps: laid · ChainTells: laid · LayerMakes: laid · LayerBack: laid · LayerShows: laid · LayerJoins: laid · TreeKnown: laid · LayerOvers: laid.
  DERIVED. THE GIVEN ROWS OF THIS SEAT. 10 by the template 'for every input the law returns true; each argument reads behind the call as it read before'; 0 by the template 'total and deterministic' (their statements: YtfiopamaiolfhaaGreatDoorTotals.lean).
  GIVEN WITH THE SEED: the statements are not yours to turn. If you find one false, say at which input.
  Laid BY PROGRAM, IN A SANDBOX (cutbox-rows.mjs): the forced cells as the released guide's own fill.sh prints them over the translation 18b995ce8414d4c7… (all of the seat's roots in one cut). By AI agents, Wed Nov 11 2026. No macro, syntax, notation, axiom, sorry.
-/
import Derived.Test.YtfiopamaiolfhaaGreatDoorChecked
import GoSem.PinnedTables
import GoSem.Claim
import GoSem.ClaimJoined
import GoSem.ClaimMapViews
import Derived.JoinedTies
import Derived.KernelRfl
namespace Go.Proofs.YtfiopamaiolfhaaGreatDoor
/- THE CELL 'sum', in the pinned program and in every row, IS THE sha256 OF THE DUMP (.gsa) THAT YtfiopamaiolfhaaGreatDoorProg.lean LOADS. Nothing in Lean hashes anything: it is a label: what it is worth is what the hold of that sum in a sandbox is worth. -/
noncomputable def Tryz.pinned : Pinned := { name := "ytfiopamaiolfhaagreatdoor", sum := "18b995ce8414d4c7b73038e138715770c67bc3f71470fe9ed596a071ed3282bd", checked := Tryz.checked }
namespace Rows
def none {H : Type} : Left H := { results := [], args := [] }

/- WHAT THE LISTED PACKAGE-LEVEL VARIABLES READ AS WHEN THE CALL BEGINS. Each datum BY PROGRAM (the guide's laid-datum.mjs) off the statement by which the dump's own 'gosem.cut.vars' lays the variable. In a bare row this is a premise. The card (YtfiopamaiolfhaaGreatDoorCards.lean) ties it to the program's text. -/
def laid_unicode_utf8_acceptRanges {H : Type} : DataW H := .agg [.agg [.lit (.int .u8 128), .lit (.int .u8 191)], .agg [.lit (.int .u8 160), .lit (.int .u8 191)], .agg [.lit (.int .u8 128), .lit (.int .u8 159)], .agg [.lit (.int .u8 144), .lit (.int .u8 191)], .agg [.lit (.int .u8 128), .lit (.int .u8 143)], .agg [.lit (.int .u8 0), .lit (.int .u8 0)], .agg [.lit (.int .u8 0), .lit (.int .u8 0)], .agg [.lit (.int .u8 0), .lit (.int .u8 0)], .agg [.lit (.int .u8 0), .lit (.int .u8 0)], .agg [.lit (.int .u8 0), .lit (.int .u8 0)], .agg [.lit (.int .u8 0), .lit (.int .u8 0)], .agg [.lit (.int .u8 0), .lit (.int .u8 0)], .agg [.lit (.int .u8 0), .lit (.int .u8 0)], .agg [.lit (.int .u8 0), .lit (.int .u8 0)], .agg [.lit (.int .u8 0), .lit (.int .u8 0)], .agg [.lit (.int .u8 0), .lit (.int .u8 0)]]
/-- One of Go's own tables, pinned by name: the form's constant. -/
def laid_unicode_utf8_first : DataW Unit := Go.Pinned.utf8First

/-- 'pentimentolaw14.ChainRaw': WHATEVER THE INPUT: true; the input reads as it did. -/
def chainRawSpec : ChangeSpec := { name := "chainRaw", fn := fun _ => fun
  | [d1, d2, d3, d4] => { results := [.lit (.bool true)], args := [d1, d2, d3, d4] }
  | _ => none }
def chainRawRow : OpenClaim := { program := "ytfiopamaiolfhaagreatdoor", sum := "18b995ce8414d4c7b73038e138715770c67bc3f71470fe9ed596a071ed3282bd", func := "pentimento/pentimentolaw14.ChainRaw", spec := "chainRaw", inPlace := ["math.Float64bits", "math.Float64frombits", "internal/bytealg.CountString", "internal/bytealg.IndexByteString", "internal/bytealg.IndexString", "internal/bytealg.IndexByte", "internal/bytealg.abigen_runtime_cmpstring", "slices.overlaps[pentimento/api.Item]"], unfollowed := true, recurses := true, named := ["unicode/utf8.first", "unicode/utf8.acceptRanges", "internal/bytealg.MaxLen"], apart := false, laid := [("unicode/utf8.acceptRanges", laid_unicode_utf8_acceptRanges), ("unicode/utf8.first", laid_unicode_utf8_first)] }
def ChainRawSaid : Prop := chainRawRow.holds Tryz.pinned (OpenSpec.ofChange chainRawSpec)

/-- ITS FALSE NEIGHBOUR: 'it returns false'. Refute it at one input. -/
def chainRawWrong : ChangeSpec := { name := "chainRaw", fn := fun _ => fun
  | [d1, d2, d3, d4] => { results := [.lit (.bool false)], args := [d1, d2, d3, d4] }
  | _ => none }
def ChainRawWrongFalsely : Prop := chainRawRow.holds Tryz.pinned (OpenSpec.ofChange chainRawWrong)

/-- 'pentimentolaw14.ChainDeep': WHATEVER THE INPUT: true; the input reads as it did. -/
def chainDeepSpec : ChangeSpec := { name := "chainDeep", fn := fun _ => fun
  | [d1, d2] => { results := [.lit (.bool true)], args := [d1, d2] }
  | _ => none }
def chainDeepRow : OpenClaim := { program := "ytfiopamaiolfhaagreatdoor", sum := "18b995ce8414d4c7b73038e138715770c67bc3f71470fe9ed596a071ed3282bd", func := "pentimento/pentimentolaw14.ChainDeep", spec := "chainDeep", inPlace := ["math.Float64bits", "math.Float64frombits", "internal/bytealg.abigen_runtime_cmpstring", "internal/bytealg.CountString", "internal/bytealg.IndexByteString", "internal/bytealg.IndexString", "internal/bytealg.IndexByte", "slices.overlaps[pentimento/api.Item]"], unfollowed := true, recurses := true, named := ["unicode/utf8.first", "unicode/utf8.acceptRanges", "internal/bytealg.MaxLen"], apart := false, laid := [("unicode/utf8.acceptRanges", laid_unicode_utf8_acceptRanges), ("unicode/utf8.first", laid_unicode_utf8_first)] }
def ChainDeepSaid : Prop := chainDeepRow.holds Tryz.pinned (OpenSpec.ofChange chainDeepSpec)

/-- ITS FALSE NEIGHBOUR: 'it returns false'. Refute it at one input. -/
def chainDeepWrong : ChangeSpec := { name := "chainDeep", fn := fun _ => fun
  | [d1, d2] => { results := [.lit (.bool false)], args := [d1, d2] }
  | _ => none }
def ChainDeepWrongFalsely : Prop := chainDeepRow.holds Tryz.pinned (OpenSpec.ofChange chainDeepWrong)

/-- 'pentimentolaw14.ChainSteps': WHATEVER THE INPUT: true; the input reads as it did. -/
def chainStepsSpec : ChangeSpec := { name := "chainSteps", fn := fun _ => fun
  | [d1, d2, d3] => { results := [.lit (.bool true)], args := [d1, d2, d3] }
  | _ => none }
def chainStepsRow : OpenClaim := { program := "ytfiopamaiolfhaagreatdoor", sum := "18b995ce8414d4c7b73038e138715770c67bc3f71470fe9ed596a071ed3282bd", func := "pentimento/pentimentolaw14.ChainSteps", spec := "chainSteps", inPlace := ["math.Float64bits", "math.Float64frombits", "internal/bytealg.CountString", "internal/bytealg.IndexByteString", "internal/bytealg.IndexString", "internal/bytealg.IndexByte", "internal/bytealg.abigen_runtime_cmpstring", "slices.overlaps[pentimento/api.Item]"], unfollowed := true, recurses := true, named := ["unicode/utf8.first", "unicode/utf8.acceptRanges", "internal/bytealg.MaxLen"], apart := false, laid := [("unicode/utf8.acceptRanges", laid_unicode_utf8_acceptRanges), ("unicode/utf8.first", laid_unicode_utf8_first)] }
def ChainStepsSaid : Prop := chainStepsRow.holds Tryz.pinned (OpenSpec.ofChange chainStepsSpec)

/-- ITS FALSE NEIGHBOUR: 'it returns false'. Refute it at one input. -/
def chainStepsWrong : ChangeSpec := { name := "chainSteps", fn := fun _ => fun
  | [d1, d2, d3] => { results := [.lit (.bool false)], args := [d1, d2, d3] }
  | _ => none }
def ChainStepsWrongFalsely : Prop := chainStepsRow.holds Tryz.pinned (OpenSpec.ofChange chainStepsWrong)

/-- 'pentimentolaw14.ChainTells': WHATEVER THE INPUT: true; the input reads as it did. -/
def chainTellsSpec : ChangeSpec := { name := "chainTells", fn := fun _ => fun
  | [d1, d2, d3] => { results := [.lit (.bool true)], args := [d1, d2, d3] }
  | _ => none }
def chainTellsRow : OpenClaim := { program := "ytfiopamaiolfhaagreatdoor", sum := "18b995ce8414d4c7b73038e138715770c67bc3f71470fe9ed596a071ed3282bd", func := "pentimento/pentimentolaw14.ChainTells", spec := "chainTells", inPlace := ["math.Float64bits", "math.Float64frombits", "internal/bytealg.CountString", "internal/bytealg.IndexByteString", "internal/bytealg.IndexString", "internal/bytealg.IndexByte", "internal/bytealg.abigen_runtime_cmpstring", "slices.overlaps[pentimento/api.Item]"], unfollowed := true, recurses := true, named := ["unicode/utf8.first", "unicode/utf8.acceptRanges", "internal/bytealg.MaxLen"], apart := false, laid := [("unicode/utf8.acceptRanges", laid_unicode_utf8_acceptRanges), ("unicode/utf8.first", laid_unicode_utf8_first)] }
def ChainTellsSaid : Prop := chainTellsRow.holds Tryz.pinned (OpenSpec.ofChange chainTellsSpec)

/-- ITS FALSE NEIGHBOUR: 'it returns false'. Refute it at one input. -/
def chainTellsWrong : ChangeSpec := { name := "chainTells", fn := fun _ => fun
  | [d1, d2, d3] => { results := [.lit (.bool false)], args := [d1, d2, d3] }
  | _ => none }
def ChainTellsWrongFalsely : Prop := chainTellsRow.holds Tryz.pinned (OpenSpec.ofChange chainTellsWrong)

/-- 'pentimentolaw12.LayerMakes': WHATEVER THE INPUT: true; the input reads as it did. -/
def layerMakesSpec : ChangeSpec := { name := "layerMakes", fn := fun _ => fun
  | [d1, d2, d3, d4] => { results := [.lit (.bool true)], args := [d1, d2, d3, d4] }
  | _ => none }
def layerMakesRow : OpenClaim := { program := "ytfiopamaiolfhaagreatdoor", sum := "18b995ce8414d4c7b73038e138715770c67bc3f71470fe9ed596a071ed3282bd", func := "pentimento/pentimentolaw12.LayerMakes", spec := "layerMakes", inPlace := ["math.Float64bits", "math.Float64frombits", "internal/bytealg.abigen_runtime_cmpstring", "internal/bytealg.CountString", "internal/bytealg.IndexByteString", "internal/bytealg.IndexString", "internal/bytealg.IndexByte"], unfollowed := true, recurses := true, named := ["unicode/utf8.first", "unicode/utf8.acceptRanges", "internal/bytealg.MaxLen"], apart := false, laid := [("unicode/utf8.acceptRanges", laid_unicode_utf8_acceptRanges), ("unicode/utf8.first", laid_unicode_utf8_first)] }
def LayerMakesSaid : Prop := layerMakesRow.holds Tryz.pinned (OpenSpec.ofChange layerMakesSpec)

/-- ITS FALSE NEIGHBOUR: 'it returns false'. Refute it at one input. -/
def layerMakesWrong : ChangeSpec := { name := "layerMakes", fn := fun _ => fun
  | [d1, d2, d3, d4] => { results := [.lit (.bool false)], args := [d1, d2, d3, d4] }
  | _ => none }
def LayerMakesWrongFalsely : Prop := layerMakesRow.holds Tryz.pinned (OpenSpec.ofChange layerMakesWrong)

/-- 'pentimentolaw12.LayerBack': WHATEVER THE INPUT: true; the input reads as it did. -/
def layerBackSpec : ChangeSpec := { name := "layerBack", fn := fun _ => fun
  | [d1, d2, d3, d4] => { results := [.lit (.bool true)], args := [d1, d2, d3, d4] }
  | _ => none }
def layerBackRow : OpenClaim := { program := "ytfiopamaiolfhaagreatdoor", sum := "18b995ce8414d4c7b73038e138715770c67bc3f71470fe9ed596a071ed3282bd", func := "pentimento/pentimentolaw12.LayerBack", spec := "layerBack", inPlace := ["math.Float64bits", "math.Float64frombits", "internal/bytealg.abigen_runtime_cmpstring", "internal/bytealg.CountString", "internal/bytealg.IndexByteString", "internal/bytealg.IndexString", "internal/bytealg.IndexByte"], unfollowed := true, recurses := true, named := ["unicode/utf8.first", "unicode/utf8.acceptRanges", "internal/bytealg.MaxLen"], apart := false, laid := [("unicode/utf8.acceptRanges", laid_unicode_utf8_acceptRanges), ("unicode/utf8.first", laid_unicode_utf8_first)] }
def LayerBackSaid : Prop := layerBackRow.holds Tryz.pinned (OpenSpec.ofChange layerBackSpec)

/-- ITS FALSE NEIGHBOUR: 'it returns false'. Refute it at one input. -/
def layerBackWrong : ChangeSpec := { name := "layerBack", fn := fun _ => fun
  | [d1, d2, d3, d4] => { results := [.lit (.bool false)], args := [d1, d2, d3, d4] }
  | _ => none }
def LayerBackWrongFalsely : Prop := layerBackRow.holds Tryz.pinned (OpenSpec.ofChange layerBackWrong)

/-- 'pentimentolaw12.LayerShows': WHATEVER THE INPUT: true; the input reads as it did. -/
def layerShowsSpec : ChangeSpec := { name := "layerShows", fn := fun _ => fun
  | [d1, d2, d3, d4] => { results := [.lit (.bool true)], args := [d1, d2, d3, d4] }
  | _ => none }
def layerShowsRow : OpenClaim := { program := "ytfiopamaiolfhaagreatdoor", sum := "18b995ce8414d4c7b73038e138715770c67bc3f71470fe9ed596a071ed3282bd", func := "pentimento/pentimentolaw12.LayerShows", spec := "layerShows", inPlace := ["math.Float64bits", "math.Float64frombits", "internal/bytealg.abigen_runtime_cmpstring", "internal/bytealg.CountString", "internal/bytealg.IndexByteString", "internal/bytealg.IndexString", "internal/bytealg.IndexByte", "slices.overlaps[pentimento/api.Item]"], unfollowed := true, recurses := true, named := ["unicode/utf8.first", "unicode/utf8.acceptRanges", "internal/bytealg.MaxLen"], apart := false, laid := [("unicode/utf8.acceptRanges", laid_unicode_utf8_acceptRanges), ("unicode/utf8.first", laid_unicode_utf8_first)] }
def LayerShowsSaid : Prop := layerShowsRow.holds Tryz.pinned (OpenSpec.ofChange layerShowsSpec)

/-- ITS FALSE NEIGHBOUR: 'it returns false'. Refute it at one input. -/
def layerShowsWrong : ChangeSpec := { name := "layerShows", fn := fun _ => fun
  | [d1, d2, d3, d4] => { results := [.lit (.bool false)], args := [d1, d2, d3, d4] }
  | _ => none }
def LayerShowsWrongFalsely : Prop := layerShowsRow.holds Tryz.pinned (OpenSpec.ofChange layerShowsWrong)

/-- 'pentimentolaw12.LayerJoins': WHATEVER THE INPUT: true; the input reads as it did. -/
def layerJoinsSpec : ChangeSpec := { name := "layerJoins", fn := fun _ => fun
  | [d1, d2, d3] => { results := [.lit (.bool true)], args := [d1, d2, d3] }
  | _ => none }
def layerJoinsRow : OpenClaim := { program := "ytfiopamaiolfhaagreatdoor", sum := "18b995ce8414d4c7b73038e138715770c67bc3f71470fe9ed596a071ed3282bd", func := "pentimento/pentimentolaw12.LayerJoins", spec := "layerJoins", inPlace := ["math.Float64bits", "math.Float64frombits", "internal/bytealg.abigen_runtime_cmpstring", "internal/bytealg.CountString", "internal/bytealg.IndexByteString", "internal/bytealg.IndexString", "internal/bytealg.IndexByte", "slices.overlaps[pentimento/api.Item]"], unfollowed := true, recurses := true, named := ["unicode/utf8.first", "unicode/utf8.acceptRanges", "internal/bytealg.MaxLen"], apart := false, laid := [("unicode/utf8.acceptRanges", laid_unicode_utf8_acceptRanges), ("unicode/utf8.first", laid_unicode_utf8_first)] }
def LayerJoinsSaid : Prop := layerJoinsRow.holds Tryz.pinned (OpenSpec.ofChange layerJoinsSpec)

/-- ITS FALSE NEIGHBOUR: 'it returns false'. Refute it at one input. -/
def layerJoinsWrong : ChangeSpec := { name := "layerJoins", fn := fun _ => fun
  | [d1, d2, d3] => { results := [.lit (.bool false)], args := [d1, d2, d3] }
  | _ => none }
def LayerJoinsWrongFalsely : Prop := layerJoinsRow.holds Tryz.pinned (OpenSpec.ofChange layerJoinsWrong)

/-- 'pentimentolaw11.TreeKnown': WHATEVER THE INPUT: true; the input reads as it did. -/
def treeKnownSpec : ChangeSpec := { name := "treeKnown", fn := fun _ => fun
  | [] => { results := [.lit (.bool true)], args := [] }
  | _ => none }
def treeKnownRow : OpenClaim := { program := "ytfiopamaiolfhaagreatdoor", sum := "18b995ce8414d4c7b73038e138715770c67bc3f71470fe9ed596a071ed3282bd", func := "pentimento/pentimentolaw11.TreeKnown", spec := "treeKnown", inPlace := ["internal/bytealg.CountString", "internal/bytealg.IndexByteString", "internal/bytealg.IndexString", "math.Float64frombits", "math.Float64bits", "internal/bytealg.IndexByte", "internal/bytealg.abigen_runtime_cmpstring", "slices.overlaps[pentimento/api.Item]"], unfollowed := true, recurses := true, named := ["unicode/utf8.first", "unicode/utf8.acceptRanges", "internal/bytealg.MaxLen"], apart := false, laid := [("unicode/utf8.acceptRanges", laid_unicode_utf8_acceptRanges), ("unicode/utf8.first", laid_unicode_utf8_first)] }
def TreeKnownSaid : Prop := treeKnownRow.holds Tryz.pinned (OpenSpec.ofChange treeKnownSpec)

/-- ITS FALSE NEIGHBOUR: 'it returns false'. Refute it at one input. -/
def treeKnownWrong : ChangeSpec := { name := "treeKnown", fn := fun _ => fun
  | [] => { results := [.lit (.bool false)], args := [] }
  | _ => none }
def TreeKnownWrongFalsely : Prop := treeKnownRow.holds Tryz.pinned (OpenSpec.ofChange treeKnownWrong)

/-- 'pentimentolaw12.LayerOvers': WHATEVER THE INPUT: true; the input reads as it did. -/
def layerOversSpec : ChangeSpec := { name := "layerOvers", fn := fun _ => fun
  | [d1, d2, d3, d4, d5, d6, d7, d8, d9] => { results := [.lit (.bool true)], args := [d1, d2, d3, d4, d5, d6, d7, d8, d9] }
  | _ => none }
def layerOversRow : OpenClaim := { program := "ytfiopamaiolfhaagreatdoor", sum := "18b995ce8414d4c7b73038e138715770c67bc3f71470fe9ed596a071ed3282bd", func := "pentimento/pentimentolaw12.LayerOvers", spec := "layerOvers", inPlace := ["math.Float64bits", "math.Float64frombits", "internal/bytealg.CountString", "internal/bytealg.IndexByteString", "internal/bytealg.IndexString", "internal/bytealg.IndexByte", "internal/bytealg.abigen_runtime_cmpstring", "slices.overlaps[pentimento/api.Item]"], unfollowed := true, recurses := true, named := ["unicode/utf8.first", "unicode/utf8.acceptRanges", "internal/bytealg.MaxLen"], apart := false, laid := [("unicode/utf8.acceptRanges", laid_unicode_utf8_acceptRanges), ("unicode/utf8.first", laid_unicode_utf8_first)] }
def LayerOversSaid : Prop := layerOversRow.holds Tryz.pinned (OpenSpec.ofChange layerOversSpec)

/-- ITS FALSE NEIGHBOUR: 'it returns false'. Refute it at one input. -/
def layerOversWrong : ChangeSpec := { name := "layerOvers", fn := fun _ => fun
  | [d1, d2, d3, d4, d5, d6, d7, d8, d9] => { results := [.lit (.bool false)], args := [d1, d2, d3, d4, d5, d6, d7, d8, d9] }
  | _ => none }
def LayerOversWrongFalsely : Prop := layerOversRow.holds Tryz.pinned (OpenSpec.ofChange layerOversWrong)

/- THE SECOND FORM. 'bulk': how many values and letters a reading holds, each counted each time it is reached (what is shared counts as often as it is met; a slice's spare places count too). A statement '..UptoSaid' is the law's where the arguments, and the package variables that the reading takes, are together of bulk at most 1048576: NARROWER than '..Said'. Prove '..Said' where nothing that the law and all that it calls make is longer than what came in: it says more and counts as full. Else prove '..UptoSaid'. A law counts once. -/
mutual
def uptoBulk {H : Type} : DataW H → Nat
  | .lit (.string bytes) => bytes.length + 1
  | .lit _ => 1
  | .nil => 1
  | .ptr d => uptoBulk d + 1
  | .slice elems spare => uptoBulkAll elems + uptoBulkAll spare + 1
  | .agg parts => uptoBulkAll parts + 1
  | .iface _ d => uptoBulk d + 1
  | .map entries => uptoBulkEntries entries + 1
  | .held _ => 1
def uptoBulkAll {H : Type} : List (DataW H) → Nat
  | [] => 0
  | d :: r => uptoBulk d + uptoBulkAll r
def uptoBulkEntries {H : Type} : List (Lit × DataW H) → Nat
  | [] => 0
  | x :: r => uptoBulkEntry x + uptoBulkEntries r
def uptoBulkEntry {H : Type} : Lit × DataW H → Nat
  | (.string bytes, d) => bytes.length + uptoBulk d + 1
  | (_, d) => uptoBulk d + 1
 end
def uptoSmall : (H : Type) → List (DataW H) → Bool := fun _ ds => decide (uptoBulkAll ds ≤ 1048576)
def OpenSpec.upto (s : _root_.Go.ChangeSpec) : _root_.Go.OpenSpec := { _root_.Go.OpenSpec.ofChange s with cond := some uptoSmall }

/-- 'pentimentolaw14.ChainRaw', WHERE WHAT IT READS IS OF BULK AT MOST 1048576: true; the input reads as it did. -/
def chainRawUptoRow : OpenClaim := { program := "ytfiopamaiolfhaagreatdoor", sum := "18b995ce8414d4c7b73038e138715770c67bc3f71470fe9ed596a071ed3282bd", func := "pentimento/pentimentolaw14.ChainRaw", spec := "chainRaw", inPlace := ["math.Float64bits", "math.Float64frombits", "internal/bytealg.CountString", "internal/bytealg.IndexByteString", "internal/bytealg.IndexString", "internal/bytealg.IndexByte", "internal/bytealg.abigen_runtime_cmpstring", "slices.overlaps[pentimento/api.Item]"], unfollowed := true, recurses := true, named := ["unicode/utf8.first", "unicode/utf8.acceptRanges", "internal/bytealg.MaxLen"], apart := false, laid := [("unicode/utf8.acceptRanges", laid_unicode_utf8_acceptRanges), ("unicode/utf8.first", laid_unicode_utf8_first)], narrowed := true }
def ChainRawUptoSaid : Prop := chainRawUptoRow.holds Tryz.pinned (OpenSpec.upto chainRawSpec)

/-- 'pentimentolaw14.ChainDeep', WHERE WHAT IT READS IS OF BULK AT MOST 1048576: true; the input reads as it did. -/
def chainDeepUptoRow : OpenClaim := { program := "ytfiopamaiolfhaagreatdoor", sum := "18b995ce8414d4c7b73038e138715770c67bc3f71470fe9ed596a071ed3282bd", func := "pentimento/pentimentolaw14.ChainDeep", spec := "chainDeep", inPlace := ["math.Float64bits", "math.Float64frombits", "internal/bytealg.abigen_runtime_cmpstring", "internal/bytealg.CountString", "internal/bytealg.IndexByteString", "internal/bytealg.IndexString", "internal/bytealg.IndexByte", "slices.overlaps[pentimento/api.Item]"], unfollowed := true, recurses := true, named := ["unicode/utf8.first", "unicode/utf8.acceptRanges", "internal/bytealg.MaxLen"], apart := false, laid := [("unicode/utf8.acceptRanges", laid_unicode_utf8_acceptRanges), ("unicode/utf8.first", laid_unicode_utf8_first)], narrowed := true }
def ChainDeepUptoSaid : Prop := chainDeepUptoRow.holds Tryz.pinned (OpenSpec.upto chainDeepSpec)

/-- 'pentimentolaw14.ChainSteps', WHERE WHAT IT READS IS OF BULK AT MOST 1048576: true; the input reads as it did. -/
def chainStepsUptoRow : OpenClaim := { program := "ytfiopamaiolfhaagreatdoor", sum := "18b995ce8414d4c7b73038e138715770c67bc3f71470fe9ed596a071ed3282bd", func := "pentimento/pentimentolaw14.ChainSteps", spec := "chainSteps", inPlace := ["math.Float64bits", "math.Float64frombits", "internal/bytealg.CountString", "internal/bytealg.IndexByteString", "internal/bytealg.IndexString", "internal/bytealg.IndexByte", "internal/bytealg.abigen_runtime_cmpstring", "slices.overlaps[pentimento/api.Item]"], unfollowed := true, recurses := true, named := ["unicode/utf8.first", "unicode/utf8.acceptRanges", "internal/bytealg.MaxLen"], apart := false, laid := [("unicode/utf8.acceptRanges", laid_unicode_utf8_acceptRanges), ("unicode/utf8.first", laid_unicode_utf8_first)], narrowed := true }
def ChainStepsUptoSaid : Prop := chainStepsUptoRow.holds Tryz.pinned (OpenSpec.upto chainStepsSpec)

/-- 'pentimentolaw14.ChainTells', WHERE WHAT IT READS IS OF BULK AT MOST 1048576: true; the input reads as it did. -/
def chainTellsUptoRow : OpenClaim := { program := "ytfiopamaiolfhaagreatdoor", sum := "18b995ce8414d4c7b73038e138715770c67bc3f71470fe9ed596a071ed3282bd", func := "pentimento/pentimentolaw14.ChainTells", spec := "chainTells", inPlace := ["math.Float64bits", "math.Float64frombits", "internal/bytealg.CountString", "internal/bytealg.IndexByteString", "internal/bytealg.IndexString", "internal/bytealg.IndexByte", "internal/bytealg.abigen_runtime_cmpstring", "slices.overlaps[pentimento/api.Item]"], unfollowed := true, recurses := true, named := ["unicode/utf8.first", "unicode/utf8.acceptRanges", "internal/bytealg.MaxLen"], apart := false, laid := [("unicode/utf8.acceptRanges", laid_unicode_utf8_acceptRanges), ("unicode/utf8.first", laid_unicode_utf8_first)], narrowed := true }
def ChainTellsUptoSaid : Prop := chainTellsUptoRow.holds Tryz.pinned (OpenSpec.upto chainTellsSpec)

/-- 'pentimentolaw12.LayerMakes', WHERE WHAT IT READS IS OF BULK AT MOST 1048576: true; the input reads as it did. -/
def layerMakesUptoRow : OpenClaim := { program := "ytfiopamaiolfhaagreatdoor", sum := "18b995ce8414d4c7b73038e138715770c67bc3f71470fe9ed596a071ed3282bd", func := "pentimento/pentimentolaw12.LayerMakes", spec := "layerMakes", inPlace := ["math.Float64bits", "math.Float64frombits", "internal/bytealg.abigen_runtime_cmpstring", "internal/bytealg.CountString", "internal/bytealg.IndexByteString", "internal/bytealg.IndexString", "internal/bytealg.IndexByte"], unfollowed := true, recurses := true, named := ["unicode/utf8.first", "unicode/utf8.acceptRanges", "internal/bytealg.MaxLen"], apart := false, laid := [("unicode/utf8.acceptRanges", laid_unicode_utf8_acceptRanges), ("unicode/utf8.first", laid_unicode_utf8_first)], narrowed := true }
def LayerMakesUptoSaid : Prop := layerMakesUptoRow.holds Tryz.pinned (OpenSpec.upto layerMakesSpec)

/-- 'pentimentolaw12.LayerBack', WHERE WHAT IT READS IS OF BULK AT MOST 1048576: true; the input reads as it did. -/
def layerBackUptoRow : OpenClaim := { program := "ytfiopamaiolfhaagreatdoor", sum := "18b995ce8414d4c7b73038e138715770c67bc3f71470fe9ed596a071ed3282bd", func := "pentimento/pentimentolaw12.LayerBack", spec := "layerBack", inPlace := ["math.Float64bits", "math.Float64frombits", "internal/bytealg.abigen_runtime_cmpstring", "internal/bytealg.CountString", "internal/bytealg.IndexByteString", "internal/bytealg.IndexString", "internal/bytealg.IndexByte"], unfollowed := true, recurses := true, named := ["unicode/utf8.first", "unicode/utf8.acceptRanges", "internal/bytealg.MaxLen"], apart := false, laid := [("unicode/utf8.acceptRanges", laid_unicode_utf8_acceptRanges), ("unicode/utf8.first", laid_unicode_utf8_first)], narrowed := true }
def LayerBackUptoSaid : Prop := layerBackUptoRow.holds Tryz.pinned (OpenSpec.upto layerBackSpec)

/-- 'pentimentolaw12.LayerShows', WHERE WHAT IT READS IS OF BULK AT MOST 1048576: true; the input reads as it did. -/
def layerShowsUptoRow : OpenClaim := { program := "ytfiopamaiolfhaagreatdoor", sum := "18b995ce8414d4c7b73038e138715770c67bc3f71470fe9ed596a071ed3282bd", func := "pentimento/pentimentolaw12.LayerShows", spec := "layerShows", inPlace := ["math.Float64bits", "math.Float64frombits", "internal/bytealg.abigen_runtime_cmpstring", "internal/bytealg.CountString", "internal/bytealg.IndexByteString", "internal/bytealg.IndexString", "internal/bytealg.IndexByte", "slices.overlaps[pentimento/api.Item]"], unfollowed := true, recurses := true, named := ["unicode/utf8.first", "unicode/utf8.acceptRanges", "internal/bytealg.MaxLen"], apart := false, laid := [("unicode/utf8.acceptRanges", laid_unicode_utf8_acceptRanges), ("unicode/utf8.first", laid_unicode_utf8_first)], narrowed := true }
def LayerShowsUptoSaid : Prop := layerShowsUptoRow.holds Tryz.pinned (OpenSpec.upto layerShowsSpec)

/-- 'pentimentolaw12.LayerJoins', WHERE WHAT IT READS IS OF BULK AT MOST 1048576: true; the input reads as it did. -/
def layerJoinsUptoRow : OpenClaim := { program := "ytfiopamaiolfhaagreatdoor", sum := "18b995ce8414d4c7b73038e138715770c67bc3f71470fe9ed596a071ed3282bd", func := "pentimento/pentimentolaw12.LayerJoins", spec := "layerJoins", inPlace := ["math.Float64bits", "math.Float64frombits", "internal/bytealg.abigen_runtime_cmpstring", "internal/bytealg.CountString", "internal/bytealg.IndexByteString", "internal/bytealg.IndexString", "internal/bytealg.IndexByte", "slices.overlaps[pentimento/api.Item]"], unfollowed := true, recurses := true, named := ["unicode/utf8.first", "unicode/utf8.acceptRanges", "internal/bytealg.MaxLen"], apart := false, laid := [("unicode/utf8.acceptRanges", laid_unicode_utf8_acceptRanges), ("unicode/utf8.first", laid_unicode_utf8_first)], narrowed := true }
def LayerJoinsUptoSaid : Prop := layerJoinsUptoRow.holds Tryz.pinned (OpenSpec.upto layerJoinsSpec)

/-- 'pentimentolaw11.TreeKnown', WHERE WHAT IT READS IS OF BULK AT MOST 1048576: true; the input reads as it did. -/
def treeKnownUptoRow : OpenClaim := { program := "ytfiopamaiolfhaagreatdoor", sum := "18b995ce8414d4c7b73038e138715770c67bc3f71470fe9ed596a071ed3282bd", func := "pentimento/pentimentolaw11.TreeKnown", spec := "treeKnown", inPlace := ["internal/bytealg.CountString", "internal/bytealg.IndexByteString", "internal/bytealg.IndexString", "math.Float64frombits", "math.Float64bits", "internal/bytealg.IndexByte", "internal/bytealg.abigen_runtime_cmpstring", "slices.overlaps[pentimento/api.Item]"], unfollowed := true, recurses := true, named := ["unicode/utf8.first", "unicode/utf8.acceptRanges", "internal/bytealg.MaxLen"], apart := false, laid := [("unicode/utf8.acceptRanges", laid_unicode_utf8_acceptRanges), ("unicode/utf8.first", laid_unicode_utf8_first)], narrowed := true }
def TreeKnownUptoSaid : Prop := treeKnownUptoRow.holds Tryz.pinned (OpenSpec.upto treeKnownSpec)

/-- 'pentimentolaw12.LayerOvers', WHERE WHAT IT READS IS OF BULK AT MOST 1048576: true; the input reads as it did. -/
def layerOversUptoRow : OpenClaim := { program := "ytfiopamaiolfhaagreatdoor", sum := "18b995ce8414d4c7b73038e138715770c67bc3f71470fe9ed596a071ed3282bd", func := "pentimento/pentimentolaw12.LayerOvers", spec := "layerOvers", inPlace := ["math.Float64bits", "math.Float64frombits", "internal/bytealg.CountString", "internal/bytealg.IndexByteString", "internal/bytealg.IndexString", "internal/bytealg.IndexByte", "internal/bytealg.abigen_runtime_cmpstring", "slices.overlaps[pentimento/api.Item]"], unfollowed := true, recurses := true, named := ["unicode/utf8.first", "unicode/utf8.acceptRanges", "internal/bytealg.MaxLen"], apart := false, laid := [("unicode/utf8.acceptRanges", laid_unicode_utf8_acceptRanges), ("unicode/utf8.first", laid_unicode_utf8_first)], narrowed := true }
def LayerOversUptoSaid : Prop := layerOversUptoRow.holds Tryz.pinned (OpenSpec.upto layerOversSpec)

end Rows
end Go.Proofs.YtfiopamaiolfhaaGreatDoor
