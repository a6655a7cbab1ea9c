/-
  NARROWER THAN 'FOR EVERY INPUT', by the rows' own cells (each row's printed sentence says how): ModelNothing: loops, laid · ModelFewer: loops, laid · ModelTells: loops, laid · ModelGood: loops, laid · ModelNeeds: loops, laid.
  DERIVED. THE GIVEN ROWS OF THIS SEAT. 5 by the template 'for every input the law returns true; each argument reads behind the call as it read before'; 0 by the template 'total and deterministic' (their statements: YtebfbbjghhagbaaGreatDoorTotals.lean).
  GIVEN WITH THE SEED: the statements are not yours to turn. If you find one false, say at which input.
  Laid BY PROGRAM, IN A SANDBOX (cutbox-rows.mjs): the forced cells as the released guide's own fill.sh prints them over the translation 59324ca6d8681550… (all of the seat's roots in one cut). By AI agents, Wed Nov 11 2026. No macro, syntax, notation, axiom, sorry.
-/
import Derived.Test.YtebfbbjghhagbaaGreatDoorChecked
import GoSem.PinnedTables
import GoSem.Claim
import GoSem.ClaimJoined
import GoSem.ClaimMapViews
import Derived.JoinedTies
import Derived.KernelRfl
namespace Go.Proofs.YtebfbbjghhagbaaGreatDoor
/- THE CELL 'sum', in the pinned program and in every row, IS THE sha256 OF THE DUMP (.gsa) THAT YtebfbbjghhagbaaGreatDoorProg.lean LOADS. Nothing in Lean hashes anything: it is a label: what it is worth is what the hold of that sum in a sandbox is worth. -/
noncomputable def Tryz.pinned : Pinned := { name := "ytebfbbjghhagbaagreatdoor", sum := "59324ca6d86815507982e439226f54756ff35bf4fa0907cea11bb139e97cd07a", checked := Tryz.checked }
namespace Rows
def none {H : Type} : Left H := { results := [], args := [] }

/- WHAT THE LISTED PACKAGE-LEVEL VARIABLES READ AS WHEN THE CALL BEGINS. Each datum BY PROGRAM (the guide's laid-datum.mjs) off the statement by which the dump's own 'gosem.cut.vars' lays the variable. In a bare row this is a premise. The card (YtebfbbjghhagbaaGreatDoorCards.lean) ties it to the program's text. -/
def laid_unicode_utf8_acceptRanges {H : Type} : DataW H := .agg [.agg [.lit (.int .u8 128), .lit (.int .u8 191)], .agg [.lit (.int .u8 160), .lit (.int .u8 191)], .agg [.lit (.int .u8 128), .lit (.int .u8 159)], .agg [.lit (.int .u8 144), .lit (.int .u8 191)], .agg [.lit (.int .u8 128), .lit (.int .u8 143)], .agg [.lit (.int .u8 0), .lit (.int .u8 0)], .agg [.lit (.int .u8 0), .lit (.int .u8 0)], .agg [.lit (.int .u8 0), .lit (.int .u8 0)], .agg [.lit (.int .u8 0), .lit (.int .u8 0)], .agg [.lit (.int .u8 0), .lit (.int .u8 0)], .agg [.lit (.int .u8 0), .lit (.int .u8 0)], .agg [.lit (.int .u8 0), .lit (.int .u8 0)], .agg [.lit (.int .u8 0), .lit (.int .u8 0)], .agg [.lit (.int .u8 0), .lit (.int .u8 0)], .agg [.lit (.int .u8 0), .lit (.int .u8 0)], .agg [.lit (.int .u8 0), .lit (.int .u8 0)]]
def laid_chandlery_span_ops {H : Type} : DataW H := .map [(.string [], .lit (.int .u8 0)), (.string [60], .lit (.int .u8 1)), (.string [60, 61], .lit (.int .u8 3)), (.string [61], .lit (.int .u8 2)), (.string [62], .lit (.int .u8 4)), (.string [62, 61], .lit (.int .u8 6))]
def laid_chandlery_dep_words {H : Type} : DataW H := .agg [.lit (.string [97, 110, 100]), .lit (.string [111, 114]), .lit (.string [105, 102]), .lit (.string [101, 108, 115, 101]), .lit (.string [117, 110, 108, 101, 115, 115]), .lit (.string [119, 105, 116, 104]), .lit (.string [119, 105, 116, 104, 111, 117, 116])]
def laid_chandlery_rich_kinds {H : Type} : DataW H := .agg [.agg [.lit (.string []), .lit (.int .i64 0)], .agg [.lit (.string []), .lit (.int .i64 0)], .agg [.lit (.string [97, 110, 100]), .lit (.int .i64 24)], .agg [.lit (.string [111, 114]), .lit (.int .i64 24)], .agg [.lit (.string [105, 102]), .lit (.int .i64 3)], .agg [.lit (.string [117, 110, 108, 101, 115, 115]), .lit (.int .i64 3)], .agg [.lit (.string [119, 105, 116, 104]), .lit (.int .i64 24)], .agg [.lit (.string [119, 105, 116, 104, 111, 117, 116]), .lit (.int .i64 2)]]
/-- One of Go's own tables, pinned by name: the form's constant. -/
def laid_unicode_utf8_first : DataW Unit := Go.Pinned.utf8First

/-- 'chandlerylaw16.ModelNothing': WHATEVER THE INPUT: true; the input reads as it did. -/
def modelNothingSpec : ChangeSpec := { name := "modelNothing", fn := fun _ => fun
  | [d1, d2, d3] => { results := [.lit (.bool true)], args := [d1, d2, d3] }
  | _ => none }
def modelNothingRow : OpenClaim := { program := "ytebfbbjghhagbaagreatdoor", sum := "59324ca6d86815507982e439226f54756ff35bf4fa0907cea11bb139e97cd07a", func := "chandlery/chandlerylaw16.ModelNothing", spec := "modelNothing", inPlace := ["internal/bytealg.IndexByteString", "internal/bytealg.IndexString"], unfollowed := true, recurses := true, named := ["chandlery/dep.words", "chandlery/span.ops", "unicode/utf8.first", "unicode/utf8.acceptRanges", "chandlery/rich.kinds", "internal/bytealg.MaxLen"], loops := true, plainKeys := false, apart := false, laid := [("unicode/utf8.acceptRanges", laid_unicode_utf8_acceptRanges), ("chandlery/span.ops", laid_chandlery_span_ops), ("chandlery/dep.words", laid_chandlery_dep_words), ("chandlery/rich.kinds", laid_chandlery_rich_kinds), ("unicode/utf8.first", laid_unicode_utf8_first)] }
def ModelNothingSaid : Prop := modelNothingRow.holds Tryz.pinned (OpenSpec.ofChange modelNothingSpec)

/-- ITS FALSE NEIGHBOUR: 'it returns false'. Refute it at one input. -/
def modelNothingWrong : ChangeSpec := { name := "modelNothing", fn := fun _ => fun
  | [d1, d2, d3] => { results := [.lit (.bool false)], args := [d1, d2, d3] }
  | _ => none }
def ModelNothingWrongFalsely : Prop := modelNothingRow.holds Tryz.pinned (OpenSpec.ofChange modelNothingWrong)

/-- 'chandlerylaw16.ModelFewer': WHATEVER THE INPUT: true; the input reads as it did. -/
def modelFewerSpec : ChangeSpec := { name := "modelFewer", fn := fun _ => fun
  | [d1, d2, d3, d4, d5] => { results := [.lit (.bool true)], args := [d1, d2, d3, d4, d5] }
  | _ => none }
def modelFewerRow : OpenClaim := { program := "ytebfbbjghhagbaagreatdoor", sum := "59324ca6d86815507982e439226f54756ff35bf4fa0907cea11bb139e97cd07a", func := "chandlery/chandlerylaw16.ModelFewer", spec := "modelFewer", inPlace := ["internal/bytealg.IndexByteString", "internal/bytealg.IndexString"], unfollowed := true, recurses := true, named := ["chandlery/dep.words", "chandlery/span.ops", "unicode/utf8.first", "unicode/utf8.acceptRanges", "chandlery/rich.kinds", "internal/bytealg.MaxLen"], loops := true, plainKeys := false, apart := false, laid := [("unicode/utf8.acceptRanges", laid_unicode_utf8_acceptRanges), ("chandlery/span.ops", laid_chandlery_span_ops), ("chandlery/dep.words", laid_chandlery_dep_words), ("chandlery/rich.kinds", laid_chandlery_rich_kinds), ("unicode/utf8.first", laid_unicode_utf8_first)] }
def ModelFewerSaid : Prop := modelFewerRow.holds Tryz.pinned (OpenSpec.ofChange modelFewerSpec)

/-- ITS FALSE NEIGHBOUR: 'it returns false'. Refute it at one input. -/
def modelFewerWrong : ChangeSpec := { name := "modelFewer", fn := fun _ => fun
  | [d1, d2, d3, d4, d5] => { results := [.lit (.bool false)], args := [d1, d2, d3, d4, d5] }
  | _ => none }
def ModelFewerWrongFalsely : Prop := modelFewerRow.holds Tryz.pinned (OpenSpec.ofChange modelFewerWrong)

/-- 'chandlerylaw16.ModelTells': WHATEVER THE INPUT: true; the input reads as it did. -/
def modelTellsSpec : ChangeSpec := { name := "modelTells", fn := fun _ => fun
  | [d1, d2, d3, d4, d5] => { results := [.lit (.bool true)], args := [d1, d2, d3, d4, d5] }
  | _ => none }
def modelTellsRow : OpenClaim := { program := "ytebfbbjghhagbaagreatdoor", sum := "59324ca6d86815507982e439226f54756ff35bf4fa0907cea11bb139e97cd07a", func := "chandlery/chandlerylaw16.ModelTells", spec := "modelTells", inPlace := ["internal/bytealg.IndexByteString", "internal/bytealg.IndexString"], unfollowed := true, recurses := true, named := ["chandlery/dep.words", "chandlery/span.ops", "unicode/utf8.first", "unicode/utf8.acceptRanges", "chandlery/rich.kinds", "internal/bytealg.MaxLen"], loops := true, plainKeys := false, apart := false, laid := [("unicode/utf8.acceptRanges", laid_unicode_utf8_acceptRanges), ("chandlery/span.ops", laid_chandlery_span_ops), ("chandlery/dep.words", laid_chandlery_dep_words), ("chandlery/rich.kinds", laid_chandlery_rich_kinds), ("unicode/utf8.first", laid_unicode_utf8_first)] }
def ModelTellsSaid : Prop := modelTellsRow.holds Tryz.pinned (OpenSpec.ofChange modelTellsSpec)

/-- ITS FALSE NEIGHBOUR: 'it returns false'. Refute it at one input. -/
def modelTellsWrong : ChangeSpec := { name := "modelTells", fn := fun _ => fun
  | [d1, d2, d3, d4, d5] => { results := [.lit (.bool false)], args := [d1, d2, d3, d4, d5] }
  | _ => none }
def ModelTellsWrongFalsely : Prop := modelTellsRow.holds Tryz.pinned (OpenSpec.ofChange modelTellsWrong)

/-- 'chandlerylaw16.ModelGood': WHATEVER THE INPUT: true; the input reads as it did. -/
def modelGoodSpec : ChangeSpec := { name := "modelGood", fn := fun _ => fun
  | [d1, d2, d3, d4] => { results := [.lit (.bool true)], args := [d1, d2, d3, d4] }
  | _ => none }
def modelGoodRow : OpenClaim := { program := "ytebfbbjghhagbaagreatdoor", sum := "59324ca6d86815507982e439226f54756ff35bf4fa0907cea11bb139e97cd07a", func := "chandlery/chandlerylaw16.ModelGood", spec := "modelGood", inPlace := ["internal/bytealg.IndexByteString", "internal/bytealg.IndexString"], unfollowed := true, recurses := true, named := ["chandlery/dep.words", "chandlery/span.ops", "unicode/utf8.first", "unicode/utf8.acceptRanges", "chandlery/rich.kinds", "internal/bytealg.MaxLen"], loops := true, plainKeys := false, apart := false, laid := [("unicode/utf8.acceptRanges", laid_unicode_utf8_acceptRanges), ("chandlery/span.ops", laid_chandlery_span_ops), ("chandlery/dep.words", laid_chandlery_dep_words), ("chandlery/rich.kinds", laid_chandlery_rich_kinds), ("unicode/utf8.first", laid_unicode_utf8_first)] }
def ModelGoodSaid : Prop := modelGoodRow.holds Tryz.pinned (OpenSpec.ofChange modelGoodSpec)

/-- ITS FALSE NEIGHBOUR: 'it returns false'. Refute it at one input. -/
def modelGoodWrong : ChangeSpec := { name := "modelGood", fn := fun _ => fun
  | [d1, d2, d3, d4] => { results := [.lit (.bool false)], args := [d1, d2, d3, d4] }
  | _ => none }
def ModelGoodWrongFalsely : Prop := modelGoodRow.holds Tryz.pinned (OpenSpec.ofChange modelGoodWrong)

/-- 'chandlerylaw16.ModelNeeds': WHATEVER THE INPUT: true; the input reads as it did. -/
def modelNeedsSpec : ChangeSpec := { name := "modelNeeds", fn := fun _ => fun
  | [d1, d2, d3, d4] => { results := [.lit (.bool true)], args := [d1, d2, d3, d4] }
  | _ => none }
def modelNeedsRow : OpenClaim := { program := "ytebfbbjghhagbaagreatdoor", sum := "59324ca6d86815507982e439226f54756ff35bf4fa0907cea11bb139e97cd07a", func := "chandlery/chandlerylaw16.ModelNeeds", spec := "modelNeeds", inPlace := ["internal/bytealg.IndexByteString", "internal/bytealg.IndexString"], unfollowed := true, recurses := true, named := ["chandlery/dep.words", "chandlery/span.ops", "unicode/utf8.first", "unicode/utf8.acceptRanges", "chandlery/rich.kinds", "internal/bytealg.MaxLen"], loops := true, plainKeys := false, apart := false, laid := [("unicode/utf8.acceptRanges", laid_unicode_utf8_acceptRanges), ("chandlery/span.ops", laid_chandlery_span_ops), ("chandlery/dep.words", laid_chandlery_dep_words), ("chandlery/rich.kinds", laid_chandlery_rich_kinds), ("unicode/utf8.first", laid_unicode_utf8_first)] }
def ModelNeedsSaid : Prop := modelNeedsRow.holds Tryz.pinned (OpenSpec.ofChange modelNeedsSpec)

/-- ITS FALSE NEIGHBOUR: 'it returns false'. Refute it at one input. -/
def modelNeedsWrong : ChangeSpec := { name := "modelNeeds", fn := fun _ => fun
  | [d1, d2, d3, d4] => { results := [.lit (.bool false)], args := [d1, d2, d3, d4] }
  | _ => none }
def ModelNeedsWrongFalsely : Prop := modelNeedsRow.holds Tryz.pinned (OpenSpec.ofChange modelNeedsWrong)

/- THE SECOND FORM. 'bulk': how many values and letters a reading holds, each counted each time it is reached (what is shared counts as often as it is met; a slice's spare places count too). A statement '..UptoSaid' is the law's where the arguments, and the package variables that the reading takes, are together of bulk at most 1048576: NARROWER than '..Said'. Prove '..Said' where nothing that the law and all that it calls make is longer than what came in: it says more and counts as full. Else prove '..UptoSaid'. A law counts once. -/
mutual
def uptoBulk {H : Type} : DataW H → Nat
  | .lit (.string bytes) => bytes.length + 1
  | .lit _ => 1
  | .nil => 1
  | .ptr d => uptoBulk d + 1
  | .slice elems spare => uptoBulkAll elems + uptoBulkAll spare + 1
  | .agg parts => uptoBulkAll parts + 1
  | .iface _ d => uptoBulk d + 1
  | .map entries => uptoBulkEntries entries + 1
  | .held _ => 1
def uptoBulkAll {H : Type} : List (DataW H) → Nat
  | [] => 0
  | d :: r => uptoBulk d + uptoBulkAll r
def uptoBulkEntries {H : Type} : List (Lit × DataW H) → Nat
  | [] => 0
  | x :: r => uptoBulkEntry x + uptoBulkEntries r
def uptoBulkEntry {H : Type} : Lit × DataW H → Nat
  | (.string bytes, d) => bytes.length + uptoBulk d + 1
  | (_, d) => uptoBulk d + 1
 end
def uptoSmall : (H : Type) → List (DataW H) → Bool := fun _ ds => decide (uptoBulkAll ds ≤ 1048576)
def OpenSpec.upto (s : _root_.Go.ChangeSpec) : _root_.Go.OpenSpec := { _root_.Go.OpenSpec.ofChange s with cond := some uptoSmall }

/-- 'chandlerylaw16.ModelNothing', WHERE WHAT IT READS IS OF BULK AT MOST 1048576: true; the input reads as it did. -/
def modelNothingUptoRow : OpenClaim := { program := "ytebfbbjghhagbaagreatdoor", sum := "59324ca6d86815507982e439226f54756ff35bf4fa0907cea11bb139e97cd07a", func := "chandlery/chandlerylaw16.ModelNothing", spec := "modelNothing", inPlace := ["internal/bytealg.IndexByteString", "internal/bytealg.IndexString"], unfollowed := true, recurses := true, named := ["chandlery/dep.words", "chandlery/span.ops", "unicode/utf8.first", "unicode/utf8.acceptRanges", "chandlery/rich.kinds", "internal/bytealg.MaxLen"], loops := true, plainKeys := false, apart := false, laid := [("unicode/utf8.acceptRanges", laid_unicode_utf8_acceptRanges), ("chandlery/span.ops", laid_chandlery_span_ops), ("chandlery/dep.words", laid_chandlery_dep_words), ("chandlery/rich.kinds", laid_chandlery_rich_kinds), ("unicode/utf8.first", laid_unicode_utf8_first)], narrowed := true }
def ModelNothingUptoSaid : Prop := modelNothingUptoRow.holds Tryz.pinned (OpenSpec.upto modelNothingSpec)

/-- 'chandlerylaw16.ModelFewer', WHERE WHAT IT READS IS OF BULK AT MOST 1048576: true; the input reads as it did. -/
def modelFewerUptoRow : OpenClaim := { program := "ytebfbbjghhagbaagreatdoor", sum := "59324ca6d86815507982e439226f54756ff35bf4fa0907cea11bb139e97cd07a", func := "chandlery/chandlerylaw16.ModelFewer", spec := "modelFewer", inPlace := ["internal/bytealg.IndexByteString", "internal/bytealg.IndexString"], unfollowed := true, recurses := true, named := ["chandlery/dep.words", "chandlery/span.ops", "unicode/utf8.first", "unicode/utf8.acceptRanges", "chandlery/rich.kinds", "internal/bytealg.MaxLen"], loops := true, plainKeys := false, apart := false, laid := [("unicode/utf8.acceptRanges", laid_unicode_utf8_acceptRanges), ("chandlery/span.ops", laid_chandlery_span_ops), ("chandlery/dep.words", laid_chandlery_dep_words), ("chandlery/rich.kinds", laid_chandlery_rich_kinds), ("unicode/utf8.first", laid_unicode_utf8_first)], narrowed := true }
def ModelFewerUptoSaid : Prop := modelFewerUptoRow.holds Tryz.pinned (OpenSpec.upto modelFewerSpec)

/-- 'chandlerylaw16.ModelTells', WHERE WHAT IT READS IS OF BULK AT MOST 1048576: true; the input reads as it did. -/
def modelTellsUptoRow : OpenClaim := { program := "ytebfbbjghhagbaagreatdoor", sum := "59324ca6d86815507982e439226f54756ff35bf4fa0907cea11bb139e97cd07a", func := "chandlery/chandlerylaw16.ModelTells", spec := "modelTells", inPlace := ["internal/bytealg.IndexByteString", "internal/bytealg.IndexString"], unfollowed := true, recurses := true, named := ["chandlery/dep.words", "chandlery/span.ops", "unicode/utf8.first", "unicode/utf8.acceptRanges", "chandlery/rich.kinds", "internal/bytealg.MaxLen"], loops := true, plainKeys := false, apart := false, laid := [("unicode/utf8.acceptRanges", laid_unicode_utf8_acceptRanges), ("chandlery/span.ops", laid_chandlery_span_ops), ("chandlery/dep.words", laid_chandlery_dep_words), ("chandlery/rich.kinds", laid_chandlery_rich_kinds), ("unicode/utf8.first", laid_unicode_utf8_first)], narrowed := true }
def ModelTellsUptoSaid : Prop := modelTellsUptoRow.holds Tryz.pinned (OpenSpec.upto modelTellsSpec)

/-- 'chandlerylaw16.ModelGood', WHERE WHAT IT READS IS OF BULK AT MOST 1048576: true; the input reads as it did. -/
def modelGoodUptoRow : OpenClaim := { program := "ytebfbbjghhagbaagreatdoor", sum := "59324ca6d86815507982e439226f54756ff35bf4fa0907cea11bb139e97cd07a", func := "chandlery/chandlerylaw16.ModelGood", spec := "modelGood", inPlace := ["internal/bytealg.IndexByteString", "internal/bytealg.IndexString"], unfollowed := true, recurses := true, named := ["chandlery/dep.words", "chandlery/span.ops", "unicode/utf8.first", "unicode/utf8.acceptRanges", "chandlery/rich.kinds", "internal/bytealg.MaxLen"], loops := true, plainKeys := false, apart := false, laid := [("unicode/utf8.acceptRanges", laid_unicode_utf8_acceptRanges), ("chandlery/span.ops", laid_chandlery_span_ops), ("chandlery/dep.words", laid_chandlery_dep_words), ("chandlery/rich.kinds", laid_chandlery_rich_kinds), ("unicode/utf8.first", laid_unicode_utf8_first)], narrowed := true }
def ModelGoodUptoSaid : Prop := modelGoodUptoRow.holds Tryz.pinned (OpenSpec.upto modelGoodSpec)

/-- 'chandlerylaw16.ModelNeeds', WHERE WHAT IT READS IS OF BULK AT MOST 1048576: true; the input reads as it did. -/
def modelNeedsUptoRow : OpenClaim := { program := "ytebfbbjghhagbaagreatdoor", sum := "59324ca6d86815507982e439226f54756ff35bf4fa0907cea11bb139e97cd07a", func := "chandlery/chandlerylaw16.ModelNeeds", spec := "modelNeeds", inPlace := ["internal/bytealg.IndexByteString", "internal/bytealg.IndexString"], unfollowed := true, recurses := true, named := ["chandlery/dep.words", "chandlery/span.ops", "unicode/utf8.first", "unicode/utf8.acceptRanges", "chandlery/rich.kinds", "internal/bytealg.MaxLen"], loops := true, plainKeys := false, apart := false, laid := [("unicode/utf8.acceptRanges", laid_unicode_utf8_acceptRanges), ("chandlery/span.ops", laid_chandlery_span_ops), ("chandlery/dep.words", laid_chandlery_dep_words), ("chandlery/rich.kinds", laid_chandlery_rich_kinds), ("unicode/utf8.first", laid_unicode_utf8_first)], narrowed := true }
def ModelNeedsUptoSaid : Prop := modelNeedsUptoRow.holds Tryz.pinned (OpenSpec.upto modelNeedsSpec)

end Rows
end Go.Proofs.YtebfbbjghhagbaaGreatDoor
