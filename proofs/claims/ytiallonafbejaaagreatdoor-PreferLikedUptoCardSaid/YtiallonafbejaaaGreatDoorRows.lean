/-
  NARROWER THAN 'FOR EVERY INPUT', by the rows' own cells (each row's printed sentence says how): PoolByName: loops, laid · MatchTurned: loops, laid · MatchEach: loops, laid · AskEdits: loops, laid · AskItself: loops, laid · AskStates: loops, laid · PreferRow: loops, laid · PreferLiked: loops, laid · OrderNames: laid · OrderOnce: loops, laid.
  DERIVED. THE GIVEN ROWS OF THIS SEAT. 10 by the template 'for every input the law returns true; each argument reads behind the call as it read before'; 0 by the template 'total and deterministic' (their statements: YtiallonafbejaaaGreatDoorTotals.lean).
  GIVEN WITH THE SEED: the statements are not yours to turn. If you find one false, say at which input.
  Laid BY PROGRAM, IN A SANDBOX (cutbox-rows.mjs): the forced cells as the released guide's own fill.sh prints them over the translation 36bd21e226c5046d… (all of the seat's roots in one cut). By AI agents, Wed Nov 11 2026. No macro, syntax, notation, axiom, sorry.
-/
import Derived.Test.YtiallonafbejaaaGreatDoorChecked
import GoSem.PinnedTables
import GoSem.Claim
import GoSem.ClaimJoined
import GoSem.ClaimMapViews
import Derived.JoinedTies
import Derived.KernelRfl
namespace Go.Proofs.YtiallonafbejaaaGreatDoor
/- THE CELL 'sum', in the pinned program and in every row, IS THE sha256 OF THE DUMP (.gsa) THAT YtiallonafbejaaaGreatDoorProg.lean LOADS. Nothing in Lean hashes anything: it is a label: what it is worth is what the hold of that sum in a sandbox is worth. -/
noncomputable def Tryz.pinned : Pinned := { name := "ytiallonafbejaaagreatdoor", sum := "36bd21e226c5046da13d5949bb79a2c338b65758609f00384fc8ced9180fb066", checked := Tryz.checked }
namespace Rows
def none {H : Type} : Left H := { results := [], args := [] }

/- WHAT THE LISTED PACKAGE-LEVEL VARIABLES READ AS WHEN THE CALL BEGINS. Each datum BY PROGRAM (the guide's laid-datum.mjs) off the statement by which the dump's own 'gosem.cut.vars' lays the variable. In a bare row this is a premise. The card (YtiallonafbejaaaGreatDoorCards.lean) ties it to the program's text. -/
def laid_unicode_utf8_acceptRanges {H : Type} : DataW H := .agg [.agg [.lit (.int .u8 128), .lit (.int .u8 191)], .agg [.lit (.int .u8 160), .lit (.int .u8 191)], .agg [.lit (.int .u8 128), .lit (.int .u8 159)], .agg [.lit (.int .u8 144), .lit (.int .u8 191)], .agg [.lit (.int .u8 128), .lit (.int .u8 143)], .agg [.lit (.int .u8 0), .lit (.int .u8 0)], .agg [.lit (.int .u8 0), .lit (.int .u8 0)], .agg [.lit (.int .u8 0), .lit (.int .u8 0)], .agg [.lit (.int .u8 0), .lit (.int .u8 0)], .agg [.lit (.int .u8 0), .lit (.int .u8 0)], .agg [.lit (.int .u8 0), .lit (.int .u8 0)], .agg [.lit (.int .u8 0), .lit (.int .u8 0)], .agg [.lit (.int .u8 0), .lit (.int .u8 0)], .agg [.lit (.int .u8 0), .lit (.int .u8 0)], .agg [.lit (.int .u8 0), .lit (.int .u8 0)], .agg [.lit (.int .u8 0), .lit (.int .u8 0)]]
def laid_chandlery_span_ops {H : Type} : DataW H := .map [(.string [], .lit (.int .u8 0)), (.string [60], .lit (.int .u8 1)), (.string [60, 61], .lit (.int .u8 3)), (.string [61], .lit (.int .u8 2)), (.string [62], .lit (.int .u8 4)), (.string [62, 61], .lit (.int .u8 6))]
def laid_chandlery_dep_words {H : Type} : DataW H := .agg [.lit (.string [97, 110, 100]), .lit (.string [111, 114]), .lit (.string [105, 102]), .lit (.string [101, 108, 115, 101]), .lit (.string [117, 110, 108, 101, 115, 115]), .lit (.string [119, 105, 116, 104]), .lit (.string [119, 105, 116, 104, 111, 117, 116])]
/-- One of Go's own tables, pinned by name: the form's constant. -/
def laid_unicode_utf8_first : DataW Unit := Go.Pinned.utf8First
def laid_chandlery_rich_kinds {H : Type} : DataW H := .agg [.agg [.lit (.string []), .lit (.int .i64 0)], .agg [.lit (.string []), .lit (.int .i64 0)], .agg [.lit (.string [97, 110, 100]), .lit (.int .i64 24)], .agg [.lit (.string [111, 114]), .lit (.int .i64 24)], .agg [.lit (.string [105, 102]), .lit (.int .i64 3)], .agg [.lit (.string [117, 110, 108, 101, 115, 115]), .lit (.int .i64 3)], .agg [.lit (.string [119, 105, 116, 104]), .lit (.int .i64 24)], .agg [.lit (.string [119, 105, 116, 104, 111, 117, 116]), .lit (.int .i64 2)]]

/-- 'chandlerylaw12.PoolByName': WHATEVER THE INPUT: true; the input reads as it did. -/
def poolByNameSpec : ChangeSpec := { name := "poolByName", fn := fun _ => fun
  | [d1, d2] => { results := [.lit (.bool true)], args := [d1, d2] }
  | _ => none }
def poolByNameRow : OpenClaim := { program := "ytiallonafbejaaagreatdoor", sum := "36bd21e226c5046da13d5949bb79a2c338b65758609f00384fc8ced9180fb066", func := "chandlery/chandlerylaw12.PoolByName", spec := "poolByName", inPlace := ["internal/bytealg.IndexByteString", "internal/bytealg.IndexString"], unfollowed := true, recurses := true, named := ["chandlery/dep.words", "chandlery/span.ops", "unicode/utf8.first", "unicode/utf8.acceptRanges", "internal/bytealg.MaxLen"], loops := true, apart := false, laid := [("unicode/utf8.acceptRanges", laid_unicode_utf8_acceptRanges), ("chandlery/span.ops", laid_chandlery_span_ops), ("chandlery/dep.words", laid_chandlery_dep_words), ("unicode/utf8.first", laid_unicode_utf8_first)] }
def PoolByNameSaid : Prop := poolByNameRow.holds Tryz.pinned (OpenSpec.ofChange poolByNameSpec)

/-- ITS FALSE NEIGHBOUR: 'it returns false'. Refute it at one input. -/
def poolByNameWrong : ChangeSpec := { name := "poolByName", fn := fun _ => fun
  | [d1, d2] => { results := [.lit (.bool false)], args := [d1, d2] }
  | _ => none }
def PoolByNameWrongFalsely : Prop := poolByNameRow.holds Tryz.pinned (OpenSpec.ofChange poolByNameWrong)

/-- 'chandlerylaw13.MatchTurned': WHATEVER THE INPUT: true; the input reads as it did. -/
def matchTurnedSpec : ChangeSpec := { name := "matchTurned", fn := fun _ => fun
  | [d1, d2] => { results := [.lit (.bool true)], args := [d1, d2] }
  | _ => none }
def matchTurnedRow : OpenClaim := { program := "ytiallonafbejaaagreatdoor", sum := "36bd21e226c5046da13d5949bb79a2c338b65758609f00384fc8ced9180fb066", func := "chandlery/chandlerylaw13.MatchTurned", spec := "matchTurned", inPlace := ["internal/bytealg.IndexByteString", "internal/bytealg.IndexString"], unfollowed := true, recurses := true, named := ["chandlery/dep.words", "chandlery/span.ops", "unicode/utf8.first", "unicode/utf8.acceptRanges", "internal/bytealg.MaxLen"], loops := true, apart := false, laid := [("unicode/utf8.acceptRanges", laid_unicode_utf8_acceptRanges), ("chandlery/span.ops", laid_chandlery_span_ops), ("chandlery/dep.words", laid_chandlery_dep_words), ("unicode/utf8.first", laid_unicode_utf8_first)] }
def MatchTurnedSaid : Prop := matchTurnedRow.holds Tryz.pinned (OpenSpec.ofChange matchTurnedSpec)

/-- ITS FALSE NEIGHBOUR: 'it returns false'. Refute it at one input. -/
def matchTurnedWrong : ChangeSpec := { name := "matchTurned", fn := fun _ => fun
  | [d1, d2] => { results := [.lit (.bool false)], args := [d1, d2] }
  | _ => none }
def MatchTurnedWrongFalsely : Prop := matchTurnedRow.holds Tryz.pinned (OpenSpec.ofChange matchTurnedWrong)

/-- 'chandlerylaw13.MatchEach': WHATEVER THE INPUT: true; the input reads as it did. -/
def matchEachSpec : ChangeSpec := { name := "matchEach", fn := fun _ => fun
  | [d1, d2, d3] => { results := [.lit (.bool true)], args := [d1, d2, d3] }
  | _ => none }
def matchEachRow : OpenClaim := { program := "ytiallonafbejaaagreatdoor", sum := "36bd21e226c5046da13d5949bb79a2c338b65758609f00384fc8ced9180fb066", func := "chandlery/chandlerylaw13.MatchEach", spec := "matchEach", inPlace := ["internal/bytealg.IndexByteString", "internal/bytealg.IndexString"], unfollowed := true, recurses := true, named := ["chandlery/dep.words", "chandlery/span.ops", "unicode/utf8.first", "unicode/utf8.acceptRanges", "internal/bytealg.MaxLen"], loops := true, apart := false, laid := [("unicode/utf8.acceptRanges", laid_unicode_utf8_acceptRanges), ("chandlery/span.ops", laid_chandlery_span_ops), ("chandlery/dep.words", laid_chandlery_dep_words), ("unicode/utf8.first", laid_unicode_utf8_first)] }
def MatchEachSaid : Prop := matchEachRow.holds Tryz.pinned (OpenSpec.ofChange matchEachSpec)

/-- ITS FALSE NEIGHBOUR: 'it returns false'. Refute it at one input. -/
def matchEachWrong : ChangeSpec := { name := "matchEach", fn := fun _ => fun
  | [d1, d2, d3] => { results := [.lit (.bool false)], args := [d1, d2, d3] }
  | _ => none }
def MatchEachWrongFalsely : Prop := matchEachRow.holds Tryz.pinned (OpenSpec.ofChange matchEachWrong)

/-- 'chandlerylaw15.AskEdits': WHATEVER THE INPUT: true; the input reads as it did. -/
def askEditsSpec : ChangeSpec := { name := "askEdits", fn := fun _ => fun
  | [d1, d2, d3, d4] => { results := [.lit (.bool true)], args := [d1, d2, d3, d4] }
  | _ => none }
def askEditsRow : OpenClaim := { program := "ytiallonafbejaaagreatdoor", sum := "36bd21e226c5046da13d5949bb79a2c338b65758609f00384fc8ced9180fb066", func := "chandlery/chandlerylaw15.AskEdits", spec := "askEdits", inPlace := ["internal/bytealg.IndexByteString", "internal/bytealg.IndexString"], unfollowed := true, recurses := true, named := ["chandlery/dep.words", "chandlery/span.ops", "unicode/utf8.first", "unicode/utf8.acceptRanges", "internal/bytealg.MaxLen"], loops := true, apart := false, laid := [("unicode/utf8.acceptRanges", laid_unicode_utf8_acceptRanges), ("chandlery/span.ops", laid_chandlery_span_ops), ("chandlery/dep.words", laid_chandlery_dep_words), ("unicode/utf8.first", laid_unicode_utf8_first)] }
def AskEditsSaid : Prop := askEditsRow.holds Tryz.pinned (OpenSpec.ofChange askEditsSpec)

/-- ITS FALSE NEIGHBOUR: 'it returns false'. Refute it at one input. -/
def askEditsWrong : ChangeSpec := { name := "askEdits", fn := fun _ => fun
  | [d1, d2, d3, d4] => { results := [.lit (.bool false)], args := [d1, d2, d3, d4] }
  | _ => none }
def AskEditsWrongFalsely : Prop := askEditsRow.holds Tryz.pinned (OpenSpec.ofChange askEditsWrong)

/-- 'chandlerylaw15.AskItself': WHATEVER THE INPUT: true; the input reads as it did. -/
def askItselfSpec : ChangeSpec := { name := "askItself", fn := fun _ => fun
  | [d1, d2, d3] => { results := [.lit (.bool true)], args := [d1, d2, d3] }
  | _ => none }
def askItselfRow : OpenClaim := { program := "ytiallonafbejaaagreatdoor", sum := "36bd21e226c5046da13d5949bb79a2c338b65758609f00384fc8ced9180fb066", func := "chandlery/chandlerylaw15.AskItself", spec := "askItself", inPlace := ["internal/bytealg.IndexByteString", "internal/bytealg.IndexString"], unfollowed := true, recurses := true, named := ["chandlery/dep.words", "chandlery/span.ops", "unicode/utf8.first", "unicode/utf8.acceptRanges", "internal/bytealg.MaxLen"], loops := true, apart := false, laid := [("unicode/utf8.acceptRanges", laid_unicode_utf8_acceptRanges), ("chandlery/span.ops", laid_chandlery_span_ops), ("chandlery/dep.words", laid_chandlery_dep_words), ("unicode/utf8.first", laid_unicode_utf8_first)] }
def AskItselfSaid : Prop := askItselfRow.holds Tryz.pinned (OpenSpec.ofChange askItselfSpec)

/-- ITS FALSE NEIGHBOUR: 'it returns false'. Refute it at one input. -/
def askItselfWrong : ChangeSpec := { name := "askItself", fn := fun _ => fun
  | [d1, d2, d3] => { results := [.lit (.bool false)], args := [d1, d2, d3] }
  | _ => none }
def AskItselfWrongFalsely : Prop := askItselfRow.holds Tryz.pinned (OpenSpec.ofChange askItselfWrong)

/-- 'chandlerylaw15.AskStates': WHATEVER THE INPUT: true; the input reads as it did. -/
def askStatesSpec : ChangeSpec := { name := "askStates", fn := fun _ => fun
  | [d1, d2, d3, d4, d5] => { results := [.lit (.bool true)], args := [d1, d2, d3, d4, d5] }
  | _ => none }
def askStatesRow : OpenClaim := { program := "ytiallonafbejaaagreatdoor", sum := "36bd21e226c5046da13d5949bb79a2c338b65758609f00384fc8ced9180fb066", func := "chandlery/chandlerylaw15.AskStates", spec := "askStates", inPlace := ["internal/bytealg.IndexByteString", "internal/bytealg.IndexString"], unfollowed := true, recurses := true, named := ["chandlery/dep.words", "chandlery/span.ops", "unicode/utf8.first", "unicode/utf8.acceptRanges", "internal/bytealg.MaxLen"], loops := true, apart := false, laid := [("unicode/utf8.acceptRanges", laid_unicode_utf8_acceptRanges), ("chandlery/span.ops", laid_chandlery_span_ops), ("chandlery/dep.words", laid_chandlery_dep_words), ("unicode/utf8.first", laid_unicode_utf8_first)] }
def AskStatesSaid : Prop := askStatesRow.holds Tryz.pinned (OpenSpec.ofChange askStatesSpec)

/-- ITS FALSE NEIGHBOUR: 'it returns false'. Refute it at one input. -/
def askStatesWrong : ChangeSpec := { name := "askStates", fn := fun _ => fun
  | [d1, d2, d3, d4, d5] => { results := [.lit (.bool false)], args := [d1, d2, d3, d4, d5] }
  | _ => none }
def AskStatesWrongFalsely : Prop := askStatesRow.holds Tryz.pinned (OpenSpec.ofChange askStatesWrong)

/-- 'chandlerylaw25.PreferRow': WHATEVER THE INPUT: true; the input reads as it did. -/
def preferRowSpec : ChangeSpec := { name := "preferRow", fn := fun _ => fun
  | [d1, d2, d3, d4, d5, d6, d7] => { results := [.lit (.bool true)], args := [d1, d2, d3, d4, d5, d6, d7] }
  | _ => none }
def preferRowRow : OpenClaim := { program := "ytiallonafbejaaagreatdoor", sum := "36bd21e226c5046da13d5949bb79a2c338b65758609f00384fc8ced9180fb066", func := "chandlery/chandlerylaw25.PreferRow", spec := "preferRow", inPlace := ["internal/bytealg.IndexByteString", "internal/bytealg.IndexString"], unfollowed := true, recurses := true, named := ["chandlery/dep.words", "chandlery/span.ops", "unicode/utf8.first", "unicode/utf8.acceptRanges", "chandlery/rich.kinds", "internal/bytealg.MaxLen"], loops := true, apart := false, laid := [("unicode/utf8.acceptRanges", laid_unicode_utf8_acceptRanges), ("chandlery/span.ops", laid_chandlery_span_ops), ("chandlery/dep.words", laid_chandlery_dep_words), ("chandlery/rich.kinds", laid_chandlery_rich_kinds), ("unicode/utf8.first", laid_unicode_utf8_first)] }
def PreferRowSaid : Prop := preferRowRow.holds Tryz.pinned (OpenSpec.ofChange preferRowSpec)

/-- ITS FALSE NEIGHBOUR: 'it returns false'. Refute it at one input. -/
def preferRowWrong : ChangeSpec := { name := "preferRow", fn := fun _ => fun
  | [d1, d2, d3, d4, d5, d6, d7] => { results := [.lit (.bool false)], args := [d1, d2, d3, d4, d5, d6, d7] }
  | _ => none }
def PreferRowWrongFalsely : Prop := preferRowRow.holds Tryz.pinned (OpenSpec.ofChange preferRowWrong)

/-- 'chandlerylaw25.PreferLiked': WHATEVER THE INPUT: true; the input reads as it did. -/
def preferLikedSpec : ChangeSpec := { name := "preferLiked", fn := fun _ => fun
  | [d1, d2, d3, d4, d5] => { results := [.lit (.bool true)], args := [d1, d2, d3, d4, d5] }
  | _ => none }
def preferLikedRow : OpenClaim := { program := "ytiallonafbejaaagreatdoor", sum := "36bd21e226c5046da13d5949bb79a2c338b65758609f00384fc8ced9180fb066", func := "chandlery/chandlerylaw25.PreferLiked", spec := "preferLiked", inPlace := ["internal/bytealg.IndexByteString", "internal/bytealg.IndexString"], unfollowed := true, recurses := true, named := ["chandlery/dep.words", "chandlery/span.ops", "unicode/utf8.first", "unicode/utf8.acceptRanges", "chandlery/rich.kinds", "internal/bytealg.MaxLen"], loops := true, apart := false, laid := [("unicode/utf8.acceptRanges", laid_unicode_utf8_acceptRanges), ("chandlery/span.ops", laid_chandlery_span_ops), ("chandlery/dep.words", laid_chandlery_dep_words), ("chandlery/rich.kinds", laid_chandlery_rich_kinds), ("unicode/utf8.first", laid_unicode_utf8_first)] }
def PreferLikedSaid : Prop := preferLikedRow.holds Tryz.pinned (OpenSpec.ofChange preferLikedSpec)

/-- ITS FALSE NEIGHBOUR: 'it returns false'. Refute it at one input. -/
def preferLikedWrong : ChangeSpec := { name := "preferLiked", fn := fun _ => fun
  | [d1, d2, d3, d4, d5] => { results := [.lit (.bool false)], args := [d1, d2, d3, d4, d5] }
  | _ => none }
def PreferLikedWrongFalsely : Prop := preferLikedRow.holds Tryz.pinned (OpenSpec.ofChange preferLikedWrong)

/-- 'chandlerylaw31.OrderNames': WHATEVER THE INPUT: true; the input reads as it did. -/
def orderNamesSpec : ChangeSpec := { name := "orderNames", fn := fun _ => fun
  | [] => { results := [.lit (.bool true)], args := [] }
  | _ => none }
def orderNamesRow : OpenClaim := { program := "ytiallonafbejaaagreatdoor", sum := "36bd21e226c5046da13d5949bb79a2c338b65758609f00384fc8ced9180fb066", func := "chandlery/chandlerylaw31.OrderNames", spec := "orderNames", inPlace := ["internal/bytealg.IndexByteString", "internal/bytealg.IndexString"], unfollowed := true, recurses := true, named := ["unicode/utf8.first", "unicode/utf8.acceptRanges", "chandlery/dep.words", "chandlery/span.ops", "internal/bytealg.MaxLen"], apart := false, laid := [("unicode/utf8.acceptRanges", laid_unicode_utf8_acceptRanges), ("chandlery/span.ops", laid_chandlery_span_ops), ("chandlery/dep.words", laid_chandlery_dep_words), ("unicode/utf8.first", laid_unicode_utf8_first)] }
def OrderNamesSaid : Prop := orderNamesRow.holds Tryz.pinned (OpenSpec.ofChange orderNamesSpec)

/-- ITS FALSE NEIGHBOUR: 'it returns false'. Refute it at one input. -/
def orderNamesWrong : ChangeSpec := { name := "orderNames", fn := fun _ => fun
  | [] => { results := [.lit (.bool false)], args := [] }
  | _ => none }
def OrderNamesWrongFalsely : Prop := orderNamesRow.holds Tryz.pinned (OpenSpec.ofChange orderNamesWrong)

/-- 'chandlerylaw31.OrderOnce': WHATEVER THE INPUT: true; the input reads as it did. -/
def orderOnceSpec : ChangeSpec := { name := "orderOnce", fn := fun _ => fun
  | [d1, d2, d3, d4] => { results := [.lit (.bool true)], args := [d1, d2, d3, d4] }
  | _ => none }
def orderOnceRow : OpenClaim := { program := "ytiallonafbejaaagreatdoor", sum := "36bd21e226c5046da13d5949bb79a2c338b65758609f00384fc8ced9180fb066", func := "chandlery/chandlerylaw31.OrderOnce", spec := "orderOnce", inPlace := ["internal/bytealg.IndexByteString", "internal/bytealg.IndexString"], unfollowed := true, recurses := true, named := ["chandlery/dep.words", "chandlery/span.ops", "unicode/utf8.first", "unicode/utf8.acceptRanges", "internal/bytealg.MaxLen"], loops := true, apart := false, laid := [("unicode/utf8.acceptRanges", laid_unicode_utf8_acceptRanges), ("chandlery/span.ops", laid_chandlery_span_ops), ("chandlery/dep.words", laid_chandlery_dep_words), ("unicode/utf8.first", laid_unicode_utf8_first)] }
def OrderOnceSaid : Prop := orderOnceRow.holds Tryz.pinned (OpenSpec.ofChange orderOnceSpec)

/-- ITS FALSE NEIGHBOUR: 'it returns false'. Refute it at one input. -/
def orderOnceWrong : ChangeSpec := { name := "orderOnce", fn := fun _ => fun
  | [d1, d2, d3, d4] => { results := [.lit (.bool false)], args := [d1, d2, d3, d4] }
  | _ => none }
def OrderOnceWrongFalsely : Prop := orderOnceRow.holds Tryz.pinned (OpenSpec.ofChange orderOnceWrong)

/- THE SECOND FORM. 'bulk': how many values and letters a reading holds, each counted each time it is reached (what is shared counts as often as it is met; a slice's spare places count too). A statement '..UptoSaid' is the law's where the arguments, and the package variables that the reading takes, are together of bulk at most 1048576: NARROWER than '..Said'. Prove '..Said' where nothing that the law and all that it calls make is longer than what came in: it says more and counts as full. Else prove '..UptoSaid'. A law counts once. -/
mutual
def uptoBulk {H : Type} : DataW H → Nat
  | .lit (.string bytes) => bytes.length + 1
  | .lit _ => 1
  | .nil => 1
  | .ptr d => uptoBulk d + 1
  | .slice elems spare => uptoBulkAll elems + uptoBulkAll spare + 1
  | .agg parts => uptoBulkAll parts + 1
  | .iface _ d => uptoBulk d + 1
  | .map entries => uptoBulkEntries entries + 1
  | .held _ => 1
def uptoBulkAll {H : Type} : List (DataW H) → Nat
  | [] => 0
  | d :: r => uptoBulk d + uptoBulkAll r
def uptoBulkEntries {H : Type} : List (Lit × DataW H) → Nat
  | [] => 0
  | x :: r => uptoBulkEntry x + uptoBulkEntries r
def uptoBulkEntry {H : Type} : Lit × DataW H → Nat
  | (.string bytes, d) => bytes.length + uptoBulk d + 1
  | (_, d) => uptoBulk d + 1
 end
def uptoSmall : (H : Type) → List (DataW H) → Bool := fun _ ds => decide (uptoBulkAll ds ≤ 1048576)
def OpenSpec.upto (s : _root_.Go.ChangeSpec) : _root_.Go.OpenSpec := { _root_.Go.OpenSpec.ofChange s with cond := some uptoSmall }

/-- 'chandlerylaw12.PoolByName', WHERE WHAT IT READS IS OF BULK AT MOST 1048576: true; the input reads as it did. -/
def poolByNameUptoRow : OpenClaim := { program := "ytiallonafbejaaagreatdoor", sum := "36bd21e226c5046da13d5949bb79a2c338b65758609f00384fc8ced9180fb066", func := "chandlery/chandlerylaw12.PoolByName", spec := "poolByName", inPlace := ["internal/bytealg.IndexByteString", "internal/bytealg.IndexString"], unfollowed := true, recurses := true, named := ["chandlery/dep.words", "chandlery/span.ops", "unicode/utf8.first", "unicode/utf8.acceptRanges", "internal/bytealg.MaxLen"], loops := true, apart := false, laid := [("unicode/utf8.acceptRanges", laid_unicode_utf8_acceptRanges), ("chandlery/span.ops", laid_chandlery_span_ops), ("chandlery/dep.words", laid_chandlery_dep_words), ("unicode/utf8.first", laid_unicode_utf8_first)], narrowed := true }
def PoolByNameUptoSaid : Prop := poolByNameUptoRow.holds Tryz.pinned (OpenSpec.upto poolByNameSpec)

/-- 'chandlerylaw13.MatchTurned', WHERE WHAT IT READS IS OF BULK AT MOST 1048576: true; the input reads as it did. -/
def matchTurnedUptoRow : OpenClaim := { program := "ytiallonafbejaaagreatdoor", sum := "36bd21e226c5046da13d5949bb79a2c338b65758609f00384fc8ced9180fb066", func := "chandlery/chandlerylaw13.MatchTurned", spec := "matchTurned", inPlace := ["internal/bytealg.IndexByteString", "internal/bytealg.IndexString"], unfollowed := true, recurses := true, named := ["chandlery/dep.words", "chandlery/span.ops", "unicode/utf8.first", "unicode/utf8.acceptRanges", "internal/bytealg.MaxLen"], loops := true, apart := false, laid := [("unicode/utf8.acceptRanges", laid_unicode_utf8_acceptRanges), ("chandlery/span.ops", laid_chandlery_span_ops), ("chandlery/dep.words", laid_chandlery_dep_words), ("unicode/utf8.first", laid_unicode_utf8_first)], narrowed := true }
def MatchTurnedUptoSaid : Prop := matchTurnedUptoRow.holds Tryz.pinned (OpenSpec.upto matchTurnedSpec)

/-- 'chandlerylaw13.MatchEach', WHERE WHAT IT READS IS OF BULK AT MOST 1048576: true; the input reads as it did. -/
def matchEachUptoRow : OpenClaim := { program := "ytiallonafbejaaagreatdoor", sum := "36bd21e226c5046da13d5949bb79a2c338b65758609f00384fc8ced9180fb066", func := "chandlery/chandlerylaw13.MatchEach", spec := "matchEach", inPlace := ["internal/bytealg.IndexByteString", "internal/bytealg.IndexString"], unfollowed := true, recurses := true, named := ["chandlery/dep.words", "chandlery/span.ops", "unicode/utf8.first", "unicode/utf8.acceptRanges", "internal/bytealg.MaxLen"], loops := true, apart := false, laid := [("unicode/utf8.acceptRanges", laid_unicode_utf8_acceptRanges), ("chandlery/span.ops", laid_chandlery_span_ops), ("chandlery/dep.words", laid_chandlery_dep_words), ("unicode/utf8.first", laid_unicode_utf8_first)], narrowed := true }
def MatchEachUptoSaid : Prop := matchEachUptoRow.holds Tryz.pinned (OpenSpec.upto matchEachSpec)

/-- 'chandlerylaw15.AskEdits', WHERE WHAT IT READS IS OF BULK AT MOST 1048576: true; the input reads as it did. -/
def askEditsUptoRow : OpenClaim := { program := "ytiallonafbejaaagreatdoor", sum := "36bd21e226c5046da13d5949bb79a2c338b65758609f00384fc8ced9180fb066", func := "chandlery/chandlerylaw15.AskEdits", spec := "askEdits", inPlace := ["internal/bytealg.IndexByteString", "internal/bytealg.IndexString"], unfollowed := true, recurses := true, named := ["chandlery/dep.words", "chandlery/span.ops", "unicode/utf8.first", "unicode/utf8.acceptRanges", "internal/bytealg.MaxLen"], loops := true, apart := false, laid := [("unicode/utf8.acceptRanges", laid_unicode_utf8_acceptRanges), ("chandlery/span.ops", laid_chandlery_span_ops), ("chandlery/dep.words", laid_chandlery_dep_words), ("unicode/utf8.first", laid_unicode_utf8_first)], narrowed := true }
def AskEditsUptoSaid : Prop := askEditsUptoRow.holds Tryz.pinned (OpenSpec.upto askEditsSpec)

/-- 'chandlerylaw15.AskItself', WHERE WHAT IT READS IS OF BULK AT MOST 1048576: true; the input reads as it did. -/
def askItselfUptoRow : OpenClaim := { program := "ytiallonafbejaaagreatdoor", sum := "36bd21e226c5046da13d5949bb79a2c338b65758609f00384fc8ced9180fb066", func := "chandlery/chandlerylaw15.AskItself", spec := "askItself", inPlace := ["internal/bytealg.IndexByteString", "internal/bytealg.IndexString"], unfollowed := true, recurses := true, named := ["chandlery/dep.words", "chandlery/span.ops", "unicode/utf8.first", "unicode/utf8.acceptRanges", "internal/bytealg.MaxLen"], loops := true, apart := false, laid := [("unicode/utf8.acceptRanges", laid_unicode_utf8_acceptRanges), ("chandlery/span.ops", laid_chandlery_span_ops), ("chandlery/dep.words", laid_chandlery_dep_words), ("unicode/utf8.first", laid_unicode_utf8_first)], narrowed := true }
def AskItselfUptoSaid : Prop := askItselfUptoRow.holds Tryz.pinned (OpenSpec.upto askItselfSpec)

/-- 'chandlerylaw15.AskStates', WHERE WHAT IT READS IS OF BULK AT MOST 1048576: true; the input reads as it did. -/
def askStatesUptoRow : OpenClaim := { program := "ytiallonafbejaaagreatdoor", sum := "36bd21e226c5046da13d5949bb79a2c338b65758609f00384fc8ced9180fb066", func := "chandlery/chandlerylaw15.AskStates", spec := "askStates", inPlace := ["internal/bytealg.IndexByteString", "internal/bytealg.IndexString"], unfollowed := true, recurses := true, named := ["chandlery/dep.words", "chandlery/span.ops", "unicode/utf8.first", "unicode/utf8.acceptRanges", "internal/bytealg.MaxLen"], loops := true, apart := false, laid := [("unicode/utf8.acceptRanges", laid_unicode_utf8_acceptRanges), ("chandlery/span.ops", laid_chandlery_span_ops), ("chandlery/dep.words", laid_chandlery_dep_words), ("unicode/utf8.first", laid_unicode_utf8_first)], narrowed := true }
def AskStatesUptoSaid : Prop := askStatesUptoRow.holds Tryz.pinned (OpenSpec.upto askStatesSpec)

/-- 'chandlerylaw25.PreferRow', WHERE WHAT IT READS IS OF BULK AT MOST 1048576: true; the input reads as it did. -/
def preferRowUptoRow : OpenClaim := { program := "ytiallonafbejaaagreatdoor", sum := "36bd21e226c5046da13d5949bb79a2c338b65758609f00384fc8ced9180fb066", func := "chandlery/chandlerylaw25.PreferRow", spec := "preferRow", inPlace := ["internal/bytealg.IndexByteString", "internal/bytealg.IndexString"], unfollowed := true, recurses := true, named := ["chandlery/dep.words", "chandlery/span.ops", "unicode/utf8.first", "unicode/utf8.acceptRanges", "chandlery/rich.kinds", "internal/bytealg.MaxLen"], loops := true, apart := false, laid := [("unicode/utf8.acceptRanges", laid_unicode_utf8_acceptRanges), ("chandlery/span.ops", laid_chandlery_span_ops), ("chandlery/dep.words", laid_chandlery_dep_words), ("chandlery/rich.kinds", laid_chandlery_rich_kinds), ("unicode/utf8.first", laid_unicode_utf8_first)], narrowed := true }
def PreferRowUptoSaid : Prop := preferRowUptoRow.holds Tryz.pinned (OpenSpec.upto preferRowSpec)

/-- 'chandlerylaw25.PreferLiked', WHERE WHAT IT READS IS OF BULK AT MOST 1048576: true; the input reads as it did. -/
def preferLikedUptoRow : OpenClaim := { program := "ytiallonafbejaaagreatdoor", sum := "36bd21e226c5046da13d5949bb79a2c338b65758609f00384fc8ced9180fb066", func := "chandlery/chandlerylaw25.PreferLiked", spec := "preferLiked", inPlace := ["internal/bytealg.IndexByteString", "internal/bytealg.IndexString"], unfollowed := true, recurses := true, named := ["chandlery/dep.words", "chandlery/span.ops", "unicode/utf8.first", "unicode/utf8.acceptRanges", "chandlery/rich.kinds", "internal/bytealg.MaxLen"], loops := true, apart := false, laid := [("unicode/utf8.acceptRanges", laid_unicode_utf8_acceptRanges), ("chandlery/span.ops", laid_chandlery_span_ops), ("chandlery/dep.words", laid_chandlery_dep_words), ("chandlery/rich.kinds", laid_chandlery_rich_kinds), ("unicode/utf8.first", laid_unicode_utf8_first)], narrowed := true }
def PreferLikedUptoSaid : Prop := preferLikedUptoRow.holds Tryz.pinned (OpenSpec.upto preferLikedSpec)

/-- 'chandlerylaw31.OrderNames', WHERE WHAT IT READS IS OF BULK AT MOST 1048576: true; the input reads as it did. -/
def orderNamesUptoRow : OpenClaim := { program := "ytiallonafbejaaagreatdoor", sum := "36bd21e226c5046da13d5949bb79a2c338b65758609f00384fc8ced9180fb066", func := "chandlery/chandlerylaw31.OrderNames", spec := "orderNames", inPlace := ["internal/bytealg.IndexByteString", "internal/bytealg.IndexString"], unfollowed := true, recurses := true, named := ["unicode/utf8.first", "unicode/utf8.acceptRanges", "chandlery/dep.words", "chandlery/span.ops", "internal/bytealg.MaxLen"], apart := false, laid := [("unicode/utf8.acceptRanges", laid_unicode_utf8_acceptRanges), ("chandlery/span.ops", laid_chandlery_span_ops), ("chandlery/dep.words", laid_chandlery_dep_words), ("unicode/utf8.first", laid_unicode_utf8_first)], narrowed := true }
def OrderNamesUptoSaid : Prop := orderNamesUptoRow.holds Tryz.pinned (OpenSpec.upto orderNamesSpec)

/-- 'chandlerylaw31.OrderOnce', WHERE WHAT IT READS IS OF BULK AT MOST 1048576: true; the input reads as it did. -/
def orderOnceUptoRow : OpenClaim := { program := "ytiallonafbejaaagreatdoor", sum := "36bd21e226c5046da13d5949bb79a2c338b65758609f00384fc8ced9180fb066", func := "chandlery/chandlerylaw31.OrderOnce", spec := "orderOnce", inPlace := ["internal/bytealg.IndexByteString", "internal/bytealg.IndexString"], unfollowed := true, recurses := true, named := ["chandlery/dep.words", "chandlery/span.ops", "unicode/utf8.first", "unicode/utf8.acceptRanges", "internal/bytealg.MaxLen"], loops := true, apart := false, laid := [("unicode/utf8.acceptRanges", laid_unicode_utf8_acceptRanges), ("chandlery/span.ops", laid_chandlery_span_ops), ("chandlery/dep.words", laid_chandlery_dep_words), ("unicode/utf8.first", laid_unicode_utf8_first)], narrowed := true }
def OrderOnceUptoSaid : Prop := orderOnceUptoRow.holds Tryz.pinned (OpenSpec.upto orderOnceSpec)

end Rows
end Go.Proofs.YtiallonafbejaaaGreatDoor
