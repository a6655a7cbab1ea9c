/-
  NARROWER THAN 'FOR EVERY INPUT', by the rows' own cells (each row's printed sentence says how): PreferTells: loops, laid.
  DERIVED. THE GIVEN ROWS OF THIS SEAT. 1 by the template 'for every input the law returns true; each argument reads behind the call as it read before'; 0 by the template 'total and deterministic' (their statements: YtcdakaadeghccaaGreatDoorTotals.lean).
  GIVEN WITH THE SEED: the statements are not yours to turn. If you find one false, say at which input.
  Laid BY PROGRAM, IN A SANDBOX (cutbox-rows.mjs): the forced cells as the released guide's own fill.sh prints them over the translation 09d9cc3be10e9fcb… (all of the seat's roots in one cut). By AI agents, Wed Nov 11 2026. No macro, syntax, notation, axiom, sorry.
-/
import Derived.Test.YtcdakaadeghccaaGreatDoorChecked
import GoSem.PinnedTables
import GoSem.Claim
import GoSem.ClaimJoined
import GoSem.ClaimMapViews
import Derived.JoinedTies
import Derived.KernelRfl
namespace Go.Proofs.YtcdakaadeghccaaGreatDoor
/- THE CELL 'sum', in the pinned program and in every row, IS THE sha256 OF THE DUMP (.gsa) THAT YtcdakaadeghccaaGreatDoorProg.lean LOADS. Nothing in Lean hashes anything: it is a label: what it is worth is what the hold of that sum in a sandbox is worth. -/
noncomputable def Tryz.pinned : Pinned := { name := "ytcdakaadeghccaagreatdoor", sum := "09d9cc3be10e9fcb298a902ac172bea1558d462555216661282152ea7bbe7ffe", checked := Tryz.checked }
namespace Rows
def none {H : Type} : Left H := { results := [], args := [] }

/- WHAT THE LISTED PACKAGE-LEVEL VARIABLES READ AS WHEN THE CALL BEGINS. Each datum BY PROGRAM (the guide's laid-datum.mjs) off the statement by which the dump's own 'gosem.cut.vars' lays the variable. In a bare row this is a premise. The card (YtcdakaadeghccaaGreatDoorCards.lean) ties it to the program's text. -/
def laid_unicode_utf8_acceptRanges {H : Type} : DataW H := .agg [.agg [.lit (.int .u8 128), .lit (.int .u8 191)], .agg [.lit (.int .u8 160), .lit (.int .u8 191)], .agg [.lit (.int .u8 128), .lit (.int .u8 159)], .agg [.lit (.int .u8 144), .lit (.int .u8 191)], .agg [.lit (.int .u8 128), .lit (.int .u8 143)], .agg [.lit (.int .u8 0), .lit (.int .u8 0)], .agg [.lit (.int .u8 0), .lit (.int .u8 0)], .agg [.lit (.int .u8 0), .lit (.int .u8 0)], .agg [.lit (.int .u8 0), .lit (.int .u8 0)], .agg [.lit (.int .u8 0), .lit (.int .u8 0)], .agg [.lit (.int .u8 0), .lit (.int .u8 0)], .agg [.lit (.int .u8 0), .lit (.int .u8 0)], .agg [.lit (.int .u8 0), .lit (.int .u8 0)], .agg [.lit (.int .u8 0), .lit (.int .u8 0)], .agg [.lit (.int .u8 0), .lit (.int .u8 0)], .agg [.lit (.int .u8 0), .lit (.int .u8 0)]]
def laid_chandlery_span_ops {H : Type} : DataW H := .map [(.string [], .lit (.int .u8 0)), (.string [60], .lit (.int .u8 1)), (.string [60, 61], .lit (.int .u8 3)), (.string [61], .lit (.int .u8 2)), (.string [62], .lit (.int .u8 4)), (.string [62, 61], .lit (.int .u8 6))]
def laid_chandlery_dep_words {H : Type} : DataW H := .agg [.lit (.string [97, 110, 100]), .lit (.string [111, 114]), .lit (.string [105, 102]), .lit (.string [101, 108, 115, 101]), .lit (.string [117, 110, 108, 101, 115, 115]), .lit (.string [119, 105, 116, 104]), .lit (.string [119, 105, 116, 104, 111, 117, 116])]
def laid_chandlery_rich_kinds {H : Type} : DataW H := .agg [.agg [.lit (.string []), .lit (.int .i64 0)], .agg [.lit (.string []), .lit (.int .i64 0)], .agg [.lit (.string [97, 110, 100]), .lit (.int .i64 24)], .agg [.lit (.string [111, 114]), .lit (.int .i64 24)], .agg [.lit (.string [105, 102]), .lit (.int .i64 3)], .agg [.lit (.string [117, 110, 108, 101, 115, 115]), .lit (.int .i64 3)], .agg [.lit (.string [119, 105, 116, 104]), .lit (.int .i64 24)], .agg [.lit (.string [119, 105, 116, 104, 111, 117, 116]), .lit (.int .i64 2)]]
/-- One of Go's own tables, pinned by name: the form's constant. -/
def laid_unicode_utf8_first : DataW Unit := Go.Pinned.utf8First

/-- 'chandlerylaw25.PreferTells': WHATEVER THE INPUT: true; the input reads as it did. -/
def preferTellsSpec : ChangeSpec := { name := "preferTells", fn := fun _ => fun
  | [d1, d2, d3, d4, d5, d6] => { results := [.lit (.bool true)], args := [d1, d2, d3, d4, d5, d6] }
  | _ => none }
def preferTellsRow : OpenClaim := { program := "ytcdakaadeghccaagreatdoor", sum := "09d9cc3be10e9fcb298a902ac172bea1558d462555216661282152ea7bbe7ffe", func := "chandlery/chandlerylaw25.PreferTells", spec := "preferTells", inPlace := ["internal/bytealg.IndexByteString", "internal/bytealg.IndexString"], unfollowed := true, recurses := true, named := ["chandlery/dep.words", "chandlery/span.ops", "unicode/utf8.first", "unicode/utf8.acceptRanges", "chandlery/rich.kinds", "internal/bytealg.MaxLen"], loops := true, apart := false, laid := [("unicode/utf8.acceptRanges", laid_unicode_utf8_acceptRanges), ("chandlery/span.ops", laid_chandlery_span_ops), ("chandlery/dep.words", laid_chandlery_dep_words), ("chandlery/rich.kinds", laid_chandlery_rich_kinds), ("unicode/utf8.first", laid_unicode_utf8_first)] }
def PreferTellsSaid : Prop := preferTellsRow.holds Tryz.pinned (OpenSpec.ofChange preferTellsSpec)

/-- ITS FALSE NEIGHBOUR: 'it returns false'. Refute it at one input. -/
def preferTellsWrong : ChangeSpec := { name := "preferTells", fn := fun _ => fun
  | [d1, d2, d3, d4, d5, d6] => { results := [.lit (.bool false)], args := [d1, d2, d3, d4, d5, d6] }
  | _ => none }
def PreferTellsWrongFalsely : Prop := preferTellsRow.holds Tryz.pinned (OpenSpec.ofChange preferTellsWrong)

/- THE SECOND FORM. 'bulk': how many values and letters a reading holds, each counted each time it is reached (what is shared counts as often as it is met; a slice's spare places count too). A statement '..UptoSaid' is the law's where the arguments, and the package variables that the reading takes, are together of bulk at most 1048576: NARROWER than '..Said'. Prove '..Said' where nothing that the law and all that it calls make is longer than what came in: it says more and counts as full. Else prove '..UptoSaid'. A law counts once. -/
mutual
def uptoBulk {H : Type} : DataW H → Nat
  | .lit (.string bytes) => bytes.length + 1
  | .lit _ => 1
  | .nil => 1
  | .ptr d => uptoBulk d + 1
  | .slice elems spare => uptoBulkAll elems + uptoBulkAll spare + 1
  | .agg parts => uptoBulkAll parts + 1
  | .iface _ d => uptoBulk d + 1
  | .map entries => uptoBulkEntries entries + 1
  | .held _ => 1
def uptoBulkAll {H : Type} : List (DataW H) → Nat
  | [] => 0
  | d :: r => uptoBulk d + uptoBulkAll r
def uptoBulkEntries {H : Type} : List (Lit × DataW H) → Nat
  | [] => 0
  | x :: r => uptoBulkEntry x + uptoBulkEntries r
def uptoBulkEntry {H : Type} : Lit × DataW H → Nat
  | (.string bytes, d) => bytes.length + uptoBulk d + 1
  | (_, d) => uptoBulk d + 1
 end
def uptoSmall : (H : Type) → List (DataW H) → Bool := fun _ ds => decide (uptoBulkAll ds ≤ 1048576)
def OpenSpec.upto (s : _root_.Go.ChangeSpec) : _root_.Go.OpenSpec := { _root_.Go.OpenSpec.ofChange s with cond := some uptoSmall }

/-- 'chandlerylaw25.PreferTells', WHERE WHAT IT READS IS OF BULK AT MOST 1048576: true; the input reads as it did. -/
def preferTellsUptoRow : OpenClaim := { program := "ytcdakaadeghccaagreatdoor", sum := "09d9cc3be10e9fcb298a902ac172bea1558d462555216661282152ea7bbe7ffe", func := "chandlery/chandlerylaw25.PreferTells", spec := "preferTells", inPlace := ["internal/bytealg.IndexByteString", "internal/bytealg.IndexString"], unfollowed := true, recurses := true, named := ["chandlery/dep.words", "chandlery/span.ops", "unicode/utf8.first", "unicode/utf8.acceptRanges", "chandlery/rich.kinds", "internal/bytealg.MaxLen"], loops := true, apart := false, laid := [("unicode/utf8.acceptRanges", laid_unicode_utf8_acceptRanges), ("chandlery/span.ops", laid_chandlery_span_ops), ("chandlery/dep.words", laid_chandlery_dep_words), ("chandlery/rich.kinds", laid_chandlery_rich_kinds), ("unicode/utf8.first", laid_unicode_utf8_first)], narrowed := true }
def PreferTellsUptoSaid : Prop := preferTellsUptoRow.holds Tryz.pinned (OpenSpec.upto preferTellsSpec)

end Rows
end Go.Proofs.YtcdakaadeghccaaGreatDoor
