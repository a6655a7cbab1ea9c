/- AskItself. Conditions: sizes that fit. -/
import Derived.Test.YtiallonafbejaaaGreatDoorTUSJ
set_option linter.all false
namespace Go.Id.Tryz
open Go Go.Id Go.Proofs Go.Shelf Go.Id.Md
set_option maxRecDepth 100000
theorem eqb_self (b : Bool) : eqvI [0] false true (.bool b) (.bool b)=some (.bool false):=by cases b <;> rfl
theorem fulfilsOwn_c (a : AskM) (j : Int) {zs : List Int} {σ : Store} {v : IV} {lo : Nat} (hA : AOK a) (hz : zs.length < 2 ^ 40) (hg : IRow σ lo v zs) : C Tryz.prog EE 46 [a.v,.int .i64 j,v] σ (oneQ (.bool (a.fulfils j zs)) σ) :=
 C_still (args':=[a.v,.int .i64 j,.tslice (zs.map Md.intC)]) hE rfl (fun i hi => by
  match i,hi with
  | 0,_ => exact .keep _ (bnd_ask a)
  | 1,_ => exact .keep _ (.int _ _)
  | 2,_ => exact hg.frz fun i _ => Nat.not_lt_zero i) (by simp [IV.plain]) (askFulfils_pc a j zs hA hz)
end Go.Id.Tryz
