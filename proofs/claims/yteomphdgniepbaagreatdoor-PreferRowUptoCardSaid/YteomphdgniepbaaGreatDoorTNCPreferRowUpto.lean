/- PreferRowUpto: the row and the card. Conditions: none. -/
import Derived.Test.YteomphdgniepbaaGreatDoorTNLPreferRowUpto
import Derived.Test.YteomphdgniepbaaGreatDoorTNJPreferRowUpto
import Derived.Test.YteomphdgniepbaaGreatDoorRows
import Derived.Test.YteomphdgniepbaaGreatDoorTie
import Derived.Test.YteomphdgniepbaaGreatDoorCards
import Derived.ProofKit
import Derived.LaidMore
import Derived.Lay
import Derived.OpenShut
import Derived.Stop.Joined
import Derived.SevenTiedAt
import Derived.JoinedCond
set_option linter.all false
namespace Go.Proofs.YteomphdgniepbaaGreatDoor
open Go Go.Id Go.Proofs Go.ChangeShapes Go.WideShapes Go.ChangeAt Go.WideMaps Go.WideElems Go.RowKit
set_option maxRecDepth 100000
theorem bv4:Rows.PreferRowUptoSaid :=
 OpenClaim.holds_of_cond 3 Tryz.f3 rfl rfl rfl rfl rfl rfl rfl ⟨rfl,rfl,rfl,rfl,rfl⟩ rfl rfl rfl rfl rfl bi6 Tryz.func3 bp5
  (of_decide_eq_true (by kernel_rfl)) (by unfold Func.isWrapper; first|(rw[if_pos (by decide +kernel)]; kernel_rfl)|(rw[if_neg (by decide +kernel)]; exact ⟨rfl,rfl⟩))
  (fun os started H enc _ F=>by rw[OpenClaim.pre_eq_preRow]; exact bp6 os started H enc F)
theorem preferRowUpto_card:Rows.PreferRowUptoCardSaid :=
 Claim7.holds_tied_plain_at .later [] [.data, .mapped, .data, .data, .pinned] true (true, "644371ce53d3e19f20d01062e5be65a7df3798e1e2114831b21592f758e30cd2") false
  bv4 (fun _ h=>by cases h) cq7 (fun _ h=>by cases h) preferRowUpto_row_tie rfl ⟨rfl,rfl⟩ cr1 rfl
  (fun f fn hf hfn=>by
   obtain rfl : f = 3 := Option.some.inj ((show Tryz.prog.funcNamed "chandlery/chandlerylaw25.PreferRow" = some 3 from bi6).symm.trans hf) |>.symm
   obtain rfl:fn=Tryz.f3:=(Option.some.inj (Tryz.func3.symm.trans hfn)).symm
   exact ⟨cq8,fun j t ht=>by
    rw[Tryz.params3] at ht;have hm:t∈([22,23,27,3,3,3,28]:List TypeId):=by simpa using Array.mem_of_getElem? ht
    exact (show Tryz.prog.wantsStandIn t=false by simpa using List.all_eq_true.1 cr2 t hm)⟩)
  cq9
end Go.Proofs.YteomphdgniepbaaGreatDoor
