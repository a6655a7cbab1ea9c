/- PreferLikedUpto: the row and the card. Conditions: none. -/
import Derived.Test.YtiallonafbejaaaGreatDoorTVLPreferLikedUpto
import Derived.Test.YtiallonafbejaaaGreatDoorTVJPreferLikedUpto
import Derived.Test.YtiallonafbejaaaGreatDoorRows
import Derived.Test.YtiallonafbejaaaGreatDoorTie
import Derived.Test.YtiallonafbejaaaGreatDoorCards
import Derived.ProofKit
import Derived.LaidMore
import Derived.Lay
import Derived.OpenShut
import Derived.Stop.Joined
import Derived.SevenTiedAt
import Derived.JoinedCond
set_option linter.all false
namespace Go.Proofs.YtiallonafbejaaaGreatDoor
open Go Go.Id Go.Proofs Go.ChangeShapes Go.WideShapes Go.ChangeAt Go.WideMaps Go.WideElems Go.RowKit
set_option maxRecDepth 100000
theorem bi4:Rows.PreferLikedUptoSaid :=
 OpenClaim.holds_of_cond 10 Tryz.f10 rfl rfl rfl rfl rfl rfl rfl ⟨rfl,rfl,rfl,rfl,rfl⟩ rfl rfl rfl rfl rfl aw7 Tryz.func10 az7
  (of_decide_eq_true (by kernel_rfl)) (by unfold Func.isWrapper; first|(rw[if_pos (by decide +kernel)]; kernel_rfl)|(rw[if_neg (by decide +kernel)]; exact ⟨rfl,rfl⟩))
  (fun os started H enc _ F=>by rw[OpenClaim.pre_eq_preRow]; exact az8 os started H enc F)
theorem preferLikedUpto_card:Rows.PreferLikedUptoCardSaid :=
 Claim7.holds_tied_plain_at .later [] [.data, .mapped, .data, .data, .pinned] true (true, "4ea36aacffac5db0ddb70f5fb71fb180dd38bc1fb11ef7841eddd6f9c9cf468e") false
  bi4 (fun _ h=>by cases h) by7 (fun _ h=>by cases h) preferLikedUpto_row_tie rfl ⟨rfl,rfl⟩ bz1 rfl
  (fun f fn hf hfn=>by
   obtain rfl : f = 10 := Option.some.inj ((show Tryz.prog.funcNamed "chandlery/chandlerylaw25.PreferLiked" = some 10 from aw7).symm.trans hf) |>.symm
   obtain rfl:fn=Tryz.f10:=(Option.some.inj (Tryz.func10.symm.trans hfn)).symm
   exact ⟨by8,fun j t ht=>by
    rw[Tryz.params10] at ht
    have hm:t∈([22,23,59,3,3]:List TypeId):=by simpa using Array.mem_of_getElem? ht
    exact (show Tryz.prog.wantsStandIn t=false by simpa using List.all_eq_true.1 bz2 t hm)⟩)
  by9
end Go.Proofs.YtiallonafbejaaaGreatDoor
