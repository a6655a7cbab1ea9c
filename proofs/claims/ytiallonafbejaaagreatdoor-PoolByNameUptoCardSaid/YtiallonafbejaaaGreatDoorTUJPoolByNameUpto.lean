/- PoolByNameUpto: closed facts. Conditions: none. -/
import Derived.Test.YtiallonafbejaaaGreatDoorProg
import Derived.Test.YtiallonafbejaaaGreatDoorRows
import Derived.Test.YtiallonafbejaaaGreatDoorTie
import Derived.Test.YtiallonafbejaaaGreatDoorCards
import Derived.ProofKit
import Derived.LaidMore
import Derived.Lay
import Derived.OpenShut
import Derived.Stop.Joined
import Derived.SevenTiedAt
set_option linter.all false
namespace Go.Proofs.YtiallonafbejaaaGreatDoor
open Go Go.Proofs Go.ChangeShapes Go.WideShapes Go.ChangeAt Go.WideMaps Go.WideElems Go.RowKit
set_option maxRecDepth 100000
theorem poolByNameUpto_j1 : (Rows.poolByNameUptoRow.inPlace == Tryz.pinned.checked.prog.inPlace 3)=true:=by kernel_rfl
theorem poolByNameUpto_j2 : (Rows.poolByNameUptoRow.unfollowed == Tryz.pinned.checked.prog.unfollowed 3)=true:=by kernel_rfl
theorem poolByNameUpto_j3 : (Rows.poolByNameUptoRow.recurses == Tryz.pinned.checked.prog.recurses 3)=true:=by kernel_rfl
theorem poolByNameUpto_j4 : (Rows.poolByNameUptoRow.named == Tryz.pinned.checked.prog.varsNamed 3)=true:=by kernel_rfl
theorem poolByNameUpto_closed : joinedFacts Tryz.pinned.checked.prog 3 Tryz.f3 (Rows.OpenSpec.upto Rows.poolByNameSpec).bare Rows.poolByNameUptoRow=true:=by
 unfold joinedFacts
 rw [poolByNameUpto_j1,poolByNameUpto_j2,poolByNameUpto_j3,poolByNameUpto_j4]
 kernel_rfl
theorem poolByNameUpto_w : Rows.poolByNameUptoRow.wfByText (Rows.OpenSpec.upto Rows.poolByNameSpec)=true:=by kernel_rfl
theorem poolByNameUpto_k : false=Tryz.pinned.checked.prog.looks []:=by kernel_rfl
theorem poolByNameUpto_g : false=Rows.poolByNameUptoRow.goesBy Tryz.pinned.checked.prog:=by kernel_rfl
theorem poolByNameUpto_m : Tryz.pinned.checked.prog.mainIs = some (true, ("4ea36aacffac5db0ddb70f5fb71fb180dd38bc1fb11ef7841eddd6f9c9cf468e" : String).toList) := by kernel_rfl
theorem poolByNameUpto_n : Tryz.prog.funcNamed "chandlery/chandlerylaw12.PoolByName" = some 3 := by kernel_rfl
theorem poolByNameUpto_u : (([22,23] : List TypeId).all fun u => !Tryz.prog.wantsStandIn u)=true:=by kernel_rfl
end Go.Proofs.YtiallonafbejaaaGreatDoor
