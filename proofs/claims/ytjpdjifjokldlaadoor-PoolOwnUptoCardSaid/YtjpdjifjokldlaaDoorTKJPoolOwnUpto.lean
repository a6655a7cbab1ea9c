/- PoolOwnUpto: closed facts. Conditions: none. -/
import Derived.Test.YtjpdjifjokldlaaDoorProg
import Derived.Test.YtjpdjifjokldlaaDoorRows
import Derived.Test.YtjpdjifjokldlaaDoorTie
import Derived.Test.YtjpdjifjokldlaaDoorCards
import Derived.ProofKit
import Derived.LaidMore
import Derived.Lay
import Derived.OpenShut
import Derived.Stop.Joined
import Derived.SevenTiedAt
set_option linter.all false
namespace Go.Proofs.YtjpdjifjokldlaaDoor
open Go Go.Proofs Go.ChangeShapes Go.WideShapes Go.ChangeAt Go.WideMaps Go.WideElems Go.RowKit
set_option maxRecDepth 100000
theorem ch6:(Rows.poolOwnUptoRow.inPlace==Tryd.pinned.checked.prog.inPlace 3)=true:=by kernel_rfl
theorem ch7:(Rows.poolOwnUptoRow.unfollowed==Tryd.pinned.checked.prog.unfollowed 3)=true:=by kernel_rfl
theorem ch8:(Rows.poolOwnUptoRow.recurses==Tryd.pinned.checked.prog.recurses 3)=true:=by kernel_rfl
theorem ch9:(Rows.poolOwnUptoRow.named==Tryd.pinned.checked.prog.varsNamed 3)=true:=by kernel_rfl
theorem bo1:joinedFacts Tryd.pinned.checked.prog 3 Tryd.f3 (Rows.OpenSpec.upto Rows.poolOwnSpec).bare Rows.poolOwnUptoRow=true:=by
 unfold joinedFacts;rw[ch6,ch7,ch8,ch9]
 kernel_rfl
theorem cy1:Rows.poolOwnUptoRow.wfByText (Rows.OpenSpec.upto Rows.poolOwnSpec)=true:=by kernel_rfl
theorem cy2:false=Tryd.pinned.checked.prog.looks []:=by kernel_rfl
theorem cy3:false=Rows.poolOwnUptoRow.goesBy Tryd.pinned.checked.prog:=by kernel_rfl
theorem cy4 : Tryd.pinned.checked.prog.mainIs = some (true, ("491e3c562b409aa37d83763811d2226c287af236e7489d03af8c6ae0a971df5a" : String).toList) := by kernel_rfl
theorem bo2 : Tryd.prog.funcNamed "chandlery/chandlerylaw12.PoolOwn" = some 3 := by kernel_rfl
theorem cy5:(([22,23]:List TypeId).all fun u=>!Tryd.prog.wantsStandIn u)=true:=by kernel_rfl
end Go.Proofs.YtjpdjifjokldlaaDoor
