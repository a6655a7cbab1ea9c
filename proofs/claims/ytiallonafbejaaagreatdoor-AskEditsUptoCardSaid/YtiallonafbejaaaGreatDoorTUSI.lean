/- The library's sort,as this program has it. Conditions: none. -/
import Derived.Test.YtiallonafbejaaaGreatDoorTUPA
import Derived.Test.YtiallonafbejaaaGreatDoorFwSo
set_option linter.all false
namespace Go.Id.Tryz
open Go Go.Id Go.Proofs Go.Shelf
set_option maxRecDepth 100000
def renI : Go.Shelf.Ren where
 f:=fun n => (List.lookup n [(0,0),(1,1),(2,2),(99,255),(107,147),(108,216),(109,151),(110,91),(119,328),(122,126),(125,149),(128,226),(129,227),(137,254),(151,325),(152,327),(161,309),(189,84),(190,137),(197,324),(206,300),(215,195),(216,223),(217,299),(224,329),(225,330),(227,320),(228,323),(231,319),(233,321),(235,322),(257,148),(258,215),(260,326),(266,317),(294,217),(295,218),(296,219),(297,220),(298,221),(299,222),(300,224),(301,225),(302,266),(303,267),(304,268),(305,269),(306,270),(307,271),(308,272),(309,273),(310,274),(328,275),(329,276),(330,277),(331,278),(332,279),(333,302),(334,303),(335,304),(336,305),(343,306),(344,318),(347,331),(348,332),(349,333),(350,334),(351,335),(352,336),(353,337),(354,338),(355,339),(356,340),(357,341),(358,342),(359,343),(360,344),(361,345),(366,348),(367,356)]).getD 0
 t:=fun n => (List.lookup n [(0,0),(1,1),(2,2),(3,3),(4,4),(5,5),(7,7),(8,8),(9,9),(10,10),(11,11),(12,12),(13,13),(14,14),(15,15),(16,16),(17,17),(18,18),(20,20),(21,21),(22,266),(23,310),(27,191),(28,33),(29,49),(30,224),(31,30),(32,179),(33,127),(34,67),(35,125),(40,332),(41,181),(43,144),(46,97),(47,178),(48,96),(51,233),(52,232),(53,157),(54,234),(55,264),(63,326),(64,327),(80,333),(81,32),(100,165),(102,168),(104,166),(105,324),(106,325),(111,66),(112,43),(114,81),(115,318),(116,319),(117,320),(118,321),(119,328),(122,317),(123,322),(124,323),(127,342),(131,163),(134,177),(135,222),(137,329),(139,331),(164,348),(181,225),(182,226),(183,227),(184,228),(185,229),(186,230),(187,231),(188,275),(189,276),(190,277),(191,278),(192,279),(211,203),(214,309),(218,280),(219,281),(220,282),(221,283),(222,284),(223,285),(224,302),(225,303),(228,304),(229,305),(230,306),(231,316),(238,334),(239,335),(240,336),(241,337),(242,338),(245,341),(248,345)]).getD 0
 g:=fun n => n
theorem laysI : Lays.n189 Tryz.prog renI where
 mixed:=by kernel_rfl
 f125:=Tryz.func149.trans (congrArg some (by kernel_rfl))
 f128:=Tryz.func226.trans (congrArg some (by kernel_rfl))
 f129:=Tryz.func227.trans (congrArg some (by kernel_rfl))
 f189:=Tryz.func84.trans (congrArg some (by kernel_rfl))
 f215:=Tryz.func195.trans (congrArg some (by kernel_rfl))
 f216:=Tryz.func223.trans (congrArg some (by kernel_rfl))
 f257:=Tryz.func148.trans (congrArg some (by kernel_rfl))
 f294:=Tryz.func217.trans (congrArg some (by kernel_rfl))
 f295:=Tryz.func218.trans (congrArg some (by kernel_rfl))
 f296:=Tryz.func219.trans (congrArg some (by kernel_rfl))
 f297:=Tryz.func220.trans (congrArg some (by kernel_rfl))
 f298:=Tryz.func221.trans (congrArg some (by kernel_rfl))
 f299:=Tryz.func222.trans (congrArg some (by kernel_rfl))
 f300:=Tryz.func224.trans (congrArg some (by kernel_rfl))
 f301:=Tryz.func225.trans (congrArg some (by kernel_rfl))
 f328:=Tryz.func275.trans (congrArg some (by kernel_rfl))
 f329:=Tryz.func276.trans (congrArg some (by kernel_rfl))
 f330:=Tryz.func277.trans (congrArg some (by kernel_rfl))
 f331:=Tryz.func278.trans (congrArg some (by kernel_rfl))
 f332:=Tryz.func279.trans (congrArg some (by kernel_rfl))
 f343:=Tryz.func306.trans (congrArg some (by kernel_rfl))
 t0:=by kernel_rfl
 a0:=Tryz.isAgg0
 z0:=fun _ => by kernel_rfl
 v0:=fun _ => by kernel_rfl
 t3:=by kernel_rfl
 a3:=Tryz.isAgg3
 z3:=fun _ => by kernel_rfl
 v3:=fun _ => by kernel_rfl
 t4:=by kernel_rfl
 a4:=Tryz.isAgg4
 z4:=fun _ => by kernel_rfl
 v4:=fun _ => by kernel_rfl
 t5:=by kernel_rfl
 a5:=Tryz.isAgg5
 z5:=fun _ => by kernel_rfl
 v5:=fun _ => by kernel_rfl
 t9:=by kernel_rfl
 a9:=Tryz.isAgg9
 z9:=fun _ => by kernel_rfl
 v9:=fun _ => by kernel_rfl
 t28:=by kernel_rfl
 a28:=Tryz.isAgg33
 z28:=fun _ => by kernel_rfl
 v28:=fun _ => by kernel_rfl
 t46:=by kernel_rfl
 a46:=Tryz.isAgg97
 z46:=fun _ => by kernel_rfl
 v46:=fun _ => by kernel_rfl
 t51:=by kernel_rfl
 a51:=Tryz.isAgg233
 z51:=fun _ => by kernel_rfl
 v51:=fun _ => by kernel_rfl
 t53:=by kernel_rfl
 a53:=Tryz.isAgg157
 z53:=fun _ => by kernel_rfl
 v53:=fun _ => by kernel_rfl
 t131:=by kernel_rfl
 a131:=Tryz.isAgg163
 z131:=fun _ => by kernel_rfl
 v131:=fun _ => by kernel_rfl
 t182:=by kernel_rfl
 a182:=Tryz.isAgg226
 z182:=fun _ => by kernel_rfl
 v182:=fun _ => by kernel_rfl
 t183:=by kernel_rfl
 a183:=Tryz.isAgg227
 z183:=fun _ => by kernel_rfl
 v183:=fun _ => by kernel_rfl
 t218:=by kernel_rfl
 a218:=Tryz.isAgg280
 z218:=fun _ => by kernel_rfl
 v218:=fun _ => by kernel_rfl
 t222:=by kernel_rfl
 a222:=Tryz.isAgg284
 z222:=fun _ => by kernel_rfl
 v222:=fun _ => by kernel_rfl
 t228:=by kernel_rfl
 a228:=Tryz.isAgg304
 z228:=fun _ => by kernel_rfl
 v228:=fun _ => by kernel_rfl
 t229:=by kernel_rfl
 a229:=Tryz.isAgg305
 z229:=fun _ => by kernel_rfl
 v229:=fun _ => by kernel_rfl
def srtI (l : List Int) : List Int:=l.mergeSort fun x y => decide (x≤y)
theorem sortInts_c {σ : Store} {id : Nat} {zs : List Int} (hz : zs.length < 4611686018427387904) (ho : σ.obj id=some (.row (zs.map (IV.int .i64)))) :
  C Tryz.prog EE 84 [.slice id 0 zs.length 1] σ fun v s => v=.tuple []∧s=σ.put id (.row ((srtI zs).map (IV.int .i64))) :=
 C_order (enc:=Value.int .i64) (en:=IV.int .i64) (srt:=srtI) (fun _ _ x => .int _ _) (fun _ _ x r h => by cases h; rfl) (fun l => List.length_mergeSort l) (by unfold srtI; rw [List.mergeSort_nil])
  (fun blk off cap zs w h1 h2 h3 => Any.slices_Sort_int laysI blk off cap zs w h1 h2 h3) (fun p cap w => Any.slices_Sort_int_none laysI p cap w) hz ho
end Go.Id.Tryz
