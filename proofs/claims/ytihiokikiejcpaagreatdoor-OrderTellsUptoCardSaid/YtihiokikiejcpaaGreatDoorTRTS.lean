/- The library's sort,as this program has it. Conditions: none. -/
import Derived.Test.YtihiokikiejcpaaGreatDoorTRPB
import Derived.Test.YtihiokikiejcpaaGreatDoorFwZb
import Derived.Test.YtihiokikiejcpaaGreatDoorTRQL
import Derived.Test.YtihiokikiejcpaaGreatDoorMb
import Derived.Test.YtihiokikiejcpaaGreatDoorMv
import Derived.Test.YtihiokikiejcpaaGreatDoorTRPE
import Derived.Shelf.SlSortCmp.Insertion
import Derived.Sort.LotA
set_option linter.all false
namespace Go.Id.Tryz
open Go Go.Id Go.Proofs Go.Shelf
set_option maxRecDepth 100000
def jb1:Go.Shelf.Ren where
 f:=fun n=>(List.lookup n [(0,0),(1,1),(2,2),(99,92),(109,116),(110,88),(119,170),(122,18),(125,34),(128,76),(129,77),(137,91),(151,167),(152,169),(161,158),(189,79),(197,166),(206,120),(215,35),(216,130),(217,119),(224,171),(225,172),(227,162),(228,165),(231,161),(233,163),(235,164),(257,111),(260,168),(266,139),(294,124),(295,125),(296,126),(297,127),(298,128),(299,129),(300,131),(301,132),(328,140),(329,106),(330,107),(331,141),(332,142),(336,160),(343,149),(347,173),(348,174),(349,175),(350,176),(351,177),(352,178),(353,179),(354,180),(355,181),(356,182),(357,183),(358,184),(359,185),(360,186),(361,187),(366,189),(367,196)]).getD 0
 t:=fun n=>(List.lookup n [(0,0),(1,1),(2,2),(3,3),(4,4),(5,5),(7,7),(8,8),(9,9),(10,10),(11,11),(12,12),(13,13),(14,14),(15,15),(16,16),(17,17),(18,18),(20,20),(21,21),(22,148),(23,206),(27,170),(28,48),(31,73),(32,168),(33,143),(35,136),(40,222),(41,149),(43,60),(46,95),(47,94),(48,54),(51,134),(52,133),(53,62),(54,135),(55,146),(63,216),(64,217),(80,224),(81,53),(102,120),(104,109),(105,214),(106,215),(111,65),(112,66),(114,223),(115,208),(116,209),(117,210),(118,211),(119,218),(122,207),(123,212),(124,213),(127,233),(131,131),(134,165),(137,219),(139,221),(164,238),(181,176),(182,126),(183,127),(184,177),(185,178),(186,179),(187,180),(214,193),(218,158),(219,159),(220,160),(221,189),(222,162),(223,190),(228,173),(229,174),(230,194),(238,225),(239,226),(240,227),(241,228),(242,229),(245,232),(248,236)]).getD 0
 g:=fun n=>n
theorem hm4:Lays.n189 Tryz.prog jb1 where
 mixed:=by kernel_rfl
 f125:=Tryz.func34.trans (congrArg some (by kernel_rfl))
 f128:=Tryz.func76.trans (congrArg some (by kernel_rfl))
 f129:=Tryz.func77.trans (congrArg some (by kernel_rfl))
 f189:=Tryz.func79.trans (congrArg some (by kernel_rfl))
 f215:=Tryz.func35.trans (congrArg some (by kernel_rfl))
 f216:=Tryz.func130.trans (congrArg some (by kernel_rfl))
 f257:=Tryz.func111.trans (congrArg some (by kernel_rfl))
 f294:=Tryz.func124.trans (congrArg some (by kernel_rfl))
 f295:=Tryz.func125.trans (congrArg some (by kernel_rfl))
 f296:=Tryz.func126.trans (congrArg some (by kernel_rfl))
 f297:=Tryz.func127.trans (congrArg some (by kernel_rfl))
 f298:=Tryz.func128.trans (congrArg some (by kernel_rfl))
 f299:=Tryz.func129.trans (congrArg some (by kernel_rfl))
 f300:=Tryz.func131.trans (congrArg some (by kernel_rfl))
 f301:=Tryz.func132.trans (congrArg some (by kernel_rfl))
 f328:=Tryz.func140.trans (congrArg some (by kernel_rfl))
 f329:=Tryz.func106.trans (congrArg some (by kernel_rfl))
 f330:=Tryz.func107.trans (congrArg some (by kernel_rfl))
 f331:=Tryz.func141.trans (congrArg some (by kernel_rfl))
 f332:=Tryz.func142.trans (congrArg some (by kernel_rfl))
 f343:=Tryz.func149.trans (congrArg some (by kernel_rfl))
 t0:=by kernel_rfl
 a0:=Tryz.isAgg0
 z0:=fun _=>by kernel_rfl
 v0:=fun _=>by kernel_rfl
 t3:=by kernel_rfl
 a3:=Tryz.isAgg3
 z3:=fun _=>by kernel_rfl
 v3:=fun _=>by kernel_rfl
 t4:=by kernel_rfl
 a4:=Tryz.isAgg4
 z4:=fun _=>by kernel_rfl
 v4:=fun _=>by kernel_rfl
 t5:=by kernel_rfl
 a5:=Tryz.isAgg5
 z5:=fun _=>by kernel_rfl
 v5:=fun _=>by kernel_rfl
 t9:=by kernel_rfl
 a9:=Tryz.isAgg9
 z9:=fun _=>by kernel_rfl
 v9:=fun _=>by kernel_rfl
 t28:=by kernel_rfl
 a28:=Tryz.isAgg48
 z28:=fun _=>by kernel_rfl
 v28:=fun _=>by kernel_rfl
 t46:=by kernel_rfl
 a46:=Tryz.isAgg95
 z46:=fun _=>by kernel_rfl
 v46:=fun _=>by kernel_rfl
 t51:=by kernel_rfl
 a51:=Tryz.isAgg134
 z51:=fun _=>by kernel_rfl
 v51:=fun _=>by kernel_rfl
 t53:=by kernel_rfl
 a53:=Tryz.isAgg62
 z53:=fun _=>by kernel_rfl
 v53:=fun _=>by kernel_rfl
 t131:=by kernel_rfl
 a131:=Tryz.isAgg131
 z131:=fun _=>by kernel_rfl
 v131:=fun _=>by kernel_rfl
 t182:=by kernel_rfl
 a182:=Tryz.isAgg126
 z182:=fun _=>by kernel_rfl
 v182:=fun _=>by kernel_rfl
 t183:=by kernel_rfl
 a183:=Tryz.isAgg127
 z183:=fun _=>by kernel_rfl
 v183:=fun _=>by kernel_rfl
 t218:=by kernel_rfl
 a218:=Tryz.isAgg158
 z218:=fun _=>by kernel_rfl
 v218:=fun _=>by kernel_rfl
 t222:=by kernel_rfl
 a222:=Tryz.isAgg162
 z222:=fun _=>by kernel_rfl
 v222:=fun _=>by kernel_rfl
 t228:=by kernel_rfl
 a228:=Tryz.isAgg173
 z228:=fun _=>by kernel_rfl
 v228:=fun _=>by kernel_rfl
 t229:=by kernel_rfl
 a229:=Tryz.isAgg174
 z229:=fun _=>by kernel_rfl
 v229:=fun _=>by kernel_rfl
def it1 (l:List Int):List Int:=l.mergeSort fun x y=>decide (x<=y)
theorem fb9 {σ:Store}{id:Nat}{zs:List Int}(hz:zs.length<4611686018427387904)(ho:σ.obj id=some (.row (zs.map (IV.int .i64)))) :
  C Tryz.prog EE 79 [.slice id 0 zs.length 1] σ fun v s=>v=.tuple []/\s=σ.put id (.row ((it1 zs).map (IV.int .i64))):=
 gz6 (enc:=Value.int .i64) (en:=IV.int .i64) (srt:=it1) (fun _ _ x=>.int _ _) (fun _ _ x r h=>by cases h; rfl) (fun l=>List.length_mergeSort l) (by unfold it1; rw[List.mergeSort_nil])
  (fun blk off cap zs w h1 h2 h3=>Any.slices_Sort_int hm4 blk off cap zs w h1 h2 h3) (fun p cap w=>Any.slices_Sort_int_none hm4 p cap w) hz ho
open Go Go.Id Go.Proofs Go.Shelf Go.Id.Md
theorem fw1 {P:Program}{E:Nat->IV}{f:Nat}(hn:∀ (p:Option Addr) (cap:Nat) (w:World),Calls P f #[.slice p 0 cap] w fun e w'=>e=.returned (.tuple #[])/\w'=w){σ:Store}:C P E f [.aa1] σ fun v s=>v=.tuple []/\s=σ:=by
 intro ρ w rargs hs hr;obtain ⟨hr1,hr2⟩:=hr;have hv0:=hr2 0 (by simp);obtain ⟨al⟩:=rargs
 match al,hr1,hv0 with
 | [r],_,hv0=>
  have hv0:VR ρ w .aa1 r:=hv0;cases hv0;refine callsIn_wide.2 ((hn _ _ w).mono ?_);rintro e w' ⟨rfl,rfl⟩;exact ⟨.tuple [],_,ρ,σ,rfl,⟨rfl,rfl⟩,hs,.tuple [] #[] rfl (fun i hi=>by simp at hi),ay1.refl _ _ _⟩
theorem fw2 {σ:Store}:C Tryz.prog EE 79 [.aa1] σ fun v s=>v=.tuple []/\s=σ:=fw1 fun p cap w=>Any.slices_Sort_int_none hm4 p cap w
end Go.Id.Tryz
/- Whom a package ac6: the function walked. Conditions: sizes that fit. -/
namespace Go.Id
open Go Go.Id
end Go.Id
namespace Go.Id.Tryz
open Go Go.Id Go.Proofs Go.Shelf Go.Id.Md
end Go.Id.Tryz
set_option linter.all false
namespace Go.Id.Tryz
open Go Go.Id Go.Proofs Go.Id.Md
set_option maxRecDepth 100000
def mP (name:Str)(bp7 obs:List Dep)(files:List Str):aa4:={ name:=name,evr:=⟨0,[49],[49]⟩,ex2:=1,vendor:=[],provides:=bp7,requires:=[],conflicts:=[],ac6:=obs,ac3:=[],ab9:=[],suggests:=[],ad8:=[],files:=files }
def dP (name:Str)(op:Int)(ver:Str):Dep:=⟨name,op,⟨0,ver,[]⟩⟩
def cP (name:Str)(bp7 obs files:IV):List IV:=[.str name,.int .i64 0,.str [49],.str [49],.int .u8 1,.str [],bp7,.aa1,.aa1,obs,.aa1,.aa1,.aa1,.aa1,files]
def mA:aa4:=mP [97] [] [] []
def mB:aa4:=mP [98] [dP [97] 2 [50]] [dP [97] 1 [50]] []
def mC:aa4:=mP [99] [] [] [[47,102]]
def mT:aa4:=mP [97] [dP [97] 2 [51],dP [97] 2 [52],dP [97] 0 []] [dP [97] 0 [],dP [98] 0 [],dP [98] 1 [57]] []
def mD:aa4:=mP [98] [] [] []
def cA:List IV:=cP [97] .aa1 .aa1 .aa1
def cB:List IV:=cP [98] (deps [dP [97] 2 [50]]) (deps [dP [97] 1 [50]]) .aa1
def cC:List IV:=cP [99] .aa1 .aa1 (strs [[47,102]])
def cT:List IV:=cP [97] (deps [dP [97] 2 [51],dP [97] 2 [52],dP [97] 0 []]) (deps [dP [97] 0 [],dP [98] 0 [],dP [98] 1 [57]]) .aa1
def cD:List IV:=cP [98] .aa1 .aa1 .aa1
theorem ii3 {name:Str}{bp7 obs:List Dep}{files:List Str}(h1:name.length<100)(h2:bp7.length<100)(h3:obs.length<100)(h4:files.length<100)(h5:(bp7++obs).all (fun d=>decide (d.name.length<100)&&decide (d.evr.ver.length<100)&&decide (d.evr.rel.length<100))=true)(h6:files.all (fun s=>decide (s.length<100))=true):(mP name bp7 obs files).Fit:=by
 have hd:∀ d∈bp7++obs,d.fit:=fun d hd=>by
  have:=List.all_eq_true.1 h5 d hd;simp only[Bool.and_eq_true,decide_eq_true_eq] at this;exact ⟨by omega,by show d.evr.ver.length<_; omega,by show d.evr.rel.length<_; omega⟩
 refine ⟨by show name.length<_; omega,⟨by show ([49]:Str).length<2^62; decide,by show ([49]:Str).length<2^62; decide⟩,⟨by show bp7.length<_; omega,fun d h=>hd d (List.mem_append_left _ h)⟩,⟨by show obs.length<_; omega,fun d h=>hd d (List.mem_append_right _ h)⟩,⟨by show files.length<_; omega,fun s h=>by have:=List.all_eq_true.1 h6 s h; simp only[decide_eq_true_eq] at this; omega⟩,fun x hx=>?_⟩;simp only[aa4.rows,mP,List.mem_cons,List.not_mem_nil,or_false] at hx;rcases hx with rfl|rfl|rfl|rfl|rfl|rfl<;>exact ⟨by decide,fun r h=>by cases h⟩
theorem dj4:∀ p∈[mA,mB,mC,mT,mD],p.Fit:=by
 intro p hp;simp only[List.mem_cons,List.not_mem_nil,or_false] at hp;rcases hp with rfl|rfl|rfl|rfl|rfl<;>exact ii3 (by decide) (by decide) (by decide) (by decide) (by decide) (by decide)
def p1M:Pool:=⟨rowsOf [mA,mB,mC] (-1) 1025,3,[([97],[0]),([98],[1]),([99],[2])]⟩
def p2M:Pool:=⟨rowsOf [mB,mC] (-1) 1025++rowsOf [mA] 0 0++rowsOf [mT,mD] 1 0,2,[([98],[0,4]),([99],[1]),([97],[2,3])]⟩
theorem jb2:id7 (co5 [] [mA,mB,mC])=.tuple [p1M.v,.int .i64 0]:=by kernel_rfl
theorem jb3:id7 (co5 [⟨0,[mA]⟩,⟨0,[mT,mD]⟩] [mB,mC])=.tuple [p2M.v,.int .i64 0]:=by kernel_rfl
def a1:List IV:=[.aa1,.aa3 [cA,cB,cC]]
def a2:List IV:=[.aa3 [[.int .i64 0,.aa3 [cA]],[.int .i64 0,.aa3 [cT,cD]]],.aa3 [cB,cC]]
theorem e1:PC Tryz.prog EE 5 a1 (.tuple [p1M.v,.int .i64 0]):=by
 rw[<- jb2];refine gz9 (args':=[be7 [],ao3 [mA,mB,mC]]) (by kernel_rfl) (cf5 [] [mA,mB,mC] (by decide) (by decide) (by decide) (fun r h=>by cases h) fun p hp=>dj4 p ?_);simp only[List.mem_cons,List.not_mem_nil,or_false] at hp ⊢;rcases hp with h|h|h<;>simp[h]
theorem e2:PC Tryz.prog EE 5 a2 (.tuple [p2M.v,.int .i64 0]):=by
 rw[<- jb3];refine gz9 (args':=[be7 [⟨0,[mA]⟩,⟨0,[mT,mD]⟩],ao3 [mB,mC]]) (by kernel_rfl) (cf5 _ _ (by decide) (by decide) (by decide) (fun r hr=>?_) fun p hp=>dj4 p ?_)
 ·simp only[List.mem_cons,List.not_mem_nil,or_false] at hr;rcases hr with rfl|rfl
  ·exact ⟨by decide,fun p hp=>dj4 p (by simp only[List.mem_cons,List.not_mem_nil,or_false] at hp ⊢; simp[hp])⟩
  ·exact ⟨by decide,fun p hp=>dj4 p (by simp only[List.mem_cons,List.not_mem_nil,or_false] at hp ⊢; rcases hp with h|h<;>simp[h])⟩
 ·simp only[List.mem_cons,List.not_mem_nil,or_false] at hp ⊢;rcases hp with h|h<;>simp[h]
end Go.Id.Tryz
set_option linter.all false
namespace Go.Id.Tryz
open Go Go.Id Go.Proofs Go.Id.Md
set_option maxRecDepth 100000
theorem ah8 {S:Nat->Prop}{s:Store}{a b:Bool}(h:a=b):Frz s S (.bool a) (.bool b):=h▸ac4 a
end Go.Id.Tryz
set_option linter.all false
namespace Go.Id.Tryz
open Go Go.Id Go.Proofs Go.Id.Md
set_option maxRecDepth 100000
open Go Go.Id Go.Proofs Go.Shelf Go.Id.Md
theorem cq1 (xs:List Int)(g:Nat)(first cap:List IV)(q:Int->Bool)(hn:xs.length<2^62)(hok:okF Tryz.prog g=true)
  (hq:∀ x∈xs,PC Tryz.prog EE g (first++[IV.int .i64 x]++cap) (.bool (q x))):PC Tryz.prog EE 38 [.aa3 (xs.map Md.af9),.func (.func g) first cap] (.int .i64 (al3 q xs 0)):=by
 refine av1 fok38 (nZ rfl) fun σ=>?_
 simp only[ic38,go_sem];refine ab3 noT (fun i fr s=>s=σ/\fr=[(0,.aa3 (xs.map Md.af9)),(1,.func (.func g) first cap),(7,.int .i64 xs.length),(8,.int .i64 i)]/\al3 q xs 0=al3 q (xs.drop i) i) xs.length ⟨rfl,rfl,rfl⟩ ?_;rintro i fr s hi ⟨rfl,rfl,hf⟩;by_cases hlt:i<xs.length
 ·obtain ⟨x,ha,_,hdr,hget,_⟩:=ae8 xs i hlt;have c1:(i:Int)<xs.length:=by omega
  have c2:(0:Int)<=i:=by omega
  have w1:=ad2 (i:=i) (by omega);rw[hdr] at hf;simp only[go_sem,c1,c2,hget,Md.af9];refine as5 hok (gf5 (hq x ha)) ?_;rintro v s ⟨rfl,rfl⟩;refine ⟨Nat.le_refl _,?_⟩
  cases hqe:q x with
  | true=>simp only[go_sem,hf,al3,hqe,and_self]
  | false=>
   simp only[go_sem,w1];exact ⟨hlt,by rw[hf]; simp only[al3,hqe,Bool.false_eq_true,if_false,Int.natCast_add,Int.natCast_one]⟩
 ·have hi':i=xs.length:=by omega
  subst hi';have c1:¬ (xs.length:Int)<xs.length:=by omega
  rw[List.drop_length] at hf;simp only[go_sem,c1,hf,al3,and_self]
theorem fw3 (xs:List Int)(g:Nat)(first cap:List IV)(q:Int->Bool)(hn:xs.length<2^62)(hok:okF Tryz.prog g=true)
  (hq:∀ x∈xs,PC Tryz.prog EE g (first++[IV.int .i64 x]++cap) (.bool (q x))):PC Tryz.prog EE 40 [.aa3 (xs.map Md.af9),.func (.func g) first cap] (.bool (xs.any q)):=by
 refine av1 fok40 (nZ rfl) fun σ=>?_
 simp only[ic40,go_sem]
 first|refine aa5 fok38 (cq1 xs g first cap q hn hok hq) ?_|refine aa8 (cq1 xs g first cap q hn hok hq) ?_
 simp only[go_sem,bc3,and_self]
end Go.Id.Tryz
set_option linter.all false
namespace Go.Id.Tryz
open Go Go.Id Go.Proofs Go.Shelf Go.Id.Md
set_option maxRecDepth 100000
theorem gq6 {d:TypeId}{c:IV}{cs:List IV}:dj9 (.pointer d) (.ad4 (c::cs))=some false:=rfl
end Go.Id.Tryz
set_option linter.all false
namespace Go.Id.Tryz
open Go Go.Id Go.Proofs Go.Id.Md
set_option maxRecDepth 100000
set_option maxHeartbeats 1000000
def dq9 (a b:Part):Bool:=decide (af8 a b=-1)
theorem dz9 {a b:Int}:ao7 a b=-1↔a<b:=by
 unfold ao7;by_cases h:a<b
 ·simp[h]
 ·rw[if_neg h]; split<;>simp[h]
theorem hg6 {a b:Str}:cj8 a b=-1↔Op.bytesLess a b=true:=by
 unfold cj8
 cases h:Op.bytesLess a b with
 | true=>simp
 | false=>
  simp only[Bool.false_eq_true,if_false];split<;>simp
theorem gj7 (a b:Part):dq9 a b=if a.kind≠b.kind then decide (a.kind<b.kind) else if a.kind=5/\a.s.length≠b.s.length then decide (a.s.length<b.s.length) else Op.bytesLess a.s b.s:=by
 unfold dq9;have hp:af8 a b=if ao7 a.kind b.kind≠0 then ao7 a.kind b.kind else if (if a.kind=5/\b.kind=5 then ao7 a.s.length b.s.length else 0)≠0 then (if a.kind=5/\b.kind=5 then ao7 a.s.length b.s.length else 0) else cj8 a.s b.s:=rfl
 rw[hp];have key:∀ (x:Int) (p:Prop) [Decidable p] ,(x=-1↔p)->decide (x=-1)=decide p:=fun x p _ h=>decide_eq_decide.2 h
 have hS:decide (cj8 a.s b.s=-1)=Op.bytesLess a.s b.s:=by
  rw[key _ _ hg6]; simp
 by_cases hk:a.kind=b.kind
 ·have e0:ao7 a.kind b.kind=0:=au3.2 (by omega);have q0:¬ (a.kind≠b.kind):=fun h=>h hk
  have q1:¬ (ao7 (a.kind:Int) (b.kind:Int)≠0):=fun h=>h e0
  rw[if_neg q1,if_neg q0];by_cases h5:a.kind=5
  ·have q2:a.kind=5/\b.kind=5:=⟨h5,by omega⟩;simp only[if_pos q2];by_cases hl:a.s.length=b.s.length
   ·have e1:ao7 a.s.length b.s.length=0:=au3.2 (by omega);have q3:¬ (ao7 (a.s.length:Int) (b.s.length:Int)≠0):=fun h=>h e1
    have q4:¬ (a.kind=5/\a.s.length≠b.s.length):=fun h=>h.2 hl
    rw[if_neg q3,if_neg q4,hS]
   ·have e1:ao7 (a.s.length:Int) (b.s.length:Int)≠0:=fun h=>hl (by have:=au3.1 h; omega)
    have q4:a.kind=5/\a.s.length≠b.s.length:=⟨h5,hl⟩;rw[if_pos e1,if_pos q4,key _ _ dz9];exact decide_eq_decide.2 (by omega)
  ·have q2:¬ (a.kind=5/\b.kind=5):=fun h=>h5 h.1
   have q3:¬ ((0:Int)≠0):=fun h=>h rfl
   have q4:¬ (a.kind=5/\a.s.length≠b.s.length):=fun h=>h5 h.1
   simp only[if_neg q2];rw[if_neg q3,if_neg q4,hS]
 ·have e0:ao7 (a.kind:Int) (b.kind:Int)≠0:=fun h=>hk (by have:=au3.1 h; omega)
  have q0:a.kind≠b.kind:=hk;rw[if_pos e0,if_pos q0,key _ _ dz9];exact decide_eq_decide.2 (by omega)
theorem gj8 (p:Part):(Part.cs p).length=2:=rfl
theorem bh7 (p:Part):(Part.cs p).all IV.leaf=true:=rfl
theorem fq1 (p:Part):(Part.cs p).take 2=Part.cs p:=rfl
theorem eh4 (p:Part):(Part.cs p).head? = some (.int .u8 p.kind):=rfl
theorem fq2 (p:Part):((Part.cs p).drop 1).head? = some (.str p.s):=rfl
theorem bu3 (p:Part):Bnd 0 (.agg (Part.cs p)):=.agg _ (ej3 p)
theorem dr1 (a b:Part)(ha:a.s.length<2^62)(hb:b.s.length<2^62):PC Tryz.prog EE 137 [.agg (Part.cs a),.agg (Part.cs b)] (.bool (dq9 a b)):=by
 refine ao4 hE fok137 (nZ rfl) (au8 (bu3 a) (bu3 b)) ?_;rw[gj7];by_cases hk:a.kind=b.kind
 case neg=>
  have e:¬ (a.kind:Int)=b.kind:=by omega
  have e2:decide (a.kind<b.kind)=decide ((a.kind:Int)<b.kind):=by simp
  rw[if_pos hk,e2];simp only[ic137,go_sem,bh7,eh4,e];exact ah8 rfl
 have e:(a.kind:Int)=b.kind:=by omega
 rw[if_neg (by simpa using hk)];by_cases h5:a.kind=5
 ·have e5:(b.kind:Int)=5:=by omega
  by_cases hl:a.s.length=b.s.length
  ·rw[if_neg (fun h=>h.2 hl)];have el:(a.s.length:Int)=b.s.length:=by omega
   simp only[ic137,go_sem,bh7,eh4,fq2,e,e5,el];exact ah8 rfl
  ·rw[if_pos ⟨h5,hl⟩];have el:¬ (a.s.length:Int)=b.s.length:=by omega
   have e2:decide (a.s.length<b.s.length)=decide ((a.s.length:Int)<b.s.length):=by simp
   rw[e2];simp only[ic137,go_sem,bh7,eh4,fq2,e,e5,el];exact ah8 rfl
 ·have e5:¬ (b.kind:Int)=5:=by omega
  rw[if_neg (fun h=>h5 h.1)];simp only[ic137,go_sem,bh7,eh4,fq2,e,e5];exact ah8 rfl
def atP (l:List Part)(i:Nat):Part:=l.getD i eg4
theorem gt3 (l:List Part)(i:Nat):PC Tryz.prog EE 138 [.aa3 (l.map Part.cs),.int .i64 i] (.agg (Part.cs (atP l i))):=by
 refine ao4 hE fok138 (nZ rfl) (au8 (ds6 l) (.int _ _)) ?_;unfold atP;by_cases h:i<l.length
 ·have c1:¬ (l.length:Int)<=i:=by omega
  have c2:(i:Int)<l.length:=by omega
  have c3:(0:Int)<=(i:Int):=by omega
  have g:=fu6 l i h;have e:l.getD i eg4=l[i]:=by simp[List.getD_eq_getElem?_getD,h]
  rw[e];simp only[ic138,go_sem,c1,c2,c3,g,gj8,bh7,fq1];exact .keep _ (bu3 _)
 ·have c1:(l.length:Int)<=i:=by omega
  have e:l.getD i eg4=eg4:=by simp[List.getD_eq_getElem?_getD,List.getElem?_eq_none (Nat.le_of_not_lt h)]
  rw[e];simp only[ic138,go_sem,c1];exact .keep _ (bu3 eg4)
theorem if2 (s:Str)(i:Nat)(h:i<=(ab4 s).length):(vL s)[i]? = some (atP (ab4 s) i):=by
 unfold atP;by_cases hl:i<(ab4 s).length
 ·rw[List.getElem?_append_left hl,List.getElem?_eq_getElem hl]; simp[List.getD_eq_getElem?_getD,hl]
 ·have:i=(ab4 s).length:=by omega
  subst this;rw[List.getElem?_append_right (Nat.le_refl _),Nat.sub_self];simp[List.getD_eq_getElem?_getD]
theorem cp1 (a b:Str)(ha:a.length<2^30)(hb:b.length<2^30):PC Tryz.prog EE 118 [.str a,.str b] (.int .i64 (au2 a b)):=by
 refine ao4 hE fok118 (nZ rfl) (au8 (.str _) (.str _)) ?_;have la:=bc5 a;have lb:=bc5 b;have pa:=ds8 a ha;have pb:=ds8 b hb;have na:=dq3 a;have nb:=dq3 b;simp only[ic118,go_sem]
 first|refine aa5 fok136 (pa) ?_|refine aa8 (pa) ?_
 simp only[go_sem]
 first|refine aa5 fok136 (pb) ?_|refine aa8 (pb) ?_
 simp only[go_sem];refine ab3 noT (fun i fr s=>fr=[(5,.aa3 ((ab4 a).map Part.cs)),(6,.aa3 ((ab4 b).map Part.cs)),(7,.int .i64 (i:Int))]/\i<=(ab4 a).length/\i<=(ab4 b).length/\au2 a b=aj4 ((vL a).drop i) ((vL b).drop i)) (2^30) ⟨rfl,Nat.zero_le _,Nat.zero_le _,rfl⟩ ?_;rintro i fr s hi ⟨rfl,ia,ib,hv⟩;have w1:=ad2 (i:=i) (by omega);have xa:=if2 a i ia;have xb:=if2 b i ib;obtain ⟨hia,hxa⟩:=List.getElem?_eq_some_iff.1 xa;obtain ⟨hib,hxb⟩:=List.getElem?_eq_some_iff.1 xb;rw[bv5 hia hib,hxa,hxb] at hv;by_cases hmore:i<(ab4 a).length\/i<(ab4 b).length
 ·have ga:=gt3 (ab4 a) i;have gb:=gt3 (ab4 b) i;have sa:(atP (ab4 a) i).s.length<=a.length:=ik6 a _ (hxa▸List.getElem_mem hia);have sb:(atP (ab4 b) i).s.length<=b.length:=ik6 b _ (hxb▸List.getElem_mem hib);have b1:=dr1 (atP (ab4 a) i) (atP (ab4 b) i) (by omega) (by omega);have b2:=dr1 (atP (ab4 b) i) (atP (ab4 a) i) (by omega) (by omega);have h3:=ds9 (atP (ab4 a) i) (atP (ab4 b) i);have hneg:=dz2 (atP (ab4 a) i) (atP (ab4 b) i)
  have hnext:af8 (atP (ab4 a) i) (atP (ab4 b) i)=0->i+1<=(ab4 a).length/\i+1<=(ab4 b).length:=fun h0=>by
   have hk:=fo9 h0;rcases hmore with h|h
   ·refine ⟨h,?_⟩;by_cases h':i<(ab4 b).length
    ·exact h'
    ·have e1:atP (ab4 b) i=eg4:=by unfold atP; simp[List.getD_eq_getElem?_getD,List.getElem?_eq_none (Nat.le_of_not_lt h')]
     have e2:atP (ab4 a) i=(ab4 a)[i]:=by unfold atP; simp[List.getD_eq_getElem?_getD,h]
     rw[e1,e2] at hk;exact absurd hk (na _ (List.getElem_mem h))
   ·refine ⟨?_,h⟩;by_cases h':i<(ab4 a).length
    ·exact h'
    ·have e1:atP (ab4 a) i=eg4:=by unfold atP; simp[List.getD_eq_getElem?_getD,List.getElem?_eq_none (Nat.le_of_not_lt h')]
     have e2:atP (ab4 b) i=(ab4 b)[i]:=by unfold atP; simp[List.getD_eq_getElem?_getD,h]
     rw[e1,e2] at hk;exact absurd hk.symm (nb _ (List.getElem_mem h))
  have v1:dq9 (atP (ab4 a) i) (atP (ab4 b) i)=decide (af8 (atP (ab4 a) i) (atP (ab4 b) i)=-1):=rfl;have v2:dq9 (atP (ab4 b) i) (atP (ab4 a) i)=decide (af8 (atP (ab4 b) i) (atP (ab4 a) i)=-1):=rfl;rw[v1] at b1;rw[v2] at b2;generalize atP (ab4 a) i=x at *;generalize atP (ab4 b) i=y at *;generalize af8 y x=c2 at *;generalize af8 x y=c at *;by_cases hA:i<(ab4 a).length
  case' pos=>
   have d1:(i:Int)<(ab4 a).length:=by omega
   simp only[go_sem,d1]
  case' neg=>
   have d1:¬ (i:Int)<(ab4 a).length:=by omega
   have d2:(i:Int)<(ab4 b).length:=by omega
   simp only[go_sem,d1,d2]
  all_goals
   first|refine aa5 fok138 (ga) ?_|refine aa8 (ga) ?_
   simp only[go_sem]
   first|refine aa5 fok138 (gb) ?_|refine aa8 (gb) ?_
   simp only[go_sem]
   first|refine aa5 fok137 (b1) ?_|refine aa8 (b1) ?_
   rcases h3 with h|h|h
   ·subst h;rw[if_pos (by decide)] at hv;simp only[go_sem,decide_true];rw[hv]; exact ac8 _ _
   ·subst h;have hc2:c2=0:=by omega
    subst hc2;rw[if_neg (by decide)] at hv;obtain ⟨n1,n2⟩:=hnext rfl;simp only[go_sem,Int.reduceEq,Int.reduceNeg,decide_false]
    first|refine aa5 fok138 (gb) ?_|refine aa8 (gb) ?_
    simp only[go_sem]
    first|refine aa5 fok138 (ga) ?_|refine aa8 (ga) ?_
    simp only[go_sem]
    first|refine aa5 fok137 (b2) ?_|refine aa8 (b2) ?_
    simp only[go_sem,Int.reduceEq,Int.reduceNeg,decide_false,w1];exact ⟨by omega,n1,n2,hv⟩
   ·subst h;subst hneg;rw[if_pos (by decide)] at hv;simp only[go_sem,Int.reduceEq,Int.reduceNeg,decide_false]
    first|refine aa5 fok138 (gb) ?_|refine aa8 (gb) ?_
    simp only[go_sem]
    first|refine aa5 fok138 (ga) ?_|refine aa8 (ga) ?_
    simp only[go_sem]
    first|refine aa5 fok137 (b2) ?_|refine aa8 (b2) ?_
    simp only[go_sem,decide_true];rw[hv]; exact ac8 _ _
 ·have ea:i=(ab4 a).length:=by omega
  have eb:i=(ab4 b).length:=by omega
  have d1:¬ (i:Int)<(ab4 a).length:=by omega
  have d2:¬ (i:Int)<(ab4 b).length:=by omega
  have e1:atP (ab4 a) i=eg4:=by unfold atP; simp[List.getD_eq_getElem?_getD,List.getElem?_eq_none (show (ab4 a).length<=i by omega)]
  have e2:atP (ab4 b) i=eg4:=by unfold atP; simp[List.getD_eq_getElem?_getD,List.getElem?_eq_none (show (ab4 b).length<=i by omega)]
  have h0:af8 eg4 eg4=0:=by decide
  have hend:aj4 ((vL a).drop (i+1)) ((vL b).drop (i+1))=0:=ch1 (.inl (by simp only[List.length_append,List.length_singleton]; omega));rw[e1,e2,h0,if_neg (by decide),hend] at hv;simp only[go_sem,d1,d2];rw[hv]; exact ac8 _ _
set_option maxHeartbeats 1000000
theorem dh4 (e:EVR):e.cs.all IV.leaf=true:=rfl
theorem hg7 (e:EVR):e.cs.head? = some (.int .i64 e.am6):=rfl
theorem is3 (e:EVR):(e.cs.drop 1).head? = some (.str e.ver):=rfl
theorem hg8 (e:EVR):(e.cs.drop 2).head? = some (.str e.rel):=rfl
theorem ea1 (a b:EVR)(ha:EVR.small a)(hb:EVR.small b):PC Tryz.prog EE 90 [.agg a.cs,.agg b.cs] (.int .i64 (be5 a b)):=by
 refine ao4 hE fok90 (nZ rfl) (au8 (bn3 a) (bn3 b)) ?_;have h1:=cp1 a.ver b.ver ha.1 hb.1;have h2:=cp1 a.rel b.rel ha.2 hb.2;unfold be5;by_cases e1:a.am6<b.am6
 ·have c0:ao7 a.am6 b.am6=-1:=dz9.2 e1;rw[c0,if_pos (by decide)];simp only[ic90,go_sem,dh4,hg7,e1];exact ac8 _ _
 by_cases e2:b.am6<a.am6
 ·have c0:ao7 a.am6 b.am6=1:=by
   unfold ao7;rw[if_neg e1,if_neg (by omega)]
  rw[c0,if_pos (by decide)];simp only[ic90,go_sem,dh4,hg7,e1,e2];exact ac8 _ _
 have c0:ao7 a.am6 b.am6=0:=au3.2 (by omega);have nn:∀ {α:Type} (x y:α),(if (0:Int)≠0 then x else y)=y:=fun _ _=>if_neg (by decide)
 rw[c0,nn];simp only[ic90,go_sem,dh4,hg7,is3,e1,e2]
 first|refine aa5 fok118 (h1) ?_|refine aa8 (h1) ?_
 generalize au2 a.ver b.ver=n at *;by_cases hn:n=0
 ·subst hn;rw[nn];by_cases r1:a.rel=[]
  ·rw[if_pos (.inl r1)];simp only[go_sem,hg8,r1];exact ac8 _ _
  by_cases r2:b.rel=[]
  ·rw[if_pos (.inr r2)];simp only[go_sem,hg8,r1,r2];exact ac8 _ _
  rw[if_neg (by simp[r1,r2])];simp only[go_sem,hg8,r1,r2]
  first|refine aa5 fok118 (h2) ?_|refine aa8 (h2) ?_
  simp only[go_sem];exact ac8 _ _
 ·have hn':n≠0:=hn;rw[if_pos hn'];simp only[go_sem,hn];exact ac8 _ _
theorem eh5 (a b:Dep)(ha:Dep.small a)(hb:Dep.small b):PC Tryz.prog EE 52 [.agg a.cs,.agg b.cs] (.bool (meet a b)):=by
 refine ao4 hE fok52 (nZ rfl) (an3 (am5 a) (am5 b)) ?_;obtain ⟨a1,a2,a3⟩:=ha;obtain ⟨b1,b2,b3⟩:=hb;have hc:=ea1 a.evr b.evr a3 b3;have h3:=ej6 a.evr b.evr;unfold meet;generalize be5 a.evr b.evr=n at hc h3;simp only[EVR.cs] at hc;obtain ⟨x,hx⟩:∃ x:Nat,a.op=x:=⟨a.op.toNat,by omega⟩;obtain ⟨y,hy⟩:∃ y:Nat,b.op=y:=⟨b.op.toNat,by omega⟩;have hx2:x<256:=by omega
 have hy2:y<256:=by omega
 rw[hx,hy,Int.toNat_natCast,Int.toNat_natCast];have tm:∀ k:Nat,(k:Int).tmod 8=((k%8:Nat):Int):=fun k=>rfl
 have z0:∀ k:Nat,((k:Int)=0)↔k=0:=fun k=>by omega
 have bt:∀ (k i:Nat),bit (k:Int) i=k.testBit i:=fun k i=>by unfold bit; rw[Int.toNat_natCast]
 by_cases hx0:x%8=0
 ·have q:(x:Int).tmod 8=0:=by rw[tm,z0]; exact hx0
  rw[if_pos (.inl hx0)];simp only[ic52,go_sem,Dep.cs,hx,hy,q,Int.reduceEq,true_and,not_false_eq_true];exact ac4 _
 have q:¬ (x:Int).tmod 8=0:=by rw[tm,z0]; exact hx0
 by_cases hy0:y%8=0
 ·have q2:(y:Int).tmod 8=0:=by rw[tm,z0]; exact hy0
  rw[if_pos (.inr hy0)];simp only[ic52,go_sem,Dep.cs,hx,hy,q,q2,Int.reduceEq,true_and,not_false_eq_true];exact ac4 _
 have q2:¬ (y:Int).tmod 8=0:=by rw[tm,z0]; exact hy0
 rw[if_neg (fun h=>h.elim hx0 hy0)];simp only[ic52,go_sem,Dep.cs,hx,hy,q,q2,Int.reduceEq,true_and,not_false_eq_true]
 first|refine aa5 fok90 (hc) ?_|refine aa8 (hc) ?_
 have exy:bf2 x y=((x &&& y:Nat):Int):=am4 x y hx2 hy2;have hxy:x &&& y<256:=Nat.lt_of_le_of_lt Nat.and_le_left hx2;have exy7:bf2 ((x &&& y:Nat):Int) 7=((x &&& y &&& 7:Nat):Int):=am4 _ 7 hxy (by omega);have x1:bf2 x 1=((x &&& 1:Nat):Int):=am4 x 1 hx2 (by omega);have x4:bf2 x 4=((x &&& 4:Nat):Int):=am4 x 4 hx2 (by omega);have y1:bf2 y 1=((y &&& 1:Nat):Int):=am4 y 1 hy2 (by omega);have y4:bf2 y 4=((y &&& 4:Nat):Int):=am4 y 4 hy2 (by omega);rcases h3 with rfl|rfl|rfl
 ·have g1:side (- -1)=2:=by decide
  have g2:side (-1)=0:=by decide
  have m0:¬ ((-1:Int)=0):=by decide
  have m1:((-1:Int)<0):=by decide
  simp only[go_sem,m0,m1,g1,g2,bt,if_false]
  cases hb:x.testBit 2 with
  | true=>
   have e:¬ bf2 x 4=0:=by rw[x4,z0,gu6 x hx2,hb]; simp
   simp only[go_sem,ao8,e]
   exact ac4 _
  | false=>
   have e:bf2 x 4=0:=by rw[x4,z0,gu6 x hx2,hb]
   simp only[go_sem,ao8,e]
   cases hc:y.testBit 0 with
   | true=>
    have e2:¬ bf2 y 1=0:=by rw[y1,z0,and1 y hy2,hc]; simp
    simp only[go_sem,ao8,e2]
    exact ac4 _
   | false=>
    have e2:bf2 y 1=0:=by rw[y1,z0,and1 y hy2,hc]
    simp only[go_sem,ao8,e2];exact ac4 _
 ·have m1:¬ ((0:Int)<0):=by decide
  simp only[go_sem,ao8,exy,exy7,bt,m1]
  have e:(!decide (((x &&& y &&& 7:Nat):Int)=0))=(x.testBit 0&&y.testBit 0||x.testBit 1&&y.testBit 1||x.testBit 2&&y.testBit 2):=by
   by_cases hz:x &&& y &&& 7=0
   ·obtain ⟨t0,t1,t2⟩:=(dj1 _ hxy).1 hz;rw[Nat.testBit_and] at t0 t1 t2;rw[hz,t0,t1,t2]; rfl
   ·have hz':¬ ((x &&& y &&& 7:Nat):Int)=0:=fun h=>hz (by omega)
    have ht:¬ ((x &&& y).testBit 0=false/\(x &&& y).testBit 1=false/\(x &&& y).testBit 2=false):=fun h=>hz ((dj1 _ hxy).2 h)
    rw[Nat.testBit_and,Nat.testBit_and,Nat.testBit_and] at ht;rw[decide_eq_false hz']
    revert ht
    generalize (x.testBit 0&&y.testBit 0)=b0;generalize (x.testBit 1&&y.testBit 1)=b1;generalize (x.testBit 2&&y.testBit 2)=b2;cases b0<;>cases b1<;>cases b2<;>simp
  exact ah8 e
 ·have g1:side (-1)=0:=by decide
  have g2:side 1=2:=by decide
  have m0:¬ ((1:Int)=0):=by decide
  have m1:¬ ((1:Int)<0):=by decide
  have m2:(0:Int)<1:=by decide
  simp only[go_sem,m0,m1,m2,g1,g2,bt,if_false]
  cases hb:x.testBit 0 with
  | true=>
   have e:¬ bf2 x 1=0:=by rw[x1,z0,and1 x hx2,hb]; simp
   simp only[go_sem,ao8,e]
   exact ac4 _
  | false=>
   have e:bf2 x 1=0:=by rw[x1,z0,and1 x hx2,hb]
   simp only[go_sem,ao8,e]
   cases hc:y.testBit 2 with
   | true=>
    have e2:¬ bf2 y 4=0:=by rw[y4,z0,gu6 y hy2,hc]; simp
    simp only[go_sem,ao8,e2]
    exact ac4 _
   | false=>
    have e2:bf2 y 4=0:=by rw[y4,z0,gu6 y hy2,hc]
    simp only[go_sem,ao8,e2];exact ac4 _
end Go.Id.Tryz
set_option linter.all false
namespace Go.Id.Tryz
open Go Go.Id Go.Proofs Go.Shelf Go.Id.Md
set_option maxRecDepth 100000
open Go Go.Id Go.Proofs Go.Id.Md
set_option maxHeartbeats 1000000
theorem hg9 (n:Str)(e:EVR):PC Tryz.prog EE 117 [.str n,.agg e.cs] (.agg (Dep.cs ⟨n,2,e⟩)):=by
 refine ao4 hE fok117 (nZ rfl) (au8 (.str _) (bn3 e)) ?_;simp only[ic117,go_sem,EVR.cs,Dep.cs];exact .keep _ (.agg _ (ha9 (.str _) (.int _ _) (.int _ _) (.str _) (.str _)))
theorem gj9 (p:aa4):PC Tryz.prog EE 89 [.agg p.cs] (.agg (own p).cs):=by
 refine ao4 hE fok89 (nZ rfl) (fn5 (av7 p)) ?_;have ho:=hg9 p.name p.evr;have hb:=am5 (own p);simp only[EVR.cs,Dep.cs,own] at ho hb;simp only[ic89,go_sem,aa4.cs,own,Dep.cs]
 first|refine aa5 fok117 (ho) ?_|refine aa8 (ho) ?_
 simp only[go_sem];exact .keep _ hb
theorem if3 (p:aa4):p.cs.head? = some (.str p.name):=rfl
theorem ea2 (d:Dep):d.cs.head? = some (.str d.name):=rfl
theorem ez3 (p:aa4)(d:Dep)(hp:Pkg.small p)(hd:Dep.small d):PC Tryz.prog EE 51 [.agg p.cs,.agg d.cs] (.bool (named p d)):=by
 refine ao4 hE fok51 (nZ rfl) (an3 (av7 p) (am5 d)) ?_;have ho:=gj9 p;have hm:=eh5 (own p) d (dt1 hp) hd;have hnm:named p d=(decide (p.name=d.name)&&meet (own p) d):=rfl;rw[hnm];generalize hx:Dep.cs (own p)=x at ho hm;by_cases e:p.name=d.name
 ·have e':d.name=p.name:=e.symm;simp only[ic51,go_sem,as8,ao9,ap3,ak5,ai9,ah7,if3,ea2,e']
  first|refine aa5 fok89 (ho) ?_|refine aa8 (ho) ?_
  simp only[go_sem,ak5,ai9,ah7]
  first|refine aa5 fok52 (hm) ?_|refine aa8 (hm) ?_
  simp only[go_sem];exact ah8 (by simp)
 ·have e':¬ d.name=p.name:=fun h=>e h.symm
  simp only[ic51,go_sem,as8,ao9,ap3,ak5,ai9,ah7,if3,ea2,e'];exact ah8 (by simp[e])
theorem bu4 {α:Type}{q:α->Bool}{l:List α}{i:Nat}{a:α}(h:l.drop i=a::l.drop (i+1)):(l.drop i).any q=(q a||(l.drop (i+1)).any q):=by rw[h]; simp
theorem hh4 (p:aa4):(p.cs.drop 6).head? = some (deps p.provides):=rfl
theorem eh6 (p:aa4):(p.cs.drop 14).head? = some (strs p.files):=rfl
theorem hh5 (d:Dep):(d.cs.drop 1).head? = some (.int .u8 d.op):=rfl
theorem dh5 (p:aa4)(d:Dep)(hp:Pkg.small p)(hd:Dep.small d):PC Tryz.prog EE 27 [.agg p.cs,.agg d.cs] (.bool (provides p d)):=by
 refine ao4 hE fok27 (nZ rfl) (an3 (av7 p) (am5 d)) ?_;have hn:=ez3 p d hp hd;have l1:=hp.2.2.2.1;have l2:=hp.2.2.2.2.2;have hpv:provides p d=(named p d||p.provides.any (fun a=>meets a d)||decide (d.op=0)&&p.files.contains d.name):=rfl;rw[hpv];simp only[ic27,go_sem,as8,ao9,ap3,ak5,ai9,ah7]
 first|refine aa5 fok51 (hn) ?_|refine aa8 (hn) ?_
 cases hnb:named p d with
 | true=>simp only[go_sem]; exact ah8 (by simp)
 | false=>
 simp only[go_sem];refine ab3 noT (fun i fr s=>fr=[(2,.ad4 p.cs),(3,.ad4 d.cs),(5,.int .i64 (i:Int))]/\p.provides.any (fun a=>meets a d)=(p.provides.drop i).any (fun a=>meets a d)) p.provides.length ⟨rfl,rfl⟩ ?_;rintro i fr s hi ⟨rfl,ha⟩;by_cases hlt:i<p.provides.length
 ·obtain ⟨x,hx,hxi,hdr,hget,htk⟩:=ae8 p.provides i hlt;have d1:(i:Int)<p.provides.length:=by omega
  have d2:(0:Int)<=(i:Int):=by omega
  have w1:=ad2 (i:=i) (by omega);have hm:=eh5 x d (hp.2.1 x hx) hd;have hms:meets x d=(decide (x.name=d.name)&&meet x d):=rfl;rw[bu4 hdr,hms] at ha;by_cases e:x.name=d.name
  ·simp only[go_sem,hh4,d1,d2,hget,ea2,ak5,ai9,ah7,e]
   first|refine aa5 fok52 (hm) ?_|refine aa8 (hm) ?_
   cases hb:meet x d with
   | true=>
    rw[hb] at ha;simp only[go_sem]
    exact ah8 (by rw[ha]; simp[e])
   | false=>
    rw[hb,Bool.and_false,Bool.false_or] at ha;simp only[go_sem,w1];exact ⟨hlt,ha⟩
  ·rw[decide_eq_false e,Bool.false_and,Bool.false_or] at ha;simp only[go_sem,hh4,d1,d2,hget,ea2,ak5,ai9,ah7,e,w1];exact ⟨hlt,ha⟩
 have hi':i=p.provides.length:=by omega
 subst hi';have d1:¬ (p.provides.length:Int)<p.provides.length:=by omega
 rw[List.drop_length,List.any_nil] at ha;rw[ha];simp only[go_sem,hh4,d1];refine ab3 noT (fun i fr s=>fr=[(2,.ad4 p.cs),(3,.ad4 d.cs),(6,.int .i64 (i:Int))]/\(d.op=0->p.files.contains d.name=(p.files.drop i).contains d.name)) p.files.length ⟨rfl,fun _=>rfl⟩ ?_;rintro i fr s hi ⟨rfl,hf⟩;by_cases hlt:i<p.files.length
 ·obtain ⟨x,hx,hxi,hdr,hget,htk⟩:=ae8 p.files i hlt;have d1:(i:Int)<p.files.length:=by omega
  have d2:(0:Int)<=(i:Int):=by omega
  have w1:=ad2 (i:=i) (by omega);have hgs:=hget bn7;by_cases e0:d.op=0
  ·have hf:=hf e0;rw[hdr,List.contains_cons] at hf;by_cases e:x=d.name
   ·have hin:p.files.contains d.name=true:=by rw[hf,e]; simp
    simp only[go_sem,eh6,d1,d2,hgs,bn7,ea2,hh5,e0,e];exact ah8 (by first|(rw[hin]; rfl)|rw[hin])
   ·have e2:(d.name==x)=false:=by simpa using fun h=>e h.symm
    rw[e2,Bool.false_or] at hf;simp only[go_sem,eh6,d1,d2,hgs,bn7,ea2,hh5,e0,e,w1];exact ⟨hlt,fun _=>hf⟩
  ·simp only[go_sem,eh6,d1,d2,hgs,bn7,ea2,hh5,e0,w1];exact ⟨hlt,fun h=>by first|exact absurd h e0|exact h.elim⟩
 ·have hi':i=p.files.length:=by omega
  subst hi';have d1:¬ (p.files.length:Int)<p.files.length:=by omega
  rw[List.drop_length] at hf;simp only[go_sem,eh6,d1];refine ah8 ?_;by_cases e0:d.op=0
  ·rw[hf e0]; simp
  ·simp[e0]
end Go.Id.Tryz
set_option linter.all false
namespace Go.Id.Tryz
open Go Go.Id Go.Proofs Go.Id.Md
set_option maxRecDepth 100000
open Go Go.Id Go.Proofs Go.Shelf Go.Id.Md
theorem fw4 {d:Dep}(h:an8 d=true):Dep.small d:=by
 obtain ⟨h1,h2,h3,h4⟩:=dg7 h;exact ⟨h1,h2,by have:=h3.1; omega,by have:=h3.2; omega⟩
theorem ii4 (d:Dep)(xs:List aa9)(k:Int):((aa9.mk k d xs).cs.drop 1).take 5=d.cs:=by rw[aa9.au9]; rfl
theorem gu8 (d:Dep)(xs:List aa9)(k:Int):((aa9.mk k d xs).cs.drop 1).length=6:=by rw[aa9.au9]; rfl
theorem gu9 (d:Dep)(xs:List aa9)(k:Int):(aa9.mk k d xs).cs.head? = some (.int .u8 k):=by rw[aa9.au9]; rfl
theorem az1 (l:List Dep):∀ x∈l.map Dep.cs,x.length=5/\x.all IV.leaf=true:=fun x hx=>by
 obtain ⟨d,_,rfl⟩:=List.mem_map.1 hx; exact ⟨rfl,rfl⟩
theorem dj5 (d:Dep):∀ c∈d.cs,Bnd 0 c:=fun c hc=>by
 simp only[Dep.cs,List.mem_cons,List.not_mem_nil,or_false] at hc;rcases hc with rfl|rfl|rfl|rfl|rfl
 ·exact .str _
 ·exact .int _ _
 ·exact .int _ _
 ·exact .str _
 ·exact .str _
def ci8 (p:aa9×Bool):Option Dep:=if p.1.kind=1 then some p.1.dep else none
theorem gn8 (r:aa9)(hf:r.fit)(hc:r.count<2^30):PC Tryz.prog EE 48 [.agg r.cs] (.aa3 (r.atoms.map Dep.cs)):=by
 refine ao4 hE fok48 (nZ rfl) (ah6 (ax5 _)) ?_;simp only[ic48,go_sem,ae3,ag7,ad5];refine ad3 fok84 (ea8 r _) ?_;rintro v s1 ⟨rfl,hb,hn,hs⟩;refine ⟨hn,?_⟩;simp only[go_sem] at hn hs hb ⊢;have h0:s1.obj 0=some (.cells [.aa1]):=by rw[hs 0 (by omega)]; rfl
 have hb1:=hb.1;refine bx3 (cf3 r hf 1) (fun rest t=>boxed 1 t/\∃ (ps rs:List (aa9×Bool)) (v:IV),rest=rs.map row/\ps++rs=r.parts false/\t.obj 0=some (.cells [v])/\s1.next<t.next/\Grow t v 5 ((ps.filterMap ci8).map Dep.cs)/\∀ id k,v=.slice id 0 k 5->s1.next<id) (fun _ _ h=>h.1) ?_ di1 ?_ ?_ ?_
 ·rintro rest t t' ⟨⟨q1,q2⟩,ps,rs,v,h1,h2,h3,h4,h5,h6⟩ hn' hs';exact ⟨⟨by omega,by rw[hs' 1 q1]; exact q2⟩,ps,rs,v,h1,h2,by rw[hs' 0 (by omega)]; exact h3,by omega,h5.mono hn' fun id _ hid=>hs' id hid,h6⟩
 ·intro o;have e0:¬ 0=s1.next:=by omega
  have e1:¬ 1=s1.next:=by omega
  refine ⟨⟨by show 1<s1.next+1; omega,by simp only[aa2,e1,if_false]; exact hb.2⟩,[],r.parts false,.aa1,rfl,rfl,by simp only[aa2,e0,if_false]; exact h0,Nat.lt_succ_self _,.inl ⟨rfl,rfl⟩,fun id k h=>by cases h⟩
 ·rintro L pre a rest t hev ⟨⟨q1,q2⟩,ps,rs,v,h1,h2,h3,h4,h5,h6⟩ hL hlt
  cases rs with
  | nil=>cases h1
  | cons p rs=>
  rw[List.map_cons] at h1;obtain ⟨ha,hrest⟩:=List.cons.inj h1;subst ha;obtain ⟨⟨k,d,xs⟩,al⟩:=p;simp only[row,aa6] at hL hlt ⊢;have e1:¬ s1.next=t.next:=by omega
  have e2:¬ 0=t.next:=by omega
  have e3:¬ s1.next=0:=by omega
  have e4:¬ 0=s1.next:=by omega
  have e5:¬ 1=t.next:=by omega
  have e6:¬ 1=s1.next:=by omega
  have e7:¬ t.next=s1.next:=by omega
  have e8:¬ t.next=0:=by omega
  have e9:¬ 0=1:=by omega
  simp only[go_sem,hL,e1,e2,e3,e4,e5,e6,e7,e8,ad5,ag7,ae3,gu9,ii4,gu8,h3];generalize hU:Store.mk (t.next+1) _=U;have un:U.next=t.next+1:=by rw[<- hU]
  have uL:U.obj s1.next=some (L .busy none):=by rw[<- hU]; simp only[aa2,if_true]
  have uo:∀ i,i<t.next->i≠s1.next->U.obj i=t.obj i:=fun i hi hne=>by
   have:¬ i=t.next:=by omega
   rw[<- hU]; simp only[aa2,hne,this,if_false]
  have u0:=uo 0 (by omega) e4;rw[h3] at u0;have ub:U.obj t.next=some (.cells (aa9.mk k d xs).cs):=by rw[<- hU]; simp only[aa2,e7,if_false,if_true]
  have hg:Grow U v 5 ((ps.filterMap ci8).map Dep.cs):=h5.mono (by omega) fun id hv hid=>uo id hid (by have:=h6 _ _ hv; omega)
  have hcnt:ps.length+(rs.length+1)=r.count:=by
   have:=congrArg List.length h2;rw[List.length_append,List.length_cons,aa9.au6] at this;exact this
  have hpl:(ps.filterMap ci8).length<2^30:=by
   have:=List.length_filterMap_le ci8 ps;omega
  have hbx:1<U.next/\U.obj 1=some (.cells [.func (.func 112) [] [.ptr 1 0]]):=⟨by omega,by rw[uo 1 q1 e6]; exact q2⟩;by_cases hk:k=1
  ·have hat:ci8 (aa9.mk k d xs,al)=some d:=by unfold ci8; rw[if_pos]; rfl; exact hk
   have hap:=aj6 (nid:=U.next) (e:=d.cs) (σ:=⟨U.next+1,U.obj⟩) (hg.mono (Nat.le_succ _) fun _ _ _=>rfl) (az1 _) ⟨rfl,rfl⟩ (by rw[List.length_map]; omega);have k0:=af7 hg 0 (.cells [v]) u0 (fun _ h=>by cases h)
   have kL:(ad7 v ⟨U.next+1,U.obj⟩).obj s1.next=some (L .busy none):=by
    cases hv:v<;>try exact uL
    rename_i id o n' e;show (if s1.next=id then none else U.obj _)=_;rcases hg with ⟨h,_⟩|⟨id',h,_,_⟩
    ·rw[h] at hv; cases hv
    ·rw[hv] at h; cases h;have:=h6 _ _ hv;rw[if_neg (by omega)]; exact uL
   have k0':=af7 (hg.mono (Nat.le_succ _) fun _ _ _=>rfl:Grow ⟨U.next+1,U.obj⟩ v 5 _) 0 (.cells [v]) u0 (fun _ h=>by cases h);have k1:=af7 (hg.mono (Nat.le_succ _) fun _ _ _=>rfl:Grow ⟨U.next+1,U.obj⟩ v 5 _) 1 _ hbx.2 (fun _ h=>by cases h);have kn:=ac1 (σ:=⟨U.next+1,U.obj⟩) v;have x1:¬ 0=U.next:=by omega
   have x2:¬ s1.next=U.next:=by omega
   have x3:¬ 1=U.next:=by omega
   have x4:¬ U.next=s1.next:=by omega
   have x5:¬ U.next=0:=by omega
   have x6:¬ 1=0:=by omega
   rw[List.length_map] at hap;simp only[go_sem,hk,u0,ub,gu9,ii4,gu8,ak5,ai9,ah7,hap,k0',kL,x1,x2,e3,e4];refine cr1 (by simp only[aa6,kn]; omega) (by simp only[aa2,if_true]) ⟨⟨?_,?_⟩,ps++[(aa9.mk k d xs,al)],rs,.slice U.next 0 ((ps.filterMap ci8).length+1) 5,hrest,by rw[List.append_assoc]; exact h2,?_,?_,?_,fun id k h=>?_⟩
   ·simp only[aa6,kn]; omega
   ·simp only[aa2,x3,x6,e6,if_false]; exact k1
   ·simp only[aa2,e4,if_false,if_true]
   ·simp only[aa6,kn]; omega
   ·rw[List.filterMap_append];simp only[List.filterMap_cons,hat,List.filterMap_nil];rw[List.map_append];refine .inr ⟨U.next,by simp,?_,by simp only[aa6,kn]; omega⟩;simp only[aa2,x4,x5,if_false,if_true]; rfl
   ·cases h; omega
  ·have hat:ci8 (aa9.mk k d xs,al)=none:=by unfold ci8; rw[if_neg]; exact hk
   simp only[go_sem,hk,uL];refine cr1 (by rw[aa6,un]; omega) (by simp only[aa2,if_true]) ⟨⟨by rw[aa6]; exact hbx.1,by rw[aa2,if_neg e6]; exact hbx.2⟩,ps++[(aa9.mk k d xs,al)],rs,v,hrest,by rw[List.append_assoc]; exact h2,by rw[aa2,if_neg e4]; exact u0,by rw[aa6,un]; omega,?_,h6⟩;rw[List.filterMap_append];simp only[List.filterMap_cons,hat,List.filterMap_nil,List.append_nil];exact hg.mono (Nat.le_refl _) fun id hv _=>by rw[aa2,if_neg (by have:=h6 _ _ hv; omega)]
 ·rintro t o ⟨⟨q1,q2⟩,ps,rs,v,h1,h2,h3,h4,h5,h6⟩ hlt ho
  cases rs with
  | cons k rs=>cases h1
  | nil=>
  have e0:¬ 0=s1.next:=by omega
  rw[List.append_nil] at h2;have hat:r.atoms=ps.filterMap ci8:=by unfold aa9.atoms; rw[<- h2]; rfl
  simp only[go_sem,e0,h3];rw[hat]
  have hg:Grow { next:=t.next,obj:=(t.kill s1.next).obj } v 5 ((ps.filterMap ci8).map Dep.cs):=h5.mono (Nat.le_refl _) fun id hv hid=>by
   have:=h6 _ _ hv;show (if id=s1.next then none else t.obj id)=_;rw[if_neg (by omega)]
  exact hg.frz (fun e he=>(az1 _ e he).1) (fun _ _=>Nat.not_lt_zero _) fun e he c hc=>by
   obtain ⟨x,_,rfl⟩:=List.mem_map.1 he;exact dj5 x c hc
theorem fc1 {r:aa9}{wh:Int}(h:ar7 r wh=0):r.count<=24/\∀ d∈r.atoms,an8 d=true:=by
 unfold ar7 at h;split at h
 ·cases h
 split at h
 ·cases h
 split at h
 ·cases h
 split at h
 case isFalse=>cases h
 rename_i hc _ hp;refine ⟨by omega,fun d hd=>?_⟩;unfold aa9.atoms at hd;obtain ⟨p,hp1,hp2⟩:=List.mem_filterMap.1 hd;have:=List.all_eq_true.1 hp p hp1;split at hp2
 ·rename_i hk;cases hp2;unfold ah9 at this;simp only[Bool.and_eq_true] at this;have h3:=this.2;rw[if_pos hk] at h3;exact h3
 ·cases hp2
theorem dt2 (r:aa9):r.atoms.length<=r.count:=by
 have:=List.length_filterMap_le ci8 (r.parts false);rw[aa9.au6] at this;exact this
structure PF (u:Store) (m ga:Nat) (F C0:List IV) (Tv iv av:IV) (zs:List Int) (D:List Dep):Prop where
 nx:m+1<u.next
 gm:0<ga/\ga<m
 o0:u.obj 0=some (.cells C0)
 oF:u.obj ga=some (.row F)
 o8:u.obj m=some (.cells [Tv])
 o10:u.obj (m+1)=some (.cells [iv])
 hi:ad1 u (m+2) iv zs
 ha:Grow u av 5 (D.map Dep.cs)
 la:∀ id k,av=.slice id 0 k 5->m+1<id
 ne:∀ i j k k',iv=.slice i 0 k 1->av=.slice j 0 k' 5->i≠j
variable {u u':Store} {m ga:Nat} {F C0:List IV} {Tv iv av:IV} {zs:List Int} {D:List Dep}
theorem ii5 {s:Store}{lo:Nat}{v:IV}{zs:List Int}(h:ad1 s lo v zs):∀ i k,v=.slice i 0 k 1->lo<=i/\i<s.next:=fun i k hv=>by
 rcases h with ⟨rfl,_⟩|⟨id,h1,h2,rfl,_⟩
 ·cases hv
 ·cases hv; exact ⟨h1,h2⟩
theorem PF.mono (h:PF u m ga F C0 Tv iv av zs D)(hn:u.next<=u'.next)(ho:∀ i,i<u.next->u'.obj i=u.obj i):PF u' m ga F C0 Tv iv av zs D where
 nx:=Nat.lt_of_lt_of_le h.nx hn
 gm:=h.gm
 o0:=by rw[ho _ (by have:=h.nx; omega)]; exact h.o0
 oF:=by rw[ho _ (by have:=h.nx; have:=h.gm; omega)]; exact h.oF
 o8:=by rw[ho _ (by have:=h.nx; omega)]; exact h.o8
 o10:=by rw[ho _ h.nx]; exact h.o10
 hi:=h.hi.kept ⟨hn,ho⟩
 ha:=h.ha.mono hn fun id _ hid=>ho id hid
 la:=h.la
 ne:=h.ne
theorem PF.atoms (h:PF u m ga F C0 Tv iv av zs D)(E:List Dep){k nid:Nat}(h1:u.next<=nid)(h2:nid<u.next+k) :
  PF ((ad7 av ⟨u.next+k,u.obj⟩).put nid (.row (D.map Dep.cs++E.map Dep.cs).flatten)) m ga F C0 Tv iv (.slice nid 0 ((D.map Dep.cs).length+(E.map Dep.cs).length) 5) zs (D++E):=by
 have hx:=h.nx;have hg:=h.gm;have hkn:(ad7 av ⟨u.next+k,u.obj⟩).next=u.next+k:=ac1 av
 have hk:∀ i,(∀ k',av≠.slice i 0 k' 5)->(ad7 av ⟨u.next+k,u.obj⟩).obj i=u.obj i:=fun i hi=>by
  rcases h.ha with ⟨hv,_⟩|⟨id,hv,_,_⟩
  ·rw[hv]; rfl
  ·rw[hv];show (if i=id then none else u.obj i)=u.obj i;rw[if_neg fun e=>hi _ (by rw[e]; exact hv)]
 have hlow:∀ i,i<m+2->((ad7 av ⟨u.next+k,u.obj⟩).put nid (.row (D.map Dep.cs++E.map Dep.cs).flatten)).obj i=u.obj i:=fun i hi=>by
  rw[aa2,if_neg (by omega),hk i fun k' hv=>by have:=h.la _ _ hv; omega]
 refine ⟨by rw[aa6,hkn]; omega,hg,?_,?_,?_,?_,?_,?_,fun id k' hv=>by cases hv; omega,fun i j k1 k2 hi hj e=>?_⟩
 ·rw[hlow 0 (by omega)]; exact h.o0
 ·rw[hlow ga (by omega)]; exact h.oF
 ·rw[hlow m (by omega)]; exact h.o8
 ·rw[hlow (m+1) (by omega)]; exact h.o10
 ·rcases h.hi with ⟨hv,hz⟩|⟨id,i1,i2,hv,ho⟩
  ·exact .inl ⟨hv,hz⟩
  ·refine .inr ⟨id,i1,by rw[aa6,hkn]; omega,hv,?_⟩;rw[aa2,if_neg (by omega),hk id fun k' hv2=>h.ne _ _ _ _ hv hv2 rfl];exact ho
 ·refine .inr ⟨nid,by rw[List.map_append,List.length_append],by rw[aa2,if_pos rfl,List.map_append],by rw[aa6,hkn]; exact h2⟩
 ·cases hj;subst e;have:=(ii5 h.hi _ _ hi).2;omega
theorem ii6 {s:Store}{S:Nat->Prop}{fn:Fn}{cap cap':List IV}(h:gq8 s S cap cap'):Frz s S (.func fn [] cap) (.func fn [] cap'):=.func fn [] [] cap cap' rfl h.at.1 (fun i h=>absurd h (Nat.not_lt_zero _)) h.at.2
theorem dt3 {v:IV}(h:Bnd 0 v):Bnd 0 (.ad4 [v]):=.ad4 _ (fn5 h)
open Go Go.Id Go.Proofs
section
variable {α:Type} [Inhabited α] (emb:α->Int)
def fc2 (d:Array α):List IV:=d.toList.map fun x=>.int .i64 (emb x)
theorem av8 (d:Array α):(fc2 emb d).length=d.size:=by simp[fc2]
theorem hm5 {d:Array α}{k:Nat}(h:k<d.size):((fc2 emb d).drop k).head? = some (.int .i64 (emb d[k]!)):=by
 simp[fc2,List.head?_drop,h]
theorem ej9 {d:Array α}{i:Nat}(h:i<(fc2 emb d).length):(fc2 emb d)[i]=.int .i64 (emb (d[i]'(by rw[av8] at h; exact h))):=by simp[fc2]
theorem gn9 {d:Array α}{k:Nat}(h:k<d.size)(x:α):ap5 (fc2 emb d) k [.int .i64 (emb x)]=fc2 emb (d.setIfInBounds k x):=by
 refine List.ext_getElem (by rw[ae4 (by rw[av8]; simp only[List.length_singleton]; omega),av8,av8,Array.size_setIfInBounds]) fun i h1 h2=>?_
 have h3:i<d.size:=by rw[av8,Array.size_setIfInBounds] at h2; exact h2
 have e0:(fc2 emb (d.setIfInBounds k x))[i]=.int .i64 (emb (if k=i then x else d[i])):=by
  rw[ej9]; congr 2; exact Array.getElem_setIfInBounds ..
 rw[e0];unfold ap5;simp only[List.getElem_append,List.length_take,av8,List.getElem_take,List.getElem_drop,List.length_append,List.length_singleton,ej9];by_cases e:i=k
 ·subst e;have g1:¬ i<min i d.size:=by omega
  have g2:i<min i d.size+1:=by omega
  simp only[g1,g2,dite_false,dite_true,if_true,List.getElem_singleton]
 ·have e':¬ k=i:=fun h=>e h.symm
  by_cases e2:i<k
  ·have g1:i<min k d.size:=by omega
   have g2:i<min k d.size+1:=by omega
   simp only[g1,g2,dite_true,e',if_false]
  ·have g1:¬ i<min k d.size:=by omega
   have g2:¬ i<min k d.size+1:=by omega
   have g3:k+1+(i-(min k d.size+1))=i:=by omega
   simp only[g2,g3,dite_false,e',if_false]
theorem go2 {a t vs:List IV}{k:Nat}(h:k+vs.length<=a.length):ap5 (a++t) k vs=ap5 a k vs++t:=by
 unfold ap5;rw[List.take_append_of_le_length (by omega),List.drop_append_of_le_length h];simp only[List.append_assoc]
variable (tl:List IV)
def ba1 (d:Array α):List IV:=fc2 emb d++tl
theorem bn4 (d:Array α):(ba1 emb tl d).length=d.size+tl.length:=by rw[ba1,List.length_append,av8]
theorem ag8 {d:Array α}{k:Nat}(h:k<d.size):((ba1 emb tl d).drop k).head? = some (.int .i64 (emb d[k]!)):=by
 rw[ba1,List.drop_append_of_le_length (by rw[av8]; omega),List.head?_append,hm5 emb h]; rfl
theorem ek1 {d:Array α}{k:Nat}(h:k<d.size)(x:α):ap5 (ba1 emb tl d) k [.int .i64 (emb x)]=ba1 emb tl (d.setIfInBounds k x):=by
 rw[ba1,go2 (by rw[av8,List.length_singleton]; omega),gn9 emb h,ba1]
theorem ek2 {d:Array α}{i j:Nat}(hi:i<d.size)(hj:j<d.size):ap5 (ap5 (ba1 emb tl d) i [.int .i64 (emb d[j]!)]) j [.int .i64 (emb d[i]!)]=ba1 emb tl (Go.Sort.swp d i j):=by
 rw[ek1 emb tl hi,ek1 emb tl (by rw[Array.size_setIfInBounds]; exact hj)]; rfl
theorem swp_size (d:Array α)(i j:Nat):(Go.Sort.swp d i j).size=d.size:=by simp[Go.Sort.swp]
structure SO (id:Nat) (d':Array α) (σ s:Store):Prop where
 next:σ.next<=s.next
 other:∀ i,i≠id->s.obj i=σ.obj i
 row:s.obj id=some (.row (ba1 emb tl d'))
variable {cf:α->α->Int} {g:Nat} {first cap:List IV} {id:Nat}
structure cf8 (cf:α->α->Int) (g:Nat) (first cap:List IV):Prop where
 ok:okF Tryz.prog g=true
 pc:∀ x y:α,PC Tryz.prog EE g (first++[.int .i64 (emb x),.int .i64 (emb y)]++cap) (.int .i64 (cf x y))
theorem fw5 (hC:cf8 emb cf g first cap){σ:Store}(d:Array α)(a b:Nat)(hab:a<=b)(hb:b<=d.size)(hz:d.size<2^40)(ho:σ.obj id=some (.row (ba1 emb tl d))) :
  C Tryz.prog EE 68 [.slice id 0 d.size 1,.int .i64 a,.int .i64 b,.func (.func g) first cap] σ fun v s=>v=.tuple []/\SO emb tl id (Go.Sort.insertionSort (ltOf cf) d a b) σ s:=by
 refine C_f fok68 (nZ rfl) ?_;have w0:=ad2 (i:=a) (by omega);simp only[ic68,go_sem,w0];refine ab3 noT (fun k fr t=>∃ dk:Array α,fr=[(0,.slice id 0 d.size 1),(1,.int .i64 a),(2,.int .i64 b),(3,.func (.func g) first cap),(8,.int .i64 ((a+1+k:Nat):Int))]/\SO emb tl id dk σ t/\dk.size=d.size/\Go.Sort.insOuter (ltOf cf) a b (a+1+k) dk=Go.Sort.insertionSort (ltOf cf) d a b) (b-(a+1)) ⟨d,rfl,⟨Nat.le_refl _,fun _ _=>rfl,ho⟩,rfl,rfl⟩ ?_;rintro k fr t hk ⟨dk,rfl,hS,hsz,hI⟩;by_cases hlt:a+1+k<b
 ·have c1:((a+1+k:Nat):Int)<b:=by omega
  have w1:=ad2 (i:=a+1+k) (by omega);rw[Go.Sort.insOuter,if_pos hlt] at hI;simp only[go_sem,c1];refine ab3 noT (fun m fr u=>∃ (j:Nat) (dj:Array α),fr=[(0,.slice id 0 d.size 1),(1,.int .i64 a),(2,.int .i64 b),(3,.func (.func g) first cap),(8,.int .i64 ((a+1+k:Nat):Int)),(9,.int .i64 (j:Int))]/\j+m=a+1+k/\SO emb tl id dj σ u/\dj.size=d.size/\Go.Sort.insInner (ltOf cf) a j dj=Go.Sort.insInner (ltOf cf) a (a+1+k) dk) (a+1+k) ⟨a+1+k,dk,rfl,rfl,?_,hsz,rfl⟩ ?_
  ·exact ⟨hS.next,hS.other,hS.row⟩
  rintro m fr u hm ⟨j,dj,rfl,hj,hSj,hszj,hIj⟩;by_cases hja:a<j
  ·obtain ⟨j',rfl⟩:∃ j',j=j'+1:=⟨j-1,by omega⟩;have d1:(a:Int)<((j'+1:Nat):Int):=by omega
   have d2:IntKind.i64.wrap (((j'+1:Nat):Int)-1)=(j':Int):=by rw[wrap64 (by omega) (by omega)]; omega
   have d3:(0:Int)<=((j'+1:Nat):Int):=by omega
   have d4:((j'+1:Nat):Int)<d.size:=by omega
   have d5:(0:Int)<=(j':Int):=by omega
   have d6:(j':Int)<d.size:=by omega
   have r1:=ag8 emb tl (d:=dj) (k:=j'+1) (by omega);have r2:=ag8 emb tl (d:=dj) (k:=j') (by omega);have hc:=hC.pc dj[j'+1]! dj[j']!;rw[Go.Sort.insInner] at hIj;have hgt:decide (j'+1>a)=true:=decide_eq_true hja;rw[hgt,Bool.true_and] at hIj;simp only[go_sem,d1,d2,d3,d4,d5,d6,hSj.row,r1,r2,Int.toNat_natCast,Nat.zero_add,Nat.mul_one];refine am1 hC.ok hc ?_;by_cases hcf:cf dj[j'+1]! dj[j']! < 0
   ·have hlt2:ltOf cf dj[j'+1]! dj[j']! = true:=decide_eq_true hcf;rw[if_pos hlt2] at hIj;have hsw:=ek2 emb tl (d:=dj) (i:=j'+1) (j:=j') (by omega) (by omega);have r3:j'+1+1<=(ba1 emb tl dj).length:=by rw[bn4]; omega
    have r4:j'+1<=(ap5 (ba1 emb tl dj) (j'+1) [.int .i64 (emb dj[j']!)]).length:=by rw[ae4 (by rw[bn4]; simp only[List.length_singleton]; omega),bn4]; omega
    simp only[go_sem,hcf,d2,d3,d4,d5,d6,hSj.row,r1,r2,r3,r4,hsw,Int.toNat_natCast,Nat.zero_add,Nat.mul_one];refine ⟨by omega,j',Go.Sort.swp dj (j'+1) j',rfl,by omega,⟨?_,fun i hi=>?_,?_⟩,by rw[swp_size]; exact hszj,hIj⟩
    ·have:=hSj.next; simp only[aa6]; omega
    ·simp only[aa2,hi,if_false]; exact hSj.other i hi
    ·simp only[aa2,if_true]
   ·have hlt2:¬ ltOf cf dj[j'+1]! dj[j']! = true:=by unfold ltOf; simp[hcf]
    rw[if_neg hlt2] at hIj;simp only[go_sem,hcf,w1];refine ⟨by omega,dj,rfl,⟨?_,hSj.other,hSj.row⟩,hszj,?_⟩
    ·have:=hSj.next; show σ.next<=u.next+_; omega
    ·rw[<- hI,<- hIj];exact congrArg (fun n=>Go.Sort.insOuter (ltOf cf) a b n dj) (by omega)
  ·have d1:¬ (a:Int)<(j:Int):=by omega
   have hd:dj=Go.Sort.insInner (ltOf cf) a (a+1+k) dk:=by
    rw[<- hIj]
    cases j with
    | zero=>rfl
    | succ j'=>
     rw[Go.Sort.insInner];have:decide (j'+1>a)=false:=decide_eq_false hja;rw[this]; rfl
   simp only[go_sem,d1,w1];refine ⟨by omega,dj,rfl,⟨?_,hSj.other,hSj.row⟩,hszj,?_⟩
   ·have:=hSj.next; show σ.next<=u.next+_; omega
   ·rw[<- hI,hd];exact congrArg (fun n=>Go.Sort.insOuter (ltOf cf) a b n _) (by omega)
 ·have c1:¬ ((a+1+k:Nat):Int)<b:=by omega
  rw[Go.Sort.insOuter,if_neg hlt] at hI;simp only[go_sem,c1];rw[<- hI];exact ⟨hS.next,hS.other,hS.row⟩
end
section
variable {α:Type} [Inhabited α] (emb:α->Int) (tl:List IV) {cf:α->α->Int} {g:Nat} {first cap:List IV} {id:Nat}
theorem SO.trans {d d':Array α}{σ s t:Store}(h:SO emb tl id d σ s)(h2:SO emb tl id d' s t):SO emb tl id d' σ t :=
 ⟨Nat.le_trans h.next h2.next,fun i hi=>by rw[h2.other i hi,h.other i hi],h2.row⟩
end
theorem go3 {s:Store}(x:Str):dk5 s 0 (.str x) (.str x):=.keep _ (.str _)
theorem go4 {s:Store}(k:IntKind)(n:Int):dk5 s 0 (.int k n) (.int k n):=.keep _ (.int _ _)
theorem hm6 {ab5:List ak2}{inst:List aa4}{p:Pool}(hn:co5 ab5 inst=.inl p):∀ q∈an9 p,ah1 q=true:=fun q hq=>(ef7 hn q hq).1
end Go.Id.Tryz
set_option linter.all false
namespace Go.Id.Tryz
open Go Go.Id Go.Proofs Go.Shelf Go.Id.Md
set_option maxRecDepth 100000
theorem de5 {σ:Store}{id nid:Nat}(l:List aa4)(ho:σ.obj id=some (.row []))(hl:l.length<2^31) :
  ∃ w σ',an5 σ nid 15 (.slice id 0 0 15) (ao3 l)=some (.slice w 0 l.length 15,σ')/\σ'.next=σ.next/\σ'.obj w=some (.row (l.map aa4.cs).flatten)/\(w=id\/w=nid)/\∀ j,j≠id->j≠nid->σ'.obj j=σ.obj j:=by
 have ha:∀ x∈l.map aa4.cs,x.length=15/\x.all IV.leaf=true:=by
  intro x hx;obtain ⟨y,_,rfl⟩:=List.mem_map.1 hx;exact ⟨rfl,rfl⟩
 have hsrc:ax8 σ 15 (.aa3 (l.map aa4.cs))=some (l.length,(l.map aa4.cs).flatten):=by
  have h1:(l.map aa4.cs).all (fun e=>e.length==15)=true:=List.all_eq_true.2 fun x hx=>by rw[(ha x hx).1]; rfl
  simp only[ax8,h1,if_true,List.length_map]
 have hx1:(l.map aa4.cs).flatten.all IV.leaf=true:=bg1 fun x hx=>(ha x hx).2
 have hx0:¬ ((l.map aa4.cs).flatten.all IV.leaf=false):=by rw[hx1]; decide
 unfold an5;rw[hsrc];simp only[hx0,if_false,ho];by_cases h0:l.length=0
 ·have hxs:l=[]:=List.length_eq_zero_iff.1 h0;subst hxs;exact ⟨id,σ,rfl,rfl,ho,.inl rfl,fun _ _ _=>rfl⟩
 ·have h2:0+l.length<=2147483648:=by omega
  have h3:l.length<=2147483648:=by omega
  simp only[h0,and_false,if_false,List.length_nil,Nat.zero_mul,Nat.zero_add,List.drop_nil,List.all_nil,and_self,true_and,List.nil_append,h3,if_true];refine ⟨nid,_,rfl,rfl,?_,.inr rfl,fun j h3 h4=>?_⟩
  ·rw[aa2,if_pos rfl]
  ·rw[aa2,if_neg h4];show (if j=id then none else σ.obj j)=_;rw[if_neg h3]
def ii7:aa4:=⟨[],⟨0,[],[]⟩,0,[],[],[],[],[],[],[],[],[],[]⟩
def ck6 (p:Pool)(n:Int):IV:=if 0<=n/\n<p.rows.length then .tuple [.agg (p.rows.getD n.toNat ⟨default,0,0⟩).pkg.cs,.int .i64 0] else .tuple [.agg ii7.cs,.int .i64 5]
theorem dc5 (p:Pool)(n:Int)(hf:∀ q∈an9 p,q.Fit):PC Tryz.prog EE 24 [p.v,.int .i64 n] (ck6 p n):=by
 unfold ck6;by_cases h:0<=n/\n<p.rows.length
 ·rw[if_pos h];obtain ⟨k,rfl⟩:=Int.eq_ofNat_of_zero_le h.1;have hk:k<p.rows.length:=by omega
  have:=cr9 p k hk (hf _ (List.mem_map.2 ⟨_,List.getElem_mem hk,rfl⟩));have e:p.rows.getD (k:Int).toNat ⟨default,0,0⟩=p.rows[k]:=by simp[List.getD_eq_getElem?_getD,hk]
  rw[e]; exact this
 ·rw[if_neg h];refine ao4 hE fok24 (nZ rfl) (au8 (bv4 p) (.int _ _)) ?_;have hr:=ds2 p.rows n;have hb:(decide (0<=n)&&decide (n<p.rows.length))=false:=by simpa using h
  rw[hb] at hr;simp only[ic24,go_sem,Pool.v]
  first|refine aa5 fok44 (hr) ?_|refine aa8 (hr) ?_
  simp only[go_sem];exact .cn2 (.cons (.io6 (.cons (go3 _) (.cons (go4 _ _) (.cons (go3 _) (.cons (go3 _) (.cons (go4 _ _) (.cons (go3 _) (.cons .dm9 (.cons .dm9 (.cons .dm9 (.cons .dm9 (.cons .dm9 (.cons .dm9 (.cons .dm9 (.cons .dm9 (.cons .dm9 .nil)))))))))))))))) (.cons (go4 _ _) .nil))
end Go.Id.Tryz
