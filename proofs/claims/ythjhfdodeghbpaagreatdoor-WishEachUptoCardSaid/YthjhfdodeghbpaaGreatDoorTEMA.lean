/- PreferWays: the law walked. Conditions: sizes that fit. -/
import Derived.Test.YthjhfdodeghbpaaGreatDoorTEUH
import Derived.Test.YthjhfdodeghbpaaGreatDoorMg
import Derived.Test.YthjhfdodeghbpaaGreatDoorTEUA
import Derived.Test.YthjhfdodeghbpaaGreatDoorTEYW
import Derived.Test.YthjhfdodeghbpaaGreatDoorMwa
import Derived.Test.YthjhfdodeghbpaaGreatDoorTEYJ
import Derived.Test.YthjhfdodeghbpaaGreatDoorTEQB
open List renaming length_map→za,length_append→zb,take_length→zc,append_nil→zd,append_assoc→ze,length_take→zg,take_zero→zh,map_nil→zi,mem_of_mem_take→zj,length_filter_le→zo,length_cons→zp,map_append→zq,mem_map→zr,drop_length→zu,flatMap_singleton→zx,mem_append→zz,filter_nil→z0,length_reverse→z3,flatMap_append→z4,filter_append→z5,map_cons→z8,getElem?_eq_getElem→z9,mem_cons_of_mem→qa,mem_singleton→qe,mem_cons_self→qf
open Nat renaming le_refl→zf,lt_succ_self→zk,lt_of_lt_of_le→zl,le_trans→zn,le_add_right→zw,zero_add→zy,mul_one→z6,le_succ→qc
open Option renaming some→zm
open Bool renaming false_or→zt,and_eq_true→zv
open Array renaming getElem_setIfInBounds→z7,length_toList→qb
open UInt8 renaming ofNat_toNat→qd
set_option linter.all false
set_option maxRecDepth 100000
set_option maxHeartbeats 1000000
private theorem om{P:Prop}(h:P:=by omega):P:=h
private theorem sm{P:Prop}(h:P:=by simp):P:=h
namespace Go.Id.Tryz
open Go Go.Id Go.Proofs Go.Shelf Go.Id.Md
def hu9 (o:ah4)(i:Int):ki4 o (158,[.ab5 [.int .i64 i]]) (ah4.cr2 i):=
 ⟨fok158.1,al3 (ai4 (.int _ _)),λn m _ _=>hu7 i n m⟩
def hv8 (o:ah4):ki4 o (154,[.ab5 [o.v]]) o.eb9 :=
 ⟨fok154.1,al3 (ai4 (aj2 o)),λn m _ _=>hu8 o n m⟩
def hv9 (o:ah4)(b:OOK o){i:Nat}(hi:i<o.a.l.length):ki4 o (217,[.ab5 [o.v],.ab5 [.int .i64 i]]) (o.upF i):=
 ⟨fok217.1,ag7 (ai4 (aj2 o)) (ai4 (.int _ _)),λn m d c=>ki2 o b hi d c⟩
def jr3 (a:List (Nat×List IV))(d:∀f∈a,∀c∈f.2,Bnd 0 c):Bnd 0 (.aa2 (a.map fnC)):=.aa2 _ λe b c hc=>by
 obtain ⟨f,hf,rfl⟩:=zr.1 b
 cases hc with
 | head=>exact .func _ _ _ (λc hc=>by cases hc) (d f hf)
 | tail _ h=>cases h
def fq9 (o:ah4){i:Int}(d:o.a.is i=false)(k:List (Nat×List IV))(cs:List (Int->Int->Int))(m:∀f∈k,∀c∈f.2,Bnd 0 c) :
  Pq 152 [o.v,.int .i64 i,.aa2 (k.map fnC)] (.aa2 ((o.bi3 cs i).map Md.ad1)):=by
 refine af5 hE fok152 (nZ rfl) (aw9 (aj2 o) (.int _ _) (jr3 k m)) ?_;have g:o.v.leaf=true:=rfl;have h:o.v.cs=[o.v]:=rfl;have e:=eg3 o i;have b:=o.bk1 cs i;rw[d] at e
 have j:o.a.an3 i=[]:=by
  unfold ac2.an3 ac2.inst;rw[d];rfl
 rw[j] at b;rw[List.perm_nil.1 b];simp only[ic152,go_sem,g,h];refine aa4 fok149 (e) ?_;simp only[go_sem];exact .by1
structure bx8 (o:ah4):Prop where
 ok:OOK o
 rel:∀n,o.a.is n=true->(o.a.pk n).evr.rel≠[]
 few:o.a.l.length<256
def iu8 (o:ah4)(a:bx8 o)(i:Int):Pq 90 [o.v,.int .i64 i] (.aa2 ((o.bi3 [ah4.cr2 i] i).map Md.ad1)):=by
 have b:=ff7 o a.ok a.rel a.few i [(158,[.ab5 [.int .i64 i]])] [ah4.cr2 i] rfl (nZ rfl) (λk c d=>by
  match k,c with
  | 0,_=>exact hu9 o i) (o.ik9 a.rel)
 refine af5 hE fok90 (nZ rfl) (ag7 (aj2 o) (.int _ _)) ?_;simp only[z8,zi,fnC] at b;simp only[ic90,go_sem]
 first|refine aa4 fok152 (b) ?_|refine aa8 (b) ?_
 simp only[go_sem];exact .keep _ (ax6 _)
def hw5 (o:ah4)(c:bx8 o)(i:Int):Pq 88 [o.v,.int .i64 i] (.aa2 ((o.bi3 [o.upF i] i).map Md.ad1)):=by
 have d:Pq 152 [o.v,.int .i64 i,.aa2 ([(217,[.ab5 [o.v],.ab5 [.int .i64 i]])].map fnC)] (.aa2 ((o.bi3 [o.upF i] i).map Md.ad1)):=by
  cases b:o.a.is i with
  | false=>exact fq9 o b _ _ λf hf=>by rw[qe] at hf;subst hf;exact ag7 (ai4 (aj2 o)) (ai4 (.int _ _))
  | true=>
   obtain ⟨k,rfl,f⟩:=ff4 b
   exact ff7 o c.ok c.rel c.few k [_] [_] rfl (nZ rfl) (λj g h=>by
    match j,g with
    | 0,_=>exact hv9 o c.ok f) (o.jk4 c.rel)
 have e:=ki3 o i;refine af5 hE fok88 (nZ rfl) (ag7 (aj2 o) (.int _ _)) ?_;simp only[z8,zi,fnC] at d;simp only[ic88,go_sem]
 first|refine aa4 fok153 (e) ?_|refine aa8 (e) ?_
 simp only[go_sem]
 first|refine aa4 fok152 (d) ?_|refine aa8 (d) ?_
 simp only[go_sem];exact .keep _ (ax6 _)
def iu9 (o:ah4)(c:bx8 o)(i:Int):Pq 89 [o.v,.int .i64 i] (.aa2 ((o.bi3 [o.eb9,o.upF i] i).map Md.ad1)):=by
 have f:Pq 152 [o.v,.int .i64 i,.aa2 ([(154,[.ab5 [o.v]]),(217,[.ab5 [o.v],.ab5 [.int .i64 i]])].map fnC)] (.aa2 ((o.bi3 [o.eb9,o.upF i] i).map Md.ad1)):=by
  cases b:o.a.is i with
  | false=>
   exact fq9 o b _ _ λf hf=>by
    simp only[List.mem_cons,List.not_mem_nil,or_false] at hf;rcases hf with rfl|rfl
    .exact al3 (ai4 (aj2 o))
    .exact ag7 (ai4 (aj2 o)) (ai4 (.int _ _))
  | true=>
   obtain ⟨k,rfl,h⟩:=ff4 b
   exact ff7 o c.ok c.rel c.few k [_,_] [_,_] rfl (nZ rfl) (λj m n=>by
    match j,m with
    | 0,_=>exact hv8 o
    | 1,_=>exact hv9 o c.ok h) (o.il1 c.rel)
 have g:=ki3 o i;have d:o.v.leaf=true:=rfl;have e:o.v.cs=[o.v]:=rfl;refine af5 hE fok89 (nZ rfl) (ag7 (aj2 o) (.int _ _)) ?_;simp only[z8,zi,fnC] at f;simp only[ic89,go_sem,d,e]
 first|refine aa4 fok153 (g) ?_|refine aa8 (g) ?_
 simp only[go_sem]
 first|refine aa4 fok152 (f) ?_|refine aa8 (f) ?_
 simp only[go_sem];exact .keep _ (ax6 _)
def eg6 (o:ah4)(zs:List Int):(o.av3 zs).length<=o.a.l.length:=by
 unfold ah4.av3;rw[List.length_mergeSort];exact ai3 _ _
def jd5 {o:ah4}(b:bx8 o){x:Int}(h:o.a.is x=true):-(2^40)<=x/\x<=2^40:=by
 obtain ⟨k,rfl,c⟩:=ff4 h;have:=b.few;omega
def fr3 {o:ah4}(b:bx8 o){zs:List Int}:∀x∈o.av3 zs,-(2^40)<=x/\x<=2^40:=λx a=>jd5 b (o.ax4.1 a).2
def eg7 {o:ah4}(a:bx8 o){c:List (Int->Int->Int)}{i:Int}:∀x∈o.bi3 c i,-(2^40)<=x/\x<=2^40:=λx b=>jd5 a (o.jk5 a.rel b)
def cz8 (o:ah4)(b:List (Int->Int->Int))(i:Int):(o.bi3 b i).length<=o.a.l.length:=by
 rw[(o.bk1 b i).length_eq];exact o.a.bf1 i
def av4 (o:ah4):List ai7:=(dl6 o.a [1]).map λj=>⟨1,j,aq9 (o.av3 (o.a.meant j))⟩
def bs1 (a:ac2)(ks:List Int):(dl6 a ks).length<=a.r.ae8.length:=ai3 _ _
def iv1 (o:ah4)(e:bx8 o)(σ:Store)(b:Nat)(m k g f r:IV)(W:List ai7)(h:LI σ b o.a.v m o.v k g f r W)(X:W.length<2^20) :
  Cq 45 [.ptr b 0] σ λv s=>v=.int .i64 0/\jd3 σ b o.a.v m o.v k g f r (W++av4 o) s:=by
 refine C_f fok45 (nZ rfl) ?_;have D:=e.ok.a;have I:=jd2 o.a D [1] sm (σ:=⟨σ.next,σ.obj⟩) b m o.v k g f r h.cell h.lt;have e1:[1].map u8C=[[IV.int .u8 1]]:=rfl;rw[e1] at I;have P:=bs1 o.a [1];have E:=D.ae8;simp only[ic45,go_sem];refine ab8 fok85 I ?_;rintro v U ⟨rfl,d⟩;refine ⟨d.next,?_⟩;unfold av4;generalize dl6 o.a [1]=js at *;have B:=h.kept d;simp only[go_sem,za];refine aa9 noT (λi fr s=>fr=[(0,.ptr b 0),(7,.aa2 (js.map Md.ad1)),(8,.int .i64 js.length),(9,.int .i64 (i:Int))]/\jd3 σ b o.a.v m o.v k g f r (W++(js.take i).map λj=>⟨1,j,aq9 (o.av3 (o.a.meant j))⟩) s) js.length ⟨rfl,_,by rw[zh,zi,zd];exact B,eo6.kept d⟩ ?_;rintro i fr s N ⟨rfl,c,t,hE⟩;by_cases n:i<js.length
 .have⟨j,V,_,Q,p,y⟩:=ad3 js i n;have a1:(i:Int)<js.length:=om;have a2:(0:Int)<=(i:Int):=om;have J:=ac6 (i:=i) om;have H:=bo2 o.a j D;have M:=bf6 o.a j;have F:=er5 o e.ok e.rel (o.a.meant j) (by have:=e.few;omega);have L:=eg6 o (o.a.meant j);have S:=λσ' (h':LI σ' b o.a.v m o.v k g f c (W++(js.take i).map λj=>⟨1,j,aq9 (o.av3 (o.a.meant j))⟩))=>eg1 1 j (o.av3 (o.a.meant j)) (by have:=e.few;omega) (fr3 e) σ' b o.a.v m o.v k g f c _ h' (by simp only[zb,za,zg];omega)
  have hc:=t.cell;have K:o.v.cs=[o.v]:=rfl;have T:o.a.v.cs=[o.a.v]:=rfl;simp only[go_sem,a1,a2,p,Md.ad1,hc]
  first|refine aa4 fok76 (H) ?_|refine aa8 (H) ?_
  simp only[go_sem]
  first|refine aa4 fok87 (F) ?_|refine aa8 (F) ?_
  simp only[go_sem];refine ab8 fok86 (S _ (t.up _)) ?_;rintro v u ⟨rfl,x,A,q⟩;refine ⟨q.next,?_⟩;simp only[go_sem,J];refine ⟨n,x,?_,hE.trans ((eo6.kept ((Kept.refl s).up _)).trans q)⟩;rw[y,zq,<- ze];exact A
 .have z:i=js.length:=om;subst z;have a1:¬(js.length:Int)<js.length:=om;rw[zc] at t;simp only[go_sem,a1];exact ⟨c,t,hE⟩
def gm6 (o:ah4)(j n:Int):List Int:=if (o.a.jb j).kind=4 then o.bi3 [o.eb9,o.upF n] n else o.bi3 [o.upF n] n
def cb6 (o:ah4)(j:Int):List ai7:=(o.a.meant j).map λn=>⟨2,n,aq9 (gm6 o j n)⟩
def kv4 (o:ah4):List Int:=(dl6 o.a [3,4]).flatMap o.a.meant
def iv2 (o:ah4)(now:List Int):List ai7:=(now.filter λn=>!decide (n∈kv4 o)).map λn=>⟨3,n,aq9 (o.bi3 [ah4.cr2 n] n)⟩
def bb2 (o:ah4)(now:List Int):List ai7:=(dl6 o.a [3,4]).flatMap (cb6 o)++iv2 o now
def MI (σ:Store)(lp:Nat)(c0 c1 c2 c3 c4 c5 ov:IV)(mi n:Nat)(c:Nat->Bool)(W:List ai7)(s:Store):Prop :=
 ∃ov',LI s lp c0 c1 c2 c3 c4 c5 ov' W/\eo6 σ s lp ov ov'/\s.obj mi=zm (.row (di8 c n))/\mi<s.next/\∀k,ov'≠.slice mi 0 k 3
def MI.there {σ s u:Store}{i:Nat}{z y x t r q A a:IV}{d n:Nat}{c:Nat->Bool}{W B:List ai7}(D:LI s i z y x t r q a W)(hE:eo6 σ s i A a)(m:s.obj d=zm (.row (di8 c n)))(g:d<s.next)(f:∀k,a≠.slice d 0 k 3)
  (h:jd3 s i z y x t r q a B u):MI σ i z y x t r q A d n c B u:=by
 have⟨j,o,b⟩:=h;refine ⟨j,o,hE.trans b,?_,zl g b.next,λk e=>?_⟩
 .rw[b.obj d g (λe=>by rw[e,D.cell] at m;cases m) f,m]
 .rcases b.new with p|p
  .exact f k (by rw[<- p];exact e)
  .have:=p _ _ e;omega
def MI.up {σ s:Store}{e:Nat}{o m j i g f b:IV}{d n:Nat}{c:Nat->Bool}{W:List ai7}(h:MI σ e o m j i g f b d n c W s)(k:Nat):MI σ e o m j i g f b d n c W ⟨s.next+k,s.obj⟩:=by
 have⟨a,u,t,r,q,p⟩:=h;exact ⟨a,u.up k,t.trans (.kept ((Kept.refl s).up k)),r,zl q (zw _ _),p⟩
def MI.put {σ s:Store}{j:Nat}{z y x u t r o:IV}{d n:Nat}{c c':Nat->Bool}{W:List ai7}(h:MI σ j z y x u t r o d n c W s)(B:σ.next<=d):MI σ j z y x u t r o d n c' W (s.put d (.row (di8 c' n))):=by
 have⟨g,f,m,q,E,p⟩:=h;have k:¬j=d:=λe=>by rw[<- e,f.cell] at q;cases q
 refine ⟨g,⟨by rw[aa3,if_neg k];exact f.cell,f.out.mono (zf _) λid A D=>?_,f.lt⟩,⟨m.next,λi hi a b=>?_,m.new⟩,by rw[aa3,if_pos rfl],E,p⟩
 .rw[aa3,if_neg λe=>p _ (by rw[<- e];exact A)]
 .rw[aa3,if_neg om,m.obj i hi a b]
def jr4 (o:ah4)(b:bx8 o)(j:Int):∃f,okF Tryz.prog f=true/\(∀n,Pq f [o.v,.int .i64 n] (.aa2 ((gm6 o j n).map Md.ad1)))/\f=if (o.a.jb j).kind=4 then 89 else 88:=by
 unfold gm6;by_cases h:(o.a.jb j).kind=4
 .exact ⟨_,fok89.1,λn=>by rw[if_pos h];exact iu9 o b n,by rw[if_pos h]⟩
 .exact ⟨_,fok88.1,λn=>by rw[if_neg h];exact hw5 o b n,by rw[if_neg h]⟩
def jr5 {o:ah4}(a:bx8 o){j n:Int}:(gm6 o j n).length<2^30/\∀x∈gm6 o j n,-(2^40)<=x/\x<=2^40:=by
 have:=a.few;unfold gm6;split
 .exact ⟨by have:=cz8 o [o.eb9,o.upF n] n;omega,eg7 a⟩
 .exact ⟨by have:=cz8 o [o.upF n] n;omega,eg7 a⟩
def er6 (a:ac2):a.p.rows.length=a.l.length:=by
 show _=(ac3 a.p).length;rw[ac3,za]
def ct4 {b c:Type}{f:b->List c}{m:Nat}:∀l:List b,(∀x∈l,(f x).length<=m)->(l.flatMap f).length<=l.length*m:=by
 intro l
 induction l with
 | nil=>intro _;simp
 | cons a l ih=>
  intro h;have g:=h a qf;have e:=ih λx d=>h x (qa _ d)
  rw[List.flatMap_cons,zb,zp,Nat.succ_mul];omega
def jr6 (o:ah4)(hO:bx8 o)(now:List Int)(hnow:∀n∈now,∃k:Nat,n=k/\k<o.a.l.length)(hnl:now.length<=256)(σ:Store)(lp:Nat)(c1 c3 c5 ov:IV)(W:List ai7)
  (h:LI σ lp o.a.v c1 o.v c3 (.aa2 (now.map Md.ad1)) c5 ov W) (hW:W.length<2^20) :
  Cq 46 [.ptr lp 0] σ λv s=>v=.int .i64 0/\jd3 σ lp o.a.v c1 o.v c3 (.aa2 (now.map Md.ad1)) c5 ov (W++bb2 o now) s:=by
 refine C_f fok46 (nZ rfl) ?_;have hA:=hO.ok.a;have hc:=h.cell;have hlp:=h.lt;have hP:=aq4 o.a;have hCn:=ao8 o.a.p;rw[er6] at hCn;have hl256:=hA.len;have h64:=hA.ae8;have e1:[3,4].map u8C=[[IV.int .u8 3],[IV.int .u8 4]]:=rfl;have hR:=as4 o.a hA;have r2:o.a.r.cs[2]? = zm (ax2 o.a.r.ae8):=rfl;have rl:o.a.r.cs.length=5:=rfl;have jv:ax2 o.a.r.ae8=.aa2 (o.a.r.ae8.map Job.cs):=rfl
 have hjm:∀j∈dl6 o.a [3,4],∃m:Nat,j=m/\m<o.a.r.ae8.length/\(o.a.r.ae8.map Job.cs).getD m []=(o.a.jb j).cs:=λj hj=>by
  obtain ⟨m,rfl,h1,_⟩:=al4.1 hj;exact ⟨m,rfl,h1,by simp[ac2.jb,List.getD_eq_getElem?_getD,h1]⟩
 have hjl:=bs1 o.a [3,4];have hmm:∀j n,n∈o.a.meant j->∃k:Nat,n=k/\k<o.a.l.length:=λj n hn=>o.a.fm5 hn
 have hS1:Kept σ ((⟨σ.next+1,σ.obj⟩:Store).put σ.next (.row (di8 (λ_=>false) o.a.l.length))):=⟨qc _,λi hi=>by
  rw[aa3,if_neg om]⟩
 simp only[ic46,go_sem,hc]
 first|refine aa4 fok34 (hP) ?_|refine aa8 (hP) ?_
 simp only[go_sem];refine aa4 fok28 (hCn) ?_;simp only[fm3,Go.Id.Tryz.ed5 _ (show o.a.l.length<=2147483648 by omega),go_sem];rw[et1];have hJ:=jd2 o.a hA [3,4] sm _ lp c1 o.v c3 (.aa2 (now.map Md.ad1)) c5 ov (by rw[hS1.obj lp hlp];exact hc) (zl hlp hS1.next);rw[e1] at hJ;refine ab8 fok85 hJ ?_;rintro v s0 ⟨rfl,hk0⟩;refine ⟨hk0.next,?_⟩
 have hM0:MI σ lp o.a.v c1 o.v c3 (.aa2 (now.map Md.ad1)) c5 ov σ.next o.a.l.length (λ_=>false) W s0:=by
  refine ⟨ov,(h.kept hS1).kept hk0,(eo6.kept hS1).trans (.kept hk0),?_,zl (zk _) hk0.next,λk e=>?_⟩
  .rw[hk0.obj _ (zk _),aa3,if_pos rfl]
  .have:=(Md.am7 h.out e).2;omega
 unfold bb2 iv2;have hmet:kv4 o=(dl6 o.a [3,4]).flatMap o.a.meant:=rfl;rw[hmet];generalize dl6 o.a [3,4]=js at *;clear hJ hk0 hS1 hmet;simp only[go_sem,za]
 refine aa9 noT (λi fr s=>∃c,fr=[(0,.ptr lp 0),(3,.slice σ.next 0 o.a.l.length 1),(20,.aa2 (js.map Md.ad1)),(21,.int .i64 js.length),(22,.int .i64 (i:Int))] /\
  MI σ lp o.a.v c1 o.v c3 (.aa2 (now.map Md.ad1)) c5 ov σ.next o.a.l.length c (W++(js.take i).flatMap (cb6 o)) s/\∀m,m<o.a.l.length->c m=decide ((m:Int)∈(js.take i).flatMap o.a.meant)) js.length
  ⟨λ_=>false,rfl,by rw[zh,List.flatMap_nil,zd];exact hM0,λm _=>by simp⟩ ?_
 clear hM0 h hc;rintro i fr s hle ⟨c,rfl,hM,hcm⟩;by_cases hlt:i<js.length
 .have⟨j,hj,_,hdr,hget,htk⟩:=ad3 js i hlt;have a1:(i:Int)<js.length:=om;have a2:(0:Int)<=(i:Int):=om;have wi:=ac6 (i:=i) om;have⟨m,hjm1,hjm2,hjm3⟩:=hjm j hj;have b1:(0:Int)<=j:=om;have b2:j<o.a.r.ae8.length:=om;have b3:j.toNat=m:=om;have j0:(o.a.jb j).cs.head? = zm (.int .u8 (o.a.jb j).kind):=rfl;have hMt:=bo2 o.a j hA;have hml:=bf6 o.a j;have hmm2:=hmm j;have⟨f,f1,f2,f3⟩:=jr4 o hO j;have hfl:=ct4 (f:=cb6 o) (m:=256) (js.take i) (λx _=>by rw[cb6,za];have:=bf6 o.a x;omega);rw[zg] at hfl;have hmv:cb6 o j=(o.a.meant j).map λn=>⟨2,n,aq9 (gm6 o j n)⟩:=rfl
  have hWL:(W++(js.take i).flatMap (cb6 o)).length<2^20+2^16:=by rw[zb];omega
  have⟨ov',hL,hE,hm,hml2,hne⟩:=hM;have hc:=hL.cell;have hM:MI σ lp o.a.v c1 o.v c3 (.aa2 (now.map Md.ad1)) c5 ov σ.next o.a.l.length c (W++(js.take i).flatMap (cb6 o)) s:=⟨ov',hL,hE,hm,hml2,hne⟩;by_cases ek:(o.a.jb j).kind=4
  all_goals
   first|rw[if_pos ek] at f3|rw[if_neg ek] at f3
   subst f3;simp only[go_sem,a1,a2,hget,Md.ad1,hc]
   first|refine aa4 fok75 (hR) ?_|refine aa8 (hR) ?_
   simp only[go_sem,r2,rl,jv,za,b1,b2,b3,hjm3,ax9,bh5,au7,j0,ek,hc]
   first|refine aa4 fok76 (hMt) ?_|refine aa8 (hMt) ?_
   simp only[go_sem,za]
   refine aa9 noT (λk fr u=>∃c,fr=[(0,.ptr lp 0),(3,.slice σ.next 0 o.a.l.length 1),(6,.func (.func _) [o.v] []),(20,.aa2 (js.map Md.ad1)),(21,.int .i64 js.length),(22,.int .i64 (i:Int)),(52,.aa2 ((o.a.meant j).map Md.ad1)),(53,.int .i64 (o.a.meant j).length),(54,.int .i64 (k:Int))] /\
    MI σ lp o.a.v c1 o.v c3 (.aa2 (now.map Md.ad1)) c5 ov σ.next o.a.l.length c (W++(js.take i).flatMap (cb6 o)++((o.a.meant j).take k).map λn=>⟨2,n,aq9 (gm6 o j n)⟩) u/\∀m,m<o.a.l.length->c m=decide ((m:Int)∈(js.take i).flatMap o.a.meant++(o.a.meant j).take k)) (o.a.meant j).length
    ⟨c,rfl,by rw[zh,zi,zd];exact hM,λm hm=>by rw[zh,zd];exact hcm m hm⟩ ?_
   clear hM hc hL hE hm hml2 hne hcm;rintro k fr u hk ⟨c,rfl,hM,hcm⟩;by_cases hlk:k<(o.a.meant j).length
   .have⟨n,hn,_,hdr2,hget2,htk2⟩:=ad3 (o.a.meant j) k hlk;have⟨kk,hk1,hk2⟩:=hmm2 n hn;have d1:(k:Int)<(o.a.meant j).length:=om;have d2:(0:Int)<=(k:Int):=om;have wk:=ac6 (i:=k) om;have d3:(0:Int)<=n:=om;have d4:n<(o.a.l.length:Int):=om;have d5:n.toNat=kk:=om;have p1:=fs8 c hk2 true;have p2:kk+1<=(di8 c o.a.l.length).length:=by rw[bc9];omega
    have hw:=jr5 hO (j:=j) (n:=n);have hM2:=hM.put (c':=λi=>if i=kk then true else c i) (zf _);have⟨ov',hL,hE,hm,hml2,hne⟩:=hM2;have hm0:u.obj σ.next=zm (.row (di8 c o.a.l.length)):=by have⟨_,_,_,h,_⟩:=hM;exact h
    have hT:=eg1 2 n (gm6 o j n) hw.1 hw.2 _ lp _ _ _ _ _ _ _ _ hL (by simp only[zb,za,zg] at hWL ⊢;omega);simp only[go_sem,d1,d2,hget2,Md.ad1,d3,d4,d5,hm0,zy,z6,p1,p2];refine ak7 f1 (ey8 (f2 n)) ?_;rintro v s ⟨rfl,rfl⟩;refine ⟨zf _,?_⟩;simp only[go_sem];refine ab8 fok86 hT ?_;rintro v u2 ⟨rfl,hO2⟩;have hM3:=MI.there hL hE hm hml2 hne hO2;refine ⟨by have⟨_,_,h⟩:=hO2;exact h.next,?_⟩;simp only[go_sem,wk];refine ⟨hlk,_,by rw[htk2,zq,<- ze];exact hM3,λm hmm=>?_⟩;show (if m=kk then true else c m)=_;rw[htk2,hcm m hmm];by_cases e:m=kk
    .subst e;simp[hk1]
    .have:¬(m:Int)=n:=om;rw[if_neg e];simp[this]
   .have hk':k=(o.a.meant j).length:=om;subst hk';have d1:¬((o.a.meant j).length:Int)<(o.a.meant j).length:=om;simp only[go_sem,d1,wi];rw[zc] at hM hcm;refine ⟨hlt,c,?_,λm hm=>?_⟩
    .rw[htk,z4,zx,hmv,<- ze];exact hM
    .rw[htk,z4,zx];exact hcm m hm
 .have hi':i=js.length:=om;subst hi';have a1:¬(js.length:Int)<js.length:=om;rw[zc] at hM hcm;have hfl:=ct4 (f:=cb6 o) (m:=256) js (λx _=>by rw[cb6,za];have:=bf6 o.a x;omega);have hWL:(W++js.flatMap (cb6 o)).length<2^20+2^16:=by rw[zb];omega
  obtain ⟨ov0,hc⟩:∃ov',s.obj lp=zm (.cells [o.a.v,c1,o.v,c3,.aa2 (now.map Md.ad1),c5,ov']):=by have⟨ov',h,_⟩:=hM;exact ⟨ov',h.cell⟩
  simp only[go_sem,a1,hc,za]
  refine aa9 noT (λk fr u=>fr=[(0,.ptr lp 0),(3,.slice σ.next 0 o.a.l.length 1),(72,.aa2 (now.map Md.ad1)),(73,.int .i64 now.length),(74,.int .i64 (k:Int))] /\
   MI σ lp o.a.v c1 o.v c3 (.aa2 (now.map Md.ad1)) c5 ov σ.next o.a.l.length c (W++js.flatMap (cb6 o)++((now.take k).filter λn=>!decide (n∈js.flatMap o.a.meant)).map λn=>⟨3,n,aq9 (o.bi3 [ah4.cr2 n] n)⟩) u) now.length
   ⟨rfl,by rw[zh,z0,zi,zd];exact hM⟩ ?_
  clear hM hc;rintro k fr u hk ⟨rfl,hM⟩;by_cases hlk:k<now.length
  .have⟨n,hn,_,hdr2,hget2,htk2⟩:=ad3 now k hlk;have⟨kk,hk1,hk2⟩:=hnow n hn;have d1:(k:Int)<now.length:=om;have d2:(0:Int)<=(k:Int):=om;have wk:=ac6 (i:=k) om;have d3:(0:Int)<=n:=om;have d4:n<(o.a.l.length:Int):=om;have d5:n.toNat=kk:=om;have hck:=hcm kk hk2;rw[<- hk1] at hck;have⟨ov',hL,hE,hm,hml2,hne⟩:=hM;have hc:=hL.cell
   have hgt:((di8 c o.a.l.length).drop kk).head? = zm (.bool (decide (n∈js.flatMap o.a.meant))):=by
    rw[List.head?_drop,z9 (by rw[bc9];exact hk2),eh2,hck]
   have hS:=iu8 o hO n;have hwl:=cz8 o [ah4.cr2 n] n
   have hWk:(W++js.flatMap (cb6 o)++((now.take k).filter λn=>!decide (n∈js.flatMap o.a.meant)).map λn=>(⟨3,n,aq9 (o.bi3 [ah4.cr2 n] n)⟩:ai7)).length<2^30:=by
    have:=zo (λn=>!decide (n∈js.flatMap o.a.meant)) (now.take k);rw[zg] at this;rw[zb,za];omega
   by_cases cn:n∈js.flatMap o.a.meant
   .simp only[cn,decide_true] at hgt;simp only[go_sem,d1,d2,hget2,Md.ad1,d3,d4,d5,hm,zy,z6,hgt,wk];refine ⟨hlk,?_⟩;rw[htk2,z5,List.filter_cons_of_neg (by simp[cn]),z0,zd];exact ⟨ov',hL,hE,hm,hml2,hne⟩
   .simp only[cn,decide_false] at hgt;have hT:=eg1 3 n (o.bi3 [ah4.cr2 n] n) (by have:=hO.few;omega) (eg7 hO) u lp _ _ _ _ _ _ _ _ hL hWk;simp only[go_sem,d1,d2,hget2,Md.ad1,d3,d4,d5,hm,zy,z6,hgt,hc];refine aa4 fok90 (hS) ?_;simp only[go_sem];refine ab8 fok86 hT ?_;rintro v u2 ⟨rfl,hO2⟩;have hM3:=MI.there hL hE hm hml2 hne hO2;refine ⟨by have⟨_,_,h⟩:=hO2;exact h.next,?_⟩;simp only[go_sem,wk];refine ⟨hlk,?_⟩;rw[htk2,z5,List.filter_cons_of_pos (by simp[cn]),z0,zq,<- ze];exact hM3
  .have hk':k=now.length:=om;subst hk';have d1:¬(now.length:Int)<now.length:=om;rw[zc] at hM;simp only[go_sem,d1];have⟨ov',hL,hE,_⟩:=hM;exact ⟨ov',by rw[<- ze];exact hL,hE⟩
section
variable {α:Type} [Inhabited α] (emb:α->Int) (tl:List IV) {id:Nat}
def er7 {σ:Store}(d:Array α)(U:d.size<2^40)(I:σ.obj id=zm (.row (bb6 emb tl d))) :
  Cq 94 [.slice id 0 d.size 1] σ λv s=>v=.tuple []/\∃x,x.toList=d.toList.reverse/\SO emb tl id x σ s:=by
 refine C_f fok94 (nZ rfl) ?_;have w0:IntKind.wrap .i64 ((d.size:Int)-1)=(d.size:Int)-1:=wrap64 om om;simp only[ic94,go_sem,w0]
 refine aa9 noT (λi fr t=>∃(j:Int) (a:Array α),fr=[(0,.slice id 0 d.size 1),(2,.int .i64 (i:Int)),(3,.int .i64 j)]/\SO emb tl id a σ t/\a.size=d.size/\j=(d.size:Int)-1-i/\∀m (h:m<d.size) (r:m<a.size),a[m]=if m<i\/d.size<=m+i then d[d.size-1-m] else d[m]) d.size
  ⟨(d.size:Int)-1,d,rfl,⟨zf _,λ_ _=>rfl,I⟩,rfl,om,λm h r=>by rw[if_neg om]⟩ ?_
 rintro i fr t V ⟨j,a,rfl,p,k,rfl,o⟩;by_cases b:(i:Int)<(d.size:Int)-1-i
 .obtain ⟨j,J⟩:∃j:Nat,(d.size:Int)-1-i=j:=⟨((d.size:Int)-1-i).toNat,om⟩;rw[J] at b ⊢;have T:(0:Int)<=i:=om;have S:(i:Int)<d.size:=om;have Q:(0:Int)<=j:=om;have P:(j:Int)<d.size:=om;have z:=ac6 (i:=i) om;have y:IntKind.wrap .i64 ((j:Int)-1)=(j:Int)-1:=wrap64 om om;have⟨H,F,E,D,B⟩:=aj7 emb tl (d:=a) (i:=i) (j:=j) om om;simp only[go_sem,b,T,S,Q,P,p.row,H,F,E,D,B,z,y,z6];refine ⟨om,_,Go.Sort.swp a i j,rfl,⟨?_,λm f=>?_,?_⟩,by rw[swp_size];exact k,om,λm h r=>?_⟩
  .have:=p.next;simp only[aa7];omega
  .simp only[aa3,f,if_false];exact p.other m f
  .simp only[aa3,if_true]
  .have hi:i<a.size:=om;have n:j<a.size:=om;have f:m<a.size:=om;have e1:=o i om hi;have e2:=o j om n;have e3:=o m h f;rw[if_neg om] at e1 e2
   have q:∀(A:Array α) (e:A=(a.setIfInBounds i a[j]!).setIfInBounds j a[i]!) (K:m<A.size),A[m]=if m=j then a[i] else if m=i then a[j] else a[m]:=by
    rintro _ rfl K;rw[z7 (by simpa using f)];simp only[getElem!_pos a i hi,getElem!_pos a j n];by_cases c:m=j
    .subst c;simp
    .rw[if_neg λe=>c e.symm,if_neg c,z7 (by simpa using f)];by_cases g:m=i
     .subst g;simp
     .rw[if_neg λe=>g e.symm,if_neg g]
   refine (q _ rfl r).trans ?_;by_cases c:m=j
   .rw[if_pos c,if_pos om,e1];congr 1;omega
   .by_cases g:m=i
    .rw[if_neg c,if_pos g,if_pos om,e2];congr 1;omega
    .rw[if_neg c,if_neg g,e3];by_cases u:m<i\/d.size<=m+i
     .rw[if_pos u,if_pos om]
     .rw[if_neg u,if_neg om]
 .simp only[go_sem,b];refine ⟨a,List.ext_getElem (by simp[k]) λm W N=>?_,p⟩;have M:m<d.size:=by simpa using N
  have L:m<a.size:=om;have:=o m M L;simp only[Array.getElem_toList,List.getElem_reverse,qb];rw[this];split
  .rfl
  .congr 1;omega
end
def kv5 {s:Store}{lo:Nat}{v:IV}{zs:List Int}(j:zs.length<2^40)(hr:cb9 s lo v zs) :
  Cq 94 [v] s λw u=>w=.tuple []/\s.next<=u.next/\(∀i,i<lo->u.obj i=s.obj i)/\cb9 u lo v zs.reverse:=by
 rcases hr with ⟨rfl,rfl⟩|⟨id,cs,o,n,rfl,m,k,p⟩
 .refine C_f fok94 (nZ rfl) ?_;simp only[ic94,go_sem];refine aa9 noT (λi fr t=>fr=[(0,.aa5),(2,.int .i64 0),(3,.int .i64 (-1))]/\t=s) 0 ⟨rfl,rfl⟩ ?_;rintro i fr t _ ⟨rfl,rfl⟩;simp only[go_sem];exact ⟨zf _,λ_ _=>trivial,.inl ⟨rfl,rfl⟩⟩
 .have d:s.obj id=zm (.row (bb6 (λx:Int=>x) (cs.drop zs.length) zs.toArray)):=by
   rw[m,bb6,er2];have e:zs.toArray.toList.map (λx=>IV.int .i64 x)=zs.map bg1:=rfl;rw[e,<- k,List.take_append_drop]
  have g:=er7 (λx:Int=>x) (cs.drop zs.length) (id:=id) zs.toArray (by simpa using j) d;have c:zs.toArray.size=zs.length:=sm
  rw[c] at g;refine g.mono λw u ⟨e,h,f,b⟩=>⟨e,b.next,λi hi=>b.other i om,.inr ⟨id,_,o,zl n b.next,by rw[z3],b.row,?_,?_⟩⟩
  .have a:h.toList=zs.reverse:=by rw[f]
   rw[bb6,er2,a,List.take_append_of_le_length sm,List.take_of_length_le sm]
  .have a:h.size=zs.length:=by rw[<- qb,f];simp
   rw[bn7,a,z3];omega
def fr4 (l:List Int):List ai7:=l.map λn=>⟨5,n,[[[-(n+1)]]]⟩
def onW (l:List Int):List ai7:=l.map λn=>⟨6,n,aq9 [n]⟩
def er8 (o:ah4)(now rest:List Int):List ai7:=fr4 (o.av3 rest).reverse++onW now
def iv3 {σ s:Store}{v:IV}{zs:List Int}(a:Kept σ s)(hr:cb9 s σ.next v zs):Kept σ (s.kills (bp3 v)):=⟨a.next,λi hi=>by
 show (if bp3 v i=true then s.obj i else none)=_
 cases b:bp3 v i with
 | true=>rw[if_pos rfl,a.obj i hi]
 | false=>have:=(df2 hr b).1;omega⟩
def ki5 (o:ah4)(I:bx8 o)(b c:List Int)(y:∀n∈b,-(2^39)<=n/\n<=2^39)(ah:b.length<=256)(T:c.length<256)(σ:Store)(g:Nat)(L J H:IV)(W:List ai7)
  (h:LI σ g o.a.v L o.v J (.aa2 (b.map Md.ad1)) (.aa2 (c.map Md.ad1)) H W) (hW:W.length<2^21) :
  Cq 48 [.ptr g 0] σ λv s=>v=.int .i64 0/\jd3 σ g o.a.v L o.v J (.aa2 (b.map Md.ad1)) (.aa2 (c.map Md.ad1)) H (W++er8 o b c) s:=by
 refine eb4 fok48 (nZ rfl) ?_;have hc:=h.cell;have ai:=h.lt;have hS:=λs=>hu6 o I.ok I.rel c T s
 have ag:=eg6 o c;have ab:=I.few;have P:=fr3 I (zs:=c);simp only[ic48,ev];refine ab7 (ac4 ?_);simp only[go_sem];refine ab7 (ac4 ?_);simp only[go_sem,hc];refine ab8 fok87 (hS _) ?_;rintro v s ⟨j,hr⟩;refine ⟨j.next,?_⟩;simp only[go_sem];refine ab7 (ac4 ?_);simp only[go_sem];have j:Kept σ s:=by first|exact j|exact j.low
 have hr:cb9 s σ.next v (o.av3 c):=hr.low (by first|exact zf _|exact zw _ _);unfold er8;generalize o.av3 c=sl at *;refine ab8 fok94 (kv5 om hr) ?_;rintro w u ⟨rfl,z,E,q⟩;refine ⟨z,?_⟩;simp only[go_sem];have ak:=j.next;have D:Kept σ u:=⟨om,λi hi=>by rw[E i hi,j.obj i hi]⟩;have Q:∀x∈sl.reverse,-(2^40)<=x/\x<=2^40:=λx N=>P x (List.mem_reverse.1 N)
 have aa:sl.reverse.length<256:=by rw[z3];omega
 generalize sl.reverse=rv at *;refine fj5 (S:=bp3 v) (fr':=[(0,.ptr g 0),(3,.aa2 (rv.map Md.ad1))]) (λm=>?_) (ac4 ?_)
 .by_cases hm:m=3
  .subst hm;exact .inr (df1 q)
  .left;have e:(m==3)=false:=by simpa using hm
   simp only[Frm.get,List.lookup,e]
   try rfl
 have r:=iv3 D q;generalize u.kills (bp3 v)=K at *;have d:=h.kept r;simp only[go_sem,za]
 refine aa9 noT (λi fr s=>fr=[(0,.ptr g 0),(19,.aa2 (rv.map Md.ad1)),(20,.int .i64 rv.length),(21,.int .i64 (i:Int))]/\jd3 σ g o.a.v L o.v J (.aa2 (b.map Md.ad1)) (.aa2 (c.map Md.ad1)) H (W++fr4 (rv.take i)) s) rv.length
  ⟨rfl,_,by rw[zh,fr4,zi,zd];exact d,.kept r⟩ ?_
 clear d r q D E hr j hS hc;rintro i fr s aj ⟨rfl,t,d,hE⟩;by_cases A:i<rv.length
 .have⟨n,U,_,Y,f,p⟩:=ad3 rv i A;have a1:(i:Int)<rv.length:=om;have a2:(0:Int)<=(i:Int):=om;have wi:=ac6 (i:=i) om;have z:=Q n U;have w1:IntKind.wrap .i64 (n+1)=n+1:=wrap64 om om;have w2:IntKind.wrap .i64 (0-(n+1))=-(n+1):=by rw[wrap64 om om];omega
  have⟨S1,e1,e2,e3,ae,af⟩:=fb9 (nid:=s.next) (k:=1) d ⟨5,n,[[[-(n+1)]]]⟩ (by simp only[zb,fr4,za,zg];omega) (zf _) (zk _);have ac:ai7.cs ⟨5,n,[[[-(n+1)]]]⟩=[.int .u8 5,.int .i64 n,.aa2 [[.aa2 [[.aa2 [[.int .i64 (-(n+1))]]]]]]]:=rfl;rw[ac] at e1;have hc:=d.cell;simp only[go_sem,a1,a2,f,Md.ad1,hc,w1,w2,e1,e3,wi];refine ⟨A,_,?_,hE.trans af⟩;have e:fr4 (rv.take (i+1))=fr4 (rv.take i)++[⟨5,n,[[[-(n+1)]]]⟩]:=by rw[p];simp[fr4]
  rw[e,<- ze];exact ae
 .have X:i=rv.length:=om;subst X;have a1:¬(rv.length:Int)<rv.length:=om;rw[zc] at d;have hc:=d.cell;have al:(W++fr4 rv).length<2^22:=by rw[zb,fr4,za];omega
  simp only[go_sem,a1,hc,za]
  refine aa9 noT (λk fr u=>fr=[(0,.ptr g 0),(46,.aa2 (b.map Md.ad1)),(47,.int .i64 b.length),(48,.int .i64 (k:Int))]/\jd3 σ g o.a.v L o.v J (.aa2 (b.map Md.ad1)) (.aa2 (c.map Md.ad1)) H (W++fr4 rv++onW (b.take k)) u) b.length
   ⟨rfl,_,by rw[zh,onW,zi,zd];exact d,hE⟩ ?_
  clear d hE hc;rintro k fr u j ⟨rfl,t,d,hE⟩;by_cases B:k<b.length
  .have⟨n,U,_,Y,f,p⟩:=ad3 b k B;have d1:(k:Int)<b.length:=om;have d2:(0:Int)<=(k:Int):=om;have wk:=ac6 (i:=k) om;have hT:=eg1 6 n [n] sm (λx N=>by rw[qe.1 N];have:=y n U;omega) u g _ _ _ _ _ _ _ _ d (by rw[zb,onW,za,zg];omega);have h1:[n].map Md.ad1=[[IV.int .i64 n]]:=rfl;rw[h1] at hT;simp only[go_sem,d1,d2,f,Md.ad1];refine ab8 fok86 hT ?_;rintro v u2 ⟨rfl,M,ad,F⟩;refine ⟨F.next,?_⟩;simp only[go_sem,wk];refine ⟨B,M,?_,hE.trans F⟩;have e:onW (b.take (k+1))=onW (b.take k)++[⟨6,n,aq9 [n]⟩]:=by rw[p];simp[onW]
   rw[e,<- ze];exact ad
  .have V:k=b.length:=om;subst V;have d1:¬(b.length:Int)<b.length:=om;rw[zc] at d;simp only[go_sem,d1];exact ⟨t,by rw[<- ze];exact d,hE⟩
def hw6 {r:aa6}{b:Bool}(h:ah5 3 r b=true):ah5 1 r b=true:=by
 unfold ah5 at *;simp only[zv,Bool.not_eq_true',Bool.or_eq_false_iff,decide_eq_false_iff_not] at h ⊢;exact ⟨⟨⟨⟨by have:=h.1.1.1.1;omega,h.1.1.1.2⟩,h.1.1.2⟩,h.1.2⟩,h.2⟩
def iv4 {r:aa6}(h:af3 r 3=0):af3 r 1=0:=by
 unfold af3 at *;rw[if_neg (by decide)] at h ⊢;split at h
 .cases h
 .rename_i e;rw[if_neg e];split at h
  .cases h
  .rename_i e;rw[if_neg e];split at h
   .rename_i e;rw[if_pos];rw[List.all_eq_true] at e ⊢;exact λx a=>hw6 (e x a)
   .cases h
variable {σ:Store} {lp rp dm tp mid:Nat} {c0 c2 c3 c4 c5 ov av d1 d3 allv clv cv:IV} {W:List ai7} {l:List aa1} {t:ag9} {fm:List (IV×IV)} {cs:List (List (List Int))}
def gk6 (f:l.length<=100)(hs:∀p∈l,Pkg.small p)(r:aa6)(e:af3 r 1=0)(a:r.fit)(h:br3 σ av d1 d3 rp dm tp mid fm (ad7 l).v allv clv cv l t cs)(d:t.OK l.length)(b:t.few)(i:t.h+r.count<=2^20) :
  Cq 159 [.ptr rp 0,.agg r.cs] σ (λv s=>∃w,v=.tuple [w,.int .i64 0]/\dv5 σ tp mid (ad7 l).v allv clv l (r.bn2 l (-1) t) w s):=by
 refine C_f fok159 (nZ rfl) ?_;have hc:=h.cell;have j:=λτ (h:ar1 τ tp mid (ad7 l).v allv clv l t)=>hq6 l f hs (-1) r e a τ tp mid allv clv t h d b i
 simp only[ic159,go_sem,ab3,hc,ac5,ab9];refine ab8 fok70 (j _ (h.tab.up _)) ?_;rintro v s ⟨w,rfl,c⟩;refine ⟨by have⟨_,_,g,_⟩:=c;exact g.next,?_⟩;simp only[go_sem];exact ⟨w,rfl,c.from ((bc3.refl σ tp mid clv).up _)⟩
def wkC (sup:Bool)(n x:Int):List Int:=if sup then [-x,n+1] else [-(n+1),x]
def wkF (sup:Bool):Nat:=if sup then 93 else 92
def ki6 (a:Bool):okF Tryz.prog (wkF a)=true:=by
 cases a
 .exact fok92.1
 .exact fok93.1
def ki7 (a:Bool)(n x:Int)(f:-(2^40)<=n/\n<=2^40)(e:-(2^40)<=x/\x<=2^40):Pq (wkF a) [.int .i64 x,.ab5 [.int .i64 n]] (.aa2 ((wkC a n x).map Md.ad1)):=by
 have b:IntKind.wrap .i64 (n+1)=n+1:=wrap64 om om;have d:IntKind.wrap .i64 (0-(n+1))=-(n+1):=by rw[wrap64 om om];omega
 have c:IntKind.wrap .i64 (0-x)=-x:=by rw[wrap64 om om];omega
 cases a
 .refine aw8 fok92 (nZ rfl) λσ=>?_
  simp only[ic92,go_sem,b,d];exact rfl
 .refine aw8 fok93 (nZ rfl) λσ=>?_
  simp only[ic93,go_sem,b,c];exact rfl
def ki8 (D:l.length<=100)(hs:∀p∈l,Pkg.small p)(r:aa6)(y:af3 r 1=0)(c:r.fit)(n:Int)(A:-(2^40)<=n/\n<=2^40)(a:Bool)
  (h:WB σ lp c0 c2 c3 c4 c5 ov W av d1 d3 rp dm tp mid fm (ad7 l).v allv clv cv l t cs) (u:t.OK l.length) (g:t.few) (L:t.h+24<=2^20) (M:W.length<2^30) :
  Cq 91 [.ptr lp 0,.int .i64 n,.agg r.cs,.func (.func (wkF a)) [] [.ab5 [.int .i64 n]]] σ (λv s=>v=.int .i64 0/\∃e b,WB s lp c0 c2 c3 c4 c5 e (W++[⟨4,n,[[wkC a n (r.bn2 l (-1) t).1]]⟩]) av d1 d3 rp dm tp mid fm (ad7 l).v allv b cv l (r.bn2 l (-1) t).2 cs/\σ.next<=s.next):=by
 refine C_f fok91 (nZ rfl) ?_;have⟨I,_,N⟩:=bh2 y (.inl rfl);have z:=bn4 l (-1) r (.inl I) t u;have hc:=h.li.cell;have H:=λτ (h:br3 τ av d1 d3 rp dm tp mid fm (ad7 l).v allv clv cv l t cs)=>gk6 D hs r y c h u g om
 have hp:=λx f=>ki7 a n x A f
 simp only[ic91,go_sem,ab3,hc,ac5,ab9];refine ab8 fok159 (H _ (h.bk.mono ((Kept.refl σ).up _))) ?_;rintro v s ⟨w,rfl,E⟩;obtain ⟨rfl,b,m,F⟩:=E;refine ⟨m.next,?_⟩;have q:=(h.kept ((Kept.refl σ).up _)).tab m F;have B:=z.le;have⟨K,J⟩:=z.ok.2;generalize (r.bn2 l (-1) t).1=x at *;have f:-(2^40)<=x/\x<=2^40:=om;have hp:=hp x f;have j:=q.li.cell;have⟨P,e1,e2,e3,o,d⟩:=fb9 (nid:=s.next+13) (k:=17) q.li ⟨4,n,[[wkC a n x]]⟩ om om om;have i:ai7.cs ⟨4,n,[[wkC a n x]]⟩=[.int .u8 4,.int .i64 n,.aa2 [[.aa2 [[.aa2 ((wkC a n x).map Md.ad1)]]]]]:=rfl;rw[i] at e1;simp only[go_sem,j];refine gv4 (ki6 a) hp ?_;simp only[go_sem,e1,e3];exact ⟨_,_,q.le d o,zn (zn (zw _ _) m.next) d.next⟩
end Go.Id.Tryz
namespace Go.Id.Tryz
open Go Go.Id Go.Proofs Go.Shelf Go.Id.Md
abbrev WD:=Int×Bool×aa6
def ay2 (l:List aa1):List WD->ag9->List ai7×ag9
 | [],t=>([],t)
 | d::ds,t=>(⟨4,d.1,[[wkC d.2.1 d.1 (d.2.2.bn2 l (-1) t).1]]⟩::(ay2 l ds (d.2.2.bn2 l (-1) t).2).1,(ay2 l ds (d.2.2.bn2 l (-1) t).2).2)
def gk7 (l:List aa1)(d:WD):∀(ds:List WD) (t:ag9),ay2 l (ds++[d]) t=((ay2 l ds t).1++[⟨4,d.1,[[wkC d.2.1 d.1 (d.2.2.bn2 l (-1) (ay2 l ds t).2).1]]⟩],(d.2.2.bn2 l (-1) (ay2 l ds t).2).2):=by
 intro ds
 induction ds with
 | nil=>intro t;rfl
 | cons e ds ih=>intro t;simp only[List.cons_append,ay2,ih]
def di1 (l:List aa1):∀(ds:List WD) (t:ag9),(ay2 l ds t).1.length=ds.length:=by
 intro ds
 induction ds with
 | nil=>intro t;rfl
 | cons e ds ih=>intro t;simp only[ay2,zp,ih]
def dy1 (l:List aa1)(i:l.length<=100):∀(ds:List WD),(∀d∈ds,af3 d.2.2 1=0)->∀t:ag9,t.OK l.length->t.few ->
  (t.h<=(ay2 l ds t).2.h/\(ay2 l ds t).2.h<=t.h+24*ds.length)/\(ay2 l ds t).2.OK l.length/\(ay2 l ds t).2.few:=by
 intro ds
 induction ds with
 | nil=>exact λ_ t c b=>⟨⟨zf _,zw _ _⟩,c,b⟩
 | cons e ds ih=>
  intro h t c b;have⟨k,_,p⟩:=bh2 (h e qf) (.inl rfl);have f:=bn4 l (-1) e.2.2 (.inl k) t c;have g:=ed4 l i (-1) e.2.2 om t b;have⟨⟨o,q⟩,n,m⟩:=ih (λd j=>h d (qa _ j)) _ f.ok.1 g;have a:=f.le;exact ⟨⟨zn a.1 o,by show (ay2 l ds (e.2.2.bn2 l (-1) t).2).2.h<=_;rw[zp];omega⟩,n,m⟩
def iv5 (a:ac2)(n:Int):List WD:=(a.pk n).ae1.map λr=>(n,false,r)
def gm7 (a:ac2)(now:List Int)(n:Int)(l:List aa6):List WD:=(l.filter λr=>!fb2 a.l now r).map λr=>(n,true,r)
def ar8 (a:ac2)(now:List Int)(n:Int):List WD:=iv5 a n++gm7 a now n (a.pk n).ac7
def bs2 (a:ac2)(now rest:List Int)(t:ag9):List ai7×ag9:=ay2 a.l (rest.flatMap (ar8 a now)) t
def WK (σ:Store)(lp:Nat)(c0 c2 c3 c4 c5:IV)(W:List ai7)(av d1 d3:IV)(rp dm tp mid:Nat)(fm:List (IV×IV))(l:List aa1)(allv cv:IV)(t:ag9)(cs:List (List (List Int)))(D:List WD)(s:Store):Prop :=
 σ.next<=s.next/\∃ov clv,WB s lp c0 c2 c3 c4 c5 ov (W++(ay2 l D t).1) av d1 d3 rp dm tp mid fm (ad7 l).v allv clv cv l (ay2 l D t).2 cs
variable {σ s:Store} {lp rp dm tp mid:Nat} {c0 c2 c3 c4 c5 ov av d1 d3 allv clv cv:IV} {W:List ai7} {l:List aa1} {t:ag9} {fm:List (IV×IV)} {cs:List (List (List Int))} {D:List WD}
def WK.kept {u:Store}(h:WK σ lp c0 c2 c3 c4 c5 W av d1 d3 rp dm tp mid fm l allv cv t cs D s)(a:Kept s u):WK σ lp c0 c2 c3 c4 c5 W av d1 d3 rp dm tp mid fm l allv cv t cs D u:=by
 have⟨h0,ov,clv,b⟩:=h;exact ⟨zn h0 a.next,ov,clv,b.kept a⟩
def hw9 (g:l.length<=100)(hs:∀p∈l,Pkg.small p)(x:∀d∈D,af3 d.2.2 1=0)(q:D.length<=6400)(h:WK σ lp c0 c2 c3 c4 c5 W av d1 d3 rp dm tp mid fm l allv cv t cs D s)(j:t.OK l.length)(f:t.few)(E:t.h<=480000)(F:W.length<2^22)
  (n:Int) (k:-(2^40)<=n/\n<=2^40) (a:Bool) (r:aa6) (m:af3 r 1=0) (b:r.fit) :
  Cq 91 [.ptr lp 0,.int .i64 n,.agg r.cs,.func (.func (wkF a)) [] [.ab5 [.int .i64 n]]] s (λv u=>v=.int .i64 0/\WK σ lp c0 c2 c3 c4 c5 W av d1 d3 rp dm tp mid fm l allv cv t cs (D++[(n,a,r)]) u/\s.next<=u.next):=by
 have⟨h0,ov,clv,z⟩:=h;have⟨H,B,A⟩:=dy1 l g D x t j f;have o:=di1 l D t;refine (ki8 g hs r m b n k a z B A om (by rw[zb];omega)).mono ?_;rintro v u ⟨rfl,e,c,y,i⟩;refine ⟨rfl,⟨zn h0 i,e,c,?_⟩,i⟩;rw[gk7,<- ze];exact y
end Go.Id.Tryz
namespace Go.Id.Tryz
open Go Go.Id Go.Proofs Go.Shelf Go.Id.Md
def jr7 {s:Store}{A B:Nat}{p:aa1}{v:IV}(d:Bnd 0 v)(f:s.obj A=zm (.cells [v]))(e:s.obj B=zm (.cells p.cs)) :
  Frz s (λi=>(!decide (i=A)&&!decide (i=B))=true) (.ptr A 0) (.ab5 [v])/\Frz s (λi=>(!decide (i=A)&&!decide (i=B))=true) (.ptr B 0) (.ab5 p.cs):=by
 have c:∀ {v:IV},Bnd 0 v->Frz s (λi=>(!decide (i=A)&&!decide (i=B))=true) v v:=λh=>.keep _ (h.weak λi h=>absurd h (Nat.not_lt_zero _))
 refine ⟨.ptr A 0 _ _ sm (.inl f) (zf _) λj b=>?_,.ptr B 0 _ _ sm (.inl e) (zy _▸zf _) λj b=>?_⟩
 .have a:j=0:=by simpa using b
  subst a;exact c d
 .rw[zy];exact c (ag4 p _ (ad5 _ b))
def hx8 {p:aa1}(c:ae9 p=true)(d:p.Fit):(∀r∈p.ae1,af3 r 1=0/\r.fit)/\(∀r∈p.ac7,af3 r 1=0/\r.fit/\r.count<2^31)/\p.ae1.length<=32/\p.ac7.length<=32:=by
 unfold ae9 at c;simp only[zv] at c;obtain ⟨⟨⟨⟨_,b⟩,a⟩,_⟩,_⟩:=c;have f:=d.rich (1,p.ae1) (by simp[aa1.rows]);have e:=d.rich (3,p.ac7) (by simp[aa1.rows]);refine ⟨λr hr=>⟨bd5 b r hr,(f.2 r hr).1⟩,λr hr=>⟨iv4 (bd5 a r hr),(e.2 r hr)⟩,?_,?_⟩
 .unfold ai2 at b;rw[zv] at b;exact of_decide_eq_true b.1
 .unfold ai2 at a;rw[zv] at a;exact of_decide_eq_true a.1
def bs3 {a:ac2}{b:List Int}(j:AOK a)(c:∀p∈a.l,ae9 p=true){k:Nat}(g:k<a.l.length):(ar8 a b k).length<=64/\∀d∈ar8 a b k,af3 d.2.2 1=0:=by
 have f:=cf9 a g;have⟨n,m,q,o⟩:=hx8 (c _ f) (j.fit _ f);have hf:=zo (λr=>!fb2 a.l b r) (a.pk (k:Int)).ac7;unfold ar8 iv5 gm7;refine ⟨by rw[zb,za,za];omega,λd i=>?_⟩;rcases zz.1 i with h|h
 .obtain ⟨x,e,rfl⟩:=zr.1 h;exact (n x e).1
 .obtain ⟨x,e,rfl⟩:=zr.1 h;exact (m x (List.mem_filter.1 e).1).1
def jr8 (a:ac2)(hA:AOK a)(hl:a.l.length<=100)(hmay:∀p∈a.l,ae9 p=true)(now rest:List Int)(hnl:now.length<2^40)(hrest:∀n∈rest,∃k:Nat,n=k/\k<a.l.length)(hrl:rest.length<=100)
  {σ:Store} {lp rp dm tp mid:Nat} {c2 av d1 d3 allv cv:IV} {W:List ai7} {t:ag9} {fm:List (IV×IV)} {cs:List (List (List Int))} (ho:t.OK a.l.length) (hfw:t.few) (hh:t.h<=480000) (hW:W.length<2^22)
  (h:WK σ lp a.v c2 (af4 a.l) (.aa2 (now.map Md.ad1)) (.aa2 (rest.map Md.ad1)) W av d1 d3 rp dm tp mid fm a.l allv cv t cs [] σ) :
  Cq 47 [.ptr lp 0] σ λv s=>v=.int .i64 0/\WK σ lp a.v c2 (af4 a.l) (.aa2 (now.map Md.ad1)) (.aa2 (rest.map Md.ad1)) W av d1 d3 rp dm tp mid fm a.l allv cv t cs (rest.flatMap (ar8 a now)) s:=by
 refine eb4 fok47 (nZ rfl) ?_
 have cellOf:∀ {D s},WK σ lp a.v c2 (af4 a.l) (.aa2 (now.map Md.ad1)) (.aa2 (rest.map Md.ad1)) W av d1 d3 rp dm tp mid fm a.l allv cv t cs D s->lp<s.next/\∃ov,s.obj lp=zm (.cells [a.v,.ptr rp 0,c2,af4 a.l,.aa2 (now.map Md.ad1),.aa2 (rest.map Md.ad1),ov]):=λh=>by
  have⟨_,ov,clv,h⟩:=h;exact ⟨h.li.lt,ov,h.li.cell⟩
 have⟨_,ov0,hc0⟩:=cellOf h;simp only[ic47,ev];refine ab7 (ac4 ?_);simp only[go_sem];refine ab7 (ab7 (ac4 ?_));simp only[go_sem,hc0,za];clear hc0
 refine aj4 (ak9 (Q:=λe f s=>e=.exit 0/\WK σ lp a.v c2 (af4 a.l) (.aa2 (now.map Md.ad1)) (.aa2 (rest.map Md.ad1)) W av d1 d3 rp dm tp mid fm a.l allv cv t cs (rest.flatMap (ar8 a now)) s)
  (is1 (λi fr s=>fr=[(0,.ptr lp 0),(16,.aa2 (rest.map Md.ad1)),(17,.int .i64 rest.length),(18,.int .i64 (i:Int))]/\WK σ lp a.v c2 (af4 a.l) (.aa2 (now.map Md.ad1)) (.aa2 (rest.map Md.ad1)) W av d1 d3 rp dm tp mid fm a.l allv cv t cs ((rest.take i).flatMap (ar8 a now)) s) rest.length ⟨rfl,by rw[zh];exact h⟩ ?_) ?_)
 .clear h;rintro i fr s hle ⟨rfl,hK⟩;by_cases hlt:i<rest.length
  .have⟨n,hn,_,hdr,hget,htk⟩:=ad3 rest i hlt;have⟨k,hk1,hk2⟩:=hrest n hn;subst hk1;have a1:(i:Int)<rest.length:=om;have a2:(0:Int)<=(i:Int):=om;have wi:=ac6 (i:=i) om;have hP:=aq4 a;have hPk:=da4 a hA k hk2;have hpm:=cf9 a hk2;have hpM:=hmay _ hpm;have hpF:=hA.fit _ hpm;have hnr:-(2^40)<=(k:Int)/\(k:Int)<=2^40:=by have:=hA.len;omega
   have⟨hr1,hr2,hr3,hr4⟩:=hx8 hpM hpF;have⟨hls,ov0,hc0⟩:=cellOf hK;have p10:((a.pk k).cs.drop 10).head? = zm (.aa2 ((a.pk k).ae1.map aa6.cs)):=rfl;have p11:((a.pk k).cs.drop 11).head? = zm (.aa2 ((a.pk k).ac7.map aa6.cs)):=rfl;refine ab7 (ac4 ?_);simp only[go_sem,a1];refine ab7 (ac4 ?_);simp only[go_sem];refine ab7 (aj4 (ab7 (ac4 ?_)));simp only[go_sem,a2,hget,Md.ad1,a1];refine ab7 (ac4 ?_);have hnl0:¬lp=s.next:=om;simp only[go_sem,hnl0,hc0]
   first|refine aa4 fok34 (hP) ?_|refine aa8 (hP) ?_
   simp only[go_sem]
   first|refine aa4 fok29 (hPk) ?_|refine aa8 (hPk) ?_
   simp only[go_sem,ad8,ad9,ac9];obtain ⟨B,hB⟩:∃B,B=s.next+1+1+1+1+1+1+1+1+1+1+1:=⟨_,rfl⟩;rw[<- hB];have nB:¬s.next=B:=om;generalize hu:Store.put _ B (aj8.cells (a.pk (k:Int)).cs)=u;have u1:u.next=s.next+14:=by rw[<- hu];rfl
   have u2:u.obj s.next=zm (.cells [.int .i64 k]):=by rw[<- hu];simp only[aa3,nB,if_false,if_true]
   have u3:u.obj B=zm (.cells (a.pk (k:Int)).cs):=by rw[<- hu];simp only[aa3,if_true]
   have u4:∀i,i<s.next->u.obj i=s.obj i:=λi hi=>by
    have g1:¬i=B:=om;have g2:¬i=s.next:=om;rw[<- hu];simp only[aa3,g1,g2,if_false]
   clear hu;have⟨z1,z2⟩:=jr7 (p:=a.pk (k:Int)) (.int .i64 k) u2 u3;refine fj5 (S:=λi=>!decide (i=s.next)&&!decide (i=B)) (fr':=[(0,.ptr lp 0),(4,.ab5 [.int .i64 k]),(5,.ab5 (a.pk (k:Int)).cs),(6,.int .i64 0),(16,.aa2 (rest.map Md.ad1)),(17,.int .i64 rest.length),(18,.int .i64 i)]) (λm=>?_) (ac4 ?_)
   .by_cases m4:m=4
    .subst m4;exact .inr z1
    .by_cases m5:m=5
     .subst m5;exact .inr z2
     .left;have e4:(m==4)=false:=by simpa using m4
      have e5:(m==5)=false:=by simpa using m5
      simp only[Frm.get,List.lookup,e4,e5]
   have hk2:Kept s (u.kills λi=>!decide (i=s.next)&&!decide (i=B)):=⟨by show s.next<=u.next;omega,λi hi=>by
    show (if (!decide (i=s.next)&&!decide (i=B))=true then u.obj i else none)=_;have g1:¬i=B:=om;have g2:¬i=s.next:=om;rw[decide_eq_false g1,decide_eq_false g2];exact (if_pos rfl).trans (u4 i hi)⟩
   have hK0:=hK.kept hk2;generalize u.kills (λi=>!decide (i=s.next)&&!decide (i=B))=U at *;clear z1 z2 u1 u2 u3 u4 nB hB hk2 hK hls hc0 hnl0;simp only[go_sem,p10,za]
   have hDl:((rest.take i).flatMap (ar8 a now)).length<=6336:=by
    have:=ct4 (f:=ar8 a now) (m:=64) (rest.take i) λx hx=>by
     obtain ⟨m,rfl,hm⟩:=hrest x (zj hx);exact (bs3 hA hmay hm).1
    rw[zg] at this;omega
   have hDm:∀d∈(rest.take i).flatMap (ar8 a now),af3 d.2.2 1=0:=λd hd=>by
    have⟨x,hx,hd⟩:=List.mem_flatMap.1 hd;obtain ⟨m,rfl,hm⟩:=hrest x (zj hx);exact (bs3 hA hmay hm).2 d hd
   generalize hD0:(rest.take i).flatMap (ar8 a now)=D0 at *
   refine aa9 noT (λj fr v=>fr=[(0,.ptr lp 0),(4,.ab5 [.int .i64 k]),(5,.ab5 (a.pk (k:Int)).cs),(16,.aa2 (rest.map Md.ad1)),(17,.int .i64 rest.length),(18,.int .i64 (i:Int)),(36,.aa2 ((a.pk (k:Int)).ae1.map aa6.cs)),(37,.int .i64 (a.pk (k:Int)).ae1.length),(38,.int .i64 (j:Int))] /\
    WK σ lp a.v c2 (af4 a.l) (.aa2 (now.map Md.ad1)) (.aa2 (rest.map Md.ad1)) W av d1 d3 rp dm tp mid fm a.l allv cv t cs (D0++((a.pk (k:Int)).ae1.take j).map λr=>((k:Int),false,r)) v) (a.pk (k:Int)).ae1.length ⟨rfl,by rw[zh,zi,zd];exact hK0⟩ ?_
   clear hK0;rintro j fr v hj ⟨rfl,hK⟩;by_cases hjl:j<(a.pk (k:Int)).ae1.length
   .have⟨r,hr,_,hdr2,hget2,htk2⟩:=ad3 (a.pk (k:Int)).ae1 j hjl;have b1:(j:Int)<(a.pk (k:Int)).ae1.length:=om;have b2:(0:Int)<=(j:Int):=om;have wj:=ac6 (i:=j) om;have⟨m1,m2⟩:=hr1 r hr
    have hC:=hw9 hl hA.small (D:=D0++((a.pk (k:Int)).ae1.take j).map λr=>((k:Int),false,r)) (λd hd=>by
     rcases zz.1 hd with h|h
     .exact hDm d h
     .obtain ⟨x,hx,rfl⟩:=zr.1 h;exact (hr1 x (zj hx)).1) (by rw[zb,za,zg];omega) (hK.kept (Kept.box v (.cells [.int .u8 0,.str [],.int .u8 0,.int .i64 0,.str [],.str [],.aa5]) (.cells r.cs))) ho hfw hh hW k hnr false r m1 m2
    have ew:wkF false=92:=rfl;rw[ew] at hC;simp only[go_sem,b1,b2,hget2,ab3,ac5,ab9];refine ab8 fok91 hC ?_;rintro x y ⟨rfl,hK2,hn2⟩;refine ⟨hn2,?_⟩;simp only[go_sem,wj];refine ⟨hjl,?_⟩;rw[htk2,zq,<- ze];exact hK2
   .have hj':j=(a.pk (k:Int)).ae1.length:=om;subst hj';have b1:¬((a.pk (k:Int)).ae1.length:Int)<(a.pk (k:Int)).ae1.length:=om;rw[zc] at hK;have hD2l:(D0++iv5 a k).length<=6368:=by unfold iv5;rw[zb,za];omega
    have hD2m:∀d∈D0++iv5 a k,af3 d.2.2 1=0:=λd hd=>by
     rcases zz.1 hd with h|h
     .exact hDm d h
     .obtain ⟨x,hx,rfl⟩:=zr.1 h;exact (hr1 x hx).1
    have hK0:WK σ lp a.v c2 (af4 a.l) (.aa2 (now.map Md.ad1)) (.aa2 (rest.map Md.ad1)) W av d1 d3 rp dm tp mid fm a.l allv cv t cs (D0++iv5 a k) v:=hK
    have hfin:(rest.take (i+1)).flatMap (ar8 a now)=D0++iv5 a k++gm7 a now k (a.pk (k:Int)).ac7:=by
     rw[htk,z4,zx,hD0,ar8,ze]
    generalize hD1:D0++iv5 a k=D1 at *;clear hK;simp only[go_sem,b1,p11,za]
    refine aa9 noT (λj fr v=>fr=[(0,.ptr lp 0),(4,.ab5 [.int .i64 k]),(16,.aa2 (rest.map Md.ad1)),(17,.int .i64 rest.length),(18,.int .i64 (i:Int)),(52,.aa2 ((a.pk (k:Int)).ac7.map aa6.cs)),(53,.int .i64 (a.pk (k:Int)).ac7.length),(54,.int .i64 (j:Int))] /\
     WK σ lp a.v c2 (af4 a.l) (.aa2 (now.map Md.ad1)) (.aa2 (rest.map Md.ad1)) W av d1 d3 rp dm tp mid fm a.l allv cv t cs (D1++gm7 a now k ((a.pk (k:Int)).ac7.take j)) v) (a.pk (k:Int)).ac7.length ⟨rfl,by rw[zh,gm7,z0,zi,zd];exact hK0⟩ ?_
    clear hK0;rintro j fr v hj ⟨rfl,hK⟩;by_cases hjl:j<(a.pk (k:Int)).ac7.length
    .have⟨r,hr,_,hdr2,hget2,htk2⟩:=ad3 (a.pk (k:Int)).ac7 j hjl;have b1:(j:Int)<(a.pk (k:Int)).ac7.length:=om;have b2:(0:Int)<=(j:Int):=om;have wj:=ac6 (i:=j) om;have⟨m1,m2,m3⟩:=hr2 r hr;have hS:=cv6 a.l hA.len hA.small now hnl r m2 m3
     have hfl:(gm7 a now k ((a.pk (k:Int)).ac7.take j)).length<=32:=by
      have:=zo (λr=>!fb2 a.l now r) ((a.pk (k:Int)).ac7.take j);rw[zg] at this;unfold gm7;rw[za];omega
     have hK1:=hK.kept ((Kept.box v (.cells [.int .u8 0,.str [],.int .u8 0,.int .i64 0,.str [],.str [],.aa5]) (.cells r.cs)).up 10)
     have hC:=hw9 hl hA.small (D:=D1++gm7 a now k ((a.pk (k:Int)).ac7.take j)) (λd hd=>by
      rcases zz.1 hd with h|h
      .exact hD2m d h
      .obtain ⟨x,hx,rfl⟩:=zr.1 h;exact (hr2 x (zj (List.mem_filter.1 hx).1)).1) (by rw[zb];omega) hK1 ho hfw hh hW k hnr true r m1 m2
     have ew:wkF true=93:=rfl;rw[ew] at hC;have⟨hlv,ov1,hc1⟩:=cellOf hK;have nlv:¬lp=v.next:=om
     have hsn:gm7 a now k ((a.pk (k:Int)).ac7.take (j+1))=gm7 a now k ((a.pk (k:Int)).ac7.take j)++if fb2 a.l now r then [] else [((k:Int),true,r)]:=by
      rw[htk2];unfold gm7;rw[z5,zq];cases hq:fb2 a.l now r<;>simp[hq]
     simp only[go_sem,b1,b2,hget2,ab3,ac5,ab9,nlv,hc1];refine aa4 fok84 (hS) ?_
     cases hq:fb2 a.l now r with
     | true=>
      simp only[hq,if_true,zd] at hsn;simp only[go_sem,wj];refine ⟨hjl,?_⟩;rw[hsn]
      exact hK1
     | false=>
      simp only[hq,Bool.false_eq_true,if_false] at hsn;simp only[go_sem,ab3,ac5,ab9];refine ab8 fok91 hC ?_;rintro x y ⟨rfl,hK2,hn2⟩;refine ⟨hn2,?_⟩;simp only[go_sem,wj];refine ⟨hjl,?_⟩;rw[hsn,<- ze];exact hK2
    .have hj':j=(a.pk (k:Int)).ac7.length:=om;subst hj';have b1:¬((a.pk (k:Int)).ac7.length:Int)<(a.pk (k:Int)).ac7.length:=om;rw[zc] at hK;simp only[go_sem,b1];refine ac4 ?_;simp only[go_sem,wi];refine ⟨hlt,?_⟩;rw[hfin];exact hK
  .have hi':i=rest.length:=om;subst hi';have a1:¬(rest.length:Int)<rest.length:=om;rw[zc] at hK;refine ac4 ?_;simp only[go_sem,a1];exact hK
 .rintro e f s ⟨rfl,hK⟩;simp only[go_sem];refine ab7 (ac4 ?_);simp only[go_sem];refine ac4 ?_;simp only[go_sem];exact hK
def gh3 (a:ac2)(hA:AOK a)(hO:a.bo6)(hI:0<=a.p.inst)(hmay:∀p∈a.l,ae9 p=true)(hit:a.items.length<=20000)(σ:Store):Cq 14 [a.v] σ λv s=>σ.next<=s.next/\∃rp tp mid allv clv cv,v=.tuple [.ptr rp 0,.int .i64 0]/\br3 s a.v a.mv (bb7 a.items) rp (rp+1) tp mid (dl9 rp) (ad7 a.l).v allv clv cv a.l (ac2.rN a).2 (ac2.rN a).1/\(ac2.rN a).2.OK a.l.length/\(ac2.rN a).2.few/\(ac2.rN a).2.h<=480000:=by
 refine C_f fok14 (nZ rfl) ?_;have hMod:=fg3 a hA hI om;have hP:=aq4 a;have hItm:=hf5 a om;have hNew:=λσ=>ia5 a.p hA.len (λx hx=>⟨hA.fit x hx,hA.tiny x hx⟩) σ
 have vcs:a.v.cs=[a.v]:=rfl;have vlf:a.v.leaf=true:=rfl;have mcs':a.mv.cs=[a.mv]:=rfl;have mlf:a.mv.leaf=true:=rfl;have pvl:a.p.v.leaf=true:=rfl;have pvc:a.p.v.cs=[a.p.v]:=rfl;simp only[ic14,go_sem,vcs,vlf];refine aa4 fok32 (hMod) ?_;simp only[go_sem,vcs,vlf]
 first|refine aa4 fok34 (hP) ?_|refine aa8 (hP) ?_
 simp only[go_sem,pvl,pvc];refine ab8 fok33 (hNew _) ?_;rintro v s ⟨tp,mid,allv,rfl,hk0,htp,hM0⟩;refine ⟨hk0.next,?_⟩;simp only[go_sem,vcs,vlf,mcs',mlf];refine aa4 fok35 (hItm) ?_;have ivl:(bb7 a.items).leaf=true:=rfl;have ivc:(bb7 a.items).cs=[bb7 a.items]:=rfl;simp only[go_sem,vcs,vlf,mcs',mlf,ivl,ivc];refine cb7 (P:=Tryz.prog) (E:=EE) (bo3 _ (s.next+1) s.next 0 (by decide)) ?_;simp only[go_sem];refine cb7 (P:=Tryz.prog) (E:=EE) (bo3 _ (s.next+1) s.next 1 (by decide)) ?_;simp only[go_sem];refine cb7 (P:=Tryz.prog) (E:=EE) (bo3 _ (s.next+1) s.next 2 (by decide)) ?_;simp only[go_sem];refine cb7 (P:=Tryz.prog) (E:=EE) (bo3 _ (s.next+1) s.next 3 (by decide)) ?_;simp only[go_sem];refine cb7 (P:=Tryz.prog) (E:=EE) (bo3 _ (s.next+1) s.next 4 (by decide)) ?_;simp only[go_sem];refine cb7 (P:=Tryz.prog) (E:=EE) (bo3 _ (s.next+1) s.next 5 (by decide)) ?_;simp only[go_sem];refine cb7 (P:=Tryz.prog) (E:=EE) (bo3 _ (s.next+1) s.next 6 (by decide)) ?_;have nsd:¬s.next=s.next+1:=om;have ill:∀σ:Store,cx6 0 σ (bb7 a.items)=zm (.int .i64 a.items.length):=λσ=>by unfold bb7;simp only[go_sem]
 have ht7:(dl9 s.next).take 7=dl9 s.next:=rfl
 have hB0:br3 ((({ next:=s.next+1+1,obj:=({ next:=s.next+1,obj:=s.obj }:Store).put s.next (aj8.cells [a.v,a.mv,IV.ptr tp 0,bb7 a.items,IV.aa5]) |>.obj }:Store).put (s.next+1) (aj8.map (dl9 s.next)))) a.v a.mv (bb7 a.items) s.next (s.next+1) tp mid (dl9 s.next) (ad7 a.l).v allv .aa5 .aa5 a.l ⟨0,[],[]⟩ []:=by
  have l1:=hM0.lt.1;have l2:=hM0.lt.2
  exact {
   cell:=by simp only[aa3,nsd,if_true,if_false]
   map:=by simp only[aa3,if_true]
   tab:=hM0.mono (by show s.next<=s.next+1+1;omega) λi hi=>by
    have h1:¬i=s.next:=om;have h2:¬i=s.next+1:=om;simp only[aa3,h1,h2,if_false]
   grow:=.inl ⟨rfl,rfl⟩
   ne:=λ_ _ _ e=>by cases e
   na:=λ_ _ _ _ e=>by cases e
   lt:=⟨by show s.next<s.next+1+1;omega,by show s.next+1<s.next+1+1;omega⟩
   dt:=⟨om,om,om,om⟩ }
 simp only[ht7,go_sem,nsd,ill];generalize hrp:s.next=rp at *;have hsn0:σ.next<=rp:=by have:=hk0.next;omega
 clear hk0 hM0 hMod hNew ht7 hrp;refine aa9 noT (λi fr u=>∃clv cv,fr=[(7,.ptr rp 0),(8,.map (rp+1)),(56,bb7 a.items),(57,.int .i64 a.items.length),(58,.int .i64 (i:Int))]/\σ.next<=u.next/\br3 u a.v a.mv (bb7 a.items) rp (rp+1) tp mid (dl9 rp) (ad7 a.l).v allv clv cv a.l (a.as7 (a.items.take i) ⟨0,[],[]⟩).2 (a.as7 (a.items.take i) ⟨0,[],[]⟩).1) a.items.length ⟨.aa5,.aa5,rfl,(show σ.next<=rp+2 by omega),hB0⟩ ?_;clear hB0;rintro i fr u hle ⟨clv,cv,rfl,hun,hB⟩;have h00:(⟨0,[],[]⟩:ag9).OK a.l.length:=⟨λ_ h=>(by cases h),λ_ h=>(by cases h),.nil⟩;have h0f:(⟨0,[],[]⟩:ag9).few:=zf _;have hin:∀x∈a.items.take i,a.Has x:=λx hx=>a.gy6.1 (zj hx)
 have⟨⟨_,t2⟩,t3,_⟩:=ac2.gh2 hO (a.items.take i) hin _ h00;have tf:=ac2.hb8 hO (a.items.take i) hin _ h0f;have tl:=a.hb7 (a.items.take i) ⟨0,[],[]⟩;have hsn:=λx=>a.gh1 x (a.items.take i) ⟨0,[],[]⟩
 rw[zg] at t2 tl;by_cases hlt:i<a.items.length
 .have⟨x,hx,hxi,hdr,hget,htk⟩:=ad3 a.items i hlt;have c1:(i:Int)<a.items.length:=om;have c2:(0:Int)<=(i:Int):=om;have w1:=ac6 (i:=i) om;have hH:=a.gy6.1 hx;have hsn:=hsn x;rw[<- htk] at hsn;generalize a.as7 (a.items.take i) ⟨0,[],[]⟩=w at *;have k0:x.cs.head? = zm (.int .u8 x.kind):=rfl;have hd:=hB.map;have l2:=hB.lt.2;have n1:¬rp+1=u.next:=om;have hlk:∀T:Store,T.obj (rp+1)=zm (.map (dl9 rp))->cj3 T 1 .ai8 false (.map (rp+1)) (.int .u8 x.kind)=zm (.func (.func (ct8 x.kind)) [.ptr rp 0] []):=λT h=>ia7 h hH
  have iv:bb7 a.items=.aa2 (a.items.map Itm.cs):=rfl;have hBK:=λA B=>hB.mono (Kept.box u A B)
  simp only[go_sem,iv,c1,c2,hget,ee1,ep1,dg3,k0];rw[hlk _ (by simp only[aa3,n1,if_false];exact hd)];simp only[go_sem,ee1,ep1,dg3];refine ak7 (jt2 _) (kl1 a hA hO hmay hH rp _ _ _ _ tp mid allv clv w.2 (hBK _ _).cell (hBK _ _).lt.1 (hBK _ _).tab t3 tf (by show w.2.h+24<=_;have:(⟨0,[],[]⟩:ag9).h=0:=rfl;omega)) ?_;rintro v u2 ⟨rfl,clv',hT,hM2⟩;refine ⟨hT.next,?_⟩;have hB2:=(hBK _ _).eff hT hM2;have⟨s1,e1,e2,e3,hB3⟩:=ha9 (nid:=u2.next) (k:=1) hB2 (a.ao4 x w.2).1 om (zf _) (zk _);have hc2:=hB2.cell;have qlf:(cv2 (a.ao4 x w.2).1).leaf=true:=rfl;have qcs:(cv2 (a.ao4 x w.2).1).cs=[cv2 (a.ao4 x w.2).1]:=rfl;rw[iv] at hc2 e3;generalize cv2 (a.ao4 x w.2).1=qv at *;simp only[go_sem,hc2,qlf,qcs,e1,e3,w1];refine ⟨hlt,clv',?_⟩;rw[hsn];exact ⟨_,by have:=hT.next;simp only[aa7,e2];show σ.next<=u2.next+1;have:u.next<=u2.next:=zn (qc _) hT.next;omega,hB3⟩
 .have hi':i=a.items.length:=om;subst hi';have c1:¬(a.items.length:Int)<a.items.length:=om;rw[zc] at hB t3 tf t2;simp only[go_sem,c1];exact ⟨hun,_,tp,mid,allv,clv,cv,rfl,hB,t3,tf,by have:(⟨0,[],[]⟩:ag9).h=0:=rfl;show (a.as7 a.items ⟨0,[],[]⟩).2.h<=_;omega⟩
def cw7.cell {E:Nat->IV}{σ:Store}{S:Nat->Bool}{id:Nat}{cs cs':List IV}(fr:Frm)(e:S id=true)(c:σ.obj id=zm (.cells cs))(d:cs'.length=cs.length)
  (hc:∀i,i<cs.length->cs'.getD i .undef=cs.getD i .undef\/Frz σ (λi=>S i=true) (cs.getD i .undef) (cs'.getD i .undef)):cw7 E σ fr ((σ.kills S).put id (.cells cs')) fr:=λρ w hs=>by
 have⟨a,f,b⟩:=ge6 hs e c d hc;exact ⟨a,f,b,λN tmps hf=>hf.mono (b 0)⟩
def az8 (a:ac2):List Int:=aj5 (λk=>decide ((k:Int)<a.p.inst)) a.l.length
def ap4 (a:ac2):List Int:=aj5 (λk=>!decide ((k:Int)<a.p.inst)) a.l.length
def fc2 (o:ah4)(t:ag9):List ai7×ag9:=(av4 o++bb2 o (az8 o.a)++(bs2 o.a (az8 o.a) (ap4 o.a) t).1++er8 o (az8 o.a) (ap4 o.a),(bs2 o.a (az8 o.a) (ap4 o.a) t).2)
def he4 {a:ac2}:∀n∈az8 a,∃k:Nat,n=k/\k<a.l.length:=λn b=>by
 have⟨m,d,c,_⟩:=al4.1 b;exact ⟨m,d,c⟩
def cz4 {a:ac2}:∀n∈ap4 a,∃k:Nat,n=k/\k<a.l.length:=λn b=>by
 have⟨m,d,c,_⟩:=al4.1 b;exact ⟨m,d,c⟩
structure TR (σ s:Store) (lp:Nat) (c0 c1 c2 c3 nv rv:IV) (A B:List Int):Prop where
 cell:s.obj lp=zm (.cells [c0,c1,c2,c3,nv,rv,.aa5])
 kept:Kept σ s
 lt:σ.next<=lp/\lp<s.next
 n:ah7 s σ.next nv A
 r:ah7 s σ.next rv B
 ne:∀i k m,nv=.slice i 0 k 1->rv≠.slice i 0 m 1
def fm7 {s:Store}{lo:Nat}{v:IV}{zs:List Int}(h:ah7 s lo v zs){i k:Nat}(a:v=.slice i 0 k 1):lo<=i/\i<s.next/\s.obj i=zm (.row (zs.map bg1)):=by
 rcases h with ⟨rfl,_⟩|⟨j,d,c,rfl,b⟩
 .cases a
 .cases a;exact ⟨d,c,b⟩
def jb8 {σ s:Store}{lp:Nat}{c n:IV}{A B:List Int}{cs cs':List IV}(x:Int)(H:Kept σ s)(r:lp<s.next)(J:σ.next<=lp)(hc:s.obj lp=zm (.cells cs))(o:ah7 s σ.next c A)(hr:ah7 s σ.next n B)(ne:∀i k m,c=.slice i 0 k 1->n≠.slice i 0 m 1)(K:A.length<2147483648) :
  ∃b,bb4 ⟨s.next+1,s.obj⟩ s.next 1 c (.aa2 [[.int .i64 x]])=zm (.slice s.next 0 (A.length+1) 1,b)/\b.next=s.next+1/\b.obj lp=zm (.cells cs)/\Kept σ (b.put lp (.cells cs'))/\lp<(b.put lp (.cells cs')).next/\(b.put lp (.cells cs')).obj lp=zm (.cells cs') /\
   ah7 (b.put lp (.cells cs')) σ.next (.slice s.next 0 (A.length+1) 1) (A++[x])/\ah7 (b.put lp (.cells cs')) σ.next n B/\(∀i k m,IV.slice s.next 0 (A.length+1) 1=.slice i 0 k 1->n≠.slice i 0 m 1):=by
 have y:=az4 (nid:=s.next) (o.up 1) x K;have⟨F,I⟩:=bc2 H o x (a:=1) (nid:=s.next) (zf _) (zk _) rfl;have d:((ad4 c ⟨s.next+1,s.obj⟩).put s.next (.row ((A++[x]).map bg1))).next=s.next+1:=by rw[aa7,ac1]
 have L:=H.next
 have g:∀i,i<s.next->(∀k,c≠.slice i 0 k 1)->((ad4 c ⟨s.next+1,s.obj⟩).put s.next (.row ((A++[x]).map bg1))).obj i=s.obj i:=λi hi M=>by
  rw[aa3,if_neg om];rcases o with ⟨rfl,_⟩|⟨j,_,_,rfl,_⟩
  .rfl
  .show (if i=j then none else s.obj i)=_;rw[if_neg λe=>M _ (by rw[e])]
 have f:=g lp r λk e=>by have:=(fm7 o e).2.2;rw[hc] at this;cases this
 generalize ((ad4 c ⟨s.next+1,s.obj⟩).put s.next (.row ((A++[x]).map bg1)))=b at *;have q:¬s.next=lp:=om;refine ⟨b,y,d,by rw[f,hc],⟨F.next,λi hi=>?_⟩,by rw[aa7,d];omega,by rw[aa3,if_pos rfl],?_,?_,λi k m e e2=>?_⟩
 .rw[aa3,if_neg om];exact F.obj i hi
 .rcases I with ⟨h0,_⟩|⟨j,E,z,p,h⟩
  .cases h0
  .have N:s.next=j:=by injection p
   subst N;exact .inr ⟨s.next,E,z,by rw[zb];rfl,by rw[aa3,if_neg q];exact h⟩
 .rcases hr with h0|⟨j,E,z,p,h⟩
  .exact .inl h0
  .refine .inr ⟨j,E,by rw[aa7,d];omega,p,?_⟩;have u:¬j=lp:=λe=>by rw[e,hc] at h;cases h
   rw[aa3,if_neg u,g j z λk e=>ne j k _ e p,h]
 .cases e;have:=(fm7 hr e2).2.1;omega
def ke4 (o:ah4)(t:ag9):Nat->List ai7×ag9
 | 0=>([],t)
 | 1=>(av4 o,t)
 | 2=>(av4 o++bb2 o (az8 o.a),t)
 | 3=>(av4 o++bb2 o (az8 o.a)++(bs2 o.a (az8 o.a) (ap4 o.a) t).1,(bs2 o.a (az8 o.a) (ap4 o.a) t).2)
 | _=>fc2 o t
def AJ (o:ah4)(t:ag9)(lp:Nat)(av d1 d3:IV)(rp dm tp mid:Nat)(fm:List (IV×IV))(allv cv:IV)(cs:List (List (List Int)))(i:Nat)(s:Store):Prop :=
 ∃ov clv,WB s lp o.a.v o.v (af4 o.a.l) (.aa2 ((az8 o.a).map Md.ad1)) (.aa2 ((ap4 o.a).map Md.ad1)) ov (ke4 o t i).1 av d1 d3 rp dm tp mid fm (ad7 o.a.l).v allv clv cv o.a.l (ke4 o t i).2 cs
def kt2:Nat->Nat
 | 0=>45
 | 1=>46
 | 2=>47
 | _=>48
def fm8 (o:ah4)(b:AOK o.a)(c:(az8 o.a).length<=256):(bb2 o (az8 o.a)).length<=2^16:=by
 have h:=ct4 (f:=cb6 o) (m:=256) (dl6 o.a [3,4]) λx _=>by
  rw[cb6,za];exact zn (bf6 _ _) b.len
 have g:=bs1 o.a [3,4];have e:=b.ae8
 have d:(iv2 o (az8 o.a)).length<=(az8 o.a).length:=by
  rw[iv2,za];exact zo _ _
 rw[bb2,zb];omega
def io4 (o:ah4)(r:bx8 o)(J:o.a.l.length<=100)(c:∀p∈o.a.l,ae9 p=true){t:ag9}(H:t.OK o.a.l.length)(A:t.few)(K:t.h<=480000){s:Store}{lp rp dm tp mid:Nat}{av d1 d3 allv cv:IV}{fm:List (IV×IV)}{cs:List (List (List Int))}{i:Nat}(hi:i<4)
  (h:AJ o t lp av d1 d3 rp dm tp mid fm allv cv cs i s) :
  Cq (kt2 i) [.ptr lp 0] s λv u=>v=.int .i64 0/\s.next<=u.next/\AJ o t lp av d1 d3 rp dm tp mid fm allv cv cs (i+1) u:=by
 have y:=r.ok.a;have Q:(az8 o.a).length<=o.a.l.length:=ai3 _ _;have P:(ap4 o.a).length<=o.a.l.length:=ai3 _ _;have N:(av4 o).length<=64:=by rw[av4,za];have:=bs1 o.a [1];have:=y.ae8;omega
 have M:=fm8 o y om
 have F:∀x∈ap4 o.a,(ar8 o.a (az8 o.a) x).length<=64/\∀d∈ar8 o.a (az8 o.a) x,af3 d.2.2 1=0:=λx z=>by
  obtain ⟨k,rfl,B⟩:=cz4 x z;exact bs3 y c B
 have E:((ap4 o.a).flatMap (ar8 o.a (az8 o.a))).length<=6400:=by
  have:=ct4 (f:=ar8 o.a (az8 o.a)) (m:=64) (ap4 o.a) λx z=>(F x z).1
  omega
 have L:(bs2 o.a (az8 o.a) (ap4 o.a) t).1.length<=6400:=by rw[bs2,di1];exact E
 have⟨ov,clv,g⟩:=h
 match i,hi with
 | 0,_=>
  refine (iv1 o r s lp _ _ _ _ ov [] g.li sm).mono ?_;rintro v u ⟨rfl,b,j,e⟩
  exact ⟨rfl,e.next,b,clv,g.le e j⟩
 | 1,_=>
  refine (jr6 o r (az8 o.a) (he4) om s lp _ _ _ ov (av4 o) g.li om).mono ?_;rintro v u ⟨rfl,b,j,e⟩
  exact ⟨rfl,e.next,b,clv,g.le e j⟩
 | 2,_=>
  refine (jr8 o.a y J c (az8 o.a) (ap4 o.a) om cz4 om H A K (W:=av4 o++bb2 o (az8 o.a)) (by rw[zb];omega) ⟨zf _,ov,clv,by rw[ay2,zd];exact g⟩).mono ?_;rintro v u ⟨rfl,h0,b,q,j⟩
  exact ⟨rfl,h0,b,q,j⟩
 | 3,_=>
  refine (ki5 o r (az8 o.a) (ap4 o.a) (λn I=>by obtain ⟨k,rfl,B⟩:=he4 n I;omega) om om s lp _ _ ov _ g.li (by show (av4 o++bb2 o (az8 o.a)++(bs2 o.a (az8 o.a) (ap4 o.a) t).1).length<_;rw[zb,zb];omega)).mono ?_;rintro v u ⟨rfl,b,j,e⟩;exact ⟨rfl,e.next,b,clv,g.le e j⟩
def kt3 (a:ac2)(ni:Nat)(hni:a.p.inst=ni)(hO:bx8 (ah4.mk a (aw3 a.l ni)))(hl:a.l.length<=100)(hmay:∀p∈a.l,ae9 p=true)(σ:Store){rp dm tp mid:Nat}{av d1 d3 allv clv cv:IV}{t:ag9}{fm:List (IV×IV)}{cs:List (List (List Int))}(ho:t.OK a.l.length)(hfw:t.few)(hh:t.h<=480000)
  (hB:br3 σ av d1 d3 rp dm tp mid fm (ad7 a.l).v allv clv cv a.l t cs) :
  Cq 15 [a.v,.ptr rp 0] σ λv s=>∃lp c0 c2 c3 c4 c5 ov clv',v=.tuple [ov,.int .i64 0]/\σ.next<=s.next/\WB s lp c0 c2 c3 c4 c5 ov (fc2 (ah4.mk a (aw3 a.l ni)) t).1 av d1 d3 rp dm tp mid fm (ad7 a.l).v allv clv' cv a.l (fc2 (ah4.mk a (aw3 a.l ni)) t).2 cs:=by
 refine eb4 fok15 (nZ rfl) ?_;have hA:AOK a:=hO.ok.a;have hNew:=gj9 a ni hA hmay hni;have hP:=aq4 a;have hTr:=cb5 a.p hA.len λx hx=>⟨hA.fit x hx,hA.tiny x hx⟩
 have hCn:=ao8 a.p;rw[er6] at hCn;have hIn:=aq1 a.p;have hpk:ac3 a.p=a.l:=rfl;rw[hpk] at hTr;generalize hoo:ah4.mk a (aw3 a.l ni)=o at *;have hoa:o.a=a:=by rw[<- hoo]
 have acs:a.v.cs=[a.v]:=rfl;have alf:a.v.leaf=true:=rfl;have ocs:o.v.cs=[o.v]:=rfl;have olf:o.v.leaf=true:=rfl;have tcs:(af4 a.l).cs=[af4 a.l]:=rfl;have tlf:(af4 a.l).leaf=true:=rfl;have hnil:∀d,ci5 (.pointer d) a.v=zm false:=λd=>rfl
 simp only[ic15,ev];refine ab7 (ac4 ?_);simp only[go_sem];refine ab7 (ac4 ?_);simp only[go_sem,hnil];refine ab7 (ac4 ?_);simp only[go_sem];refine aa4 fok43 (hNew) ?_;simp only[go_sem];refine ab7 (ac4 ?_);simp only[go_sem];refine ab7 (ac4 ?_);simp only[go_sem]
 first|refine aa4 fok34 (hP) ?_|refine aa8 (hP) ?_
 simp only[go_sem];refine aa4 fok44 (hTr) ?_;simp only[go_sem];refine ab7 (ac4 ?_);simp only[go_sem];refine ab7 (ac4 ?_);simp only[go_sem,acs,alf,ocs,olf,tcs,tlf];refine ab7 (ab7 (ac4 ?_));simp only[go_sem]
 first|refine aa4 fok34 (hP) ?_|refine aa8 (hP) ?_
 simp only[go_sem];refine aa4 fok28 (hCn) ?_;simp only[go_sem]
 refine aj4 (ak9 (Q:=λe f s=>e=.exit 0/\∃nv rv rst,f=(0,a.v)::(9,.ptr σ.next 0)::rst/\TR σ s σ.next a.v (.ptr rp 0) o.v (af4 a.l) nv rv (az8 a) (ap4 a))
  (aa9 noT (λi fr s=>∃nv rv,fr=[(0,a.v),(9,.ptr σ.next 0),(45,.int .i64 a.l.length),(46,.int .i64 (i:Int))]/\TR σ s σ.next a.v (.ptr rp 0) o.v (af4 a.l) nv rv (aj5 (λk=>decide ((k:Int)<a.p.inst)) i) (aj5 (λk=>!decide ((k:Int)<a.p.inst)) i)) a.l.length
   ⟨.aa5,.aa5,rfl,⟨by simp only[aa3,if_true],⟨qc _,λi hi=>by rw[aa3,if_neg om]⟩,⟨zf _,zk _⟩,.inl ⟨rfl,rfl⟩,.inl ⟨rfl,rfl⟩,λ_ _ _ e=>by cases e⟩⟩ ?_) ?_)
 .rintro i fr s hle ⟨nv,rv,rfl,hT⟩;have hsA:=bd3 (λk=>decide ((k:Int)<a.p.inst)) i;have hsB:=bd3 (λk=>!decide ((k:Int)<a.p.inst)) i;have hlA:=ai3 (λk=>decide ((k:Int)<a.p.inst)) i;have hlB:=ai3 (λk=>!decide ((k:Int)<a.p.inst)) i;by_cases hlt:i<a.l.length
  .have a1:(i:Int)<a.l.length:=om;have a2:(0:Int)<=(i:Int):=om;have wi:=ac6 (i:=i) om;have hc:=hT.cell;by_cases hin:(i:Int)<a.p.inst
   .have⟨S1,e1,e2,e3,g1,g2,g3,g4,g5,g6⟩:=jb8 (cs':=[a.v,.ptr rp 0,o.v,af4 a.l,.slice s.next 0 ((aj5 (λk=>decide ((k:Int)<a.p.inst)) i).length+1) 1,rv,.aa5]) (i:Int) hT.kept hT.lt.2 hT.lt.1 hc hT.n hT.r hT.ne om;rw[if_pos (by simp[hin])] at hsA;rw[if_neg (by simp[hin]),zd] at hsB;simp only[go_sem,a1]
    first|refine aa4 fok34 (hP) ?_|refine aa8 (hP) ?_
    simp only[go_sem]
    first|refine aa4 fok25 (hIn) ?_|refine aa8 (hIn) ?_
    simp only[go_sem,hin,hc,e1,e3,wi];exact ⟨hlt,.slice s.next 0 ((aj5 (λk=>decide ((k:Int)<a.p.inst)) i).length+1) 1,rv,by rw[hsA,hsB];exact ⟨g3,g1,⟨hT.lt.1,g2⟩,g4,g5,g6⟩⟩
   .have⟨S1,e1,e2,e3,g1,g2,g3,g4,g5,g6⟩:=jb8 (cs':=[a.v,.ptr rp 0,o.v,af4 a.l,nv,.slice s.next 0 ((aj5 (λk=>!decide ((k:Int)<a.p.inst)) i).length+1) 1,.aa5]) (i:Int) hT.kept hT.lt.2 hT.lt.1 hc hT.r hT.n (λi k m e e2=>hT.ne i m k e2 e) om;rw[if_neg (by simp[hin]),zd] at hsA;rw[if_pos (by simp[hin])] at hsB;simp only[go_sem,a1]
    first|refine aa4 fok34 (hP) ?_|refine aa8 (hP) ?_
    simp only[go_sem]
    first|refine aa4 fok25 (hIn) ?_|refine aa8 (hIn) ?_
    simp only[go_sem,hin,hc,e1,e3,wi];exact ⟨hlt,nv,.slice s.next 0 ((aj5 (λk=>!decide ((k:Int)<a.p.inst)) i).length+1) 1,by rw[hsA,hsB];exact ⟨g3,g1,⟨hT.lt.1,g2⟩,g5,g4,λi m k e e2=>g6 i k m e2 e⟩⟩
  .have hi':i=a.l.length:=om;subst hi';have a1:¬(a.l.length:Int)<a.l.length:=om;simp only[go_sem,a1];exact ⟨nv,rv,_,rfl,hT⟩
 rintro e f s ⟨rfl,nv,rv,rst,rfl,hT⟩;simp only[go_sem]
 have hup:∀ {v:IV} {zs:List Int},ah7 s σ.next v zs->Frz s (λi=>decide (i<=σ.next)=true) v (.aa2 (zs.map Md.ad1)):=λ{v zs} h=>by
  have h2:ah7 s (σ.next+1) v zs:=by
   rcases h with h0|⟨j,g1,g2,g3,g4⟩
   .exact .inl h0
   .have hj:¬j=σ.next:=λe=>by rw[e,hT.cell] at g4;cases g4
    exact .inr ⟨j,om,g2,g3,g4⟩
  exact h2.w.frz λi hi h3=>by have:=of_decide_eq_true h3;omega
 refine ik3 (cw7.cell (S:=λi=>decide (i<=σ.next)) (cs':=[a.v,.ptr rp 0,o.v,af4 a.l,.aa2 ((az8 a).map Md.ad1),.aa2 ((ap4 a).map Md.ad1),.aa5]) _ (decide_eq_true (zf _)) hT.cell rfl λi hi=>?_) rfl ?_
 .match i,hi with
  | 0,_=>exact .inl rfl
  | 1,_=>exact .inl rfl
  | 2,_=>exact .inl rfl
  | 3,_=>exact .inl rfl
  | 4,_=>exact .inr (hup hT.n)
  | 5,_=>exact .inr (hup hT.r)
  | 6,_=>exact .inl rfl
 have hsn:=hT.kept.next
 have hkU:Kept σ ((s.kills λi=>decide (i<=σ.next)).put σ.next (.cells [a.v,.ptr rp 0,o.v,af4 a.l,.aa2 ((az8 a).map Md.ad1),.aa2 ((ap4 a).map Md.ad1),.aa5])):=⟨hsn,λi hi=>by
  rw[aa3,if_neg om,el7,if_pos (decide_eq_true om)];exact hT.kept.obj i hi⟩
 have hL:LI ((s.kills λi=>decide (i<=σ.next)).put σ.next (.cells [a.v,.ptr rp 0,o.v,af4 a.l,.aa2 ((az8 a).map Md.ad1),.aa2 ((ap4 a).map Md.ad1),.aa5])) σ.next a.v (.ptr rp 0) o.v (af4 a.l) (.aa2 ((az8 a).map Md.ad1)) (.aa2 ((ap4 a).map Md.ad1)) .aa5 []:=⟨by rw[aa3,if_pos rfl],.inl ⟨rfl,rfl⟩,hT.lt.2⟩;generalize ((s.kills λi=>decide (i<=σ.next)).put σ.next (.cells [a.v,.ptr rp 0,o.v,af4 a.l,.aa2 ((az8 a).map Md.ad1),.aa2 ((ap4 a).map Md.ad1),.aa5]))=U at *
 have hJ0:AJ o t σ.next av d1 d3 rp dm tp mid fm allv cv cs 0 U:=⟨_,_,by
  subst hoa;exact ⟨hL,hB.mono hkU,⟨by have:=hB.lt.1;omega,by have:=hB.tab.lt.1;omega⟩,λ_ _ _ _ e=>(by cases e),λ_ _ _ _ e=>(by cases e),λ_ _ _ _ e=>(by cases e)⟩⟩
 have hkn:=hkU.next;clear hT hL hkU hup;refine ab7 (ab7 (ac4 ?_));simp only[go_sem]
 refine aj4 (ak9 (Q:=λe f s=>e=.exit 2/\∃rst,f=(9,.ptr σ.next 0)::rst/\σ.next<=s.next/\AJ o t σ.next av d1 d3 rp dm tp mid fm allv cv cs 4 s)
  (aa9 noT (λi fr s=>fr=[(9,.ptr σ.next 0),(83,.agg [.func (.func 45) [.ptr σ.next 0] [],.func (.func 46) [.ptr σ.next 0] [],.func (.func 47) [.ptr σ.next 0] [],.func (.func 48) [.ptr σ.next 0] []]),(84,.int .i64 (i:Int))]/\σ.next<=s.next/\AJ o t σ.next av d1 d3 rp dm tp mid fm allv cv cs i s) 4
   ⟨rfl,hkn,hJ0⟩ ?_) ?_)
 .rintro i fr s hle ⟨rfl,hn,hJ⟩;rcases Nat.lt_or_ge i 4 with hlt|hge
  .have hC:=io4 o hO (by rw[hoa];exact hl) (by rw[hoa];exact hmay) (by rw[hoa];exact ho) hfw hh hlt hJ
   match i,hlt,hC,hJ with
   | 0,_,hC,hJ=>
    simp only[go_sem];refine ak7 fok45.1 hC ?_;rintro v u ⟨rfl,h1,h2⟩;refine ⟨h1,?_⟩;simp only[go_sem]
    exact ⟨om,h2⟩
   | 1,_,hC,hJ=>
    simp only[go_sem];refine ak7 fok46.1 hC ?_;rintro v u ⟨rfl,h1,h2⟩;refine ⟨h1,?_⟩;simp only[go_sem]
    exact ⟨om,h2⟩
   | 2,_,hC,hJ=>
    simp only[go_sem];refine ak7 fok47.1 hC ?_;rintro v u ⟨rfl,h1,h2⟩;refine ⟨h1,?_⟩;simp only[go_sem]
    exact ⟨om,h2⟩
   | 3,_,hC,hJ=>
    simp only[go_sem];refine ak7 fok48.1 hC ?_;rintro v u ⟨rfl,h1,h2⟩;refine ⟨h1,?_⟩;simp only[go_sem];exact ⟨om,h2⟩
  .obtain rfl:i=4:=om;simp only[go_sem];exact ⟨_,rfl,hn,hJ⟩
 rintro e f s ⟨rfl,rst,rfl,hn,ov,clv',hW⟩;have hc:=hW.li.cell;simp only[go_sem];refine ab7 (ac4 ?_);simp only[go_sem,hc];refine ac4 ?_;simp only[go_sem];exact ⟨_,_,_,_,_,_,_,_,rfl,hn,by subst hoa;exact hW⟩
open Go Go.Id Go.Proofs Go.Id.Md
def ed9 (x:Nat×Bool):IV:=.tuple [.int .i64 x.1,.bool x.2]
def bn5 {s:Store}(n:Nat)(b:Bool):cc3 s 0 (.tuple [.int .i64 n,.bool b]) (ed9 (n,b)):=.bo4 (.cons (ae5 _ _) (.cons (ab6 _) .nil))
def gh4 (r:aa6)(b:List aa6)(a n:Nat):cw8 (r::b) a n=if big r.dep=true then (0,true) else
  if (ce7 r (a+1)).2=true\/2000<n+1+(ce7 r (a+1)).1 then (0,true) else cw8 b a (n+1+(ce7 r (a+1)).1):=by
 simp only[cw8]
def he5 (r:aa6):∀a:Nat,a<=21->r.ok->Pq 16 [ao3 r.args,.int .i64 a] (ed9 (ce7 r a)):=by
 induction r using aa6.ind with
 | h k d xs ih=>
  intro a H B;have⟨o1,o2,o3,o4,M⟩:=aa6.gw8.1 B;refine af5 hE fok16 (nZ rfl) (ap7 (bd6 _) (.int _ _)) ?_;by_cases I:20<a
  .have o:(20:Int)<a:=om;simp only[ic16,go_sem,aa6.args,ce7,o,I,true_or];exact bn5 0 true
  have o:¬(20:Int)<a:=om;by_cases P:100<xs.length
  .have c2:(100:Int)<xs.length:=om;simp only[ic16,go_sem,aa6.args,ce7,o,c2,I,P,or_true];exact bn5 0 true
  have c2:¬(100:Int)<xs.length:=om;simp only[ic16,go_sem,aa6.args,ce7,o,c2,I,P,or_self];refine aa9 noT (λi fr s=>∃n:Nat,fr=[(0,ao3 xs),(1,.int .i64 a),(6,.int .i64 n),(7,.int .i64 i)]/\n<=2000/\cw8 xs a 0=cw8 (xs.drop i) a n) xs.length ⟨0,rfl,om,rfl⟩ ?_;rintro i fr s hi ⟨n,rfl,hn,c⟩;by_cases j:i<xs.length
  .have⟨x,z,U,F,f,V⟩:=ad3 xs i j;have c3:(i:Int)<xs.length:=om;have c4:(0:Int)<=i:=om;have S:=ac6 (i:=i) om;have Q:=ac6 (i:=a) om;have u:=ac6 (i:=n) om;rw[F,gh4] at c;have⟨y,b,p⟩:=x;rw[show (aa6.mk y b p).dep=b from rfl] at c;have⟨x1,x2,J,x4,Y⟩:=aa6.gw8.1 (M _ z);have N:=ih _ z (a+1) om (M _ z)
   have A:IntKind.i64.wrap ((b.name.length:Int)+b.evr.ver.length)=((b.name.length+b.evr.ver.length:Nat):Int):=by
    have:=J.1;have:=J.2.1;rw[wrap64 om om];omega
   simp only[go_sem,c3,c4,f,aa6.as1,aa6.kind,aa6.dep,aa6.args,A,bm8] at N ⊢;have g:big b=(decide (500<b.name.length+b.evr.ver.length)||decide (500<b.evr.rel.length)):=rfl;by_cases L:500<b.name.length+b.evr.ver.length
   .have e1:(500:Int)<((b.name.length+b.evr.ver.length:Nat):Int):=om;have m:big b=true:=by rw[g];simp[L]
    rw[if_pos m] at c;simp only[go_sem,e1,c];exact bn5 0 true
   have e1:¬(500:Int)<((b.name.length+b.evr.ver.length:Nat):Int):=om;by_cases K:500<b.evr.rel.length
   .have e2:(500:Int)<b.evr.rel.length:=om;have m:big b=true:=by rw[g];simp[K]
    rw[if_pos m] at c;simp only[go_sem,c3,c4,f,aa6.as1,aa6.kind,aa6.dep,aa6.args,e1,e2,c];exact bn5 0 true
   have e2:¬(500:Int)<b.evr.rel.length:=om;have m:¬big b=true:=by rw[g];simp[L,K]
   rw[if_neg m] at c;simp only[go_sem,c3,c4,f,aa6.as1,aa6.kind,aa6.dep,aa6.args,e1,e2,Q];refine aa4 fok16 N ?_;have X:(ce7 (.mk y b p) (a+1)).1<=2000:=by rw[du6];exact fj8 _ _
   generalize ce7 (.mk y b p) (a+1)=ka at *
   have q:IntKind.i64.wrap (((n+1:Nat):Int)+ka.1)=((n+1+ka.1:Nat):Int):=by
    rw[wrap64 om om];omega
   cases e:ka.2 with
   | true=>
    rw[if_pos (.inl e)] at c;simp only[go_sem,ed9,e,u,q,c]
    exact bn5 0 true
   | false=>
    by_cases T:2000<n+1+ka.1
    .have e3:(2000:Int)<((n+1+ka.1:Nat):Int):=om;rw[if_pos (.inr T)] at c;simp only[go_sem,ed9,e,u,q,e3,c];exact bn5 0 true
    .have e3:¬(2000:Int)<((n+1+ka.1:Nat):Int):=om;rw[if_neg (by rw[e];simp;omega)] at c;simp only[go_sem,ed9,e,S,u,q,e3];exact ⟨j,n+1+ka.1,rfl,om,c⟩
  .have E:i=xs.length:=om;subst E;have c3:¬(xs.length:Int)<xs.length:=om;rw[zu] at c;simp only[go_sem,c3,c,cw8];exact bn5 n false
def gh5 (l:List aa6)(b:l.length<2^62)(a:∀r∈l,r.ok):Pq 16 [ao3 l,.int .i64 0] (ed9 (cw9 l 0)):=by
 have h:=he5 (.mk 1 cq9 l) 0 om (aa6.gw8.2 ⟨om,om,⟨by decide,by decide,by decide⟩,b,a⟩);rw[du6] at h;exact h
def lC (l:List aa6):List IV:=[ao3 l]
def fc3 {p:aa1}{l:List aa6}(h:l∈bq7 p):∃x∈p.rows,x.2=l:=by
 simp only[bq7,List.mem_cons,List.not_mem_nil,or_false] at h;rcases h with rfl|rfl|rfl|rfl|rfl|rfl<;>simp[aa1.rows]
def fc4 (l:List aa6)(a:List (List aa6))(n:Nat):ce8 (l::a) n=if (cw9 l 0).2=true\/2000<n+(cw9 l 0).1 then true else ce8 a (n+(cw9 l 0).1):=by simp only[ce8]
def dw1 (p:aa1)(I:p.Ok):Pq 8 [.agg p.cs] (.bool (av7 p)):=by
 refine af5 hE fok8 (nZ rfl) (ae6 (ap5 p)) ?_;by_cases d:100<p.provides.length
 .have c:(100:Int)<p.provides.length:=om;simp only[ic8,go_sem,ac9,aa1.cs,c,av7,d];exact ab6 _
 have c:¬(100:Int)<p.provides.length:=om;by_cases e:100<p.ab2.length
 .have c2:(100:Int)<p.ab2.length:=om;simp only[ic8,go_sem,ac9,aa1.cs,c,c2,av7,d,e];exact ab6 _
 have c2:¬(100:Int)<p.ab2.length:=om;by_cases f:100<p.files.length
 .have c3:(100:Int)<p.files.length:=om;simp only[ic8,go_sem,ac9,aa1.cs,c,c2,c3,av7,d,e,f];exact ab6 _
 have c3:¬(100:Int)<p.files.length:=om;by_cases k:1000<p.name.length
 .have c4:(1000:Int)<p.name.length:=om;simp only[ic8,go_sem,ac9,aa1.cs,c,c2,c3,c4,av7,d,e,f,k];exact ab6 _
 have c4:¬(1000:Int)<p.name.length:=om;by_cases o:1000<p.vendor.length
 .have c5:(1000:Int)<p.vendor.length:=om;simp only[ic8,go_sem,ac9,aa1.cs,c,c2,c3,c4,c5,av7,d,e,f,k,o];exact ab6 _
 have c5:¬(1000:Int)<p.vendor.length:=om;by_cases z:1000<p.evr.ver.length
 .have m:(1000:Int)<p.evr.ver.length:=om;simp only[ic8,go_sem,ac9,aa1.cs,c,c2,c3,c4,c5,m,av7,d,e,f,k,o,z];exact ab6 _
 have m:¬(1000:Int)<p.evr.ver.length:=om;by_cases A:1000<p.evr.rel.length
 .have y:(1000:Int)<p.evr.rel.length:=om;simp only[ic8,go_sem,ac9,aa1.cs,c,c2,c3,c4,c5,m,y,av7,d,e,f,k,o,z,A];exact ab6 _
 have y:¬(1000:Int)<p.evr.rel.length:=om;have M:av7 p=ce8 (bq7 p) 0:=by simp only[av7,d,e,f,k,o,z,A,decide_false,zt]
 rw[M];simp only[ic8,go_sem,ac9,aa1.cs,c,c2,c3,c4,c5,m,y];refine aa9 noT (λi fr s=>∃n:Nat,fr=[(3,.int .i64 n),(62,.aa2 ((bq7 p).map lC)),(63,.int .i64 6),(64,.int .i64 i)]/\n<=2000/\ce8 (bq7 p) 0=ce8 ((bq7 p).drop i) n) 6 ⟨0,rfl,om,rfl⟩ ?_;rintro i fr s hi ⟨n,rfl,Q,b⟩;by_cases h:i<6
 .have⟨l,L,J,u,j,H⟩:=ad3 (bq7 p) i h;have d1:(i:Int)<6:=om;have P:(0:Int)<=i:=om;have d3:(i:Int)<((bq7 p).length:Nat):=by simp only[bq7,zp,List.length_nil];omega
  have B:=ac6 (i:=i) om;rw[u,fc4] at b;obtain ⟨x,F,rfl⟩:=fc3 L;have g:=I.rich x F;simp only[go_sem,d1,P,d3,j,lC];refine aa4 fok16 (gh5 x.2 g.1 g.2) ?_;have K:=fj8 x.2 0;generalize cw9 x.2 0=ka at *
  have q:IntKind.i64.wrap ((n:Int)+ka.1)=((n+ka.1:Nat):Int):=by
   rw[wrap64 om om];omega
  cases a:ka.2 with
  | true=>
   rw[if_pos (.inl a)] at b;simp only[go_sem,ed9,a,q,b]
   exact ab6 _
  | false=>
   by_cases E:2000<n+ka.1
   .have e3:(2000:Int)<((n+ka.1:Nat):Int):=om;rw[if_pos (.inr E)] at b;simp only[go_sem,ed9,a,q,e3,b];exact ab6 _
   .have e3:¬(2000:Int)<((n+ka.1:Nat):Int):=om;rw[if_neg (by rw[a];simp;omega)] at b;simp only[go_sem,ed9,a,B,q,e3];exact ⟨h,n+ka.1,rfl,om,b⟩
 .have r:i=6:=om;subst r;have N:(bq7 p).drop 6=[]:=rfl;rw[N] at b;simp only[go_sem,b,ce8];exact ab6 _
def fm9 {α:Type}{q:α->Bool}{l:List α}{i:Nat}{a:α}(h:l.drop i=a::l.drop (i+1)):(l.drop i).any q=(q a||(l.drop (i+1)).any q):=by rw[h];simp
def by7 (most:Nat):List al5->Nat->Bool
 | [],_=>false
 | r::rs,n=>if most<n+r.packages.length then true else if r.packages.any av7=true then true else by7 most rs (n+r.packages.length)
def bi5 (ab4:List al5)(inst:List aa1)(r:Req)(most:Nat):Bool :=
 decide (30<ab4.length)||(decide (most<inst.length)||(decide (20<r.ae8.length)||(decide (20<r.ah9.length)||(inst.any av7||by7 most ab4 inst.length))))
def dg2 (a:Nat)(r:al5)(b:List al5)(n:Nat):by7 a (r::b) n=if a<n+r.packages.length then true else if r.packages.any av7=true then true else by7 a b (n+r.packages.length):=by simp only[by7]
def jm2 (r:Req):(r.cs.drop 2).head? = zm (ax2 r.ae8):=rfl
def ke5 (r:Req):(r.cs.drop 3).head? = zm (aw1 r.ah9):=rfl
def he6 (b:List al5)(inst:List aa1)(r:Req)(a:Nat)(h1:b.length<2^62)(h2:inst.length<2^62)(ab:a<2^31)(hr:∀r∈b,al5.Ok r)(hi:∀p∈inst,p.Ok) :
  Pq 4 [bb8 b,ay5 inst,.agg r.cs,.int .i64 a] (.bool (bi5 b inst r a)):=by
 refine af5 hE fok4 (nZ rfl) (gv8 (br7 _) (au5 _) (.agg _ (bf5 r)) (.int _ _)) ?_;have rl:r.cs.length=5:=rfl;have I:∀l:List Job,∀σ:Store,cx6 0 σ (ax2 l)=zm (.int .i64 l.length):=λl σ=>by unfold ax2;simp only[go_sem]
 have el:∀l:List be8,∀σ:Store,cx6 0 σ (aw1 l)=zm (.int .i64 l.length):=λl σ=>by unfold aw1;simp only[go_sem]
 by_cases B:30<b.length
 .have q:(30:Int)<b.length:=om;simp only[ic4,go_sem,ag1,q,bi5,B];exact ab6 _
 have q:¬(30:Int)<b.length:=om;by_cases H:a<inst.length
 .have c2:(a:Int)<inst.length:=om;simp only[ic4,go_sem,ag1,q,c2,bi5,B,H];exact ab6 _
 have c2:¬(a:Int)<inst.length:=om;by_cases P:20<r.ae8.length
 .have c3:(20:Int)<r.ae8.length:=om;simp only[ic4,go_sem,ag1,q,c2,jm2,I,c3,bi5,B,H,P];exact ab6 _
 have c3:¬(20:Int)<r.ae8.length:=om;by_cases Y:20<r.ah9.length
 .have c4:(20:Int)<r.ah9.length:=om;simp only[ic4,go_sem,ag1,q,c2,jm2,ke5,I,el,c3,c4,bi5,B,H,P,Y];exact ab6 _
 have c4:¬(20:Int)<r.ah9.length:=om;have hM:bi5 b inst r a=(inst.any av7||by7 a b inst.length):=by simp only[bi5,B,H,P,Y,decide_false,zt]
 rw[hM];simp only[ic4,go_sem,ag1,q,c2,jm2,ke5,I,el,c3,c4];refine aa9 noT (λi fr s=>fr=[(0,bb8 b),(1,ay5 inst),(3,.int .i64 a),(9,.int .i64 inst.length),(10,.int .i64 i)]/\inst.any av7=(inst.drop i).any av7) inst.length ⟨rfl,rfl⟩ ?_;rintro i fr s ac ⟨rfl,g⟩;by_cases e:i<inst.length
 .have⟨x,K,J,o,d,L⟩:=ad3 inst i e;have d1:(i:Int)<inst.length:=om;have d2:(0:Int)<=i:=om;have E:=ac6 (i:=i) om;rw[fm9 o] at g;simp only[go_sem,d1,d2,d,ad8,ad9,E];refine aa4 fok8 (dw1 x (hi x K)) ?_
  cases A:av7 x with
  | true=>
   rw[A,Bool.true_or] at g;simp only[go_sem,g]
   exact ab6 _
  | false=>
   rw[A,zt] at g;simp only[go_sem,E];exact ⟨e,g⟩
 have k:i=inst.length:=om;subst k;have d1:¬(inst.length:Int)<inst.length:=om;rw[zu,List.any_nil] at g;rw[g,zt];simp only[go_sem,d1];refine aa9 noT (λi fr t=>∃n:Nat,fr=[(0,bb8 b),(3,.int .i64 a),(9,.int .i64 n),(11,.int .i64 i)]/\n<=a/\by7 a b inst.length=by7 a (b.drop i) n) b.length ⟨inst.length,rfl,om,rfl⟩ ?_;rintro i fr t X ⟨n,rfl,hn,c⟩;by_cases e:i<b.length
 .have⟨x,K,J,o,d,L⟩:=ad3 b i e;have d3:(i:Int)<b.length:=om;have F:(0:Int)<=i:=om;have E:=ac6 (i:=i) om;have f:=hr x K
  have S:IntKind.i64.wrap ((n:Int)+x.packages.length)=((n+x.packages.length:Nat):Int):=by
   have:=f.1;rw[wrap64 om om];omega
  rw[o,dg2] at c;by_cases T:a<n+x.packages.length
  .have e1:(a:Int)<((n+x.packages.length:Nat):Int):=om;rw[if_pos T] at c;simp only[go_sem,d3,F,d,bn6,al5.cs,S,e1,c];exact ab6 _
  have e1:¬(a:Int)<((n+x.packages.length:Nat):Int):=om;rw[if_neg T] at c;simp only[go_sem,d3,F,d,bn6,al5.cs,S,e1];refine aa9 noT (λj fr t=>fr=[(0,bb8 b),(3,.int .i64 a),(9,.int .i64 (n+x.packages.length:Nat)),(11,.int .i64 i),(12,.int .i64 j)]/\x.packages.any av7=(x.packages.drop j).any av7) x.packages.length ⟨rfl,rfl⟩ ?_;rintro j fr t V ⟨rfl,h⟩;by_cases u:j<x.packages.length
  .have⟨y,hy,aa,z,m,U⟩:=ad3 x.packages j u;have N:(j:Int)<x.packages.length:=om;have d6:(0:Int)<=j:=om;have Q:=ac6 (i:=j) (by have:=f.1;omega);rw[fm9 z] at h;simp only[go_sem,d3,F,N,d6,d,m,bn6,al5.cs,ad8,ad9,Q];refine aa4 fok8 (dw1 y (f.2 y hy)) ?_
   cases A:av7 y with
   | true=>
    rw[A,Bool.true_or] at h;rw[if_pos h] at c;simp only[go_sem,c]
    exact ab6 _
   | false=>
    rw[A,zt] at h;simp only[go_sem,Q];exact ⟨u,h⟩
  .have M:j=x.packages.length:=om;subst M;have N:¬(x.packages.length:Int)<x.packages.length:=om;rw[zu,List.any_nil] at h;rw[if_neg (by rw[h];exact Bool.false_ne_true)] at c;simp only[go_sem,d3,F,N,d,bn6,al5.cs,E];exact ⟨e,n+x.packages.length,rfl,om,c⟩
 .have k:i=b.length:=om;subst k;have d3:¬(b.length:Int)<b.length:=om;rw[zu] at c;simp only[go_sem,d3,c,by7];exact ab6 _
def ke6 (name ver:Str):aa1:={ name:=name,evr:=⟨0,ver,[49]⟩,al9:=1,vendor:=[],provides:=[],requires:=[],conflicts:=[],ab2:=[],ae1:=[],ac7:=[],suggests:=[],ak8:=[],files:=[] }
def dw2 (name a:Str):Pq 9 [.str name,.str a] (.agg (ke6 name a).cs):=by
 refine af5 hE fok9 (nZ rfl) (ag7 (.str _) (.str _)) ?_;simp only[ic9,go_sem];exact .kp8 (.cons (it6 _) (.cons (kh6 _ _) (.cons (it6 _) (.cons (it6 _) (.cons (kh6 _ _) (.cons (it6 _) (.cons .by1 (.cons .by1 (.cons .by1 (.cons .by1 (.cons .by1 (.cons .by1 (.cons .by1 (.cons .by1 (.cons .by1 .nil)))))))))))))))
def cf8 (A B:List (List Int))(hA:A.length<2^40)(hq:∀q∈A,q.length<2^40):Pq 7 [cv2 A,cv2 B] (.bool (decide (A=B))):=by
 refine af5 hE fok7 (nZ rfl) (ag7 (df4 A) (df4 B)) ?_;unfold cv2;by_cases V:A.length=B.length
 .have L:((A.length:Int)=B.length):=om;simp only[ic7,go_sem,za,L];refine aa9 noT (λi fr s=>fr=[(0,.aa2 (A.map clE)),(1,.aa2 (B.map clE)),(5,.int .i64 (i:Int))]/\A.take i=B.take i) A.length ⟨rfl,rfl⟩ ?_;rintro i fr s af ⟨rfl,P⟩;by_cases F:i<A.length
  .have⟨q,Q,S,ag,b,N⟩:=ad3 A i F;have⟨p,ae,z,aa,a,r⟩:=ad3 B i om;have d1:(i:Int)<A.length:=om;have I:(0:Int)<=i:=om;have d3:(i:Int)<B.length:=om;have w1:=ac6 (i:=i) om;have ad:=hq q Q;have f:∀q,clE q=[.aa2 (q.map Md.ad1)]:=λq=>rfl
   have E:q≠p->A≠B:=λh e=>h (by subst e;rw[S] at z;exact zm.inj z)
   by_cases u:q.length=p.length
   .have K:((q.length:Int)=p.length):=om;simp only[go_sem,d1,I,d3,b,a,f,K,za];refine aa9 noT (λk fr s=>fr=[(0,.aa2 (A.map clE)),(1,.aa2 (B.map clE)),(5,.int .i64 (i:Int)),(6,.int .i64 (k:Int))]/\q.take k=p.take k) q.length ⟨rfl,rfl⟩ ?_;rintro k fr t hk ⟨rfl,j⟩;by_cases H:k<q.length
    .have⟨x,ac,M,Y,d,o⟩:=ad3 q k H;have⟨y,ab,m,X,c,n⟩:=ad3 p k om;have J:(k:Int)<q.length:=om;have d5:(0:Int)<=k:=om;have d6:(k:Int)<p.length:=om;have w2:=ac6 (i:=k) om;by_cases g:x=y
     .subst g;simp only[go_sem,d1,I,d3,J,d5,d6,b,a,f,d,c,Md.ad1,w2];exact ⟨H,by rw[o,n,j]⟩
     .have e:A≠B:=E λe=>g (by subst e;rw[M] at m;exact zm.inj m)
      simp only[go_sem,d1,I,d3,J,d5,d6,b,a,f,d,c,Md.ad1,g,e];exact ab6 _
    .have T:k=q.length:=om;subst T;have J:¬(q.length:Int)<q.length:=om;have e:q=p:=by rw[zc] at j;rw[j,u,zc]
     simp only[go_sem,d1,I,d3,J,b,f,w1];exact ⟨F,by rw[N,r,P,e]⟩
   .have K:¬((q.length:Int)=p.length):=om;have e:A≠B:=E λe=>u (by rw[e])
    simp only[go_sem,d1,I,d3,b,a,f,K,za,e];exact ab6 _
  .have U:i=A.length:=om;subst U;have d1:¬(A.length:Int)<A.length:=om;have e:A=B:=by rw[zc] at P;rw[P,V,zc]
   rw[decide_eq_true e];simp only[go_sem,d1];exact ab6 _
 .have L:¬((A.length:Int)=B.length):=om;have e:A≠B:=λe=>V (by rw[e])
  simp only[ic7,go_sem,za,L,e];exact ab6 _
def alN (n:Nat):Bool:=decide (97<=n)&&decide (n<=122)||decide (65<=n)&&decide (n<=90)||decide (48<=n)&&decide (n<=57)
def io5 (n:Nat):Bool:=alN n || [46,95,43,45,47,58,64,126,94].contains n
def kt4 (n:Nat):Bool:=alN n || [46,95,43,126,94].contains n
def he7 (b:UInt8):bg5 b=io5 b.toNat:=by
 have h:∀n,n<256->bg5 (UInt8.ofNat n)=io5 n:=by decide +kernel
 have:=h b.toNat b.toNat_lt
 rwa [qd] at this
def io6 (b:UInt8):bp1 b=kt4 b.toNat:=by
 have h:∀n,n<256->bp1 (UInt8.ofNat n)=kt4 n:=by decide +kernel
 have:=h b.toNat b.toNat_lt
 rwa [qd] at this
def io7 (a:Int):Pq 30 [.int .u8 a] (.bool (ca3 a)):=by
 refine af5 hE fok30 (nZ rfl) (al3 (.int _ _)) ?_;unfold ca3 ao7;by_cases b:(2:Int)<=a
 .have e1:(1:Int)<=a:=om;have e2:¬a=1:=om;simp only[ic30,go_sem,b];exact ac8 (by simp[e1,e2])
 .simp only[ic30,go_sem,b];refine ac8 ?_;by_cases e:a=1
  .simp[e]
  .have:¬(1:Int)<=a:=om;simp[this]
def io8 (n:Nat):Pq 111 [.int .u8 n] (.bool (io5 n)):=by
 refine af5 hE fok111 (nZ rfl) (al3 (.int _ _)) ?_;by_cases g:n=46\/n=95\/n=43\/n=45\/n=47\/n=58\/n=64\/n=126\/n=94
 .rcases g with rfl|rfl|rfl|rfl|rfl|rfl|rfl|rfl|rfl
  all_goals
   simp only[ic111,go_sem,Int.reduceNeg,Int.cast_ofNat_Int];exact ac8 (by decide)
 .simp only[not_or] at g;have⟨L,K,J,I,H,F,E,B,A⟩:=g;have hc:[46,95,43,45,47,58,64,126,94].contains n=false:=by simp[L,K,J,I,H,F,E,B,A]
  have u:¬(n:Int)=46:=om;have r:¬(n:Int)=95:=om;have q:¬(n:Int)=43:=om;have p:¬(n:Int)=45:=om;have o:¬(n:Int)=47:=om;have m:¬(n:Int)=58:=om;have k:¬(n:Int)=64:=om;have j:¬(n:Int)=126:=om;have i:¬(n:Int)=94:=om;unfold io5 alN;rw[hc,Bool.or_false];by_cases c:(97:Int)<=n
  .by_cases z:(n:Int)<=122
   .simp only[ic111,go_sem,c,z];have a1:97<=n:=om;have a2:n<=122:=om;exact ac8 (by simp[a1,a2])
   .have b:(65:Int)<=n:=om;have h:¬(n:Int)<=90:=om;have a:(48:Int)<=n:=om;have e:¬(n:Int)<=57:=om;simp only[ic111,go_sem,c,z,b,h,a,e,u,r,q,p,o,m,k,j,i];have a2:¬n<=122:=om;have f:¬n<=90:=om;have d:¬n<=57:=om;exact ac8 (by simp[a2,f,d])
  .have a1:¬97<=n:=om;by_cases b:(65:Int)<=n
   .by_cases h:(n:Int)<=90
    .simp only[ic111,go_sem,c,b,h];have x:65<=n:=om;have f:n<=90:=om;exact ac8 (by simp[x,f])
    .have a:(48:Int)<=n:=om;have e:¬(n:Int)<=57:=om;simp only[ic111,go_sem,c,b,h,a,e,u,r,q,p,o,m,k,j,i];have f:¬n<=90:=om;have d:¬n<=57:=om;exact ac8 (by simp[a1,f,d])
   .have x:¬65<=n:=om;by_cases a:(48:Int)<=n
    .by_cases e:(n:Int)<=57
     .simp only[ic111,go_sem,c,b,a,e];have y:48<=n:=om;have d:n<=57:=om;exact ac8 (by simp[y,d])
     .simp only[ic111,go_sem,c,b,a,e,u,r,q,p,o,m,k,j,i];have d:¬n<=57:=om;exact ac8 (by simp[a1,x,d])
    .simp only[ic111,go_sem,c,b,a,u,r,q,p,o,m,k,j,i];have y:¬48<=n:=om;exact ac8 (by simp[a1,x,y])
def fn1 (s:Str)(hs:s.length<2^62):Pq 63 [.str s] (.bool (at5 s)):=by
 refine af5 hE fok63 (nZ rfl) (al3 (.str _)) ?_;unfold at5;by_cases j:1<=s.length
 case neg=>
  have b:(s.length:Int)<1:=om;simp only[ic63,go_sem,b];exact ac8 (by simp[j])
 by_cases h:s.length<=64
 case neg=>
  have b:¬(s.length:Int)<1:=om;have c2:(64:Int)<s.length:=om;simp only[ic63,go_sem,b,c2];exact ac8 (by simp[h])
 have b:¬(s.length:Int)<1:=om;have c2:¬(64:Int)<s.length:=om;by_cases d:s∈words
 .have hc:words.contains s=true:=by simpa using d
  have e:s=[97,110,100]\/s=[111,114]\/s=[105,102]\/s=[101,108,115,101]\/s=[117,110,108,101,115,115]\/s=[119,105,116,104]\/s=[119,105,116,104,111,117,116]:=by simpa [words] using d
  rw[hc];rcases e with rfl|rfl|rfl|rfl|rfl|rfl|rfl
  all_goals
   simp only[ic63,go_sem,b,c2,zp,List.length_nil];exact ac8 (by decide)
 have hc:words.contains s=false:=by simpa using d
 have x:¬s=[97,110,100]/\¬s=[111,114]/\¬s=[105,102]/\¬s=[101,108,115,101]/\¬s=[117,110,108,101,115,115]/\¬s=[119,105,116,104]/\¬s=[119,105,116,104,111,117,116]:=by simpa [words,not_or] using d
 have⟨u,r,q,p,o,n,m⟩:=x;rw[hc,decide_eq_true j,decide_eq_true h,Bool.true_and,Bool.true_and,Bool.not_false,Bool.and_true];simp only[ic63,go_sem,b,c2,u,r,q,p,o,n,m];refine aa9 noT (λi fr t=>fr=[(0,.str s),(3,.int .i64 (i:Int))]/\(s.take i).all bg5=true) s.length ⟨rfl,rfl⟩ ?_;rintro i fr t hi ⟨rfl,f⟩;by_cases a:i<s.length
 .have d1:(i:Int)<s.length:=om;have y:(0:Int)<=i:=om;have k:=ac6 (i:=i) om;have c:=io8 s[i].toNat;rw[<- he7] at c;simp only[go_sem,d1,y,z9 a,Int.toNat_natCast];refine aa4 fok111 (c) ?_
  cases g:bg5 s[i] with
  | true=>
   simp only[go_sem,k]
   exact ⟨a,by rw[cz5 a,f,g];rfl⟩
  | false=>
   simp only[go_sem];exact ac8 (by rw[bl5 a g])
 .have d1:¬(i:Int)<s.length:=om;have e:i=s.length:=om;subst e;rw[zc] at f;simp only[go_sem,d1];exact ac8 (by rw[f])
def io9 (s:Str)(hs:s.length<2^62):Pq 65 [.str s] (.bool (bj8 s)):=by
 refine af5 hE fok65 (nZ rfl) (al3 (.str _)) ?_;have h:=fn1 s hs;unfold bj8;simp only[ic65,go_sem];refine aa4 fok63 (h) ?_
 cases a:at5 s with
 | false=>simp only[go_sem];exact ac8 rfl
 | true=>
  cases s with
  | nil=>simp[at5] at a
  | cons b l=>
   simp only[go_sem,List.head?_cons];refine ac8 ?_
   have:(b.toNat:Int)=47↔b=47:=by
    constructor
    .intro h;exact UInt8.toNat_inj.1 (by show b.toNat=47;omega)
    .rintro rfl;rfl
   by_cases e:b=47
   .subst e;rfl
   .have e2:¬(b.toNat:Int)=47:=λh=>e (this.1 h)
    simp[e,e2]
end Go.Id.Tryz
