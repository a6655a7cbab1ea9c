/- Ranges that meet; who provides,names,ab7. Conditions: sizes that fit. -/
import Derived.Test.YteomphdgniepbaaGreatDoorTNQE
import Derived.Test.YteomphdgniepbaaGreatDoorFwZb
import Derived.Test.YteomphdgniepbaaGreatDoorTNPD
import Derived.Test.YteomphdgniepbaaGreatDoorMg
import Derived.Test.YteomphdgniepbaaGreatDoorRows
import Derived.Shelf.SlSortCmp.Insertion
import Derived.Sort.LotA
set_option linter.all false
namespace Go.Id.Tryz
open Go Go.Id Go.Proofs Go.Id.Md
set_option maxRecDepth 100000
def cp7 (a b:Int):Int:=IntKind.u8.wrap ((BitVec.ofInt 8 a &&& BitVec.ofInt 8 b).toNat:Int)
theorem bd5 (a b:Int):ap5 .and (.int .u8 a) (.int .u8 b)=some (.int .u8 (cp7 a b)):=rfl
theorem io7 {n:Nat}(h:n<256):IntKind.u8.wrap (n:Int)=n:=by
 simp[IntKind.wrap,IntKind.bits,IntKind.signed]; omega
theorem ax6 (a b:Nat)(ha:a<256)(hb:b<256):cp7 a b=((a &&& b:Nat):Int):=by
 unfold cp7;rw[BitVec.toNat_and]
 have e:∀ n:Nat,n<256→(BitVec.ofInt 8 (n:Int)).toNat=n:=fun n hn=>by
  rw[BitVec.toNat_ofInt]; omega
 rw[e a ha,e b hb];exact io7 (Nat.lt_of_le_of_lt Nat.and_le_left ha)
theorem and7:∀ a,a<256→((a &&& 7=0)↔a%8=0):=by decide +kernel
theorem fr8:∀ x,x<256→((x &&& 7=0)↔(x.testBit 0=false∧x.testBit 1=false∧x.testBit 2=false)):=by decide +kernel
theorem and1:∀ a,a<256→((a &&& 1=0)↔a.testBit 0=false):=by decide +kernel
theorem if7:∀ a,a<256→((a &&& 4=0)↔a.testBit 2=false):=by decide +kernel
theorem fr9 (a b:Int):bd3 a b=-1∨bd3 a b=0∨bd3 a b=1:=by
 unfold bd3; split
 ·exact .inl rfl
 ·split
  ·exact .inr (.inl rfl)
  ·exact .inr (.inr rfl)
theorem ib8 (a b:Str):ds9 a b=-1∨ds9 a b=0∨ds9 a b=1:=by
 unfold ds9; split
 ·exact .inl rfl
 ·split
  ·exact .inr (.inl rfl)
  ·exact .inr (.inr rfl)
theorem fs1 (a b:Part):ao2 a b=-1∨ao2 a b=0∨ao2 a b=1:=by
 have h:∀ k n s:Int,(k=-1∨k=0∨k=1)→(n=-1∨n=0∨n=1)→(s=-1∨s=0∨s=1)→((if k≠0 then k else if n≠0 then n else s)=-1∨(if k≠0 then k else if n≠0 then n else s)=0∨(if k≠0 then k else if n≠0 then n else s)=1):=by
  intro k n s h1 h2 h3;rcases h1 with rfl|rfl|rfl<;>rcases h2 with rfl|rfl|rfl<;>simp<;>exact h3
 refine h (bd3 a.kind b.kind) (if a.kind=5∧b.kind=5 then bd3 a.s.length b.s.length else 0) (ds9 a.s b.s) (fr9 _ _) ?_ (ib8 _ _);split
 ·exact fr9 _ _
 ·exact .inr (.inl rfl)
theorem ey3:∀ (l m:List Part),ak4 l m=-1∨ak4 l m=0∨ak4 l m=1:=by
 intro l
 induction l with
 | nil=>intro m; exact .inr (.inl (by rw[ak4]; intros; contradiction))
 | cons a l ih=>
  intro m
  cases m with
  | nil=>exact .inr (.inl (by rw[ak4]; intros; contradiction))
  | cons b m=>
   rw[ak4];split
   ·exact fs1 a b
   ·exact ih m
theorem eg9 (a b:Str):ax2 a b=-1∨ax2 a b=0∨ax2 a b=1:=ey3 _ _
theorem gj6 (a b:EVR):br8 a b=-1∨br8 a b=0∨br8 a b=1:=by
 unfold br8;split
 ·exact fr9 _ _
 ·split
  ·exact eg9 _ _
  ·split
   ·exact .inr (.inl rfl)
   ·exact eg9 _ _
def Dep.small (d:Dep):Prop:=0≤d.op∧d.op<256∧EVR.small d.evr
theorem at6 (d:Dep):Bnd 0 (.agg d.cs):=.agg _ fun c hc=>by
 simp only[Dep.cs,List.mem_cons,List.not_mem_nil,or_false] at hc;rcases hc with rfl|rfl|rfl|rfl|rfl
 ·exact .str _
 ·exact .int _ _
 ·exact .int _ _
 ·exact .str _
 ·exact .str _
theorem ea9 (a b:Dep)(ha:Dep.small a)(hb:Dep.small b):PC Tryz.prog EE 280 [.agg a.cs,.agg b.cs] (.bool (meet a b)):=by
 refine aq8 hE fok280 (nZ rfl) (ap3 (at6 a) (at6 b)) ?_;obtain ⟨a1,a2,a3⟩:=ha;obtain ⟨b1,b2,b3⟩:=hb;have hc:=di9 a.evr b.evr a3 b3;have h3:=gj6 a.evr b.evr;unfold meet;generalize br8 a.evr b.evr=n at hc h3;simp only[EVR.cs] at hc;obtain ⟨x,hx⟩:∃ x:Nat,a.op=x:=⟨a.op.toNat,by omega⟩;obtain ⟨y,hy⟩:∃ y:Nat,b.op=y:=⟨b.op.toNat,by omega⟩;have hx2:x<256:=by omega
 have hy2:y<256:=by omega
 have ex7:cp7 x 7=((x &&& 7:Nat):Int):=ax6 x 7 hx2 (by omega);have ey7:cp7 y 7=((y &&& 7:Nat):Int):=ax6 y 7 hy2 (by omega);rw[hx,hy,Int.toNat_natCast,Int.toNat_natCast];by_cases hx0:x%8=0
 ·have q:=(and7 x hx2).2 hx0;rw[q] at ex7;have q':cp7 x 7=0:=ex7;simp only[ic280,go_sem,Dep.cs,hx,hy,bd5,q',hx0,true_or];exact ac5 _
 ·have q:¬ (x &&& 7=0):=fun e=>hx0 ((and7 x hx2).1 e)
  have q':¬ cp7 x 7=0:=by rw[ex7]; omega
  by_cases hy0:y%8=0
  ·have r:=(and7 y hy2).2 hy0;rw[r] at ey7;have r':cp7 y 7=0:=ey7;simp only[ic280,go_sem,Dep.cs,hx,hy,bd5,q',r',hy0,or_true];exact ac5 _
  ·have r:¬ (y &&& 7=0):=fun e=>hy0 ((and7 y hy2).1 e)
   have r':¬ cp7 y 7=0:=by rw[ey7]; omega
   simp only[ic280,go_sem,Dep.cs,hx,hy,bd5,q',r',hx0,hy0,or_self];refine aa5 fok49 hc ?_;have exy:cp7 x y=((x &&& y:Nat):Int):=ax6 x y hx2 hy2;have hxy:x &&& y<256:=Nat.lt_of_le_of_lt Nat.and_le_left hx2;have exy7:cp7 ((x &&& y:Nat):Int) 7=((x &&& y &&& 7:Nat):Int):=ax6 _ 7 hxy (by omega);have s1:=fq6 1 (.inr (.inr rfl));have s2:=fq6 (-1) (.inl rfl);have n1:¬ ((1:Int)<0):=by decide
   have n2:¬ ((1:Int)=0):=by decide
   have n3:((-1:Int)<0):=by decide
   rw[if_neg n1,if_neg n2] at s1;rw[if_pos n3] at s2;have x1:cp7 x 1=((x &&& 1:Nat):Int):=ax6 x 1 hx2 (by omega);have x4:cp7 x 4=((x &&& 4:Nat):Int):=ax6 x 4 hx2 (by omega);have y1:cp7 y 1=((y &&& 1:Nat):Int):=ax6 y 1 hy2 (by omega);have y4:cp7 y 4=((y &&& 4:Nat):Int):=ax6 y 4 hy2 (by omega);have w1:IntKind.i64.wrap (0 - -1)=1:=by decide
   have w2:IntKind.i64.wrap (0-1)=-1:=by decide
   have bt:∀ (k i:Nat),bit (k:Int) i=k.testBit i:=fun k i=>by unfold bit; rw[Int.toNat_natCast]
   have z0:∀ k:Nat,((k:Int)=0)↔k=0:=fun k=>by omega
   rcases h3 with rfl|rfl|rfl
   ·have g1:side (- -1)=2:=by decide
    have g2:side (-1)=0:=by decide
    have m0:¬ ((-1:Int)=0):=by decide
    simp only[go_sem,m0,w1,g1,g2,bt];refine aa7 s1 ?_
    cases hb:x.testBit 2 with
    | true=>
     have e:¬ cp7 x 4=0:=by rw[x4,z0,if7 x hx2,hb]; simp
     simp only[go_sem,bd5,e]
     exact ac5 _
    | false=>
     have e:cp7 x 4=0:=by rw[x4,z0,if7 x hx2,hb]
     simp only[go_sem,bd5,e];refine aa7 s2 ?_
     cases hc:y.testBit 0 with
     | true=>
      have e2:¬ cp7 y 1=0:=by rw[y1,z0,and1 y hy2,hc]; simp
      simp only[go_sem,bd5,e2]
      exact ac5 _
     | false=>
      have e2:cp7 y 1=0:=by rw[y1,z0,and1 y hy2,hc]
      simp only[go_sem,bd5,e2];exact ac5 _
   ·simp only[go_sem,bd5,exy,exy7,bt]
    have e:(!decide (((x &&& y &&& 7:Nat):Int)=0))=(x.testBit 0&&y.testBit 0||x.testBit 1&&y.testBit 1||x.testBit 2&&y.testBit 2):=by
     by_cases hz:x &&& y &&& 7=0
     ·obtain ⟨t0,t1,t2⟩:=(fr8 _ hxy).1 hz;rw[Nat.testBit_and] at t0 t1 t2;rw[hz,t0,t1,t2]; rfl
     ·have hz':¬ ((x &&& y &&& 7:Nat):Int)=0:=fun h=>hz (by omega)
      have ht:¬ ((x &&& y).testBit 0=false∧(x &&& y).testBit 1=false∧(x &&& y).testBit 2=false):=fun h=>hz ((fr8 _ hxy).2 h)
      rw[Nat.testBit_and,Nat.testBit_and,Nat.testBit_and] at ht;rw[decide_eq_false hz']
      revert ht
      generalize (x.testBit 0&&y.testBit 0)=b0;generalize (x.testBit 1&&y.testBit 1)=b1;generalize (x.testBit 2&&y.testBit 2)=b2;cases b0<;>cases b1<;>cases b2<;>simp
    rw[e];exact ac5 _
   ·have g1:side (-1)=0:=by decide
    have g2:side 1=2:=by decide
    simp only[go_sem,n2,w2,g1,g2,bt];refine aa7 s2 ?_
    cases hb:x.testBit 0 with
    | true=>
     have e:¬ cp7 x 1=0:=by rw[x1,z0,and1 x hx2,hb]; simp
     simp only[go_sem,bd5,e]
     exact ac5 _
    | false=>
     have e:cp7 x 1=0:=by rw[x1,z0,and1 x hx2,hb]
     simp only[go_sem,bd5,e];refine aa7 s1 ?_
     cases hc:y.testBit 2 with
     | true=>
      have e2:¬ cp7 y 4=0:=by rw[y4,z0,if7 y hy2,hc]; simp
      simp only[go_sem,bd5,e2]
      exact ac5 _
     | false=>
      have e2:cp7 y 4=0:=by rw[y4,z0,if7 y hy2,hc]
      simp only[go_sem,bd5,e2];exact ac5 _
theorem gj7 (d:Dep):Bnd 0 (.ac7 d.cs):=.ac7 _ fun c hc=>by
 simp only[Dep.cs,List.mem_cons,List.not_mem_nil,or_false] at hc;rcases hc with rfl|rfl|rfl|rfl|rfl
 ·exact .str _
 ·exact .int _ _
 ·exact .int _ _
 ·exact .str _
 ·exact .str _
theorem eh1 (a d:Dep)(ha:Dep.small a)(hd:Dep.small d):PC Tryz.prog EE 216 [.agg a.cs,.agg d.cs] (.bool (meets a d)):=by
 refine aq8 hE fok216 (nZ rfl) (ap3 (at6 a) (at6 d)) ?_;have hm:=ea9 a d ha hd;unfold meets;simp only[Dep.cs] at hm;by_cases h:a.name=d.name
 ·simp only[ic216,go_sem,Dep.cs,h] at hm ⊢;refine aa5 fok280 hm ?_;simp only[go_sem];exact ac5 _
 ·simp only[ic216,go_sem,Dep.cs,h];exact ac5 _
theorem fs2 (n:Str)(e:EVR):PC Tryz.prog EE 309 [.str n,.agg e.cs] (.agg (Dep.cs ⟨n,2,e⟩)):=by
 refine aq8 hE fok309 (nZ rfl) (ap3 (.str _) (di8 e)) ?_;simp only[ic309,go_sem,EVR.cs,Dep.cs]
 exact .keep _ (.agg _ fun c hc=>by
  simp only[List.mem_cons,List.not_mem_nil,or_false] at hc;rcases hc with rfl|rfl|rfl|rfl|rfl
  ·exact .str _
  ·exact .int _ _
  ·exact .int _ _
  ·exact .str _
  ·exact .str _)
theorem fs3 (p:aa4):PC Tryz.prog EE 254 [.agg p.cs] (.agg (own p).cs):=by
 refine aq8 hE fok254 (nZ rfl) (ai7 (bl9 p)) ?_;have ho:=fs2 p.name p.evr;simp only[EVR.cs,Dep.cs] at ho;simp only[ic254,go_sem,aa4.cs,own,Dep.cs];refine aa5 fok309 ho ?_;simp only[go_sem];exact .keep _ (at6 (own p))
def Pkg.small (p:aa4):Prop:=EVR.small p.evr∧(∀ d∈p.provides,Dep.small d)∧(∀ d∈p.ab7,Dep.small d)∧p.provides.length<2^40∧p.ab7.length<2^40∧p.files.length<2^40
theorem fs4 {p:aa4}(h:Pkg.small p):Dep.small (own p):=⟨by show (0:Int)≤2; decide,by show (2:Int)<256; decide,h.1⟩
theorem ci7 (p:aa4):p.cs.length=15:=rfl
theorem bt7 (p:aa4):p.cs.take 15=p.cs:=rfl
theorem bt8 (p:aa4):p.cs.all IV.leaf=true:=rfl
theorem gj8 (p:aa4)(d:Dep)(hp:Pkg.small p)(hd:Dep.small d):PC Tryz.prog EE 181 [.agg p.cs,.agg d.cs] (.bool (named p d)):=by
 refine aq8 hE fok181 (nZ rfl) (ap3 (bl9 p) (at6 d)) ?_;have ho:=fs3 p;have hm:=eh1 (own p) d (fs4 hp) hd;generalize hx:Dep.cs (own p)=x at ho hm;simp only[ic181,go_sem,ci7,bt7,bt8,ay4,at1,ar1];refine aa7 ho ?_;simp only[go_sem,ay4,at1,ar1];refine aa7 hm ?_;simp only[go_sem];exact ac5 _
theorem fs5 (a d:Dep)(ha:Dep.small a)(hd:Dep.small d):PC Tryz.prog EE 215 ([]++[.agg a.cs]++[.ac7 d.cs]) (.bool (meets a d)):=by
 refine aq8 hE fok215 (nZ rfl) (ap3 (at6 a) (gj7 d)) ?_;simp only[ic215,go_sem,ay4,at1,ar1];refine aa5 fok216 (eh1 a d ha hd) ?_;simp only[go_sem];exact ac5 _
theorem eb1 (l:List Str)(s:Str)(hl:l.length<2^40):PC Tryz.prog EE 281 [.aa3 (l.map bm5),.str s] (.int .i64 (ak7 (fun x=>decide (s=x)) l 0)):=by
 refine ar9 fok281 (nZ rfl) fun σ=>?_
 simp only[ic281,go_sem];refine ab6 noT (fun i fr t=>t=σ∧fr=[(0,.aa3 (l.map bm5)),(1,.str s),(7,.int .i64 l.length),(8,.int .i64 i)]∧ak7 (fun x=>decide (s=x)) l 0=ak7 (fun x=>decide (s=x)) (l.drop i) i) l.length ⟨rfl,rfl,rfl⟩ ?_;rintro i fr t hi ⟨rfl,rfl,hf⟩;by_cases hlt:i<l.length
 ·obtain ⟨x,ha,_,hdr,hget,_⟩:=ag5 l i hlt;have c1:(i:Int)<l.length:=by omega
  have c2:(0:Int)≤i:=by omega
  have w1:=ad6 (i:=i) (by omega);rw[hdr,ak7] at hf;by_cases e:s=x
  ·rw[if_pos (by simpa using e)] at hf;subst e;simp only[go_sem,c1,c2,hget,di1,bm5,hf,and_self]
  ·rw[if_neg (by simpa using e)] at hf;simp only[go_sem,c1,c2,hget,di1,bm5,e,w1];exact ⟨hlt,by rw[hf]; simp only[Int.natCast_add,Int.natCast_one]⟩
 ·have hi':i=l.length:=by omega
  subst hi';have c1:¬ (l.length:Int)<l.length:=by omega
  rw[List.drop_length] at hf;simp only[go_sem,c1,hf,ak7,and_self]
theorem fs6 (l:List Str)(s:Str)(hl:l.length<2^40):PC Tryz.prog EE 217 [.aa3 (l.map bm5),.str s] (.bool (l.contains s)):=by
 refine ar9 fok217 (nZ rfl) fun σ=>?_
 simp only[ic217,go_sem];refine aa5 fok281 (eb1 l s hl) ?_
 have e:l.any (fun x=>decide (s=x))=l.contains s:=by
  induction l with
  | nil=>rfl
  | cons a l ih=>rw[List.any_cons,List.contains_cons,ih (by simp at hl; omega)]; congr 1; by_cases h:s=a<;>simp[h]
 simp only[go_sem,bb1,e,and_self]
theorem eb2 (p:aa4)(d:Dep)(hp:Pkg.small p)(hd:Dep.small d):PC Tryz.prog EE 139 [.agg p.cs,.agg d.cs] (.bool (provides p d)):=by
 refine aq8 hE fok139 (nZ rfl) (ap3 (bl9 p) (at6 d)) ?_;have hn:=gj8 p d hp hd;have hc:=co9 p.provides 215 [] [.ac7 d.cs] (fun a=>meets a d) (by have:=hp.2.2.2.1; omega) fok215.1 fun a ha=>fs5 a d (hp.2.1 a ha) hd
 have hs:=fs6 p.files d.name hp.2.2.2.2.2;have hf:(p.cs.drop 6).head? = some (deps p.provides):=rfl;have hg:(p.cs.drop 14).head? = some (strs p.files):=rfl;have d0:d.cs.head? = some (.str d.name):=rfl;have d1:(d.cs.drop 1).head? = some (.int .u8 d.op):=rfl;unfold provides
 cases hb:named p d with
 | true=>
  rw[hb] at hn;simp only[ic139,go_sem,ci7,bt7,bt8,ay4,at1,ar1];refine aa5 fok181 hn ?_;simp only[go_sem]
  exact ac5 _
 | false=>
  rw[hb] at hn;simp only[ic139,go_sem,ci7,bt7,bt8,ay4,at1,ar1];refine aa5 fok181 hn ?_;simp only[go_sem,hf];refine aa5 fok137 hc ?_
  cases ha:p.provides.any (fun a=>meets a d) with
  | true=>
   simp only[go_sem]
   exact ac5 _
  | false=>
   by_cases h0:d.op=0
   ·simp only[go_sem,d0,d1,h0,hg];refine aa5 fok217 hs ?_;simp only[go_sem];exact ac5 _
   ·simp only[go_sem,d0,d1,h0];exact ac5 _
end Go.Id.Tryz
set_option linter.all false
namespace Go.Id.Tryz
open Go Go.Id Go.Proofs Go.Id.Md
set_option maxRecDepth 100000
abbrev wr (n:Int):Int:=IntKind.i64.wrap n
mutual
def ptR:ab1→Int→Int
 | .mk _ _ xs,n=>ptL xs n 0
def ptL:List ab1→Int→Int→Int
 | [],_,w=>w
 | r::rs,n,w=>if w<n then ptL rs n (wr (wr (w+1)+ptR r (wr (n-w)))) else w
end
theorem ib9 (r:ab1)(n:Int):ptR r n=ptL r.args n 0:=by cases r with|mk k d xs=>simp only[ptR,ab1.args]
theorem gj9 (r:ab1):(r.cs.drop 6).head? = some (ae6 r.args):=by rw[ab1.as9]; rfl
def lR (l:List ab1):List IV:=[ae6 l]
def hc9:List (List ab1)→Int→Int→Int
 | [],_,w=>w
 | l::ls,n,w=>hc9 ls n (wr (w+ptL l n 0))
def szP (p:aa4)(n w:Int):Int:=hc9 (av6 p) n (wr (wr (wr (wr (w+1)+p.provides.length)+p.ab7.length)+p.files.length))
def szL:List aa4→Int→Int→Int
 | [],_,w=>w
 | p::ps,n,w=>if w<n then szL ps n (szP p n w) else w
theorem fs7 {p:aa4}(h:p.Ok):∀ l∈av6 p,l.length<2^62∧∀ r∈l,r.ok:=by
 intro l hl;simp only[av6,List.mem_cons,List.not_mem_nil,or_false] at hl;have:=h.rich;simp only[aa4.rows,List.mem_cons,List.not_mem_nil,or_false,forall_eq_or_imp,forall_eq] at this;obtain ⟨a1,a2,a3,a4,a5,a6⟩:=this;rcases hl with rfl|rfl|rfl|rfl|rfl|rfl
 ·exact a1
 ·exact a2
 ·exact a3
 ·exact a4
 ·exact a5
 ·exact a6
structure hd8 (ab9:List al2) (inst:List aa4):Prop where
 r1:ab9.length<2^20
 i1:inst.length<2^20
 s1:al4 ab9<2^40
 rf:∀ r∈ab9,al2.Fit r
 pf:∀ p∈inst,p.Fit
 ro:∀ r∈ab9,al2.Ok r
 po:∀ p∈inst,p.Ok
theorem ey4 {p:aa4}(h:p.Tiny):Pkg.small p:=by
 have e:∀ v:EVR,v.tiny→EVR.small v:=fun v hv=>⟨by have:=hv.1; omega,by have:=hv.2; omega⟩
 refine ⟨e _ h.evr,fun d hd=>?_,fun d hd=>?_,?_,?_,?_⟩
 ·obtain ⟨a,b,c,_⟩:=h.bp3.2 d hd; exact ⟨a,b,e _ c⟩
 ·obtain ⟨a,b,c,_⟩:=h.obs.2 d hd; exact ⟨a,b,e _ c⟩
 ·have:=h.bp3.1; omega
 ·have:=h.obs.1; omega
 ·have:=h.files; omega
theorem ic1 {ab9:List al2}{inst:List aa4}{p:Pool}(hI:hd8 ab9 inst)(h:ch7 ab9 inst=.inl p):∀ x∈bn4 p,x.Fit∧Pkg.small x∧x.Tiny:=by
 intro x hx;obtain ⟨h1,h2⟩:=ee7 h x hx;refine ⟨?_,ey4 (ef1 h1),ef1 h1⟩;rcases h2 with h2|⟨r,hr,h2⟩
 ·exact hI.pf x h2
 ·exact (hI.rf r hr).2 x h2
end Go.Id.Tryz
set_option linter.all false
namespace Go.Id.Tryz
open Go Go.Id Go.Proofs Go.Id.Md
set_option maxRecDepth 100000
theorem ap4 {S:Nat→Prop}{s:Store}{a b:Bool}(h:a=b):Frz s S (.bool a) (.bool b):=h▸ac5 a
abbrev iv (n:Int):IV:=.int .i64 n
theorem ic3 {id n k:Nat}(h:k≤n):cq2 1 (some (.int .i64 (k:Int))) none (.slice id 0 n 1)=some (.slice id k (n-k) 1):=by
 have e:(0:Int)≤k:=by omega
 simp[cq2,cg5,cq3,e,h]
theorem io9 {pt:PT}{ct:CT}{P:Program}{E:Nat→IV}{e id:Nat}{z:List IV}{x:IX}{fr:Frm}{σ:Store}{K:IV→Store→Prop}:opT pt ct P E (.clr e z x) id fr σ K=cd9 (fe7 σ e z (x.ev E fr)) fun σ'=>σ'.next=σ.next∧K .undef σ':=rfl
end Go.Id.Tryz
set_option linter.all false
namespace Go.Id.Tryz
open Go Go.Id Go.Proofs Go.Id.Md
set_option maxRecDepth 100000
def mP (name:Str)(bp3 obs:List Dep)(files:List Str):aa4:={ name:=name,evr:=⟨0,[49],[49]⟩,eu9:=1,vendor:=[],provides:=bp3,requires:=[],conflicts:=[],ab7:=obs,ac1:=[],ab8:=[],suggests:=[],ad2:=[],files:=files }
def dP (name:Str)(op:Int)(ver:Str):Dep:=⟨name,op,⟨0,ver,[]⟩⟩
def cP (name:Str)(bp3 obs files:IV):List IV:=[.str name,.int .i64 0,.str [49],.str [49],.int .u8 1,.str [],bp3,.aa1,.aa1,obs,.aa1,.aa1,.aa1,.aa1,files]
def mA:aa4:=mP [97] [] [] []
def mB:aa4:=mP [98] [dP [97] 2 [50]] [dP [97] 1 [50]] []
def mC:aa4:=mP [99] [] [] [[47,102]]
def mT:aa4:=mP [97] [dP [97] 2 [51],dP [97] 2 [52],dP [97] 0 []] [dP [97] 0 [],dP [98] 0 [],dP [98] 1 [57]] []
def mD:aa4:=mP [98] [] [] []
def cA:List IV:=cP [97] .aa1 .aa1 .aa1
def cB:List IV:=cP [98] (deps [dP [97] 2 [50]]) (deps [dP [97] 1 [50]]) .aa1
def cC:List IV:=cP [99] .aa1 .aa1 (strs [[47,102]])
def cT:List IV:=cP [97] (deps [dP [97] 2 [51],dP [97] 2 [52],dP [97] 0 []]) (deps [dP [97] 0 [],dP [98] 0 [],dP [98] 1 [57]]) .aa1
def cD:List IV:=cP [98] .aa1 .aa1 .aa1
theorem ic2 {name:Str}{bp3 obs:List Dep}{files:List Str}(h1:name.length<100)(h2:bp3.length<100)(h3:obs.length<100)(h4:files.length<100)(h5:(bp3++obs).all (fun d=>decide (d.name.length<100)&&decide (d.evr.ver.length<100)&&decide (d.evr.rel.length<100))=true)(h6:files.all (fun s=>decide (s.length<100))=true):(mP name bp3 obs files).Fit:=by
 have hd:∀ d∈bp3++obs,d.fit:=fun d hd=>by
  have:=List.all_eq_true.1 h5 d hd;simp only[Bool.and_eq_true,decide_eq_true_eq] at this;exact ⟨by omega,by show d.evr.ver.length<_; omega,by show d.evr.rel.length<_; omega⟩
 refine ⟨by show name.length<_; omega,⟨by show ([49]:Str).length<2^62; decide,by show ([49]:Str).length<2^62; decide⟩,⟨by show bp3.length<_; omega,fun d h=>hd d (List.mem_append_left _ h)⟩,⟨by show obs.length<_; omega,fun d h=>hd d (List.mem_append_right _ h)⟩,⟨by show files.length<_; omega,fun s h=>by have:=List.all_eq_true.1 h6 s h; simp only[decide_eq_true_eq] at this; omega⟩,fun x hx=>?_⟩;simp only[aa4.rows,mP,List.mem_cons,List.not_mem_nil,or_false] at hx;rcases hx with rfl|rfl|rfl|rfl|rfl|rfl<;>exact ⟨by decide,fun r h=>by cases h⟩
theorem cp8:∀ p∈[mA,mB,mC,mT,mD],p.Fit:=by
 intro p hp;simp only[List.mem_cons,List.not_mem_nil,or_false] at hp;rcases hp with rfl|rfl|rfl|rfl|rfl<;>exact ic2 (by decide) (by decide) (by decide) (by decide) (by decide) (by decide)
def p1M:Pool:=⟨rowsOf [mA,mB,mC] (-1) 1025,3,[([97],[0]),([98],[1]),([99],[2])]⟩
def p2M:Pool:=⟨rowsOf [mB,mC] (-1) 1025++rowsOf [mA] 0 0++rowsOf [mT,mD] 1 0,2,[([98],[0,4]),([99],[1]),([97],[2,3])]⟩
theorem ix6:hv9 (ch7 [] [mA,mB,mC])=.tuple [p1M.v,.int .i64 0]:=by kernel_rfl
theorem ix7:hv9 (ch7 [⟨0,[mA]⟩,⟨0,[mT,mD]⟩] [mB,mC])=.tuple [p2M.v,.int .i64 0]:=by kernel_rfl
def a1:List IV:=[.aa1,.aa3 [cA,cB,cC]]
def a2:List IV:=[.aa3 [[.int .i64 0,.aa3 [cA]],[.int .i64 0,.aa3 [cT,cD]]],.aa3 [cB,cC]]
theorem e1:PC Tryz.prog EE 21 a1 (.tuple [p1M.v,.int .i64 0]):=by
 rw[← ix6];refine fk1 (args':=[bd4 [],bc6 [mA,mB,mC]]) (by kernel_rfl) (bb3 [] [mA,mB,mC] (by decide) (by decide) (by decide) (fun r h=>by cases h) fun p hp=>cp8 p ?_);simp only[List.mem_cons,List.not_mem_nil,or_false] at hp ⊢;rcases hp with h|h|h<;>simp[h]
theorem e2:PC Tryz.prog EE 21 a2 (.tuple [p2M.v,.int .i64 0]):=by
 rw[← ix7];refine fk1 (args':=[bd4 [⟨0,[mA]⟩,⟨0,[mT,mD]⟩],bc6 [mB,mC]]) (by kernel_rfl) (bb3 _ _ (by decide) (by decide) (by decide) (fun r hr=>?_) fun p hp=>cp8 p ?_)
 ·simp only[List.mem_cons,List.not_mem_nil,or_false] at hr;rcases hr with rfl|rfl
  ·exact ⟨by decide,fun p hp=>cp8 p (by simp only[List.mem_cons,List.not_mem_nil,or_false] at hp ⊢; simp[hp])⟩
  ·exact ⟨by decide,fun p hp=>cp8 p (by simp only[List.mem_cons,List.not_mem_nil,or_false] at hp ⊢; rcases hp with h|h<;>simp[h])⟩
 ·simp only[List.mem_cons,List.not_mem_nil,or_false] at hp ⊢;rcases hp with h|h<;>simp[h]
theorem eh2 {p:Pool}{l:List aa4}(h:p.rows.map (·.pkg)=l)(hl:∀ x∈l,x∈[mA,mB,mC,mT,mD]):(∀ r∈p.rows,r.pkg.Fit)∧∀ r∈p.rows,r.pkg.provides.length+r.pkg.files.length+r.pkg.ab7.length+3≤2^15:=by
 have hm:∀ r∈p.rows,r.pkg∈[mA,mB,mC,mT,mD]:=fun r hr=>hl _ (by rw[← h]; exact List.mem_map_of_mem hr)
 refine ⟨fun r hr=>cp8 _ (hm r hr),fun r hr=>?_⟩;have:=hm r hr;generalize r.pkg=x at this;simp only[List.mem_cons,List.not_mem_nil,or_false] at this;rcases this with rfl|rfl|rfl|rfl|rfl<;>decide
theorem e3:PC Tryz.prog EE 132 [p1M.v] (.tuple [(dj9 [mA,mB,mC]).v,.int .i64 0]):=by
 obtain ⟨h1,h2⟩:=eh2 (p:=p1M) (l:=[mA,mB,mC]) rfl (fun x hx=>by simp only[List.mem_cons,List.not_mem_nil,or_false] at hx ⊢; rcases hx with h|h|h<;>simp[h]);exact cp6 p1M h1 (by decide) h2
theorem e4:PC Tryz.prog EE 132 [p2M.v] (.tuple [(dj9 [mB,mC,mA,mT,mD]).v,.int .i64 0]):=by
 obtain ⟨h1,h2⟩:=eh2 (p:=p2M) (l:=[mB,mC,mA,mT,mD]) rfl (fun x hx=>by simp only[List.mem_cons,List.not_mem_nil,or_false] at hx ⊢; rcases hx with h|h|h|h|h<;>simp[h]);exact cp6 p2M h1 (by decide) h2
end Go.Id.Tryz
set_option linter.all false
namespace Go.Id.Tryz
open Go Go.Id Go.Proofs Go.Shelf
set_option maxRecDepth 100000
def ix8:Go.Shelf.Ren where
 f:=fun n=>(List.lookup n [(0,0),(1,1),(2,2),(99,276),(107,188),(108,260),(109,281),(110,217),(119,343),(122,69),(125,154),(128,231),(129,232),(137,274),(151,340),(152,342),(161,316),(189,111),(197,339),(206,320),(215,159),(216,267),(217,319),(224,344),(225,345),(227,334),(228,338),(231,333),(233,335),(235,336),(257,193),(260,341),(266,337),(294,261),(295,262),(296,263),(297,264),(298,265),(299,266),(300,268),(301,269),(328,311),(329,291),(330,292),(331,312),(332,313),(336,318),(343,332),(347,346),(348,347),(349,348),(350,349),(351,350),(352,351),(353,352),(354,353),(355,354),(356,355),(357,356),(358,357),(359,358),(360,359),(361,360),(366,366),(367,374)]).getD 0
 t:=fun n=>(List.lookup n [(0,0),(1,1),(2,2),(3,3),(4,4),(5,5),(7,7),(8,8),(9,9),(10,10),(11,11),(12,12),(13,13),(14,14),(15,15),(16,16),(17,17),(18,18),(20,20),(21,21),(22,295),(23,323),(27,172),(28,28),(29,82),(30,283),(31,88),(32,298),(33,250),(34,40),(35,164),(40,353),(41,175),(43,109),(45,77),(46,53),(47,199),(48,52),(51,266),(52,265),(53,123),(54,267),(55,293),(63,347),(64,348),(80,354),(81,36),(102,224),(104,236),(105,345),(106,346),(111,37),(112,38),(114,94),(115,338),(116,339),(117,340),(118,341),(119,349),(122,337),(123,342),(124,343),(127,363),(131,208),(134,221),(137,350),(139,352),(164,369),(181,284),(182,259),(183,260),(184,285),(185,286),(186,287),(187,288),(211,166),(214,322),(218,303),(219,304),(220,305),(221,319),(222,307),(223,320),(228,330),(229,331),(230,336),(238,355),(239,356),(240,357),(241,358),(242,359),(245,362),(248,366)]).getD 0
 g:=fun n=>n
theorem hd9:Lays.n189 Tryz.prog ix8 where
 mixed:=by kernel_rfl
 f125:=Tryz.func154.trans (congrArg some (by kernel_rfl))
 f128:=Tryz.func231.trans (congrArg some (by kernel_rfl))
 f129:=Tryz.func232.trans (congrArg some (by kernel_rfl))
 f189:=Tryz.func111.trans (congrArg some (by kernel_rfl))
 f215:=Tryz.func159.trans (congrArg some (by kernel_rfl))
 f216:=Tryz.func267.trans (congrArg some (by kernel_rfl))
 f257:=Tryz.func193.trans (congrArg some (by kernel_rfl))
 f294:=Tryz.func261.trans (congrArg some (by kernel_rfl))
 f295:=Tryz.func262.trans (congrArg some (by kernel_rfl))
 f296:=Tryz.func263.trans (congrArg some (by kernel_rfl))
 f297:=Tryz.func264.trans (congrArg some (by kernel_rfl))
 f298:=Tryz.func265.trans (congrArg some (by kernel_rfl))
 f299:=Tryz.func266.trans (congrArg some (by kernel_rfl))
 f300:=Tryz.func268.trans (congrArg some (by kernel_rfl))
 f301:=Tryz.func269.trans (congrArg some (by kernel_rfl))
 f328:=Tryz.func311.trans (congrArg some (by kernel_rfl))
 f329:=Tryz.func291.trans (congrArg some (by kernel_rfl))
 f330:=Tryz.func292.trans (congrArg some (by kernel_rfl))
 f331:=Tryz.func312.trans (congrArg some (by kernel_rfl))
 f332:=Tryz.func313.trans (congrArg some (by kernel_rfl))
 f343:=Tryz.func332.trans (congrArg some (by kernel_rfl))
 t0:=by kernel_rfl
 a0:=Tryz.isAgg0
 z0:=fun _=>by kernel_rfl
 v0:=fun _=>by kernel_rfl
 t3:=by kernel_rfl
 a3:=Tryz.isAgg3
 z3:=fun _=>by kernel_rfl
 v3:=fun _=>by kernel_rfl
 t4:=by kernel_rfl
 a4:=Tryz.isAgg4
 z4:=fun _=>by kernel_rfl
 v4:=fun _=>by kernel_rfl
 t5:=by kernel_rfl
 a5:=Tryz.isAgg5
 z5:=fun _=>by kernel_rfl
 v5:=fun _=>by kernel_rfl
 t9:=by kernel_rfl
 a9:=Tryz.isAgg9
 z9:=fun _=>by kernel_rfl
 v9:=fun _=>by kernel_rfl
 t28:=by kernel_rfl
 a28:=Tryz.isAgg28
 z28:=fun _=>by kernel_rfl
 v28:=fun _=>by kernel_rfl
 t46:=by kernel_rfl
 a46:=Tryz.isAgg53
 z46:=fun _=>by kernel_rfl
 v46:=fun _=>by kernel_rfl
 t51:=by kernel_rfl
 a51:=Tryz.isAgg266
 z51:=fun _=>by kernel_rfl
 v51:=fun _=>by kernel_rfl
 t53:=by kernel_rfl
 a53:=Tryz.isAgg123
 z53:=fun _=>by kernel_rfl
 v53:=fun _=>by kernel_rfl
 t131:=by kernel_rfl
 a131:=Tryz.isAgg208
 z131:=fun _=>by kernel_rfl
 v131:=fun _=>by kernel_rfl
 t182:=by kernel_rfl
 a182:=Tryz.isAgg259
 z182:=fun _=>by kernel_rfl
 v182:=fun _=>by kernel_rfl
 t183:=by kernel_rfl
 a183:=Tryz.isAgg260
 z183:=fun _=>by kernel_rfl
 v183:=fun _=>by kernel_rfl
 t218:=by kernel_rfl
 a218:=Tryz.isAgg303
 z218:=fun _=>by kernel_rfl
 v218:=fun _=>by kernel_rfl
 t222:=by kernel_rfl
 a222:=Tryz.isAgg307
 z222:=fun _=>by kernel_rfl
 v222:=fun _=>by kernel_rfl
 t228:=by kernel_rfl
 a228:=Tryz.isAgg330
 z228:=fun _=>by kernel_rfl
 v228:=fun _=>by kernel_rfl
 t229:=by kernel_rfl
 a229:=Tryz.isAgg331
 z229:=fun _=>by kernel_rfl
 v229:=fun _=>by kernel_rfl
def ip1 (l:List Int):List Int:=l.mergeSort fun x y=>decide (x≤y)
theorem ey5 {σ:Store}{id:Nat}{zs:List Int}(hz:zs.length<4611686018427387904)(ho:σ.obj id=some (.row (zs.map (IV.int .i64)))) :
  C Tryz.prog EE 111 [.slice id 0 zs.length 1] σ fun v s=>v=.tuple []∧s=σ.put id (.row ((ip1 zs).map (IV.int .i64))):=
 gw2 (enc:=Value.int .i64) (en:=IV.int .i64) (srt:=ip1) (fun _ _ x=>.int _ _) (fun _ _ x r h=>by cases h; rfl) (fun l=>List.length_mergeSort l) (by unfold ip1; rw[List.mergeSort_nil])
  (fun blk off cap zs w h1 h2 h3=>Any.slices_Sort_int hd9 blk off cap zs w h1 h2 h3) (fun p cap w=>Any.slices_Sort_int_none hd9 p cap w) hz ho
open Go Go.Id Go.Proofs Go.Shelf Go.Id.Md
theorem fs8 {P:Program}{E:Nat→IV}{f:Nat}(hn:∀ (p:Option Addr) (cap:Nat) (w:World),Calls P f #[.slice p 0 cap] w fun e w'=>e=.returned (.tuple #[])∧w'=w){σ:Store}:C P E f [.aa1] σ fun v s=>v=.tuple []∧s=σ:=by
 intro ρ w rargs hs hr;obtain ⟨hr1,hr2⟩:=hr;have hv0:=hr2 0 (by simp);obtain ⟨al⟩:=rargs
 match al,hr1,hv0 with
 | [r],_,hv0=>
  have hv0:VR ρ w .aa1 r:=hv0;cases hv0;refine callsIn_wide.2 ((hn _ _ w).mono ?_);rintro e w' ⟨rfl,rfl⟩;exact ⟨.tuple [],_,ρ,σ,rfl,⟨rfl,rfl⟩,hs,.tuple [] #[] rfl (fun i hi=>by simp at hi),aw4.refl _ _ _⟩
theorem fs9 {σ:Store}:C Tryz.prog EE 111 [.aa1] σ fun v s=>v=.tuple []∧s=σ:=fs8 fun p cap w=>Any.slices_Sort_int_none hd9 p cap w
end Go.Id.Tryz
/- Whom a package ab7: the function walked. Conditions: sizes that fit. -/
namespace Go.Id
open Go Go.Id
end Go.Id
namespace Go.Id.Tryz
open Go Go.Id Go.Proofs Go.Shelf Go.Id.Md
open Go Go.Id Go.Proofs Go.Id.Md
end Go.Id.Tryz
set_option linter.all false
namespace Go.Id.Tryz
open Go Go.Id Go.Proofs Go.Id.Md
set_option maxRecDepth 100000
open Go Go.Id Go.Proofs Go.Shelf Go.Id.Md
theorem cp9 (xs:List Int)(g:Nat)(first cap:List IV)(q:Int→Bool)(hn:xs.length<2^62)(hok:okF Tryz.prog g=true)
  (hq:∀ x∈xs,PC Tryz.prog EE g (first++[IV.int .i64 x]++cap) (.bool (q x))):PC Tryz.prog EE 152 [.aa3 (xs.map Md.ag2),.func (.func g) first cap] (.int .i64 (ak7 q xs 0)):=by
 refine ar9 fok152 (nZ rfl) fun σ=>?_
 simp only[ic152,go_sem];refine ab6 noT (fun i fr s=>s=σ∧fr=[(0,.aa3 (xs.map Md.ag2)),(1,.func (.func g) first cap),(7,.int .i64 xs.length),(8,.int .i64 i)]∧ak7 q xs 0=ak7 q (xs.drop i) i) xs.length ⟨rfl,rfl,rfl⟩ ?_;rintro i fr s hi ⟨rfl,rfl,hf⟩;by_cases hlt:i<xs.length
 ·obtain ⟨x,ha,_,hdr,hget,_⟩:=ag5 xs i hlt;have c1:(i:Int)<xs.length:=by omega
  have c2:(0:Int)≤i:=by omega
  have w1:=ad6 (i:=i) (by omega);rw[hdr] at hf;simp only[go_sem,c1,c2,hget,Md.ag2];refine aq9 hok (gc6 (hq x ha)) ?_;rintro v s ⟨rfl,rfl⟩;refine ⟨Nat.le_refl _,?_⟩
  cases hqe:q x with
  | true=>simp only[go_sem,hf,ak7,hqe,and_self]
  | false=>
   simp only[go_sem,w1];exact ⟨hlt,by rw[hf]; simp only[ak7,hqe,Bool.false_eq_true,if_false,Int.natCast_add,Int.natCast_one]⟩
 ·have hi':i=xs.length:=by omega
  subst hi';have c1:¬ (xs.length:Int)<xs.length:=by omega
  rw[List.drop_length] at hf;simp only[go_sem,c1,hf,ak7,and_self]
theorem ft1 (xs:List Int)(g:Nat)(first cap:List IV)(q:Int→Bool)(hn:xs.length<2^62)(hok:okF Tryz.prog g=true)
  (hq:∀ x∈xs,PC Tryz.prog EE g (first++[IV.int .i64 x]++cap) (.bool (q x))):PC Tryz.prog EE 163 [.aa3 (xs.map Md.ag2),.func (.func g) first cap] (.bool (xs.any q)):=by
 refine ar9 fok163 (nZ rfl) fun σ=>?_
 simp only[ic163,go_sem]
 first|refine aa5 fok152 (cp9 xs g first cap q hn hok hq) ?_|refine aa7 (cp9 xs g first cap q hn hok hq) ?_
 simp only[go_sem,bb1,and_self]
/-! ### A number,an edit,looked for -/
/-! ### Copies of if1,of ew1 -/
end Go.Id.Tryz
set_option linter.all false
namespace Go.Id.Tryz
open Go Go.Id Go.Proofs Go.Shelf Go.Id.Md
set_option maxRecDepth 100000
theorem gn2 {d:TypeId}{c:IV}{cs:List IV}:dj7 (.pointer d) (.ac7 (c::cs))=some false:=rfl
end Go.Id.Tryz
set_option linter.all false
namespace Go.Id.Tryz
open Go Go.Id Go.Proofs Go.Id.Md
set_option maxRecDepth 100000
variable {H:Type} {enc:TypeId×Value→H} {w:World} {base:Nat} {sp:Nat→Bool} {held:Bool}
abbrev Rd (enc:TypeId×Value→H)(w:World)(base:Nat)(sp:Nat→Bool)(held:Bool):=Rdg enc Tryz.prog w base sp held
theorem gp9 {n:Nat}{d:DataW H}(h:Rd enc w base sp held n 68 d)(hw:WT Tryz.prog 68 d):∃ e:EVR,e.fit∧∀ m,n≤m→dv Tryz.prog m 68 d=some e.cs:=by
 obtain ⟨n',ds,rfl,rfl,hl,hf⟩:=ba4 Tryz.underlying68 h hw
 match ds,hl with
 | [d0,d1,d2],_=>
  obtain ⟨r0,w0⟩:=hf 0 _ d0 rfl rfl;obtain ⟨r1,w1⟩:=hf 1 _ d1 rfl rfl;obtain ⟨r2,w2⟩:=hf 2 _ d2 rfl rfl;obtain ⟨z,_,_,e0⟩:=ce2 Tryz.underlying3 r0;obtain ⟨s1,l1,e1⟩:=da6 Tryz.underlying9 r1 w1;obtain ⟨s2,l2,e2⟩:=da6 Tryz.underlying9 r2 w2;refine ⟨⟨z,s1,s2⟩,⟨l1,l2⟩,fun m hm=>?_⟩
  cases m with
  | zero=>omega
  | succ m=>
   have c3:Tryz.prog.cellsOf 3=1:=by kernel_rfl
   have c9:Tryz.prog.cellsOf 9=1:=by kernel_rfl
   have ct:Tryz.prog.cellsOf 68=3:=by kernel_rfl
   simp only[dv,Tryz.underlying68,List.map_cons,List.map_nil,dvF,e0 m (by omega),e1 m (by omega),e2 m (by omega),List.length_cons,List.length_nil,c3,c9,ct,List.cons_append,List.nil_append,List.append_nil,Nat.reduceAdd,↓reduceIte];rfl
theorem io4 {z:Int}(h:(Lit.int .u8 z).wf=true):0≤z∧z<256:=by
 simp only[Lit.wf,Bool.and_eq_true,decide_eq_true_eq] at h;have e1:IntKind.u8.min=0:=rfl;have e2:IntKind.u8.max=255:=rfl;omega
theorem ia5:Tryz.prog.cellsOf 3=1:=by kernel_rfl
theorem if5:Tryz.prog.cellsOf 5=1:=by kernel_rfl
theorem ha5:Tryz.prog.cellsOf 9=1:=by kernel_rfl
theorem ia6:Tryz.prog.cellsOf 68=3:=by kernel_rfl
theorem ha6:Tryz.prog.cellsOf 70=5:=by kernel_rfl
theorem fp8:Tryz.prog.cellsOf 130=7:=by kernel_rfl
theorem ia7:Tryz.prog.cellsOf 90=15:=by kernel_rfl
theorem gq1:Tryz.prog.cellsOf 97=2:=by kernel_rfl
theorem ia8:Tryz.prog.cellsOf 86=1:=by kernel_rfl
theorem eg2:Tryz.prog.cellsOf 87=1:=by kernel_rfl
theorem ia9:Tryz.prog.cellsOf 88=1:=by kernel_rfl
theorem ib5:Tryz.prog.cellsOf 23=1:=by kernel_rfl
theorem gq2 {n:Nat}{d:DataW H}(h:Rd enc w base sp held n 70 d)(hw:WT Tryz.prog 70 d):∃ e:Dep,e.fit∧∀ m,n≤m→dv Tryz.prog m 70 d=some e.cs:=by
 obtain ⟨n',ds,rfl,rfl,hl,hf⟩:=ba4 Tryz.underlying70 h hw
 match ds,hl with
 | [d0,d1,d2],_=>
  obtain ⟨r0,w0⟩:=hf 0 _ d0 rfl rfl;obtain ⟨r1,w1⟩:=hf 1 _ d1 rfl rfl;obtain ⟨r2,w2⟩:=hf 2 _ d2 rfl rfl;obtain ⟨s0,l0,e0⟩:=da6 Tryz.underlying9 r0 w0;obtain ⟨z,_,_,e1⟩:=ce2 Tryz.underlying5 r1;obtain ⟨e,l2,e2⟩:=gp9 r2 w2;refine ⟨⟨s0,z,e⟩,⟨l0,l2⟩,fun m hm=>?_⟩
  cases m with
  | zero=>omega
  | succ m=>
   simp only[dv,Tryz.underlying70,List.map_cons,List.map_nil,dvF,e0 m (by omega),e1 m (by omega),e2 m (by omega),EVR.cs,List.length_cons,List.length_nil,ha5,if5,ia6,ha6,List.cons_append,List.nil_append,List.append_nil,Nat.reduceAdd,↓reduceIte];rfl
theorem ha7:∀ (n:Nat) (d:DataW H),Rd enc w base sp held n 130 d→WT Tryz.prog 130 d→∃ r:ab1,r.ok∧∀ m,n≤m→dv Tryz.prog m 130 d=some r.cs:=by
 intro n
 induction n using Nat.strongRecOn with
 | ind n ih=>
  intro d h hw;obtain ⟨n',ds,rfl,rfl,hl,hf⟩:=ba4 Tryz.underlying130 h hw
  match ds,hl with
  | [d0,d1,d2],_=>
   obtain ⟨r0,w0⟩:=hf 0 _ d0 rfl rfl;obtain ⟨r1,w1⟩:=hf 1 _ d1 rfl rfl;obtain ⟨r2,w2⟩:=hf 2 _ d2 rfl rfl;obtain ⟨z,_,hz,e0⟩:=ce2 Tryz.underlying5 r0;obtain ⟨e,l1,e1⟩:=gq2 r1 w1;obtain ⟨l,k1,k2,e2⟩:=bc4 ab1.cs ab1.ok Tryz.underlying87 fp8 (by decide) (by decide +kernel) (fun r=>by rw[ab1.as9]; rfl) (fun m d' hm hr hw'=>ih m (by omega) d' hr hw') r2 w2;have hz':=io4 hz;refine ⟨.mk z e l,ab1.ge4.2 ⟨hz'.1,hz'.2,l1,k1,k2⟩,fun m hm=>?_⟩
   cases m with
   | zero=>omega
   | succ m=>
    simp only[dv,Tryz.underlying130,List.map_cons,List.map_nil,dvF,e0 m (by omega),e1 m (by omega),e2 m (by omega),Dep.cs,List.length_cons,List.length_nil,eg2,if5,ha6,fp8,List.cons_append,List.nil_append,List.append_nil,Nat.reduceAdd,↓reduceIte];rw[ab1.as9];rfl
theorem fp9 {n:Nat}{d:DataW H}(h:Rd enc w base sp held n 86 d)(hw:WT Tryz.prog 86 d):∃ l:List Dep,l.length<2^62∧(∀ a∈l,a.fit)∧∀ m,n≤m→dv Tryz.prog m 86 d=some [deps l]:=
 bc4 Dep.cs Dep.fit Tryz.underlying86 ha6 (by decide) (by decide +kernel) (fun _=>rfl) (fun _ _ _ hr hw'=>gq2 hr hw') h hw
theorem bb2 {n:Nat}{d:DataW H}(h:Rd enc w base sp held n 87 d)(hw:WT Tryz.prog 87 d):∃ l:List ab1,l.length<2^62∧(∀ a∈l,a.ok)∧∀ m,n≤m→dv Tryz.prog m 87 d=some [ae6 l]:=
 bc4 ab1.cs ab1.ok Tryz.underlying87 fp8 (by decide) (by decide +kernel) (fun r=>by rw[ab1.as9]; rfl) (fun m d' _ hr hw'=>ha7 m d' hr hw') h hw
theorem ha8 {n:Nat}{d:DataW H}(h:Rd enc w base sp held n 88 d)(hw:WT Tryz.prog 88 d):∃ l:List Str,l.length<2^62∧(∀ a∈l,a.length<2^62)∧∀ m,n≤m→dv Tryz.prog m 88 d=some [strs l]:=
 bc4 bm5 (fun s:Str=>s.length<2^62) Tryz.underlying88 ha5 (by decide) (by decide +kernel) (fun _=>rfl) (fun _ _ _ hr hw'=>da6 Tryz.underlying9 hr hw') h hw
theorem ib6 {n:Nat}{d:DataW H}(h:Rd enc w base sp held n 90 d)(hw:WT Tryz.prog 90 d):∃ p:aa4,p.Ok∧∀ m,n≤m→dv Tryz.prog m 90 d=some p.cs:=by
 obtain ⟨n',ds,rfl,rfl,hl,hf⟩:=ba4 Tryz.underlying90 h hw
 match ds,hl with
 | [d0,d1,d2,d3,d4,d5,d6,d7,d8,d9,d10,d11,d12],_=>
  obtain ⟨r0,w0⟩:=hf 0 _ d0 rfl rfl;obtain ⟨r1,w1⟩:=hf 1 _ d1 rfl rfl;obtain ⟨r2,w2⟩:=hf 2 _ d2 rfl rfl;obtain ⟨r3,w3⟩:=hf 3 _ d3 rfl rfl;obtain ⟨r4,w4⟩:=hf 4 _ d4 rfl rfl;obtain ⟨r5,w5⟩:=hf 5 _ d5 rfl rfl;obtain ⟨r6,w6⟩:=hf 6 _ d6 rfl rfl;obtain ⟨r7,w7⟩:=hf 7 _ d7 rfl rfl;obtain ⟨r8,w8⟩:=hf 8 _ d8 rfl rfl;obtain ⟨r9,w9⟩:=hf 9 _ d9 rfl rfl;obtain ⟨r10,w10⟩:=hf 10 _ d10 rfl rfl;obtain ⟨r11,w11⟩:=hf 11 _ d11 rfl rfl;obtain ⟨r12,w12⟩:=hf 12 _ d12 rfl rfl;obtain ⟨x0,l0,e0⟩:=da6 Tryz.underlying9 r0 w0;obtain ⟨x1,l1,e1⟩:=gp9 r1 w1;obtain ⟨x2,_,_,e2⟩:=ce2 Tryz.underlying5 r2;obtain ⟨x3,l3,e3⟩:=da6 Tryz.underlying9 r3 w3;obtain ⟨x4,l4,k4,e4⟩:=fp9 r4 w4;obtain ⟨x5,l5,k5,e5⟩:=bb2 r5 w5;obtain ⟨x6,l6,k6,e6⟩:=bb2 r6 w6;obtain ⟨x7,l7,k7,e7⟩:=fp9 r7 w7;obtain ⟨x8,l8,k8,e8⟩:=bb2 r8 w8;obtain ⟨x9,l9,k9,e9⟩:=bb2 r9 w9;obtain ⟨x10,l10,k10,e10⟩:=bb2 r10 w10;obtain ⟨x11,l11,k11,e11⟩:=bb2 r11 w11;obtain ⟨x12,l12,k12,e12⟩:=ha8 r12 w12;refine ⟨⟨x0,x1,x2,x3,x4,x5,x6,x7,x8,x9,x10,x11,x12⟩,⟨l0,l3,l1,⟨l4,k4⟩,⟨l7,k7⟩,⟨l12,k12⟩,?_⟩,fun m hm=>?_⟩
  ·intro x hx;simp only[aa4.rows,List.mem_cons,List.not_mem_nil,or_false] at hx;rcases hx with rfl|rfl|rfl|rfl|rfl|rfl
   ·exact ⟨l5,k5⟩
   ·exact ⟨l6,k6⟩
   ·exact ⟨l8,k8⟩
   ·exact ⟨l9,k9⟩
   ·exact ⟨l10,k10⟩
   ·exact ⟨l11,k11⟩
  cases m with
  | zero=>omega
  | succ m=>
   simp only[dv,Tryz.underlying90,List.map_cons,List.map_nil,dvF,e0 m (by omega),e1 m (by omega),e2 m (by omega),e3 m (by omega),e4 m (by omega),e5 m (by omega),e6 m (by omega),e7 m (by omega),e8 m (by omega),e9 m (by omega),e10 m (by omega),e11 m (by omega),e12 m (by omega),EVR.cs,List.length_cons,List.length_nil,ha5,if5,ia6,ia8,eg2,ia9,ia7,List.cons_append,List.nil_append,List.append_nil,Nat.reduceAdd,↓reduceIte];rfl
theorem fq1 {n:Nat}{d:DataW H}(h:Rd enc w base sp held n 23 d)(hw:WT Tryz.prog 23 d):∃ l:List aa4,l.length<2^62∧(∀ a∈l,a.Ok)∧∀ m,n≤m→dv Tryz.prog m 23 d=some [.aa3 (l.map aa4.cs)]:=
 bc4 aa4.cs aa4.Ok Tryz.underlying23 ia7 (by decide) (by decide +kernel) (fun _=>rfl) (fun _ _ _ hr hw'=>ib6 hr hw') h hw
theorem ha9 {n:Nat}{d:DataW H}(h:Rd enc w base sp held n 97 d)(hw:WT Tryz.prog 97 d):∃ r:al2,al2.Ok r∧∀ m,n≤m→dv Tryz.prog m 97 d=some r.cs:=by
 obtain ⟨n',ds,rfl,rfl,hl,hf⟩:=ba4 Tryz.underlying97 h hw
 match ds,hl with
 | [d0,d1],_=>
  obtain ⟨r0,w0⟩:=hf 0 _ d0 rfl rfl;obtain ⟨r1,w1⟩:=hf 1 _ d1 rfl rfl;obtain ⟨z,_,_,e0⟩:=ce2 Tryz.underlying3 r0;obtain ⟨l,k1,k2,e1⟩:=fq1 r1 w1;refine ⟨⟨z,l⟩,⟨k1,k2⟩,fun m hm=>?_⟩
  cases m with
  | zero=>omega
  | succ m=>
   simp only[dv,Tryz.underlying97,List.map_cons,List.map_nil,dvF,e0 m (by omega),e1 m (by omega),List.length_cons,List.length_nil,ia5,ib5,gq1,List.cons_append,List.nil_append,List.append_nil,Nat.reduceAdd,↓reduceIte];rfl
theorem gi1 {n:Nat}{d:DataW H}(h:Rd enc w base sp held n 22 d)(hw:WT Tryz.prog 22 d):∃ l:List al2,l.length<2^62∧(∀ a∈l,al2.Ok a)∧∀ m,n≤m→dv Tryz.prog m 22 d=some [.aa3 (l.map al2.cs)]:=
 bc4 al2.cs al2.Ok Tryz.underlying22 gq1 (by decide) (by decide +kernel) (fun _=>rfl) (fun _ _ _ hr hw'=>ha9 hr hw') h hw
end Go.Id.Tryz
set_option linter.all false
namespace Go.Id
open Go Go.Id
mutual
def isz:IV→Nat
 | .str s=>s.length+1
 | .aa3 es=>ce8 es+1
 | _=>1
def bb5:List IV→Nat
 | []=>0
 | c::cs=>isz c+bb5 cs
def ce8:List (List IV)→Nat
 | []=>0
 | e::es=>bb5 e+ce8 es
end
theorem eb6 (a b:List IV):bb5 (a++b)=bb5 a+bb5 b:=by
 induction a with
 | nil=>simp[bb5]
 | cons x a ih=>simp only[List.cons_append,bb5,ih]; omega
theorem bu3 {α:Type}(f:α→List IV):∀ (l:List α),∀ a∈l,bb5 (f a)≤ce8 (l.map f):=by
 intro l
 induction l with
 | nil=>intro a h; cases h
 | cons x l ih=>
  intro a h;simp only[List.map_cons,ce8];rcases List.mem_cons.1 h with rfl|h
  ·omega
  ·have:=ih a h; omega
theorem ar4 {α:Type}(f:α→List IV)(hf:∀ a,1≤bb5 (f a)):∀ (l:List α),l.length≤ce8 (l.map f):=by
 intro l
 induction l with
 | nil=>simp
 | cons x l ih=>
  simp only[List.map_cons,ce8,List.length_cons];have:=hf x;omega
namespace Md
theorem Dep.szs (d:Dep):bb5 d.cs=d.name.length+d.evr.ver.length+d.evr.rel.length+5:=by
 simp only[Dep.cs,bb5,isz]; omega
theorem ab1.szs (r:ab1):bb5 r.cs=r.dep.name.length+r.dep.evr.ver.length+r.dep.evr.rel.length+ce8 (r.args.map ab1.cs)+7:=by
 rw[ab1.as9]; simp only[bb5,isz]; omega
theorem aa4.szs (p:aa4):bb5 p.cs=p.name.length+p.evr.ver.length+p.evr.rel.length+p.vendor.length+ce8 (p.provides.map Dep.cs)+ce8 (p.requires.map ab1.cs)+ce8 (p.conflicts.map ab1.cs)+ce8 (p.ab7.map Dep.cs)+ce8 (p.ac1.map ab1.cs)+ce8 (p.ab8.map ab1.cs)+ce8 (p.suggests.map ab1.cs)+ce8 (p.ad2.map ab1.cs)+ce8 (p.files.map bm5)+15:=by
 simp only[aa4.cs,bb5,isz]; omega
theorem al2.szs (r:al2):bb5 r.cs=ce8 (r.packages.map aa4.cs)+2:=by
 simp only[al2.cs,bb5,isz]; omega
theorem ez7 (r:ab1):r.count≤bb5 r.cs:=by
 induction r using ab1.ind with
 | h k d xs ih=>
  rw[ab1.szs]
  have:∀ ys:List ab1,(∀ y∈ys,y∈xs)→ab1.counts ys≤ce8 (ys.map ab1.cs):=by
   intro ys
   induction ys with
   | nil=>intro _; simp[ab1.counts]
   | cons y ys ih2=>
    intro h;have h1:=ih y (h y (List.mem_cons_self ..));have h2:=ih2 fun z hz=>h z (List.mem_cons_of_mem _ hz)
    simp only[ab1.counts,List.map_cons,ce8];omega
  have:=this xs fun y h=>h
  simp only[ab1.count,ab1.args];omega
theorem gl6 (r:ab1):r.ok→bb5 r.cs<2^31→r.fit:=by
 induction r using ab1.ind with
 | h k d xs ih=>
  intro ho hs;obtain ⟨a,b,c,e,f⟩:=ab1.ge4.1 ho;rw[ab1.szs] at hs;simp only[ab1.args] at hs;have hl:=ar4 ab1.cs (fun r=>by rw[ab1.szs]; omega) xs;refine ab1.cn1.2 ⟨a,b,c,by omega,fun r hr=>ih r hr (f r hr) ?_⟩;have:=bu3 ab1.cs xs r hr;omega
theorem fu8 {p:aa4}(h:p.Ok)(hs:bb5 p.cs<2^31):p.Fit:=by
 rw[aa4.szs] at hs;have l1:=ar4 Dep.cs (fun r=>by rw[Dep.szs]; omega) p.provides;have l2:=ar4 Dep.cs (fun r=>by rw[Dep.szs]; omega) p.ab7;have l3:=ar4 bm5 (fun r=>by simp only[bm5,bb5,isz]; omega) p.files
 have hr:∀ x∈p.rows,ce8 (x.2.map ab1.cs)<2^31:=by
  intro x hx;simp only[aa4.rows,List.mem_cons,List.not_mem_nil,or_false] at hx;rcases hx with rfl|rfl|rfl|rfl|rfl|rfl<;>simp only[]<;>omega
 exact {
  name:=h.name
  evr:=h.evr
  bp3:=⟨by omega,h.bp3.2⟩
  obs:=⟨by omega,h.obs.2⟩
  files:=⟨by omega,h.files.2⟩
  rich:=fun x hx=>by
   have h1:=hr x hx;have h2:=ar4 ab1.cs (fun r=>by rw[ab1.szs]; omega) x.2;refine ⟨by omega,fun r hr'=>?_⟩;have h3:=bu3 ab1.cs x.2 r hr';have h4:=ez7 r;exact ⟨gl6 r ((h.rich x hx).2 r hr') (by omega),by omega⟩ }
theorem fu9 (ab9:List al2):al4 ab9≤ce8 (ab9.map al2.cs):=by
 induction ab9 with
 | nil=>simp[al4]
 | cons r rs ih=>
  have h2:=ar4 aa4.cs (fun r=>by rw[aa4.szs]; omega) r.packages;have h3:=al2.szs r;simp only[al4,List.map_cons,List.sum_cons,ce8] at ih ⊢;omega
end Md
end Go.Id
set_option linter.all false
namespace Go.Id.Tryz
open Go Go.Id Go.Proofs Go.Id.Md
open Go.Proofs.YteomphdgniepbaaGreatDoor
set_option maxRecDepth 100000
variable {H:Type} {enc:TypeId×Value→H} {w:World} {base:Nat} {sp:Nat→Bool} {held:Bool}
theorem gk1 (d:DataW H):1≤Rows.uptoBulk d:=by
 cases d with
 | lit l=>cases l<;>simp[Rows.uptoBulk]
 | _=>simp[Rows.uptoBulk]
theorem gk2 {r:DataW H→Option (List IV)}{c:Nat}(hr:∀ d cs,r d=some cs→bb5 cs≤Rows.uptoBulk d):∀ (ds:List (DataW H)) es,dvS r c ds=some es→ce8 es≤Rows.uptoBulkAll ds:=by
 intro ds
 induction ds with
 | nil=>intro es h; cases h; simp[ce8]
 | cons d ds ih=>
  intro es h;simp only[dvS] at h;split at h
  ·rename_i a ha;split at h
   ·split at h
    ·rename_i b hb;cases h;have h1:=hr d a ha;have h2:=ih b hb;simp only[ce8,Rows.uptoBulkAll];omega
    ·cases h
   ·cases h
  ·cases h
theorem eh3 {r:TypeId→DataW H→Option (List IV)}{P:Program}(hr:∀ t d cs,r t d=some cs→bb5 cs≤Rows.uptoBulk d):∀ (fs:List (TypeId×Nat)) (ds:List (DataW H)) (off:Nat) es,dvF r P fs ds off=some es→bb5 es≤Rows.uptoBulkAll ds:=by
 intro fs
 induction fs with
 | nil=>
  intro ds off es h
  cases ds with
  | nil=>cases h; simp[bb5]
  | cons d ds=>simp[dvF] at h
 | cons f fs ih=>
  intro ds off es h
  cases ds with
  | nil=>simp[dvF] at h
  | cons d ds=>
   simp only[dvF] at h;split at h
   ·split at h
    ·rename_i a ha;split at h
     ·split at h
      ·rename_i b hb;cases h;have h1:=hr _ d a ha;have h2:=ih ds _ b hb;simp only[eb6,Rows.uptoBulkAll];omega
      ·cases h
     ·cases h
    ·cases h
   ·cases h
theorem dj1 {P:Program}:∀ (m:Nat) (t:TypeId) (d:DataW H) cs,dv P m t d=some cs→bb5 cs≤Rows.uptoBulk d:=by
 intro m
 induction m with
 | zero=>intro t d cs h; simp[dv] at h
 | succ m ih=>
  intro t d cs h;have h1:=gk1 d;simp only[dv] at h;split at h
  ·cases h; simpa [bb5,isz] using h1
  ·cases h; simpa [bb5,isz] using h1
  ·cases h; simp[bb5,isz,Rows.uptoBulk]
  ·cases h; simpa [bb5,isz] using h1
  ·split at h
   ·cases h; simpa [bb5,isz] using h1
   ·cases h
  ·cases h; simpa [bb5,isz,ce8] using h1
  ·split at h
   ·cases h
   ·split at h
    ·rename_i es he;cases h;have:=gk2 (ih _) _ _ he;simp only[bb5,isz,Rows.uptoBulk];omega
    ·cases h
  ·split at h
   ·rename_i ivs he;split at h
    ·cases h;have:=eh3 (fun t d cs=>ih t d cs) _ _ _ _ he;simp only[Rows.uptoBulk];omega
    ·cases h
   ·cases h
  ·split at h
   ·rename_i ivs he;split at h
    ·cases h;have:=eh3 (fun t d cs=>ih t d cs) _ _ _ _ he;simp only[Rows.uptoBulk];omega
    ·cases h
   ·cases h
  ·split at h
   ·split at h
    ·cases h; simpa [bb5,isz] using h1
    ·cases h
   ·cases h
  ·cases h
theorem io8 {ab9:List al2}{inst:List aa4}(h1:∀ r∈ab9,al2.Ok r)(h2:∀ p∈inst,p.Ok)(b1:bb5 [IV.aa3 (ab9.map al2.cs)]≤1048576)(b2:bb5 [IV.aa3 (inst.map aa4.cs)]≤1048576):hd8 ab9 inst:=by
 simp only[bb5,isz] at b1 b2;have l1:=ar4 al2.cs (fun r=>by rw[al2.szs]; omega) ab9;have l2:=ar4 aa4.cs (fun r=>by rw[aa4.szs]; omega) inst;have l3:=fu9 ab9;refine ⟨by omega,by omega,by omega,fun r hr=>?_,fun p hp=>?_,h1,h2⟩
 ·have m1:=bu3 al2.cs ab9 r hr;rw[al2.szs] at m1;have l4:=ar4 aa4.cs (fun r=>by rw[aa4.szs]; omega) r.packages;refine ⟨by omega,fun p hp=>fu8 ((h1 r hr).2 p hp) ?_⟩;have:=bu3 aa4.cs r.packages p hp;omega
 ·have:=bu3 aa4.cs inst p hp;exact fu8 (h2 p hp) (by omega)
end Go.Id.Tryz
set_option linter.all false
namespace Go.Id.Tryz
open Go Go.Id Go.Proofs Go.Shelf Go.Id.Md
set_option maxRecDepth 100000
open Go Go.Id Go.Proofs Go.Id.Md
variable {H:Type} {enc:TypeId×Value→H} {w:World} {base:Nat} {sp:Nat→Bool} {held:Bool}
theorem ic5 {n:Nat}{d:DataW H}(h:Rd enc w base sp held n 3 d)(hw:WT Tryz.prog 3 d):∃ z:Int,∀ m,n≤m→dv Tryz.prog m 3 d=some [.int .i64 z]:=by
 obtain ⟨z,_,_,e⟩:=ce2 Tryz.underlying3 h;exact ⟨z,e⟩
end Go.Id.Tryz
set_option linter.all false
namespace Go.Id.Tryz
open Go Go.Id Go.Proofs Go.Id.Md
set_option maxRecDepth 100000
open Go Go.Id Go.Proofs Go.Shelf Go.Id.Md
theorem ft2 {d:Dep}(h:am5 d=true):Dep.small d:=by
 obtain ⟨h1,h2,h3,h4⟩:=dg7 h;exact ⟨h1,h2,by have:=h3.1; omega,by have:=h3.2; omega⟩
theorem ic6 (d:Dep)(xs:List ab1)(k:Int):((ab1.mk k d xs).cs.drop 1).take 5=d.cs:=by rw[ab1.as9]; rfl
theorem gq4 (d:Dep)(xs:List ab1)(k:Int):((ab1.mk k d xs).cs.drop 1).length=6:=by rw[ab1.as9]; rfl
theorem gq5 (d:Dep)(xs:List ab1)(k:Int):(ab1.mk k d xs).cs.head? = some (.int .u8 k):=by rw[ab1.as9]; rfl
theorem eh4 (l:List Dep):∀ x∈l.map Dep.cs,x.length=5∧x.all IV.leaf=true:=fun x hx=>by
 obtain ⟨d,_,rfl⟩:=List.mem_map.1 hx; exact ⟨rfl,rfl⟩
theorem gk3 (d:Dep):∀ c∈d.cs,Bnd 0 c:=fun c hc=>by
 simp only[Dep.cs,List.mem_cons,List.not_mem_nil,or_false] at hc;rcases hc with rfl|rfl|rfl|rfl|rfl
 ·exact .str _
 ·exact .int _ _
 ·exact .int _ _
 ·exact .str _
 ·exact .str _
def cg3 (p:ab1×Bool):Option Dep:=if p.1.kind=1 then some p.1.dep else none
theorem gk4 (r:ab1)(hf:r.fit)(hc:r.count<2^30):PC Tryz.prog EE 136 [.agg r.cs] (.aa3 (r.atoms.map Dep.cs)):=by
 refine aq8 hE fok136 (nZ rfl) (ai7 (ba9 _)) ?_;simp only[ic136,go_sem,af1,aj3,ad3];refine ad1 fok213 (dz7 r _) ?_;rintro v s1 ⟨rfl,hb,hn,hs⟩;refine ⟨hn,?_⟩;simp only[go_sem] at hn hs hb ⊢;have h0:s1.obj 0=some (.cells [.aa1]):=by rw[hs 0 (by omega)]; rfl
 have hb1:=hb.1;refine bv6 (cc8 r hf 1) (fun rest t=>boxed 1 t∧∃ (ps rs:List (ab1×Bool)) (v:IV),rest=rs.map row∧ps++rs=r.parts false∧t.obj 0=some (.cells [v])∧s1.next<t.next∧Grow t v 5 ((ps.filterMap cg3).map Dep.cs)∧∀ id k,v=.slice id 0 k 5→s1.next<id) (fun _ _ h=>h.1) ?_ dh8 ?_ ?_ ?_
 ·rintro rest t t' ⟨⟨q1,q2⟩,ps,rs,v,h1,h2,h3,h4,h5,h6⟩ hn' hs';exact ⟨⟨by omega,by rw[hs' 1 q1]; exact q2⟩,ps,rs,v,h1,h2,by rw[hs' 0 (by omega)]; exact h3,by omega,h5.mono hn' fun id _ hid=>hs' id hid,h6⟩
 ·intro o;have e0:¬ 0=s1.next:=by omega
  have e1:¬ 1=s1.next:=by omega
  refine ⟨⟨by show 1<s1.next+1; omega,by simp only[aa2,e1,if_false]; exact hb.2⟩,[],r.parts false,.aa1,rfl,rfl,by simp only[aa2,e0,if_false]; exact h0,Nat.lt_succ_self _,.inl ⟨rfl,rfl⟩,fun id k h=>by cases h⟩
 ·rintro L pre a rest t hev ⟨⟨q1,q2⟩,ps,rs,v,h1,h2,h3,h4,h5,h6⟩ hL hlt
  cases rs with
  | nil=>cases h1
  | cons p rs=>
  rw[List.map_cons] at h1;obtain ⟨ha,hrest⟩:=List.cons.inj h1;subst ha;obtain ⟨⟨k,d,xs⟩,al⟩:=p;simp only[row,aa8] at hL hlt ⊢;have e1:¬ s1.next=t.next:=by omega
  have e2:¬ 0=t.next:=by omega
  have e3:¬ s1.next=0:=by omega
  have e4:¬ 0=s1.next:=by omega
  have e5:¬ 1=t.next:=by omega
  have e6:¬ 1=s1.next:=by omega
  have e7:¬ t.next=s1.next:=by omega
  have e8:¬ t.next=0:=by omega
  have e9:¬ 0=1:=by omega
  simp only[go_sem,hL,e1,e2,e3,e4,e5,e6,e7,e8,ad3,aj3,af1,gq5,ic6,gq4,h3];generalize hU:Store.mk (t.next+1) _=U;have un:U.next=t.next+1:=by rw[← hU]
  have uL:U.obj s1.next=some (L .busy none):=by rw[← hU]; simp only[aa2,if_true]
  have uo:∀ i,i<t.next→i≠s1.next→U.obj i=t.obj i:=fun i hi hne=>by
   have:¬ i=t.next:=by omega
   rw[← hU]; simp only[aa2,hne,this,if_false]
  have u0:=uo 0 (by omega) e4;rw[h3] at u0;have ub:U.obj t.next=some (.cells (ab1.mk k d xs).cs):=by rw[← hU]; simp only[aa2,e7,if_false,if_true]
  have hg:Grow U v 5 ((ps.filterMap cg3).map Dep.cs):=h5.mono (by omega) fun id hv hid=>uo id hid (by have:=h6 _ _ hv; omega)
  have hcnt:ps.length+(rs.length+1)=r.count:=by
   have:=congrArg List.length h2;rw[List.length_append,List.length_cons,ab1.co8] at this;exact this
  have hpl:(ps.filterMap cg3).length<2^30:=by
   have:=List.length_filterMap_le cg3 ps;omega
  have hbx:1<U.next∧U.obj 1=some (.cells [.func (.func 278) [] [.ptr 1 0]]):=⟨by omega,by rw[uo 1 q1 e6]; exact q2⟩;by_cases hk:k=1
  ·have hat:cg3 (ab1.mk k d xs,al)=some d:=by unfold cg3; rw[if_pos]; rfl; exact hk
   have hap:=am2 (nid:=U.next) (e:=d.cs) (σ:=⟨U.next+1,U.obj⟩) (hg.mono (Nat.le_succ _) fun _ _ _=>rfl) (eh4 _) ⟨rfl,rfl⟩ (by rw[List.length_map]; omega);have k0:=ag1 hg 0 (.cells [v]) u0 (fun _ h=>by cases h)
   have kL:(ah2 v ⟨U.next+1,U.obj⟩).obj s1.next=some (L .busy none):=by
    cases hv:v<;>try exact uL
    rename_i id o n' e;show (if s1.next=id then none else U.obj _)=_;rcases hg with ⟨h,_⟩|⟨id',h,_,_⟩
    ·rw[h] at hv; cases hv
    ·rw[hv] at h; cases h;have:=h6 _ _ hv;rw[if_neg (by omega)]; exact uL
   have k0':=ag1 (hg.mono (Nat.le_succ _) fun _ _ _=>rfl:Grow ⟨U.next+1,U.obj⟩ v 5 _) 0 (.cells [v]) u0 (fun _ h=>by cases h);have k1:=ag1 (hg.mono (Nat.le_succ _) fun _ _ _=>rfl:Grow ⟨U.next+1,U.obj⟩ v 5 _) 1 _ hbx.2 (fun _ h=>by cases h);have kn:=ae1 (σ:=⟨U.next+1,U.obj⟩) v;have x1:¬ 0=U.next:=by omega
   have x2:¬ s1.next=U.next:=by omega
   have x3:¬ 1=U.next:=by omega
   have x4:¬ U.next=s1.next:=by omega
   have x5:¬ U.next=0:=by omega
   have x6:¬ 1=0:=by omega
   rw[List.length_map] at hap;simp only[go_sem,hk,u0,ub,gq5,ic6,gq4,ay4,at1,ar1,hap,k0',kL,x1,x2,e3,e4];refine cr3 (by simp only[aa8,kn]; omega) (by simp only[aa2,if_true]) ⟨⟨?_,?_⟩,ps++[(ab1.mk k d xs,al)],rs,.slice U.next 0 ((ps.filterMap cg3).length+1) 5,hrest,by rw[List.append_assoc]; exact h2,?_,?_,?_,fun id k h=>?_⟩
   ·simp only[aa8,kn]; omega
   ·simp only[aa2,x3,x6,e6,if_false]; exact k1
   ·simp only[aa2,e4,if_false,if_true]
   ·simp only[aa8,kn]; omega
   ·rw[List.filterMap_append];simp only[List.filterMap_cons,hat,List.filterMap_nil];rw[List.map_append];refine .inr ⟨U.next,by simp,?_,by simp only[aa8,kn]; omega⟩;simp only[aa2,x4,x5,if_false,if_true]; rfl
   ·cases h; omega
  ·have hat:cg3 (ab1.mk k d xs,al)=none:=by unfold cg3; rw[if_neg]; exact hk
   simp only[go_sem,hk,uL];refine cr3 (by rw[aa8,un]; omega) (by simp only[aa2,if_true]) ⟨⟨by rw[aa8]; exact hbx.1,by rw[aa2,if_neg e6]; exact hbx.2⟩,ps++[(ab1.mk k d xs,al)],rs,v,hrest,by rw[List.append_assoc]; exact h2,by rw[aa2,if_neg e4]; exact u0,by rw[aa8,un]; omega,?_,h6⟩;rw[List.filterMap_append];simp only[List.filterMap_cons,hat,List.filterMap_nil,List.append_nil];exact hg.mono (Nat.le_refl _) fun id hv _=>by rw[aa2,if_neg (by have:=h6 _ _ hv; omega)]
 ·rintro t o ⟨⟨q1,q2⟩,ps,rs,v,h1,h2,h3,h4,h5,h6⟩ hlt ho
  cases rs with
  | cons k rs=>cases h1
  | nil=>
  have e0:¬ 0=s1.next:=by omega
  rw[List.append_nil] at h2;have hat:r.atoms=ps.filterMap cg3:=by unfold ab1.atoms; rw[← h2]; rfl
  simp only[go_sem,e0,h3];rw[hat]
  have hg:Grow { next:=t.next,obj:=(t.kill s1.next).obj } v 5 ((ps.filterMap cg3).map Dep.cs):=h5.mono (Nat.le_refl _) fun id hv hid=>by
   have:=h6 _ _ hv;show (if id=s1.next then none else t.obj id)=_;rw[if_neg (by omega)]
  exact hg.frz (fun e he=>(eh4 _ e he).1) (fun _ _=>Nat.not_lt_zero _) fun e he c hc=>by
   obtain ⟨x,_,rfl⟩:=List.mem_map.1 he;exact gk3 x c hc
theorem ey6 {r:ab1}{wh:Int}(h:aq5 r wh=0):r.count≤24∧∀ d∈r.atoms,am5 d=true:=by
 unfold aq5 at h;split at h
 ·cases h
 split at h
 ·cases h
 split at h
 ·cases h
 split at h
 case isFalse=>cases h
 rename_i hc _ hp;refine ⟨by omega,fun d hd=>?_⟩;unfold ab1.atoms at hd;obtain ⟨p,hp1,hp2⟩:=List.mem_filterMap.1 hd;have:=List.all_eq_true.1 hp p hp1;split at hp2
 ·rename_i hk;cases hp2;unfold ah7 at this;simp only[Bool.and_eq_true] at this;have h3:=this.2;rw[if_pos hk] at h3;exact h3
 ·cases hp2
theorem ft3 (r:ab1):r.atoms.length≤r.count:=by
 have:=List.length_filterMap_le cg3 (r.parts false);rw[ab1.co8] at this;exact this
end Go.Id.Tryz
set_option linter.all false
namespace Go.Id.Tryz
open Go Go.Id Go.Proofs Go.Shelf Go.Id.Md
set_option maxRecDepth 100000
structure PF (u:Store) (m ga:Nat) (F C0:List IV) (Tv iv av:IV) (zs:List Int) (D:List Dep):Prop where
 nx:m+1<u.next
 gm:0<ga∧ga<m
 o0:u.obj 0=some (.cells C0)
 oF:u.obj ga=some (.row F)
 o8:u.obj m=some (.cells [Tv])
 o10:u.obj (m+1)=some (.cells [iv])
 hi:ak2 u (m+2) iv zs
 ha:Grow u av 5 (D.map Dep.cs)
 la:∀ id k,av=.slice id 0 k 5→m+1<id
 ne:∀ i j k k',iv=.slice i 0 k 1→av=.slice j 0 k' 5→i≠j
variable {u u':Store} {m ga:Nat} {F C0:List IV} {Tv iv av:IV} {zs:List Int} {D:List Dep}
theorem PF.mono (h:PF u m ga F C0 Tv iv av zs D)(hn:u.next≤u'.next)(ho:∀ i,i<u.next→u'.obj i=u.obj i):PF u' m ga F C0 Tv iv av zs D where
 nx:=Nat.lt_of_lt_of_le h.nx hn
 gm:=h.gm
 o0:=by rw[ho _ (by have:=h.nx; omega)]; exact h.o0
 oF:=by rw[ho _ (by have:=h.nx; have:=h.gm; omega)]; exact h.oF
 o8:=by rw[ho _ (by have:=h.nx; omega)]; exact h.o8
 o10:=by rw[ho _ h.nx]; exact h.o10
 hi:=h.hi.kept ⟨hn,ho⟩
 ha:=h.ha.mono hn fun id _ hid=>ho id hid
 la:=h.la
 ne:=h.ne
theorem ft4 {s:Store}{v:IV}{esz nid:Nat}{es xs:List (List IV)}(hg:Grow s v esz es)(h:∀ x∈es,x.length=esz∧x.all IV.leaf=true)(hx:∀ x∈xs,x.length=esz∧x.all IV.leaf=true)(hn:es.length+xs.length≤2147483648) :
  (xs=[]∧be2 s nid esz v (.aa3 xs)=some (v,s))∨be2 s nid esz v (.aa3 xs)=some (.slice nid 0 (es.length+xs.length) esz,(ah2 v s).put nid (.row (es++xs).flatten)):=by
 have hsrc:bg9 s esz (.aa3 xs)=some (xs.length,xs.flatten):=by
  have h1:xs.all (fun e=>e.length==esz)=true:=List.all_eq_true.2 fun x hm=>by rw[(hx x hm).1]; simp
  simp only[bg9,h1,if_true]
 have hl:xs.flatten.all IV.leaf=true:=bf1 fun x hm=>(hx x hm).2
 have hl2:es.flatten.all IV.leaf=true:=bf1 fun x hm=>(h x hm).2
 have hfl:es.flatten.length=es.length*esz:=ao8 fun x hm=>(h x hm).1
 have hn2:xs.length≤2147483648:=by omega
 by_cases h0:xs.length=0
 ·have hxe:xs=[]:=List.length_eq_zero_iff.1 h0;subst hxe;refine .inl ⟨rfl,?_⟩;unfold be2;rw[hsrc];rcases hg with ⟨rfl,rfl⟩|⟨id,rfl,ho,hid⟩
  ·simp
  ·simp[ho]
 ·refine .inr ?_;unfold be2;rw[hsrc];rcases hg with ⟨rfl,rfl⟩|⟨id,rfl,ho,hid⟩
  ·simp[hl,h0,hn2,ah2]
  ·simp[hl,ho,h0,hfl,hl2,hn,ah2]
theorem ic7 {s:Store}{S:Nat→Prop}{fn:Fn}{cap cap':List IV}(h:fv3 s S cap cap'):Frz s S (.func fn [] cap) (.func fn [] cap'):=.func fn [] [] cap cap' rfl h.at.1 (fun i h=>absurd h (Nat.not_lt_zero _)) h.at.2
theorem ds4 {v:IV}(h:Bnd 0 v):Bnd 0 (.ac7 [v]):=.ac7 _ (gc8 h)
/-! ### What is the same -/
open Go Go.Id Go.Proofs
section
variable {α:Type} [Inhabited α] (emb:α→Int)
def ey8 (d:Array α):List IV:=d.toList.map fun x=>.int .i64 (emb x)
theorem at7 (d:Array α):(ey8 emb d).length=d.size:=by simp[ey8]
theorem he3 {d:Array α}{k:Nat}(h:k<d.size):((ey8 emb d).drop k).head? = some (.int .i64 (emb d[k]!)):=by
 simp[ey8,List.head?_drop,h]
theorem eh5 {d:Array α}{i:Nat}(h:i<(ey8 emb d).length):(ey8 emb d)[i]=.int .i64 (emb (d[i]'(by rw[at7] at h; exact h))):=by simp[ey8]
theorem gk5 {d:Array α}{k:Nat}(h:k<d.size)(x:α):an4 (ey8 emb d) k [.int .i64 (emb x)]=ey8 emb (d.setIfInBounds k x):=by
 refine List.ext_getElem (by rw[ae2 (by rw[at7]; simp only[List.length_singleton]; omega),at7,at7,Array.size_setIfInBounds]) fun i h1 h2=>?_
 have h3:i<d.size:=by rw[at7,Array.size_setIfInBounds] at h2; exact h2
 have e0:(ey8 emb (d.setIfInBounds k x))[i]=.int .i64 (emb (if k=i then x else d[i])):=by
  rw[eh5]; congr 2; exact Array.getElem_setIfInBounds ..
 rw[e0];unfold an4;simp only[List.getElem_append,List.length_take,at7,List.getElem_take,List.getElem_drop,List.length_append,List.length_singleton,eh5];by_cases e:i=k
 ·subst e;have g1:¬ i<min i d.size:=by omega
  have g2:i<min i d.size+1:=by omega
  simp only[g1,g2,dite_false,dite_true,if_true,List.getElem_singleton]
 ·have e':¬ k=i:=fun h=>e h.symm
  by_cases e2:i<k
  ·have g1:i<min k d.size:=by omega
   have g2:i<min k d.size+1:=by omega
   simp only[g1,g2,dite_true,e',if_false]
  ·have g1:¬ i<min k d.size:=by omega
   have g2:¬ i<min k d.size+1:=by omega
   have g3:k+1+(i-(min k d.size+1))=i:=by omega
   simp only[g2,g3,dite_false,e',if_false]
theorem gk6 {a t vs:List IV}{k:Nat}(h:k+vs.length≤a.length):an4 (a++t) k vs=an4 a k vs++t:=by
 unfold an4;rw[List.take_append_of_le_length (by omega),List.drop_append_of_le_length h];simp only[List.append_assoc]
variable (tl:List IV)
def ay7 (d:Array α):List IV:=ey8 emb d++tl
theorem bm3 (d:Array α):(ay7 emb tl d).length=d.size+tl.length:=by rw[ay7,List.length_append,at7]
theorem ag7 {d:Array α}{k:Nat}(h:k<d.size):((ay7 emb tl d).drop k).head? = some (.int .i64 (emb d[k]!)):=by
 rw[ay7,List.drop_append_of_le_length (by rw[at7]; omega),List.head?_append,he3 emb h]; rfl
theorem eh6 {d:Array α}{k:Nat}(h:k<d.size)(x:α):an4 (ay7 emb tl d) k [.int .i64 (emb x)]=ay7 emb tl (d.setIfInBounds k x):=by
 rw[ay7,gk6 (by rw[at7,List.length_singleton]; omega),gk5 emb h,ay7]
theorem eh7 {d:Array α}{i j:Nat}(hi:i<d.size)(hj:j<d.size):an4 (an4 (ay7 emb tl d) i [.int .i64 (emb d[j]!)]) j [.int .i64 (emb d[i]!)]=ay7 emb tl (Go.Sort.swp d i j):=by
 rw[eh6 emb tl hi,eh6 emb tl (by rw[Array.size_setIfInBounds]; exact hj)]; rfl
theorem swp_size (d:Array α)(i j:Nat):(Go.Sort.swp d i j).size=d.size:=by simp[Go.Sort.swp]
structure SO (id:Nat) (d':Array α) (σ s:Store):Prop where
 next:σ.next≤s.next
 other:∀ i,i≠id→s.obj i=σ.obj i
 row:s.obj id=some (.row (ay7 emb tl d'))
variable {cf:α→α→Int} {g:Nat} {first cap:List IV} {id:Nat}
structure cd3 (cf:α→α→Int) (g:Nat) (first cap:List IV):Prop where
 ok:okF Tryz.prog g=true
 pc:∀ x y:α,PC Tryz.prog EE g (first++[.int .i64 (emb x),.int .i64 (emb y)]++cap) (.int .i64 (cf x y))
theorem ft5 (hC:cd3 emb cf g first cap){σ:Store}(d:Array α)(a b:Nat)(hab:a≤b)(hb:b≤d.size)(hz:d.size<2^40)(ho:σ.obj id=some (.row (ay7 emb tl d))) :
  C Tryz.prog EE 223 [.slice id 0 d.size 1,.int .i64 a,.int .i64 b,.func (.func g) first cap] σ fun v s=>v=.tuple []∧SO emb tl id (Go.Sort.insertionSort (ltOf cf) d a b) σ s:=by
 refine C_f fok223 (nZ rfl) ?_;have w0:=ad6 (i:=a) (by omega);simp only[ic223,go_sem,w0];refine ab6 noT (fun k fr t=>∃ dk:Array α,fr=[(0,.slice id 0 d.size 1),(1,.int .i64 a),(2,.int .i64 b),(3,.func (.func g) first cap),(8,.int .i64 ((a+1+k:Nat):Int))]∧SO emb tl id dk σ t∧dk.size=d.size∧Go.Sort.insOuter (ltOf cf) a b (a+1+k) dk=Go.Sort.insertionSort (ltOf cf) d a b) (b-(a+1)) ⟨d,rfl,⟨Nat.le_refl _,fun _ _=>rfl,ho⟩,rfl,rfl⟩ ?_;rintro k fr t hk ⟨dk,rfl,hS,hsz,hI⟩;by_cases hlt:a+1+k<b
 ·have c1:((a+1+k:Nat):Int)<b:=by omega
  have w1:=ad6 (i:=a+1+k) (by omega);rw[Go.Sort.insOuter,if_pos hlt] at hI;simp only[go_sem,c1];refine ab6 noT (fun m fr u=>∃ (j:Nat) (dj:Array α),fr=[(0,.slice id 0 d.size 1),(1,.int .i64 a),(2,.int .i64 b),(3,.func (.func g) first cap),(8,.int .i64 ((a+1+k:Nat):Int)),(9,.int .i64 (j:Int))]∧j+m=a+1+k∧SO emb tl id dj σ u∧dj.size=d.size∧Go.Sort.insInner (ltOf cf) a j dj=Go.Sort.insInner (ltOf cf) a (a+1+k) dk) (a+1+k) ⟨a+1+k,dk,rfl,rfl,?_,hsz,rfl⟩ ?_
  ·exact ⟨hS.next,hS.other,hS.row⟩
  rintro m fr u hm ⟨j,dj,rfl,hj,hSj,hszj,hIj⟩;by_cases hja:a<j
  ·obtain ⟨j',rfl⟩:∃ j',j=j'+1:=⟨j-1,by omega⟩;have d1:(a:Int)<((j'+1:Nat):Int):=by omega
   have d2:IntKind.i64.wrap (((j'+1:Nat):Int)-1)=(j':Int):=by rw[wrap64 (by omega) (by omega)]; omega
   have d3:(0:Int)≤((j'+1:Nat):Int):=by omega
   have d4:((j'+1:Nat):Int)<d.size:=by omega
   have d5:(0:Int)≤(j':Int):=by omega
   have d6:(j':Int)<d.size:=by omega
   have r1:=ag7 emb tl (d:=dj) (k:=j'+1) (by omega);have r2:=ag7 emb tl (d:=dj) (k:=j') (by omega);have hc:=hC.pc dj[j'+1]! dj[j']!;rw[Go.Sort.insInner] at hIj;have hgt:decide (j'+1>a)=true:=decide_eq_true hja;rw[hgt,Bool.true_and] at hIj;simp only[go_sem,d1,d2,d3,d4,d5,d6,hSj.row,r1,r2,Int.toNat_natCast,Nat.zero_add,Nat.mul_one];refine al3 hC.ok hc ?_;by_cases hcf:cf dj[j'+1]! dj[j']! < 0
   ·have hlt2:ltOf cf dj[j'+1]! dj[j']! = true:=decide_eq_true hcf;rw[if_pos hlt2] at hIj;have hsw:=eh7 emb tl (d:=dj) (i:=j'+1) (j:=j') (by omega) (by omega);have r3:j'+1+1≤(ay7 emb tl dj).length:=by rw[bm3]; omega
    have r4:j'+1≤(an4 (ay7 emb tl dj) (j'+1) [.int .i64 (emb dj[j']!)]).length:=by rw[ae2 (by rw[bm3]; simp only[List.length_singleton]; omega),bm3]; omega
    simp only[go_sem,hcf,d2,d3,d4,d5,d6,hSj.row,r1,r2,r3,r4,hsw,Int.toNat_natCast,Nat.zero_add,Nat.mul_one];refine ⟨by omega,j',Go.Sort.swp dj (j'+1) j',rfl,by omega,⟨?_,fun i hi=>?_,?_⟩,by rw[swp_size]; exact hszj,hIj⟩
    ·have:=hSj.next; simp only[aa8]; omega
    ·simp only[aa2,hi,if_false]; exact hSj.other i hi
    ·simp only[aa2,if_true]
   ·have hlt2:¬ ltOf cf dj[j'+1]! dj[j']! = true:=by unfold ltOf; simp[hcf]
    rw[if_neg hlt2] at hIj;simp only[go_sem,hcf,w1];refine ⟨by omega,dj,rfl,⟨?_,hSj.other,hSj.row⟩,hszj,?_⟩
    ·have:=hSj.next; show σ.next≤u.next+_; omega
    ·rw[← hI,← hIj];exact congrArg (fun n=>Go.Sort.insOuter (ltOf cf) a b n dj) (by omega)
  ·have d1:¬ (a:Int)<(j:Int):=by omega
   have hd:dj=Go.Sort.insInner (ltOf cf) a (a+1+k) dk:=by
    rw[← hIj]
    cases j with
    | zero=>rfl
    | succ j'=>
     rw[Go.Sort.insInner];have:decide (j'+1>a)=false:=decide_eq_false hja;rw[this]; rfl
   simp only[go_sem,d1,w1];refine ⟨by omega,dj,rfl,⟨?_,hSj.other,hSj.row⟩,hszj,?_⟩
   ·have:=hSj.next; show σ.next≤u.next+_; omega
   ·rw[← hI,hd];exact congrArg (fun n=>Go.Sort.insOuter (ltOf cf) a b n _) (by omega)
 ·have c1:¬ ((a+1+k:Nat):Int)<b:=by omega
  rw[Go.Sort.insOuter,if_neg hlt] at hI;simp only[go_sem,c1];rw[← hI];exact ⟨hS.next,hS.other,hS.row⟩
end
section
variable {α:Type} [Inhabited α] (emb:α→Int) (tl:List IV) {cf:α→α→Int} {g:Nat} {first cap:List IV} {id:Nat}
theorem SO.trans {d d':Array α}{σ s t:Store}(h:SO emb tl id d σ s)(h2:SO emb tl id d' s t):SO emb tl id d' σ t :=
 ⟨Nat.le_trans h.next h2.next,fun i hi=>by rw[h2.other i hi,h.other i hi],h2.row⟩
end
end Go.Id.Tryz
set_option linter.all false
namespace Go.Id.Tryz
open Go Go.Id Go.Proofs Go.Shelf Go.Id.Md
set_option maxRecDepth 100000
open Go Go.Id Go.Proofs Go.Id.Md
theorem cq1 {s:Store}(x:Str):df5 s 0 (.str x) (.str x):=.keep _ (.str _)
theorem dj2 {s:Store}(k:IntKind)(n:Int):df5 s 0 (.int k n) (.int k n):=.keep _ (.int _ _)
def gq6 (ab9:List al2)(inst:List aa4):Pool:=match ch7 ab9 inst with
 | .inl p=>p
 | .inr _=>⟨[],0,[]⟩
theorem he4 {ab9:List al2}{inst:List aa4}{p:Pool}(hn:ch7 ab9 inst=.inl p):∀ q∈bn4 p,ah3 q=true:=fun q hq=>(ee7 hn q hq).1
end Go.Id.Tryz
