/- Ranges that meet; who provides,names,aa9. Conditions: sizes that fit. -/
import Derived.Test.YtebfbbjghhagbaaGreatDoorTMQE
import Derived.Test.YtebfbbjghhagbaaGreatDoorFwZb
import Derived.Test.YtebfbbjghhagbaaGreatDoorTMPD
import Derived.Test.YtebfbbjghhagbaaGreatDoorMv
set_option linter.all false
namespace Go.Id.Tryz
open Go Go.Id Go.Proofs Go.Id.Md
set_option maxRecDepth 100000
def cy1 (a b:Int):Int:=IntKind.u8.wrap ((BitVec.ofInt 8 a &&& BitVec.ofInt 8 b).toNat:Int)
theorem bk6 (a b:Int):az8 .and (.int .u8 a) (.int .u8 b)=some (.int .u8 (cy1 a b)):=rfl
theorem ji7 {n:Nat}(h:n<256):IntKind.u8.wrap (n:Int)=n:=by
 simp[IntKind.wrap,IntKind.bits,IntKind.signed]; omega
theorem be4 (a b:Nat)(ha:a<256)(hb:b<256):cy1 a b=((a &&& b:Nat):Int):=by
 unfold cy1;rw[BitVec.toNat_and]
 have e:∀ n:Nat,n<256->(BitVec.ofInt 8 (n:Int)).toNat=n:=fun n hn=>by
  rw[BitVec.toNat_ofInt]; omega
 rw[e a ha,e b hb];exact ji7 (Nat.lt_of_le_of_lt Nat.and_le_left ha)
theorem and7:∀ a,a<256->((a &&& 7=0)↔a%8=0):=by decide +kernel
theorem gj4:∀ x,x<256->((x &&& 7=0)↔(x.testBit 0=false/\x.testBit 1=false/\x.testBit 2=false)):=by decide +kernel
theorem and1:∀ a,a<256->((a &&& 1=0)↔a.testBit 0=false):=by decide +kernel
theorem jb6:∀ a,a<256->((a &&& 4=0)↔a.testBit 2=false):=by decide +kernel
theorem gj5 (a b:Int):ay2 a b=-1\/ay2 a b=0\/ay2 a b=1:=by
 unfold ay2; split
 ·exact .inl rfl
 ·split
  ·exact .inr (.inl rfl)
  ·exact .inr (.inr rfl)
theorem iy4 (a b:Str):cu4 a b=-1\/cu4 a b=0\/cu4 a b=1:=by
 unfold cu4; split
 ·exact .inl rfl
 ·split
  ·exact .inr (.inl rfl)
  ·exact .inr (.inr rfl)
theorem gj6 (a b:Part):ag8 a b=-1\/ag8 a b=0\/ag8 a b=1:=by
 have h:∀ k n s:Int,(k=-1\/k=0\/k=1)->(n=-1\/n=0\/n=1)->(s=-1\/s=0\/s=1)->((if k≠0 then k else if n≠0 then n else s)=-1\/(if k≠0 then k else if n≠0 then n else s)=0\/(if k≠0 then k else if n≠0 then n else s)=1):=by
  intro k n s h1 h2 h3;rcases h1 with rfl|rfl|rfl<;>rcases h2 with rfl|rfl|rfl<;>simp<;>exact h3
 refine h (ay2 a.kind b.kind) (if a.kind=5/\b.kind=5 then ay2 a.s.length b.s.length else 0) (cu4 a.s b.s) (gj5 _ _) ?_ (iy4 _ _);split
 ·exact gj5 _ _
 ·exact .inr (.inl rfl)
theorem fp6:∀ (l m:List Part),ah1 l m=-1\/ah1 l m=0\/ah1 l m=1:=by
 intro l
 induction l with
 | nil=>intro m; exact .inr (.inl (by rw[ah1]; intros; contradiction))
 | cons a l ih=>
  intro m
  cases m with
  | nil=>exact .inr (.inl (by rw[ah1]; intros; contradiction))
  | cons b m=>
   rw[ah1];split
   ·exact gj6 a b
   ·exact ih m
theorem ew8 (a b:Str):ar4 a b=-1\/ar4 a b=0\/ar4 a b=1:=fp6 _ _
theorem he7 (a b:EVR):av8 a b=-1\/av8 a b=0\/av8 a b=1:=by
 unfold av8;split
 ·exact gj5 _ _
 ·split
  ·exact ew8 _ _
  ·split
   ·exact .inr (.inl rfl)
   ·exact ew8 _ _
def Dep.small (d:Dep):Prop:=0<=d.op/\d.op<256/\EVR.small d.evr
theorem aw4 (d:Dep):Bnd 0 (.agg d.cs):=.agg _ fun c hc=>by
 simp only[Dep.cs,List.mem_cons,List.not_mem_nil,or_false] at hc;rcases hc with rfl|rfl|rfl|rfl|rfl
 ·exact .str _
 ·exact .int _ _
 ·exact .int _ _
 ·exact .str _
 ·exact .str _
theorem eo4 (a b:Dep)(ha:Dep.small a)(hb:Dep.small b):PC Tryz.prog EE 238 [.agg a.cs,.agg b.cs] (.bool (meet a b)):=by
 refine ae9 hE fok238 (nZ rfl) (ao7 (aw4 a) (aw4 b)) ?_;obtain ⟨a1,a2,a3⟩:=ha;obtain ⟨b1,b2,b3⟩:=hb;have hc:=bj6 a.evr b.evr a3 b3;have h3:=he7 a.evr b.evr;unfold meet;generalize av8 a.evr b.evr=n at hc h3;simp only[EVR.cs] at hc;obtain ⟨x,hx⟩:∃ x:Nat,a.op=x:=⟨a.op.toNat,by omega⟩;obtain ⟨y,hy⟩:∃ y:Nat,b.op=y:=⟨b.op.toNat,by omega⟩;have hx2:x<256:=by omega
 have hy2:y<256:=by omega
 have ex7:cy1 x 7=((x &&& 7:Nat):Int):=be4 x 7 hx2 (by omega);have ey7:cy1 y 7=((y &&& 7:Nat):Int):=be4 y 7 hy2 (by omega);rw[hx,hy,Int.toNat_natCast,Int.toNat_natCast];by_cases hx0:x%8=0
 ·have q:=(and7 x hx2).2 hx0;rw[q] at ex7;have q':cy1 x 7=0:=ex7;simp only[ic238,go_sem,Dep.cs,hx,hy,bk6,q',hx0,true_or];exact ab3 _
 ·have q:¬ (x &&& 7=0):=fun e=>hx0 ((and7 x hx2).1 e)
  have q':¬ cy1 x 7=0:=by rw[ex7]; omega
  by_cases hy0:y%8=0
  ·have r:=(and7 y hy2).2 hy0;rw[r] at ey7;have r':cy1 y 7=0:=ey7;simp only[ic238,go_sem,Dep.cs,hx,hy,bk6,q',r',hy0,or_true];exact ab3 _
  ·have r:¬ (y &&& 7=0):=fun e=>hy0 ((and7 y hy2).1 e)
   have r':¬ cy1 y 7=0:=by rw[ey7]; omega
   simp only[ic238,go_sem,Dep.cs,hx,hy,bk6,q',r',hx0,hy0,or_self];refine aa4 fok68 hc ?_;have exy:cy1 x y=((x &&& y:Nat):Int):=be4 x y hx2 hy2;have hxy:x &&& y<256:=Nat.lt_of_le_of_lt Nat.and_le_left hx2;have exy7:cy1 ((x &&& y:Nat):Int) 7=((x &&& y &&& 7:Nat):Int):=be4 _ 7 hxy (by omega);have s1:=gi4 1 (.inr (.inr rfl));have s2:=gi4 (-1) (.inl rfl);have n1:¬ ((1:Int)<0):=by decide
   have n2:¬ ((1:Int)=0):=by decide
   have n3:((-1:Int)<0):=by decide
   rw[if_neg n1,if_neg n2] at s1;rw[if_pos n3] at s2;have x1:cy1 x 1=((x &&& 1:Nat):Int):=be4 x 1 hx2 (by omega);have x4:cy1 x 4=((x &&& 4:Nat):Int):=be4 x 4 hx2 (by omega);have y1:cy1 y 1=((y &&& 1:Nat):Int):=be4 y 1 hy2 (by omega);have y4:cy1 y 4=((y &&& 4:Nat):Int):=be4 y 4 hy2 (by omega);have w1:IntKind.i64.wrap (0 - -1)=1:=by decide
   have w2:IntKind.i64.wrap (0-1)=-1:=by decide
   have bt:∀ (k i:Nat),bit (k:Int) i=k.testBit i:=fun k i=>by unfold bit; rw[Int.toNat_natCast]
   have z0:∀ k:Nat,((k:Int)=0)↔k=0:=fun k=>by omega
   rcases h3 with rfl|rfl|rfl
   ·have g1:side (- -1)=2:=by decide
    have g2:side (-1)=0:=by decide
    have m0:¬ ((-1:Int)=0):=by decide
    simp only[go_sem,m0,w1,g1,g2,bt];refine aa2 s1 ?_
    cases hb:x.testBit 2 with
    | true=>
     have e:¬ cy1 x 4=0:=by rw[x4,z0,jb6 x hx2,hb]; simp
     simp only[go_sem,bk6,e]
     exact ab3 _
    | false=>
     have e:cy1 x 4=0:=by rw[x4,z0,jb6 x hx2,hb]
     simp only[go_sem,bk6,e];refine aa2 s2 ?_
     cases hc:y.testBit 0 with
     | true=>
      have e2:¬ cy1 y 1=0:=by rw[y1,z0,and1 y hy2,hc]; simp
      simp only[go_sem,bk6,e2]
      exact ab3 _
     | false=>
      have e2:cy1 y 1=0:=by rw[y1,z0,and1 y hy2,hc]
      simp only[go_sem,bk6,e2];exact ab3 _
   ·simp only[go_sem,bk6,exy,exy7,bt]
    have e:(!decide (((x &&& y &&& 7:Nat):Int)=0))=(x.testBit 0&&y.testBit 0||x.testBit 1&&y.testBit 1||x.testBit 2&&y.testBit 2):=by
     by_cases hz:x &&& y &&& 7=0
     ·obtain ⟨t0,t1,t2⟩:=(gj4 _ hxy).1 hz;rw[Nat.testBit_and] at t0 t1 t2;rw[hz,t0,t1,t2]; rfl
     ·have hz':¬ ((x &&& y &&& 7:Nat):Int)=0:=fun h=>hz (by omega)
      have ht:¬ ((x &&& y).testBit 0=false/\(x &&& y).testBit 1=false/\(x &&& y).testBit 2=false):=fun h=>hz ((gj4 _ hxy).2 h)
      rw[Nat.testBit_and,Nat.testBit_and,Nat.testBit_and] at ht;rw[decide_eq_false hz']
      revert ht
      generalize (x.testBit 0&&y.testBit 0)=b0;generalize (x.testBit 1&&y.testBit 1)=b1;generalize (x.testBit 2&&y.testBit 2)=b2;cases b0<;>cases b1<;>cases b2<;>simp
    rw[e];exact ab3 _
   ·have g1:side (-1)=0:=by decide
    have g2:side 1=2:=by decide
    simp only[go_sem,n2,w2,g1,g2,bt];refine aa2 s2 ?_
    cases hb:x.testBit 0 with
    | true=>
     have e:¬ cy1 x 1=0:=by rw[x1,z0,and1 x hx2,hb]; simp
     simp only[go_sem,bk6,e]
     exact ab3 _
    | false=>
     have e:cy1 x 1=0:=by rw[x1,z0,and1 x hx2,hb]
     simp only[go_sem,bk6,e];refine aa2 s1 ?_
     cases hc:y.testBit 2 with
     | true=>
      have e2:¬ cy1 y 4=0:=by rw[y4,z0,jb6 y hy2,hc]; simp
      simp only[go_sem,bk6,e2]
      exact ab3 _
     | false=>
      have e2:cy1 y 4=0:=by rw[y4,z0,jb6 y hy2,hc]
      simp only[go_sem,bk6,e2];exact ab3 _
theorem be5 (d:Dep):Bnd 0 (.ab8 d.cs):=.ab8 _ fun c hc=>by
 simp only[Dep.cs,List.mem_cons,List.not_mem_nil,or_false] at hc;rcases hc with rfl|rfl|rfl|rfl|rfl
 ·exact .str _
 ·exact .int _ _
 ·exact .int _ _
 ·exact .str _
 ·exact .str _
theorem ew9 (a d:Dep)(ha:Dep.small a)(hd:Dep.small d):PC Tryz.prog EE 192 [.agg a.cs,.agg d.cs] (.bool (meets a d)):=by
 refine ae9 hE fok192 (nZ rfl) (ao7 (aw4 a) (aw4 d)) ?_;have hm:=eo4 a d ha hd;unfold meets;simp only[Dep.cs] at hm;by_cases h:a.name=d.name
 ·simp only[ic192,go_sem,Dep.cs,h] at hm ⊢;refine aa4 fok238 hm ?_;simp only[go_sem];exact ab3 _
 ·simp only[ic192,go_sem,Dep.cs,h];exact ab3 _
theorem gj7 (n:Str)(e:EVR):PC Tryz.prog EE 239 [.str n,.agg e.cs] (.agg (Dep.cs ⟨n,2,e⟩)):=by
 refine ae9 hE fok239 (nZ rfl) (ao7 (.str _) (du4 e)) ?_;simp only[ic239,go_sem,EVR.cs,Dep.cs]
 exact .keep _ (.agg _ fun c hc=>by
  simp only[List.mem_cons,List.not_mem_nil,or_false] at hc;rcases hc with rfl|rfl|rfl|rfl|rfl
  ·exact .str _
  ·exact .int _ _
  ·exact .int _ _
  ·exact .str _
  ·exact .str _)
theorem gj8 (p:aa3):PC Tryz.prog EE 193 [.agg p.cs] (.agg (own p).cs):=by
 refine ae9 hE fok193 (nZ rfl) (ae1 (an3 p)) ?_;have ho:=gj7 p.name p.evr;simp only[EVR.cs,Dep.cs] at ho;simp only[ic193,go_sem,aa3.cs,own,Dep.cs];refine aa4 fok239 ho ?_;simp only[go_sem];exact .keep _ (aw4 (own p))
def Pkg.small (p:aa3):Prop:=EVR.small p.evr/\(∀ d∈p.provides,Dep.small d)/\(∀ d∈p.aa9,Dep.small d)/\p.provides.length<2^40/\p.aa9.length<2^40/\p.files.length<2^40
theorem gj9 {p:aa3}(h:Pkg.small p):Dep.small (own p):=⟨by show (0:Int)<=2; decide,by show (2:Int)<256; decide,h.1⟩
theorem ba6 (p:aa3):p.cs.length=15:=rfl
theorem aw5 (p:aa3):p.cs.take 15=p.cs:=rfl
theorem as8 (p:aa3):p.cs.all IV.leaf=true:=rfl
theorem du5 (p:aa3)(d:Dep)(hp:Pkg.small p)(hd:Dep.small d):PC Tryz.prog EE 127 [.agg p.cs,.agg d.cs] (.bool (named p d)):=by
 refine ae9 hE fok127 (nZ rfl) (ao7 (an3 p) (aw4 d)) ?_;have ho:=gj8 p;have hm:=ew9 (own p) d (gj9 hp) hd;generalize hx:Dep.cs (own p)=x at ho hm;simp only[ic127,go_sem,ba6,aw5,as8,ar6,ao6,an2];refine aa2 ho ?_;simp only[go_sem,ar6,ao6,an2];refine aa2 hm ?_;simp only[go_sem];exact ab3 _
theorem he8 (q:aa3)(d:Dep)(hq:Pkg.small q)(hd:Dep.small d):PC Tryz.prog EE 126 ([]++[.agg d.cs]++[.ab8 q.cs]) (.bool (named q d)):=by
 refine ae9 hE fok126 (nZ rfl) (ao7 (aw4 d) (.ab8 _ (az5 q))) ?_;simp only[ic126,go_sem,ba6,aw5,as8,ar6,ao6,an2];refine aa4 fok127 (du5 q d hq hd) ?_;simp only[go_sem];exact ab3 _
theorem ed5 (p q:aa3)(hp:Pkg.small p)(hq:Pkg.small q):PC Tryz.prog EE 70 [.agg p.cs,.agg q.cs] (.bool (aa9 p q)):=by
 refine ae9 hE fok70 (nZ rfl) (ao7 (an3 p) (an3 q)) ?_;have hc:=cx5 p.aa9 126 [] [.ab8 q.cs] (fun d=>named q d) (by have:=hp.2.2.2.2.1; omega) fok126.1 fun d hd=>he8 q d hq (hp.2.2.1 d hd)
 have hf:(p.cs.drop 9).head? = some (deps p.aa9):=rfl;simp only[ic70,go_sem,as8,hf];refine aa4 fok125 hc ?_;simp only[go_sem];exact ab3 _
theorem gk1 (a d:Dep)(ha:Dep.small a)(hd:Dep.small d):PC Tryz.prog EE 281 ([]++[.agg a.cs]++[.ab8 d.cs]) (.bool (meets a d)):=by
 refine ae9 hE fok281 (nZ rfl) (ao7 (aw4 a) (be5 d)) ?_;simp only[ic281,go_sem,ar6,ao6,an2];refine aa4 fok192 (ew9 a d ha hd) ?_;simp only[go_sem];exact ab3 _
theorem eo5 (l:List Str)(s:Str)(hl:l.length<2^40):PC Tryz.prog EE 297 [.aa5 (l.map bi1),.str s] (.int .i64 (ah5 (fun x=>decide (s=x)) l 0)):=by
 refine az3 fok297 (nZ rfl) fun σ=>?_
 simp only[ic297,go_sem];refine ab7 noT (fun i fr t=>t=σ/\fr=[(0,.aa5 (l.map bi1)),(1,.str s),(7,.int .i64 l.length),(8,.int .i64 i)]/\ah5 (fun x=>decide (s=x)) l 0=ah5 (fun x=>decide (s=x)) (l.drop i) i) l.length ⟨rfl,rfl,rfl⟩ ?_;rintro i fr t hi ⟨rfl,rfl,hf⟩;by_cases hlt:i<l.length
 ·obtain ⟨x,ha,_,hdr,hget,_⟩:=ae2 l i hlt;have c1:(i:Int)<l.length:=by omega
  have c2:(0:Int)<=i:=by omega
  have w1:=ad4 (i:=i) (by omega);rw[hdr,ah5] at hf;by_cases e:s=x
  ·rw[if_pos (by simpa using e)] at hf;subst e;simp only[go_sem,c1,c2,hget,dt4,bi1,hf,and_self]
  ·rw[if_neg (by simpa using e)] at hf;simp only[go_sem,c1,c2,hget,dt4,bi1,e,w1];exact ⟨hlt,by rw[hf]; simp only[Int.natCast_add,Int.natCast_one]⟩
 ·have hi':i=l.length:=by omega
  subst hi';have c1:¬ (l.length:Int)<l.length:=by omega
  rw[List.drop_length] at hf;simp only[go_sem,c1,hf,ah5,and_self]
theorem gk2 (l:List Str)(s:Str)(hl:l.length<2^40):PC Tryz.prog EE 282 [.aa5 (l.map bi1),.str s] (.bool (l.contains s)):=by
 refine az3 fok282 (nZ rfl) fun σ=>?_
 simp only[ic282,go_sem];refine aa4 fok297 (eo5 l s hl) ?_
 have e:l.any (fun x=>decide (s=x))=l.contains s:=by
  induction l with
  | nil=>rfl
  | cons a l ih=>rw[List.any_cons,List.contains_cons,ih (by simp at hl; omega)]; congr 1; by_cases h:s=a<;>simp[h]
 simp only[go_sem,aq9,e,and_self]
theorem eo6 (p:aa3)(d:Dep)(hp:Pkg.small p)(hd:Dep.small d):PC Tryz.prog EE 241 [.agg p.cs,.agg d.cs] (.bool (provides p d)):=by
 refine ae9 hE fok241 (nZ rfl) (ao7 (an3 p) (aw4 d)) ?_;have hn:=du5 p d hp hd;have hc:=cx5 p.provides 281 [] [.ab8 d.cs] (fun a=>meets a d) (by have:=hp.2.2.2.1; omega) fok281.1 fun a ha=>gk1 a d (hp.2.1 a ha) hd
 have hs:=gk2 p.files d.name hp.2.2.2.2.2;have hf:(p.cs.drop 6).head? = some (deps p.provides):=rfl;have hg:(p.cs.drop 14).head? = some (strs p.files):=rfl;have d0:d.cs.head? = some (.str d.name):=rfl;have d1:(d.cs.drop 1).head? = some (.int .u8 d.op):=rfl;unfold provides
 cases hb:named p d with
 | true=>
  rw[hb] at hn;simp only[ic241,go_sem,ba6,aw5,as8,ar6,ao6,an2];refine aa4 fok127 hn ?_;simp only[go_sem]
  exact ab3 _
 | false=>
  rw[hb] at hn;simp only[ic241,go_sem,ba6,aw5,as8,ar6,ao6,an2];refine aa4 fok127 hn ?_;simp only[go_sem,hf];refine aa4 fok125 hc ?_
  cases ha:p.provides.any (fun a=>meets a d) with
  | true=>
   simp only[go_sem]
   exact ab3 _
  | false=>
   by_cases h0:d.op=0
   ·simp only[go_sem,d0,d1,h0,hg];refine aa4 fok282 hs ?_;simp only[go_sem];exact ab3 _
   ·simp only[go_sem,d0,d1,h0];exact ab3 _
end Go.Id.Tryz
set_option linter.all false
namespace Go.Id.Tryz
open Go Go.Id Go.Proofs Go.Id.Md
set_option maxRecDepth 100000
theorem fp1 (p:aa3)(n:Int)(d:Dep)(hp:Pkg.small p)(hd:Dep.small d):PC Tryz.prog EE 240 [.agg p.cs,.int .i64 n,.ab8 d.cs] (.bool (provides p d)):=by
 refine ae9 hE fok240 (nZ rfl) (fun a ha=>by
  simp only[List.mem_cons,List.not_mem_nil,or_false] at ha;rcases ha with rfl|rfl|rfl
  ·exact an3 p
  ·exact .int _ _
  ·exact be5 d) ?_
 simp only[ic240,go_sem,ba6,aw5,as8,ar6,ao6,an2];refine aa4 fok241 (eo6 p d hp hd) ?_;simp only[go_sem];exact ab3 _
theorem cx8 (p:aa3)(n:Int)(d:Dep)(hp:Pkg.small p)(hd:Dep.small d):PC Tryz.prog EE 166 [.agg p.cs,.int .i64 n,.ab8 d.cs] (.bool (named p d)):=by
 refine ae9 hE fok166 (nZ rfl) (fun a ha=>by
  simp only[List.mem_cons,List.not_mem_nil,or_false] at ha;rcases ha with rfl|rfl|rfl
  ·exact an3 p
  ·exact .int _ _
  ·exact be5 d) ?_
 simp only[ic166,go_sem,ba6,aw5,as8,ar6,ao6,an2];refine aa4 fok127 (du5 p d hp hd) ?_;simp only[go_sem];exact ab3 _
theorem ew1 (nm:Nms)(σ:Store)(k:Str):∃ v,cr3 σ 2 .aa1 false (.al6 (nmV nm)) (.str k)=some v/\(v=.aa5 ((ad3 nm k).map Md.ah6)\/v=.aa1/\ad3 nm k=[]):=by
 have h:∀ nm:Nms,∃ r,ax2 2 (.str k) (nmV nm)=some r/\((∃ v,r=some v/\v=.aa5 ((ad3 nm k).map Md.ah6))\/r=none/\ad3 nm k=[]):=by
  intro nm
  induction nm with
  | nil=>exact ⟨none,rfl,.inr ⟨rfl,rfl⟩⟩
  | cons t ts ih=>
   obtain ⟨r,h1,h2⟩:=ih;simp only[nmV,List.map_cons,ax2,er8,ad3] at h1 ⊢;by_cases e:k=t.1
   ·simp only[e,decide_true,if_true];exact ⟨_,rfl,.inl ⟨_,rfl,rfl⟩⟩
   ·simp only[e,decide_false,if_false];exact ⟨r,h1,h2⟩
 obtain ⟨r,h1,h2⟩:=h nm;rcases h2 with ⟨v,rfl,rfl⟩|⟨rfl,h3⟩
 ·refine ⟨.aa5 ((ad3 nm k).map Md.ah6),?_,.inl rfl⟩;simp only[cr3,cc2,h1];rfl
 ·refine ⟨.aa1,?_,.inr ⟨rfl,h3⟩⟩;simp only[cr3,cc2,h1];rfl
theorem numsOf_at {q:aa3->Bool}{l:List aa3}{n:Int}(h:n∈numsOf q l):∃ m:Nat,n=m/\m<l.length:=by
 obtain ⟨m,h1,h2,_⟩:=bb1.1 h;exact ⟨m,h1,h2⟩
theorem getD_at (l:List aa3)(m:Nat)(h:m<l.length):l.getD m default=l[m]:=by simp[List.getD_eq_getElem?_getD,h]
theorem bo3 (l:List aa3)(d:Dep)(hl:l.length<2^20)(hs:∀ p∈l,Pkg.small p)(hd:Dep.small d):PC Tryz.prog EE 196 [(ah8 l).v,.agg d.cs] (.aa5 ((al9 l d).map Md.ah6)):=by
 have hi:=bi8 l;have hb:=bc4 (ah8 l);refine ae9 hE fok196 (nZ rfl) (ao7 hb (aw4 d)) ?_;have hlook:=hi.av9 d.name
 have hsift:∀ v,(v=.aa5 ((ad3 (ah8 l).av9 d.name).map Md.ah6)\/v=.aa1/\ad3 (ah8 l).av9 d.name=[])->PC Tryz.prog EE 165 [(ah8 l).v,v,.func (.func 240) [] [.ab8 d.cs]] (.aa5 ((al9 l d).map Md.ah6)):=by
  intro v hv
  have h:=gi8 (ah8 l) (ad3 (ah8 l).av9 d.name) (by rw[hlook]; have:=al8 (fun p=>decide (d.name∈cv6 p)) l; omega) 240 [.ab8 d.cs] (fun n=>provides (l.getD n.toNat default) d) (ae1 (be5 d)) fok240.1 (fun n hn=>by
   rw[hlook] at hn;obtain ⟨m,rfl,hm⟩:=numsOf_at hn;refine ⟨m,rfl,by rw[hi.all]; exact hm,?_⟩;have e:(ah8 l).all[m]'(by rw[hi.all]; exact hm)=l[m]:=by simp only[hi.all]
   rw[e,Int.toNat_natCast,getD_at l m hm];exact fp1 l[m] m d (hs _ (List.getElem_mem hm)) hd)
  rw[ea7] at h;rcases hv with rfl|⟨rfl,h0⟩
  ·exact h
  ·rw[h0] at h;have hw:∀ {v:IV} {σ:Store},Bnd 0 v->Frz σ (fun _=>true=true) v v:=fun h=>.keep _ (h.weak fun _ _=>rfl)
   refine ct6 (args':=[(ah8 l).v,.aa5 [],.func (.func 240) [] [.ab8 d.cs]]) rfl (fun σ i hi=>?_) h
   match i,hi with
   | 0,_=>exact hw hb
   | 1,_=>exact .bu6
   | 2,_=>exact hw (.func _ _ _ (fun c hc=>by cases hc) (ae1 (be5 d)))
 have hx:(ah8 l).v=.ab8 [.aa5 ((ah8 l).all.map aa3.cs),.al6 (nmV (ah8 l).av9),.al6 (nmV (ah8 l).names),.al6 (nmV (ah8 l).over)]:=rfl;have d0:d.cs.head? = some (.str d.name):=rfl;have hres:=ag5 (al9 l d)
 have hk0:∀ σ:Store,∃ v,cr3 σ 2 .aa1 false (.al6 (nmV (ah8 l).av9)) (.str d.name)=some v/\PC Tryz.prog EE 165 [(ah8 l).v,v,.func (.func 240) [] [.ab8 d.cs]] (.aa5 ((al9 l d).map Md.ah6)):=fun σ=>
  let ⟨v,h1,h2⟩:=ew1 (ah8 l).av9 σ d.name
  ⟨v,h1,hsift v h2⟩
 clear hsift hlook;rw[hx] at hk0 ⊢;generalize (ah8 l).all.map aa3.cs=a0 at *;simp only[ic196,go_sem,ar6,ao6,an2,d0];obtain ⟨v,hk,hsv⟩:=hk0 ⟨11,emp.obj⟩;simp only[go_sem,hk];refine aa4 fok165 hsv ?_;simp only[go_sem];exact .keep _ hres
theorem bv9 (l:List aa3)(d:Dep)(hl:l.length<2^20)(hs:∀ p∈l,Pkg.small p)(hd:Dep.small d):PC Tryz.prog EE 101 [(ah8 l).v,.agg d.cs] (.aa5 ((an9 l d).map Md.ah6)):=by
 have hi:=bi8 l;have hb:=bc4 (ah8 l);refine ae9 hE fok101 (nZ rfl) (ao7 hb (aw4 d)) ?_;have hlook:=hi.names d.name
 have hsift:∀ v,(v=.aa5 ((ad3 (ah8 l).names d.name).map Md.ah6)\/v=.aa1/\ad3 (ah8 l).names d.name=[])->PC Tryz.prog EE 165 [(ah8 l).v,v,.func (.func 166) [] [.ab8 d.cs]] (.aa5 ((an9 l d).map Md.ah6)):=by
  intro v hv
  have h:=gi8 (ah8 l) (ad3 (ah8 l).names d.name) (by rw[hlook]; have:=al8 (fun p=>decide (p.name=d.name)) l; omega) 166 [.ab8 d.cs] (fun n=>named (l.getD n.toNat default) d) (ae1 (be5 d)) fok166.1 (fun n hn=>by
   rw[hlook] at hn;obtain ⟨m,rfl,hm⟩:=numsOf_at hn;refine ⟨m,rfl,by rw[hi.all]; exact hm,?_⟩;have e:(ah8 l).all[m]'(by rw[hi.all]; exact hm)=l[m]:=by simp only[hi.all]
   rw[e,Int.toNat_natCast,getD_at l m hm];exact cx8 l[m] m d (hs _ (List.getElem_mem hm)) hd)
  rw[et3] at h;rcases hv with rfl|⟨rfl,h0⟩
  ·exact h
  ·rw[h0] at h;have hw:∀ {v:IV} {σ:Store},Bnd 0 v->Frz σ (fun _=>true=true) v v:=fun h=>.keep _ (h.weak fun _ _=>rfl)
   refine ct6 (args':=[(ah8 l).v,.aa5 [],.func (.func 166) [] [.ab8 d.cs]]) rfl (fun σ i hi=>?_) h
   match i,hi with
   | 0,_=>exact hw hb
   | 1,_=>exact .bu6
   | 2,_=>exact hw (.func _ _ _ (fun c hc=>by cases hc) (ae1 (be5 d)))
 have hx:(ah8 l).v=.ab8 [.aa5 ((ah8 l).all.map aa3.cs),.al6 (nmV (ah8 l).av9),.al6 (nmV (ah8 l).names),.al6 (nmV (ah8 l).over)]:=rfl;have d0:d.cs.head? = some (.str d.name):=rfl;have hres:=ag5 (an9 l d)
 have hk0:∀ σ:Store,∃ v,cr3 σ 2 .aa1 false (.al6 (nmV (ah8 l).names)) (.str d.name)=some v/\PC Tryz.prog EE 165 [(ah8 l).v,v,.func (.func 166) [] [.ab8 d.cs]] (.aa5 ((an9 l d).map Md.ah6)):=fun σ=>
  let ⟨v,h1,h2⟩:=ew1 (ah8 l).names σ d.name
  ⟨v,h1,hsift v h2⟩
 clear hsift hlook;rw[hx] at hk0 ⊢;generalize (ah8 l).all.map aa3.cs=a0 at *;simp only[ic101,go_sem,ar6,ao6,an2,d0];obtain ⟨v,hk,hsv⟩:=hk0 ⟨11,emp.obj⟩;simp only[go_sem,hk];refine aa4 fok165 hsv ?_;simp only[go_sem];exact .keep _ hres
end Go.Id.Tryz
set_option linter.all false
namespace Go.Id.Tryz
open Go Go.Id Go.Proofs Go.Id.Md
set_option maxRecDepth 100000
structure hf8 (repos:List al7) (inst:List aa3):Prop where
 r1:repos.length<2^20
 i1:inst.length<2^20
 s1:ak7 repos<2^40
 rf:∀ r∈repos,al7.Fit r
 pf:∀ p∈inst,p.Fit
 ro:∀ r∈repos,al7.Ok r
 po:∀ p∈inst,p.Ok
theorem fq3 {p:aa3}(h:p.Tiny):Pkg.small p:=by
 have e:∀ v:EVR,v.tiny->EVR.small v:=fun v hv=>⟨by have:=hv.1; omega,by have:=hv.2; omega⟩
 refine ⟨e _ h.evr,fun d hd=>?_,fun d hd=>?_,?_,?_,?_⟩
 ·obtain ⟨a,b,c,_⟩:=h.av9.2 d hd; exact ⟨a,b,e _ c⟩
 ·obtain ⟨a,b,c,_⟩:=h.obs.2 d hd; exact ⟨a,b,e _ c⟩
 ·have:=h.av9.1; omega
 ·have:=h.obs.1; omega
 ·have:=h.files; omega
theorem hr9 {repos:List al7}{inst:List aa3}{p:Pool}(hI:hf8 repos inst)(h:bt2 repos inst=.inl p):∀ x∈ae3 p,x.Fit/\Pkg.small x/\x.Tiny:=by
 intro x hx;obtain ⟨h1,h2⟩:=et6 h x hx;refine ⟨?_,fq3 (et9 h1),et9 h1⟩;rcases h2 with h2|⟨r,hr,h2⟩
 ·exact hI.pf x h2
 ·exact (hI.rf r hr).2 x h2
theorem ii9 (x:Index)(n:Int):PC Tryz.prog EE 227 [x.v,.int .i64 n] (.bool (decide (0<=n)&&decide (n<x.all.length))):=by
 refine ae9 hE fok227 (nZ rfl) (ao7 (bc4 x) (.int _ _)) ?_;have hx:x.v=.ab8 [.aa5 (x.all.map aa3.cs),.al6 (nmV x.av9),.al6 (nmV x.names),.al6 (nmV x.over)]:=rfl;have hnil:∀ (d:TypeId) (cs:List IV) (c:IV),bt8 (.pointer d) (.ab8 (c::cs))=some false:=fun _ _ _=>rfl
 rw[hx];have hlen:(x.all.map aa3.cs).length=x.all.length:=List.length_map ..;generalize x.all.map aa3.cs=es at *;generalize x.all.length=k at *;by_cases h1:0<=n
 ·by_cases h2:n<(k:Nat)
  ·have h2':n<(es.length:Nat):=by omega
   simp only[ic227,go_sem,hnil,h1,h2,h2',hlen,Bool.and_self];exact ab3 _
  ·have h2':¬ n<(es.length:Nat):=by omega
   simp only[ic227,go_sem,hnil,h1,h2,h2',hlen,Bool.and_false];exact ab3 _
 ·simp only[ic227,go_sem,hnil,h1,Bool.false_and];exact ab3 _
theorem gk7 (l:List aa3)(m n:Nat)(hm:m<l.length)(hn:n<l.length)(hs:∀ p∈l,Pkg.small p) :
  PC Tryz.prog EE 228 [.agg l[m].cs,.int .i64 m,.ab8 [.int .i64 n],.ab8 [(ah8 l).v]] (.bool (decide (m≠n)&&aa9 l[m] l[n])):=by
 refine ae9 hE fok228 (nZ rfl) (fun a ha=>by
  simp only[List.mem_cons,List.not_mem_nil,or_false] at ha;rcases ha with rfl|rfl|rfl|rfl
  ·exact an3 _
  ·exact .int _ _
  ·exact .ab8 _ (ae1 (.int _ _))
  ·exact .ab8 _ (ae1 (bc4 _))) ?_
 have hx:(ah8 l).v=.ab8 [.aa5 (l.map aa3.cs),.al6 (nmV (ah8 l).av9),.al6 (nmV (ah8 l).names),.al6 (nmV (ah8 l).over)]:=by
  show IV.ab8 [.aa5 ((ah8 l).all.map aa3.cs),_,_,_]=_;rw[(bi8 l).all]
 have ho:=ed5 l[m] l[n] (hs _ (List.getElem_mem hm)) (hs _ (List.getElem_mem hn));have hg:(l.map aa3.cs).getD n []=l[n].cs:=by simp[List.getD_eq_getElem?_getD,hn]
 have hl:(l.map aa3.cs).length=l.length:=List.length_map ..;rw[hx];generalize l.map aa3.cs=es at *;by_cases e:m=n
 ·have e':(m:Int)=n:=by omega
  simp only[ic228,go_sem,ba6,aw5,as8,e',e,ne_eq,not_true_eq_false,decide_false,Bool.false_and];exact ab3 _
 ·have e':¬ (m:Int)=n:=by omega
  have c1:(0:Int)<=n:=by omega
  have c2:(n:Int)<es.length:=by omega
  simp only[ic228,go_sem,ba6,aw5,as8,e',e,c1,c2,hg,ne_eq,not_false_eq_true,decide_true,Bool.true_and];refine aa4 fok70 ho ?_;simp only[go_sem];exact ab3 _
def al3 (l:List aa3)(n:Nat):List Int:=(ad3 (ah8 l).over (l.getD n default).name).filter fun k=>decide (k.toNat≠n)&&aa9 (l.getD k.toNat default) (l.getD n default)
theorem cy2 {l:List aa3}{n:Nat}{k:Int}:k∈al3 l n↔∃ m:Nat,k=m/\m<l.length/\m≠n/\aa9 (l.getD m default) (l.getD n default)=true:=by
 unfold al3;rw[(bi8 l).over,List.mem_filter];constructor
 ·rintro ⟨h1,h2⟩;obtain ⟨m,rfl,h3,_⟩:=bb1.1 h1;simp only[Int.toNat_natCast,Bool.and_eq_true,decide_eq_true_eq] at h2;exact ⟨m,rfl,h3,h2.1,h2.2⟩
 ·rintro ⟨m,rfl,h1,h2,h3⟩;refine ⟨bb1.2 ⟨m,rfl,h1,?_⟩,?_⟩
  ·obtain ⟨d,h4,h5⟩:=List.any_eq_true.1 h3;refine decide_eq_true ⟨d,h4,?_⟩;simp only[named,meets,Bool.and_eq_true,decide_eq_true_eq] at h5;exact h5.1.symm
  ·simp only[Int.toNat_natCast,Bool.and_eq_true,decide_eq_true_eq];exact ⟨h2,h3⟩
theorem cy3 (l:List aa3)(n:Nat):(al3 l n).length<=l.length:=by
 unfold al3;rw[(bi8 l).over];exact Nat.le_trans (List.length_filter_le _ _) (al8 _ _)
abbrev iv (n:Int):IV:=.int .i64 n
theorem gk8 {id n k:Nat}(h:k<=n):cz4 1 (some (.int .i64 (k:Int))) none (.slice id 0 n 1)=some (.slice id k (n-k) 1):=by
 have e:(0:Int)<=k:=by omega
 simp[cz4,co9,ep8,e,h]
theorem hs8 {id n k:Nat}(h:k<=n):cz4 1 none (some (.int .i64 (k:Int))) (.slice id 0 n 1)=some (.slice id 0 k 1):=by
 have e:(0:Int)<=k:=by omega
 simp[cz4,co9,ep8,e,h]
theorem cm9 {zs:List Int}{p:Nat}(h:p+1<zs.length)(x:Int):x∈zs.take (p+1+1)↔x∈zs.take (p+1)\/x=zs[p+1]:=by
 rw[List.take_add_one (i:=p+1),List.getElem?_eq_getElem h,List.mem_append];simp[Option.toList]
theorem cn1 {zs:List Int}{p:Nat}(h:p+1<zs.length)(e:zs[p+1]=zs[p])(x:Int):x∈zs.take (p+1)↔x∈zs.take (p+1+1):=by
 rw[cm9 h];refine ⟨.inl,fun q=>q.elim (fun q=>q) fun q=>?_⟩;rw[q,e];exact List.mem_iff_getElem.2 ⟨p,by rw[List.length_take]; omega,by rw[List.getElem_take]⟩
theorem cy4 {cs vs:List IV}{k:Nat}(h:k<=cs.length):(ay1 cs k vs).take k=cs.take k:=by
 unfold ay1;rw[List.append_assoc,List.take_append_of_le_length (by rw[List.length_take]; omega),List.take_take,Nat.min_self]
theorem dm4 {cs:List IV}{v:IV}{k:Nat}(h:k<=cs.length):(ay1 cs k [v]).take (k+1)=cs.take k++[v]:=by
 unfold ay1;have e:(cs.take k++[v]).length=k+1:=by rw[List.length_append,List.length_take,List.length_singleton]; omega
 rw[List.take_append_of_le_length (by omega),List.take_of_length_le (by omega)]
theorem dm5 {cs:List IV}{v:IV}{k q:Nat}(h:k<q)(hk:k<=cs.length):(ay1 cs k [v]).drop q=cs.drop q:=by
 unfold ay1;have e:(cs.take k++[v]).length=k+1:=by rw[List.length_append,List.length_take,List.length_singleton]; omega
 rw[List.drop_append,e,List.drop_of_length_le (by omega),List.nil_append,List.drop_drop,List.length_singleton];congr 1; omega
theorem ij1 {pt:PT}{ct:CT}{P:Program}{E:Nat->IV}{e id:Nat}{z:List IV}{x:IX}{fr:Frm}{σ:Store}{K:IV->Store->Prop}:opT pt ct P E (.clr e z x) id fr σ K=bv2 (fc1 σ e z (x.ev E fr)) fun σ'=>σ'.next=σ.next/\K .undef σ':=rfl
theorem gk9 {σ:Store}{id k n:Nat}{cs:List IV}(ho:σ.obj id=some (.row cs))(h1:k<n)(h2:n<=cs.length):fc1 σ 1 [.int .i64 0] (.slice id k (n-k) 1)=some (σ.put id (.row (ay1 cs k (rep [.int .i64 0] (n-k))))):=by
 have e1:¬ n-k=0:=by omega
 have e2:k+(n-k)*1<=cs.length:=by omega
 unfold fc1;simp only[e1,if_false,ho,e2,true_and];rfl
structure jk7 (R:Int->Int->Prop) (σ:Store) (id:Nat) (zs:List Int) (v:IV) (s:Store):Prop where
 out:∃ (D:List Int) (cs:List IV),D.Pairwise R/\(∀ x,x∈D↔x∈zs)/\v=.slice id 0 D.length 1/\s.obj id=some (.row cs)/\cs.take D.length=D.map iv/\D.length<=cs.length
 next:σ.next<=s.next
 other:∀ i,i≠id->s.obj i=σ.obj i
theorem fq4 {R:Int->Int->Prop}{σ:Store}{id:Nat}{zs:List Int}{tl:List IV}(hT:∀ a∈zs,∀ b∈zs,∀ c∈zs,R a b->R b c->R a c)(hz:zs.length<2^40)(ho:σ.obj id=some (.row (zs.map iv++tl)))(hs:zs.Pairwise fun a b=>a=b\/R a b) :
  C Tryz.prog EE 173 [.slice id 0 zs.length 1] σ (jk7 R σ id zs):=by
 refine C_f fok173 (nZ rfl) ?_;by_cases h2:(zs.length:Int)<2
 ·simp only[ic173,go_sem,h2];refine ⟨⟨zs,zs.map iv++tl,?_,fun _=>Iff.rfl,rfl,ho,by rw[List.take_append_of_le_length (by simp),List.take_of_length_le (by simp)],by simp⟩,Nat.le_refl _,fun _ _=>rfl⟩
  match zs,h2 with
  | [],_=>exact .nil
  | [a],_=>simp
  | a::b::l,h2=>simp only[List.length_cons] at h2; omega
 simp only[ic173,go_sem,h2];refine ab7 noT (fun i fr t=>(t.obj=σ.obj/\σ.next<=t.next)/\fr=[(0,.slice id 0 zs.length 1),(3,.int .i64 ((i+1:Nat):Int))]/\i+1<=zs.length/\(zs.take (i+1)).Pairwise R) zs.length ⟨⟨rfl,Nat.le_refl _⟩,rfl,by omega,?_⟩ ?_
 ·cases zs with
  | nil=>exact .nil
  | cons a l=>simp
 rintro i fr t hi ⟨⟨hob,hnx⟩,rfl,hle,hpw⟩;have hot:t.obj id=some (.row (zs.map iv++tl)):=by rw[hob]; exact ho
 have hh:∀ (j:Nat) (h:j<zs.length),((zs.map iv++tl).drop j).head? = some (.int .i64 zs[j]):=fun j h=>by simp[List.head?_drop,List.getElem?_append_left,h]
 have hml:zs.length<=(zs.map iv++tl).length:=by rw[List.length_append,List.length_map]; omega
 by_cases hlt:i+1<zs.length
 ·have c1:((i+1:Nat):Int)<zs.length:=by omega
  have c2:(0:Int)<=((i+1:Nat):Int):=by omega
  have c3:IntKind.i64.wrap (((i+1:Nat):Int)-1)=(i:Int):=by rw[wrap64 (by omega) (by omega)]; omega
  have c4:(0:Int)<=(i:Int):=by omega
  have c5:(i:Int)<zs.length:=by omega
  have w1:=ad4 (i:=i+1) (by omega);have g1:=hh (i+1) hlt;have g2:=hh i (by omega);have hle2:zs[i]=zs[i+1]\/R zs[i] zs[i+1]:=List.pairwise_iff_getElem.1 hs i (i+1) (by omega) hlt (by omega);by_cases e:zs[i+1]=zs[i]'(by omega)
  ·simp only[go_sem,c1,c2,c3,c4,c5,hot,g1,g2,e,Int.toNat_natCast,Nat.zero_add,Nat.mul_one,w1,gk8 (show i+1<=zs.length by omega)]
   refine ab7 noT (fun j fr t=>∃ (k:Nat) (cs:List IV) (D:List Int),fr=[(0,.slice id 0 zs.length 1),(3,.int .i64 (k:Int)),(4,.slice id (i+1) (zs.length-(i+1)) 1),(5,.int .i64 ((j+1:Nat):Int))] /\
    (σ.next<=t.next/\∀ q,q≠id->t.obj q=σ.obj q)/\t.obj id=some (.row cs)/\zs.length<=cs.length/\k<=i+1+j/\i+1+j<zs.length/\D.length=k/\cs.take k=D.map iv/\D.Pairwise R/\(∀ x,x∈D↔x∈zs.take (i+1+j+1)) /\
    ∀ (q:Nat) (h:q<zs.length),k<=q->(cs.drop q).head? = some (.int .i64 zs[q])) (zs.length-(i+1)) ?_ ?_
   ·refine ⟨i+1,zs.map iv++tl,zs.take (i+1),rfl,⟨by show σ.next<=t.next+10; omega,fun q _=>by rw[hob]⟩,hot,hml,by omega,by omega,by rw[List.length_take]; omega,by rw[List.take_append_of_le_length (by rw[List.length_map]; omega),List.map_take],hpw,fun x=>?_,fun q h _=>hh q h⟩;exact cn1 (p:=i) hlt e x
   rintro j fr u hj ⟨k,cs,D,rfl,⟨un,uo⟩,hoc,hcl,hk1,hk2,hDl,hDt,hDp,hDm,hcs⟩;by_cases hl2:j+1<zs.length-(i+1)
   ·have d1:((j+1:Nat):Int)<(zs.length-(i+1):Nat):=by omega
    have d2:(0:Int)<=((j+1:Nat):Int):=by omega
    have d3:IntKind.i64.wrap (((j+1:Nat):Int)-1)=(j:Int):=by rw[wrap64 (by omega) (by omega)]; omega
    have d4:(0:Int)<=(j:Int):=by omega
    have d5:(j:Int)<(zs.length-(i+1):Nat):=by omega
    have d6:(0:Int)<=(k:Int):=by omega
    have d7:(k:Int)<zs.length:=by omega
    have d8:k+1<=cs.length:=by omega
    have w2:=ad4 (i:=j+1) (by omega);have w3:=ad4 (i:=k) (by omega);have f1:=hcs (i+1+(j+1)) (by omega) (by omega);have f2:=hcs (i+1+j) (by omega) (by omega);by_cases e2:zs[i+1+(j+1)]=zs[i+1+j]
    ·simp only[go_sem,d1,d2,d3,d4,d5,hoc,f1,f2,e2,Int.toNat_natCast,Nat.zero_add,Nat.mul_one,w2];exact ⟨by omega,k,cs,D,rfl,⟨by omega,uo⟩,rfl,hcl,by omega,by omega,hDl,hDt,hDp,fun x=>(hDm x).trans (cn1 (p:=i+1+j) (by omega) e2 x),hcs⟩
    ·simp only[go_sem,d1,d2,d3,d4,d5,d6,d7,d8,hoc,f1,f2,e2,Int.toNat_natCast,Nat.zero_add,Nat.mul_one,w2,w3];have hle3:zs[i+1+j]=zs[i+1+(j+1)]\/R zs[i+1+j] zs[i+1+(j+1)]:=List.pairwise_iff_getElem.1 hs (i+1+j) (i+1+(j+1)) (by omega) (by omega) (by omega);have hn:=cm9 (zs:=zs) (p:=i+1+j) (by omega);have hR3:R zs[i+1+j] zs[i+1+(j+1)]:=hle3.elim (fun q=>absurd q.symm e2) fun q=>q
     have hlt3:∀ x∈D,R x zs[i+1+(j+1)]:=by
      intro x hx;obtain ⟨q,hq,rfl⟩:=List.mem_iff_getElem.1 ((hDm x).1 hx);rw[List.length_take] at hq;rw[List.getElem_take];by_cases hqe:q=i+1+j
      ·subst hqe; exact hR3
      ·rcases List.pairwise_iff_getElem.1 hs q (i+1+j) (by omega) (by omega) (by omega) with h|h
       ·rw[h]; exact hR3
       ·exact hT _ (List.getElem_mem _) _ (List.getElem_mem _) _ (List.getElem_mem _) h hR3
     have hb1:σ.next<=u.next+10:=by omega
     refine ⟨by omega,k+1,ay1 cs k [.int .i64 zs[i+1+(j+1)]],D++[zs[i+1+(j+1)]],rfl,⟨hb1,fun q hq=>by rw[if_neg hq]; exact uo q hq⟩,rfl,?_,by omega,by omega,by rw[List.length_append,hDl]; rfl,?_,?_,fun x=>?_,fun q h hq=>?_⟩
     ·rw[ai6 (by rw[List.length_singleton]; omega)]; exact hcl
     ·rw[dm4 (by omega),hDt,List.map_append]; rfl
     ·exact List.pairwise_append.2 ⟨hDp,by simp,fun a ha b hb=>by
       simp only[List.mem_cons,List.not_mem_nil,or_false] at hb;subst hb; exact hlt3 a ha⟩
     ·rw[List.mem_append,hDm x];refine Iff.trans ?_ (hn x).symm;simp only[List.mem_cons,List.not_mem_nil,or_false];exact Iff.rfl
     ·rw[dm5 (by omega) (by omega)];exact hcs q h (by omega)
   ·have d1:¬ ((j+1:Nat):Int)<(zs.length-(i+1):Nat):=by omega
    have hkn:k<zs.length:=by omega
    have hj':i+1+j+1=zs.length:=by omega
    rw[hj',List.take_length] at hDm;simp only[go_sem,d1,gk8 (show k<=zs.length by omega),hs8 (show k<=zs.length by omega),hoc,ij1,gk9 hoc hkn (by omega)];have hrl:(rep [IV.int .i64 0] (zs.length-k)).length=zs.length-k:=by rw[aq6]; simp
    refine ⟨⟨D,ay1 cs k (rep [IV.int .i64 0] (zs.length-k)),hDp,hDm,by rw[hDl],by simp only[aa7,if_true],by rw[hDl,cy4 (by omega)]; exact hDt,?_⟩,un,fun q hq=>?_⟩
    ·rw[ai6 (by rw[hrl]; omega),hDl]; omega
    ·simp only[aa7,if_neg hq];exact uo q hq
  ·simp only[go_sem,c1,c2,c3,c4,c5,hot,g1,g2,e,Int.toNat_natCast,Nat.zero_add,Nat.mul_one,w1];refine ⟨by omega,⟨hob,by show σ.next<=_; omega⟩,by omega,?_⟩;rw[List.take_add_one,List.getElem?_eq_getElem hlt,List.pairwise_append];refine ⟨hpw,by simp,fun a ha b hb=>?_⟩;simp only[Option.toList,List.mem_cons,List.not_mem_nil,or_false] at hb;subst hb;obtain ⟨j,hj,rfl⟩:=List.mem_iff_getElem.1 ha;rw[List.length_take] at hj;rw[List.getElem_take];have hR2:R zs[i] zs[i+1]:=hle2.elim (fun q=>absurd q.symm e) fun q=>q
   by_cases hji:j=i
   ·subst hji; exact hR2
   ·rcases List.pairwise_iff_getElem.1 hs j i (by omega) (by omega) (by omega) with h|h
    ·rw[h]; exact hR2
    ·exact hT _ (List.getElem_mem _) _ (List.getElem_mem _) _ (List.getElem_mem _) h hR2
 ·have hi':i+1=zs.length:=by omega
  have c1:¬ ((i+1:Nat):Int)<zs.length:=by omega
  simp only[go_sem,c1];rw[hi',List.take_length] at hpw;exact ⟨⟨zs,zs.map iv++tl,hpw,fun _=>Iff.rfl,rfl,hot,by rw[List.take_append_of_le_length (by simp),List.take_of_length_le (by simp)],by simp⟩,hnx,fun j _=>by rw[hob]⟩
abbrev Cmp:=jk7 (· < ·)
theorem gl1 {σ:Store}{id:Nat}{zs:List Int}(hz:zs.length<2^40)(ho:σ.obj id=some (.row (zs.map iv)))(hs:zs.Pairwise (·<=·)) :
  C Tryz.prog EE 173 [.slice id 0 zs.length 1] σ (Cmp σ id zs):=
 fq4 (tl:=[]) (fun _ _ _ _ _ _ h h2=>Int.lt_trans h h2) hz (by rw[List.append_nil]; exact ho) (hs.imp fun h=>by omega)
end Go.Id.Tryz
set_option linter.all false
namespace Go.Id.Tryz
open Go Go.Id Go.Proofs Go.Shelf
set_option maxRecDepth 100000
def jq1:Go.Shelf.Ren where
 f:=fun n=>(List.lookup n [(0,0),(1,1),(2,2),(99,216),(107,151),(108,218),(109,297),(110,282),(119,304),(122,121),(125,230),(128,272),(129,273),(137,214),(151,301),(152,303),(161,277),(189,172),(197,300),(206,257),(215,188),(216,269),(217,256),(224,305),(225,306),(227,294),(228,299),(231,293),(233,295),(235,296),(257,229),(260,302),(266,287),(294,263),(295,264),(296,265),(297,266),(298,267),(299,268),(300,270),(301,271),(328,288),(329,289),(330,290),(331,291),(332,292),(336,279),(343,298),(347,307),(348,308),(349,309),(350,310),(351,311),(352,312),(353,313),(354,314),(355,315),(356,316),(357,317),(358,318),(359,319),(360,320),(361,321),(366,324),(367,332)]).getD 0
 t:=fun n=>(List.lookup n [(0,0),(1,1),(2,2),(3,3),(4,4),(5,5),(7,7),(8,8),(9,9),(10,10),(11,11),(12,12),(13,13),(14,14),(15,15),(16,16),(17,17),(18,18),(20,20),(21,21),(22,228),(23,276),(27,166),(28,35),(29,66),(30,229),(31,73),(32,298),(33,278),(34,60),(35,198),(40,310),(41,137),(43,165),(45,53),(46,236),(47,235),(51,271),(52,270),(53,273),(54,272),(55,226),(63,304),(64,305),(80,312),(81,65),(102,222),(104,169),(105,302),(106,303),(111,67),(112,68),(114,311),(115,291),(116,292),(117,293),(118,294),(119,306),(122,290),(123,295),(124,296),(127,321),(131,133),(134,234),(137,307),(139,309),(164,327),(181,263),(182,264),(183,265),(184,266),(185,267),(186,268),(187,269),(214,274),(218,284),(219,285),(220,286),(221,287),(222,288),(223,289),(228,299),(229,300),(230,301),(238,313),(239,314),(240,315),(241,316),(242,317),(245,320),(248,324)]).getD 0
 g:=fun n=>n
theorem iy5:Lays.n189 Tryz.prog jq1 where
 mixed:=by kernel_rfl
 f125:=Tryz.func230.trans (congrArg some (by kernel_rfl))
 f128:=Tryz.func272.trans (congrArg some (by kernel_rfl))
 f129:=Tryz.func273.trans (congrArg some (by kernel_rfl))
 f189:=Tryz.func172.trans (congrArg some (by kernel_rfl))
 f215:=Tryz.func188.trans (congrArg some (by kernel_rfl))
 f216:=Tryz.func269.trans (congrArg some (by kernel_rfl))
 f257:=Tryz.func229.trans (congrArg some (by kernel_rfl))
 f294:=Tryz.func263.trans (congrArg some (by kernel_rfl))
 f295:=Tryz.func264.trans (congrArg some (by kernel_rfl))
 f296:=Tryz.func265.trans (congrArg some (by kernel_rfl))
 f297:=Tryz.func266.trans (congrArg some (by kernel_rfl))
 f298:=Tryz.func267.trans (congrArg some (by kernel_rfl))
 f299:=Tryz.func268.trans (congrArg some (by kernel_rfl))
 f300:=Tryz.func270.trans (congrArg some (by kernel_rfl))
 f301:=Tryz.func271.trans (congrArg some (by kernel_rfl))
 f328:=Tryz.func288.trans (congrArg some (by kernel_rfl))
 f329:=Tryz.func289.trans (congrArg some (by kernel_rfl))
 f330:=Tryz.func290.trans (congrArg some (by kernel_rfl))
 f331:=Tryz.func291.trans (congrArg some (by kernel_rfl))
 f332:=Tryz.func292.trans (congrArg some (by kernel_rfl))
 f343:=Tryz.func298.trans (congrArg some (by kernel_rfl))
 t0:=by kernel_rfl
 a0:=Tryz.isAgg0
 z0:=fun _=>by kernel_rfl
 v0:=fun _=>by kernel_rfl
 t3:=by kernel_rfl
 a3:=Tryz.isAgg3
 z3:=fun _=>by kernel_rfl
 v3:=fun _=>by kernel_rfl
 t4:=by kernel_rfl
 a4:=Tryz.isAgg4
 z4:=fun _=>by kernel_rfl
 v4:=fun _=>by kernel_rfl
 t5:=by kernel_rfl
 a5:=Tryz.isAgg5
 z5:=fun _=>by kernel_rfl
 v5:=fun _=>by kernel_rfl
 t9:=by kernel_rfl
 a9:=Tryz.isAgg9
 z9:=fun _=>by kernel_rfl
 v9:=fun _=>by kernel_rfl
 t28:=by kernel_rfl
 a28:=Tryz.isAgg35
 z28:=fun _=>by kernel_rfl
 v28:=fun _=>by kernel_rfl
 t46:=by kernel_rfl
 a46:=Tryz.isAgg236
 z46:=fun _=>by kernel_rfl
 v46:=fun _=>by kernel_rfl
 t51:=by kernel_rfl
 a51:=Tryz.isAgg271
 z51:=fun _=>by kernel_rfl
 v51:=fun _=>by kernel_rfl
 t53:=by kernel_rfl
 a53:=Tryz.isAgg273
 z53:=fun _=>by kernel_rfl
 v53:=fun _=>by kernel_rfl
 t131:=by kernel_rfl
 a131:=Tryz.isAgg133
 z131:=fun _=>by kernel_rfl
 v131:=fun _=>by kernel_rfl
 t182:=by kernel_rfl
 a182:=Tryz.isAgg264
 z182:=fun _=>by kernel_rfl
 v182:=fun _=>by kernel_rfl
 t183:=by kernel_rfl
 a183:=Tryz.isAgg265
 z183:=fun _=>by kernel_rfl
 v183:=fun _=>by kernel_rfl
 t218:=by kernel_rfl
 a218:=Tryz.isAgg284
 z218:=fun _=>by kernel_rfl
 v218:=fun _=>by kernel_rfl
 t222:=by kernel_rfl
 a222:=Tryz.isAgg288
 z222:=fun _=>by kernel_rfl
 v222:=fun _=>by kernel_rfl
 t228:=by kernel_rfl
 a228:=Tryz.isAgg299
 z228:=fun _=>by kernel_rfl
 v228:=fun _=>by kernel_rfl
 t229:=by kernel_rfl
 a229:=Tryz.isAgg300
 z229:=fun _=>by kernel_rfl
 v229:=fun _=>by kernel_rfl
def ij2 (l:List Int):List Int:=l.mergeSort fun x y=>decide (x<=y)
theorem fq5 {σ:Store}{id:Nat}{zs:List Int}(hz:zs.length<4611686018427387904)(ho:σ.obj id=some (.row (zs.map (IV.int .i64)))) :
  C Tryz.prog EE 172 [.slice id 0 zs.length 1] σ fun v s=>v=.tuple []/\s=σ.put id (.row ((ij2 zs).map (IV.int .i64))):=
 ib7 (enc:=Value.int .i64) (en:=IV.int .i64) (srt:=ij2) (fun _ _ x=>.int _ _) (fun _ _ x r h=>by cases h; rfl) (fun l=>List.length_mergeSort l) (by unfold ij2; rw[List.mergeSort_nil])
  (fun blk off cap zs w h1 h2 h3=>Any.slices_Sort_int iy5 blk off cap zs w h1 h2 h3) (fun p cap w=>Any.slices_Sort_int_none iy5 p cap w) hz ho
open Go Go.Id Go.Proofs Go.Shelf Go.Id.Md
theorem gl2:∀ {a b:List Int},a.Pairwise (· < ·)->b.Pairwise (· < ·)->(∀ x,x∈a↔x∈b)->a=b:=by
 intro a
 induction a with
 | nil=>
  intro b _ _ h
  cases b with
  | nil=>rfl
  | cons y b=>exact absurd ((h y).2 (List.mem_cons_self ..)) (by simp)
 | cons x a ih=>
  intro b ha hb h
  cases b with
  | nil=>exact absurd ((h x).1 (List.mem_cons_self ..)) (by simp)
  | cons y b=>
   obtain ⟨a1,a2⟩:=List.pairwise_cons.1 ha;obtain ⟨b1,b2⟩:=List.pairwise_cons.1 hb
   have e:x=y:=by
    rcases List.mem_cons.1 ((h x).1 (List.mem_cons_self ..)) with e|e
    ·exact e
    ·have l1:=b1 x e;rcases List.mem_cons.1 ((h y).2 (List.mem_cons_self ..)) with e2|e2
     ·exact e2.symm
     ·have l2:=a1 y e2; omega
   subst e;rw[ih a2 b2 fun z=>?_];constructor
   ·intro hz;have l1:=a1 z hz;rcases List.mem_cons.1 ((h z).1 (List.mem_cons_of_mem _ hz)) with e|e
    ·omega
    ·exact e
   ·intro hz;have l1:=b1 z hz;rcases List.mem_cons.1 ((h z).2 (List.mem_cons_of_mem _ hz)) with e|e
    ·omega
    ·exact e
end Go.Id.Tryz
/- Whom a package aa9: the function walked. Conditions: sizes that fit. -/
namespace Go.Id
open Go Go.Id
end Go.Id
namespace Go.Id.Tryz
open Go Go.Id Go.Proofs Go.Shelf Go.Id.Md
end Go.Id.Tryz
set_option linter.all false
namespace Go.Id.Tryz
open Go Go.Id Go.Proofs Go.Id.Md
set_option maxRecDepth 100000
def mP (name:Str)(av9 obs:List Dep)(files:List Str):aa3:={ name:=name,evr:=⟨0,[49],[49]⟩,au2:=1,vendor:=[],provides:=av9,requires:=[],conflicts:=[],aa9:=obs,ac3:=[],ac2:=[],suggests:=[],ad6:=[],files:=files }
def dP (name:Str)(op:Int)(ver:Str):Dep:=⟨name,op,⟨0,ver,[]⟩⟩
def cP (name:Str)(av9 obs files:IV):List IV:=[.str name,.int .i64 0,.str [49],.str [49],.int .u8 1,.str [],av9,.aa1,.aa1,obs,.aa1,.aa1,.aa1,.aa1,files]
def mA:aa3:=mP [97] [] [] []
def mB:aa3:=mP [98] [dP [97] 2 [50]] [dP [97] 1 [50]] []
def mC:aa3:=mP [99] [] [] [[47,102]]
def mT:aa3:=mP [97] [dP [97] 2 [51],dP [97] 2 [52],dP [97] 0 []] [dP [97] 0 [],dP [98] 0 [],dP [98] 1 [57]] []
def mD:aa3:=mP [98] [] [] []
def cA:List IV:=cP [97] .aa1 .aa1 .aa1
def cB:List IV:=cP [98] (deps [dP [97] 2 [50]]) (deps [dP [97] 1 [50]]) .aa1
def cC:List IV:=cP [99] .aa1 .aa1 (strs [[47,102]])
def cT:List IV:=cP [97] (deps [dP [97] 2 [51],dP [97] 2 [52],dP [97] 0 []]) (deps [dP [97] 0 [],dP [98] 0 [],dP [98] 1 [57]]) .aa1
def cD:List IV:=cP [98] .aa1 .aa1 .aa1
theorem iy6 {name:Str}{av9 obs:List Dep}{files:List Str}(h1:name.length<100)(h2:av9.length<100)(h3:obs.length<100)(h4:files.length<100)(h5:(av9++obs).all (fun d=>decide (d.name.length<100)&&decide (d.evr.ver.length<100)&&decide (d.evr.rel.length<100))=true)(h6:files.all (fun s=>decide (s.length<100))=true):(mP name av9 obs files).Fit:=by
 have hd:∀ d∈av9++obs,d.fit:=fun d hd=>by
  have:=List.all_eq_true.1 h5 d hd;simp only[Bool.and_eq_true,decide_eq_true_eq] at this;exact ⟨by omega,by show d.evr.ver.length<_; omega,by show d.evr.rel.length<_; omega⟩
 refine ⟨by show name.length<_; omega,⟨by show ([49]:Str).length<2^62; decide,by show ([49]:Str).length<2^62; decide⟩,⟨by show av9.length<_; omega,fun d h=>hd d (List.mem_append_left _ h)⟩,⟨by show obs.length<_; omega,fun d h=>hd d (List.mem_append_right _ h)⟩,⟨by show files.length<_; omega,fun s h=>by have:=List.all_eq_true.1 h6 s h; simp only[decide_eq_true_eq] at this; omega⟩,fun x hx=>?_⟩;simp only[aa3.rows,mP,List.mem_cons,List.not_mem_nil,or_false] at hx;rcases hx with rfl|rfl|rfl|rfl|rfl|rfl<;>exact ⟨by decide,fun r h=>by cases h⟩
theorem cy5:∀ p∈[mA,mB,mC,mT,mD],p.Fit:=by
 intro p hp;simp only[List.mem_cons,List.not_mem_nil,or_false] at hp;rcases hp with rfl|rfl|rfl|rfl|rfl<;>exact iy6 (by decide) (by decide) (by decide) (by decide) (by decide) (by decide)
def p1M:Pool:=⟨rowsOf [mA,mB,mC] (-1) 1025,3,[([97],[0]),([98],[1]),([99],[2])]⟩
def p2M:Pool:=⟨rowsOf [mB,mC] (-1) 1025++rowsOf [mA] 0 0++rowsOf [mT,mD] 1 0,2,[([98],[0,4]),([99],[1]),([97],[2,3])]⟩
theorem jq2:it7 (bt2 [] [mA,mB,mC])=.tuple [p1M.v,.int .i64 0]:=by kernel_rfl
theorem jq3:it7 (bt2 [⟨0,[mA]⟩,⟨0,[mT,mD]⟩] [mB,mC])=.tuple [p2M.v,.int .i64 0]:=by kernel_rfl
def a1:List IV:=[.aa1,.aa5 [cA,cB,cC]]
def a2:List IV:=[.aa5 [[.int .i64 0,.aa5 [cA]],[.int .i64 0,.aa5 [cT,cD]]],.aa5 [cB,cC]]
theorem e1:PC Tryz.prog EE 37 a1 (.tuple [p1M.v,.int .i64 0]):=by
 rw[<- jq2];refine ic1 (args':=[as7 [],az6 [mA,mB,mC]]) (by kernel_rfl) (cl2 [] [mA,mB,mC] (by decide) (by decide) (by decide) (fun r h=>by cases h) fun p hp=>cy5 p ?_);simp only[List.mem_cons,List.not_mem_nil,or_false] at hp ⊢;rcases hp with h|h|h<;>simp[h]
theorem e2:PC Tryz.prog EE 37 a2 (.tuple [p2M.v,.int .i64 0]):=by
 rw[<- jq3];refine ic1 (args':=[as7 [⟨0,[mA]⟩,⟨0,[mT,mD]⟩],az6 [mB,mC]]) (by kernel_rfl) (cl2 _ _ (by decide) (by decide) (by decide) (fun r hr=>?_) fun p hp=>cy5 p ?_)
 ·simp only[List.mem_cons,List.not_mem_nil,or_false] at hr;rcases hr with rfl|rfl
  ·exact ⟨by decide,fun p hp=>cy5 p (by simp only[List.mem_cons,List.not_mem_nil,or_false] at hp ⊢; simp[hp])⟩
  ·exact ⟨by decide,fun p hp=>cy5 p (by simp only[List.mem_cons,List.not_mem_nil,or_false] at hp ⊢; rcases hp with h|h<;>simp[h])⟩
 ·simp only[List.mem_cons,List.not_mem_nil,or_false] at hp ⊢;rcases hp with h|h<;>simp[h]
theorem ex4 {p:Pool}{l:List aa3}(h:p.rows.map (·.pkg)=l)(hl:∀ x∈l,x∈[mA,mB,mC,mT,mD]):(∀ r∈p.rows,r.pkg.Fit)/\∀ r∈p.rows,r.pkg.provides.length+r.pkg.files.length+r.pkg.aa9.length+3<=2^15:=by
 have hm:∀ r∈p.rows,r.pkg∈[mA,mB,mC,mT,mD]:=fun r hr=>hl _ (by rw[<- h]; exact List.mem_map_of_mem hr)
 refine ⟨fun r hr=>cy5 _ (hm r hr),fun r hr=>?_⟩;have:=hm r hr;generalize r.pkg=x at this;simp only[List.mem_cons,List.not_mem_nil,or_false] at this;rcases this with rfl|rfl|rfl|rfl|rfl<;>decide
theorem e3:PC Tryz.prog EE 89 [p1M.v] (.tuple [(ah8 [mA,mB,mC]).v,.int .i64 0]):=by
 obtain ⟨h1,h2⟩:=ex4 (p:=p1M) (l:=[mA,mB,mC]) rfl (fun x hx=>by simp only[List.mem_cons,List.not_mem_nil,or_false] at hx ⊢; rcases hx with h|h|h<;>simp[h]);exact bj5 p1M h1 (by decide) h2
theorem e4:PC Tryz.prog EE 89 [p2M.v] (.tuple [(ah8 [mB,mC,mA,mT,mD]).v,.int .i64 0]):=by
 obtain ⟨h1,h2⟩:=ex4 (p:=p2M) (l:=[mB,mC,mA,mT,mD]) rfl (fun x hx=>by simp only[List.mem_cons,List.not_mem_nil,or_false] at hx ⊢; rcases hx with h|h|h|h|h<;>simp[h]);exact bj5 p2M h1 (by decide) h2
end Go.Id.Tryz
set_option linter.all false
namespace Go.Id.Tryz
open Go Go.Id Go.Proofs Go.Id.Md
set_option maxRecDepth 100000
theorem gl3 {f:Nat}{args args':List IV}{σ:Store}{Q:IV->Store->Prop}(hl:args'.length=args.length)(ha:∀ i,i<args.length->Frz σ (fun _=>true=true) (args.getD i .undef) (args'.getD i .undef))(h:C Tryz.prog EE f args' σ Q):C Tryz.prog EE f args σ Q :=
 gb3 (S:=fun _=>true) hl ha h
theorem hs9 (x:Index)(l:List Int)(hl:l.length<2^30)(k:Nat)(cap:List IV)(w:Int->Bool)(hok:okF Tryz.prog k=true)
  (hW:∀ n∈l,∃ m:Nat,n=m/\∃ h:m<x.all.length,PC Tryz.prog EE k (.agg x.all[m].cs::.int .i64 n::cap) (.bool (w n))) (σ:Store) :
  C Tryz.prog EE 165 [x.v,.aa5 (l.map Md.ah6),.func (.func k) [] cap] σ (da5 σ (l.filter w)):=by
 have hx:x.v=.ab8 [.aa5 (x.all.map aa3.cs),.al6 (nmV x.av9),.al6 (nmV x.names),.al6 (nmV x.over)]:=rfl;rw[hx];generalize IV.al6 (nmV x.av9)=v1 at *;generalize IV.al6 (nmV x.names)=v2 at *;generalize IV.al6 (nmV x.over)=v3 at *;refine C_f fok165 (nZ rfl) ?_;simp only[ic165,go_sem];refine ab7 noT (fun i fr s=>∃ gv,fr=[(0,.ab8 [.aa5 (x.all.map aa3.cs),v1,v2,v3]),(2,.func (.func k) [] cap),(7,gv),(10,.aa5 (l.map Md.ah6)),(11,.int .i64 l.length),(12,.int .i64 i)]/\Kept σ s/\aw6 s σ.next gv ((l.take i).filter w)) l.length ⟨.aa1,rfl,Kept.refl σ,.inl ⟨rfl,rfl⟩⟩ ?_;rintro i fr s hle ⟨gv,rfl,hk,hg⟩;by_cases hlt:i<l.length
 ·obtain ⟨n,hn,_,hdr,hget,htk⟩:=ae2 l i hlt;have c1:(i:Int)<l.length:=by omega
  have c2:(0:Int)<=i:=by omega
  have w1:=ad4 (i:=i) (by omega);obtain ⟨m,rfl,hm,hpc⟩:=hW n hn;have c3:(m:Int)<x.all.length:=by omega
  have c4:(0:Int)<=m:=by omega
  have hgm:(x.all.map aa3.cs).getD m []=x.all[m].cs:=by simp[List.getD_eq_getElem?_getD,hm]
  simp only[go_sem,c1,c2,c3,c4,hget,Md.ah6,hgm,ag9,ah2,ad1,Int.toNat_natCast,List.length_map];refine du2 hok hpc ?_
  cases hw:w (m:Int) with
  | false=>
   simp only[go_sem,w1];have e:(l.take (i+1)).filter w=(l.take i).filter w:=by rw[htk,List.filter_append]; simp[hw]
   rw[e]
   exact ⟨hlt,gv,rfl,hk,hg⟩
  | true=>
   have hlen:((l.take i).filter w).length<=i:=by
    refine Nat.le_trans (List.length_filter_le _ _) ?_;rw[List.length_take]; omega
   have hap:=ga2 (nid:=s.next) (hg.up 1) (m:Int) (by omega);have e:(l.take (i+1)).filter w=(l.take i).filter w++[(m:Int)]:=by rw[htk,List.filter_append]; simp[hw]
   simp only[go_sem,hap,w1,e];have hz:=es5 hk hg (m:Int) (a:=1) (nid:=s.next) (Nat.le_refl _) (Nat.lt_succ_self _) rfl;exact ⟨hlt,_,rfl,hz.1,hz.2⟩
 ·have hi':i=l.length:=by omega
  subst hi';have c1:¬ (l.length:Int)<l.length:=by omega
  rw[List.take_length] at hg;simp only[go_sem,c1];exact ⟨hk,hg⟩
theorem ab2 {S:Nat->Prop}{s:Store}{a b:Bool}(h:a=b):Frz s S (.bool a) (.bool b):=h▸ab3 a
theorem bw3 {S:Nat->Prop}{s:Store}{k:IntKind}{a b:Int}(h:a=b):Frz s S (.int k a) (.int k b):=h▸.keep _ (.int _ _)
theorem cl6 (a:Int):PC Tryz.prog EE 81 [.int .u8 a] (.bool (bv7 a)):=by
 refine ae9 hE fok81 (nZ rfl) (ai8 (.int _ _)) ?_;simp only[ic81,go_sem]
 first|refine aa4 fok143 (aq3 a) ?_|refine aa2 (aq3 a) ?_
 unfold bv7
 cases an8 a with
 | false=>simp only[go_sem]; exact ab2 rfl
 | true=>
  by_cases h:a=1
  ·simp only[go_sem,h]; exact ab2 rfl
  ·simp only[go_sem,h]; exact ab2 (by simp[h])
theorem ex5 (a b:Int):PC Tryz.prog EE 67 [.int .u8 a,.int .u8 b] (.bool (ea8 a b)):=by
 refine ae9 hE fok67 (nZ rfl) (aj9 (.int _ _) (.int _ _)) ?_;have ha:=cl6 a;have hb:=cl6 b;simp only[ic67,go_sem]
 first|refine aa4 fok81 (ha) ?_|refine aa2 (ha) ?_
 unfold ea8
 cases bv7 a with
 | false=>simp only[go_sem]; exact ab2 rfl
 | true=>
  simp only[go_sem]
  first|refine aa4 fok81 (hb) ?_|refine aa2 (hb) ?_
  cases bv7 b with
  | false=>simp only[go_sem]; exact ab2 rfl
  | true=>
   by_cases h:a=b
   ·simp only[go_sem,h]; exact ab2 (by simp)
   ·simp only[go_sem,h]; exact ab2 (by simp[h])
theorem fq6 (a b:Int):PC Tryz.prog EE 170 [.int .u8 a,.int .u8 b] (.bool (cp9 a b)):=by
 refine ae9 hE fok170 (nZ rfl) (aj9 (.int _ _) (.int _ _)) ?_;have ha:=aq3 a;have hb:=aq3 b;have hc:=ex5 a b;simp only[ic170,go_sem]
 first|refine aa4 fok143 (ha) ?_|refine aa2 (ha) ?_
 unfold cp9
 cases an8 a with
 | false=>simp only[go_sem]; exact ab2 rfl
 | true=>
  simp only[go_sem]
  first|refine aa4 fok143 (hb) ?_|refine aa2 (hb) ?_
  cases an8 b with
  | false=>simp only[go_sem]; exact ab2 rfl
  | true=>
   simp only[go_sem]
   first|refine aa4 fok67 (hc) ?_|refine aa2 (hc) ?_
   simp only[go_sem];exact ab2 (by simp)
def ht4:List IV:=[.int .i64 0,.int .i64 0,.int .i64 0,.int .i64 0,.int .i64 0,.int .i64 0,.int .i64 0,.int .i64 0,.int .i64 0,.int .i64 0,.int .i64 0,.int .i64 2,.int .i64 1,.int .i64 3,.int .i64 0,.int .i64 0,.int .i64 2,.int .i64 0,.int .i64 1,.int .i64 0,.int .i64 0,.int .i64 2,.int .i64 0,.int .i64 0,.int .i64 1]
theorem ee1:PC Tryz.prog EE 187 [] (.agg ht4):=by
 refine ae9 hE fok187 (nZ rfl) (fun a h=>by cases h) ?_;simp only[ic187,go_sem];exact .keep _ (ax6 10 _ (by kernel_rfl))
theorem ij3 (m a:Int)(h1:an8 m=true)(h2:an8 a=true):PC Tryz.prog EE 118 [.int .u8 m,.int .u8 a] (.int .i64 (cw1 m a)):=by
 unfold an8 at h1 h2;simp only[Bool.and_eq_true,decide_eq_true_eq] at h1 h2;have hm:m=1\/m=2\/m=3\/m=4:=by omega
 have ha:a=1\/a=2\/a=3\/a=4:=by omega
 rcases hm with rfl|rfl|rfl|rfl<;>rcases ha with rfl|rfl|rfl|rfl
 all_goals
  refine ae9 hE fok118 (nZ rfl) (aj9 (.int _ _) (.int _ _)) ?_;simp only[ic118,go_sem]
  first|refine aa4 fok143 (aq3 _) ?_|refine aa2 (aq3 _) ?_
  simp only[go_sem,an8]
  first|refine aa4 fok143 (aq3 _) ?_|refine aa2 (aq3 _) ?_
  simp only[go_sem,an8]
  first|refine aa4 fok187 (ee1) ?_|refine aa2 (ee1) ?_
  simp only[go_sem,ht4,List.drop_succ_cons,List.drop_zero,List.getElem?_cons_succ,List.getElem?_cons_zero];exact .keep _ (.int _ _)
theorem ex6 (m a:Int)(h:an8 m=false\/an8 a=false):cw1 m a=0:=by
 unfold an8 at h;simp only[Bool.and_eq_false_iff,decide_eq_false_iff_not] at h;unfold cw1
 repeat' split
 all_goals first|rfl|omega
theorem hf9 (m a:Int):PC Tryz.prog EE 118 [.int .u8 m,.int .u8 a] (.int .i64 (cw1 m a)):=by
 have hm:=aq3 m;have ha:=aq3 a
 cases h1:an8 m with
 | false=>
  rw[ex6 m a (.inl h1)];refine ae9 hE fok118 (nZ rfl) (aj9 (.int _ _) (.int _ _)) ?_;rw[h1] at hm;simp only[ic118,go_sem]
  first|refine aa4 fok143 (hm) ?_|refine aa2 (hm) ?_
  simp only[go_sem]
  exact bw3 rfl
 | true=>
  cases h2:an8 a with
  | false=>
   rw[ex6 m a (.inr h2)];refine ae9 hE fok118 (nZ rfl) (aj9 (.int _ _) (.int _ _)) ?_;rw[h1] at hm;rw[h2] at ha;simp only[ic118,go_sem]
   first|refine aa4 fok143 (hm) ?_|refine aa2 (hm) ?_
   simp only[go_sem]
   first|refine aa4 fok143 (ha) ?_|refine aa2 (ha) ?_
   simp only[go_sem]
   exact bw3 rfl
  | true=>exact ij3 m a h1 h2
theorem ij4 (m a:Int):PC Tryz.prog EE 66 [.int .u8 m,.int .u8 a] (.bool (iu4 m a)):=by
 refine ae9 hE fok66 (nZ rfl) (aj9 (.int _ _) (.int _ _)) ?_;have h:=hf9 m a;simp only[ic66,go_sem]
 first|refine aa4 fok118 (h) ?_|refine aa2 (h) ?_
 simp only[go_sem];exact ab2 rfl
end Go.Id.Tryz
set_option linter.all false
namespace Go.Id.Tryz
open Go Go.Id Go.Proofs Go.Shelf Go.Id.Md
set_option maxRecDepth 100000
theorem ax9 (d:Job):d.cs.length=6:=rfl
theorem ar1 (d:Job):d.cs.all IV.leaf=true:=rfl
theorem ba7 (d:Job):d.cs.take 6=d.cs:=rfl
theorem ar2 (d:bc1):d.cs.length=2:=rfl
theorem aj6 (d:bc1):d.cs.all IV.leaf=true:=rfl
theorem ap3 (d:bc1):d.cs.take 2=d.cs:=rfl
theorem gl4 (d:Job):∀ c∈d.cs,Bnd 0 c:=jh4 (.int _ _) (.str _) (.int _ _) (.int _ _) (.str _) (.str _)
theorem ex8 (d:bc1):∀ c∈d.cs,Bnd 0 c:=aj9 (.int _ _) (.int _ _)
theorem cb2 (l:List Job):Bnd 0 (bi9 l):=.aa5 _ fun e he c hc=>by
 obtain ⟨d,_,rfl⟩:=List.mem_map.1 he; exact gl4 d c hc
theorem bc5 (l:List bc1):Bnd 0 (au9 l):=.aa5 _ fun e he c hc=>by
 obtain ⟨d,_,rfl⟩:=List.mem_map.1 he; exact ex8 d c hc
theorem hg6 (d:Job):Bnd 0 (.agg d.cs):=.agg _ (gl4 d)
theorem cb3 (d:bc1):Bnd 0 (.agg d.cs):=.agg _ (ex8 d)
theorem cb4 (xs:List Int)(g:Nat)(first cap:List IV)(q:Int->Bool)(hn:xs.length<2^62)(hok:okF Tryz.prog g=true)
  (hq:∀ x∈xs,PC Tryz.prog EE g (first++[IV.int .i64 x]++cap) (.bool (q x))):PC Tryz.prog EE 164 [.aa5 (xs.map Md.ah6),.func (.func g) first cap] (.int .i64 (ah5 q xs 0)):=by
 refine az3 fok164 (nZ rfl) fun σ=>?_
 simp only[ic164,go_sem];refine ab7 noT (fun i fr s=>s=σ/\fr=[(0,.aa5 (xs.map Md.ah6)),(1,.func (.func g) first cap),(7,.int .i64 xs.length),(8,.int .i64 i)]/\ah5 q xs 0=ah5 q (xs.drop i) i) xs.length ⟨rfl,rfl,rfl⟩ ?_;rintro i fr s hi ⟨rfl,rfl,hf⟩;by_cases hlt:i<xs.length
 ·obtain ⟨x,ha,_,hdr,hget,_⟩:=ae2 xs i hlt;have c1:(i:Int)<xs.length:=by omega
  have c2:(0:Int)<=i:=by omega
  have w1:=ad4 (i:=i) (by omega);rw[hdr] at hf;simp only[go_sem,c1,c2,hget,Md.ah6];refine an1 hok (ej4 (hq x ha)) ?_;rintro v s ⟨rfl,rfl⟩;refine ⟨Nat.le_refl _,?_⟩
  cases hqe:q x with
  | true=>simp only[go_sem,hf,ah5,hqe,and_self]
  | false=>
   simp only[go_sem,w1];exact ⟨hlt,by rw[hf]; simp only[ah5,hqe,Bool.false_eq_true,if_false,Int.natCast_add,Int.natCast_one]⟩
 ·have hi':i=xs.length:=by omega
  subst hi';have c1:¬ (xs.length:Int)<xs.length:=by omega
  rw[List.drop_length] at hf;simp only[go_sem,c1,hf,ah5,and_self]
theorem bh8 (xs:List Int)(g:Nat)(first cap:List IV)(q:Int->Bool)(hn:xs.length<2^62)(hok:okF Tryz.prog g=true)
  (hq:∀ x∈xs,PC Tryz.prog EE g (first++[IV.int .i64 x]++cap) (.bool (q x))):PC Tryz.prog EE 99 [.aa5 (xs.map Md.ah6),.func (.func g) first cap] (.bool (xs.any q)):=by
 refine az3 fok99 (nZ rfl) fun σ=>?_
 simp only[ic99,go_sem]
 first|refine aa4 fok164 (cb4 xs g first cap q hn hok hq) ?_|refine aa2 (cb4 xs g first cap q hn hok hq) ?_
 simp only[go_sem,aq9,and_self]
theorem ee2 (xs:List Job)(g:Nat)(first cap:List IV)(q:Job->Bool)(hn:xs.length<2^62)(hok:okF Tryz.prog g=true)
  (hq:∀ x∈xs,PC Tryz.prog EE g (first++[IV.agg (Job.cs x)]++cap) (.bool (q x))):PC Tryz.prog EE 144 [.aa5 (xs.map Job.cs),.func (.func g) first cap] (.int .i64 (ah5 q xs 0)):=by
 refine az3 fok144 (nZ rfl) fun σ=>?_
 simp only[ic144,go_sem];refine ab7 noT (fun i fr s=>s=σ/\fr=[(0,.aa5 (xs.map Job.cs)),(1,.func (.func g) first cap),(7,.int .i64 xs.length),(8,.int .i64 i)]/\ah5 q xs 0=ah5 q (xs.drop i) i) xs.length ⟨rfl,rfl,rfl⟩ ?_;rintro i fr s hi ⟨rfl,rfl,hf⟩;by_cases hlt:i<xs.length
 ·obtain ⟨x,ha,_,hdr,hget,_⟩:=ae2 xs i hlt;have c1:(i:Int)<xs.length:=by omega
  have c2:(0:Int)<=i:=by omega
  have w1:=ad4 (i:=i) (by omega);rw[hdr] at hf;simp only[go_sem,c1,c2,hget,ax9,ba7,ar1];refine an1 hok (ej4 (hq x ha)) ?_;rintro v s ⟨rfl,rfl⟩;refine ⟨Nat.le_refl _,?_⟩
  cases hqe:q x with
  | true=>simp only[go_sem,hf,ah5,hqe,and_self]
  | false=>
   simp only[go_sem,w1];exact ⟨hlt,by rw[hf]; simp only[ah5,hqe,Bool.false_eq_true,if_false,Int.natCast_add,Int.natCast_one]⟩
 ·have hi':i=xs.length:=by omega
  subst hi';have c1:¬ (xs.length:Int)<xs.length:=by omega
  rw[List.drop_length] at hf;simp only[go_sem,c1,hf,ah5,and_self]
theorem gl5 (xs:List Job)(g:Nat)(first cap:List IV)(q:Job->Bool)(hn:xs.length<2^62)(hok:okF Tryz.prog g=true)
  (hq:∀ x∈xs,PC Tryz.prog EE g (first++[IV.agg (Job.cs x)]++cap) (.bool (q x))):PC Tryz.prog EE 82 [.aa5 (xs.map Job.cs),.func (.func g) first cap] (.bool (xs.any q)):=by
 refine az3 fok82 (nZ rfl) fun σ=>?_
 simp only[ic82,go_sem]
 first|refine aa4 fok144 (ee2 xs g first cap q hn hok hq) ?_|refine aa2 (ee2 xs g first cap q hn hok hq) ?_
 simp only[go_sem,aq9,and_self]
theorem dm6 (xs:List bc1)(g:Nat)(first cap:List IV)(q:bc1->Bool)(hn:xs.length<2^62)(hok:okF Tryz.prog g=true)
  (hq:∀ x∈xs,PC Tryz.prog EE g (first++[IV.agg (bc1.cs x)]++cap) (.bool (q x))):PC Tryz.prog EE 149 [.aa5 (xs.map bc1.cs),.func (.func g) first cap] (.int .i64 (ah5 q xs 0)):=by
 refine az3 fok149 (nZ rfl) fun σ=>?_
 simp only[ic149,go_sem];refine ab7 noT (fun i fr s=>s=σ/\fr=[(0,.aa5 (xs.map bc1.cs)),(1,.func (.func g) first cap),(7,.int .i64 xs.length),(8,.int .i64 i)]/\ah5 q xs 0=ah5 q (xs.drop i) i) xs.length ⟨rfl,rfl,rfl⟩ ?_;rintro i fr s hi ⟨rfl,rfl,hf⟩;by_cases hlt:i<xs.length
 ·obtain ⟨x,ha,_,hdr,hget,_⟩:=ae2 xs i hlt;have c1:(i:Int)<xs.length:=by omega
  have c2:(0:Int)<=i:=by omega
  have w1:=ad4 (i:=i) (by omega);rw[hdr] at hf;simp only[go_sem,c1,c2,hget,ar2,ap3,aj6];refine an1 hok (ej4 (hq x ha)) ?_;rintro v s ⟨rfl,rfl⟩;refine ⟨Nat.le_refl _,?_⟩
  cases hqe:q x with
  | true=>simp only[go_sem,hf,ah5,hqe,and_self]
  | false=>
   simp only[go_sem,w1];exact ⟨hlt,by rw[hf]; simp only[ah5,hqe,Bool.false_eq_true,if_false,Int.natCast_add,Int.natCast_one]⟩
 ·have hi':i=xs.length:=by omega
  subst hi';have c1:¬ (xs.length:Int)<xs.length:=by omega
  rw[List.drop_length] at hf;simp only[go_sem,c1,hf,ah5,and_self]
theorem fq7 (xs:List bc1)(g:Nat)(first cap:List IV)(q:bc1->Bool)(hn:xs.length<2^62)(hok:okF Tryz.prog g=true)
  (hq:∀ x∈xs,PC Tryz.prog EE g (first++[IV.agg (bc1.cs x)]++cap) (.bool (q x))):PC Tryz.prog EE 85 [.aa5 (xs.map bc1.cs),.func (.func g) first cap] (.bool (xs.any q)):=by
 refine az3 fok85 (nZ rfl) fun σ=>?_
 simp only[ic85,go_sem]
 first|refine aa4 fok149 (dm6 xs g first cap q hn hok hq) ?_|refine aa2 (dm6 xs g first cap q hn hok hq) ?_
 simp only[go_sem,aq9,and_self]
theorem ij5 {α:Type}[DecidableEq α](xs:List α)(n:α):xs.any (fun x=>decide (n=x))=decide (n∈xs):=by
 rw[Bool.eq_iff_iff]; simp
theorem ht5 (a b:bc1):gn5 [1,1] true false (.agg a.cs) (.agg b.cs)=some (.bool (decide (a=b))):=by
 have e:decide (a=b)=(decide (a.kind=b.kind)&&decide (a.n=b.n)):=by
  cases a; cases b; simp only[bc1.mk.injEq,Bool.decide_and]
 rw[e];unfold bc1.cs;simp only[hm6,hm8,hm7,go_sem,Option.map_some,jd2,ak1,Bool.xor_false,Bool.and_true]
theorem ee3 (xs:List bc1)(n:bc1)(hn:xs.length<2^62):PC Tryz.prog EE 194 [au9 xs,.agg n.cs] (.int .i64 (ah5 (fun x=>decide (n=x)) xs 0)):=by
 refine ae9 hE fok194 (nZ rfl) (aj9 (bc5 xs) (cb3 n)) ?_;simp only[ic194,go_sem,aj6];refine ab7 noT (fun i fr s=>fr=[(0,au9 xs),(3,.ab8 n.cs),(7,.int .i64 xs.length),(8,.int .i64 i)]/\ah5 (fun x=>decide (n=x)) xs 0=ah5 (fun x=>decide (n=x)) (xs.drop i) i) xs.length ⟨rfl,rfl⟩ ?_;rintro i fr s hi ⟨rfl,hf⟩;by_cases hlt:i<xs.length
 ·obtain ⟨x,ha,_,hdr,hget,_⟩:=ae2 xs i hlt;have c1:(i:Int)<xs.length:=by omega
  have c2:(0:Int)<=i:=by omega
  have w1:=ad4 (i:=i) (by omega);rw[hdr] at hf;by_cases e:n=x
  ·simp only[go_sem,c1,c2,hget,ar2,ap3,aj6,ht5,e];subst e;exact bw3 (by rw[hf]; simp[ah5])
  ·simp only[go_sem,c1,c2,hget,ar2,ap3,aj6,ht5,e,w1];exact ⟨hlt,by rw[hf]; simp only[ah5,e,decide_false,Bool.false_eq_true,if_false,Int.natCast_add,Int.natCast_one]⟩
 ·have hi':i=xs.length:=by omega
  subst hi';have c1:¬ (xs.length:Int)<xs.length:=by omega
  rw[List.drop_length] at hf;simp only[go_sem,c1];exact bw3 (by rw[hf]; rfl)
theorem fq8 (xs:List bc1)(n:bc1)(hn:xs.length<2^62):PC Tryz.prog EE 128 [au9 xs,.agg n.cs] (.bool (decide (n∈xs))):=by
 refine ae9 hE fok128 (nZ rfl) (aj9 (bc5 xs) (cb3 n)) ?_;have h:=ee3 xs n hn;have e:=aq9 (fun x=>decide (n=x)) xs;rw[ij5] at e;simp only[ic128,go_sem,ar2,ap3,aj6]
 first|refine aa4 fok194 (h) ?_|refine aa2 (h) ?_
 simp only[go_sem,e];exact ab2 rfl
theorem eo7 (xs:List Job)(hn:xs.length<=2147483648):PC Tryz.prog EE 152 [.aa5 (xs.map Job.cs)] (.aa5 (xs.map Job.cs)):=by
 cases hx:xs with
 | nil=>
  rw[List.map_nil];refine bm7 ?_ ?_
  ·refine ae9 hE fok152 (nZ rfl) (ae1 .aa1) ?_;simp only[ic152,go_sem,ai2];exact .bu6
  ·refine ae9 hE fok152 (nZ rfl) (ae1 .af6) ?_;simp only[ic152,go_sem,ai2];rw[bd2 (by simp only[aa7,if_true]) rfl];simp only[go_sem]
   exact .dc2 _ _ _ (by simp only[aa7,if_true]; exact fun h=>(by cases h))
 | cons a as'=>
  have hne:xs.map Job.cs≠[]:=by rw[hx]; exact fun h=>(by cases h)
  have hall:∀ e∈xs.map Job.cs,e.length=6/\e.all IV.leaf=true:=fun e he=>by
   obtain ⟨x,_,rfl⟩:=List.mem_map.1 he;exact ⟨ax9 x,ar1 x⟩
  rw[<- hx];refine ae9 hE fok152 (nZ rfl) (ae1 (cb2 xs)) ?_;have hnil:∀ d,bt8 (.slice d) (.aa5 (xs.map Job.cs))=some false:=fun d=>by rw[hx]; rfl
  simp only[ic152,go_sem,ai2,hnil];rw[bu9 (by simp only[aa7,if_true]) hne hall (by rw[List.length_map]; exact hn)];simp only[go_sem];refine Grow.frz (esz:=6) (es:=xs.map Job.cs) (.inr ⟨1,by rw[List.length_map],by simp only[aa7,if_true],Nat.lt_succ_self _⟩) (fun x hx=>(hall x hx).1) (fun _ _=>Nat.not_lt_zero _) (ak5 (cb2 xs))
theorem ee4 (xs:List bc1)(hn:xs.length<=2147483648):PC Tryz.prog EE 153 [.aa5 (xs.map bc1.cs)] (.aa5 (xs.map bc1.cs)):=by
 cases hx:xs with
 | nil=>
  rw[List.map_nil];refine bm7 ?_ ?_
  ·refine ae9 hE fok153 (nZ rfl) (ae1 .aa1) ?_;simp only[ic153,go_sem,ai2];exact .bu6
  ·refine ae9 hE fok153 (nZ rfl) (ae1 .af6) ?_;simp only[ic153,go_sem,ai2];rw[bd2 (by simp only[aa7,if_true]) rfl];simp only[go_sem]
   exact .dc2 _ _ _ (by simp only[aa7,if_true]; exact fun h=>(by cases h))
 | cons a as'=>
  have hne:xs.map bc1.cs≠[]:=by rw[hx]; exact fun h=>(by cases h)
  have hall:∀ e∈xs.map bc1.cs,e.length=2/\e.all IV.leaf=true:=fun e he=>by
   obtain ⟨x,_,rfl⟩:=List.mem_map.1 he;exact ⟨ar2 x,aj6 x⟩
  rw[<- hx];refine ae9 hE fok153 (nZ rfl) (ae1 (bc5 xs)) ?_;have hnil:∀ d,bt8 (.slice d) (.aa5 (xs.map bc1.cs))=some false:=fun d=>by rw[hx]; rfl
  simp only[ic153,go_sem,ai2,hnil];rw[bu9 (by simp only[aa7,if_true]) hne hall (by rw[List.length_map]; exact hn)];simp only[go_sem];refine Grow.frz (esz:=2) (es:=xs.map bc1.cs) (.inr ⟨1,by rw[List.length_map],by simp only[aa7,if_true],Nat.lt_succ_self _⟩) (fun x hx=>(hall x hx).1) (fun _ _=>Nat.not_lt_zero _) (ak5 (bc5 xs))
end Go.Id.Tryz
set_option linter.all false
namespace Go.Id.Tryz
open Go Go.Id Go.Proofs Go.Shelf Go.Id.Md
set_option maxRecDepth 100000
structure AOK (a:ac5):Prop where
 len:a.l.length<=256
 small:∀ p∈a.l,Pkg.small p
 fit:∀ p∈a.l,p.Fit
 tiny:∀ p∈a.l,p.Tiny
 inst:a.p.inst<=a.l.length
 ai4:a.r.ai4.length<=64
 ai5:a.r.ai5.length<=128
 in2:∀ j∈a.r.ai4,Dep.small j.dep
 ji8:∀ j∈a.r.ai4,1<=j.kind/\j.kind<=4
theorem ah4 (a:ac5):Bnd 0 a.v:=.ab8 _ fun c hc=>by
 simp only[ac5.cs,List.mem_cons,List.not_mem_nil,or_false] at hc;rcases hc with rfl|rfl|rfl|rfl|rfl|rfl|rfl|rfl
 ·exact be2 _
 ·exact bc4 _
 ·exact .int _ _
 ·exact .bool _
 ·exact cb2 _
 ·exact bc5 _
 ·exact .int _ _
 ·exact aw3 _
theorem as2 {d:TypeId}{c:IV}{cs:List IV}:bt8 (.pointer d) (.ab8 (c::cs))=some false:=rfl
theorem cq7 (a:ac5)(n:Int):PC Tryz.prog EE 65 [a.v,.int .i64 n] (.bool (a.is n)):=by
 refine ae9 hE fok65 (nZ rfl) (aj9 (ah4 a) (.int _ _)) ?_;unfold ac5.is ac5.v ac5.cs;have hl:(a.l.map aa3.cs).length=a.l.length:=List.length_map ..;generalize a.l.map aa3.cs=es at *;generalize a.l.length=k at *;by_cases h1:0<=n
 ·by_cases h2:n<(k:Nat)
  ·simp only[ic65,go_sem,as2,h1,h2,hl]; exact ab2 rfl
  ·simp only[ic65,go_sem,as2,h1,h2,hl]; exact ab2 rfl
 ·simp only[ic65,go_sem,as2,h1]; exact ab2 rfl
theorem cy6 (a:ac5)(n:Int):PC Tryz.prog EE 71 [a.v,.int .i64 n] (.bool (a.job n)):=by
 refine ae9 hE fok71 (nZ rfl) (aj9 (ah4 a) (.int _ _)) ?_;unfold ac5.job ac5.v ac5.cs;by_cases h1:0<=n
 ·by_cases h2:n<(a.r.ai4.length:Nat)
  ·simp only[ic71,go_sem,as2,h1,h2]; exact ab2 (by simp[h1, *])
  ·simp only[ic71,go_sem,as2,h1,h2]; exact ab2 (by simp[h1, *])
 ·simp only[ic71,go_sem,as2,h1]; exact ab2 rfl
theorem bh9 (a:ac5)(n:Int):PC Tryz.prog EE 167 [a.v,.int .i64 n] (.bool (a.inst n)):=by
 refine ae9 hE fok167 (nZ rfl) (aj9 (ah4 a) (.int _ _)) ?_;have h:=cq7 a n;have hp:=az7 a.p;unfold ac5.inst;unfold ac5.v ac5.cs at *;simp only[ic167,go_sem]
 first|refine aa4 fok65 (h) ?_|refine aa2 (h) ?_
 cases a.is n with
 | false=>simp only[go_sem]; exact ab2 rfl
 | true=>
  simp only[go_sem]
  first|refine aa4 fok88 (hp) ?_|refine aa2 (hp) ?_
  simp only[go_sem];exact ab2 rfl
theorem dm7 (a:ac5)(n:Int):PC Tryz.prog EE 29 [a.v,.int .i64 n] (.bool (a.fits n)):=by
 refine ae9 hE fok29 (nZ rfl) (aj9 (ah4 a) (.int _ _)) ?_;have h:=cq7 a n;have hf:=ij4 a.r.au2 (a.pk n).au2;unfold ac5.fits
 cases hi:a.is n with
 | false=>
  rw[hi] at h;unfold ac5.v ac5.cs at *;simp only[ic29,go_sem]
  first|refine aa4 fok65 (h) ?_|refine aa2 (h) ?_
  simp only[go_sem]; exact ab2 rfl
 | true=>
  rw[hi] at h;unfold ac5.is at hi;simp only[Bool.and_eq_true,decide_eq_true_eq] at hi;have hl:(a.l.map aa3.cs).length=a.l.length:=List.length_map ..;have c1:n.toNat<a.l.length:=by omega
  have hg:(a.l.map aa3.cs).getD n.toNat []=(a.pk n).cs:=by
   unfold ac5.pk;rw[getD_at _ _ c1];simp[List.getD_eq_getElem?_getD,c1]
  have p4:((a.pk n).cs.drop 4).head? = some (.int .u8 (a.pk n).au2):=rfl;unfold ac5.v ac5.cs at *;generalize a.pk n=q at *;generalize a.l.map aa3.cs=es at *;have c2:n<(es.length:Nat):=by omega
  simp only[ic29,go_sem]
  first|refine aa4 fok65 (h) ?_|refine aa2 (h) ?_
  simp only[go_sem,hi.1,c2,hg,p4,ag9]
  first|refine aa4 fok66 (hf) ?_|refine aa2 (hf) ?_
  simp only[go_sem];exact ab2 rfl
theorem be7 (a:ac5)(k n:Int)(hA:AOK a):PC Tryz.prog EE 72 [a.v,.int .u8 k,.int .i64 n] (.bool (a.bz6 k n)):=by
 refine ae9 hE fok72 (nZ rfl) (ba2 (ah4 a) (.int _ _) (.int _ _)) ?_;have h:=fq8 a.r.ai5 ⟨k,n⟩ (by have:=hA.ai5; omega);unfold ac5.bz6;unfold ac5.v ac5.cs;unfold bc1.cs at h;simp only[ic72,go_sem]
 first|refine aa4 fok128 (h) ?_|refine aa2 (h) ?_
 simp only[go_sem];exact ab2 rfl
theorem cb5 (a:ac5)(n:Int)(hA:AOK a):PC Tryz.prog EE 32 [a.v,.int .i64 n] (.bool (a.dropped n)):=by
 refine ae9 hE fok32 (nZ rfl) (aj9 (ah4 a) (.int _ _)) ?_;have h:=cy6 a n;have h2:=be7 a 1 n hA;unfold ac5.dropped;simp only[ic32,go_sem]
 first|refine aa4 fok71 (h) ?_|refine aa2 (h) ?_
 cases a.job n with
 | false=>simp only[go_sem]; exact ab2 rfl
 | true=>
  simp only[go_sem]
  first|refine aa4 fok72 (h2) ?_|refine aa2 (h2) ?_
  simp only[go_sem];exact ab2 rfl
theorem hg7 (a:ac5){n:Int}(h:a.is n=true):0<=n/\n<(a.l.map aa3.cs).length/\(a.l.map aa3.cs).getD n.toNat []=(a.pk n).cs/\a.pk n∈a.l:=by
 unfold ac5.is at h;simp only[Bool.and_eq_true,decide_eq_true_eq] at h;have c1:n.toNat<a.l.length:=by omega
 refine ⟨h.1,by rw[List.length_map]; exact h.2,?_,?_⟩
 ·unfold ac5.pk;rw[getD_at _ _ c1];simp[List.getD_eq_getElem?_getD,c1]
 ·unfold ac5.pk;rw[getD_at _ _ c1];exact List.getElem_mem c1
theorem ex9 (p:aa3):(p.cs.drop 1).length=14:=rfl
theorem eo8 (a:ac5)(n m:Int)(hA:AOK a):PC Tryz.prog EE 30 [a.v,.int .i64 n,.int .i64 m] (.bool (a.twins n m)):=by
 refine ae9 hE fok30 (nZ rfl) (ba2 (ah4 a) (.int _ _) (.int _ _)) ?_;have hn:=cq7 a n;have hm:=cq7 a m;unfold ac5.twins
 cases i1:a.is n with
 | false=>
  rw[i1] at hn;unfold ac5.v ac5.cs at *;simp only[ic30,go_sem]
  first|refine aa4 fok65 (hn) ?_|refine aa2 (hn) ?_
  simp only[go_sem]; exact ab2 rfl
 | true=>
 cases i2:a.is m with
 | false=>
  rw[i1] at hn;rw[i2] at hm;unfold ac5.v ac5.cs at *;simp only[ic30,go_sem]
  first|refine aa4 fok65 (hn) ?_|refine aa2 (hn) ?_
  simp only[go_sem]
  first|refine aa4 fok65 (hm) ?_|refine aa2 (hm) ?_
  simp only[go_sem]; exact ab2 rfl
 | true=>
 obtain ⟨n1,n2,n3,n4⟩:=hg7 a i1;obtain ⟨m1,m2,m3,m4⟩:=hg7 a i2;rw[i1] at hn;rw[i2] at hm;have hap:=ex5 (a.pk n).au2 (a.pk m).au2;have hev:=bj6 (a.pk n).evr (a.pk m).evr (hA.small _ n4).1 (hA.small _ m4).1;unfold ac5.ho9;unfold ac5.v ac5.cs at *;generalize a.pk n=p at *;generalize a.pk m=q at *;generalize a.l.map aa3.cs=es at *;by_cases e:n=m
 ·simp only[ic30,go_sem]
  first|refine aa4 fok65 (hn) ?_|refine aa2 (hn) ?_
  simp only[go_sem]
  first|refine aa4 fok65 (hm) ?_|refine aa2 (hm) ?_
  simp only[go_sem,e]; exact ab2 (by simp)
 have p0:p.cs.head? = some (.str p.name):=rfl;have q0:q.cs.head? = some (.str q.name):=rfl;have p4:(p.cs.drop 4).head? = some (.int .u8 p.au2):=rfl;have q4:(q.cs.drop 4).head? = some (.int .u8 q.au2):=rfl;have p1:(p.cs.drop 1).take 3=p.evr.cs:=rfl;have q1:(q.cs.drop 1).take 3=q.evr.cs:=rfl;simp only[ic30,go_sem]
 first|refine aa4 fok65 (hn) ?_|refine aa2 (hn) ?_
 simp only[go_sem]
 first|refine aa4 fok65 (hm) ?_|refine aa2 (hm) ?_
 simp only[go_sem,e,n1,n2,n3,m1,m2,m3,ag9,ah2,ad1,p0,q0];by_cases e2:p.name=q.name
 ·simp only[go_sem,e2,p4,q4]
  first|refine aa4 fok67 (hap) ?_|refine aa2 (hap) ?_
  cases ea8 p.au2 q.au2 with
  | false=>simp only[go_sem]; exact ab2 rfl
  | true=>
   simp only[go_sem,ag9,p1,q1,ex9]
   first|refine aa4 fok68 (hev) ?_|refine aa2 (hev) ?_
   simp only[go_sem];exact ab2 (by simp)
 ·simp only[go_sem,e2];exact ab2 (by simp)
theorem cq8 (j:Job):(j.cs.drop 1).take 5=j.dep.cs:=rfl
theorem cy7 (a:ac5)(k n:Int)(hA:AOK a):PC Tryz.prog EE 168 [a.v,.int .u8 k,.int .i64 n] (.bool (a.bv8 k n)):=by
 refine ae9 hE fok168 (nZ rfl) (ba2 (ah4 a) (.int _ _) (.int _ _)) ?_;have hD:∀ i:Nat,i<a.r.ai4.length->PC Tryz.prog EE 32 [a.v,.int .i64 i] (.bool (a.dropped i)):=fun i _=>cb5 a i hA
 have hN:∀ (i:Nat) (h:i<a.r.ai4.length),PC Tryz.prog EE 101 [(ah8 a.l).v,.agg (a.jb i).dep.cs] (.aa5 ((an9 a.l (a.jb i).dep).map Md.ah6)):=fun i h=>
  bv9 a.l (a.jb i).dep (by have:=hA.len; omega) hA.small (hA.in2 _ (by
   have e:a.jb i=a.r.ai4[i]:=by simp[ac5.jb,List.getD_eq_getElem?_getD,h]
   rw[e]; exact List.getElem_mem h))
 have hH:∀ i:Nat,PC Tryz.prog EE 151 [.aa5 ((an9 a.l (a.jb i).dep).map Md.ah6),.int .i64 n] (.bool (decide (n∈an9 a.l (a.jb i).dep))):=fun i=>
  ca8 _ n (by have h1:=al8 (fun p=>named p (a.jb i).dep) a.l; have:=hA.len; have:(an9 a.l (a.jb i).dep).length<=a.l.length:=h1; omega)
 have hg:∀ i:Nat,i<a.r.ai4.length->(a.r.ai4.map Job.cs).getD i []=(a.jb i).cs:=fun i h=>by simp[ac5.jb,List.getD_eq_getElem?_getD,h]
 have hlen:=hA.ai4;unfold ac5.bv8;unfold ac5.v ac5.cs at *;simp only[ic168,go_sem];generalize a.dropped=dr at *;generalize a.jb=jb at *;generalize an9 a.l=nm at *;refine ab7 noT (fun i fr s=>fr=[(0,.ab8 [a.p.v,(ah8 a.l).v,.int .u8 a.r.au2,.bool a.r.vendor,bi9 a.r.ai4,au9 a.r.ai5,.int .i64 a.r.budget,.aa5 (a.l.map aa3.cs)]),(1,.int .u8 k),(2,.int .i64 n),(13,.aa5 (a.r.ai4.map Job.cs)),(14,.int .i64 a.r.ai4.length),(15,.int .i64 (i:Int))]/\((List.range i).any fun i=>decide ((jb i).kind=k)&&!dr i&&decide (n∈nm (jb i).dep))=false) a.r.ai4.length ⟨rfl,rfl⟩ ?_;rintro i fr t hi ⟨rfl,hf⟩;by_cases hlt:i<a.r.ai4.length
 ·have c1:(i:Int)<a.r.ai4.length:=by omega
  have c2:(0:Int)<=i:=by omega
  have w1:=ad4 (i:=i) (by omega);have hgi:=hg i hlt;have hDi:=hD i hlt;have hNi:=hN i hlt;have hHi:=hH i
  have hex:∀ b,(decide ((jb i).kind=k)&&!dr i&&decide (n∈nm (jb i).dep))=b->(b=true->((List.range a.r.ai4.length).any fun i=>decide ((jb i).kind=k)&&!dr i&&decide (n∈nm (jb i).dep))=true)/\(b=false->((List.range i++[i]).any fun i=>decide ((jb i).kind=k)&&!dr i&&decide (n∈nm (jb i).dep))=false):=by
   intro b hb;refine ⟨fun h=>List.any_eq_true.2 ⟨i,List.mem_range.2 hlt,by rw[hb]; exact h⟩,fun h=>?_⟩;rw[List.any_append,hf];simp only[List.any_cons,List.any_nil,Bool.or_false,Bool.false_or,hb,h]
  clear hD hN hH hg;have j0:(jb i).cs.head? = some (.int .u8 (jb i).kind):=rfl;have j1:=cq8 (jb i);have j2:((jb i).cs.drop 1).length=5:=rfl;generalize jb i=j at *;simp only[go_sem,c1,c2,hgi,ax9,ba7,ar1,j0];by_cases e1:j.kind=k
  ·simp only[go_sem,e1]
   first|refine aa4 fok32 (hDi) ?_|refine aa2 (hDi) ?_
   cases e2:dr (i:Int) with
   | true=>
    simp only[go_sem,w1]
    exact ⟨hlt,(hex _ rfl).2 (by simp[e2])⟩
   | false=>
    simp only[go_sem,j1,j2]
    first|refine aa4 fok101 (hNi) ?_|refine aa2 (hNi) ?_
    simp only[go_sem]
    first|refine aa4 fok151 (hHi) ?_|refine aa2 (hHi) ?_
    by_cases e3:n∈nm j.dep
    ·simp only[go_sem,e3];exact ab2 ((hex _ rfl).1 (by simp[e1,e2,e3])).symm
    ·simp only[go_sem,e3,w1];exact ⟨hlt,(hex _ rfl).2 (by simp[e3])⟩
  ·simp only[go_sem,e1,w1];exact ⟨hlt,(hex _ rfl).2 (by simp[e1])⟩
 ·have hi':i=a.r.ai4.length:=by omega
  subst hi';have c1:¬ (a.r.ai4.length:Int)<(a.r.ai4.length:Int):=by omega
  simp only[go_sem,c1];exact ab2 hf.symm
theorem fq9 (a:ac5)(n:Int)(hA:AOK a):PC Tryz.prog EE 156 [a.v,.int .i64 n] (.bool (a.goes n)):=by
 refine ae9 hE fok156 (nZ rfl) (aj9 (ah4 a) (.int _ _)) ?_;have h:=bh9 a n;have h2:=cy7 a 2 n hA;have h3:=be7 a 2 n hA;unfold ac5.goes;simp only[ic156,go_sem]
 first|refine aa4 fok167 (h) ?_|refine aa2 (h) ?_
 cases a.inst n with
 | false=>simp only[go_sem]; exact ab2 rfl
 | true=>
  simp only[go_sem]
  first|refine aa4 fok168 (h2) ?_|refine aa2 (h2) ?_
  cases a.bv8 2 n with
  | true=>simp only[go_sem]; exact ab2 rfl
  | false=>
   simp only[go_sem]
   first|refine aa4 fok72 (h3) ?_|refine aa2 (h3) ?_
   simp only[go_sem];exact ab2 rfl
theorem cy8 {α:Type}(q:α->Bool):∀ (l:List α) (i:Int),ah5 q l i=-1/\(∀ x∈l,q x=false)\/∃ k,∃ h:k<l.length,ah5 q l i=i+k/\q l[k]=true/\∀ x∈l.take k,q x=false:=by
 intro l
 induction l with
 | nil=>intro i; exact .inl ⟨rfl,fun x h=>by cases h⟩
 | cons a l ih=>
  intro i;simp only[ah5]
  cases hq:q a with
  | true=>exact .inr ⟨0,by simp,by simp,by simpa using hq,fun x h=>by cases h⟩
  | false=>
   simp only[Bool.false_eq_true,if_false];rcases ih (i+1) with ⟨h1,h2⟩|⟨k,h,h1,h2,h3⟩
   ·exact .inl ⟨h1,fun x hx=>by
     rcases List.mem_cons.1 hx with rfl|hx
     ·exact hq
     ·exact h2 x hx⟩
   ·refine .inr ⟨k+1,by simp only[List.length_cons]; omega,by rw[h1]; omega,by simpa using h2,fun x hx=>?_⟩;rw[List.take_succ_cons] at hx;rcases List.mem_cons.1 hx with rfl|hx
    ·exact hq
    ·exact h3 x hx
theorem cy9 {q:Int->Bool}{l:List Int}(h:∀ x∈l,q x=false):(l.filter fun x=>!q x)=l:=List.filter_eq_self.2 fun x hx=>by rw[h x hx]; rfl
theorem ey1 {σ:Store}{id:Nat}{cs:List IV}{zs:List Int}(ho:σ.obj id=some (.row cs))(hct:cs.take zs.length=zs.map da4)(hcl:zs.length<=cs.length):bt7 σ 0 (.slice id 0 zs.length 1) (.aa5 (zs.map Md.ah6)):=by
 refine .slice id 0 zs.length 1 cs (zs.map Md.ah6) (Nat.not_lt_zero _) (.inr ho) (by rw[List.length_map]) (by omega) (fun i hi=>?_) fun i hi j hj=>?_
 ·simp[List.getD_eq_getElem?_getD,hi,Md.ah6]
 ·have hj0:j=0:=by omega
  subst hj0;have e2:((zs.map Md.ah6).getD i []).getD 0 .undef=da4 zs[i]:=by simp[List.getD_eq_getElem?_getD,hi,Md.ah6]
  rw[e2,Nat.zero_add,Nat.mul_one,Nat.add_zero,ei5 hct hi];exact .keep _ (.int _ _)
theorem gl6 {σ:Store}{id g:Nat}{cap cs0:List IV}{zs:List Int}(q:Int->Bool)(hz:zs.length<2^40)(ho:σ.obj id=some (.row cs0))(hct:cs0.take zs.length=zs.map da4)(hcl:zs.length<=cs0.length)
  (hok:okF Tryz.prog g=true) (hcap:∀ c∈cap,Bnd 0 c) (hq:∀ z∈zs,PC Tryz.prog EE g (.int .i64 z::cap) (.bool (q z))) :
  C Tryz.prog EE 161 [.slice id 0 zs.length 1,.func (.func g) [] cap] σ (fun v s=>σ.next<=s.next/\(∀ i,i≠id->s.obj i=σ.obj i) /\
   ∃ cs,v=.slice id 0 (zs.filter fun x=>!q x).length 1/\s.obj id=some (.row cs)/\cs.take (zs.filter fun x=>!q x).length=(zs.filter fun x=>!q x).map da4/\(zs.filter fun x=>!q x).length<=cs.length):=by
 refine C_f fok161 (nZ rfl) ?_;simp only[ic161,go_sem]
 have hI:=bf2 (σ:=σ) (args:=[.slice id 0 zs.length 1,.func (.func g) [] cap]) (args':=[.aa5 (zs.map Md.ah6),.func (.func g) [] cap]) hE rfl (fun i hi=>by
  match i,hi with
  | 0,_=>exact ey1 ho hct hcl
  | 1,_=>exact .keep _ (.func _ _ _ (fun c hc=>by cases hc) hcap)) (by simp[IV.plain]) (cb4 zs g [] cap q (by omega) hok hq)
 refine af1 fok164 hI ?_;rintro v s ⟨rfl,rfl⟩;refine ⟨Nat.le_refl _,?_⟩;rcases cy8 q zs 0 with ⟨h1,h2⟩|⟨i0,hi0,h1,h2,h3⟩
 ·simp only[go_sem,h1,cy9 h2];exact ⟨Nat.le_refl _,fun _ _=>trivial,cs0,ho,hct,hcl⟩
 have h1':ah5 q zs 0=(i0:Int):=by rw[h1]; omega
 have d1:¬ (i0:Int)=-1:=by omega
 have w0:=ad4 (i:=i0) (by omega);simp only[go_sem,h1',d1,w0]
 refine ab7 noT (fun j fr t=>∃ (k:Nat) (cs:List IV),fr=[(0,.slice id 0 zs.length 1),(1,.func (.func g) [] cap),(5,.int .i64 (k:Int)),(6,.int .i64 ((i0+1+j:Nat):Int))] /\
  (s.next<=t.next/\∀ q,q≠id->t.obj q=s.obj q)/\t.obj id=some (.row cs)/\cs.length=cs0.length/\k<=i0+j/\i0+1+j<=zs.length/\k=((zs.take (i0+1+j)).filter fun x=>!q x).length/\cs.take k=((zs.take (i0+1+j)).filter fun x=>!q x).map da4 /\
  ∀ (x:Nat) (h:x<zs.length),i0+j<x->(cs.drop x).head? = some (.int .i64 zs[x])) (zs.length-(i0+1)) ?_ ?_
 ·have e:((zs.take (i0+1)).filter fun x=>!q x)=zs.take i0:=by
   rw[List.take_add_one,List.getElem?_eq_getElem hi0,List.filter_append,cy9 h3];simp[h2]
  refine ⟨i0,cs0,rfl,⟨Nat.le_refl _,fun _ _=>rfl⟩,ho,rfl,by omega,by omega,?_,?_,fun x h _=>?_⟩
  ·rw[Nat.add_zero,e,List.length_take]; omega
  ·rw[Nat.add_zero,e,List.map_take,<- hct,List.take_take];congr 1; omega
  ·have:=ei5 hct h;rw[List.head?_drop];rw[List.getD_eq_getElem?_getD,List.getElem?_eq_getElem (by omega)] at this;rw[List.getElem?_eq_getElem (by omega)];exact congrArg some this
 rintro j fr t hj ⟨k,cs,rfl,⟨un,uo⟩,hoc,hcl2,hk1,hk2,hk3,hk4,hcs⟩;by_cases hlt:j<zs.length-(i0+1)
 ·have e1:((i0+1+j:Nat):Int)<zs.length:=by omega
  have e2:(0:Int)<=((i0+1+j:Nat):Int):=by omega
  have hx:i0+1+j<zs.length:=by omega
  have g1:=hcs (i0+1+j) hx (by omega);have w1:=ad4 (i:=i0+1+j) (by omega);have w2:=ad4 (i:=k) (by omega);have hqz:=hq _ (List.getElem_mem hx);have e3:(0:Int)<=(k:Int):=by omega
  have e4:(k:Int)<zs.length:=by omega
  have e5:k+1<=cs.length:=by omega
  have htk:(zs.take (i0+1+j+1)).filter (fun x=>!q x)=(zs.take (i0+1+j)).filter (fun x=>!q x)++if q zs[i0+1+j] then [] else [zs[i0+1+j]]:=by
   rw[List.take_add_one,List.getElem?_eq_getElem hx,List.filter_append];congr 1;simp only[Option.toList,List.filter_cons,List.filter_nil];cases q zs[i0+1+j]<;>rfl
  simp only[go_sem,e1,e2,hoc,g1,Int.toNat_natCast,Nat.zero_add,Nat.mul_one];refine an1 hok (ej4 hqz) ?_;rintro v u ⟨rfl,rfl⟩;refine ⟨Nat.le_refl _,?_⟩
  cases hb:q zs[i0+1+j] with
  | true=>
   rw[hb,if_pos rfl,List.append_nil] at htk;simp only[go_sem,w1]
   exact ⟨hlt,k,cs,rfl,⟨un,uo⟩,hoc,hcl2,by omega,by omega,by rw[show i0+1+(j+1)=i0+1+j+1 by omega,htk]; exact hk3,by rw[show i0+1+(j+1)=i0+1+j+1 by omega,htk]; exact hk4,fun x h hx=>hcs x h (by omega)⟩
  | false=>
   rw[hb,if_neg (by simp)] at htk;simp only[go_sem,w1,w2,e3,e4,e5,hoc,Int.toNat_natCast,Nat.zero_add,Nat.mul_one];refine ⟨hlt,k+1,ay1 cs k [.int .i64 zs[i0+1+j]],rfl,⟨un,fun q hq=>?_⟩,?_,?_,by omega,by omega,?_,?_,fun x h hx=>?_⟩
   ·simp only[if_neg hq]; exact uo q hq
   ·rfl
   ·rw[ai6 (by rw[List.length_singleton]; omega)]; exact hcl2
   ·rw[show i0+1+(j+1)=i0+1+j+1 by omega,htk,List.length_append,<- hk3]; rfl
   ·rw[show i0+1+(j+1)=i0+1+j+1 by omega,htk,dm4 (by omega),hk4,List.map_append]; rfl
   ·rw[dm5 (by omega) (by omega)];exact hcs x h (by omega)
 ·have hj':i0+1+j=zs.length:=by omega
  have e1:¬ ((i0+1+j:Nat):Int)<zs.length:=by omega
  rw[hj',List.take_length] at hk3 hk4;have hkn:k<zs.length:=by omega
  simp only[go_sem,e1,gk8 (show k<=zs.length by omega),hs8 (show k<=zs.length by omega),hoc,ij1,gk9 hoc hkn (by omega)];have hrl:(rep [IV.int .i64 0] (zs.length-k)).length=zs.length-k:=by rw[aq6]; simp
  refine ⟨un,fun q hq=>?_,ay1 cs k (rep [IV.int .i64 0] (zs.length-k)),by rw[hk3],by simp only[aa7,if_true],?_,?_⟩
  ·simp only[aa7,if_neg hq]; exact uo q hq
  ·rw[<- hk3,cy4 (by omega)]; exact hk4
  ·rw[ai6 (by rw[hrl]; omega),<- hk3]; omega
theorem eo9 (a:ac5)(down other:Bool)(old q:aa3)(h1:Pkg.small old)(h2:Pkg.small q):PC Tryz.prog EE 169 [.agg q.cs,.ab8 old.cs,.ab8 [.bool down],.ab8 [.bool other],.ab8 [a.v]] (.bool (ac5.ea9 a.r.vendor down other old q)):=by
 refine ae9 hE fok169 (nZ rfl) (it3 (an3 _) (.ab8 _ (az5 _)) (.ab8 _ (ai8 (.bool _))) (.ab8 _ (ai8 (.bool _))) (.ab8 _ (ai8 (ah4 a)))) ?_;have hf:=fq6 q.au2 old.au2;have hev:=bj6 q.evr old.evr h2.1 h1.1;have p0:q.cs.head? = some (.str q.name):=rfl;have q0:old.cs.head? = some (.str old.name):=rfl;have p4:(q.cs.drop 4).head? = some (.int .u8 q.au2):=rfl;have q4:(old.cs.drop 4).head? = some (.int .u8 old.au2):=rfl;have p5:(q.cs.drop 5).head? = some (.str q.vendor):=rfl;have q5:(old.cs.drop 5).head? = some (.str old.vendor):=rfl;have p1:(q.cs.drop 1).take 3=q.evr.cs:=rfl;have q1:(old.cs.drop 1).take 3=old.evr.cs:=rfl;unfold ac5.ea9;unfold ac5.v ac5.cs;by_cases e1:q.name=old.name
 case neg=>
  simp only[ic169,go_sem,ag9,ah2,ad1,p0,q0,e1];exact ab2 (by simp)
 simp only[ic169,go_sem,ag9,ah2,ad1,p0,q0,e1];cases down
 case' true=>simp only[go_sem]
 case' false=>
  simp only[go_sem,ex9,p1,q1]
  first|refine aa4 fok68 (hev) ?_|refine aa2 (hev) ?_
  by_cases e2:0<=av8 q.evr old.evr
  case neg=>
   simp only[go_sem,e2];exact ab2 (by simp)
  simp only[go_sem,e2]
 all_goals
  cases other
  case' true=>simp only[go_sem]
  case' false=>
   simp only[go_sem,p4,q4]
   first|refine aa4 fok170 (hf) ?_|refine aa2 (hf) ?_
   cases cp9 q.au2 old.au2
   case false=>
    simp only[go_sem];exact ab2 (by simp)
   simp only[go_sem]
  all_goals
   cases a.r.vendor
   case true=>
    simp only[go_sem];exact ab2 (by simp)
   by_cases e3:q.vendor=old.vendor
   ·simp only[go_sem,p5,q5,e3];exact ab2 (by simp)
   ·simp only[go_sem,p5,q5,e3];exact ab2 (by simp)
theorem cz1 (l:List aa3)(n:Nat)(hl:l.length<2^20)(hn:n<l.length)(hs:∀ p∈l,Pkg.small p)(σ:Store):C Tryz.prog EE 171 [(ah8 l).v,.int .i64 n] σ (da5 σ (al3 l n)):=by
 have hi:=bi8 l;have hlook:=hi.over (l.getD n default).name
 have hsift:∀ (σ:Store) v,(v=.aa5 ((ad3 (ah8 l).over (l.getD n default).name).map Md.ah6)\/v=.aa1/\ad3 (ah8 l).over (l.getD n default).name=[])->C Tryz.prog EE 165 [(ah8 l).v,v,.func (.func 228) [] [.ab8 [.int .i64 n],.ab8 [(ah8 l).v]]] σ (da5 σ (al3 l n)):=by
  intro σ v hv
  have h:=hs9 (ah8 l) (ad3 (ah8 l).over (l.getD n default).name) (by rw[hlook]; have:=al8 (fun p=>decide (∃ d∈p.aa9,d.name=(l.getD n default).name)) l; omega) 228 [.ab8 [.int .i64 n],.ab8 [(ah8 l).v]] (fun k=>decide (k.toNat≠n)&&aa9 (l.getD k.toNat default) (l.getD n default)) fok228.1 (fun k hk=>by
   rw[hlook] at hk;obtain ⟨m,rfl,hm⟩:=numsOf_at hk;refine ⟨m,rfl,by rw[hi.all]; exact hm,?_⟩;have e:(ah8 l).all[m]'(by rw[hi.all]; exact hm)=l[m]:=by simp only[hi.all]
   rw[e,Int.toNat_natCast,getD_at l m hm,getD_at l n hn];exact gk7 l m n hm hn hs) σ
  have e:al3 l n=(ad3 (ah8 l).over (l.getD n default).name).filter fun k=>decide (k.toNat≠n)&&aa9 (l.getD k.toNat default) (l.getD n default):=rfl
  rw[<- e] at h;rcases hv with rfl|⟨rfl,h0⟩
  ·exact h
  ·rw[h0] at h;refine gl3 (args':=[(ah8 l).v,.aa5 [],.func (.func 228) [] [.ab8 [.int .i64 n],.ab8 [(ah8 l).v]]]) rfl (fun i hi=>?_) h;have hw:∀ {v:IV} {σ:Store},Bnd 0 v->Frz σ (fun _=>true=true) v v:=fun h=>.keep _ (h.weak fun _ _=>rfl)
   have hb:=bc4 (ah8 l)
   match i,hi with
   | 0,_=>exact hw hb
   | 1,_=>exact .bu6
   | 2,_=>exact hw (.func _ _ _ (fun c hc=>by cases hc) (aj9 (.ab8 _ (ai8 (.int _ _))) (.ab8 _ (ai8 hb))))
 have hx:(ah8 l).v=.ab8 [.aa5 (l.map aa3.cs),.al6 (nmV (ah8 l).av9),.al6 (nmV (ah8 l).names),.al6 (nmV (ah8 l).over)]:=by
  show IV.ab8 [.aa5 ((ah8 l).all.map aa3.cs),_,_,_]=_;rw[hi.all]
 have his:=ii9 (ah8 l) n
 have i1:(decide ((0:Int)<=(n:Int))&&decide ((n:Int)<(ah8 l).all.length))=true:=by
  rw[hi.all]; simp only[Bool.and_eq_true,decide_eq_true_eq]; omega
 rw[i1] at his
 have hk0:∀ σ:Store,∃ v,cr3 σ 2 .aa1 false (.al6 (nmV (ah8 l).over)) (.str (l.getD n default).name)=some v/\∀ τ,C Tryz.prog EE 165 [(ah8 l).v,v,.func (.func 228) [] [.ab8 [.int .i64 n],.ab8 [(ah8 l).v]]] τ (da5 τ (al3 l n)):=fun σ=>
  let ⟨v,h1,h2⟩:=ew1 (ah8 l).over σ (l.getD n default).name
  ⟨v,h1,fun τ=>hsift τ v h2⟩
 have hg:(l.map aa3.cs).getD n []=l[n].cs:=by simp[List.getD_eq_getElem?_getD,hn]
 have hnm:(l.getD n default).name=l[n].name:=by rw[getD_at l n hn]
 have p0:l[n].cs.head? = some (.str l[n].name):=rfl;have hle:(l.map aa3.cs).length=l.length:=List.length_map ..;clear hsift hlook i1;rw[hnm] at hk0;rw[hx] at hk0 his ⊢;generalize al3 l n=res at *;generalize l.map aa3.cs=a0 at *;generalize l[n]=q at *;have c1:(0:Int)<=n:=by omega
 have c2:(n:Int)<a0.length:=by omega
 refine C_f fok171 (nZ rfl) ?_;simp only[ic171,go_sem]
 first|refine aa4 fok227 (his) ?_|refine aa2 (his) ?_
 simp only[go_sem,c1,c2,hg,p0,ba6,aw5,as8];obtain ⟨v,hk,hsv⟩:=hk0 ⟨σ.next+17,σ.obj⟩;simp only[go_sem,hk];refine af1 fok165 (hsv _) ?_;rintro v' s ⟨hkp,hr⟩;refine ⟨hkp.next,?_⟩;simp only[go_sem];exact ⟨hkp.low,hr.low (Nat.le_add_right _ _)⟩
theorem du6 {σ:Store}{id:Nat}{cs:List IV}(ho:σ.obj id=some (.cells cs))(hb:∀ c∈cs,Bnd 0 c):bt7 σ 0 (.ptr id 0) (.ab8 cs):=by
 refine .ptr id 0 cs cs (Nat.not_lt_zero _) (.inl ho) (by omega) (fun j hj=>?_);rw[Nat.zero_add];exact .keep _ (hb _ (ac9 _ hj))
theorem iy7 (zs:List Int):(ij2 zs).Pairwise (·<=·):=by
 refine List.Pairwise.imp (fun h=>of_decide_eq_true h) (List.pairwise_mergeSort (le:=fun x y:Int=>decide (x<=y)) (fun a b c h1 h2=>?_) (fun a b=>?_) _)
 ·exact decide_eq_true (Int.le_trans (of_decide_eq_true h1) (of_decide_eq_true h2))
 ·rcases Int.le_total a b with h|h
  ·simp[h]
  ·simp[h]
theorem dm8 (a:ac5)(i:Int)(hA:AOK a)(σ:Store):C Tryz.prog EE 103 [a.v,.int .i64 i] σ (ja6 σ (a.ay8 i)):=by
 have hin:=bh9 a i;refine C_f fok103 (nZ rfl) ?_;unfold ac5.ay8
 cases hi:a.inst i with
 | false=>
  rw[hi] at hin;unfold ac5.v ac5.cs at *;simp only[ic103,go_sem]
  first|refine aa4 fok167 (hin) ?_|refine aa2 (hin) ?_
  simp only[go_sem]
  exact ⟨Kept.refl σ,.inl ⟨rfl,rfl⟩⟩
 | true=>
 rw[hi] at hin;have his:a.is i=true:=by unfold ac5.inst at hi; exact (Bool.and_eq_true _ _▸hi).1
 obtain ⟨i1,i2,i3,i4⟩:=hg7 a his;obtain ⟨m,rfl⟩:∃ m:Nat,i=m:=⟨i.toNat,by omega⟩;have hml:m<a.l.length:=by rw[List.length_map] at i2; omega
 have e3:=be7 a 3 m hA;have e4:=be7 a 4 m hA;have n4:=cy7 a 4 m hA;have hob:=cz1 a.l m (by have:=hA.len; omega) hml hA.small;have hlen:=hA.len
 have hall:∀ n (h:n<a.l.length),(a.l.map aa3.cs).getD n []=(a.pk n).cs/\a.pk (n:Int)∈a.l:=fun n h=>by
  have hn:a.is (n:Int)=true:=by rw[ac5.iu6]; exact decide_eq_true h
  obtain ⟨_,_,h3,h4⟩:=hg7 a hn;exact ⟨by simpa using h3,h4⟩
 have hfl:∀ down other n (h:n<a.l.length),PC Tryz.prog EE 169 [.agg (a.pk n).cs,.ab8 (a.pk m).cs,.ab8 [.bool down],.ab8 [.bool other],.ab8 [a.v]] (.bool (ac5.ea9 a.r.vendor down other (a.pk m) (a.pk n))):=
  fun down other n h=>eo9 a down other _ _ (hA.small _ i4) (hA.small _ (hall n h).2)
 have hba:=ah4 a;unfold ac5.jk4;unfold ac5.v ac5.cs at *;generalize (ah8 a.l).v=X at *;generalize a.p.v=Pv at *;have c0:(0:Int)<=m:=by omega
 have c2:(m:Int)<a.l.length:=by omega
 have hgm:=(hall m hml).1;generalize hdn:(a.bz6 3 m||a.bv8 4 m)=down;generalize hot:a.bz6 4 m=other at *;simp only[ic103,go_sem]
 first|refine aa4 fok167 (hin) ?_|refine aa2 (hin) ?_
 simp only[go_sem,c0,c2,hgm,ag9,ah2,ad1];cases h3:a.bz6 3 m
 case' true=>
  rw[h3] at hdn e3;have hd:true=down:=by simpa using hdn
  first|refine aa4 fok72 (e3) ?_|refine aa2 (e3) ?_
  simp only[go_sem]
 case' false=>
  rw[h3] at hdn e3;have hd:a.bv8 4 m=down:=by simpa using hdn
  first|refine aa4 fok72 (e3) ?_|refine aa2 (e3) ?_
  simp only[go_sem]
  first|refine aa4 fok168 (n4) ?_|refine aa2 (n4) ?_
  simp only[go_sem]
 all_goals
  first|refine aa4 fok72 (e4) ?_|refine aa2 (e4) ?_
  simp only[go_sem];refine af1 fok171 (hob _) ?_;rintro v s ⟨hk0,hr0⟩;refine ⟨hk0.next,?_⟩;simp only[go_sem];have g1:¬ σ.next=σ.next+1+1:=by omega
  have g2:¬ σ.next=σ.next+1:=by omega
  have g3:¬ σ.next+1=σ.next+1+1:=by omega
  have b5:s.obj σ.next=some (.cells (a.pk m).cs):=(hk0.obj σ.next (by show σ.next<σ.next+_; omega)).trans (by simp only[aa7,g1,g2,if_true,if_false]);have b6:s.obj (σ.next+1)=some (.cells [.bool down]):=(hk0.obj (σ.next+1) (by show σ.next+1<σ.next+_; omega)).trans (by simp only[aa7,g3,if_true,if_false,hd]);have b7:s.obj (σ.next+1+1)=some (.cells [.bool other]):=(hk0.obj (σ.next+1+1) (by show σ.next+1+1<σ.next+_; omega)).trans (by simp only[aa7,if_true])
  have blo:∀ i,i<σ.next->s.obj i=σ.obj i:=fun i hi=>(hk0.obj i (by show i<σ.next+_; omega)).trans (by
   have u1:¬ i=σ.next:=by omega
   have u2:¬ i=σ.next+1:=by omega
   have u3:¬ i=σ.next+1+1:=by omega
   simp only[aa7,u1,u2,u3,if_false])
  have bnx:σ.next+1+1+1<=s.next:=Nat.le_trans (by show σ.next+1+1+1<=σ.next+_; omega) hk0.next;have hr1:aw6 s (σ.next+1+1+1) v (al3 a.l m):=hr0.low (by show σ.next+1+1+1<=σ.next+_; omega);clear hk0 hr0 hob e3 e4 n4 hin;generalize hq:(fun n:Nat=>decide ((n:Int)=m)||ac5.ea9 a.r.vendor down other (a.pk m) (a.pk n))=qq;have hqn:∀ n,qq n=(decide ((n:Int)=m)||ac5.ea9 a.r.vendor down other (a.pk m) (a.pk n)):=fun n=>by rw[<- hq]
  have hobl:=cy3 a.l m;have obm:=fun k=>cy2 (l:=a.l) (n:=m) (k:=k)
  generalize al3 a.l m=ob at *
  refine ab7 noT (fun n fr t=>∃ gv,fr=[(1,.int .i64 (m:Int)),(8,.func (.func 169) [] [.ptr σ.next 0,.ptr (σ.next+1) 0,.ptr (σ.next+1+1) 0,.ab8 [.ab8 [Pv,X,.int .u8 a.r.au2,.bool a.r.vendor,bi9 a.r.ai4,au9 a.r.ai5,.int .i64 a.r.budget,.aa5 (a.l.map aa3.cs)]]]),(9,gv),(44,.aa5 (a.l.map aa3.cs)),(45,.int .i64 a.l.length),(46,.int .i64 (n:Int))] /\
   Kept ⟨σ.next+1+1+1,s.obj⟩ t/\aw6 t (σ.next+1+1+1) gv (ob++bj1 qq n)) a.l.length ⟨v,rfl,⟨bnx,fun _ _=>rfl⟩,by rw[show bj1 qq 0=[] from rfl,List.append_nil]; exact hr1⟩ ?_
  rintro n fr t hn ⟨gv,rfl,hk,hg⟩;by_cases hlt:n<a.l.length
  ·have d1:(n:Int)<a.l.length:=by omega
   have d2:(0:Int)<=n:=by omega
   have w1:=ad4 (i:=n) (by omega);have hgn:=(hall n hlt).1;have hpn:=hfl down other n hlt;have hsn:=fn6 qq n;have hln:=cv9 qq n;have hzl:(ob++bj1 qq n).length<2147483648:=by rw[List.length_append]; omega
   have n5:¬ σ.next=t.next:=by have:=hk.next; show ¬ _; intro e; have:σ.next+1+1+1<=t.next:=this; omega
   have n6:¬ σ.next+1=t.next:=by have:=hk.next; intro e; have:σ.next+1+1+1<=t.next:=this; omega
   have n7:¬ σ.next+1+1=t.next:=by have:=hk.next; intro e; have:σ.next+1+1+1<=t.next:=this; omega
   have t5:=(hk.obj σ.next (by show σ.next<σ.next+1+1+1; omega)).trans b5;have t6:=(hk.obj (σ.next+1) (by show σ.next+1<σ.next+1+1+1; omega)).trans b6;have t7:=(hk.obj (σ.next+1+1) (by show σ.next+1+1<σ.next+1+1+1; omega)).trans b7;by_cases e:(n:Int)=m
   case' pos=>
    have hqt:qq n=true:=by rw[hqn,e]; simp
    have e':n=m:=by omega
    subst e';simp only[go_sem,d1,d2,hgn,ag9,ah2,ad1,eq_self]
   case' neg=>
    simp only[go_sem,d1,d2,hgn,ag9,ah2,ad1,e]
    refine an1 fok169.1 (bf2 (args':=[.agg (a.pk n).cs,.ab8 (a.pk m).cs,.ab8 [.bool down],.ab8 [.bool other],.ab8 [.ab8 [Pv,X,.int .u8 a.r.au2,.bool a.r.vendor,bi9 a.r.ai4,au9 a.r.ai5,.int .i64 a.r.budget,.aa5 (a.l.map aa3.cs)]]]) hE rfl (fun i hi=>by
     match i,hi with
     | 0,_=>exact .keep _ (an3 _)
     | 1,_=>exact du6 (by simp only[aa7,n5,if_false]; exact t5) (az5 _)
     | 2,_=>exact du6 (by simp only[aa7,n6,if_false]; exact t6) (ai8 (.bool _))
     | 3,_=>exact du6 (by simp only[aa7,n7,if_false]; exact t7) (ai8 (.bool _))
     | 4,_=>exact .keep _ (.ab8 _ (ai8 hba))) (by simp[IV.plain]) hpn) ?_
    rintro v' u ⟨rfl,rfl⟩;refine ⟨Nat.le_refl _,?_⟩;cases hfb:ac5.ea9 a.r.vendor down other (a.pk m) (a.pk n)
    case' false=>
     have hqt:qq n=false:=by rw[hqn,hfb]; simp[e]
     rw[hqt] at hsn;simp only[go_sem,w1];rw[if_neg (by simp),List.append_nil] at hsn;exact ⟨hlt,gv,rfl,hk.trans (Kept.box t _ _),by rw[hsn]; exact hg.kept (Kept.box t _ _)⟩
    have hqt:qq n=true:=by rw[hqn,hfb]; simp
    simp only[go_sem]
   all_goals
    rw[hqt,if_pos rfl] at hsn;rw[ga2 (s:=⟨t.next+1+1,_⟩) (lo:=σ.next+1+1+1) (zs:=ob++bj1 qq n) ((hg.kept (Kept.box t _ _)).up 1) (n:Int) hzl];simp only[go_sem,w1];have hz:=es5 (hk.trans (Kept.box t (.cells [.str [],.int .i64 0,.str [],.str [],.int .u8 0,.str [],.aa1,.aa1,.aa1,.aa1,.aa1,.aa1,.aa1,.aa1,.aa1]) (.cells (a.pk n).cs))) (hg.kept (Kept.box t _ _)) (n:Int) (a:=1) (nid:=t.next+1) (Nat.le_refl _) (Nat.lt_succ_self _) rfl;rw[hsn,<- List.append_assoc];exact ⟨hlt,_,rfl,hz.1,hz.2⟩
  ·have hn':n=a.l.length:=by omega
   subst hn';have d1:¬ (a.l.length:Int)<(a.l.length:Int):=by omega
   simp only[go_sem,d1];have hln:=cv9 qq a.l.length;have hzl:(ob++bj1 qq a.l.length).length<2^20:=by rw[List.length_append]; omega
   have hmm:(m:Int)∈ob++bj1 qq a.l.length:=List.mem_append_right _ (bz5.2 ⟨m,rfl,hml,by rw[hqn]; simp⟩)
   have hfin:∀ D:List Int,D.Pairwise (· < ·)->(∀ x,x∈D↔x∈ob++bj1 qq a.l.length)->D=bj1 (fun n=>decide ((n:Int)=m)||ac5.ea9 a.r.vendor down other (a.pk m) (a.pk n)||(!decide ((n:Int)=m)&&aa9 (a.pk n) (a.pk m))) a.l.length:=fun D h1 h2=>gl2 h1 (gw6 _ _) fun x=>by
    rw[h2,List.mem_append,obm,bz5,bz5];constructor
    ·rintro (⟨u,rfl,h3,h4,h5⟩|⟨u,rfl,h3,h4⟩)
     ·refine ⟨u,rfl,h3,?_⟩;have h6:¬ (u:Int)=m:=by omega
      simp only[ac5.pk,Int.toNat_natCast,h5,h6,decide_false,Bool.not_false,Bool.and_self,Bool.or_true]
     ·rw[hqn] at h4;exact ⟨u,rfl,h3,by rw[h4,Bool.true_or]⟩
    ·rintro ⟨u,rfl,h3,h4⟩;rw[Bool.or_eq_true] at h4;rcases h4 with h4|h4
     ·exact .inr ⟨u,rfl,h3,by rw[hqn]; exact h4⟩
     ·simp only[Bool.and_eq_true,Bool.not_eq_true',decide_eq_false_iff_not,ac5.pk,Int.toNat_natCast] at h4;exact .inl ⟨u,rfl,h3,by omega,h4.2⟩
   generalize ob++bj1 qq a.l.length=zs at *;rcases hg with ⟨_,h0⟩|⟨id,hid1,hid2,rfl,ho⟩
   ·rw[h0] at hmm; cases hmm
   refine af1 fok172 (fq5 (zs:=zs) (by omega) ho) ?_;rintro v s' ⟨rfl,rfl⟩;refine ⟨by show t.next<=_; exact Nat.le_refl _,?_⟩;simp only[go_sem];have hsl:(ij2 zs).length=zs.length:=List.length_mergeSort _;have hc:=gl1 (σ:=t.put id (.row ((ij2 zs).map (IV.int .i64)))) (id:=id) (zs:=ij2 zs) (by omega) (by simp only[aa7,if_true]) (iy7 zs);rw[hsl] at hc;refine af1 fok173 hc ?_;rintro v s' ⟨⟨D,cs,q1,q2,rfl,q4,q5,q6⟩,hsn,hso⟩;refine ⟨hsn,?_⟩;have hD:=hfin D q1 fun x=>(q2 x).trans List.mem_mergeSort
   simp only[go_sem];have hsn':t.next<=s'.next:=hsn;have hkn:σ.next+1+1+1<=t.next:=hk.next;rw[<- hD];refine ⟨⟨by omega,fun i hi=>?_⟩,.inr ⟨id,cs,by omega,by omega,rfl,q4,q5,q6⟩⟩;have hne:i≠id:=by omega
   rw[hso i hne];show (if i=id then _ else t.obj i)=_;rw[if_neg hne,hk.obj i (by show i<σ.next+1+1+1; omega)];exact blo i hi
theorem cz2 (a:ac5)(i:Int)(hA:AOK a):PC Tryz.prog EE 103 [a.v,.int .i64 i] (.aa5 ((a.ay8 i).map Md.ah6)):=is2 fun σ=>dm8 a i hA σ
end Go.Id.Tryz
set_option linter.all false
namespace Go.Id.Tryz
open Go Go.Id Go.Proofs Go.Shelf Go.Id.Md
set_option maxRecDepth 100000
theorem hg8 {σ:Store}{g:Nat}{cap:List IV}(hok:okF Tryz.prog g=true)(hcap:∀ c∈cap,Bnd 0 c):C Tryz.prog EE 161 [.aa1,.func (.func g) [] cap] σ (ja6 σ []):=by
 refine C_f fok161 (nZ rfl) ?_;simp only[ic161,go_sem]
 have hI:C Tryz.prog EE 164 [.aa1,.func (.func g) [] cap] σ (im1 (.int .i64 (-1)) σ):=by
  refine gl3 (args':=[.aa5 (([]:List Int).map Md.ah6),.func (.func g) [] cap]) rfl (fun i hi=>?_) (ej4 (cb4 [] g [] cap (fun _=>true) (by simp) hok (fun z hz=>by cases hz)))
  match i,hi with
  | 0,_=>exact .bu6
  | 1,_=>exact .keep _ ((Nm.func _ _ _ (fun c hc=>by cases hc) hcap:Bnd 0 (.func (.func g) [] cap)).weak fun _ _=>rfl)
 refine af1 fok164 hI ?_;rintro v s ⟨rfl,rfl⟩;refine ⟨Nat.le_refl _,?_⟩;simp only[go_sem];exact ⟨Kept.refl _,.inl ⟨rfl,rfl⟩⟩
theorem ij6 {σ:Store}{v:IV}{lo g:Nat}{cap:List IV}{zs:List Int}(q:Int->Bool)(hz:zs.length<2^40)(hr:ei4 σ lo v zs)(hok:okF Tryz.prog g=true)(hcap:∀ c∈cap,Bnd 0 c)(hq:∀ z∈zs,PC Tryz.prog EE g (.int .i64 z::cap) (.bool (q z))) :
  C Tryz.prog EE 161 [v,.func (.func g) [] cap] σ (fun v s=>(σ.next<=s.next/\∀ i,i<lo->i<σ.next->s.obj i=σ.obj i)/\ei4 s (min lo σ.next) v (zs.filter fun x=>!q x)):=by
 rcases hr with ⟨rfl,rfl⟩|⟨id,cs,h1,h2,rfl,h4,h5,h6⟩
 ·exact (hg8 hok hcap).mono fun v s ⟨h1,h2⟩=>⟨⟨h1.next,fun i _ hi=>h1.obj i hi⟩,h2.low (Nat.min_le_right _ _)⟩
 ·refine (gl6 q hz h4 h5 h6 hok hcap hq).mono fun v s ⟨k1,k2,cs',k3,k4,k5,k6⟩=>⟨⟨k1,fun i hi _=>k2 i (by omega)⟩,.inr ⟨id,cs',by omega,by omega,k3,k4,k5,k6⟩⟩
theorem hg9 (a:ac5)(n:Int):PC Tryz.prog EE 198 [.int .i64 n,.ab8 [a.v]] (.bool (a.inst n || !a.fits n)):=by
 refine ae9 hE fok198 (nZ rfl) (aj9 (.int _ _) (.ab8 _ (ai8 (ah4 a)))) ?_;have h1:=bh9 a n;have h2:=dm7 a n;simp only[ic198,go_sem]
 first|refine aa4 fok167 (h1) ?_|refine aa2 (h1) ?_
 cases a.inst n with
 | true=>simp only[go_sem]; exact ab2 rfl
 | false=>
  simp only[go_sem]
  first|refine aa4 fok29 (h2) ?_|refine aa2 (h2) ?_
  simp only[go_sem];exact ab2 rfl
theorem gl7 (a:ac5)(n:Int):PC Tryz.prog EE 197 [.int .i64 n,.ab8 [a.v]] (.bool (!a.inst n)):=by
 refine ae9 hE fok197 (nZ rfl) (aj9 (.int _ _) (.ab8 _ (ai8 (ah4 a)))) ?_;have h1:=bh9 a n;simp only[ic197,go_sem]
 first|refine aa4 fok167 (h1) ?_|refine aa2 (h1) ?_
 simp only[go_sem];exact ab2 rfl
theorem fr3 (a:ac5)(i:Int)(hA:AOK a):PC Tryz.prog EE 133 [a.v,.int .i64 i] (.aa5 ((a.dk8 i).map Md.ah6)):=by
 refine ae9 hE fok133 (nZ rfl) (aj9 (ah4 a) (.int _ _)) ?_;have h1:=bh9 a i;have h2:=dm8 a i hA;have hba:=ah4 a;have hcl:=hg9 a;have hsl:=a.bz7 i;have hA1:=hA.len;have vcs:a.v.cs=[a.v]:=rfl;have vlf:a.v.leaf=true:=rfl;unfold ac5.dk8
 cases hi:a.inst i with
 | false=>
  rw[hi] at h1;have e:a.ay8 i=[]:=by unfold ac5.ay8; rw[hi]; rfl
  rw[e];generalize a.v=V at *;simp only[ic133,go_sem,vcs,List.all_cons,vlf,List.all_nil,List.head?_cons]
  first|refine aa4 fok167 (h1) ?_|refine aa2 (h1) ?_
  simp only[go_sem]
  exact .bu6
 | true=>
  rw[hi] at h1;generalize a.v=V at *;generalize a.ay8 i=zs at *;simp only[ic133,go_sem,vcs,List.all_cons,vlf,List.all_nil,List.head?_cons]
  first|refine aa4 fok167 (h1) ?_|refine aa2 (h1) ?_
  simp only[go_sem];refine af1 fok103 (h2 _) ?_;rintro v s ⟨hk,hr⟩;refine ⟨hk.next,?_⟩;simp only[go_sem];refine af1 fok161 (ij6 (fun n=>a.inst n || !a.fits n) (by omega) hr fok198.1 (ai8 (.ab8 _ (ai8 hba))) fun z hz=>hcl z) ?_;rintro v s ⟨⟨h1,_⟩,hr⟩;refine ⟨h1,?_⟩;simp only[go_sem];exact hr.frz fun i _=>Nat.not_lt_zero i
theorem fr4 (l:List aa3)(d:Dep)(hl:l.length<2^20)(hs:∀ p∈l,Pkg.small p)(hd:Dep.small d)(σ:Store):C Tryz.prog EE 101 [(ah8 l).v,.agg d.cs] σ (da5 σ (an9 l d)):=by
 have hi:=bi8 l;have hlook:=hi.names d.name
 have hsift:∀ (σ:Store) v,(v=.aa5 ((ad3 (ah8 l).names d.name).map Md.ah6)\/v=.aa1/\ad3 (ah8 l).names d.name=[])->C Tryz.prog EE 165 [(ah8 l).v,v,.func (.func 166) [] [.ab8 d.cs]] σ (da5 σ (an9 l d)):=by
  intro σ v hv
  have h:=hs9 (ah8 l) (ad3 (ah8 l).names d.name) (by rw[hlook]; have:=al8 (fun p=>decide (p.name=d.name)) l; omega) 166 [.ab8 d.cs] (fun n=>named (l.getD n.toNat default) d) fok166.1 (fun n hn=>by
   rw[hlook] at hn;obtain ⟨m,rfl,hm⟩:=numsOf_at hn;refine ⟨m,rfl,by rw[hi.all]; exact hm,?_⟩;have e:(ah8 l).all[m]'(by rw[hi.all]; exact hm)=l[m]:=by simp only[hi.all]
   rw[e,Int.toNat_natCast,getD_at l m hm];exact cx8 l[m] m d (hs _ (List.getElem_mem hm)) hd) σ
  rw[et3] at h;rcases hv with rfl|⟨rfl,h0⟩
  ·exact h
  ·rw[h0] at h;refine gl3 (args':=[(ah8 l).v,.aa5 [],.func (.func 166) [] [.ab8 d.cs]]) rfl (fun i hi=>?_) h;have hw:∀ {v:IV} {σ:Store},Bnd 0 v->Frz σ (fun _=>true=true) v v:=fun h=>.keep _ (h.weak fun _ _=>rfl)
   match i,hi with
   | 0,_=>exact hw (bc4 (ah8 l))
   | 1,_=>exact .bu6
   | 2,_=>exact hw (.func _ _ _ (fun c hc=>by cases hc) (ae1 (be5 d)))
 have hx:(ah8 l).v=.ab8 [.aa5 ((ah8 l).all.map aa3.cs),.al6 (nmV (ah8 l).av9),.al6 (nmV (ah8 l).names),.al6 (nmV (ah8 l).over)]:=rfl;have d0:d.cs.head? = some (.str d.name):=rfl
 have hk0:∀ σ:Store,∃ v,cr3 σ 2 .aa1 false (.al6 (nmV (ah8 l).names)) (.str d.name)=some v/\∀ τ,C Tryz.prog EE 165 [(ah8 l).v,v,.func (.func 166) [] [.ab8 d.cs]] τ (da5 τ (an9 l d)):=fun σ=>
  let ⟨v,h1,h2⟩:=ew1 (ah8 l).names σ d.name
  ⟨v,h1,fun τ=>hsift τ v h2⟩
 clear hsift hlook;rw[hx] at hk0 ⊢;generalize (ah8 l).all.map aa3.cs=a0 at *;refine C_f fok101 (nZ rfl) ?_;simp only[ic101,go_sem,ar6,ao6,an2,d0];obtain ⟨v,hk,hsv⟩:=hk0 ⟨σ.next+11,σ.obj⟩;simp only[go_sem,hk];refine af1 fok165 (hsv _) ?_;rintro v' s ⟨hkp,hr⟩;refine ⟨hkp.next,?_⟩;simp only[go_sem];exact ⟨hkp.low,hr.low (Nat.le_add_right _ _)⟩
theorem iy8 (a:ac5){n:Int}(h:a.job n=true):0<=n/\n<a.r.ai4.length/\(a.r.ai4.map Job.cs).getD n.toNat []=(a.jb n).cs/\a.jb n∈a.r.ai4:=by
 unfold ac5.job at h;simp only[Bool.and_eq_true,decide_eq_true_eq] at h;have c1:n.toNat<a.r.ai4.length:=by omega
 have e:a.jb n=a.r.ai4[n.toNat]:=by simp[ac5.jb,List.getD_eq_getElem?_getD,c1]
 exact ⟨h.1,h.2,by rw[e]; simp[List.getD_eq_getElem?_getD,c1],by rw[e]; exact List.getElem_mem c1⟩
theorem bj7 (a:ac5)(j:Int)(hA:AOK a):PC Tryz.prog EE 130 [a.v,.int .i64 j] (.aa5 ((a.meant j).map Md.ah6)):=by
 refine ae9 hE fok130 (nZ rfl) (aj9 (ah4 a) (.int _ _)) ?_;have h1:=cy6 a j;have hba:=ah4 a;have hcl:=gl7 a;have hlen:=hA.len;unfold ac5.meant
 cases hj:a.job j with
 | false=>
  rw[hj] at h1;unfold ac5.v ac5.cs at *;simp only[ic130,go_sem]
  first|refine aa4 fok71 (h1) ?_|refine aa2 (h1) ?_
  simp only[go_sem]
  exact .bu6
 | true=>
  rw[hj] at h1;obtain ⟨j1,j2,j3,j4⟩:=iy8 a hj;have hds:=hA.in2 _ j4;have hP:=bo3 a.l (a.jb j).dep (by omega) hA.small hds;have hN:=bv9 a.l (a.jb j).dep (by omega) hA.small hds;have hNc:=fr4 a.l (a.jb j).dep (by omega) hA.small hds;have b1:=ag5 (al9 a.l (a.jb j).dep);have b2:=ag5 (an9 a.l (a.jb j).dep);have nl:(an9 a.l (a.jb j).dep).length<=a.l.length:=al8 _ _;have k0:(a.jb j).cs.head? = some (.int .u8 (a.jb j).kind):=rfl;have k1:=cq8 (a.jb j);have k2:((a.jb j).cs.drop 1).length=5:=rfl;generalize a.jb j=x at *;generalize an9 a.l x.dep=nm at *;generalize al9 a.l x.dep=pv at *;unfold ac5.v ac5.cs at *;generalize (ah8 a.l).v=X at *;have c21:¬ (2:Int)=1:=by decide
  by_cases e1:x.kind=1
  ·rw[if_pos rfl,if_pos e1];simp only[ic130,go_sem]
   first|refine aa4 fok71 (h1) ?_|refine aa2 (h1) ?_
   simp only[go_sem,j1,j2,j3,ax9,ba7,ar1,k0,k1,k2,e1]
   first|refine aa4 fok196 (hP) ?_|refine aa2 (hP) ?_
   simp only[go_sem];exact .keep _ b1
  by_cases e2:x.kind=2
  ·rw[if_pos rfl,if_neg e1,if_pos e2];simp only[ic130,go_sem]
   first|refine aa4 fok71 (h1) ?_|refine aa2 (h1) ?_
   simp only[go_sem,j1,j2,j3,ax9,ba7,ar1,k0,k1,k2,e2,c21]
   first|refine aa4 fok101 (hN) ?_|refine aa2 (hN) ?_
   simp only[go_sem,k0,e2];exact .keep _ b2
  ·rw[if_pos rfl,if_neg e1,if_neg e2];simp only[ic130,go_sem]
   first|refine aa4 fok71 (h1) ?_|refine aa2 (h1) ?_
   simp only[go_sem,j1,j2,j3,ax9,ba7,ar1,k0,k1,k2,e1];refine af1 fok101 (hNc _) ?_;rintro v s ⟨hk,hr⟩;refine ⟨hk.next,?_⟩;have o0:s.obj 0=some (.cells x.cs):=(hk.obj 0 (Nat.succ_pos _)).trans (by simp only[aa7,if_true]);simp only[go_sem,o0,k0,e2];refine af1 fok161 (ij6 (fun n=>!a.inst n) (by omega) hr.w fok197.1 (ai8 (.ab8 _ (ai8 hba))) fun z hz=>hcl z) ?_;rintro v s ⟨⟨h1,_⟩,hr⟩;refine ⟨h1,?_⟩;have ef:(nm.filter fun x=>!(!a.inst x))=nm.filter fun n=>a.inst n:=List.filter_congr fun x _=>Bool.not_not _
   rw[ef] at hr;simp only[go_sem];exact hr.frz fun i _=>Nat.not_lt_zero i
theorem hh2 (state:List Int)(n:Int)(hs:state.length<2^40):PC Tryz.prog EE 195 [.int .i64 n,.ab8 [.aa5 (state.map Md.ah6)]] (.bool (decide (n∈state))):=by
 refine ae9 hE fok195 (nZ rfl) (aj9 (.int _ _) (.ab8 _ (ai8 (ag5 state)))) ?_;have h:=ca8 state n hs;simp only[ic195,go_sem]
 first|refine aa4 fok151 (h) ?_|refine aa2 (h) ?_
 simp only[go_sem];exact ab2 rfl
theorem du7 (state l:List Int)(hs:state.length<2^40)(hl:l.length<2^40):PC Tryz.prog EE 129 [.aa5 (state.map Md.ah6),.aa5 (l.map Md.ah6)] (.bool (ac5.some state l)):=by
 refine ae9 hE fok129 (nZ rfl) (aj9 (ag5 _) (ag5 _)) ?_;have h:=bh8 l 195 [] [.ab8 [.aa5 (state.map Md.ah6)]] (fun n=>decide (n∈state)) (by omega) fok195.1 fun x hx=>hh2 state x hs
 simp only[ic129,go_sem]
 first|refine aa4 fok99 (h) ?_|refine aa2 (h) ?_
 simp only[go_sem];exact ab2 rfl
theorem cb6 (a:ac5)(j:Int):(a.meant j).length<=a.l.length:=by
 unfold ac5.meant;split
 ·split
  ·exact al8 _ _
  ·split
   ·exact al8 _ _
   ·exact Nat.le_trans (List.length_filter_le _ _) (al8 _ _)
 ·exact Nat.zero_le _
theorem du8 (a:ac5)(j:Int)(state:List Int)(hA:AOK a)(hs:state.length<2^40):PC Tryz.prog EE 73 [a.v,.int .i64 j,.aa5 (state.map Md.ah6)] (.bool (ac5.some state (a.meant j))):=by
 refine ae9 hE fok73 (nZ rfl) (ba2 (ah4 a) (.int _ _) (ag5 _)) ?_;have h1:=bj7 a j hA;have h2:=du7 state (a.meant j) hs (by have:=cb6 a j; have:=hA.len; omega);simp only[ic73,go_sem]
 first|refine aa4 fok130 (h1) ?_|refine aa2 (h1) ?_
 simp only[go_sem]
 first|refine aa4 fok129 (h2) ?_|refine aa2 (h2) ?_
 simp only[go_sem];exact ab2 rfl
theorem ep1 (a:ac5)(j:Int)(state:List Int)(hA:AOK a)(hs:state.length<2^40):PC Tryz.prog EE 74 [a.v,.int .i64 j,.aa5 (state.map Md.ah6)] (.bool (!ac5.some state (a.meant j))):=by
 refine ae9 hE fok74 (nZ rfl) (ba2 (ah4 a) (.int _ _) (ag5 _)) ?_;have h1:=bj7 a j hA;have h2:=du7 state (a.meant j) hs (by have:=cb6 a j; have:=hA.len; omega);simp only[ic74,go_sem]
 first|refine aa4 fok130 (h1) ?_|refine aa2 (h1) ?_
 simp only[go_sem]
 first|refine aa4 fok129 (h2) ?_|refine aa2 (h2) ?_
 simp only[go_sem];exact ab2 rfl
theorem ep2 (a:ac5)(i:Int)(state:List Int)(hA:AOK a)(hs:state.length<2^40):PC Tryz.prog EE 131 [.int .i64 i,.ab8 [.aa5 (state.map Md.ah6)],.ab8 [a.v]] (.bool (!ac5.some state (a.ay8 i))):=by
 refine ae9 hE fok131 (nZ rfl) (ba2 (.int _ _) (.ab8 _ (ai8 (ag5 _))) (.ab8 _ (ai8 (ah4 a)))) ?_;have h1:=cz2 a i hA;have h2:=du7 state (a.ay8 i) hs (by have:=a.bz7 i; have:=hA.len; omega);simp only[ic131,go_sem]
 first|refine aa4 fok103 (h1) ?_|refine aa2 (h1) ?_
 simp only[go_sem]
 first|refine aa4 fok129 (h2) ?_|refine aa2 (h2) ?_
 simp only[go_sem];exact ab2 rfl
theorem hh4 (a:ac5)(i:Int)(state:List Int)(hA:AOK a)(hs:state.length<2^40):PC Tryz.prog EE 132 [.int .i64 i,.ab8 [a.v],.ab8 [.aa5 (state.map Md.ah6)]] (.bool (decide (0<(a.dk8 i).length)&&!ac5.some state (a.dk8 i))):=by
 refine ae9 hE fok132 (nZ rfl) (ba2 (.int _ _) (.ab8 _ (ai8 (ah4 a))) (.ab8 _ (ai8 (ag5 _)))) ?_;have h1:=fr3 a i hA;have h2:=du7 state (a.dk8 i) hs (by have:=a.gw8 i; have:=hA.len; omega);simp only[ic132,go_sem]
 first|refine aa4 fok133 (h1) ?_|refine aa2 (h1) ?_
 by_cases e:0<(a.dk8 i).length
 ·have e':(0:Int)<(a.dk8 i).length:=by omega
  simp only[go_sem,e']
  first|refine aa4 fok129 (h2) ?_|refine aa2 (h2) ?_
  simp only[go_sem];exact ab2 (by simp[e])
 ·have e':¬ (0:Int)<(a.dk8 i).length:=by omega
  simp only[go_sem,e'];exact ab2 (by simp[e])
theorem du9 (a:ac5)(j:Int)(state:List Int)(hA:AOK a)(hs:state.length<2^40):PC Tryz.prog EE 75 [a.v,.int .i64 j,.aa5 (state.map Md.ah6)] (.bool (!(a.meant j).any fun i=>!ac5.some state (a.ay8 i))):=by
 refine ae9 hE fok75 (nZ rfl) (ba2 (ah4 a) (.int _ _) (ag5 _)) ?_;have h1:=bj7 a j hA;have h2:=bh8 (a.meant j) 131 [] [.ab8 [.aa5 (state.map Md.ah6)],.ab8 [a.v]] (fun i=>!ac5.some state (a.ay8 i)) (by have:=cb6 a j; have:=hA.len; omega) fok131.1 fun x hx=>ep2 a x state hA hs
 have vcs:a.v.cs=[a.v]:=rfl;have vlf:a.v.leaf=true:=rfl;simp only[ic75,go_sem,vcs,List.all_cons,vlf,List.all_nil,List.head?_cons]
 first|refine aa4 fok130 (h1) ?_|refine aa2 (h1) ?_
 simp only[go_sem]
 first|refine aa4 fok99 (h2) ?_|refine aa2 (h2) ?_
 simp only[go_sem];exact ab2 rfl
theorem fr5 (a:ac5)(j:Int)(state:List Int)(hA:AOK a)(hs:state.length<2^40):PC Tryz.prog EE 76 [a.v,.int .i64 j,.aa5 (state.map Md.ah6)] (.bool (!(a.meant j).any fun i=>decide (0<(a.dk8 i).length)&&!ac5.some state (a.dk8 i))):=by
 refine ae9 hE fok76 (nZ rfl) (ba2 (ah4 a) (.int _ _) (ag5 _)) ?_;have h1:=bj7 a j hA;have h2:=bh8 (a.meant j) 132 [] [.ab8 [a.v],.ab8 [.aa5 (state.map Md.ah6)]] (fun i=>decide (0<(a.dk8 i).length)&&!ac5.some state (a.dk8 i)) (by have:=cb6 a j; have:=hA.len; omega) fok132.1 fun x hx=>hh4 a x state hA hs
 have vcs:a.v.cs=[a.v]:=rfl;have vlf:a.v.leaf=true:=rfl;simp only[ic76,go_sem,vcs,List.all_cons,vlf,List.all_nil,List.head?_cons]
 first|refine aa4 fok130 (h1) ?_|refine aa2 (h1) ?_
 simp only[go_sem]
 first|refine aa4 fok99 (h2) ?_|refine aa2 (h2) ?_
 simp only[go_sem];exact ab2 rfl
theorem dv1 (a:ac5)(j:Int)(state:List Int)(hA:AOK a)(hs:state.length<2^40):PC Tryz.prog EE 33 [a.v,.int .i64 j,.aa5 (state.map Md.ah6)] (.bool (a.bj2 j state)):=by
 refine ae9 hE fok33 (nZ rfl) (ba2 (ah4 a) (.int _ _) (ag5 _)) ?_;have h1:=cy6 a j;have c1:=du8 a j state hA hs;have c2:=ep1 a j state hA hs;have c3:=du9 a j state hA hs;have c4:=fr5 a j state hA hs;unfold ac5.bj2
 cases hj:a.job j with
 | false=>
  rw[hj] at h1;simp only[ic33,go_sem]
  first|refine aa4 fok71 (h1) ?_|refine aa2 (h1) ?_
  simp only[go_sem]
  exact ab2 rfl
 | true=>
  rw[hj] at h1;obtain ⟨j1,j2,j3,j4⟩:=iy8 a hj;have hk:=hA.ji8 _ j4;have k0:(a.jb j).cs.head? = some (.int .u8 (a.jb j).kind):=rfl;generalize ac5.some state (a.meant j)=B1 at *;generalize ((a.meant j).any fun i=>!ac5.some state (a.ay8 i))=B3 at *;generalize ((a.meant j).any fun i=>decide (0<(a.dk8 i).length)&&!ac5.some state (a.dk8 i))=B4 at *;generalize a.jb j=x at *;unfold ac5.v ac5.cs at *;have hk4:x.kind=1\/x.kind=2\/x.kind=3\/x.kind=4:=by omega
  simp only[ic33,go_sem]
  first|refine aa4 fok71 (h1) ?_|refine aa2 (h1) ?_
  have nfl:IV.ab9.leaf=true:=rfl;have q1:¬ (2:Int)=1:=by decide
  have q2:¬ (3:Int)=1:=by decide
  have q3:¬ (3:Int)=2:=by decide
  have q4:¬ (4:Int)=1:=by decide
  have q5:¬ (4:Int)=2:=by decide
  have q6:¬ (4:Int)=3:=by decide
  rcases hk4 with e|e|e|e
  ·simp only[go_sem,j1,j2,j3,ax9,ba7,ar1,k0,e,nfl]
   first|refine aa4 fok73 (c1) ?_|refine aa2 (c1) ?_
   simp only[go_sem];exact ab2 rfl
  ·simp only[go_sem,j1,j2,j3,ax9,ba7,ar1,k0,e,nfl,q1]
   first|refine aa4 fok74 (c2) ?_|refine aa2 (c2) ?_
   simp only[go_sem];exact ab2 rfl
  ·simp only[go_sem,j1,j2,j3,ax9,ba7,ar1,k0,e,nfl,q2,q3]
   first|refine aa4 fok75 (c3) ?_|refine aa2 (c3) ?_
   simp only[go_sem];exact ab2 rfl
  ·simp only[go_sem,j1,j2,j3,ax9,ba7,ar1,k0,e,nfl,q4,q5,q6]
   first|refine aa4 fok76 (c4) ?_|refine aa2 (c4) ?_
   simp only[go_sem];exact ab2 rfl
structure dv2 (r:Req):Prop where
 ai4:r.ai4.length<2^20
 ai5:r.ai5.length<2^20
 in2:∀ j∈r.ai4,Dep.small j.dep/\j.dep.name.length<2^30
theorem bc6 (r:Req):∀ c∈r.cs,Bnd 0 c:=it3 (.int _ _) (.bool _) (cb2 _) (bc5 _) (.int _ _)
theorem ij7 (r:Req):r.cs.length=5:=rfl
theorem ah3 (r:Req):r.cs.all IV.leaf=true:=rfl
theorem bj8 (r:Req):r.cs.take 5=r.cs:=rfl
theorem gl8 (j:Job)(h:Dep.small j.dep/\j.dep.name.length<2^30):PC Tryz.prog EE 83 [.agg j.cs] (.bool (!ay9 j)):=by
 refine ae9 hE fok83 (nZ rfl) (ai8 (hg6 j)) ?_;have hd:=bo2 j.dep (by omega) (by have:=h.1.2.2.1; omega) (by have:=h.1.2.2.2; omega);have k0:j.cs.head? = some (.int .u8 j.kind):=rfl;have k1:=cq8 j;have k2:(j.cs.drop 1).length=5:=rfl;unfold ay9;by_cases e1:j.kind<1
 ·have e1':¬ 1<=j.kind:=by omega
  simp only[ic83,go_sem,ar1,k0,e1];exact ab2 (by simp[e1'])
 have e1':1<=j.kind:=by omega
 by_cases e2:4<j.kind
 ·have e2':¬ j.kind<=4:=by omega
  simp only[ic83,go_sem,ar1,k0,e1,e2];exact ab2 (by simp[e2'])
 have e2':j.kind<=4:=by omega
 simp only[ic83,go_sem,ar1,k0,k1,k2,e1,e2]
 first|refine aa4 fok84 (hd) ?_|refine aa2 (hd) ?_
 simp only[go_sem];exact ab2 (by simp[e1',e2'])
theorem fr6 (e:bc1)(ai4 inst:Int):PC Tryz.prog EE 87 [.agg e.cs,.int .i64 ai4,.int .i64 inst] (.bool (au4 e ai4 inst)):=by
 refine ae9 hE fok87 (nZ rfl) (ba2 (cb3 e) (.int _ _) (.int _ _)) ?_;have k0:e.cs.head? = some (.int .u8 e.kind):=rfl;have k1:(e.cs.drop 1).head? = some (.int .i64 e.n):=rfl;unfold au4;by_cases d1:e.kind=1
 case' pos=>
  have f1:(1:Int)<=1:=by decide
  have f2:(1:Int)<=4:=by decide
  rw[d1] at k0 ⊢;simp only[ic87,go_sem,aj6,k0,f1,f2,k1];generalize ai4=most
 case' neg=>
  rw[if_neg d1];by_cases d2:1<=e.kind
  case' neg=>
   simp only[ic87,go_sem,aj6,k0,d1,d2];exact ab2 (by simp)
  by_cases d3:e.kind<=4
  case' neg=>
   simp only[ic87,go_sem,aj6,k0,d1,d2,d3];exact ab2 (by simp)
  simp only[ic87,go_sem,aj6,k0,d1,d2,d3,k1];generalize inst=most
 all_goals
  by_cases d4:0<=e.n
  ·simp only[go_sem,d4,k1];exact ab2 (by simp)
  ·simp only[go_sem,d4];exact ab2 (by simp)
theorem ij8 (e:bc1)(p:Pool)(r:Req):PC Tryz.prog EE 86 [.agg e.cs,.ab8 r.cs,.ab8 [p.v]] (.bool (!au4 e r.ai4.length p.inst)):=by
 refine ae9 hE fok86 (nZ rfl) (ba2 (cb3 e) (.ab8 _ (bc6 r)) (.ab8 _ (ai8 (be2 p)))) ?_;have h1:=az7 p;have h2:=fr6 e r.ai4.length p.inst;have k2:(r.cs.drop 2).head? = some (bi9 r.ai4):=rfl;simp only[ic86,go_sem,aj6,ar2,ap3,k2]
 first|refine aa4 fok88 (h1) ?_|refine aa2 (h1) ?_
 simp only[go_sem]
 first|refine aa4 fok87 (h2) ?_|refine aa2 (h2) ?_
 simp only[go_sem];exact ab2 rfl
theorem ht6 (r:Req)(h1:r.ai4.length<=2147483648)(h2:r.ai5.length<=2147483648):PC Tryz.prog EE 90 [.agg r.cs] (.agg r.cs):=by
 refine ae9 hE fok90 (nZ rfl) (ai8 (.agg _ (bc6 r))) ?_;have c1:=eo7 r.ai4 h1;have c2:=ee4 r.ai5 h2;have hb:=bc6 r;unfold Req.cs at *;simp only[ic90,go_sem]
 first|refine aa4 fok152 (c1) ?_|refine aa2 (c1) ?_
 simp only[go_sem]
 first|refine aa4 fok153 (c2) ?_|refine aa2 (c2) ?_
 simp only[go_sem];exact .keep _ (.agg _ hb)
theorem ij9 {α:Type}(q:α->Bool)(l:List α):(l.any fun x=>!q x)=!l.all q:=by
 induction l with
 | nil=>rfl
 | cons x l ih=>simp only[List.any_cons,List.all_cons,ih,Bool.not_and]
theorem gl9 (p:Pool)(r:Req)(hR:dv2 r)(hl:(ae3 p).length<=256)(hf:∀ x∈ae3 p,x.Fit/\x.Tiny):PC Tryz.prog EE 39 [p.v,.agg r.cs] (im9 p r):=by
 refine ae9 hE fok39 (nZ rfl) (aj9 (be2 p) (.agg _ (bc6 r))) ?_;have hm:=cl6 r.au2;have hJ:=gl5 r.ai4 83 [] [] (fun j=>!ay9 j) (by have:=hR.ai4; omega) fok83.1 fun j hj=>gl8 j (hR.in2 j hj)
 have hEd:=fq7 r.ai5 86 [] [.ab8 r.cs,.ab8 [p.v]] (fun e=>!au4 e r.ai4.length p.inst) (by have:=hR.ai5; omega) fok86.1 fun e he=>ij8 e p r
 rw[ij9] at hJ hEd;have hrl:p.rows.length=(ae3 p).length:=by simp[ae3]
 have hM:=bj5 p (fun x hx=>(hf _ (List.mem_map_of_mem (f:=fun x:bd9=>x.pkg) hx)).1) (by omega) (fun x hx=>by
  have:=(hf _ (List.mem_map_of_mem (f:=fun x:bd9=>x.pkg) hx)).2;have a:=this.av9.1; have b:=this.obs.1; have c:=this.files; omega)
 have hM:PC Tryz.prog EE 89 [p.v] (.tuple [(ah8 (ae3 p)).v,.int .i64 0]):=hM;have hO:=ht6 r (by have:=hR.ai4; omega) (by have:=hR.ai5; omega);have hC:=be3 p;rw[hrl] at hC
 have hpk:∀ j (h:j<(ae3 p).length),PC Tryz.prog EE 91 [p.v,.int .i64 j] (.tuple [.agg (ae3 p)[j].cs,.int .i64 0]):=fun j h=>by
  have hq:p.rows[j].pkg=(ae3 p)[j]:=by simp[ae3]
  have h1:=bf3 p j (by omega) (by rw[hq]; exact (hf _ (List.getElem_mem h)).1);rw[hq] at h1; exact h1
 have hbA:=ah4 ⟨p,r⟩;have k0:r.cs.head? = some (.int .u8 r.au2):=rfl;have k2:(r.cs.drop 2).head? = some (bi9 r.ai4):=rfl;have k3:(r.cs.drop 3).head? = some (au9 r.ai5):=rfl;have k4:(r.cs.drop 4).head? = some (.int .i64 r.budget):=rfl;obtain ⟨V,hV⟩:∃ V,im9 p r=V:=⟨_,rfl⟩
 have herr:∀ (s:Store) (e:Int),ak8 r p.inst=e->e≠0->bt7 s 0 (.tuple [.ab6,.int .i64 e]) V:=fun s e h1 h2=>by
  rw[<- hV];unfold im9;rw[h1,if_neg h2];exact .keep _ (.tuple _ (aj9 .ab6 (.int _ _)))
 rw[hV];have vcs:p.v.cs=[p.v]:=rfl;have vlf:p.v.leaf=true:=rfl;have vnl:∀ d:TypeId,bt8 (.pointer d) p.v=some false:=fun _=>rfl
 by_cases c1:bv7 r.au2=false
 ·simp only[ic39,go_sem,vcs,List.all_cons,vlf,List.all_nil,List.head?_cons,ah3,vnl,k0]
  first|refine aa4 fok81 (hm) ?_|refine aa2 (hm) ?_
  simp only[go_sem,c1];exact herr _ 1 (by unfold ak8; rw[if_pos (.inl c1)]) (by decide)
 have c1':bv7 r.au2=true:=by simpa using c1
 by_cases c2:r.budget<0
 ·simp only[ic39,go_sem,vcs,List.all_cons,vlf,List.all_nil,List.head?_cons,ah3,vnl,k0]
  first|refine aa4 fok81 (hm) ?_|refine aa2 (hm) ?_
  simp only[go_sem,c1',k4,c2];exact herr _ 1 (by unfold ak8; rw[if_pos (.inr (.inl c2))]) (by decide)
 by_cases c3:1099511627776<r.budget
 ·simp only[ic39,go_sem,vcs,List.all_cons,vlf,List.all_nil,List.head?_cons,ah3,vnl,k0]
  first|refine aa4 fok81 (hm) ?_|refine aa2 (hm) ?_
  simp only[go_sem,c1',k4,c2,c3];exact herr _ 1 (by unfold ak8; rw[if_pos (.inr (.inr c3))]) (by decide)
 have q1:¬ (bv7 r.au2=false\/r.budget<0\/1099511627776<r.budget):=fun h=>h.elim c1 fun h=>h.elim c2 c3
 by_cases c4:64<r.ai4.length
 ·have c4':(64:Int)<r.ai4.length:=by omega
  simp only[ic39,go_sem,vcs,List.all_cons,vlf,List.all_nil,List.head?_cons,ah3,vnl,k0]
  first|refine aa4 fok81 (hm) ?_|refine aa2 (hm) ?_
  simp only[go_sem,c1',k4,c2,c3,k2,c4'];exact herr _ 40 (by unfold ak8; rw[if_neg q1,if_pos (.inl c4)]) (by decide)
 have c4':¬ (64:Int)<r.ai4.length:=by omega
 by_cases c5:64<r.ai5.length
 ·have c5':(64:Int)<r.ai5.length:=by omega
  simp only[ic39,go_sem,vcs,List.all_cons,vlf,List.all_nil,List.head?_cons,ah3,vnl,k0]
  first|refine aa4 fok81 (hm) ?_|refine aa2 (hm) ?_
  simp only[go_sem,c1',k4,c2,c3,k2,k3,c4',c5'];exact herr _ 40 (by unfold ak8; rw[if_neg q1,if_pos (.inr c5)]) (by decide)
 have c5':¬ (64:Int)<r.ai5.length:=by omega
 have q2:¬ (64<r.ai4.length\/64<r.ai5.length):=fun h=>h.elim c4 c5
 by_cases c6:r.ai4.all ay9=false
 ·simp only[ic39,go_sem,vcs,List.all_cons,vlf,List.all_nil,List.head?_cons,ah3,vnl,k0]
  first|refine aa4 fok81 (hm) ?_|refine aa2 (hm) ?_
  simp only[go_sem,c1',k4,c2,c3,k2,k3,c4',c5']
  first|refine aa4 fok82 (hJ) ?_|refine aa2 (hJ) ?_
  simp only[go_sem,c6,Bool.not_false];exact herr _ 4 (by unfold ak8; rw[if_neg q1,if_neg q2,if_pos c6]) (by decide)
 have c6':r.ai4.all ay9=true:=by simpa using c6
 simp only[ic39,go_sem,vcs,List.all_cons,vlf,List.all_nil,List.head?_cons,ah3,vnl,k0]
 first|refine aa4 fok81 (hm) ?_|refine aa2 (hm) ?_
 simp only[go_sem,c1',k4,c2,c3,k2,k3,c4',c5']
 first|refine aa4 fok82 (hJ) ?_|refine aa2 (hJ) ?_
 simp only[go_sem,c6',Bool.not_true,k3]
 first|refine aa4 fok85 (hEd) ?_|refine aa2 (hEd) ?_
 by_cases c7:(r.ai5.all fun e=>au4 e r.ai4.length p.inst)=false
 ·simp only[go_sem,c7,Bool.not_false];exact herr _ 5 (by unfold ak8; rw[if_neg q1,if_neg q2,if_neg c6,if_pos c7]) (by decide)
 have c7':(r.ai5.all fun e=>au4 e r.ai4.length p.inst)=true:=by simpa using c7
 have hV0:V=.tuple [.ab8 [p.v,(ah8 (ae3 p)).v,.int .u8 r.au2,.bool r.vendor,bi9 r.ai4,au9 r.ai5,.int .i64 r.budget,.aa5 ((ae3 p).map aa3.cs)],.int .i64 0]:=by
  rw[<- hV];unfold im9;rw[if_pos (by unfold ak8; rw[if_neg q1,if_neg q2,if_neg c6,if_neg c7])];rfl
 have hbX:=bc4 (ah8 (ae3 p));have hbP:=be2 p;rw[hV0];clear herr hV hV0 hJ hEd;simp only[go_sem,c7',Bool.not_true]
 first|refine aa4 fok89 (hM) ?_|refine aa2 (hM) ?_
 simp only[go_sem,ij7,bj8]
 first|refine aa4 fok90 (hO) ?_|refine aa2 (hO) ?_
 have hrc:r.cs=[.int .u8 r.au2,.bool r.vendor,bi9 r.ai4,au9 r.ai5,.int .i64 r.budget]:=rfl;rw[hrc];have xlf:(ah8 (ae3 p)).v.leaf=true:=rfl;have xcs:(ah8 (ae3 p)).v.cs=[(ah8 (ae3 p)).v]:=rfl;generalize (ah8 (ae3 p)).v=X at *;generalize hPv:p.v=Pv at *;simp only[go_sem,vcs,vlf,xlf,xcs]
 first|refine aa4 fok27 (hC) ?_|refine aa2 (hC) ?_
 simp only[go_sem];refine ab7 noT (fun n fr s=>∃ gv,fr=[(2,.ab8 [Pv]),(8,.ptr 5 0),(65,.int .i64 (ae3 p).length),(66,.int .i64 (n:Int))]/\7<=s.next/\s.obj 5=some (.cells [Pv,X,.int .u8 r.au2,.bool r.vendor,bi9 r.ai4,au9 r.ai5,.int .i64 r.budget,gv])/\Grow s gv 15 (((ae3 p).take n).map aa3.cs)) (ae3 p).length ⟨.aa1,rfl,Nat.le_refl _,by simp only[aa7,if_true],.inl ⟨rfl,rfl⟩⟩ ?_;rintro n fr s hn ⟨gv,rfl,hnx,ho,hg⟩;by_cases hlt:n<(ae3 p).length
 ·have d1:(n:Int)<((ae3 p).length:Int):=by omega
  have w1:=ad4 (i:=n) (by omega);have hp:=hpk n hlt;have n5:¬ 5=s.next:=by omega
  have htk:(ae3 p).take (n+1)=(ae3 p).take n++[(ae3 p)[n]]:=by
   rw[List.take_add_one,List.getElem?_eq_getElem hlt]; rfl
  have hgl:gv.leaf=true:=by rcases hg with ⟨rfl,_⟩|⟨id,rfl,_⟩<;>rfl
  have hgc:gv.cs=[gv]:=by rcases hg with ⟨rfl,_⟩|⟨id,rfl,_⟩<;>rfl
  simp only[go_sem,d1]
  first|refine aa4 fok91 (hp) ?_|refine aa2 (hp) ?_
  simp only[go_sem,ag9,ah2,ad1,n5,ho,b_o,b_p,b_t];obtain ⟨s1,a1,a2,a3,a4⟩:=gt5 (k:=11) (nid:=s.next+1+1+1+1+1+1+1+1) (e:=(ae3 p)[n].cs) (A:=.cells [.str [],.int .i64 0,.str [],.str [],.int .u8 0,.str [],.aa1,.aa1,.aa1,.aa1,.aa1,.aa1,.aa1,.aa1,.aa1]) (B:=.cells (ae3 p)[n].cs) hg (bc3 _) ⟨rfl,rfl⟩ (by rw[List.length_map,List.length_take]; omega) ho (by omega) (by omega);simp only[go_sem,a1,a3,b_o,b_p,b_t,w1];refine ⟨hlt,_,by rw[a2]; omega,rfl,?_⟩;rw[htk,List.map_append];have a5:=a4 [Pv,X,.int .u8 r.au2,.bool r.vendor,bi9 r.ai4,au9 r.ai5,.int .i64 r.budget,.slice (s.next+1+1+1+1+1+1+1+1) 0 (((ae3 p).take n).length+1) 15] s1.next (by rw[a2]; omega);rw[List.length_map] at a5;exact a5
 ·have hn':n=(ae3 p).length:=by omega
  subst hn';have d1:¬ ((ae3 p).length:Int)<((ae3 p).length:Int):=by omega
  rw[List.take_length] at hg;simp only[go_sem,d1]
  have hbe:∀ e∈(ae3 p).map aa3.cs,∀ c∈e,Bnd 0 c:=fun e he c hc=>by
   obtain ⟨y,_,rfl⟩:=List.mem_map.1 he;exact az5 y c hc
  refine .cm2 (.cons (.ptr 5 0 _ _ (Nat.not_lt_zero _) (.inl ho) (Nat.le_refl _) (fun j hj=>?_)) (.cons (bw3 rfl) .nil))
  match j,hj with
  | 0,_=>exact .keep _ hbP
  | 1,_=>exact .keep _ hbX
  | 2,_=>exact .keep _ (.int _ _)
  | 3,_=>exact .keep _ (.bool _)
  | 4,_=>exact .keep _ (cb2 _)
  | 5,_=>exact .keep _ (bc5 _)
  | 6,_=>exact .keep _ (.int _ _)
  | 7,_=>exact hg.frz (fun x hx=>(bc3 _ x hx).1) (fun _ _=>Nat.not_lt_zero _) hbe
end Go.Id.Tryz
