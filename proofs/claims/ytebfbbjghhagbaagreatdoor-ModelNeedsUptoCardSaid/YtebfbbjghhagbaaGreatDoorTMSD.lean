/- Ranges that meet; who provides,names,aa9. Conditions: sizes that fit. -/
import Derived.Test.YtebfbbjghhagbaaGreatDoorTMQE
import Derived.Test.YtebfbbjghhagbaaGreatDoorFwZb
import Derived.Test.YtebfbbjghhagbaaGreatDoorTMPD
import Derived.Test.YtebfbbjghhagbaaGreatDoorMw
set_option linter.all false
namespace Go.Id.Tryz
open Go Go.Id Go.Proofs Go.Id.Md
set_option maxRecDepth 100000
def cx6 (a b:Int):Int:=IntKind.u8.wrap ((BitVec.ofInt 8 a &&& BitVec.ofInt 8 b).toNat:Int)
theorem bk5 (a b:Int):az5 .and (.int .u8 a) (.int .u8 b)=some (.int .u8 (cx6 a b)):=rfl
theorem jf5 {n:Nat}(h:n<256):IntKind.u8.wrap (n:Int)=n:=by
 simp[IntKind.wrap,IntKind.bits,IntKind.signed]; omega
theorem bd7 (a b:Nat)(ha:a<256)(hb:b<256):cx6 a b=((a &&& b:Nat):Int):=by
 unfold cx6;rw[BitVec.toNat_and]
 have e:∀ n:Nat,n<256->(BitVec.ofInt 8 (n:Int)).toNat=n:=fun n hn=>by
  rw[BitVec.toNat_ofInt]; omega
 rw[e a ha,e b hb];exact jf5 (Nat.lt_of_le_of_lt Nat.and_le_left ha)
theorem and7:∀ a,a<256->((a &&& 7=0)↔a%8=0):=by decide +kernel
theorem gh4:∀ x,x<256->((x &&& 7=0)↔(x.testBit 0=false/\x.testBit 1=false/\x.testBit 2=false)):=by decide +kernel
theorem and1:∀ a,a<256->((a &&& 1=0)↔a.testBit 0=false):=by decide +kernel
theorem iy1:∀ a,a<256->((a &&& 4=0)↔a.testBit 2=false):=by decide +kernel
theorem gh5 (a b:Int):ax5 a b=-1\/ax5 a b=0\/ax5 a b=1:=by
 unfold ax5; split
 ·exact .inl rfl
 ·split
  ·exact .inr (.inl rfl)
  ·exact .inr (.inr rfl)
theorem iv1 (a b:Str):cu4 a b=-1\/cu4 a b=0\/cu4 a b=1:=by
 unfold cu4; split
 ·exact .inl rfl
 ·split
  ·exact .inr (.inl rfl)
  ·exact .inr (.inr rfl)
theorem gh6 (a b:Part):ag3 a b=-1\/ag3 a b=0\/ag3 a b=1:=by
 have h:∀ k n s:Int,(k=-1\/k=0\/k=1)->(n=-1\/n=0\/n=1)->(s=-1\/s=0\/s=1)->((if k≠0 then k else if n≠0 then n else s)=-1\/(if k≠0 then k else if n≠0 then n else s)=0\/(if k≠0 then k else if n≠0 then n else s)=1):=by
  intro k n s h1 h2 h3;rcases h1 with rfl|rfl|rfl<;>rcases h2 with rfl|rfl|rfl<;>simp<;>exact h3
 refine h (ax5 a.kind b.kind) (if a.kind=5/\b.kind=5 then ax5 a.s.length b.s.length else 0) (cu4 a.s b.s) (gh5 _ _) ?_ (iv1 _ _);split
 ·exact gh5 _ _
 ·exact .inr (.inl rfl)
theorem fn9:∀ (l m:List Part),ag5 l m=-1\/ag5 l m=0\/ag5 l m=1:=by
 intro l
 induction l with
 | nil=>intro m; exact .inr (.inl (by rw[ag5]; intros; contradiction))
 | cons a l ih=>
  intro m
  cases m with
  | nil=>exact .inr (.inl (by rw[ag5]; intros; contradiction))
  | cons b m=>
   rw[ag5];split
   ·exact gh6 a b
   ·exact ih m
theorem ev5 (a b:Str):ar2 a b=-1\/ar2 a b=0\/ar2 a b=1:=fn9 _ _
theorem gz3 (a b:EVR):ap9 a b=-1\/ap9 a b=0\/ap9 a b=1:=by
 unfold ap9;split
 ·exact gh5 _ _
 ·split
  ·exact ev5 _ _
  ·split
   ·exact .inr (.inl rfl)
   ·exact ev5 _ _
def Dep.small (d:Dep):Prop:=0<=d.op/\d.op<256/\EVR.small d.evr
theorem av9 (d:Dep):Bnd 0 (.agg d.cs):=.agg _ fun c hc=>by
 simp only[Dep.cs,List.mem_cons,List.not_mem_nil,or_false] at hc;rcases hc with rfl|rfl|rfl|rfl|rfl
 ·exact .str _
 ·exact .int _ _
 ·exact .int _ _
 ·exact .str _
 ·exact .str _
theorem em9 (a b:Dep)(ha:Dep.small a)(hb:Dep.small b):PC Tryz.prog EE 238 [.agg a.cs,.agg b.cs] (.bool (meet a b)):=by
 refine ae8 hE fok238 (nZ rfl) (ao3 (av9 a) (av9 b)) ?_;obtain ⟨a1,a2,a3⟩:=ha;obtain ⟨b1,b2,b3⟩:=hb;have hc:=bj2 a.evr b.evr a3 b3;have h3:=gz3 a.evr b.evr;unfold meet;generalize ap9 a.evr b.evr=n at hc h3;simp only[EVR.cs] at hc;obtain ⟨x,hx⟩:∃ x:Nat,a.op=x:=⟨a.op.toNat,by omega⟩;obtain ⟨y,hy⟩:∃ y:Nat,b.op=y:=⟨b.op.toNat,by omega⟩;have hx2:x<256:=by omega
 have hy2:y<256:=by omega
 have ex7:cx6 x 7=((x &&& 7:Nat):Int):=bd7 x 7 hx2 (by omega);have ey7:cx6 y 7=((y &&& 7:Nat):Int):=bd7 y 7 hy2 (by omega);rw[hx,hy,Int.toNat_natCast,Int.toNat_natCast];by_cases hx0:x%8=0
 ·have q:=(and7 x hx2).2 hx0;rw[q] at ex7;have q':cx6 x 7=0:=ex7;simp only[ic238,go_sem,Dep.cs,hx,hy,bk5,q',hx0,true_or];exact ab3 _
 ·have q:¬ (x &&& 7=0):=fun e=>hx0 ((and7 x hx2).1 e)
  have q':¬ cx6 x 7=0:=by rw[ex7]; omega
  by_cases hy0:y%8=0
  ·have r:=(and7 y hy2).2 hy0;rw[r] at ey7;have r':cx6 y 7=0:=ey7;simp only[ic238,go_sem,Dep.cs,hx,hy,bk5,q',r',hy0,or_true];exact ab3 _
  ·have r:¬ (y &&& 7=0):=fun e=>hy0 ((and7 y hy2).1 e)
   have r':¬ cx6 y 7=0:=by rw[ey7]; omega
   simp only[ic238,go_sem,Dep.cs,hx,hy,bk5,q',r',hx0,hy0,or_self];refine aa4 fok68 hc ?_;have exy:cx6 x y=((x &&& y:Nat):Int):=bd7 x y hx2 hy2;have hxy:x &&& y<256:=Nat.lt_of_le_of_lt Nat.and_le_left hx2;have exy7:cx6 ((x &&& y:Nat):Int) 7=((x &&& y &&& 7:Nat):Int):=bd7 _ 7 hxy (by omega);have s1:=gg5 1 (.inr (.inr rfl));have s2:=gg5 (-1) (.inl rfl);have n1:¬ ((1:Int)<0):=by decide
   have n2:¬ ((1:Int)=0):=by decide
   have n3:((-1:Int)<0):=by decide
   rw[if_neg n1,if_neg n2] at s1;rw[if_pos n3] at s2;have x1:cx6 x 1=((x &&& 1:Nat):Int):=bd7 x 1 hx2 (by omega);have x4:cx6 x 4=((x &&& 4:Nat):Int):=bd7 x 4 hx2 (by omega);have y1:cx6 y 1=((y &&& 1:Nat):Int):=bd7 y 1 hy2 (by omega);have y4:cx6 y 4=((y &&& 4:Nat):Int):=bd7 y 4 hy2 (by omega);have w1:IntKind.i64.wrap (0 - -1)=1:=by decide
   have w2:IntKind.i64.wrap (0-1)=-1:=by decide
   have bt:∀ (k i:Nat),bit (k:Int) i=k.testBit i:=fun k i=>by unfold bit; rw[Int.toNat_natCast]
   have z0:∀ k:Nat,((k:Int)=0)↔k=0:=fun k=>by omega
   rcases h3 with rfl|rfl|rfl
   ·have g1:side (- -1)=2:=by decide
    have g2:side (-1)=0:=by decide
    have m0:¬ ((-1:Int)=0):=by decide
    simp only[go_sem,m0,w1,g1,g2,bt];refine aa2 s1 ?_
    cases hb:x.testBit 2 with
    | true=>
     have e:¬ cx6 x 4=0:=by rw[x4,z0,iy1 x hx2,hb]; simp
     simp only[go_sem,bk5,e]
     exact ab3 _
    | false=>
     have e:cx6 x 4=0:=by rw[x4,z0,iy1 x hx2,hb]
     simp only[go_sem,bk5,e];refine aa2 s2 ?_
     cases hc:y.testBit 0 with
     | true=>
      have e2:¬ cx6 y 1=0:=by rw[y1,z0,and1 y hy2,hc]; simp
      simp only[go_sem,bk5,e2]
      exact ab3 _
     | false=>
      have e2:cx6 y 1=0:=by rw[y1,z0,and1 y hy2,hc]
      simp only[go_sem,bk5,e2];exact ab3 _
   ·simp only[go_sem,bk5,exy,exy7,bt]
    have e:(!decide (((x &&& y &&& 7:Nat):Int)=0))=(x.testBit 0&&y.testBit 0||x.testBit 1&&y.testBit 1||x.testBit 2&&y.testBit 2):=by
     by_cases hz:x &&& y &&& 7=0
     ·obtain ⟨t0,t1,t2⟩:=(gh4 _ hxy).1 hz;rw[Nat.testBit_and] at t0 t1 t2;rw[hz,t0,t1,t2]; rfl
     ·have hz':¬ ((x &&& y &&& 7:Nat):Int)=0:=fun h=>hz (by omega)
      have ht:¬ ((x &&& y).testBit 0=false/\(x &&& y).testBit 1=false/\(x &&& y).testBit 2=false):=fun h=>hz ((gh4 _ hxy).2 h)
      rw[Nat.testBit_and,Nat.testBit_and,Nat.testBit_and] at ht;rw[decide_eq_false hz']
      revert ht
      generalize (x.testBit 0&&y.testBit 0)=b0;generalize (x.testBit 1&&y.testBit 1)=b1;generalize (x.testBit 2&&y.testBit 2)=b2;cases b0<;>cases b1<;>cases b2<;>simp
    rw[e];exact ab3 _
   ·have g1:side (-1)=0:=by decide
    have g2:side 1=2:=by decide
    simp only[go_sem,n2,w2,g1,g2,bt];refine aa2 s2 ?_
    cases hb:x.testBit 0 with
    | true=>
     have e:¬ cx6 x 1=0:=by rw[x1,z0,and1 x hx2,hb]; simp
     simp only[go_sem,bk5,e]
     exact ab3 _
    | false=>
     have e:cx6 x 1=0:=by rw[x1,z0,and1 x hx2,hb]
     simp only[go_sem,bk5,e];refine aa2 s1 ?_
     cases hc:y.testBit 2 with
     | true=>
      have e2:¬ cx6 y 4=0:=by rw[y4,z0,iy1 y hy2,hc]; simp
      simp only[go_sem,bk5,e2]
      exact ab3 _
     | false=>
      have e2:cx6 y 4=0:=by rw[y4,z0,iy1 y hy2,hc]
      simp only[go_sem,bk5,e2];exact ab3 _
theorem bd8 (d:Dep):Bnd 0 (.ac1 d.cs):=.ac1 _ fun c hc=>by
 simp only[Dep.cs,List.mem_cons,List.not_mem_nil,or_false] at hc;rcases hc with rfl|rfl|rfl|rfl|rfl
 ·exact .str _
 ·exact .int _ _
 ·exact .int _ _
 ·exact .str _
 ·exact .str _
theorem ev6 (a d:Dep)(ha:Dep.small a)(hd:Dep.small d):PC Tryz.prog EE 192 [.agg a.cs,.agg d.cs] (.bool (meets a d)):=by
 refine ae8 hE fok192 (nZ rfl) (ao3 (av9 a) (av9 d)) ?_;have hm:=em9 a d ha hd;unfold meets;simp only[Dep.cs] at hm;by_cases h:a.name=d.name
 ·simp only[ic192,go_sem,Dep.cs,h] at hm ⊢;refine aa4 fok238 hm ?_;simp only[go_sem];exact ab3 _
 ·simp only[ic192,go_sem,Dep.cs,h];exact ab3 _
theorem gh7 (n:Str)(e:EVR):PC Tryz.prog EE 239 [.str n,.agg e.cs] (.agg (Dep.cs ⟨n,2,e⟩)):=by
 refine ae8 hE fok239 (nZ rfl) (ao3 (.str _) (dt3 e)) ?_;simp only[ic239,go_sem,EVR.cs,Dep.cs]
 exact .keep _ (.agg _ fun c hc=>by
  simp only[List.mem_cons,List.not_mem_nil,or_false] at hc;rcases hc with rfl|rfl|rfl|rfl|rfl
  ·exact .str _
  ·exact .int _ _
  ·exact .int _ _
  ·exact .str _
  ·exact .str _)
theorem gh8 (p:aa3):PC Tryz.prog EE 193 [.agg p.cs] (.agg (own p).cs):=by
 refine ae8 hE fok193 (nZ rfl) (ae2 (am9 p)) ?_;have ho:=gh7 p.name p.evr;simp only[EVR.cs,Dep.cs] at ho;simp only[ic193,go_sem,aa3.cs,own,Dep.cs];refine aa4 fok239 ho ?_;simp only[go_sem];exact .keep _ (av9 (own p))
def Pkg.small (p:aa3):Prop:=EVR.small p.evr/\(∀ d∈p.provides,Dep.small d)/\(∀ d∈p.aa9,Dep.small d)/\p.provides.length<2^40/\p.aa9.length<2^40/\p.files.length<2^40
theorem gh9 {p:aa3}(h:Pkg.small p):Dep.small (own p):=⟨by show (0:Int)<=2; decide,by show (2:Int)<256; decide,h.1⟩
theorem ba3 (p:aa3):p.cs.length=15:=rfl
theorem aw1 (p:aa3):p.cs.take 15=p.cs:=rfl
theorem as6 (p:aa3):p.cs.all IV.leaf=true:=rfl
theorem dt4 (p:aa3)(d:Dep)(hp:Pkg.small p)(hd:Dep.small d):PC Tryz.prog EE 127 [.agg p.cs,.agg d.cs] (.bool (named p d)):=by
 refine ae8 hE fok127 (nZ rfl) (ao3 (am9 p) (av9 d)) ?_;have ho:=gh8 p;have hm:=ev6 (own p) d (gh9 hp) hd;generalize hx:Dep.cs (own p)=x at ho hm;simp only[ic127,go_sem,ba3,aw1,as6,ar5,ao2,am8];refine aa2 ho ?_;simp only[go_sem,ar5,ao2,am8];refine aa2 hm ?_;simp only[go_sem];exact ab3 _
theorem gz4 (q:aa3)(d:Dep)(hq:Pkg.small q)(hd:Dep.small d):PC Tryz.prog EE 126 ([]++[.agg d.cs]++[.ac1 q.cs]) (.bool (named q d)):=by
 refine ae8 hE fok126 (nZ rfl) (ao3 (av9 d) (.ac1 _ (az2 q))) ?_;simp only[ic126,go_sem,ba3,aw1,as6,ar5,ao2,am8];refine aa4 fok127 (dt4 q d hq hd) ?_;simp only[go_sem];exact ab3 _
theorem cm6 (p q:aa3)(hp:Pkg.small p)(hq:Pkg.small q):PC Tryz.prog EE 70 [.agg p.cs,.agg q.cs] (.bool (aa9 p q)):=by
 refine ae8 hE fok70 (nZ rfl) (ao3 (am9 p) (am9 q)) ?_;have hc:=cx1 p.aa9 126 [] [.ac1 q.cs] (fun d=>named q d) (by have:=hp.2.2.2.2.1; omega) fok126.1 fun d hd=>gz4 q d hq (hp.2.2.1 d hd)
 have hf:(p.cs.drop 9).head? = some (deps p.aa9):=rfl;simp only[ic70,go_sem,as6,hf];refine aa4 fok125 hc ?_;simp only[go_sem];exact ab3 _
theorem gi1 (a d:Dep)(ha:Dep.small a)(hd:Dep.small d):PC Tryz.prog EE 281 ([]++[.agg a.cs]++[.ac1 d.cs]) (.bool (meets a d)):=by
 refine ae8 hE fok281 (nZ rfl) (ao3 (av9 a) (bd8 d)) ?_;simp only[ic281,go_sem,ar5,ao2,am8];refine aa4 fok192 (ev6 a d ha hd) ?_;simp only[go_sem];exact ab3 _
theorem en1 (l:List Str)(s:Str)(hl:l.length<2^40):PC Tryz.prog EE 297 [.aa5 (l.map bh4),.str s] (.int .i64 (ai1 (fun x=>decide (s=x)) l 0)):=by
 refine ay9 fok297 (nZ rfl) fun σ=>?_
 simp only[ic297,go_sem];refine ab7 noT (fun i fr t=>t=σ/\fr=[(0,.aa5 (l.map bh4)),(1,.str s),(7,.int .i64 l.length),(8,.int .i64 i)]/\ai1 (fun x=>decide (s=x)) l 0=ai1 (fun x=>decide (s=x)) (l.drop i) i) l.length ⟨rfl,rfl,rfl⟩ ?_;rintro i fr t hi ⟨rfl,rfl,hf⟩;by_cases hlt:i<l.length
 ·obtain ⟨x,ha,_,hdr,hget,_⟩:=ae3 l i hlt;have c1:(i:Int)<l.length:=by omega
  have c2:(0:Int)<=i:=by omega
  have w1:=ad6 (i:=i) (by omega);rw[hdr,ai1] at hf;by_cases e:s=x
  ·rw[if_pos (by simpa using e)] at hf;subst e;simp only[go_sem,c1,c2,hget,ds2,bh4,hf,and_self]
  ·rw[if_neg (by simpa using e)] at hf;simp only[go_sem,c1,c2,hget,ds2,bh4,e,w1];exact ⟨hlt,by rw[hf]; simp only[Int.natCast_add,Int.natCast_one]⟩
 ·have hi':i=l.length:=by omega
  subst hi';have c1:¬ (l.length:Int)<l.length:=by omega
  rw[List.drop_length] at hf;simp only[go_sem,c1,hf,ai1,and_self]
theorem gi2 (l:List Str)(s:Str)(hl:l.length<2^40):PC Tryz.prog EE 282 [.aa5 (l.map bh4),.str s] (.bool (l.contains s)):=by
 refine ay9 fok282 (nZ rfl) fun σ=>?_
 simp only[ic282,go_sem];refine aa4 fok297 (en1 l s hl) ?_
 have e:l.any (fun x=>decide (s=x))=l.contains s:=by
  induction l with
  | nil=>rfl
  | cons a l ih=>rw[List.any_cons,List.contains_cons,ih (by simp at hl; omega)]; congr 1; by_cases h:s=a<;>simp[h]
 simp only[go_sem,aq7,e,and_self]
theorem en2 (p:aa3)(d:Dep)(hp:Pkg.small p)(hd:Dep.small d):PC Tryz.prog EE 241 [.agg p.cs,.agg d.cs] (.bool (provides p d)):=by
 refine ae8 hE fok241 (nZ rfl) (ao3 (am9 p) (av9 d)) ?_;have hn:=dt4 p d hp hd;have hc:=cx1 p.provides 281 [] [.ac1 d.cs] (fun a=>meets a d) (by have:=hp.2.2.2.1; omega) fok281.1 fun a ha=>gi1 a d (hp.2.1 a ha) hd
 have hs:=gi2 p.files d.name hp.2.2.2.2.2;have hf:(p.cs.drop 6).head? = some (deps p.provides):=rfl;have hg:(p.cs.drop 14).head? = some (strs p.files):=rfl;have d0:d.cs.head? = some (.str d.name):=rfl;have d1:(d.cs.drop 1).head? = some (.int .u8 d.op):=rfl;unfold provides
 cases hb:named p d with
 | true=>
  rw[hb] at hn;simp only[ic241,go_sem,ba3,aw1,as6,ar5,ao2,am8];refine aa4 fok127 hn ?_;simp only[go_sem]
  exact ab3 _
 | false=>
  rw[hb] at hn;simp only[ic241,go_sem,ba3,aw1,as6,ar5,ao2,am8];refine aa4 fok127 hn ?_;simp only[go_sem,hf];refine aa4 fok125 hc ?_
  cases ha:p.provides.any (fun a=>meets a d) with
  | true=>
   simp only[go_sem]
   exact ab3 _
  | false=>
   by_cases h0:d.op=0
   ·simp only[go_sem,d0,d1,h0,hg];refine aa4 fok282 hs ?_;simp only[go_sem];exact ab3 _
   ·simp only[go_sem,d0,d1,h0];exact ab3 _
end Go.Id.Tryz
set_option linter.all false
namespace Go.Id.Tryz
open Go Go.Id Go.Proofs Go.Id.Md
set_option maxRecDepth 100000
theorem fn4 (p:aa3)(n:Int)(d:Dep)(hp:Pkg.small p)(hd:Dep.small d):PC Tryz.prog EE 240 [.agg p.cs,.int .i64 n,.ac1 d.cs] (.bool (provides p d)):=by
 refine ae8 hE fok240 (nZ rfl) (fun a ha=>by
  simp only[List.mem_cons,List.not_mem_nil,or_false] at ha;rcases ha with rfl|rfl|rfl
  ·exact am9 p
  ·exact .int _ _
  ·exact bd8 d) ?_
 simp only[ic240,go_sem,ba3,aw1,as6,ar5,ao2,am8];refine aa4 fok241 (en2 p d hp hd) ?_;simp only[go_sem];exact ab3 _
theorem cx4 (p:aa3)(n:Int)(d:Dep)(hp:Pkg.small p)(hd:Dep.small d):PC Tryz.prog EE 166 [.agg p.cs,.int .i64 n,.ac1 d.cs] (.bool (named p d)):=by
 refine ae8 hE fok166 (nZ rfl) (fun a ha=>by
  simp only[List.mem_cons,List.not_mem_nil,or_false] at ha;rcases ha with rfl|rfl|rfl
  ·exact am9 p
  ·exact .int _ _
  ·exact bd8 d) ?_
 simp only[ic166,go_sem,ba3,aw1,as6,ar5,ao2,am8];refine aa4 fok127 (dt4 p d hp hd) ?_;simp only[go_sem];exact ab3 _
theorem eu6 (nm:Nms)(σ:Store)(k:Str):∃ v,cr3 σ 2 .aa1 false (.al6 (nmV nm)) (.str k)=some v/\(v=.aa5 ((ad3 nm k).map Md.ah8)\/v=.aa1/\ad3 nm k=[]):=by
 have h:∀ nm:Nms,∃ r,aw6 2 (.str k) (nmV nm)=some r/\((∃ v,r=some v/\v=.aa5 ((ad3 nm k).map Md.ah8))\/r=none/\ad3 nm k=[]):=by
  intro nm
  induction nm with
  | nil=>exact ⟨none,rfl,.inr ⟨rfl,rfl⟩⟩
  | cons t ts ih=>
   obtain ⟨r,h1,h2⟩:=ih;simp only[nmV,List.map_cons,aw6,eq3,ad3] at h1 ⊢;by_cases e:k=t.1
   ·simp only[e,decide_true,if_true];exact ⟨_,rfl,.inl ⟨_,rfl,rfl⟩⟩
   ·simp only[e,decide_false,if_false];exact ⟨r,h1,h2⟩
 obtain ⟨r,h1,h2⟩:=h nm;rcases h2 with ⟨v,rfl,rfl⟩|⟨rfl,h3⟩
 ·refine ⟨.aa5 ((ad3 nm k).map Md.ah8),?_,.inl rfl⟩;simp only[cr3,cb2,h1];rfl
 ·refine ⟨.aa1,?_,.inr ⟨rfl,h3⟩⟩;simp only[cr3,cb2,h1];rfl
theorem numsOf_at {q:aa3->Bool}{l:List aa3}{n:Int}(h:n∈numsOf q l):∃ m:Nat,n=m/\m<l.length:=by
 obtain ⟨m,h1,h2,_⟩:=bg4.1 h;exact ⟨m,h1,h2⟩
theorem getD_at (l:List aa3)(m:Nat)(h:m<l.length):l.getD m default=l[m]:=by simp[List.getD_eq_getElem?_getD,h]
theorem bo2 (l:List aa3)(d:Dep)(hl:l.length<2^20)(hs:∀ p∈l,Pkg.small p)(hd:Dep.small d):PC Tryz.prog EE 196 [(ah3 l).v,.agg d.cs] (.aa5 ((al9 l d).map Md.ah8)):=by
 have hi:=bi3 l;have hb:=bc2 (ah3 l);refine ae8 hE fok196 (nZ rfl) (ao3 hb (av9 d)) ?_;have hlook:=hi.av5 d.name
 have hsift:∀ v,(v=.aa5 ((ad3 (ah3 l).av5 d.name).map Md.ah8)\/v=.aa1/\ad3 (ah3 l).av5 d.name=[])->PC Tryz.prog EE 165 [(ah3 l).v,v,.func (.func 240) [] [.ac1 d.cs]] (.aa5 ((al9 l d).map Md.ah8)):=by
  intro v hv
  have h:=gg8 (ah3 l) (ad3 (ah3 l).av5 d.name) (by rw[hlook]; have:=al8 (fun p=>decide (d.name∈cv6 p)) l; omega) 240 [.ac1 d.cs] (fun n=>provides (l.getD n.toNat default) d) (ae2 (bd8 d)) fok240.1 (fun n hn=>by
   rw[hlook] at hn;obtain ⟨m,rfl,hm⟩:=numsOf_at hn;refine ⟨m,rfl,by rw[hi.all]; exact hm,?_⟩;have e:(ah3 l).all[m]'(by rw[hi.all]; exact hm)=l[m]:=by simp only[hi.all]
   rw[e,Int.toNat_natCast,getD_at l m hm];exact fn4 l[m] m d (hs _ (List.getElem_mem hm)) hd)
  rw[dz6] at h;rcases hv with rfl|⟨rfl,h0⟩
  ·exact h
  ·rw[h0] at h;have hw:∀ {v:IV} {σ:Store},Bnd 0 v->Frz σ (fun _=>true=true) v v:=fun h=>.keep _ (h.weak fun _ _=>rfl)
   refine dp1 (args':=[(ah3 l).v,.aa5 [],.func (.func 240) [] [.ac1 d.cs]]) rfl (fun σ i hi=>?_) h
   match i,hi with
   | 0,_=>exact hw hb
   | 1,_=>exact .cb8
   | 2,_=>exact hw (.func _ _ _ (fun c hc=>by cases hc) (ae2 (bd8 d)))
 have hx:(ah3 l).v=.ac1 [.aa5 ((ah3 l).all.map aa3.cs),.al6 (nmV (ah3 l).av5),.al6 (nmV (ah3 l).names),.al6 (nmV (ah3 l).over)]:=rfl;have d0:d.cs.head? = some (.str d.name):=rfl;have hres:=ag9 (al9 l d)
 have hk0:∀ σ:Store,∃ v,cr3 σ 2 .aa1 false (.al6 (nmV (ah3 l).av5)) (.str d.name)=some v/\PC Tryz.prog EE 165 [(ah3 l).v,v,.func (.func 240) [] [.ac1 d.cs]] (.aa5 ((al9 l d).map Md.ah8)):=fun σ=>
  let ⟨v,h1,h2⟩:=eu6 (ah3 l).av5 σ d.name
  ⟨v,h1,hsift v h2⟩
 clear hsift hlook;rw[hx] at hk0 ⊢;generalize (ah3 l).all.map aa3.cs=a0 at *;simp only[ic196,go_sem,ar5,ao2,am8,d0];obtain ⟨v,hk,hsv⟩:=hk0 ⟨11,emp.obj⟩;simp only[go_sem,hk];refine aa4 fok165 hsv ?_;simp only[go_sem];exact .keep _ hres
theorem bv3 (l:List aa3)(d:Dep)(hl:l.length<2^20)(hs:∀ p∈l,Pkg.small p)(hd:Dep.small d):PC Tryz.prog EE 101 [(ah3 l).v,.agg d.cs] (.aa5 ((ao9 l d).map Md.ah8)):=by
 have hi:=bi3 l;have hb:=bc2 (ah3 l);refine ae8 hE fok101 (nZ rfl) (ao3 hb (av9 d)) ?_;have hlook:=hi.names d.name
 have hsift:∀ v,(v=.aa5 ((ad3 (ah3 l).names d.name).map Md.ah8)\/v=.aa1/\ad3 (ah3 l).names d.name=[])->PC Tryz.prog EE 165 [(ah3 l).v,v,.func (.func 166) [] [.ac1 d.cs]] (.aa5 ((ao9 l d).map Md.ah8)):=by
  intro v hv
  have h:=gg8 (ah3 l) (ad3 (ah3 l).names d.name) (by rw[hlook]; have:=al8 (fun p=>decide (p.name=d.name)) l; omega) 166 [.ac1 d.cs] (fun n=>named (l.getD n.toNat default) d) (ae2 (bd8 d)) fok166.1 (fun n hn=>by
   rw[hlook] at hn;obtain ⟨m,rfl,hm⟩:=numsOf_at hn;refine ⟨m,rfl,by rw[hi.all]; exact hm,?_⟩;have e:(ah3 l).all[m]'(by rw[hi.all]; exact hm)=l[m]:=by simp only[hi.all]
   rw[e,Int.toNat_natCast,getD_at l m hm];exact cx4 l[m] m d (hs _ (List.getElem_mem hm)) hd)
  rw[er5] at h;rcases hv with rfl|⟨rfl,h0⟩
  ·exact h
  ·rw[h0] at h;have hw:∀ {v:IV} {σ:Store},Bnd 0 v->Frz σ (fun _=>true=true) v v:=fun h=>.keep _ (h.weak fun _ _=>rfl)
   refine dp1 (args':=[(ah3 l).v,.aa5 [],.func (.func 166) [] [.ac1 d.cs]]) rfl (fun σ i hi=>?_) h
   match i,hi with
   | 0,_=>exact hw hb
   | 1,_=>exact .cb8
   | 2,_=>exact hw (.func _ _ _ (fun c hc=>by cases hc) (ae2 (bd8 d)))
 have hx:(ah3 l).v=.ac1 [.aa5 ((ah3 l).all.map aa3.cs),.al6 (nmV (ah3 l).av5),.al6 (nmV (ah3 l).names),.al6 (nmV (ah3 l).over)]:=rfl;have d0:d.cs.head? = some (.str d.name):=rfl;have hres:=ag9 (ao9 l d)
 have hk0:∀ σ:Store,∃ v,cr3 σ 2 .aa1 false (.al6 (nmV (ah3 l).names)) (.str d.name)=some v/\PC Tryz.prog EE 165 [(ah3 l).v,v,.func (.func 166) [] [.ac1 d.cs]] (.aa5 ((ao9 l d).map Md.ah8)):=fun σ=>
  let ⟨v,h1,h2⟩:=eu6 (ah3 l).names σ d.name
  ⟨v,h1,hsift v h2⟩
 clear hsift hlook;rw[hx] at hk0 ⊢;generalize (ah3 l).all.map aa3.cs=a0 at *;simp only[ic101,go_sem,ar5,ao2,am8,d0];obtain ⟨v,hk,hsv⟩:=hk0 ⟨11,emp.obj⟩;simp only[go_sem,hk];refine aa4 fok165 hsv ?_;simp only[go_sem];exact .keep _ hres
end Go.Id.Tryz
set_option linter.all false
namespace Go.Id.Tryz
open Go Go.Id Go.Proofs Go.Id.Md
set_option maxRecDepth 100000
structure gz7 (repos:List al7) (inst:List aa3):Prop where
 r1:repos.length<2^20
 i1:inst.length<2^20
 s1:ak7 repos<2^40
 rf:∀ r∈repos,al7.Fit r
 pf:∀ p∈inst,p.Fit
 ro:∀ r∈repos,al7.Ok r
 po:∀ p∈inst,p.Ok
theorem fo2 {p:aa3}(h:p.Tiny):Pkg.small p:=by
 have e:∀ v:EVR,v.tiny->EVR.small v:=fun v hv=>⟨by have:=hv.1; omega,by have:=hv.2; omega⟩
 refine ⟨e _ h.evr,fun d hd=>?_,fun d hd=>?_,?_,?_,?_⟩
 ·obtain ⟨a,b,c,_⟩:=h.av5.2 d hd; exact ⟨a,b,e _ c⟩
 ·obtain ⟨a,b,c,_⟩:=h.obs.2 d hd; exact ⟨a,b,e _ c⟩
 ·have:=h.av5.1; omega
 ·have:=h.obs.1; omega
 ·have:=h.files; omega
theorem hm6 {repos:List al7}{inst:List aa3}{p:Pool}(hI:gz7 repos inst)(h:bs9 repos inst=.inl p):∀ x∈ad4 p,x.Fit/\Pkg.small x/\x.Tiny:=by
 intro x hx;obtain ⟨h1,h2⟩:=er8 h x hx;refine ⟨?_,fo2 (es4 h1),es4 h1⟩;rcases h2 with h2|⟨r,hr,h2⟩
 ·exact hI.pf x h2
 ·exact (hI.rf r hr).2 x h2
theorem if2 (x:Index)(n:Int):PC Tryz.prog EE 227 [x.v,.int .i64 n] (.bool (decide (0<=n)&&decide (n<x.all.length))):=by
 refine ae8 hE fok227 (nZ rfl) (ao3 (bc2 x) (.int _ _)) ?_;have hx:x.v=.ac1 [.aa5 (x.all.map aa3.cs),.al6 (nmV x.av5),.al6 (nmV x.names),.al6 (nmV x.over)]:=rfl;have hnil:∀ (d:TypeId) (cs:List IV) (c:IV),bv7 (.pointer d) (.ac1 (c::cs))=some false:=fun _ _ _=>rfl
 rw[hx];have hlen:(x.all.map aa3.cs).length=x.all.length:=List.length_map ..;generalize x.all.map aa3.cs=es at *;generalize x.all.length=k at *;by_cases h1:0<=n
 ·by_cases h2:n<(k:Nat)
  ·have h2':n<(es.length:Nat):=by omega
   simp only[ic227,go_sem,hnil,h1,h2,h2',hlen,Bool.and_self];exact ab3 _
  ·have h2':¬ n<(es.length:Nat):=by omega
   simp only[ic227,go_sem,hnil,h1,h2,h2',hlen,Bool.and_false];exact ab3 _
 ·simp only[ic227,go_sem,hnil,h1,Bool.false_and];exact ab3 _
theorem gi4 (l:List aa3)(m n:Nat)(hm:m<l.length)(hn:n<l.length)(hs:∀ p∈l,Pkg.small p) :
  PC Tryz.prog EE 228 [.agg l[m].cs,.int .i64 m,.ac1 [.int .i64 n],.ac1 [(ah3 l).v]] (.bool (decide (m≠n)&&aa9 l[m] l[n])):=by
 refine ae8 hE fok228 (nZ rfl) (fun a ha=>by
  simp only[List.mem_cons,List.not_mem_nil,or_false] at ha;rcases ha with rfl|rfl|rfl|rfl
  ·exact am9 _
  ·exact .int _ _
  ·exact .ac1 _ (ae2 (.int _ _))
  ·exact .ac1 _ (ae2 (bc2 _))) ?_
 have hx:(ah3 l).v=.ac1 [.aa5 (l.map aa3.cs),.al6 (nmV (ah3 l).av5),.al6 (nmV (ah3 l).names),.al6 (nmV (ah3 l).over)]:=by
  show IV.ac1 [.aa5 ((ah3 l).all.map aa3.cs),_,_,_]=_;rw[(bi3 l).all]
 have ho:=cm6 l[m] l[n] (hs _ (List.getElem_mem hm)) (hs _ (List.getElem_mem hn));have hg:(l.map aa3.cs).getD n []=l[n].cs:=by simp[List.getD_eq_getElem?_getD,hn]
 have hl:(l.map aa3.cs).length=l.length:=List.length_map ..;rw[hx];generalize l.map aa3.cs=es at *;by_cases e:m=n
 ·have e':(m:Int)=n:=by omega
  simp only[ic228,go_sem,ba3,aw1,as6,e',e,ne_eq,not_true_eq_false,decide_false,Bool.false_and];exact ab3 _
 ·have e':¬ (m:Int)=n:=by omega
  have c1:(0:Int)<=n:=by omega
  have c2:(n:Int)<es.length:=by omega
  simp only[ic228,go_sem,ba3,aw1,as6,e',e,c1,c2,hg,ne_eq,not_false_eq_true,decide_true,Bool.true_and];refine aa4 fok70 ho ?_;simp only[go_sem];exact ab3 _
def al3 (l:List aa3)(n:Nat):List Int:=(ad3 (ah3 l).over (l.getD n default).name).filter fun k=>decide (k.toNat≠n)&&aa9 (l.getD k.toNat default) (l.getD n default)
theorem cx7 {l:List aa3}{n:Nat}{k:Int}:k∈al3 l n↔∃ m:Nat,k=m/\m<l.length/\m≠n/\aa9 (l.getD m default) (l.getD n default)=true:=by
 unfold al3;rw[(bi3 l).over,List.mem_filter];constructor
 ·rintro ⟨h1,h2⟩;obtain ⟨m,rfl,h3,_⟩:=bg4.1 h1;simp only[Int.toNat_natCast,Bool.and_eq_true,decide_eq_true_eq] at h2;exact ⟨m,rfl,h3,h2.1,h2.2⟩
 ·rintro ⟨m,rfl,h1,h2,h3⟩;refine ⟨bg4.2 ⟨m,rfl,h1,?_⟩,?_⟩
  ·obtain ⟨d,h4,h5⟩:=List.any_eq_true.1 h3;refine decide_eq_true ⟨d,h4,?_⟩;simp only[named,meets,Bool.and_eq_true,decide_eq_true_eq] at h5;exact h5.1.symm
  ·simp only[Int.toNat_natCast,Bool.and_eq_true,decide_eq_true_eq];exact ⟨h2,h3⟩
theorem cx8 (l:List aa3)(n:Nat):(al3 l n).length<=l.length:=by
 unfold al3;rw[(bi3 l).over];exact Nat.le_trans (List.length_filter_le _ _) (al8 _ _)
abbrev iv (n:Int):IV:=.int .i64 n
theorem gi5 {id n k:Nat}(h:k<=n):du5 1 (some (.int .i64 (k:Int))) none (.slice id 0 n 1)=some (.slice id k (n-k) 1):=by
 have e:(0:Int)<=k:=by omega
 simp[du5,cy8,fp8,e,h]
theorem hm7 {id n k:Nat}(h:k<=n):du5 1 none (some (.int .i64 (k:Int))) (.slice id 0 n 1)=some (.slice id 0 k 1):=by
 have e:(0:Int)<=k:=by omega
 simp[du5,cy8,fp8,e,h]
theorem cm7 {zs:List Int}{p:Nat}(h:p+1<zs.length)(x:Int):x∈zs.take (p+1+1)↔x∈zs.take (p+1)\/x=zs[p+1]:=by
 rw[List.take_add_one (i:=p+1),List.getElem?_eq_getElem h,List.mem_append];simp[Option.toList]
theorem cm8 {zs:List Int}{p:Nat}(h:p+1<zs.length)(e:zs[p+1]=zs[p])(x:Int):x∈zs.take (p+1)↔x∈zs.take (p+1+1):=by
 rw[cm7 h];refine ⟨.inl,fun q=>q.elim (fun q=>q) fun q=>?_⟩;rw[q,e];exact List.mem_iff_getElem.2 ⟨p,by rw[List.length_take]; omega,by rw[List.getElem_take]⟩
theorem ec4 {cs vs:List IV}{k:Nat}(h:k<=cs.length):(ba9 cs k vs).take k=cs.take k:=by
 unfold ba9;rw[List.append_assoc,List.take_append_of_le_length (by rw[List.length_take]; omega),List.take_take,Nat.min_self]
theorem dl7 {cs:List IV}{v:IV}{k:Nat}(h:k<=cs.length):(ba9 cs k [v]).take (k+1)=cs.take k++[v]:=by
 unfold ba9;have e:(cs.take k++[v]).length=k+1:=by rw[List.length_append,List.length_take,List.length_singleton]; omega
 rw[List.take_append_of_le_length (by omega),List.take_of_length_le (by omega)]
theorem dl8 {cs:List IV}{v:IV}{k q:Nat}(h:k<q)(hk:k<=cs.length):(ba9 cs k [v]).drop q=cs.drop q:=by
 unfold ba9;have e:(cs.take k++[v]).length=k+1:=by rw[List.length_append,List.length_take,List.length_singleton]; omega
 rw[List.drop_append,e,List.drop_of_length_le (by omega),List.nil_append,List.drop_drop,List.length_singleton];congr 1; omega
theorem iv3 {pt:PT}{ct:CT}{P:Program}{E:Nat->IV}{e id:Nat}{z:List IV}{x:IX}{fr:Frm}{σ:Store}{K:IV->Store->Prop}:opT pt ct P E (.clr e z x) id fr σ K=bu4 (fu3 σ e z (x.ev E fr)) fun σ'=>σ'.next=σ.next/\K .undef σ':=rfl
theorem gi6 {σ:Store}{id k n:Nat}{cs:List IV}(ho:σ.obj id=some (.row cs))(h1:k<n)(h2:n<=cs.length):fu3 σ 1 [.int .i64 0] (.slice id k (n-k) 1)=some (σ.put id (.row (ba9 cs k (rep [.int .i64 0] (n-k))))):=by
 have e1:¬ n-k=0:=by omega
 have e2:k+(n-k)*1<=cs.length:=by omega
 unfold fu3;simp only[e1,if_false,ho,e2,true_and];rfl
structure jh5 (R:Int->Int->Prop) (σ:Store) (id:Nat) (zs:List Int) (v:IV) (s:Store):Prop where
 out:∃ (D:List Int) (cs:List IV),D.Pairwise R/\(∀ x,x∈D↔x∈zs)/\v=.slice id 0 D.length 1/\s.obj id=some (.row cs)/\cs.take D.length=D.map iv/\D.length<=cs.length
 next:σ.next<=s.next
 other:∀ i,i≠id->s.obj i=σ.obj i
theorem fo3 {R:Int->Int->Prop}{σ:Store}{id:Nat}{zs:List Int}{tl:List IV}(hT:∀ a∈zs,∀ b∈zs,∀ c∈zs,R a b->R b c->R a c)(hz:zs.length<2^40)(ho:σ.obj id=some (.row (zs.map iv++tl)))(hs:zs.Pairwise fun a b=>a=b\/R a b) :
  C Tryz.prog EE 173 [.slice id 0 zs.length 1] σ (jh5 R σ id zs):=by
 refine C_f fok173 (nZ rfl) ?_;by_cases h2:(zs.length:Int)<2
 ·simp only[ic173,go_sem,h2];refine ⟨⟨zs,zs.map iv++tl,?_,fun _=>Iff.rfl,rfl,ho,by rw[List.take_append_of_le_length (by simp),List.take_of_length_le (by simp)],by simp⟩,Nat.le_refl _,fun _ _=>rfl⟩
  match zs,h2 with
  | [],_=>exact .nil
  | [a],_=>simp
  | a::b::l,h2=>simp only[List.length_cons] at h2; omega
 simp only[ic173,go_sem,h2];refine ab7 noT (fun i fr t=>(t.obj=σ.obj/\σ.next<=t.next)/\fr=[(0,.slice id 0 zs.length 1),(3,.int .i64 ((i+1:Nat):Int))]/\i+1<=zs.length/\(zs.take (i+1)).Pairwise R) zs.length ⟨⟨rfl,Nat.le_refl _⟩,rfl,by omega,?_⟩ ?_
 ·cases zs with
  | nil=>exact .nil
  | cons a l=>simp
 rintro i fr t hi ⟨⟨hob,hnx⟩,rfl,hle,hpw⟩;have hot:t.obj id=some (.row (zs.map iv++tl)):=by rw[hob]; exact ho
 have hh:∀ (j:Nat) (h:j<zs.length),((zs.map iv++tl).drop j).head? = some (.int .i64 zs[j]):=fun j h=>by simp[List.head?_drop,List.getElem?_append_left,h]
 have hml:zs.length<=(zs.map iv++tl).length:=by rw[List.length_append,List.length_map]; omega
 by_cases hlt:i+1<zs.length
 ·have c1:((i+1:Nat):Int)<zs.length:=by omega
  have c2:(0:Int)<=((i+1:Nat):Int):=by omega
  have c3:IntKind.i64.wrap (((i+1:Nat):Int)-1)=(i:Int):=by rw[wrap64 (by omega) (by omega)]; omega
  have c4:(0:Int)<=(i:Int):=by omega
  have c5:(i:Int)<zs.length:=by omega
  have w1:=ad6 (i:=i+1) (by omega);have g1:=hh (i+1) hlt;have g2:=hh i (by omega);have hle2:zs[i]=zs[i+1]\/R zs[i] zs[i+1]:=List.pairwise_iff_getElem.1 hs i (i+1) (by omega) hlt (by omega);by_cases e:zs[i+1]=zs[i]'(by omega)
  ·simp only[go_sem,c1,c2,c3,c4,c5,hot,g1,g2,e,Int.toNat_natCast,Nat.zero_add,Nat.mul_one,w1,gi5 (show i+1<=zs.length by omega)]
   refine ab7 noT (fun j fr t=>∃ (k:Nat) (cs:List IV) (D:List Int),fr=[(0,.slice id 0 zs.length 1),(3,.int .i64 (k:Int)),(4,.slice id (i+1) (zs.length-(i+1)) 1),(5,.int .i64 ((j+1:Nat):Int))] /\
    (σ.next<=t.next/\∀ q,q≠id->t.obj q=σ.obj q)/\t.obj id=some (.row cs)/\zs.length<=cs.length/\k<=i+1+j/\i+1+j<zs.length/\D.length=k/\cs.take k=D.map iv/\D.Pairwise R/\(∀ x,x∈D↔x∈zs.take (i+1+j+1)) /\
    ∀ (q:Nat) (h:q<zs.length),k<=q->(cs.drop q).head? = some (.int .i64 zs[q])) (zs.length-(i+1)) ?_ ?_
   ·refine ⟨i+1,zs.map iv++tl,zs.take (i+1),rfl,⟨by show σ.next<=t.next+10; omega,fun q _=>by rw[hob]⟩,hot,hml,by omega,by omega,by rw[List.length_take]; omega,by rw[List.take_append_of_le_length (by rw[List.length_map]; omega),List.map_take],hpw,fun x=>?_,fun q h _=>hh q h⟩;exact cm8 (p:=i) hlt e x
   rintro j fr u hj ⟨k,cs,D,rfl,⟨un,uo⟩,hoc,hcl,hk1,hk2,hDl,hDt,hDp,hDm,hcs⟩;by_cases hl2:j+1<zs.length-(i+1)
   ·have d1:((j+1:Nat):Int)<(zs.length-(i+1):Nat):=by omega
    have d2:(0:Int)<=((j+1:Nat):Int):=by omega
    have d3:IntKind.i64.wrap (((j+1:Nat):Int)-1)=(j:Int):=by rw[wrap64 (by omega) (by omega)]; omega
    have d4:(0:Int)<=(j:Int):=by omega
    have d5:(j:Int)<(zs.length-(i+1):Nat):=by omega
    have d6:(0:Int)<=(k:Int):=by omega
    have d7:(k:Int)<zs.length:=by omega
    have d8:k+1<=cs.length:=by omega
    have w2:=ad6 (i:=j+1) (by omega);have w3:=ad6 (i:=k) (by omega);have f1:=hcs (i+1+(j+1)) (by omega) (by omega);have f2:=hcs (i+1+j) (by omega) (by omega);by_cases e2:zs[i+1+(j+1)]=zs[i+1+j]
    ·simp only[go_sem,d1,d2,d3,d4,d5,hoc,f1,f2,e2,Int.toNat_natCast,Nat.zero_add,Nat.mul_one,w2];exact ⟨by omega,k,cs,D,rfl,⟨by omega,uo⟩,rfl,hcl,by omega,by omega,hDl,hDt,hDp,fun x=>(hDm x).trans (cm8 (p:=i+1+j) (by omega) e2 x),hcs⟩
    ·simp only[go_sem,d1,d2,d3,d4,d5,d6,d7,d8,hoc,f1,f2,e2,Int.toNat_natCast,Nat.zero_add,Nat.mul_one,w2,w3];have hle3:zs[i+1+j]=zs[i+1+(j+1)]\/R zs[i+1+j] zs[i+1+(j+1)]:=List.pairwise_iff_getElem.1 hs (i+1+j) (i+1+(j+1)) (by omega) (by omega) (by omega);have hn:=cm7 (zs:=zs) (p:=i+1+j) (by omega);have hR3:R zs[i+1+j] zs[i+1+(j+1)]:=hle3.elim (fun q=>absurd q.symm e2) fun q=>q
     have hlt3:∀ x∈D,R x zs[i+1+(j+1)]:=by
      intro x hx;obtain ⟨q,hq,rfl⟩:=List.mem_iff_getElem.1 ((hDm x).1 hx);rw[List.length_take] at hq;rw[List.getElem_take];by_cases hqe:q=i+1+j
      ·subst hqe; exact hR3
      ·rcases List.pairwise_iff_getElem.1 hs q (i+1+j) (by omega) (by omega) (by omega) with h|h
       ·rw[h]; exact hR3
       ·exact hT _ (List.getElem_mem _) _ (List.getElem_mem _) _ (List.getElem_mem _) h hR3
     have hb1:σ.next<=u.next+10:=by omega
     refine ⟨by omega,k+1,ba9 cs k [.int .i64 zs[i+1+(j+1)]],D++[zs[i+1+(j+1)]],rfl,⟨hb1,fun q hq=>by rw[if_neg hq]; exact uo q hq⟩,rfl,?_,by omega,by omega,by rw[List.length_append,hDl]; rfl,?_,?_,fun x=>?_,fun q h hq=>?_⟩
     ·rw[aj4 (by rw[List.length_singleton]; omega)]; exact hcl
     ·rw[dl7 (by omega),hDt,List.map_append]; rfl
     ·exact List.pairwise_append.2 ⟨hDp,by simp,fun a ha b hb=>by
       simp only[List.mem_cons,List.not_mem_nil,or_false] at hb;subst hb; exact hlt3 a ha⟩
     ·rw[List.mem_append,hDm x];refine Iff.trans ?_ (hn x).symm;simp only[List.mem_cons,List.not_mem_nil,or_false];exact Iff.rfl
     ·rw[dl8 (by omega) (by omega)];exact hcs q h (by omega)
   ·have d1:¬ ((j+1:Nat):Int)<(zs.length-(i+1):Nat):=by omega
    have hkn:k<zs.length:=by omega
    have hj':i+1+j+1=zs.length:=by omega
    rw[hj',List.take_length] at hDm;simp only[go_sem,d1,gi5 (show k<=zs.length by omega),hm7 (show k<=zs.length by omega),hoc,iv3,gi6 hoc hkn (by omega)];have hrl:(rep [IV.int .i64 0] (zs.length-k)).length=zs.length-k:=by rw[au3]; simp
    refine ⟨⟨D,ba9 cs k (rep [IV.int .i64 0] (zs.length-k)),hDp,hDm,by rw[hDl],by simp only[aa7,if_true],by rw[hDl,ec4 (by omega)]; exact hDt,?_⟩,un,fun q hq=>?_⟩
    ·rw[aj4 (by rw[hrl]; omega),hDl]; omega
    ·simp only[aa7,if_neg hq];exact uo q hq
  ·simp only[go_sem,c1,c2,c3,c4,c5,hot,g1,g2,e,Int.toNat_natCast,Nat.zero_add,Nat.mul_one,w1];refine ⟨by omega,⟨hob,by show σ.next<=_; omega⟩,by omega,?_⟩;rw[List.take_add_one,List.getElem?_eq_getElem hlt,List.pairwise_append];refine ⟨hpw,by simp,fun a ha b hb=>?_⟩;simp only[Option.toList,List.mem_cons,List.not_mem_nil,or_false] at hb;subst hb;obtain ⟨j,hj,rfl⟩:=List.mem_iff_getElem.1 ha;rw[List.length_take] at hj;rw[List.getElem_take];have hR2:R zs[i] zs[i+1]:=hle2.elim (fun q=>absurd q.symm e) fun q=>q
   by_cases hji:j=i
   ·subst hji; exact hR2
   ·rcases List.pairwise_iff_getElem.1 hs j i (by omega) (by omega) (by omega) with h|h
    ·rw[h]; exact hR2
    ·exact hT _ (List.getElem_mem _) _ (List.getElem_mem _) _ (List.getElem_mem _) h hR2
 ·have hi':i+1=zs.length:=by omega
  have c1:¬ ((i+1:Nat):Int)<zs.length:=by omega
  simp only[go_sem,c1];rw[hi',List.take_length] at hpw;exact ⟨⟨zs,zs.map iv++tl,hpw,fun _=>Iff.rfl,rfl,hot,by rw[List.take_append_of_le_length (by simp),List.take_of_length_le (by simp)],by simp⟩,hnx,fun j _=>by rw[hob]⟩
abbrev Cmp:=jh5 (· < ·)
theorem gi7 {σ:Store}{id:Nat}{zs:List Int}(hz:zs.length<2^40)(ho:σ.obj id=some (.row (zs.map iv)))(hs:zs.Pairwise (·<=·)) :
  C Tryz.prog EE 173 [.slice id 0 zs.length 1] σ (Cmp σ id zs):=
 fo3 (tl:=[]) (fun _ _ _ _ _ _ h h2=>Int.lt_trans h h2) hz (by rw[List.append_nil]; exact ho) (hs.imp fun h=>by omega)
end Go.Id.Tryz
set_option linter.all false
namespace Go.Id.Tryz
open Go Go.Id Go.Proofs Go.Shelf
set_option maxRecDepth 100000
def jm8:Go.Shelf.Ren where
 f:=fun n=>(List.lookup n [(0,0),(1,1),(2,2),(99,216),(107,151),(108,218),(109,297),(110,282),(119,304),(122,121),(125,230),(128,272),(129,273),(137,214),(151,301),(152,303),(161,277),(189,172),(197,300),(206,257),(215,188),(216,269),(217,256),(224,305),(225,306),(227,294),(228,299),(231,293),(233,295),(235,296),(257,229),(260,302),(266,287),(294,263),(295,264),(296,265),(297,266),(298,267),(299,268),(300,270),(301,271),(328,288),(329,289),(330,290),(331,291),(332,292),(336,279),(343,298),(347,307),(348,308),(349,309),(350,310),(351,311),(352,312),(353,313),(354,314),(355,315),(356,316),(357,317),(358,318),(359,319),(360,320),(361,321),(366,324),(367,332)]).getD 0
 t:=fun n=>(List.lookup n [(0,0),(1,1),(2,2),(3,3),(4,4),(5,5),(7,7),(8,8),(9,9),(10,10),(11,11),(12,12),(13,13),(14,14),(15,15),(16,16),(17,17),(18,18),(20,20),(21,21),(22,228),(23,276),(27,166),(28,35),(29,66),(30,229),(31,73),(32,298),(33,278),(34,60),(35,198),(40,310),(41,137),(43,165),(45,53),(46,236),(47,235),(51,271),(52,270),(53,273),(54,272),(55,226),(63,304),(64,305),(80,312),(81,65),(102,222),(104,169),(105,302),(106,303),(111,67),(112,68),(114,311),(115,291),(116,292),(117,293),(118,294),(119,306),(122,290),(123,295),(124,296),(127,321),(131,133),(134,234),(137,307),(139,309),(164,327),(181,263),(182,264),(183,265),(184,266),(185,267),(186,268),(187,269),(214,274),(218,284),(219,285),(220,286),(221,287),(222,288),(223,289),(228,299),(229,300),(230,301),(238,313),(239,314),(240,315),(241,316),(242,317),(245,320),(248,324)]).getD 0
 g:=fun n=>n
theorem iv4:Lays.n189 Tryz.prog jm8 where
 mixed:=by kernel_rfl
 f125:=Tryz.func230.trans (congrArg some (by kernel_rfl))
 f128:=Tryz.func272.trans (congrArg some (by kernel_rfl))
 f129:=Tryz.func273.trans (congrArg some (by kernel_rfl))
 f189:=Tryz.func172.trans (congrArg some (by kernel_rfl))
 f215:=Tryz.func188.trans (congrArg some (by kernel_rfl))
 f216:=Tryz.func269.trans (congrArg some (by kernel_rfl))
 f257:=Tryz.func229.trans (congrArg some (by kernel_rfl))
 f294:=Tryz.func263.trans (congrArg some (by kernel_rfl))
 f295:=Tryz.func264.trans (congrArg some (by kernel_rfl))
 f296:=Tryz.func265.trans (congrArg some (by kernel_rfl))
 f297:=Tryz.func266.trans (congrArg some (by kernel_rfl))
 f298:=Tryz.func267.trans (congrArg some (by kernel_rfl))
 f299:=Tryz.func268.trans (congrArg some (by kernel_rfl))
 f300:=Tryz.func270.trans (congrArg some (by kernel_rfl))
 f301:=Tryz.func271.trans (congrArg some (by kernel_rfl))
 f328:=Tryz.func288.trans (congrArg some (by kernel_rfl))
 f329:=Tryz.func289.trans (congrArg some (by kernel_rfl))
 f330:=Tryz.func290.trans (congrArg some (by kernel_rfl))
 f331:=Tryz.func291.trans (congrArg some (by kernel_rfl))
 f332:=Tryz.func292.trans (congrArg some (by kernel_rfl))
 f343:=Tryz.func298.trans (congrArg some (by kernel_rfl))
 t0:=by kernel_rfl
 a0:=Tryz.isAgg0
 z0:=fun _=>by kernel_rfl
 v0:=fun _=>by kernel_rfl
 t3:=by kernel_rfl
 a3:=Tryz.isAgg3
 z3:=fun _=>by kernel_rfl
 v3:=fun _=>by kernel_rfl
 t4:=by kernel_rfl
 a4:=Tryz.isAgg4
 z4:=fun _=>by kernel_rfl
 v4:=fun _=>by kernel_rfl
 t5:=by kernel_rfl
 a5:=Tryz.isAgg5
 z5:=fun _=>by kernel_rfl
 v5:=fun _=>by kernel_rfl
 t9:=by kernel_rfl
 a9:=Tryz.isAgg9
 z9:=fun _=>by kernel_rfl
 v9:=fun _=>by kernel_rfl
 t28:=by kernel_rfl
 a28:=Tryz.isAgg35
 z28:=fun _=>by kernel_rfl
 v28:=fun _=>by kernel_rfl
 t46:=by kernel_rfl
 a46:=Tryz.isAgg236
 z46:=fun _=>by kernel_rfl
 v46:=fun _=>by kernel_rfl
 t51:=by kernel_rfl
 a51:=Tryz.isAgg271
 z51:=fun _=>by kernel_rfl
 v51:=fun _=>by kernel_rfl
 t53:=by kernel_rfl
 a53:=Tryz.isAgg273
 z53:=fun _=>by kernel_rfl
 v53:=fun _=>by kernel_rfl
 t131:=by kernel_rfl
 a131:=Tryz.isAgg133
 z131:=fun _=>by kernel_rfl
 v131:=fun _=>by kernel_rfl
 t182:=by kernel_rfl
 a182:=Tryz.isAgg264
 z182:=fun _=>by kernel_rfl
 v182:=fun _=>by kernel_rfl
 t183:=by kernel_rfl
 a183:=Tryz.isAgg265
 z183:=fun _=>by kernel_rfl
 v183:=fun _=>by kernel_rfl
 t218:=by kernel_rfl
 a218:=Tryz.isAgg284
 z218:=fun _=>by kernel_rfl
 v218:=fun _=>by kernel_rfl
 t222:=by kernel_rfl
 a222:=Tryz.isAgg288
 z222:=fun _=>by kernel_rfl
 v222:=fun _=>by kernel_rfl
 t228:=by kernel_rfl
 a228:=Tryz.isAgg299
 z228:=fun _=>by kernel_rfl
 v228:=fun _=>by kernel_rfl
 t229:=by kernel_rfl
 a229:=Tryz.isAgg300
 z229:=fun _=>by kernel_rfl
 v229:=fun _=>by kernel_rfl
def if3 (l:List Int):List Int:=l.mergeSort fun x y=>decide (x<=y)
theorem fo4 {σ:Store}{id:Nat}{zs:List Int}(hz:zs.length<4611686018427387904)(ho:σ.obj id=some (.row (zs.map (IV.int .i64)))) :
  C Tryz.prog EE 172 [.slice id 0 zs.length 1] σ fun v s=>v=.tuple []/\s=σ.put id (.row ((if3 zs).map (IV.int .i64))):=
 hw9 (enc:=Value.int .i64) (en:=IV.int .i64) (srt:=if3) (fun _ _ x=>.int _ _) (fun _ _ x r h=>by cases h; rfl) (fun l=>List.length_mergeSort l) (by unfold if3; rw[List.mergeSort_nil])
  (fun blk off cap zs w h1 h2 h3=>Any.slices_Sort_int iv4 blk off cap zs w h1 h2 h3) (fun p cap w=>Any.slices_Sort_int_none iv4 p cap w) hz ho
open Go Go.Id Go.Proofs Go.Shelf Go.Id.Md
theorem gi8:∀ {a b:List Int},a.Pairwise (· < ·)->b.Pairwise (· < ·)->(∀ x,x∈a↔x∈b)->a=b:=by
 intro a
 induction a with
 | nil=>
  intro b _ _ h
  cases b with
  | nil=>rfl
  | cons y b=>exact absurd ((h y).2 (List.mem_cons_self ..)) (by simp)
 | cons x a ih=>
  intro b ha hb h
  cases b with
  | nil=>exact absurd ((h x).1 (List.mem_cons_self ..)) (by simp)
  | cons y b=>
   obtain ⟨a1,a2⟩:=List.pairwise_cons.1 ha;obtain ⟨b1,b2⟩:=List.pairwise_cons.1 hb
   have e:x=y:=by
    rcases List.mem_cons.1 ((h x).1 (List.mem_cons_self ..)) with e|e
    ·exact e
    ·have l1:=b1 x e;rcases List.mem_cons.1 ((h y).2 (List.mem_cons_self ..)) with e2|e2
     ·exact e2.symm
     ·have l2:=a1 y e2; omega
   subst e;rw[ih a2 b2 fun z=>?_];constructor
   ·intro hz;have l1:=a1 z hz;rcases List.mem_cons.1 ((h z).1 (List.mem_cons_of_mem _ hz)) with e|e
    ·omega
    ·exact e
   ·intro hz;have l1:=b1 z hz;rcases List.mem_cons.1 ((h z).2 (List.mem_cons_of_mem _ hz)) with e|e
    ·omega
    ·exact e
end Go.Id.Tryz
/- Whom a package aa9: the function walked. Conditions: sizes that fit. -/
namespace Go.Id
open Go Go.Id
end Go.Id
namespace Go.Id.Tryz
open Go Go.Id Go.Proofs Go.Shelf Go.Id.Md
end Go.Id.Tryz
set_option linter.all false
namespace Go.Id.Tryz
open Go Go.Id Go.Proofs Go.Id.Md
set_option maxRecDepth 100000
def mP (name:Str)(av5 obs:List Dep)(files:List Str):aa3:={ name:=name,evr:=⟨0,[49],[49]⟩,aq4:=1,vendor:=[],provides:=av5,requires:=[],conflicts:=[],aa9:=obs,ac3:=[],ac2:=[],suggests:=[],ad7:=[],files:=files }
def dP (name:Str)(op:Int)(ver:Str):Dep:=⟨name,op,⟨0,ver,[]⟩⟩
def cP (name:Str)(av5 obs files:IV):List IV:=[.str name,.int .i64 0,.str [49],.str [49],.int .u8 1,.str [],av5,.aa1,.aa1,obs,.aa1,.aa1,.aa1,.aa1,files]
def mA:aa3:=mP [97] [] [] []
def mB:aa3:=mP [98] [dP [97] 2 [50]] [dP [97] 1 [50]] []
def mC:aa3:=mP [99] [] [] [[47,102]]
def mT:aa3:=mP [97] [dP [97] 2 [51],dP [97] 2 [52],dP [97] 0 []] [dP [97] 0 [],dP [98] 0 [],dP [98] 1 [57]] []
def mD:aa3:=mP [98] [] [] []
def cA:List IV:=cP [97] .aa1 .aa1 .aa1
def cB:List IV:=cP [98] (deps [dP [97] 2 [50]]) (deps [dP [97] 1 [50]]) .aa1
def cC:List IV:=cP [99] .aa1 .aa1 (strs [[47,102]])
def cT:List IV:=cP [97] (deps [dP [97] 2 [51],dP [97] 2 [52],dP [97] 0 []]) (deps [dP [97] 0 [],dP [98] 0 [],dP [98] 1 [57]]) .aa1
def cD:List IV:=cP [98] .aa1 .aa1 .aa1
theorem iv5 {name:Str}{av5 obs:List Dep}{files:List Str}(h1:name.length<100)(h2:av5.length<100)(h3:obs.length<100)(h4:files.length<100)(h5:(av5++obs).all (fun d=>decide (d.name.length<100)&&decide (d.evr.ver.length<100)&&decide (d.evr.rel.length<100))=true)(h6:files.all (fun s=>decide (s.length<100))=true):(mP name av5 obs files).Fit:=by
 have hd:∀ d∈av5++obs,d.fit:=fun d hd=>by
  have:=List.all_eq_true.1 h5 d hd;simp only[Bool.and_eq_true,decide_eq_true_eq] at this;exact ⟨by omega,by show d.evr.ver.length<_; omega,by show d.evr.rel.length<_; omega⟩
 refine ⟨by show name.length<_; omega,⟨by show ([49]:Str).length<2^62; decide,by show ([49]:Str).length<2^62; decide⟩,⟨by show av5.length<_; omega,fun d h=>hd d (List.mem_append_left _ h)⟩,⟨by show obs.length<_; omega,fun d h=>hd d (List.mem_append_right _ h)⟩,⟨by show files.length<_; omega,fun s h=>by have:=List.all_eq_true.1 h6 s h; simp only[decide_eq_true_eq] at this; omega⟩,fun x hx=>?_⟩;simp only[aa3.rows,mP,List.mem_cons,List.not_mem_nil,or_false] at hx;rcases hx with rfl|rfl|rfl|rfl|rfl|rfl<;>exact ⟨by decide,fun r h=>by cases h⟩
theorem cx9:∀ p∈[mA,mB,mC,mT,mD],p.Fit:=by
 intro p hp;simp only[List.mem_cons,List.not_mem_nil,or_false] at hp;rcases hp with rfl|rfl|rfl|rfl|rfl<;>exact iv5 (by decide) (by decide) (by decide) (by decide) (by decide) (by decide)
def p1M:Pool:=⟨rowsOf [mA,mB,mC] (-1) 1025,3,[([97],[0]),([98],[1]),([99],[2])]⟩
def p2M:Pool:=⟨rowsOf [mB,mC] (-1) 1025++rowsOf [mA] 0 0++rowsOf [mT,mD] 1 0,2,[([98],[0,4]),([99],[1]),([97],[2,3])]⟩
theorem jm9:iq2 (bs9 [] [mA,mB,mC])=.tuple [p1M.v,.int .i64 0]:=by kernel_rfl
theorem jn1:iq2 (bs9 [⟨0,[mA]⟩,⟨0,[mT,mD]⟩] [mB,mC])=.tuple [p2M.v,.int .i64 0]:=by kernel_rfl
def a1:List IV:=[.aa1,.aa5 [cA,cB,cC]]
def a2:List IV:=[.aa5 [[.int .i64 0,.aa5 [cA]],[.int .i64 0,.aa5 [cT,cD]]],.aa5 [cB,cC]]
theorem e1:PC Tryz.prog EE 37 a1 (.tuple [p1M.v,.int .i64 0]):=by
 rw[<- jm9];refine hy5 (args':=[as5 [],az3 [mA,mB,mC]]) (by kernel_rfl) (ck8 [] [mA,mB,mC] (by decide) (by decide) (by decide) (fun r h=>by cases h) fun p hp=>cx9 p ?_);simp only[List.mem_cons,List.not_mem_nil,or_false] at hp ⊢;rcases hp with h|h|h<;>simp[h]
theorem e2:PC Tryz.prog EE 37 a2 (.tuple [p2M.v,.int .i64 0]):=by
 rw[<- jn1];refine hy5 (args':=[as5 [⟨0,[mA]⟩,⟨0,[mT,mD]⟩],az3 [mB,mC]]) (by kernel_rfl) (ck8 _ _ (by decide) (by decide) (by decide) (fun r hr=>?_) fun p hp=>cx9 p ?_)
 ·simp only[List.mem_cons,List.not_mem_nil,or_false] at hr;rcases hr with rfl|rfl
  ·exact ⟨by decide,fun p hp=>cx9 p (by simp only[List.mem_cons,List.not_mem_nil,or_false] at hp ⊢; simp[hp])⟩
  ·exact ⟨by decide,fun p hp=>cx9 p (by simp only[List.mem_cons,List.not_mem_nil,or_false] at hp ⊢; rcases hp with h|h<;>simp[h])⟩
 ·simp only[List.mem_cons,List.not_mem_nil,or_false] at hp ⊢;rcases hp with h|h<;>simp[h]
theorem ew1 {p:Pool}{l:List aa3}(h:p.rows.map (·.pkg)=l)(hl:∀ x∈l,x∈[mA,mB,mC,mT,mD]):(∀ r∈p.rows,r.pkg.Fit)/\∀ r∈p.rows,r.pkg.provides.length+r.pkg.files.length+r.pkg.aa9.length+3<=2^15:=by
 have hm:∀ r∈p.rows,r.pkg∈[mA,mB,mC,mT,mD]:=fun r hr=>hl _ (by rw[<- h]; exact List.mem_map_of_mem hr)
 refine ⟨fun r hr=>cx9 _ (hm r hr),fun r hr=>?_⟩;have:=hm r hr;generalize r.pkg=x at this;simp only[List.mem_cons,List.not_mem_nil,or_false] at this;rcases this with rfl|rfl|rfl|rfl|rfl<;>decide
theorem e3:PC Tryz.prog EE 89 [p1M.v] (.tuple [(ah3 [mA,mB,mC]).v,.int .i64 0]):=by
 obtain ⟨h1,h2⟩:=ew1 (p:=p1M) (l:=[mA,mB,mC]) rfl (fun x hx=>by simp only[List.mem_cons,List.not_mem_nil,or_false] at hx ⊢; rcases hx with h|h|h<;>simp[h]);exact bj1 p1M h1 (by decide) h2
theorem e4:PC Tryz.prog EE 89 [p2M.v] (.tuple [(ah3 [mB,mC,mA,mT,mD]).v,.int .i64 0]):=by
 obtain ⟨h1,h2⟩:=ew1 (p:=p2M) (l:=[mB,mC,mA,mT,mD]) rfl (fun x hx=>by simp only[List.mem_cons,List.not_mem_nil,or_false] at hx ⊢; rcases hx with h|h|h|h|h<;>simp[h]);exact bj1 p2M h1 (by decide) h2
theorem co9 (p:Pool)(n m:Nat)(h:n<p.rows.length)(h':m<p.rows.length)(hne:n≠m)(hs:∀ r∈p.rows,Pkg.small r.pkg):PC Tryz.prog EE 31 [p.v,.int .i64 n,.int .i64 m] (.bool (aa9 p.rows[n].pkg p.rows[m].pkg)):=by
 refine ae8 hE fok31 (nZ rfl) (fun a ha=>by
  simp only[List.mem_cons,List.not_mem_nil,or_false] at ha;rcases ha with rfl|rfl|rfl
  ·exact ax6 p
  ·exact .int _ _
  ·exact .int _ _) ?_
 have c1:(n:Int)<p.rows.length:=by omega
 have c2:(0:Int)<=n:=by omega
 have c3:(m:Int)<p.rows.length:=by omega
 have c4:(0:Int)<=m:=by omega
 have c5:¬ (n:Int)=m:=by omega
 have hg:(p.rows.map bb3.cs).getD n []=p.rows[n].cs:=by simp[List.getD_eq_getElem?_getD,h]
 have hg':(p.rows.map bb3.cs).getD m []=p.rows[m].cs:=by simp[List.getD_eq_getElem?_getD,h']
 have hnil:∀ (d:TypeId) (cs:List IV) (c:IV),bv7 (.pointer d) (.ac1 (c::cs))=some false:=fun _ _ _=>rfl
 have ho:=cm6 p.rows[n].pkg p.rows[m].pkg (hs _ (List.getElem_mem h)) (hs _ (List.getElem_mem h'));simp only[ic31,go_sem,Pool.v,hnil];refine aa4 fok69 (bz8 p.rows n) ?_;simp only[go_sem,c1,c2,Bool.and_self];refine aa4 fok69 (bz8 p.rows m) ?_;simp only[go_sem,c1,c2,c3,c4,c5,hg,hg',bi9,ev3,Bool.and_self];refine aa4 fok70 ho ?_;simp only[go_sem];exact ab3 _
end Go.Id.Tryz
set_option linter.all false
namespace Go.Id.Tryz
open Go Go.Id Go.Proofs Go.Id.Md
set_option maxRecDepth 100000
theorem gi9 {f:Nat}{args args':List IV}{σ:Store}{Q:IV->Store->Prop}(hl:args'.length=args.length)(ha:∀ i,i<args.length->Frz σ (fun _=>true=true) (args.getD i .undef) (args'.getD i .undef))(h:C Tryz.prog EE f args' σ Q):C Tryz.prog EE f args σ Q :=
 fz5 (S:=fun _=>true) hl ha h
theorem hm8 (x:Index)(l:List Int)(hl:l.length<2^30)(k:Nat)(cap:List IV)(w:Int->Bool)(hok:okF Tryz.prog k=true)
  (hW:∀ n∈l,∃ m:Nat,n=m/\∃ h:m<x.all.length,PC Tryz.prog EE k (.agg x.all[m].cs::.int .i64 n::cap) (.bool (w n))) (σ:Store) :
  C Tryz.prog EE 165 [x.v,.aa5 (l.map Md.ah8),.func (.func k) [] cap] σ (cz8 σ (l.filter w)):=by
 have hx:x.v=.ac1 [.aa5 (x.all.map aa3.cs),.al6 (nmV x.av5),.al6 (nmV x.names),.al6 (nmV x.over)]:=rfl;rw[hx];generalize IV.al6 (nmV x.av5)=v1 at *;generalize IV.al6 (nmV x.names)=v2 at *;generalize IV.al6 (nmV x.over)=v3 at *;refine C_f fok165 (nZ rfl) ?_;simp only[ic165,go_sem];refine ab7 noT (fun i fr s=>∃ gv,fr=[(0,.ac1 [.aa5 (x.all.map aa3.cs),v1,v2,v3]),(2,.func (.func k) [] cap),(7,gv),(10,.aa5 (l.map Md.ah8)),(11,.int .i64 l.length),(12,.int .i64 i)]/\Kept σ s/\ay3 s σ.next gv ((l.take i).filter w)) l.length ⟨.aa1,rfl,Kept.refl σ,.inl ⟨rfl,rfl⟩⟩ ?_;rintro i fr s hle ⟨gv,rfl,hk,hg⟩;by_cases hlt:i<l.length
 ·obtain ⟨n,hn,_,hdr,hget,htk⟩:=ae3 l i hlt;have c1:(i:Int)<l.length:=by omega
  have c2:(0:Int)<=i:=by omega
  have w1:=ad6 (i:=i) (by omega);obtain ⟨m,rfl,hm,hpc⟩:=hW n hn;have c3:(m:Int)<x.all.length:=by omega
  have c4:(0:Int)<=m:=by omega
  have hgm:(x.all.map aa3.cs).getD m []=x.all[m].cs:=by simp[List.getD_eq_getElem?_getD,hm]
  simp only[go_sem,c1,c2,c3,c4,hget,Md.ah8,hgm,ag4,ag6,ac9,Int.toNat_natCast,List.length_map];refine dt1 hok hpc ?_
  cases hw:w (m:Int) with
  | false=>
   simp only[go_sem,w1];have e:(l.take (i+1)).filter w=(l.take i).filter w:=by rw[htk,List.filter_append]; simp[hw]
   rw[e]
   exact ⟨hlt,gv,rfl,hk,hg⟩
  | true=>
   have hlen:((l.take i).filter w).length<=i:=by
    refine Nat.le_trans (List.length_filter_le _ _) ?_;rw[List.length_take]; omega
   have hap:=fy5 (nid:=s.next) (hg.up 1) (m:Int) (by omega);have e:(l.take (i+1)).filter w=(l.take i).filter w++[(m:Int)]:=by rw[htk,List.filter_append]; simp[hw]
   simp only[go_sem,hap,w1,e];have hz:=eq7 hk hg (m:Int) (a:=1) (nid:=s.next) (Nat.le_refl _) (Nat.lt_succ_self _) rfl;exact ⟨hlt,_,rfl,hz.1,hz.2⟩
 ·have hi':i=l.length:=by omega
  subst hi';have c1:¬ (l.length:Int)<l.length:=by omega
  rw[List.take_length] at hg;simp only[go_sem,c1];exact ⟨hk,hg⟩
theorem ab2 {S:Nat->Prop}{s:Store}{a b:Bool}(h:a=b):Frz s S (.bool a) (.bool b):=h▸ab3 a
theorem bv6 {S:Nat->Prop}{s:Store}{k:IntKind}{a b:Int}(h:a=b):Frz s S (.int k a) (.int k b):=h▸.keep _ (.int _ _)
theorem cl2 (a:Int):PC Tryz.prog EE 81 [.int .u8 a] (.bool (bt1 a)):=by
 refine ae8 hE fok81 (nZ rfl) (aj1 (.int _ _)) ?_;simp only[ic81,go_sem]
 first|refine aa4 fok143 (aq1 a) ?_|refine aa2 (aq1 a) ?_
 unfold bt1
 cases an5 a with
 | false=>simp only[go_sem]; exact ab2 rfl
 | true=>
  by_cases h:a=1
  ·simp only[go_sem,h]; exact ab2 rfl
  ·simp only[go_sem,h]; exact ab2 (by simp[h])
theorem ew2 (a b:Int):PC Tryz.prog EE 67 [.int .u8 a,.int .u8 b] (.bool (dj8 a b)):=by
 refine ae8 hE fok67 (nZ rfl) (aj6 (.int _ _) (.int _ _)) ?_;have ha:=cl2 a;have hb:=cl2 b;simp only[ic67,go_sem]
 first|refine aa4 fok81 (ha) ?_|refine aa2 (ha) ?_
 unfold dj8
 cases bt1 a with
 | false=>simp only[go_sem]; exact ab2 rfl
 | true=>
  simp only[go_sem]
  first|refine aa4 fok81 (hb) ?_|refine aa2 (hb) ?_
  cases bt1 b with
  | false=>simp only[go_sem]; exact ab2 rfl
  | true=>
   by_cases h:a=b
   ·simp only[go_sem,h]; exact ab2 (by simp)
   ·simp only[go_sem,h]; exact ab2 (by simp[h])
theorem fo5 (a b:Int):PC Tryz.prog EE 170 [.int .u8 a,.int .u8 b] (.bool (cp9 a b)):=by
 refine ae8 hE fok170 (nZ rfl) (aj6 (.int _ _) (.int _ _)) ?_;have ha:=aq1 a;have hb:=aq1 b;have hc:=ew2 a b;simp only[ic170,go_sem]
 first|refine aa4 fok143 (ha) ?_|refine aa2 (ha) ?_
 unfold cp9
 cases an5 a with
 | false=>simp only[go_sem]; exact ab2 rfl
 | true=>
  simp only[go_sem]
  first|refine aa4 fok143 (hb) ?_|refine aa2 (hb) ?_
  cases an5 b with
  | false=>simp only[go_sem]; exact ab2 rfl
  | true=>
   simp only[go_sem]
   first|refine aa4 fok67 (hc) ?_|refine aa2 (hc) ?_
   simp only[go_sem];exact ab2 (by simp)
def hm9:List IV:=[.int .i64 0,.int .i64 0,.int .i64 0,.int .i64 0,.int .i64 0,.int .i64 0,.int .i64 0,.int .i64 0,.int .i64 0,.int .i64 0,.int .i64 0,.int .i64 2,.int .i64 1,.int .i64 3,.int .i64 0,.int .i64 0,.int .i64 2,.int .i64 0,.int .i64 1,.int .i64 0,.int .i64 0,.int .i64 2,.int .i64 0,.int .i64 0,.int .i64 1]
theorem ec5:PC Tryz.prog EE 187 [] (.agg hm9):=by
 refine ae8 hE fok187 (nZ rfl) (fun a h=>by cases h) ?_;simp only[ic187,go_sem];exact .keep _ (ax1 10 _ (by kernel_rfl))
theorem if4 (m a:Int)(h1:an5 m=true)(h2:an5 a=true):PC Tryz.prog EE 118 [.int .u8 m,.int .u8 a] (.int .i64 (cw2 m a)):=by
 unfold an5 at h1 h2;simp only[Bool.and_eq_true,decide_eq_true_eq] at h1 h2;have hm:m=1\/m=2\/m=3\/m=4:=by omega
 have ha:a=1\/a=2\/a=3\/a=4:=by omega
 rcases hm with rfl|rfl|rfl|rfl<;>rcases ha with rfl|rfl|rfl|rfl
 all_goals
  refine ae8 hE fok118 (nZ rfl) (aj6 (.int _ _) (.int _ _)) ?_;simp only[ic118,go_sem]
  first|refine aa4 fok143 (aq1 _) ?_|refine aa2 (aq1 _) ?_
  simp only[go_sem,an5]
  first|refine aa4 fok143 (aq1 _) ?_|refine aa2 (aq1 _) ?_
  simp only[go_sem,an5]
  first|refine aa4 fok187 (ec5) ?_|refine aa2 (ec5) ?_
  simp only[go_sem,hm9,List.drop_succ_cons,List.drop_zero,List.getElem?_cons_succ,List.getElem?_cons_zero];exact .keep _ (.int _ _)
theorem ew3 (m a:Int)(h:an5 m=false\/an5 a=false):cw2 m a=0:=by
 unfold an5 at h;simp only[Bool.and_eq_false_iff,decide_eq_false_iff_not] at h;unfold cw2
 repeat' split
 all_goals first|rfl|omega
theorem gz8 (m a:Int):PC Tryz.prog EE 118 [.int .u8 m,.int .u8 a] (.int .i64 (cw2 m a)):=by
 have hm:=aq1 m;have ha:=aq1 a
 cases h1:an5 m with
 | false=>
  rw[ew3 m a (.inl h1)];refine ae8 hE fok118 (nZ rfl) (aj6 (.int _ _) (.int _ _)) ?_;rw[h1] at hm;simp only[ic118,go_sem]
  first|refine aa4 fok143 (hm) ?_|refine aa2 (hm) ?_
  simp only[go_sem]
  exact bv6 rfl
 | true=>
  cases h2:an5 a with
  | false=>
   rw[ew3 m a (.inr h2)];refine ae8 hE fok118 (nZ rfl) (aj6 (.int _ _) (.int _ _)) ?_;rw[h1] at hm;rw[h2] at ha;simp only[ic118,go_sem]
   first|refine aa4 fok143 (hm) ?_|refine aa2 (hm) ?_
   simp only[go_sem]
   first|refine aa4 fok143 (ha) ?_|refine aa2 (ha) ?_
   simp only[go_sem]
   exact bv6 rfl
  | true=>exact if4 m a h1 h2
theorem if5 (m a:Int):PC Tryz.prog EE 66 [.int .u8 m,.int .u8 a] (.bool (iq8 m a)):=by
 refine ae8 hE fok66 (nZ rfl) (aj6 (.int _ _) (.int _ _)) ?_;have h:=gz8 m a;simp only[ic66,go_sem]
 first|refine aa4 fok118 (h) ?_|refine aa2 (h) ?_
 simp only[go_sem];exact ab2 rfl
end Go.Id.Tryz
set_option linter.all false
namespace Go.Id.Tryz
open Go Go.Id Go.Proofs Go.Shelf Go.Id.Md
set_option maxRecDepth 100000
theorem ax4 (d:Job):d.cs.length=6:=rfl
theorem aq8 (d:Job):d.cs.all IV.leaf=true:=rfl
theorem ba4 (d:Job):d.cs.take 6=d.cs:=rfl
theorem aq9 (d:bb8):d.cs.length=2:=rfl
theorem aj3 (d:bb8):d.cs.all IV.leaf=true:=rfl
theorem ao6 (d:bb8):d.cs.take 2=d.cs:=rfl
theorem gj1 (d:Job):∀ c∈d.cs,Bnd 0 c:=je2 (.int _ _) (.str _) (.int _ _) (.int _ _) (.str _) (.str _)
theorem ew4 (d:bb8):∀ c∈d.cs,Bnd 0 c:=aj6 (.int _ _) (.int _ _)
theorem ca2 (l:List Job):Bnd 0 (be4 l):=.aa5 _ fun e he c hc=>by
 obtain ⟨d,_,rfl⟩:=List.mem_map.1 he; exact gj1 d c hc
theorem bc3 (l:List bb8):Bnd 0 (au7 l):=.aa5 _ fun e he c hc=>by
 obtain ⟨d,_,rfl⟩:=List.mem_map.1 he; exact ew4 d c hc
theorem gz9 (d:Job):Bnd 0 (.agg d.cs):=.agg _ (gj1 d)
theorem ca3 (d:bb8):Bnd 0 (.agg d.cs):=.agg _ (ew4 d)
theorem ca4 (xs:List Int)(g:Nat)(first cap:List IV)(q:Int->Bool)(hn:xs.length<2^62)(hok:okF Tryz.prog g=true)
  (hq:∀ x∈xs,PC Tryz.prog EE g (first++[IV.int .i64 x]++cap) (.bool (q x))):PC Tryz.prog EE 164 [.aa5 (xs.map Md.ah8),.func (.func g) first cap] (.int .i64 (ai1 q xs 0)):=by
 refine ay9 fok164 (nZ rfl) fun σ=>?_
 simp only[ic164,go_sem];refine ab7 noT (fun i fr s=>s=σ/\fr=[(0,.aa5 (xs.map Md.ah8)),(1,.func (.func g) first cap),(7,.int .i64 xs.length),(8,.int .i64 i)]/\ai1 q xs 0=ai1 q (xs.drop i) i) xs.length ⟨rfl,rfl,rfl⟩ ?_;rintro i fr s hi ⟨rfl,rfl,hf⟩;by_cases hlt:i<xs.length
 ·obtain ⟨x,ha,_,hdr,hget,_⟩:=ae3 xs i hlt;have c1:(i:Int)<xs.length:=by omega
  have c2:(0:Int)<=i:=by omega
  have w1:=ad6 (i:=i) (by omega);rw[hdr] at hf;simp only[go_sem,c1,c2,hget,Md.ah8];refine ao1 hok (eh8 (hq x ha)) ?_;rintro v s ⟨rfl,rfl⟩;refine ⟨Nat.le_refl _,?_⟩
  cases hqe:q x with
  | true=>simp only[go_sem,hf,ai1,hqe,and_self]
  | false=>
   simp only[go_sem,w1];exact ⟨hlt,by rw[hf]; simp only[ai1,hqe,Bool.false_eq_true,if_false,Int.natCast_add,Int.natCast_one]⟩
 ·have hi':i=xs.length:=by omega
  subst hi';have c1:¬ (xs.length:Int)<xs.length:=by omega
  rw[List.drop_length] at hf;simp only[go_sem,c1,hf,ai1,and_self]
theorem bg9 (xs:List Int)(g:Nat)(first cap:List IV)(q:Int->Bool)(hn:xs.length<2^62)(hok:okF Tryz.prog g=true)
  (hq:∀ x∈xs,PC Tryz.prog EE g (first++[IV.int .i64 x]++cap) (.bool (q x))):PC Tryz.prog EE 99 [.aa5 (xs.map Md.ah8),.func (.func g) first cap] (.bool (xs.any q)):=by
 refine ay9 fok99 (nZ rfl) fun σ=>?_
 simp only[ic99,go_sem]
 first|refine aa4 fok164 (ca4 xs g first cap q hn hok hq) ?_|refine aa2 (ca4 xs g first cap q hn hok hq) ?_
 simp only[go_sem,aq7,and_self]
theorem ec6 (xs:List Job)(g:Nat)(first cap:List IV)(q:Job->Bool)(hn:xs.length<2^62)(hok:okF Tryz.prog g=true)
  (hq:∀ x∈xs,PC Tryz.prog EE g (first++[IV.agg (Job.cs x)]++cap) (.bool (q x))):PC Tryz.prog EE 144 [.aa5 (xs.map Job.cs),.func (.func g) first cap] (.int .i64 (ai1 q xs 0)):=by
 refine ay9 fok144 (nZ rfl) fun σ=>?_
 simp only[ic144,go_sem];refine ab7 noT (fun i fr s=>s=σ/\fr=[(0,.aa5 (xs.map Job.cs)),(1,.func (.func g) first cap),(7,.int .i64 xs.length),(8,.int .i64 i)]/\ai1 q xs 0=ai1 q (xs.drop i) i) xs.length ⟨rfl,rfl,rfl⟩ ?_;rintro i fr s hi ⟨rfl,rfl,hf⟩;by_cases hlt:i<xs.length
 ·obtain ⟨x,ha,_,hdr,hget,_⟩:=ae3 xs i hlt;have c1:(i:Int)<xs.length:=by omega
  have c2:(0:Int)<=i:=by omega
  have w1:=ad6 (i:=i) (by omega);rw[hdr] at hf;simp only[go_sem,c1,c2,hget,ax4,ba4,aq8];refine ao1 hok (eh8 (hq x ha)) ?_;rintro v s ⟨rfl,rfl⟩;refine ⟨Nat.le_refl _,?_⟩
  cases hqe:q x with
  | true=>simp only[go_sem,hf,ai1,hqe,and_self]
  | false=>
   simp only[go_sem,w1];exact ⟨hlt,by rw[hf]; simp only[ai1,hqe,Bool.false_eq_true,if_false,Int.natCast_add,Int.natCast_one]⟩
 ·have hi':i=xs.length:=by omega
  subst hi';have c1:¬ (xs.length:Int)<xs.length:=by omega
  rw[List.drop_length] at hf;simp only[go_sem,c1,hf,ai1,and_self]
theorem gj2 (xs:List Job)(g:Nat)(first cap:List IV)(q:Job->Bool)(hn:xs.length<2^62)(hok:okF Tryz.prog g=true)
  (hq:∀ x∈xs,PC Tryz.prog EE g (first++[IV.agg (Job.cs x)]++cap) (.bool (q x))):PC Tryz.prog EE 82 [.aa5 (xs.map Job.cs),.func (.func g) first cap] (.bool (xs.any q)):=by
 refine ay9 fok82 (nZ rfl) fun σ=>?_
 simp only[ic82,go_sem]
 first|refine aa4 fok144 (ec6 xs g first cap q hn hok hq) ?_|refine aa2 (ec6 xs g first cap q hn hok hq) ?_
 simp only[go_sem,aq7,and_self]
theorem dl9 (xs:List bb8)(g:Nat)(first cap:List IV)(q:bb8->Bool)(hn:xs.length<2^62)(hok:okF Tryz.prog g=true)
  (hq:∀ x∈xs,PC Tryz.prog EE g (first++[IV.agg (bb8.cs x)]++cap) (.bool (q x))):PC Tryz.prog EE 149 [.aa5 (xs.map bb8.cs),.func (.func g) first cap] (.int .i64 (ai1 q xs 0)):=by
 refine ay9 fok149 (nZ rfl) fun σ=>?_
 simp only[ic149,go_sem];refine ab7 noT (fun i fr s=>s=σ/\fr=[(0,.aa5 (xs.map bb8.cs)),(1,.func (.func g) first cap),(7,.int .i64 xs.length),(8,.int .i64 i)]/\ai1 q xs 0=ai1 q (xs.drop i) i) xs.length ⟨rfl,rfl,rfl⟩ ?_;rintro i fr s hi ⟨rfl,rfl,hf⟩;by_cases hlt:i<xs.length
 ·obtain ⟨x,ha,_,hdr,hget,_⟩:=ae3 xs i hlt;have c1:(i:Int)<xs.length:=by omega
  have c2:(0:Int)<=i:=by omega
  have w1:=ad6 (i:=i) (by omega);rw[hdr] at hf;simp only[go_sem,c1,c2,hget,aq9,ao6,aj3];refine ao1 hok (eh8 (hq x ha)) ?_;rintro v s ⟨rfl,rfl⟩;refine ⟨Nat.le_refl _,?_⟩
  cases hqe:q x with
  | true=>simp only[go_sem,hf,ai1,hqe,and_self]
  | false=>
   simp only[go_sem,w1];exact ⟨hlt,by rw[hf]; simp only[ai1,hqe,Bool.false_eq_true,if_false,Int.natCast_add,Int.natCast_one]⟩
 ·have hi':i=xs.length:=by omega
  subst hi';have c1:¬ (xs.length:Int)<xs.length:=by omega
  rw[List.drop_length] at hf;simp only[go_sem,c1,hf,ai1,and_self]
theorem fo6 (xs:List bb8)(g:Nat)(first cap:List IV)(q:bb8->Bool)(hn:xs.length<2^62)(hok:okF Tryz.prog g=true)
  (hq:∀ x∈xs,PC Tryz.prog EE g (first++[IV.agg (bb8.cs x)]++cap) (.bool (q x))):PC Tryz.prog EE 85 [.aa5 (xs.map bb8.cs),.func (.func g) first cap] (.bool (xs.any q)):=by
 refine ay9 fok85 (nZ rfl) fun σ=>?_
 simp only[ic85,go_sem]
 first|refine aa4 fok149 (dl9 xs g first cap q hn hok hq) ?_|refine aa2 (dl9 xs g first cap q hn hok hq) ?_
 simp only[go_sem,aq7,and_self]
theorem if6 {α:Type}[DecidableEq α](xs:List α)(n:α):xs.any (fun x=>decide (n=x))=decide (n∈xs):=by
 rw[Bool.eq_iff_iff]; simp
theorem hn6 (a b:bb8):he9 [1,1] true false (.agg a.cs) (.agg b.cs)=some (.bool (decide (a=b))):=by
 have e:decide (a=b)=(decide (a.kind=b.kind)&&decide (a.n=b.n)):=by
  cases a; cases b; simp only[bb8.mk.injEq,Bool.decide_and]
 rw[e];unfold bb8.cs;simp only[hh4,hh6,hh5,go_sem,Option.map_some,iz5,aj9,Bool.xor_false,Bool.and_true]
theorem ec7 (xs:List bb8)(n:bb8)(hn:xs.length<2^62):PC Tryz.prog EE 194 [au7 xs,.agg n.cs] (.int .i64 (ai1 (fun x=>decide (n=x)) xs 0)):=by
 refine ae8 hE fok194 (nZ rfl) (aj6 (bc3 xs) (ca3 n)) ?_;simp only[ic194,go_sem,aj3];refine ab7 noT (fun i fr s=>fr=[(0,au7 xs),(3,.ac1 n.cs),(7,.int .i64 xs.length),(8,.int .i64 i)]/\ai1 (fun x=>decide (n=x)) xs 0=ai1 (fun x=>decide (n=x)) (xs.drop i) i) xs.length ⟨rfl,rfl⟩ ?_;rintro i fr s hi ⟨rfl,hf⟩;by_cases hlt:i<xs.length
 ·obtain ⟨x,ha,_,hdr,hget,_⟩:=ae3 xs i hlt;have c1:(i:Int)<xs.length:=by omega
  have c2:(0:Int)<=i:=by omega
  have w1:=ad6 (i:=i) (by omega);rw[hdr] at hf;by_cases e:n=x
  ·simp only[go_sem,c1,c2,hget,aq9,ao6,aj3,hn6,e];subst e;exact bv6 (by rw[hf]; simp[ai1])
  ·simp only[go_sem,c1,c2,hget,aq9,ao6,aj3,hn6,e,w1];exact ⟨hlt,by rw[hf]; simp only[ai1,e,decide_false,Bool.false_eq_true,if_false,Int.natCast_add,Int.natCast_one]⟩
 ·have hi':i=xs.length:=by omega
  subst hi';have c1:¬ (xs.length:Int)<xs.length:=by omega
  rw[List.drop_length] at hf;simp only[go_sem,c1];exact bv6 (by rw[hf]; rfl)
theorem fo7 (xs:List bb8)(n:bb8)(hn:xs.length<2^62):PC Tryz.prog EE 128 [au7 xs,.agg n.cs] (.bool (decide (n∈xs))):=by
 refine ae8 hE fok128 (nZ rfl) (aj6 (bc3 xs) (ca3 n)) ?_;have h:=ec7 xs n hn;have e:=aq7 (fun x=>decide (n=x)) xs;rw[if6] at e;simp only[ic128,go_sem,aq9,ao6,aj3]
 first|refine aa4 fok194 (h) ?_|refine aa2 (h) ?_
 simp only[go_sem,e];exact ab2 rfl
theorem en3 (xs:List Job)(hn:xs.length<=2147483648):PC Tryz.prog EE 152 [.aa5 (xs.map Job.cs)] (.aa5 (xs.map Job.cs)):=by
 cases hx:xs with
 | nil=>
  rw[List.map_nil];refine bm5 ?_ ?_
  ·refine ae8 hE fok152 (nZ rfl) (ae2 .aa1) ?_;simp only[ic152,go_sem,aj5];exact .cb8
  ·refine ae8 hE fok152 (nZ rfl) (ae2 .af3) ?_;simp only[ic152,go_sem,aj5];rw[bh8 (by simp only[aa7,if_true]) rfl];simp only[go_sem]
   exact .db4 _ _ _ (by simp only[aa7,if_true]; exact fun h=>(by cases h))
 | cons a as'=>
  have hne:xs.map Job.cs≠[]:=by rw[hx]; exact fun h=>(by cases h)
  have hall:∀ e∈xs.map Job.cs,e.length=6/\e.all IV.leaf=true:=fun e he=>by
   obtain ⟨x,_,rfl⟩:=List.mem_map.1 he;exact ⟨ax4 x,aq8 x⟩
  rw[<- hx];refine ae8 hE fok152 (nZ rfl) (ae2 (ca2 xs)) ?_;have hnil:∀ d,bv7 (.slice d) (.aa5 (xs.map Job.cs))=some false:=fun d=>by rw[hx]; rfl
  simp only[ic152,go_sem,aj5,hnil];rw[cc3 (by simp only[aa7,if_true]) hne hall (by rw[List.length_map]; exact hn)];simp only[go_sem];refine Grow.frz (esz:=6) (es:=xs.map Job.cs) (.inr ⟨1,by rw[List.length_map],by simp only[aa7,if_true],Nat.lt_succ_self _⟩) (fun x hx=>(hall x hx).1) (fun _ _=>Nat.not_lt_zero _) (ak6 (ca2 xs))
theorem ec8 (xs:List bb8)(hn:xs.length<=2147483648):PC Tryz.prog EE 153 [.aa5 (xs.map bb8.cs)] (.aa5 (xs.map bb8.cs)):=by
 cases hx:xs with
 | nil=>
  rw[List.map_nil];refine bm5 ?_ ?_
  ·refine ae8 hE fok153 (nZ rfl) (ae2 .aa1) ?_;simp only[ic153,go_sem,aj5];exact .cb8
  ·refine ae8 hE fok153 (nZ rfl) (ae2 .af3) ?_;simp only[ic153,go_sem,aj5];rw[bh8 (by simp only[aa7,if_true]) rfl];simp only[go_sem]
   exact .db4 _ _ _ (by simp only[aa7,if_true]; exact fun h=>(by cases h))
 | cons a as'=>
  have hne:xs.map bb8.cs≠[]:=by rw[hx]; exact fun h=>(by cases h)
  have hall:∀ e∈xs.map bb8.cs,e.length=2/\e.all IV.leaf=true:=fun e he=>by
   obtain ⟨x,_,rfl⟩:=List.mem_map.1 he;exact ⟨aq9 x,aj3 x⟩
  rw[<- hx];refine ae8 hE fok153 (nZ rfl) (ae2 (bc3 xs)) ?_;have hnil:∀ d,bv7 (.slice d) (.aa5 (xs.map bb8.cs))=some false:=fun d=>by rw[hx]; rfl
  simp only[ic153,go_sem,aj5,hnil];rw[cc3 (by simp only[aa7,if_true]) hne hall (by rw[List.length_map]; exact hn)];simp only[go_sem];refine Grow.frz (esz:=2) (es:=xs.map bb8.cs) (.inr ⟨1,by rw[List.length_map],by simp only[aa7,if_true],Nat.lt_succ_self _⟩) (fun x hx=>(hall x hx).1) (fun _ _=>Nat.not_lt_zero _) (ak6 (bc3 xs))
end Go.Id.Tryz
