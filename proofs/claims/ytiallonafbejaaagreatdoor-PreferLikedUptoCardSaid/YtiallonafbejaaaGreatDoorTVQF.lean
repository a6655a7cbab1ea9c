/- EVRs and ranges compared; who provides what. Conditions: sizes that fit. -/
import Derived.Test.YtiallonafbejaaaGreatDoorTVQD
set_option linter.all false
namespace Go.Id.Tryz
open Go Go.Id Go.Proofs Go.Id.Md
set_option maxRecDepth 100000
theorem fk8 (a b:EVR):PC Tryz.prog EE 165 [.tptr a.cs,.tptr b.cs] (.int .i64 (ai7 a.epoch b.epoch)):=by
 refine ak4 fok165 (Nat.le_of_ble_eq_true rfl) fun σ=>?_
 simp only[ic165,go_sem,EVR.cs]
 refine aa1 fok126 (bc4 _ _) ?_
 simp only[go_sem,and_self]
theorem fk9 (a b:EVR)(h1:a.ver.length<2^30)(h2:b.ver.length<2^30):PC Tryz.prog EE 166 [.tptr a.cs,.tptr b.cs] (.int .i64 (aj5 a.ver b.ver)):=by
 refine ak4 fok166 (Nat.le_of_ble_eq_true rfl) fun σ=>?_
 simp only[ic166,go_sem,EVR.cs]
 refine aa1 fok167 (bp8 _ _ h1 h2) ?_
 simp only[go_sem,and_self]
theorem fl1 (a b:EVR)(h1:a.rel.length<2^30)(h2:b.rel.length<2^30):PC Tryz.prog EE 168 [.tptr a.cs,.tptr b.cs] (.int .i64 (if a.rel=[]∨b.rel=[] then 0 else aj5 a.rel b.rel)):=by
 refine ak4 fok168 (Nat.le_of_ble_eq_true rfl) fun σ=>?_
 by_cases e1:a.rel=[]
 ·simp only[ic168,go_sem,EVR.cs,e1,true_or,and_self]
 ·by_cases e2:b.rel=[]
  ·simp only[ic168,go_sem,EVR.cs,e1,e2,or_true,and_self]
  ·simp only[ic168,go_sem,EVR.cs,e1,e2,or_self]
   refine aa1 fok167 (bp8 _ _ h1 h2) ?_
   simp only[go_sem,and_self]
def fnC (f:Nat×List IV):List IV:=[.func (.func f.1) [] f.2]
theorem dv3 (fs:List (Nat×List IV))(vals:List Int)(hl:fs.length=vals.length)(hn:fs.length<2^40)(hb:∀ f∈fs,∀ c∈f.2,Bnd 0 c)
  (h:∀ i (h1:i<fs.length) (h2:i<vals.length),okF Tryz.prog fs[i].1=true∧PC Tryz.prog EE fs[i].1 fs[i].2 (.int .i64 vals[i])):PC Tryz.prog EE 164 [.tslice (fs.map fnC)] (.int .i64 (orM vals)):=by
 refine ae9 hE fok164 (Nat.le_of_ble_eq_true rfl) (ad3 (.tslice _ fun e he c hc=>?_)) ?_
 ·obtain ⟨f,hf,rfl⟩:=List.mem_map.1 he
  cases hc with
  | head=>exact .func _ _ _ (fun c hc=>by cases hc) (hb f hf)
  | tail _ h=>cases h
 simp only[ic164,go_sem]
 refine aa9 noT (fun i fr s=>fr=[(6,.tslice (fs.map fnC)),(7,.int .i64 fs.length),(8,.int .i64 i)]∧orM vals=orM (vals.drop i)) fs.length ⟨rfl,rfl⟩ ?_
 rintro i fr s hle ⟨rfl,hI⟩
 by_cases hlt:i<fs.length
 ·obtain ⟨f,hf,hget0,hdr,hget,htk⟩:=ad1 fs i hlt
  have hlt2:i<vals.length:=by omega
  have c1:(i:Int)<fs.length:=by omega
  have c2:(0:Int)≤i:=by omega
  have w1:=ad5 (i:=i) (by omega)
  obtain ⟨k1,k2⟩:=h i hlt hlt2
  have hfi:fs[i]=f:=by
   have:=List.getElem?_eq_getElem hlt; rw[this] at hget0; exact Option.some.inj hget0
  rw[hfi] at k1 k2
  rw[List.drop_eq_getElem_cons hlt2,orM] at hI
  generalize vals[i]=x at *
  simp only[go_sem,c1,c2,hget,fnC]
  refine cj1 k1 k2 ?_
  by_cases hx:x=0
  ·subst hx
   simp only[go_sem,w1]
   exact ⟨hlt,by simpa using hI⟩
  ·rw[if_neg hx] at hI
   simp only[go_sem,hx]
   rw[hI]; exact ab8 _ _
 ·have hi':i=fs.length:=by omega
  subst hi'
  have c1:¬ (fs.length:Int)<fs.length:=by omega
  rw[hl,List.drop_length,orM] at hI
  simp only[go_sem,c1]
  rw[hI]; exact ab8 _ _
theorem ec8 (a:EVR):Bnd 0 (.tptr a.cs):=.tptr _ fun c hc=>by
 simp only[EVR.cs,List.mem_cons,List.not_mem_nil,or_false] at hc
 rcases hc with rfl|rfl|rfl
 ·exact .int _ _
 ·exact .str _
 ·exact .str _
theorem dc5 (a:EVR):Bnd 0 (.agg a.cs):=.agg _ fun c hc=>by
 simp only[EVR.cs,List.mem_cons,List.not_mem_nil,or_false] at hc
 rcases hc with rfl|rfl|rfl
 ·exact .int _ _
 ·exact .str _
 ·exact .str _
def EVR.small (e:EVR):Prop:=e.ver.length<2^30∧e.rel.length<2^30
theorem bp9 (a b:EVR)(ha:EVR.small a)(hb:EVR.small b):PC Tryz.prog EE 106 [.agg a.cs,.agg b.cs] (.int .i64 (am8 a b)):=by
 refine ae9 hE fok106 (Nat.le_of_ble_eq_true rfl) (aj9 (dc5 a) (dc5 b)) ?_
 have hv:am8 a b=orM [ai7 a.epoch b.epoch,aj5 a.ver b.ver,if a.rel=[]∨b.rel=[] then 0 else aj5 a.rel b.rel]:=by
  rw[hu5]; unfold am8
  split
  ·rfl
  ·split
   ·rfl
   ·rfl
 have hf:=dv3 [(165,[.tptr a.cs,.tptr b.cs]),(166,[.tptr a.cs,.tptr b.cs]),(168,[.tptr a.cs,.tptr b.cs])] [ai7 a.epoch b.epoch,aj5 a.ver b.ver,if a.rel=[]∨b.rel=[] then 0 else aj5 a.rel b.rel] rfl (by simp)
  (fun f hf c hc=>by
   simp only[List.mem_cons,List.not_mem_nil,or_false] at hf
   rcases hf with rfl|rfl|rfl<;>exact aj9 (ec8 a) (ec8 b) c hc)
  (fun i h1 h2=>by
   match i,h1 with
   | 0,_=>exact ⟨fok165.1,fk8 a b⟩
   | 1,_=>exact ⟨fok166.1,fk9 a b ha.1 hb.1⟩
   | 2,_=>exact ⟨fok168.1,fl1 a b ha.2 hb.2⟩
   | i+3,h=>simp at h; omega)
 rw[← hv] at hf
 have ea:(IV.agg a.cs).cs.all IV.leaf=true:=rfl
 have eb:(IV.agg b.cs).cs.all IV.leaf=true:=rfl
 simp only[EVR.cs] at hf ⊢
 simp only[ic106,go_sem]
 refine aa1 fok164 hf ?_
 simp only[go_sem]
 exact ab8 _ _
end Go.Id.Tryz
/- Ranges that meet; who provides,names,obsoletes. Conditions: sizes that fit. -/
namespace Go.Id.Tryz
open Go Go.Id Go.Proofs Go.Id.Md
set_option maxRecDepth 100000
def cj4 (a b:Int):Int:=IntKind.u8.wrap ((BitVec.ofInt 8 a &&& BitVec.ofInt 8 b).toNat:Int)
theorem az4 (a b:Int):aq5 .and (.int .u8 a) (.int .u8 b)=some (.int .u8 (cj4 a b)):=rfl
theorem if3 {n:Nat}(h:n<256):IntKind.u8.wrap (n:Int)=n:=by
 simp[IntKind.wrap,IntKind.bits,IntKind.signed]; omega
theorem au5 (a b:Nat)(ha:a<256)(hb:b<256):cj4 a b=((a &&& b:Nat):Int):=by
 unfold cj4
 rw[BitVec.toNat_and]
 have e:∀ n:Nat,n<256→(BitVec.ofInt 8 (n:Int)).toNat=n:=fun n hn=>by
  rw[BitVec.toNat_ofInt]; omega
 rw[e a ha,e b hb]
 exact if3 (Nat.lt_of_le_of_lt Nat.and_le_left ha)
theorem and7:∀ a,a<256→((a &&& 7=0)↔a%8=0):=by decide +kernel
theorem fl2:∀ x,x<256→((x &&& 7=0)↔(x.testBit 0=false∧x.testBit 1=false∧x.testBit 2=false)):=by decide +kernel
theorem and1:∀ a,a<256→((a &&& 1=0)↔a.testBit 0=false):=by decide +kernel
theorem hu6:∀ a,a<256→((a &&& 4=0)↔a.testBit 2=false):=by decide +kernel
theorem fl3 (a b:Int):ai7 a b=-1∨ai7 a b=0∨ai7 a b=1:=by
 unfold ai7; split
 ·exact .inl rfl
 ·split
  ·exact .inr (.inl rfl)
  ·exact .inr (.inr rfl)
theorem hn8 (a b:Str):ch5 a b=-1∨ch5 a b=0∨ch5 a b=1:=by
 unfold ch5; split
 ·exact .inl rfl
 ·split
  ·exact .inr (.inl rfl)
  ·exact .inr (.inr rfl)
theorem fl4 (a b:Part):ad2 a b=-1∨ad2 a b=0∨ad2 a b=1:=by
 have h:∀ k n s:Int,(k=-1∨k=0∨k=1)→(n=-1∨n=0∨n=1)→(s=-1∨s=0∨s=1)→((if k≠0 then k else if n≠0 then n else s)=-1∨(if k≠0 then k else if n≠0 then n else s)=0∨(if k≠0 then k else if n≠0 then n else s)=1):=by
  intro k n s h1 h2 h3
  rcases h1 with rfl|rfl|rfl<;>rcases h2 with rfl|rfl|rfl<;>simp<;>exact h3
 refine h (ai7 a.kind b.kind) (if a.kind=5∧b.kind=5 then ai7 a.s.length b.s.length else 0) (ch5 a.s b.s) (fl3 _ _) ?_ (hn8 _ _)
 split
 ·exact fl3 _ _
 ·exact .inr (.inl rfl)
theorem eu6:∀ (l m:List Part),ad4 l m=-1∨ad4 l m=0∨ad4 l m=1:=by
 intro l
 induction l with
 | nil=>intro m; exact .inr (.inl (by rw[ad4]; intros; contradiction))
 | cons a l ih=>
  intro m
  cases m with
  | nil=>exact .inr (.inl (by rw[ad4]; intros; contradiction))
  | cons b m=>
   rw[ad4]
   split
   ·exact fl4 a b
   ·exact ih m
theorem ec9 (a b:Str):aj5 a b=-1∨aj5 a b=0∨aj5 a b=1:=eu6 _ _
theorem gb7 (a b:EVR):am8 a b=-1∨am8 a b=0∨am8 a b=1:=by
 unfold am8
 split
 ·exact fl3 _ _
 ·split
  ·exact ec9 _ _
  ·split
   ·exact .inr (.inl rfl)
   ·exact ec9 _ _
def Dep.small (d:Dep):Prop:=0≤d.op∧d.op<256∧EVR.small d.evr
theorem ap4 (d:Dep):Bnd 0 (.agg d.cs):=.agg _ fun c hc=>by
 simp only[Dep.cs,List.mem_cons,List.not_mem_nil,or_false] at hc
 rcases hc with rfl|rfl|rfl|rfl|rfl
 ·exact .str _
 ·exact .int _ _
 ·exact .int _ _
 ·exact .str _
 ·exact .str _
theorem dv4 (a b:Dep)(ha:Dep.small a)(hb:Dep.small b):PC Tryz.prog EE 150 [.agg a.cs,.agg b.cs] (.bool (meet a b)):=by
 refine ae9 hE fok150 (Nat.le_of_ble_eq_true rfl) (aj9 (ap4 a) (ap4 b)) ?_
 obtain ⟨a1,a2,a3⟩:=ha
 obtain ⟨b1,b2,b3⟩:=hb
 have hc:=bp9 a.evr b.evr a3 b3
 have h3:=gb7 a.evr b.evr
 unfold meet
 generalize am8 a.evr b.evr=n at hc h3
 simp only[EVR.cs] at hc
 obtain ⟨x,hx⟩:∃ x:Nat,a.op=x:=⟨a.op.toNat,by omega⟩
 obtain ⟨y,hy⟩:∃ y:Nat,b.op=y:=⟨b.op.toNat,by omega⟩
 have hx2:x<256:=by omega
 have hy2:y<256:=by omega
 have ex7:cj4 x 7=((x &&& 7:Nat):Int):=au5 x 7 hx2 (by omega)
 have ey7:cj4 y 7=((y &&& 7:Nat):Int):=au5 y 7 hy2 (by omega)
 rw[hx,hy,Int.toNat_natCast,Int.toNat_natCast]
 by_cases hx0:x%8=0
 ·have q:=(and7 x hx2).2 hx0
  rw[q] at ex7
  have q':cj4 x 7=0:=ex7
  simp only[ic150,go_sem,Dep.cs,hx,hy,az4,q',hx0,true_or]
  exact ab1 _
 ·have q:¬ (x &&& 7=0):=fun e=>hx0 ((and7 x hx2).1 e)
  have q':¬ cj4 x 7=0:=by rw[ex7]; omega
  by_cases hy0:y%8=0
  ·have r:=(and7 y hy2).2 hy0
   rw[r] at ey7
   have r':cj4 y 7=0:=ey7
   simp only[ic150,go_sem,Dep.cs,hx,hy,az4,q',r',hy0,or_true]
   exact ab1 _
  ·have r:¬ (y &&& 7=0):=fun e=>hy0 ((and7 y hy2).1 e)
   have r':¬ cj4 y 7=0:=by rw[ey7]; omega
   simp only[ic150,go_sem,Dep.cs,hx,hy,az4,q',r',hx0,hy0,or_self]
   refine aa1 fok106 hc ?_
   have exy:cj4 x y=((x &&& y:Nat):Int):=au5 x y hx2 hy2
   have hxy:x &&& y<256:=Nat.lt_of_le_of_lt Nat.and_le_left hx2
   have exy7:cj4 ((x &&& y:Nat):Int) 7=((x &&& y &&& 7:Nat):Int):=au5 _ 7 hxy (by omega)
   have s1:=fk4 1 (.inr (.inr rfl))
   have s2:=fk4 (-1) (.inl rfl)
   have n1:¬ ((1:Int)<0):=by decide
   have n2:¬ ((1:Int)=0):=by decide
   have n3:((-1:Int)<0):=by decide
   rw[if_neg n1,if_neg n2] at s1
   rw[if_pos n3] at s2
   have x1:cj4 x 1=((x &&& 1:Nat):Int):=au5 x 1 hx2 (by omega)
   have x4:cj4 x 4=((x &&& 4:Nat):Int):=au5 x 4 hx2 (by omega)
   have y1:cj4 y 1=((y &&& 1:Nat):Int):=au5 y 1 hy2 (by omega)
   have y4:cj4 y 4=((y &&& 4:Nat):Int):=au5 y 4 hy2 (by omega)
   have w1:IntKind.i64.wrap (0 - -1)=1:=by decide
   have w2:IntKind.i64.wrap (0-1)=-1:=by decide
   have bt:∀ (k i:Nat),bit (k:Int) i=k.testBit i:=fun k i=>by unfold bit; rw[Int.toNat_natCast]
   have z0:∀ k:Nat,((k:Int)=0)↔k=0:=fun k=>by omega
   rcases h3 with rfl|rfl|rfl
   ·have g1:side (- -1)=2:=by decide
    have g2:side (-1)=0:=by decide
    have m0:¬ ((-1:Int)=0):=by decide
    simp only[go_sem,m0,w1,g1,g2,bt]
    refine aa3 s1 ?_
    cases hb:x.testBit 2 with
    | true=>
     have e:¬ cj4 x 4=0:=by rw[x4,z0,hu6 x hx2,hb]; simp
     simp only[go_sem,az4,e]
     exact ab1 _
    | false=>
     have e:cj4 x 4=0:=by rw[x4,z0,hu6 x hx2,hb]
     simp only[go_sem,az4,e]
     refine aa3 s2 ?_
     cases hc:y.testBit 0 with
     | true=>
      have e2:¬ cj4 y 1=0:=by rw[y1,z0,and1 y hy2,hc]; simp
      simp only[go_sem,az4,e2]
      exact ab1 _
     | false=>
      have e2:cj4 y 1=0:=by rw[y1,z0,and1 y hy2,hc]
      simp only[go_sem,az4,e2]
      exact ab1 _
   ·simp only[go_sem,az4,exy,exy7,bt]
    have e:(!decide (((x &&& y &&& 7:Nat):Int)=0))=(x.testBit 0&&y.testBit 0||x.testBit 1&&y.testBit 1||x.testBit 2&&y.testBit 2):=by
     by_cases hz:x &&& y &&& 7=0
     ·obtain ⟨t0,t1,t2⟩:=(fl2 _ hxy).1 hz
      rw[Nat.testBit_and] at t0 t1 t2
      rw[hz,t0,t1,t2]; rfl
     ·have hz':¬ ((x &&& y &&& 7:Nat):Int)=0:=fun h=>hz (by omega)
      have ht:¬ ((x &&& y).testBit 0=false∧(x &&& y).testBit 1=false∧(x &&& y).testBit 2=false):=fun h=>hz ((fl2 _ hxy).2 h)
      rw[Nat.testBit_and,Nat.testBit_and,Nat.testBit_and] at ht
      rw[decide_eq_false hz']
      revert ht
      generalize (x.testBit 0&&y.testBit 0)=b0
      generalize (x.testBit 1&&y.testBit 1)=b1
      generalize (x.testBit 2&&y.testBit 2)=b2
      cases b0<;>cases b1<;>cases b2<;>simp
    rw[e]
    exact ab1 _
   ·have g1:side (-1)=0:=by decide
    have g2:side 1=2:=by decide
    simp only[go_sem,n2,w2,g1,g2,bt]
    refine aa3 s2 ?_
    cases hb:x.testBit 0 with
    | true=>
     have e:¬ cj4 x 1=0:=by rw[x1,z0,and1 x hx2,hb]; simp
     simp only[go_sem,az4,e]
     exact ab1 _
    | false=>
     have e:cj4 x 1=0:=by rw[x1,z0,and1 x hx2,hb]
     simp only[go_sem,az4,e]
     refine aa3 s1 ?_
     cases hc:y.testBit 2 with
     | true=>
      have e2:¬ cj4 y 4=0:=by rw[y4,z0,hu6 y hy2,hc]; simp
      simp only[go_sem,az4,e2]
      exact ab1 _
     | false=>
      have e2:cj4 y 4=0:=by rw[y4,z0,hu6 y hy2,hc]
      simp only[go_sem,az4,e2]
      exact ab1 _
theorem cd8 (d:Dep):Bnd 0 (.tptr d.cs):=.tptr _ fun c hc=>by
 simp only[Dep.cs,List.mem_cons,List.not_mem_nil,or_false] at hc
 rcases hc with rfl|rfl|rfl|rfl|rfl
 ·exact .str _
 ·exact .int _ _
 ·exact .int _ _
 ·exact .str _
 ·exact .str _
theorem ed1 (a d:Dep)(ha:Dep.small a)(hd:Dep.small d):PC Tryz.prog EE 90 [.agg a.cs,.agg d.cs] (.bool (meets a d)):=by
 refine ae9 hE fok90 (Nat.le_of_ble_eq_true rfl) (aj9 (ap4 a) (ap4 d)) ?_
 have hm:=dv4 a d ha hd
 unfold meets
 simp only[Dep.cs] at hm
 by_cases h:a.name=d.name
 ·simp only[ic90,go_sem,Dep.cs,h] at hm ⊢
  refine aa1 fok150 hm ?_
  simp only[go_sem]
  exact ab1 _
 ·simp only[ic90,go_sem,Dep.cs,h]
  exact ab1 _
theorem fl5 (n:Str)(e:EVR):PC Tryz.prog EE 152 [.str n,.agg e.cs] (.agg (Dep.cs ⟨n,2,e⟩)):=by
 refine ae9 hE fok152 (Nat.le_of_ble_eq_true rfl) (aj9 (.str _) (dc5 e)) ?_
 simp only[ic152,go_sem,EVR.cs,Dep.cs]
 exact .keep _ (.agg _ fun c hc=>by
  simp only[List.mem_cons,List.not_mem_nil,or_false] at hc
  rcases hc with rfl|rfl|rfl|rfl|rfl
  ·exact .str _
  ·exact .int _ _
  ·exact .int _ _
  ·exact .str _
  ·exact .str _)
theorem fl6 (p:Package):PC Tryz.prog EE 92 [.agg p.cs] (.agg (own p).cs):=by
 refine ae9 hE fok92 (Nat.le_of_ble_eq_true rfl) (ad3 (ay3 p)) ?_
 have ho:=fl5 p.name p.evr
 simp only[EVR.cs,Dep.cs] at ho
 simp only[ic92,go_sem,Package.cs,own,Dep.cs]
 refine aa1 fok152 ho ?_
 simp only[go_sem]
 exact .keep _ (ap4 (own p))
def Pkg.small (p:Package):Prop:=EVR.small p.evr∧(∀ d∈p.provides,Dep.small d)∧(∀ d∈p.obsoletes,Dep.small d)∧p.provides.length<2^40∧p.obsoletes.length<2^40∧p.files.length<2^40
theorem fl7 {p:Package}(h:Pkg.small p):Dep.small (own p):=⟨by show (0:Int)≤2; decide,by show (2:Int)<256; decide,h.1⟩
theorem bq1 (p:Package):p.cs.length=15:=rfl
theorem bc5 (p:Package):p.cs.take 15=p.cs:=rfl
theorem bc6 (p:Package):p.cs.all IV.leaf=true:=rfl
theorem gb8 (p:Package)(d:Dep)(hp:Pkg.small p)(hd:Dep.small d):PC Tryz.prog EE 32 [.agg p.cs,.agg d.cs] (.bool (named p d)):=by
 refine ae9 hE fok32 (Nat.le_of_ble_eq_true rfl) (aj9 (ay3 p) (ap4 d)) ?_
 have ho:=fl6 p
 have hm:=ed1 (own p) d (fl7 hp) hd
 generalize hx:Dep.cs (own p)=x at ho hm
 simp only[ic32,go_sem,bq1,bc5,bc6,aq4,an2,ak8]
 refine aa3 ho ?_
 simp only[go_sem,aq4,an2,ak8]
 refine aa3 hm ?_
 simp only[go_sem]
 exact ab1 _
theorem fl8 (a d:Dep)(ha:Dep.small a)(hd:Dep.small d):PC Tryz.prog EE 89 ([]++[.agg a.cs]++[.tptr d.cs]) (.bool (meets a d)):=by
 refine ae9 hE fok89 (Nat.le_of_ble_eq_true rfl) (aj9 (ap4 a) (cd8 d)) ?_
 simp only[ic89,go_sem,aq4,an2,ak8]
 refine aa1 fok90 (ed1 a d ha hd) ?_
 simp only[go_sem]
 exact ab1 _
theorem dv5 (l:List Str)(s:Str)(hl:l.length<2^40):PC Tryz.prog EE 151 [.tslice (l.map bl6),.str s] (.int .i64 (af2 (fun x=>decide (s=x)) l 0)):=by
 refine ak4 fok151 (Nat.le_of_ble_eq_true rfl) fun σ=>?_
 simp only[ic151,go_sem]
 refine aa9 noT (fun i fr t=>t=σ∧fr=[(0,.tslice (l.map bl6)),(1,.str s),(7,.int .i64 l.length),(8,.int .i64 i)]∧af2 (fun x=>decide (s=x)) l 0=af2 (fun x=>decide (s=x)) (l.drop i) i) l.length ⟨rfl,rfl,rfl⟩ ?_
 rintro i fr t hi ⟨rfl,rfl,hf⟩
 by_cases hlt:i<l.length
 ·obtain ⟨x,ha,_,hdr,hget,_⟩:=ad1 l i hlt
  have c1:(i:Int)<l.length:=by omega
  have c2:(0:Int)≤i:=by omega
  have w1:=ad5 (i:=i) (by omega)
  rw[hdr,af2] at hf
  by_cases e:s=x
  ·rw[if_pos (by simpa using e)] at hf
   subst e
   simp only[go_sem,c1,c2,hget,db6,bl6,hf,and_self]
  ·rw[if_neg (by simpa using e)] at hf
   simp only[go_sem,c1,c2,hget,db6,bl6,e,w1]
   exact ⟨hlt,by rw[hf]; simp only[Int.natCast_add,Int.natCast_one]⟩
 ·have hi':i=l.length:=by omega
  subst hi'
  have c1:¬ (l.length:Int)<l.length:=by omega
  rw[List.drop_length] at hf
  simp only[go_sem,c1,hf,af2,and_self]
theorem fl9 (l:List Str)(s:Str)(hl:l.length<2^40):PC Tryz.prog EE 91 [.tslice (l.map bl6),.str s] (.bool (l.contains s)):=by
 refine ak4 fok91 (Nat.le_of_ble_eq_true rfl) fun σ=>?_
 simp only[ic91,go_sem]
 refine aa1 fok151 (dv5 l s hl) ?_
 have e:l.any (fun x=>decide (s=x))=l.contains s:=by
  induction l with
  | nil=>rfl
  | cons a l ih=>rw[List.any_cons,List.contains_cons,ih (by simp at hl; omega)]; congr 1; by_cases h:s=a<;>simp[h]
 simp only[go_sem,ao5,e,and_self]
theorem cj5 (p:Package)(d:Dep)(hp:Pkg.small p)(hd:Dep.small d):PC Tryz.prog EE 31 [.agg p.cs,.agg d.cs] (.bool (provides p d)):=by
 refine ae9 hE fok31 (Nat.le_of_ble_eq_true rfl) (aj9 (ay3 p) (ap4 d)) ?_
 have hn:=gb8 p d hp hd
 have hc:=ci7 p.provides 89 [] [.tptr d.cs] (fun a=>meets a d) (by have:=hp.2.2.2.1; omega) fok89.1 fun a ha=>fl8 a d (hp.2.1 a ha) hd
 have hs:=fl9 p.files d.name hp.2.2.2.2.2
 have hf:(p.cs.drop 6).head? = some (deps p.provides):=rfl
 have hg:(p.cs.drop 14).head? = some (strs p.files):=rfl
 have d0:d.cs.head? = some (.str d.name):=rfl
 have d1:(d.cs.drop 1).head? = some (.int .u8 d.op):=rfl
 unfold provides
 cases hb:named p d with
 | true=>
  rw[hb] at hn
  simp only[ic31,go_sem,bq1,bc5,bc6,aq4,an2,ak8]
  refine aa1 fok32 hn ?_
  simp only[go_sem]
  exact ab1 _
 | false=>
  rw[hb] at hn
  simp only[ic31,go_sem,bq1,bc5,bc6,aq4,an2,ak8]
  refine aa1 fok32 hn ?_
  simp only[go_sem,hf]
  refine aa1 fok75 hc ?_
  cases ha:p.provides.any (fun a=>meets a d) with
  | true=>
   simp only[go_sem]
   exact ab1 _
  | false=>
   by_cases h0:d.op=0
   ·simp only[go_sem,d0,d1,h0,hg]
    refine aa1 fok91 hs ?_
    simp only[go_sem]
    exact ab1 _
   ·simp only[go_sem,d0,d1,h0]
    exact ab1 _
end Go.Id.Tryz
