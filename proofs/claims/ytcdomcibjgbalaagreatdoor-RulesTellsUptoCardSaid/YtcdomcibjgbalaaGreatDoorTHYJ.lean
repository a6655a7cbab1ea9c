/- Indexes asked: rows of one's own. Conditions: sizes that fit. -/
import Derived.Test.YtcdomcibjgbalaaGreatDoorTHQO
import Derived.Test.YtcdomcibjgbalaaGreatDoorFwRo
import Derived.Test.YtcdomcibjgbalaaGreatDoorTHQB
import Derived.Test.YtcdomcibjgbalaaGreatDoorMsb
import Derived.Test.YtcdomcibjgbalaaGreatDoorMv
import Derived.Test.YtcdomcibjgbalaaGreatDoorGHR
open List renaming getD_eq_getElem?_getD→za,length_map→zb,length_append→ze,length_take→zf,getElem_mem→zh,take_length→zi,getElem?_eq_getElem→zk,map_append→zn,append_nil→zo,mem_map→zr,length_singleton→zt,filter_append→zu,length_cons→zv,drop_length→zw,map_nil→z1,append_assoc→z2,mem_cons→z3,length_filter_le→z5,range→z7,take_add_one→qa
open Nat renaming le_refl→zc,lt_succ_self→zd,le_add_right→zm,not_lt_zero→zp,zero_add→zx,le_trans→zy,add_zero→z4,mul_one→z6,lt_of_lt_of_le→z9
open Int renaming toNat_natCast→zg,natCast_one→zz,natCast_add→z0
open Bool renaming and_eq_true→zj,false_eq_true→zq
open Option renaming some→zl,map_some→z8
set_option linter.all false
set_option maxRecDepth 100000
set_option maxHeartbeats 1000000
private theorem om{P:Prop}(h:P:=by omega):P:=h
namespace Go.Id.Tryz
open Go Go.Id Go.Proofs Go.Id.Md
theorem fo3 {f:Nat}{args args':List IV}{σ:Store}{Q:IV->Store->Prop}(hl:args'.length=args.length)(ha:∀i,i<args.length->Frz σ (λ_=>true=true) (args.getD i .undef) (args'.getD i .undef))(h:Cq f args' σ Q):Cq f args σ Q :=
 el3 (S:=λ_=>true) hl ha h
theorem hj7 (x:Index)(l:List Int)(hl:l.length<2^30)(k:Nat)(cap:List IV)(w:Int->Bool)(hok:okF Tryz.prog k=true)
  (hW:∀n∈l,∃m:Nat,n=m/\∃h:m<x.all.length,Pq k (.agg x.all[m].cs::.int .i64 n::cap) (.bool (w n))) (σ:Store) :
  Cq 140 [x.v,.aa3 (l.map Md.ae1),.func (.func k) [] cap] σ (bo1 σ (l.filter w)):=by
 have hx:x.v=.ab8 [.aa3 (x.all.map aa2.cs),.al4 (nmV x.at5),.al4 (nmV x.names),.al4 (nmV x.over)]:=rfl;rw[hx];generalize IV.al4 (nmV x.at5)=v1 at *;generalize IV.al4 (nmV x.names)=v2 at *;generalize IV.al4 (nmV x.over)=v3 at *;refine C_f fok140 (nZ rfl) ?_;simp only[ic140,go_sem];refine ab1 noT (λi fr s=>∃gv,fr=[(0,.ab8 [.aa3 (x.all.map aa2.cs),v1,v2,v3]),(2,.func (.func k) [] cap),(7,gv),(10,.aa3 (l.map Md.ae1)),(11,.int .i64 l.length),(12,.int .i64 i)]/\Kept σ s/\ai4 s σ.next gv ((l.take i).filter w)) l.length ⟨.aa1,rfl,Kept.refl σ,.inl ⟨rfl,rfl⟩⟩ ?_;rintro i fr s hle ⟨gv,rfl,hk,hg⟩;by_cases hlt:i<l.length
 ·obtain ⟨n,hn,_,hdr,hget,htk⟩:=ad2 l i hlt;have c1:(i:Int)<l.length:=om;have c2:(0:Int)<=i:=om;have w1:=ac3 (i:=i) om;obtain ⟨m,rfl,hm,hpc⟩:=hW n hn;have c3:(m:Int)<x.all.length:=om;have c4:(0:Int)<=m:=om;have hgm:(x.all.map aa2.cs).getD m []=x.all[m].cs:=by simp[za,hm]
  simp only[go_sem,c1,c2,c3,c4,hget,Md.ae1,hgm,af7,ae8,ac7,zg,zb];refine dg3 hok hpc ?_
  cases hw:w (m:Int) with
  | false=>
   simp only[go_sem,w1];have e:(l.take (i+1)).filter w=(l.take i).filter w:=by rw[htk,zu];simp[hw]
   rw[e]
   exact ⟨hlt,gv,rfl,hk,hg⟩
  | true=>
   have hlen:((l.take i).filter w).length<=i:=by
    refine zy (z5 _ _) ?_;rw[zf];omega
   have hap:=az9 (nid:=s.next) (hg.up 1) (m:Int) om;have e:(l.take (i+1)).filter w=(l.take i).filter w++[(m:Int)]:=by rw[htk,zu];simp[hw]
   simp only[go_sem,hap,w1,e];have hz:=bb2 hk hg (m:Int) (a:=1) (nid:=s.next) (zc _) (zd _) rfl;exact ⟨hlt,_,rfl,hz.1,hz.2⟩
 ·have hi':i=l.length:=om;subst hi';have c1:¬(l.length:Int)<l.length:=om;rw[zi] at hg;simp only[go_sem,c1];exact ⟨hk,hg⟩
open Go Go.Id Go.Proofs Go.Shelf Go.Id.Md
theorem be1 (d:Job):d.cs.length=6:=rfl
theorem bb7 (d:Job):d.cs.all IV.leaf=true:=rfl
theorem ch7 (d:Job):d.cs.take 6=d.cs:=rfl
theorem an7 (d:az4):d.cs.length=2:=rfl
theorem ai6 (d:az4):d.cs.all IV.leaf=true:=rfl
theorem aq1 (d:az4):d.cs.take 2=d.cs:=rfl
theorem hj8 (d:Job):∀c∈d.cs,Bnd 0 c:=kg6 (.int _ _) (.str _) (.int _ _) (.int _ _) (.str _) (.str _)
theorem fo4 (d:az4):∀c∈d.cs,Bnd 0 c:=ah6 (.int _ _) (.int _ _)
theorem ch8 (l:List Job):Bnd 0 (as5 l):=.aa3 _ λe he c hc=>by
 obtain ⟨d,_,rfl⟩:=zr.1 he;exact hj8 d c hc
theorem be2 (l:List az4):Bnd 0 (ao7 l):=.aa3 _ λe he c hc=>by
 obtain ⟨d,_,rfl⟩:=zr.1 he;exact fo4 d c hc
theorem im6 (d:Job):Bnd 0 (.agg d.cs):=.agg _ (hj8 d)
theorem ch9 (d:az4):Bnd 0 (.agg d.cs):=.agg _ (fo4 d)
theorem eq3 (xs:List Int)(g:Nat)(first cap:List IV)(q:Int->Bool)(hn:xs.length<2^62)(hok:okF Tryz.prog g=true)
  (hq:∀x∈xs,Pq g (first++[IV.int .i64 x]++cap) (.bool (q x))):Pq 199 [.aa3 (xs.map Md.ae1),.func (.func g) first cap] (.int .i64 (aj1 q xs 0)):=by
 refine ba9 fok199 (nZ rfl) λσ=>?_
 simp only[ic199,go_sem];refine ab1 noT (λi fr s=>s=σ/\fr=[(0,.aa3 (xs.map Md.ae1)),(1,.func (.func g) first cap),(7,.int .i64 xs.length),(8,.int .i64 i)]/\aj1 q xs 0=aj1 q (xs.drop i) i) xs.length ⟨rfl,rfl,rfl⟩ ?_;rintro i fr s hi ⟨rfl,rfl,hf⟩;by_cases hlt:i<xs.length
 ·obtain ⟨x,ha,_,hdr,hget,_⟩:=ad2 xs i hlt;have c1:(i:Int)<xs.length:=om;have c2:(0:Int)<=i:=om;have w1:=ac3 (i:=i) om;rw[hdr] at hf;simp only[go_sem,c1,c2,hget,Md.ae1];refine ap4 hok (ew6 (hq x ha)) ?_;rintro v s ⟨rfl,rfl⟩;refine ⟨zc _,?_⟩
  cases hqe:q x with
  | true=>simp only[go_sem,hf,aj1,hqe,and_self]
  | false=>
   simp only[go_sem,w1];exact ⟨hlt,by rw[hf];simp only[aj1,hqe,zq,if_false,z0,zz]⟩
 ·have hi':i=xs.length:=om;subst hi';have c1:¬(xs.length:Int)<xs.length:=om;rw[zw] at hf;simp only[go_sem,c1,hf,aj1,and_self]
theorem hj9 (xs:List Job)(g:Nat)(first cap:List IV)(q:Job->Bool)(hn:xs.length<2^62)(hok:okF Tryz.prog g=true)
  (hq:∀x∈xs,Pq g (first++[IV.agg (Job.cs x)]++cap) (.bool (q x))):Pq 83 [.aa3 (xs.map Job.cs),.func (.func g) first cap] (.int .i64 (aj1 q xs 0)):=by
 refine ba9 fok83 (nZ rfl) λσ=>?_
 simp only[ic83,go_sem];refine ab1 noT (λi fr s=>s=σ/\fr=[(0,.aa3 (xs.map Job.cs)),(1,.func (.func g) first cap),(7,.int .i64 xs.length),(8,.int .i64 i)]/\aj1 q xs 0=aj1 q (xs.drop i) i) xs.length ⟨rfl,rfl,rfl⟩ ?_;rintro i fr s hi ⟨rfl,rfl,hf⟩;by_cases hlt:i<xs.length
 ·obtain ⟨x,ha,_,hdr,hget,_⟩:=ad2 xs i hlt;have c1:(i:Int)<xs.length:=om;have c2:(0:Int)<=i:=om;have w1:=ac3 (i:=i) om;rw[hdr] at hf;simp only[go_sem,c1,c2,hget,be1,ch7,bb7];refine ap4 hok (ew6 (hq x ha)) ?_;rintro v s ⟨rfl,rfl⟩;refine ⟨zc _,?_⟩
  cases hqe:q x with
  | true=>simp only[go_sem,hf,aj1,hqe,and_self]
  | false=>
   simp only[go_sem,w1];exact ⟨hlt,by rw[hf];simp only[aj1,hqe,zq,if_false,z0,zz]⟩
 ·have hi':i=xs.length:=om;subst hi';have c1:¬(xs.length:Int)<xs.length:=om;rw[zw] at hf;simp only[go_sem,c1,hf,aj1,and_self]
theorem hk6 (xs:List Job)(g:Nat)(first cap:List IV)(q:Job->Bool)(hn:xs.length<2^62)(hok:okF Tryz.prog g=true)
  (hq:∀x∈xs,Pq g (first++[IV.agg (Job.cs x)]++cap) (.bool (q x))):Pq 48 [.aa3 (xs.map Job.cs),.func (.func g) first cap] (.bool (xs.any q)):=by
 refine ba9 fok48 (nZ rfl) λσ=>?_
 simp only[ic48,go_sem];refine aa4 fok83 (hj9 xs g first cap q hn hok hq) ?_;simp only[go_sem,ay4,and_self]
theorem gg8 (xs:List az4)(g:Nat)(first cap:List IV)(q:az4->Bool)(hn:xs.length<2^62)(hok:okF Tryz.prog g=true)
  (hq:∀x∈xs,Pq g (first++[IV.agg (az4.cs x)]++cap) (.bool (q x))):Pq 88 [.aa3 (xs.map az4.cs),.func (.func g) first cap] (.int .i64 (aj1 q xs 0)):=by
 refine ba9 fok88 (nZ rfl) λσ=>?_
 simp only[ic88,go_sem];refine ab1 noT (λi fr s=>s=σ/\fr=[(0,.aa3 (xs.map az4.cs)),(1,.func (.func g) first cap),(7,.int .i64 xs.length),(8,.int .i64 i)]/\aj1 q xs 0=aj1 q (xs.drop i) i) xs.length ⟨rfl,rfl,rfl⟩ ?_;rintro i fr s hi ⟨rfl,rfl,hf⟩;by_cases hlt:i<xs.length
 ·obtain ⟨x,ha,_,hdr,hget,_⟩:=ad2 xs i hlt;have c1:(i:Int)<xs.length:=om;have c2:(0:Int)<=i:=om;have w1:=ac3 (i:=i) om;rw[hdr] at hf;simp only[go_sem,c1,c2,hget,an7,aq1,ai6];refine ap4 hok (ew6 (hq x ha)) ?_;rintro v s ⟨rfl,rfl⟩;refine ⟨zc _,?_⟩
  cases hqe:q x with
  | true=>simp only[go_sem,hf,aj1,hqe,and_self]
  | false=>
   simp only[go_sem,w1];exact ⟨hlt,by rw[hf];simp only[aj1,hqe,zq,if_false,z0,zz]⟩
 ·have hi':i=xs.length:=om;subst hi';have c1:¬(xs.length:Int)<xs.length:=om;rw[zw] at hf;simp only[go_sem,c1,hf,aj1,and_self]
theorem gg9 (xs:List az4)(g:Nat)(first cap:List IV)(q:az4->Bool)(hn:xs.length<2^62)(hok:okF Tryz.prog g=true)
  (hq:∀x∈xs,Pq g (first++[IV.agg (az4.cs x)]++cap) (.bool (q x))):Pq 51 [.aa3 (xs.map az4.cs),.func (.func g) first cap] (.bool (xs.any q)):=by
 refine ba9 fok51 (nZ rfl) λσ=>?_
 simp only[ic51,go_sem];refine aa4 fok88 (gg8 xs g first cap q hn hok hq) ?_;simp only[go_sem,ay4,and_self]
theorem jh6 {α:Type}[DecidableEq α](xs:List α)(n:α):xs.any (λx=>decide (n=x))=decide (n∈xs):=by
 rw[Bool.eq_iff_iff];simp
theorem iv5 (a b:az4):ip5 [1,1] true false (.agg a.cs) (.agg b.cs)=zl (.bool (decide (a=b))):=by
 have e:decide (a=b)=(decide (a.kind=b.kind)&&decide (a.n=b.n)):=by
  cases a;cases b;simp only[az4.mk.injEq,Bool.decide_and]
 rw[e];unfold az4.cs;simp only[iq8,ir1,iq9,go_sem,z8,kc3,ak4,Bool.xor_false,Bool.and_true]
theorem eq4 (xs:List az4)(n:az4)(hn:xs.length<2^62):Pq 217 [ao7 xs,.agg n.cs] (.int .i64 (aj1 (λx=>decide (n=x)) xs 0)):=by
 refine af4 hE fok217 (nZ rfl) (ah6 (be2 xs) (ch9 n)) ?_;simp only[ic217,go_sem,ai6];refine ab1 noT (λi fr s=>fr=[(0,ao7 xs),(3,.ab8 n.cs),(7,.int .i64 xs.length),(8,.int .i64 i)]/\aj1 (λx=>decide (n=x)) xs 0=aj1 (λx=>decide (n=x)) (xs.drop i) i) xs.length ⟨rfl,rfl⟩ ?_;rintro i fr s hi ⟨rfl,hf⟩;by_cases hlt:i<xs.length
 ·obtain ⟨x,ha,_,hdr,hget,_⟩:=ad2 xs i hlt;have c1:(i:Int)<xs.length:=om;have c2:(0:Int)<=i:=om;have w1:=ac3 (i:=i) om;rw[hdr] at hf;by_cases e:n=x
  ·simp only[go_sem,c1,c2,hget,an7,aq1,ai6,iv5,e];subst e;exact bn2 (by rw[hf];simp[aj1])
  ·simp only[go_sem,c1,c2,hget,an7,aq1,ai6,iv5,e,w1];exact ⟨hlt,by rw[hf];simp only[aj1,e,decide_false,zq,if_false,z0,zz]⟩
 ·have hi':i=xs.length:=om;subst hi';have c1:¬(xs.length:Int)<xs.length:=om;rw[zw] at hf;simp only[go_sem,c1];exact bn2 (by rw[hf];rfl)
theorem gh1 (xs:List az4)(n:az4)(hn:xs.length<2^62):Pq 185 [ao7 xs,.agg n.cs] (.bool (decide (n∈xs))):=by
 refine af4 hE fok185 (nZ rfl) (ah6 (be2 xs) (ch9 n)) ?_;have h:=eq4 xs n hn;have e:=ay4 (λx=>decide (n=x)) xs;rw[jh6] at e;simp only[ic185,go_sem,an7,aq1,ai6];refine aa4 fok217 (h) ?_;simp only[go_sem,e];exact ab6 rfl
theorem fd2 (xs:List Job)(hn:xs.length<=2147483648):Pq 91 [.aa3 (xs.map Job.cs)] (.aa3 (xs.map Job.cs)):=by
 cases hx:xs with
 | nil=>
  rw[z1];refine bp2 ?_ ?_
  ·refine af4 hE fok91 (nZ rfl) (af3 .aa1) ?_;simp only[ic91,go_sem,ai7];exact .bz3
  ·refine af4 hE fok91 (nZ rfl) (af3 .af6) ?_;simp only[ic91,go_sem,ai7];rw[bl7 (by simp only[aa5,if_true]) rfl];simp only[go_sem]
   exact .dl5 _ _ _ (by simp only[aa5,if_true];exact λh=>(by cases h))
 | cons a as'=>
  have hne:xs.map Job.cs≠[]:=by rw[hx];exact λh=>(by cases h)
  have hall:∀e∈xs.map Job.cs,e.length=6/\e.all IV.leaf=true:=λe he=>by
   obtain ⟨x,_,rfl⟩:=zr.1 he;exact ⟨be1 x,bb7 x⟩
  rw[<- hx];refine af4 hE fok91 (nZ rfl) (af3 (ch8 xs)) ?_;have hnil:∀d,ct9 (.slice d) (.aa3 (xs.map Job.cs))=zl false:=λd=>by rw[hx];rfl
  simp only[ic91,go_sem,ai7,hnil];rw[ck3 (by simp only[aa5,if_true]) hne hall (by rw[zb];exact hn)];simp only[go_sem];refine Grow.frz (esz:=6) (es:=xs.map Job.cs) (.inr ⟨1,by rw[zb],by simp only[aa5,if_true],zd _⟩) (λx hx=>(hall x hx).1) (λ_ _=>zp _) (an2 (ch8 xs))
theorem eq5 (xs:List az4)(hn:xs.length<=2147483648):Pq 92 [.aa3 (xs.map az4.cs)] (.aa3 (xs.map az4.cs)):=by
 cases hx:xs with
 | nil=>
  rw[z1];refine bp2 ?_ ?_
  ·refine af4 hE fok92 (nZ rfl) (af3 .aa1) ?_;simp only[ic92,go_sem,ai7];exact .bz3
  ·refine af4 hE fok92 (nZ rfl) (af3 .af6) ?_;simp only[ic92,go_sem,ai7];rw[bl7 (by simp only[aa5,if_true]) rfl];simp only[go_sem]
   exact .dl5 _ _ _ (by simp only[aa5,if_true];exact λh=>(by cases h))
 | cons a as'=>
  have hne:xs.map az4.cs≠[]:=by rw[hx];exact λh=>(by cases h)
  have hall:∀e∈xs.map az4.cs,e.length=2/\e.all IV.leaf=true:=λe he=>by
   obtain ⟨x,_,rfl⟩:=zr.1 he;exact ⟨an7 x,ai6 x⟩
  rw[<- hx];refine af4 hE fok92 (nZ rfl) (af3 (be2 xs)) ?_;have hnil:∀d,ct9 (.slice d) (.aa3 (xs.map az4.cs))=zl false:=λd=>by rw[hx];rfl
  simp only[ic92,go_sem,ai7,hnil];rw[ck3 (by simp only[aa5,if_true]) hne hall (by rw[zb];exact hn)];simp only[go_sem];refine Grow.frz (esz:=2) (es:=xs.map az4.cs) (.inr ⟨1,by rw[zb],by simp only[aa5,if_true],zd _⟩) (λx hx=>(hall x hx).1) (λ_ _=>zp _) (an2 (be2 xs))
structure AOK (a:ab3):Prop where
 len:a.l.length<=256
 small:∀p∈a.l,Pkg.small p
 fit:∀p∈a.l,p.Fit
 tiny:∀p∈a.l,p.Tiny
 inst:a.p.inst<=a.l.length
 af2:a.r.af2.length<=64
 ag5:a.r.ag5.length<=128
 it9:∀j∈a.r.af2,Dep.small j.dep
 kj2:∀j∈a.r.af2,1<=j.kind/\j.kind<=4
theorem ah5 (a:ab3):Bnd 0 a.v:=.ab8 _ λc hc=>by
 simp only[ab3.cs,z3,List.not_mem_nil,or_false] at hc;rcases hc with rfl|rfl|rfl|rfl|rfl|rfl|rfl|rfl
 ·exact bf8 _
 ·exact ar9 _
 ·exact .int _ _
 ·exact .bool _
 ·exact ch8 _
 ·exact be2 _
 ·exact .int _ _
 ·exact ap6 _
theorem ac2 {d:TypeId}{c:IV}{cs:List IV}:ct9 (.pointer d) (.ab8 (c::cs))=zl false:=rfl
theorem cz5 (a:ab3)(n:Int):Pq 174 [a.v,.int .i64 n] (.bool (a.is n)):=by
 refine af4 hE fok174 (nZ rfl) (ah6 (ah5 a) (.int _ _)) ?_;unfold ab3.is ab3.v ab3.cs;have hl:(a.l.map aa2.cs).length=a.l.length:=zb ..;generalize a.l.map aa2.cs=es at *;generalize a.l.length=k at *;by_cases h1:0<=n
 ·by_cases h2:n<(k:Nat)
  ·simp only[ic174,go_sem,ac2,h1,h2,hl];exact ab6 rfl
  ·simp only[ic174,go_sem,ac2,h1,h2,hl];exact ab6 rfl
 ·simp only[ic174,go_sem,ac2,h1];exact ab6 rfl
theorem eq6 (a:ab3)(n:Int):Pq 152 [a.v,.int .i64 n] (.bool (a.job n)):=by
 refine af4 hE fok152 (nZ rfl) (ah6 (ah5 a) (.int _ _)) ?_;unfold ab3.job ab3.v ab3.cs;by_cases h1:0<=n
 ·by_cases h2:n<(a.r.af2.length:Nat)
  ·simp only[ic152,go_sem,ac2,h1,h2];exact ab6 (by simp[h1, *])
  ·simp only[ic152,go_sem,ac2,h1,h2];exact ab6 (by simp[h1, *])
 ·simp only[ic152,go_sem,ac2,h1];exact ab6 rfl
theorem bk6 (a:ab3)(n:Int):Pq 143 [a.v,.int .i64 n] (.bool (a.inst n)):=by
 refine af4 hE fok143 (nZ rfl) (ah6 (ah5 a) (.int _ _)) ?_;have h:=cz5 a n;have hp:=ba2 a.p;unfold ab3.inst;unfold ab3.v ab3.cs at *;simp only[ic143,go_sem];refine aa4 fok174 (h) ?_
 cases a.is n with
 | false=>simp only[go_sem];exact ab6 rfl
 | true=>
  simp only[go_sem]
  first|refine aa4 fok54 (hp) ?_|refine ab2 (hp) ?_
  simp only[go_sem];exact ab6 rfl
theorem dw5 (a:ab3)(n:Int):Pq 133 [a.v,.int .i64 n] (.bool (a.fits n)):=by
 refine af4 hE fok133 (nZ rfl) (ah6 (ah5 a) (.int _ _)) ?_;have h:=cz5 a n;have hf:=jf9 a.r.ap7 (a.pk n).ap7;unfold ab3.fits
 cases hi:a.is n with
 | false=>
  rw[hi] at h;unfold ab3.v ab3.cs at *;simp only[ic133,go_sem];refine aa4 fok174 (h) ?_
  simp only[go_sem];exact ab6 rfl
 | true=>
  rw[hi] at h;unfold ab3.is at hi;simp only[zj,decide_eq_true_eq] at hi;have hl:(a.l.map aa2.cs).length=a.l.length:=zb ..;have c1:n.toNat<a.l.length:=om
  have hg:(a.l.map aa2.cs).getD n.toNat []=(a.pk n).cs:=by
   unfold ab3.pk;rw[getD_at _ _ c1];simp[za,c1]
  have p4:((a.pk n).cs.drop 4).head? = zl (.int .u8 (a.pk n).ap7):=rfl;unfold ab3.v ab3.cs at *;generalize a.pk n=q at *;generalize a.l.map aa2.cs=es at *;have c2:n<(es.length:Nat):=om;simp only[ic133,go_sem];refine aa4 fok174 (h) ?_;simp only[go_sem,hi.1,c2,hg,p4,af7];refine aa4 fok175 (hf) ?_;simp only[go_sem];exact ab6 rfl
theorem bg1 (a:ab3)(k n:Int)(hA:AOK a):Pq 144 [a.v,.int .u8 k,.int .i64 n] (.bool (a.ba4 k n)):=by
 refine af4 hE fok144 (nZ rfl) (ce2 (ah5 a) (.int _ _) (.int _ _)) ?_;have h:=gh1 a.r.ag5 ⟨k,n⟩ (by have:=hA.ag5;omega);unfold ab3.ba4;unfold ab3.v ab3.cs;unfold az4.cs at h;simp only[ic144,go_sem];refine aa4 fok185 (h) ?_;simp only[go_sem];exact ab6 rfl
theorem ci1 (a:ab3)(n:Int)(hA:AOK a):Pq 137 [a.v,.int .i64 n] (.bool (a.dropped n)):=by
 refine af4 hE fok137 (nZ rfl) (ah6 (ah5 a) (.int _ _)) ?_;have h:=eq6 a n;have h2:=bg1 a 1 n hA;unfold ab3.dropped;simp only[ic137,go_sem];refine aa4 fok152 (h) ?_
 cases a.job n with
 | false=>simp only[go_sem];exact ab6 rfl
 | true=>
  simp only[go_sem];refine aa4 fok144 (h2) ?_;simp only[go_sem];exact ab6 rfl
theorem im9 (a:ab3){n:Int}(h:a.is n=true):0<=n/\n<(a.l.map aa2.cs).length/\(a.l.map aa2.cs).getD n.toNat []=(a.pk n).cs/\a.pk n∈a.l:=by
 unfold ab3.is at h;simp only[zj,decide_eq_true_eq] at h;have c1:n.toNat<a.l.length:=om;refine ⟨h.1,by rw[zb];exact h.2,?_,?_⟩
 ·unfold ab3.pk;rw[getD_at _ _ c1];simp[za,c1]
 ·unfold ab3.pk;rw[getD_at _ _ c1];exact zh c1
theorem cz6 (p:aa2):(p.cs.drop 1).length=14:=rfl
theorem fd3 (a:ab3)(n m:Int)(hA:AOK a):Pq 135 [a.v,.int .i64 n,.int .i64 m] (.bool (a.twins n m)):=by
 refine af4 hE fok135 (nZ rfl) (ce2 (ah5 a) (.int _ _) (.int _ _)) ?_;have hn:=cz5 a n;have hm:=cz5 a m;unfold ab3.twins
 cases i1:a.is n with
 | false=>
  rw[i1] at hn;unfold ab3.v ab3.cs at *;simp only[ic135,go_sem];refine aa4 fok174 (hn) ?_
  simp only[go_sem];exact ab6 rfl
 | true=>
 cases i2:a.is m with
 | false=>
  rw[i1] at hn;rw[i2] at hm;unfold ab3.v ab3.cs at *;simp only[ic135,go_sem];refine aa4 fok174 (hn) ?_;simp only[go_sem];refine aa4 fok174 (hm) ?_
  simp only[go_sem];exact ab6 rfl
 | true=>
 obtain ⟨n1,n2,n3,n4⟩:=im9 a i1;obtain ⟨m1,m2,m3,m4⟩:=im9 a i2;rw[i1] at hn;rw[i2] at hm;have hap:=fm4 (a.pk n).ap7 (a.pk m).ap7;have hev:=bn4 (a.pk n).evr (a.pk m).evr (hA.small _ n4).1 (hA.small _ m4).1;unfold ab3.fh6;unfold ab3.v ab3.cs at *;generalize a.pk n=p at *;generalize a.pk m=q at *;generalize a.l.map aa2.cs=es at *;by_cases e:n=m
 ·simp only[ic135,go_sem];refine aa4 fok174 (hn) ?_;simp only[go_sem];refine aa4 fok174 (hm) ?_;simp only[go_sem,e];exact ab6 (by simp)
 have p0:p.cs.head? = zl (.str p.name):=rfl;have q0:q.cs.head? = zl (.str q.name):=rfl;have p4:(p.cs.drop 4).head? = zl (.int .u8 p.ap7):=rfl;have q4:(q.cs.drop 4).head? = zl (.int .u8 q.ap7):=rfl;have p1:(p.cs.drop 1).take 3=p.evr.cs:=rfl;have q1:(q.cs.drop 1).take 3=q.evr.cs:=rfl;simp only[ic135,go_sem];refine aa4 fok174 (hn) ?_;simp only[go_sem];refine aa4 fok174 (hm) ?_;simp only[go_sem,e,n1,n2,n3,m1,m2,m3,af7,ae8,ac7,p0,q0];by_cases e2:p.name=q.name
 ·simp only[go_sem,e2,p4,q4];refine aa4 fok176 (hap) ?_
  cases ce9 p.ap7 q.ap7 with
  | false=>simp only[go_sem];exact ab6 rfl
  | true=>
   simp only[go_sem,af7,p1,q1,cz6];refine aa4 fok147 (hev) ?_;simp only[go_sem];exact ab6 (by simp)
 ·simp only[go_sem,e2];exact ab6 (by simp)
theorem cz7 (j:Job):(j.cs.drop 1).take 5=j.dep.cs:=rfl
theorem dh4 (a:ab3)(k n:Int)(hA:AOK a):Pq 145 [a.v,.int .u8 k,.int .i64 n] (.bool (a.ax8 k n)):=by
 refine af4 hE fok145 (nZ rfl) (ce2 (ah5 a) (.int _ _) (.int _ _)) ?_;have hD:∀i:Nat,i<a.r.af2.length->Pq 137 [a.v,.int .i64 i] (.bool (a.dropped i)):=λi _=>ci1 a i hA
 have hN:∀(i:Nat) (h:i<a.r.af2.length),Pq 103 [(ad8 a.l).v,.agg (a.jb i).dep.cs] (.aa3 ((ak8 a.l (a.jb i).dep).map Md.ae1)):=λi h=>
  ca7 a.l (a.jb i).dep (by have:=hA.len;omega) hA.small (hA.it9 _ (by
   have e:a.jb i=a.r.af2[i]:=by simp[ab3.jb,za,h]
   rw[e];exact zh h))
 have hH:∀i:Nat,Pq 90 [.aa3 ((ak8 a.l (a.jb i).dep).map Md.ae1),.int .i64 n] (.bool (decide (n∈ak8 a.l (a.jb i).dep))):=λi=>
  ep3 _ n (by have h1:=ae5 (λp=>named p (a.jb i).dep) a.l;have:=hA.len;have:(ak8 a.l (a.jb i).dep).length<=a.l.length:=h1;omega)
 have hg:∀i:Nat,i<a.r.af2.length->(a.r.af2.map Job.cs).getD i []=(a.jb i).cs:=λi h=>by simp[ab3.jb,za,h]
 have hlen:=hA.af2;unfold ab3.ax8;unfold ab3.v ab3.cs at *;simp only[ic145,go_sem];generalize a.dropped=dr at *;generalize a.jb=jb at *;generalize ak8 a.l=nm at *;refine ab1 noT (λi fr s=>fr=[(0,.ab8 [a.p.v,(ad8 a.l).v,.int .u8 a.r.ap7,.bool a.r.vendor,as5 a.r.af2,ao7 a.r.ag5,.int .i64 a.r.budget,.aa3 (a.l.map aa2.cs)]),(1,.int .u8 k),(2,.int .i64 n),(13,.aa3 (a.r.af2.map Job.cs)),(14,.int .i64 a.r.af2.length),(15,.int .i64 (i:Int))]/\((z7 i).any λi=>decide ((jb i).kind=k)&&!dr i&&decide (n∈nm (jb i).dep))=false) a.r.af2.length ⟨rfl,rfl⟩ ?_;rintro i fr t hi ⟨rfl,hf⟩;by_cases hlt:i<a.r.af2.length
 ·have c1:(i:Int)<a.r.af2.length:=om;have c2:(0:Int)<=i:=om;have w1:=ac3 (i:=i) om;have hgi:=hg i hlt;have hDi:=hD i hlt;have hNi:=hN i hlt;have hHi:=hH i
  have hex:∀b,(decide ((jb i).kind=k)&&!dr i&&decide (n∈nm (jb i).dep))=b->(b=true->((z7 a.r.af2.length).any λi=>decide ((jb i).kind=k)&&!dr i&&decide (n∈nm (jb i).dep))=true)/\(b=false->((z7 i++[i]).any λi=>decide ((jb i).kind=k)&&!dr i&&decide (n∈nm (jb i).dep))=false):=by
   intro b hb;refine ⟨λh=>List.any_eq_true.2 ⟨i,List.mem_range.2 hlt,by rw[hb];exact h⟩,λh=>?_⟩;rw[List.any_append,hf];simp only[List.any_cons,List.any_nil,Bool.or_false,Bool.false_or,hb,h]
  clear hD hN hH hg;have j0:(jb i).cs.head? = zl (.int .u8 (jb i).kind):=rfl;have j1:=cz7 (jb i);have j2:((jb i).cs.drop 1).length=5:=rfl;generalize jb i=j at *;simp only[go_sem,c1,c2,hgi,be1,ch7,bb7,j0];by_cases e1:j.kind=k
  ·simp only[go_sem,e1]
   first|refine aa4 fok137 (hDi) ?_|refine ab2 (hDi) ?_
   cases e2:dr (i:Int) with
   | true=>
    simp only[go_sem,w1]
    exact ⟨hlt,(hex _ rfl).2 (by simp[e2])⟩
   | false=>
    simp only[go_sem,j1,j2]
    first|refine aa4 fok103 (hNi) ?_|refine ab2 (hNi) ?_
    simp only[go_sem]
    first|refine aa4 fok90 (hHi) ?_|refine ab2 (hHi) ?_
    by_cases e3:n∈nm j.dep
    ·simp only[go_sem,e3];exact ab6 ((hex _ rfl).1 (by simp[e1,e2,e3])).symm
    ·simp only[go_sem,e3,w1];exact ⟨hlt,(hex _ rfl).2 (by simp[e3])⟩
  ·simp only[go_sem,e1,w1];exact ⟨hlt,(hex _ rfl).2 (by simp[e1])⟩
 ·have hi':i=a.r.af2.length:=om;subst hi';have c1:¬(a.r.af2.length:Int)<(a.r.af2.length:Int):=om;simp only[go_sem,c1];exact ab6 hf.symm
theorem gh3 (a:ab3)(n:Int)(hA:AOK a):Pq 136 [a.v,.int .i64 n] (.bool (a.goes n)):=by
 refine af4 hE fok136 (nZ rfl) (ah6 (ah5 a) (.int _ _)) ?_;have h:=bk6 a n;have h2:=dh4 a 2 n hA;have h3:=bg1 a 2 n hA;unfold ab3.goes;simp only[ic136,go_sem];refine aa4 fok143 (h) ?_
 cases a.inst n with
 | false=>simp only[go_sem];exact ab6 rfl
 | true=>
  simp only[go_sem];refine aa4 fok145 (h2) ?_
  cases a.ax8 2 n with
  | true=>simp only[go_sem];exact ab6 rfl
  | false=>
   simp only[go_sem];refine aa4 fok144 (h3) ?_;simp only[go_sem];exact ab6 rfl
theorem fd4 {α:Type}(q:α->Bool):∀(l:List α) (i:Int),aj1 q l i=-1/\(∀x∈l,q x=false)\/∃k,∃h:k<l.length,aj1 q l i=i+k/\q l[k]=true/\∀x∈l.take k,q x=false:=by
 intro l
 induction l with
 | nil=>intro i;exact .inl ⟨rfl,λx h=>by cases h⟩
 | cons a l ih=>
  intro i;simp only[aj1]
  cases hq:q a with
  | true=>exact .inr ⟨0,by simp,by simp,by simpa using hq,λx h=>by cases h⟩
  | false=>
   simp only[zq,if_false];rcases ih (i+1) with ⟨h1,h2⟩|⟨k,h,h1,h2,h3⟩
   ·exact .inl ⟨h1,λx hx=>by
     rcases z3.1 hx with rfl|hx
     ·exact hq
     ·exact h2 x hx⟩
   ·refine .inr ⟨k+1,by simp only[zv];omega,by rw[h1];omega,by simpa using h2,λx hx=>?_⟩;rw[List.take_succ_cons] at hx;rcases z3.1 hx with rfl|hx
    ·exact hq
    ·exact h3 x hx
theorem dh5 {q:Int->Bool}{l:List Int}(h:∀x∈l,q x=false):(l.filter λx=>!q x)=l:=List.filter_eq_self.2 λx hx=>by rw[h x hx];rfl
theorem fo6 {σ:Store}{id:Nat}{cs:List IV}{zs:List Int}(ho:σ.obj id=zl (.row cs))(hct:cs.take zs.length=zs.map bh4)(hcl:zs.length<=cs.length):cb5 σ 0 (.slice id 0 zs.length 1) (.aa3 (zs.map Md.ae1)):=by
 refine .slice id 0 zs.length 1 cs (zs.map Md.ae1) (zp _) (.inr ho) (by rw[zb]) om (λi hi=>?_) λi hi j hj=>?_
 ·simp[za,hi,Md.ae1]
 ·have hj0:j=0:=om;subst hj0;have e2:((zs.map Md.ae1).getD i []).getD 0 .undef=bh4 zs[i]:=by simp[za,hi,Md.ae1]
  rw[e2,zx,z6,z4,ea5 hct hi];exact .keep _ (.int _ _)
theorem hk9 {σ:Store}{id g:Nat}{cap cs0:List IV}{zs:List Int}(q:Int->Bool)(hz:zs.length<2^40)(ho:σ.obj id=zl (.row cs0))(hct:cs0.take zs.length=zs.map bh4)(hcl:zs.length<=cs0.length)
  (hok:okF Tryz.prog g=true) (hcap:∀c∈cap,Bnd 0 c) (hq:∀z∈zs,Pq g (.int .i64 z::cap) (.bool (q z))) :
  Cq 154 [.slice id 0 zs.length 1,.func (.func g) [] cap] σ (λv s=>σ.next<=s.next/\(∀i,i≠id->s.obj i=σ.obj i) /\
   ∃cs,v=.slice id 0 (zs.filter λx=>!q x).length 1/\s.obj id=zl (.row cs)/\cs.take (zs.filter λx=>!q x).length=(zs.filter λx=>!q x).map bh4/\(zs.filter λx=>!q x).length<=cs.length):=by
 refine C_f fok154 (nZ rfl) ?_;simp only[ic154,go_sem]
 have hI:=cr1 (σ:=σ) (args:=[.slice id 0 zs.length 1,.func (.func g) [] cap]) (args':=[.aa3 (zs.map Md.ae1),.func (.func g) [] cap]) hE rfl (λi hi=>by
  match i,hi with
  | 0,_=>exact fo6 ho hct hcl
  | 1,_=>exact .keep _ (.func _ _ _ (λc hc=>by cases hc) hcap)) (by simp[IV.plain]) (eq3 zs g [] cap q om hok hq)
 refine ac4 fok199 hI ?_;rintro v s ⟨rfl,rfl⟩;refine ⟨zc _,?_⟩;rcases fd4 q zs 0 with ⟨h1,h2⟩|⟨i0,hi0,h1,h2,h3⟩
 ·simp only[go_sem,h1,dh5 h2];exact ⟨zc _,λ_ _=>trivial,cs0,ho,hct,hcl⟩
 have h1':aj1 q zs 0=(i0:Int):=by rw[h1];omega
 have d1:¬(i0:Int)=-1:=om;have w0:=ac3 (i:=i0) om;simp only[go_sem,h1',d1,w0]
 refine ab1 noT (λj fr t=>∃(k:Nat) (cs:List IV),fr=[(0,.slice id 0 zs.length 1),(1,.func (.func g) [] cap),(5,.int .i64 (k:Int)),(6,.int .i64 ((i0+1+j:Nat):Int))] /\
  (s.next<=t.next/\∀q,q≠id->t.obj q=s.obj q)/\t.obj id=zl (.row cs)/\cs.length=cs0.length/\k<=i0+j/\i0+1+j<=zs.length/\k=((zs.take (i0+1+j)).filter λx=>!q x).length/\cs.take k=((zs.take (i0+1+j)).filter λx=>!q x).map bh4 /\
  ∀(x:Nat) (h:x<zs.length),i0+j<x->(cs.drop x).head? = zl (.int .i64 zs[x])) (zs.length-(i0+1)) ?_ ?_
 ·have e:((zs.take (i0+1)).filter λx=>!q x)=zs.take i0:=by
   rw[qa,zk hi0,zu,dh5 h3];simp[h2]
  refine ⟨i0,cs0,rfl,⟨zc _,λ_ _=>rfl⟩,ho,rfl,om,om,?_,?_,λx h _=>?_⟩
  ·rw[z4,e,zf];omega
  ·rw[z4,e,List.map_take,<- hct,List.take_take];congr 1;omega
  ·have:=ea5 hct h;rw[List.head?_drop];rw[za,zk om] at this;rw[zk om];exact congrArg zl this
 rintro j fr t hj ⟨k,cs,rfl,⟨un,uo⟩,hoc,hcl2,hk1,hk2,hk3,hk4,hcs⟩;by_cases hlt:j<zs.length-(i0+1)
 ·have e1:((i0+1+j:Nat):Int)<zs.length:=om;have e2:(0:Int)<=((i0+1+j:Nat):Int):=om;have hx:i0+1+j<zs.length:=om;have g1:=hcs (i0+1+j) hx om;have w1:=ac3 (i:=i0+1+j) om;have w2:=ac3 (i:=k) om;have hqz:=hq _ (zh hx);have e3:(0:Int)<=(k:Int):=om;have e4:(k:Int)<zs.length:=om;have e5:k+1<=cs.length:=om
  have htk:(zs.take (i0+1+j+1)).filter (λx=>!q x)=(zs.take (i0+1+j)).filter (λx=>!q x)++if q zs[i0+1+j] then [] else [zs[i0+1+j]]:=by
   rw[qa,zk hx,zu];congr 1;simp only[Option.toList,List.filter_cons,List.filter_nil];cases q zs[i0+1+j]<;>rfl
  simp only[go_sem,e1,e2,hoc,g1,zg,zx,z6];refine ap4 hok (ew6 hqz) ?_;rintro v u ⟨rfl,rfl⟩;refine ⟨zc _,?_⟩
  cases hb:q zs[i0+1+j] with
  | true=>
   rw[hb,if_pos rfl,zo] at htk;simp only[go_sem,w1]
   exact ⟨hlt,k,cs,rfl,⟨un,uo⟩,hoc,hcl2,om,om,by rw[show i0+1+(j+1)=i0+1+j+1 by omega,htk];exact hk3,by rw[show i0+1+(j+1)=i0+1+j+1 by omega,htk];exact hk4,λx h hx=>hcs x h om⟩
  | false=>
   rw[hb,if_neg (by simp)] at htk;simp only[go_sem,w1,w2,e3,e4,e5,hoc,zg,zx,z6];refine ⟨hlt,k+1,be4 cs k [.int .i64 zs[i0+1+j]],rfl,⟨un,λq hq=>?_⟩,?_,?_,om,om,?_,?_,λx h hx=>?_⟩
   ·simp only[if_neg hq];exact uo q hq
   ·rfl
   ·rw[ah3 (by rw[zt];omega)];exact hcl2
   ·rw[show i0+1+(j+1)=i0+1+j+1 by omega,htk,ze,<- hk3];rfl
   ·rw[show i0+1+(j+1)=i0+1+j+1 by omega,htk,dw3 om,hk4,zn];rfl
   ·rw[dw4 om om];exact hcs x h om
 ·have hj':i0+1+j=zs.length:=om;have e1:¬((i0+1+j:Nat):Int)<zs.length:=om;rw[hj',zi] at hk3 hk4;have hkn:k<zs.length:=om;simp only[go_sem,e1,hi8 (show k<=zs.length by omega),iv4 (show k<=zs.length by omega),hoc,jw5,hj4 hoc hkn om];have hrl:(rep [IV.int .i64 0] (zs.length-k)).length=zs.length-k:=by rw[ar3];simp
  refine ⟨un,λq hq=>?_,be4 cs k (rep [IV.int .i64 0] (zs.length-k)),by rw[hk3],by simp only[aa5,if_true],?_,?_⟩
  ·simp only[aa5,if_neg hq];exact uo q hq
  ·rw[<- hk3,eq2 om];exact hk4
  ·rw[ah3 (by rw[hrl];omega),<- hk3];omega
theorem fd5 (a:ab3)(down other:Bool)(old q:aa2)(h1:Pkg.small old)(h2:Pkg.small q):Pq 146 [.agg q.cs,.ab8 old.cs,.ab8 [.bool down],.ab8 [.bool other],.ab8 [a.v]] (.bool (ab3.eb8 a.r.vendor down other old q)):=by
 refine af4 hE fok146 (nZ rfl) (jb7 (aj8 _) (.ab8 _ (au6 _)) (.ab8 _ (ak1 (.bool _))) (.ab8 _ (ak1 (.bool _))) (.ab8 _ (ak1 (ah5 a)))) ?_;have hf:=gf1 q.ap7 old.ap7;have hev:=bn4 q.evr old.evr h2.1 h1.1;have p0:q.cs.head? = zl (.str q.name):=rfl;have q0:old.cs.head? = zl (.str old.name):=rfl;have p4:(q.cs.drop 4).head? = zl (.int .u8 q.ap7):=rfl;have q4:(old.cs.drop 4).head? = zl (.int .u8 old.ap7):=rfl;have p5:(q.cs.drop 5).head? = zl (.str q.vendor):=rfl;have q5:(old.cs.drop 5).head? = zl (.str old.vendor):=rfl;have p1:(q.cs.drop 1).take 3=q.evr.cs:=rfl;have q1:(old.cs.drop 1).take 3=old.evr.cs:=rfl;unfold ab3.eb8;unfold ab3.v ab3.cs;by_cases e1:q.name=old.name
 case neg=>
  simp only[ic146,go_sem,af7,ae8,ac7,p0,q0,e1];exact ab6 (by simp)
 simp only[ic146,go_sem,af7,ae8,ac7,p0,q0,e1];cases down
 case' true=>simp only[go_sem]
 case' false=>
  simp only[go_sem,cz6,p1,q1];refine aa4 fok147 (hev) ?_;by_cases e2:0<=aq4 q.evr old.evr
  case neg=>
   simp only[go_sem,e2];exact ab6 (by simp)
  simp only[go_sem,e2]
 all_goals
  cases other
  case' true=>simp only[go_sem]
  case' false=>
   simp only[go_sem,p4,q4];refine aa4 fok148 (hf) ?_;cases av7 q.ap7 old.ap7
   case false=>
    simp only[go_sem];exact ab6 (by simp)
   simp only[go_sem]
  all_goals
   cases a.r.vendor
   case true=>
    simp only[go_sem];exact ab6 (by simp)
   by_cases e3:q.vendor=old.vendor
   ·simp only[go_sem,p5,q5,e3];exact ab6 (by simp)
   ·simp only[go_sem,p5,q5,e3];exact ab6 (by simp)
theorem dh6 (l:List aa2)(n:Nat)(hl:l.length<2^20)(hn:n<l.length)(hs:∀p∈l,Pkg.small p)(σ:Store):Cq 149 [(ad8 l).v,.int .i64 n] σ (bo1 σ (al9 l n)):=by
 have hi:=bg7 l;have hlook:=hi.over (l.getD n default).name
 have hsift:∀(σ:Store) v,(v=.aa3 ((ad4 (ad8 l).over (l.getD n default).name).map Md.ae1)\/v=.aa1/\ad4 (ad8 l).over (l.getD n default).name=[])->Cq 140 [(ad8 l).v,v,.func (.func 193) [] [.ab8 [.int .i64 n],.ab8 [(ad8 l).v]]] σ (bo1 σ (al9 l n)):=by
  intro σ v hv
  have h:=hj7 (ad8 l) (ad4 (ad8 l).over (l.getD n default).name) (by rw[hlook];have:=ae5 (λp=>decide (∃d∈p.aa7,d.name=(l.getD n default).name)) l;omega) 193 [.ab8 [.int .i64 n],.ab8 [(ad8 l).v]] (λk=>decide (k.toNat≠n)&&aa7 (l.getD k.toNat default) (l.getD n default)) fok193.1 (λk hk=>by
   rw[hlook] at hk;obtain ⟨m,rfl,hm⟩:=numsOf_at hk;refine ⟨m,rfl,by rw[hi.all];exact hm,?_⟩;have e:(ad8 l).all[m]'(by rw[hi.all];exact hm)=l[m]:=by simp only[hi.all]
   rw[e,zg,getD_at l m hm,getD_at l n hn];exact hi6 l m n hm hn hs) σ
  have e:al9 l n=(ad4 (ad8 l).over (l.getD n default).name).filter λk=>decide (k.toNat≠n)&&aa7 (l.getD k.toNat default) (l.getD n default):=rfl
  rw[<- e] at h;rcases hv with rfl|⟨rfl,h0⟩
  ·exact h
  ·rw[h0] at h;refine fo3 (args':=[(ad8 l).v,.aa3 [],.func (.func 193) [] [.ab8 [.int .i64 n],.ab8 [(ad8 l).v]]]) rfl (λi hi=>?_) h;have hw:∀ {v:IV} {σ:Store},Bnd 0 v->Frz σ (λ_=>true=true) v v:=λh=>.keep _ (h.weak λ_ _=>rfl)
   have hb:=ar9 (ad8 l)
   match i,hi with
   | 0,_=>exact hw hb
   | 1,_=>exact .bz3
   | 2,_=>exact hw (.func _ _ _ (λc hc=>by cases hc) (ah6 (.ab8 _ (ak1 (.int _ _))) (.ab8 _ (ak1 hb))))
 have hx:(ad8 l).v=.ab8 [.aa3 (l.map aa2.cs),.al4 (nmV (ad8 l).at5),.al4 (nmV (ad8 l).names),.al4 (nmV (ad8 l).over)]:=by
  show IV.ab8 [.aa3 ((ad8 l).all.map aa2.cs),_,_,_]=_;rw[hi.all]
 have his:=jh4 (ad8 l) n
 have i1:(decide ((0:Int)<=(n:Int))&&decide ((n:Int)<(ad8 l).all.length))=true:=by
  rw[hi.all];simp only[zj,decide_eq_true_eq];omega
 rw[i1] at his
 have hk0:∀σ:Store,∃v,cj1 σ 2 .aa1 false (.al4 (nmV (ad8 l).over)) (.str (l.getD n default).name)=zl v/\∀τ,Cq 140 [(ad8 l).v,v,.func (.func 193) [] [.ab8 [.int .i64 n],.ab8 [(ad8 l).v]]] τ (bo1 τ (al9 l n)):=λσ=>
  let ⟨v,h1,h2⟩:=eq1 (ad8 l).over σ (l.getD n default).name
  ⟨v,h1,λτ=>hsift τ v h2⟩
 have hg:(l.map aa2.cs).getD n []=l[n].cs:=by simp[za,hn]
 have hnm:(l.getD n default).name=l[n].name:=by rw[getD_at l n hn]
 have p0:l[n].cs.head? = zl (.str l[n].name):=rfl;have hle:(l.map aa2.cs).length=l.length:=zb ..;clear hsift hlook i1;rw[hnm] at hk0;rw[hx] at hk0 his ⊢;generalize al9 l n=res at *;generalize l.map aa2.cs=a0 at *;generalize l[n]=q at *;have c1:(0:Int)<=n:=om;have c2:(n:Int)<a0.length:=om;refine C_f fok149 (nZ rfl) ?_;simp only[ic149,go_sem];refine aa4 fok192 (his) ?_;simp only[go_sem,c1,c2,hg,p0,ah4,ag7,af9];obtain ⟨v,hk,hsv⟩:=hk0 ⟨σ.next+17,σ.obj⟩;simp only[go_sem,hk];refine ac4 fok140 (hsv _) ?_;rintro v' s ⟨hkp,hr⟩;refine ⟨hkp.next,?_⟩;simp only[go_sem];exact ⟨hkp.low,hr.low (zm _ _)⟩
theorem ef6 {σ:Store}{id:Nat}{cs:List IV}(ho:σ.obj id=zl (.cells cs))(hb:∀c∈cs,Bnd 0 c):cb5 σ 0 (.ptr id 0) (.ab8 cs):=by
 refine .ptr id 0 cs cs (zp _) (.inl ho) om (λj hj=>?_);rw[zx];exact .keep _ (hb _ (ad3 _ hj))
theorem jw9 (zs:List Int):(jh5 zs).Pairwise (·<=·):=by
 refine List.Pairwise.imp (λh=>of_decide_eq_true h) (List.pairwise_mergeSort (le:=λx y:Int=>decide (x<=y)) (λa b c h1 h2=>?_) (λa b=>?_) _)
 ·exact decide_eq_true (Int.le_trans (of_decide_eq_true h1) (of_decide_eq_true h2))
 ·rcases Int.le_total a b with h|h
  ·simp[h]
  ·simp[h]
theorem dw6 (a:ab3)(i:Int)(hA:AOK a)(σ:Store):Cq 105 [a.v,.int .i64 i] σ (ka1 σ (a.an4 i)):=by
 have hin:=bk6 a i;refine C_f fok105 (nZ rfl) ?_;unfold ab3.an4
 cases hi:a.inst i with
 | false=>
  rw[hi] at hin;unfold ab3.v ab3.cs at *;simp only[ic105,go_sem];refine aa4 fok143 (hin) ?_;simp only[go_sem]
  exact ⟨Kept.refl σ,.inl ⟨rfl,rfl⟩⟩
 | true=>
 rw[hi] at hin;have his:a.is i=true:=by unfold ab3.inst at hi;exact (zj _ _▸hi).1
 obtain ⟨i1,i2,i3,i4⟩:=im9 a his;obtain ⟨m,rfl⟩:∃m:Nat,i=m:=⟨i.toNat,om⟩;have hml:m<a.l.length:=by rw[zb] at i2;omega
 have e3:=bg1 a 3 m hA;have e4:=bg1 a 4 m hA;have n4:=dh4 a 4 m hA;have hob:=dh6 a.l m (by have:=hA.len;omega) hml hA.small;have hlen:=hA.len
 have hall:∀n (h:n<a.l.length),(a.l.map aa2.cs).getD n []=(a.pk n).cs/\a.pk (n:Int)∈a.l:=λn h=>by
  have hn:a.is (n:Int)=true:=by rw[ab3.dt5];exact decide_eq_true h
  obtain ⟨_,_,h3,h4⟩:=im9 a hn;exact ⟨by simpa using h3,h4⟩
 have hfl:∀down other n (h:n<a.l.length),Pq 146 [.agg (a.pk n).cs,.ab8 (a.pk m).cs,.ab8 [.bool down],.ab8 [.bool other],.ab8 [a.v]] (.bool (ab3.eb8 a.r.vendor down other (a.pk m) (a.pk n))):=
  λdown other n h=>fd5 a down other _ _ (hA.small _ i4) (hA.small _ (hall n h).2)
 have hba:=ah5 a;unfold ab3.ka3;unfold ab3.v ab3.cs at *;generalize (ad8 a.l).v=X at *;generalize a.p.v=Pv at *;have c0:(0:Int)<=m:=om;have c2:(m:Int)<a.l.length:=om;have hgm:=(hall m hml).1;generalize hdn:(a.ba4 3 m||a.ax8 4 m)=down;generalize hot:a.ba4 4 m=other at *;simp only[ic105,go_sem];refine aa4 fok143 (hin) ?_;simp only[go_sem,c0,c2,hgm,af7,ae8,ac7];cases h3:a.ba4 3 m
 case' true=>
  rw[h3] at hdn e3;have hd:true=down:=by simpa using hdn
  refine aa4 fok144 (e3) ?_;simp only[go_sem]
 case' false=>
  rw[h3] at hdn e3;have hd:a.ax8 4 m=down:=by simpa using hdn
  refine aa4 fok144 (e3) ?_;simp only[go_sem];refine aa4 fok145 (n4) ?_;simp only[go_sem]
 all_goals
  refine aa4 fok144 (e4) ?_;simp only[go_sem];refine ac4 fok149 (hob _) ?_;rintro v s ⟨hk0,hr0⟩;refine ⟨hk0.next,?_⟩;simp only[go_sem];have g1:¬σ.next=σ.next+1+1:=om;have g2:¬σ.next=σ.next+1:=om;have g3:¬σ.next+1=σ.next+1+1:=om;have b5:s.obj σ.next=zl (.cells (a.pk m).cs):=(hk0.obj σ.next (by show σ.next<σ.next+_;omega)).trans (by simp only[aa5,g1,g2,if_true,if_false]);have b6:s.obj (σ.next+1)=zl (.cells [.bool down]):=(hk0.obj (σ.next+1) (by show σ.next+1<σ.next+_;omega)).trans (by simp only[aa5,g3,if_true,if_false,hd]);have b7:s.obj (σ.next+1+1)=zl (.cells [.bool other]):=(hk0.obj (σ.next+1+1) (by show σ.next+1+1<σ.next+_;omega)).trans (by simp only[aa5,if_true])
  have blo:∀i,i<σ.next->s.obj i=σ.obj i:=λi hi=>(hk0.obj i (by show i<σ.next+_;omega)).trans (by
   have u1:¬i=σ.next:=om;have u2:¬i=σ.next+1:=om;have u3:¬i=σ.next+1+1:=om;simp only[aa5,u1,u2,u3,if_false])
  have bnx:σ.next+1+1+1<=s.next:=zy (by show σ.next+1+1+1<=σ.next+_;omega) hk0.next;have hr1:ai4 s (σ.next+1+1+1) v (al9 a.l m):=hr0.low (by show σ.next+1+1+1<=σ.next+_;omega);clear hk0 hr0 hob e3 e4 n4 hin;generalize hq:(λn:Nat=>decide ((n:Int)=m)||ab3.eb8 a.r.vendor down other (a.pk m) (a.pk n))=qq;have hqn:∀n,qq n=(decide ((n:Int)=m)||ab3.eb8 a.r.vendor down other (a.pk m) (a.pk n)):=λn=>by rw[<- hq]
  have hobl:=dh2 a.l m;have obm:=λk=>dh1 (l:=a.l) (n:=m) (k:=k)
  generalize al9 a.l m=ob at *
  refine ab1 noT (λn fr t=>∃gv,fr=[(1,.int .i64 (m:Int)),(8,.func (.func 146) [] [.ptr σ.next 0,.ptr (σ.next+1) 0,.ptr (σ.next+1+1) 0,.ab8 [.ab8 [Pv,X,.int .u8 a.r.ap7,.bool a.r.vendor,as5 a.r.af2,ao7 a.r.ag5,.int .i64 a.r.budget,.aa3 (a.l.map aa2.cs)]]]),(9,gv),(44,.aa3 (a.l.map aa2.cs)),(45,.int .i64 a.l.length),(46,.int .i64 (n:Int))] /\
   Kept ⟨σ.next+1+1+1,s.obj⟩ t/\ai4 t (σ.next+1+1+1) gv (ob++ak9 qq n)) a.l.length ⟨v,rfl,⟨bnx,λ_ _=>rfl⟩,by rw[show ak9 qq 0=[] from rfl,zo];exact hr1⟩ ?_
  rintro n fr t hn ⟨gv,rfl,hk,hg⟩;by_cases hlt:n<a.l.length
  ·have d1:(n:Int)<a.l.length:=om;have d2:(0:Int)<=n:=om;have w1:=ac3 (i:=n) om;have hgn:=(hall n hlt).1;have hpn:=hfl down other n hlt;have hsn:=ax7 qq n;have hln:=ao4 qq n;have hzl:(ob++ak9 qq n).length<2147483648:=by rw[ze];omega
   have n5:¬σ.next=t.next:=by have:=hk.next;show ¬_;intro e;have:σ.next+1+1+1<=t.next:=this;omega
   have n6:¬σ.next+1=t.next:=by have:=hk.next;intro e;have:σ.next+1+1+1<=t.next:=this;omega
   have n7:¬σ.next+1+1=t.next:=by have:=hk.next;intro e;have:σ.next+1+1+1<=t.next:=this;omega
   have t5:=(hk.obj σ.next (by show σ.next<σ.next+1+1+1;omega)).trans b5;have t6:=(hk.obj (σ.next+1) (by show σ.next+1<σ.next+1+1+1;omega)).trans b6;have t7:=(hk.obj (σ.next+1+1) (by show σ.next+1+1<σ.next+1+1+1;omega)).trans b7;by_cases e:(n:Int)=m
   case' pos=>
    have hqt:qq n=true:=by rw[hqn,e];simp
    have e':n=m:=om;subst e';simp only[go_sem,d1,d2,hgn,af7,ae8,ac7,eq_self]
   case' neg=>
    simp only[go_sem,d1,d2,hgn,af7,ae8,ac7,e]
    refine ap4 fok146.1 (cr1 (args':=[.agg (a.pk n).cs,.ab8 (a.pk m).cs,.ab8 [.bool down],.ab8 [.bool other],.ab8 [.ab8 [Pv,X,.int .u8 a.r.ap7,.bool a.r.vendor,as5 a.r.af2,ao7 a.r.ag5,.int .i64 a.r.budget,.aa3 (a.l.map aa2.cs)]]]) hE rfl (λi hi=>by
     match i,hi with
     | 0,_=>exact .keep _ (aj8 _)
     | 1,_=>exact ef6 (by simp only[aa5,n5,if_false];exact t5) (au6 _)
     | 2,_=>exact ef6 (by simp only[aa5,n6,if_false];exact t6) (ak1 (.bool _))
     | 3,_=>exact ef6 (by simp only[aa5,n7,if_false];exact t7) (ak1 (.bool _))
     | 4,_=>exact .keep _ (.ab8 _ (ak1 hba))) (by simp[IV.plain]) hpn) ?_
    rintro v' u ⟨rfl,rfl⟩;refine ⟨zc _,?_⟩;cases hfb:ab3.eb8 a.r.vendor down other (a.pk m) (a.pk n)
    case' false=>
     have hqt:qq n=false:=by rw[hqn,hfb];simp[e]
     rw[hqt] at hsn;simp only[go_sem,w1];rw[if_neg (by simp),zo] at hsn;exact ⟨hlt,gv,rfl,hk.trans (Kept.box t _ _),by rw[hsn];exact hg.kept (Kept.box t _ _)⟩
    have hqt:qq n=true:=by rw[hqn,hfb];simp
    simp only[go_sem]
   all_goals
    rw[hqt,if_pos rfl] at hsn;rw[az9 (s:=⟨t.next+1+1,_⟩) (lo:=σ.next+1+1+1) (zs:=ob++ak9 qq n) ((hg.kept (Kept.box t _ _)).up 1) (n:Int) hzl];simp only[go_sem,w1];have hz:=bb2 (hk.trans (Kept.box t (.cells [.str [],.int .i64 0,.str [],.str [],.int .u8 0,.str [],.aa1,.aa1,.aa1,.aa1,.aa1,.aa1,.aa1,.aa1,.aa1]) (.cells (a.pk n).cs))) (hg.kept (Kept.box t _ _)) (n:Int) (a:=1) (nid:=t.next+1) (zc _) (zd _) rfl;rw[hsn,<- z2];exact ⟨hlt,_,rfl,hz.1,hz.2⟩
  ·have hn':n=a.l.length:=om;subst hn';have d1:¬(a.l.length:Int)<(a.l.length:Int):=om;simp only[go_sem,d1];have hln:=ao4 qq a.l.length;have hzl:(ob++ak9 qq a.l.length).length<2^20:=by rw[ze];omega
   have hmm:(m:Int)∈ob++ak9 qq a.l.length:=List.mem_append_right _ (bq2.2 ⟨m,rfl,hml,by rw[hqn];simp⟩)
   have hfin:∀D:List Int,D.Pairwise (· < ·)->(∀x,x∈D↔x∈ob++ak9 qq a.l.length)->D=ak9 (λn=>decide ((n:Int)=m)||ab3.eb8 a.r.vendor down other (a.pk m) (a.pk n)||(!decide ((n:Int)=m)&&aa7 (a.pk n) (a.pk m))) a.l.length:=λD h1 h2=>hj6 h1 (if2 _ _) λx=>by
    rw[h2,List.mem_append,obm,bq2,bq2];constructor
    ·rintro (⟨u,rfl,h3,h4,h5⟩|⟨u,rfl,h3,h4⟩)
     ·refine ⟨u,rfl,h3,?_⟩;have h6:¬(u:Int)=m:=om;simp only[ab3.pk,zg,h5,h6,decide_false,Bool.not_false,Bool.and_self,Bool.or_true]
     ·rw[hqn] at h4;exact ⟨u,rfl,h3,by rw[h4,Bool.true_or]⟩
    ·rintro ⟨u,rfl,h3,h4⟩;rw[Bool.or_eq_true] at h4;rcases h4 with h4|h4
     ·exact .inr ⟨u,rfl,h3,by rw[hqn];exact h4⟩
     ·simp only[zj,Bool.not_eq_true',decide_eq_false_iff_not,ab3.pk,zg] at h4;exact .inl ⟨u,rfl,h3,om,h4.2⟩
   generalize ob++ak9 qq a.l.length=zs at *;rcases hg with ⟨_,h0⟩|⟨id,hid1,hid2,rfl,ho⟩
   ·rw[h0] at hmm;cases hmm
   refine ac4 fok150 (gg7 (zs:=zs) om ho) ?_;rintro v s' ⟨rfl,rfl⟩;refine ⟨by show t.next<=_;exact zc _,?_⟩;simp only[go_sem];have hsl:(jh5 zs).length=zs.length:=List.length_mergeSort _;have hc:=hj5 (σ:=t.put id (.row ((jh5 zs).map (IV.int .i64)))) (id:=id) (zs:=jh5 zs) om (by simp only[aa5,if_true]) (jw9 zs);rw[hsl] at hc;refine ac4 fok151 hc ?_;rintro v s' ⟨⟨D,cs,q1,q2,rfl,q4,q5,q6⟩,hsn,hso⟩;refine ⟨hsn,?_⟩;have hD:=hfin D q1 λx=>(q2 x).trans List.mem_mergeSort
   simp only[go_sem];have hsn':t.next<=s'.next:=hsn;have hkn:σ.next+1+1+1<=t.next:=hk.next;rw[<- hD];refine ⟨⟨om,λi hi=>?_⟩,.inr ⟨id,cs,om,om,rfl,q4,q5,q6⟩⟩;have hne:i≠id:=om;rw[hso i hne];show (if i=id then _ else t.obj i)=_;rw[if_neg hne,hk.obj i (by show i<σ.next+1+1+1;omega)];exact blo i hi
theorem dh7 (a:ab3)(i:Int)(hA:AOK a):Pq 105 [a.v,.int .i64 i] (.aa3 ((a.an4 i).map Md.ae1)):=ir2 λσ=>dw6 a i hA σ
theorem in1 {σ:Store}{g:Nat}{cap:List IV}(hok:okF Tryz.prog g=true)(hcap:∀c∈cap,Bnd 0 c):Cq 154 [.aa1,.func (.func g) [] cap] σ (ka1 σ []):=by
 refine C_f fok154 (nZ rfl) ?_;simp only[ic154,go_sem]
 have hI:Cq 199 [.aa1,.func (.func g) [] cap] σ (jq3 (.int .i64 (-1)) σ):=by
  refine fo3 (args':=[.aa3 (([]:List Int).map Md.ae1),.func (.func g) [] cap]) rfl (λi hi=>?_) (ew6 (eq3 [] g [] cap (λ_=>true) (by simp) hok (λz hz=>by cases hz)))
  match i,hi with
  | 0,_=>exact .bz3
  | 1,_=>exact .keep _ ((Nm.func _ _ _ (λc hc=>by cases hc) hcap:Bnd 0 (.func (.func g) [] cap)).weak λ_ _=>rfl)
 refine ac4 fok199 hI ?_;rintro v s ⟨rfl,rfl⟩;refine ⟨zc _,?_⟩;simp only[go_sem];exact ⟨Kept.refl _,.inl ⟨rfl,rfl⟩⟩
theorem jh8 {σ:Store}{v:IV}{lo g:Nat}{cap:List IV}{zs:List Int}(q:Int->Bool)(hz:zs.length<2^40)(hr:ci5 σ lo v zs)(hok:okF Tryz.prog g=true)(hcap:∀c∈cap,Bnd 0 c)(hq:∀z∈zs,Pq g (.int .i64 z::cap) (.bool (q z))) :
  Cq 154 [v,.func (.func g) [] cap] σ (λv s=>(σ.next<=s.next/\∀i,i<lo->i<σ.next->s.obj i=σ.obj i)/\ci5 s (min lo σ.next) v (zs.filter λx=>!q x)):=by
 rcases hr with ⟨rfl,rfl⟩|⟨id,cs,h1,h2,rfl,h4,h5,h6⟩
 ·exact (in1 hok hcap).mono λv s ⟨h1,h2⟩=>⟨⟨h1.next,λi _ hi=>h1.obj i hi⟩,h2.low (Nat.min_le_right _ _)⟩
 ·refine (hk9 q hz h4 h5 h6 hok hcap hq).mono λv s ⟨k1,k2,cs',k3,k4,k5,k6⟩=>⟨⟨k1,λi hi _=>k2 i om⟩,.inr ⟨id,cs',om,om,k3,k4,k5,k6⟩⟩
theorem in2 (a:ab3)(n:Int):Pq 156 [.int .i64 n,.ab8 [a.v]] (.bool (a.inst n || !a.fits n)):=by
 refine af4 hE fok156 (nZ rfl) (ah6 (.int _ _) (.ab8 _ (ak1 (ah5 a)))) ?_;have h1:=bk6 a n;have h2:=dw5 a n;simp only[ic156,go_sem];refine aa4 fok143 (h1) ?_
 cases a.inst n with
 | true=>simp only[go_sem];exact ab6 rfl
 | false=>
  simp only[go_sem];refine aa4 fok133 (h2) ?_;simp only[go_sem];exact ab6 rfl
theorem hl6 (a:ab3)(n:Int):Pq 155 [.int .i64 n,.ab8 [a.v]] (.bool (!a.inst n)):=by
 refine af4 hE fok155 (nZ rfl) (ah6 (.int _ _) (.ab8 _ (ak1 (ah5 a)))) ?_;have h1:=bk6 a n;simp only[ic155,go_sem];refine aa4 fok143 (h1) ?_;simp only[go_sem];exact ab6 rfl
theorem gh4 (a:ab3)(i:Int)(hA:AOK a):Pq 108 [a.v,.int .i64 i] (.aa3 ((a.bx7 i).map Md.ae1)):=by
 refine af4 hE fok108 (nZ rfl) (ah6 (ah5 a) (.int _ _)) ?_;have h1:=bk6 a i;have h2:=dw6 a i hA;have hba:=ah5 a;have hcl:=in2 a;have hsl:=a.az6 i;have hA1:=hA.len;have vcs:a.v.cs=[a.v]:=rfl;have vlf:a.v.leaf=true:=rfl;unfold ab3.bx7
 cases hi:a.inst i with
 | false=>
  rw[hi] at h1;have e:a.an4 i=[]:=by unfold ab3.an4;rw[hi];rfl
  rw[e];generalize a.v=V at *;simp only[ic108,go_sem,vcs,List.all_cons,vlf,List.all_nil,List.head?_cons];refine aa4 fok143 (h1) ?_;simp only[go_sem]
  exact .bz3
 | true=>
  rw[hi] at h1;generalize a.v=V at *;generalize a.an4 i=zs at *;simp only[ic108,go_sem,vcs,List.all_cons,vlf,List.all_nil,List.head?_cons];refine aa4 fok143 (h1) ?_;simp only[go_sem];refine ac4 fok105 (h2 _) ?_;rintro v s ⟨hk,hr⟩;refine ⟨hk.next,?_⟩;simp only[go_sem];refine ac4 fok154 (jh8 (λn=>a.inst n || !a.fits n) om hr fok156.1 (ak1 (.ab8 _ (ak1 hba))) λz hz=>hcl z) ?_;rintro v s ⟨⟨h1,_⟩,hr⟩;refine ⟨h1,?_⟩;simp only[go_sem];exact hr.frz λi _=>zp i
theorem gh5 (l:List aa2)(d:Dep)(hl:l.length<2^20)(hs:∀p∈l,Pkg.small p)(hd:Dep.small d)(σ:Store):Cq 103 [(ad8 l).v,.agg d.cs] σ (bo1 σ (ak8 l d)):=by
 have hi:=bg7 l;have hlook:=hi.names d.name
 have hsift:∀(σ:Store) v,(v=.aa3 ((ad4 (ad8 l).names d.name).map Md.ae1)\/v=.aa1/\ad4 (ad8 l).names d.name=[])->Cq 140 [(ad8 l).v,v,.func (.func 141) [] [.ab8 d.cs]] σ (bo1 σ (ak8 l d)):=by
  intro σ v hv
  have h:=hj7 (ad8 l) (ad4 (ad8 l).names d.name) (by rw[hlook];have:=ae5 (λp=>decide (p.name=d.name)) l;omega) 141 [.ab8 d.cs] (λn=>named (l.getD n.toNat default) d) fok141.1 (λn hn=>by
   rw[hlook] at hn;obtain ⟨m,rfl,hm⟩:=numsOf_at hn;refine ⟨m,rfl,by rw[hi.all];exact hm,?_⟩;have e:(ad8 l).all[m]'(by rw[hi.all];exact hm)=l[m]:=by simp only[hi.all]
   rw[e,zg,getD_at l m hm];exact dg8 l[m] m d (hs _ (zh hm)) hd) σ
  rw[fg9] at h;rcases hv with rfl|⟨rfl,h0⟩
  ·exact h
  ·rw[h0] at h;refine fo3 (args':=[(ad8 l).v,.aa3 [],.func (.func 141) [] [.ab8 d.cs]]) rfl (λi hi=>?_) h;have hw:∀ {v:IV} {σ:Store},Bnd 0 v->Frz σ (λ_=>true=true) v v:=λh=>.keep _ (h.weak λ_ _=>rfl)
   match i,hi with
   | 0,_=>exact hw (ar9 (ad8 l))
   | 1,_=>exact .bz3
   | 2,_=>exact hw (.func _ _ _ (λc hc=>by cases hc) (af3 (bb6 d)))
 have hx:(ad8 l).v=.ab8 [.aa3 ((ad8 l).all.map aa2.cs),.al4 (nmV (ad8 l).at5),.al4 (nmV (ad8 l).names),.al4 (nmV (ad8 l).over)]:=rfl;have d0:d.cs.head? = zl (.str d.name):=rfl
 have hk0:∀σ:Store,∃v,cj1 σ 2 .aa1 false (.al4 (nmV (ad8 l).names)) (.str d.name)=zl v/\∀τ,Cq 140 [(ad8 l).v,v,.func (.func 141) [] [.ab8 d.cs]] τ (bo1 τ (ak8 l d)):=λσ=>
  let ⟨v,h1,h2⟩:=eq1 (ad8 l).names σ d.name
  ⟨v,h1,λτ=>hsift τ v h2⟩
 clear hsift hlook;rw[hx] at hk0 ⊢;generalize (ad8 l).all.map aa2.cs=a0 at *;refine C_f fok103 (nZ rfl) ?_;simp only[ic103,go_sem,ai8,ag8,af8,d0];obtain ⟨v,hk,hsv⟩:=hk0 ⟨σ.next+11,σ.obj⟩;simp only[go_sem,hk];refine ac4 fok140 (hsv _) ?_;rintro v' s ⟨hkp,hr⟩;refine ⟨hkp.next,?_⟩;simp only[go_sem];exact ⟨hkp.low,hr.low (zm _ _)⟩
theorem kj1 (a:ab3){n:Int}(h:a.job n=true):0<=n/\n<a.r.af2.length/\(a.r.af2.map Job.cs).getD n.toNat []=(a.jb n).cs/\a.jb n∈a.r.af2:=by
 unfold ab3.job at h;simp only[zj,decide_eq_true_eq] at h;have c1:n.toNat<a.r.af2.length:=om;have e:a.jb n=a.r.af2[n.toNat]:=by simp[ab3.jb,za,c1]
 exact ⟨h.1,h.2,by rw[e];simp[za,c1],by rw[e];exact zh c1⟩
theorem dh8 (a:ab3)(j:Int)(hA:AOK a):Pq 107 [a.v,.int .i64 j] (.aa3 ((a.meant j).map Md.ae1)):=by
 refine af4 hE fok107 (nZ rfl) (ah6 (ah5 a) (.int _ _)) ?_;have h1:=eq6 a j;have hba:=ah5 a;have hcl:=hl6 a;have hlen:=hA.len;unfold ab3.meant
 cases hj:a.job j with
 | false=>
  rw[hj] at h1;unfold ab3.v ab3.cs at *;simp only[ic107,go_sem];refine aa4 fok152 (h1) ?_;simp only[go_sem]
  exact .bz3
 | true=>
  rw[hj] at h1;obtain ⟨j1,j2,j3,j4⟩:=kj1 a hj;have hds:=hA.it9 _ j4;have hP:=dg9 a.l (a.jb j).dep om hA.small hds;have hN:=ca7 a.l (a.jb j).dep om hA.small hds;have hNc:=gh5 a.l (a.jb j).dep om hA.small hds;have b1:=aw5 (ag1 a.l (a.jb j).dep);have b2:=aw5 (ak8 a.l (a.jb j).dep);have nl:(ak8 a.l (a.jb j).dep).length<=a.l.length:=ae5 _ _;have k0:(a.jb j).cs.head? = zl (.int .u8 (a.jb j).kind):=rfl;have k1:=cz7 (a.jb j);have k2:((a.jb j).cs.drop 1).length=5:=rfl;generalize a.jb j=x at *;generalize ak8 a.l x.dep=nm at *;generalize ag1 a.l x.dep=pv at *;unfold ab3.v ab3.cs at *;generalize (ad8 a.l).v=X at *;have c21:¬(2:Int)=1:=by decide
  by_cases e1:x.kind=1
  ·rw[if_pos rfl,if_pos e1];simp only[ic107,go_sem];refine aa4 fok152 (h1) ?_;simp only[go_sem,j1,j2,j3,be1,ch7,bb7,k0,k1,k2,e1];refine aa4 fok153 (hP) ?_;simp only[go_sem];exact .keep _ b1
  by_cases e2:x.kind=2
  ·rw[if_pos rfl,if_neg e1,if_pos e2];simp only[ic107,go_sem];refine aa4 fok152 (h1) ?_;simp only[go_sem,j1,j2,j3,be1,ch7,bb7,k0,k1,k2,e2,c21]
   first|refine aa4 fok103 (hN) ?_|refine ab2 (hN) ?_
   simp only[go_sem,k0,e2];exact .keep _ b2
  ·rw[if_pos rfl,if_neg e1,if_neg e2];simp only[ic107,go_sem];refine aa4 fok152 (h1) ?_;simp only[go_sem,j1,j2,j3,be1,ch7,bb7,k0,k1,k2,e1];refine ac4 fok103 (hNc _) ?_;rintro v s ⟨hk,hr⟩;refine ⟨hk.next,?_⟩;have o0:s.obj 0=zl (.cells x.cs):=(hk.obj 0 (Nat.succ_pos _)).trans (by simp only[aa5,if_true]);simp only[go_sem,o0,k0,e2];refine ac4 fok154 (jh8 (λn=>!a.inst n) om hr.w fok155.1 (ak1 (.ab8 _ (ak1 hba))) λz hz=>hcl z) ?_;rintro v s ⟨⟨h1,_⟩,hr⟩;refine ⟨h1,?_⟩;have ef:(nm.filter λx=>!(!a.inst x))=nm.filter λn=>a.inst n:=List.filter_congr λx _=>Bool.not_not _
   rw[ef] at hr;simp only[go_sem];exact hr.frz λi _=>zp i
theorem eq7 (a:ab3)(j:Int):(a.meant j).length<=a.l.length:=by
 unfold ab3.meant;split
 ·split
  ·exact ae5 _ _
  ·split
   ·exact ae5 _ _
   ·exact zy (z5 _ _) (ae5 _ _)
 ·exact Nat.zero_le _
theorem dk5 (l:List aa2)(d:Dep)(hl:l.length<2^20)(hs:∀p∈l,Pkg.small p)(hd:Dep.small d)(σ:Store):Cq 153 [(ad8 l).v,.agg d.cs] σ (bo1 σ (ag1 l d)):=by
 have hi:=bg7 l;have hlook:=hi.at5 d.name
 have hsift:∀(σ:Store) v,(v=.aa3 ((ad4 (ad8 l).at5 d.name).map Md.ae1)\/v=.aa1/\ad4 (ad8 l).at5 d.name=[])->Cq 140 [(ad8 l).v,v,.func (.func 197) [] [.ab8 d.cs]] σ (bo1 σ (ag1 l d)):=by
  intro σ v hv
  have h:=hj7 (ad8 l) (ad4 (ad8 l).at5 d.name) (by rw[hlook];have:=ae5 (λp=>decide (d.name∈cy5 p)) l;omega) 197 [.ab8 d.cs] (λn=>provides (l.getD n.toNat default) d) fok197.1 (λn hn=>by
   rw[hlook] at hn;obtain ⟨m,rfl,hm⟩:=numsOf_at hn;refine ⟨m,rfl,by rw[hi.all];exact hm,?_⟩;have e:(ad8 l).all[m]'(by rw[hi.all];exact hm)=l[m]:=by simp only[hi.all]
   rw[e,zg,getD_at l m hm];exact dw2 l[m] m d (hs _ (zh hm)) hd) σ
  rw[cv2] at h;rcases hv with rfl|⟨rfl,h0⟩
  ·exact h
  ·rw[h0] at h;refine fo3 (args':=[(ad8 l).v,.aa3 [],.func (.func 197) [] [.ab8 d.cs]]) rfl (λi hi=>?_) h;have hw:∀ {v:IV} {σ:Store},Bnd 0 v->Frz σ (λ_=>true=true) v v:=λh=>.keep _ (h.weak λ_ _=>rfl)
   match i,hi with
   | 0,_=>exact hw (ar9 (ad8 l))
   | 1,_=>exact .bz3
   | 2,_=>exact hw (.func _ _ _ (λc hc=>by cases hc) (af3 (bb6 d)))
 have hx:(ad8 l).v=.ab8 [.aa3 ((ad8 l).all.map aa2.cs),.al4 (nmV (ad8 l).at5),.al4 (nmV (ad8 l).names),.al4 (nmV (ad8 l).over)]:=rfl;have d0:d.cs.head? = zl (.str d.name):=rfl
 have hk0:∀σ:Store,∃v,cj1 σ 2 .aa1 false (.al4 (nmV (ad8 l).at5)) (.str d.name)=zl v/\∀τ,Cq 140 [(ad8 l).v,v,.func (.func 197) [] [.ab8 d.cs]] τ (bo1 τ (ag1 l d)):=λσ=>
  let ⟨v,h1,h2⟩:=eq1 (ad8 l).at5 σ d.name
  ⟨v,h1,λτ=>hsift τ v h2⟩
 clear hsift hlook;rw[hx] at hk0 ⊢;generalize (ad8 l).all.map aa2.cs=a0 at *;refine C_f fok153 (nZ rfl) ?_;simp only[ic153,go_sem,ai8,ag8,af8,d0];obtain ⟨v,hk,hsv⟩:=hk0 ⟨σ.next+11,σ.obj⟩;simp only[go_sem,hk];refine ac4 fok140 (hsv _) ?_;rintro v' s ⟨hkp,hr⟩;refine ⟨hkp.next,?_⟩;simp only[go_sem];exact ⟨hkp.low,hr.low (zm _ _)⟩
theorem in3 (l:List Int)(hl:l.length<2^30)(hr:∀x∈l,-(2^40)<=x/\x<=2^40)(σ:Store):Cq 238 [.aa3 (l.map Md.ae1)] σ (bo1 σ (ec6 l)):=by
 refine C_f fok238 (nZ rfl) ?_;simp only[ic238,go_sem];refine ab1 noT (λi fr s=>∃gv,fr=[(3,gv),(6,.aa3 (l.map Md.ae1)),(7,.int .i64 l.length),(8,.int .i64 i)]/\Kept σ s/\ai4 s σ.next gv (ec6 (l.take i))) l.length ⟨.aa1,rfl,Kept.refl σ,.inl ⟨rfl,rfl⟩⟩ ?_;rintro i fr s hle ⟨gv,rfl,hk,hg⟩;by_cases hlt:i<l.length
 ·obtain ⟨n,hn,_,hdr,hget,htk⟩:=ad2 l i hlt;have c1:(i:Int)<l.length:=om;have c2:(0:Int)<=i:=om;have w1:=ac3 (i:=i) om;have hlen:(ec6 (l.take i)).length<=i:=by unfold ec6;rw[zb,zf];omega
  have hap:=az9 (nid:=s.next) (hg.up 1) (-n) om;have e:ec6 (l.take (i+1))=ec6 (l.take i)++[-n]:=by rw[htk];unfold ec6;rw[zn];rfl
  have hn2:=hr n hn;have wn:IntKind.wrap .i64 (0-n)=-n:=by rw[wrap64 om om];omega
  simp only[go_sem,c1,c2,hget,Md.ae1,wn,hap,w1,e];have hz:=bb2 hk hg (-n) (a:=1) (nid:=s.next) (zc _) (zd _) rfl;exact ⟨hlt,_,rfl,hz.1,hz.2⟩
 ·have hi':i=l.length:=om;subst hi';have c1:¬(l.length:Int)<l.length:=om;rw[zi] at hg;simp only[go_sem,c1];exact ⟨hk,hg⟩
theorem fo7 (σ:Store)(tp mid:Nat)(xv allv clv:IV)(P:List aa2)(t:ag9)(h:ar2 σ tp mid xv allv clv P t)(hP:P.length<2^20)(ht:t.h<2^30) :
  Cq 239 [.ptr tp 0] σ (λv s=>v=.int .i64 ((P.length+(t.h+1):Nat):Int)/\bd6 σ s tp mid clv clv/\ar2 s tp mid xv allv clv P ⟨t.h+1,t.cl,t.sets⟩):=by
 refine C_f fok239 (nZ rfl) ?_;have hc:=h.cell
 have hla:∀σ,cc2 0 σ allv=zl (.int .i64 P.length):=λσ=>by
  have:=ch4 (s':=σ) h.all;rw[zb] at this;exact this
 have w2:IntKind.wrap .i64 ((P.length:Int)+((t.h+1:Nat):Int))=((P.length+(t.h+1):Nat):Int):=by rw[wrap64 om om];omega
 have w1:=ac3 (i:=t.h) om;simp only[ic239,go_sem,hc,w1,hla,w2];have ntm:¬mid=tp:=λe=>by have h2:=h.map;rw[e,hc] at h2;cases h2
 refine ⟨⟨zm _ _,λi hi h1 h2 h3=>by simp only[aa5,h1,if_false],.inl rfl⟩,?_⟩;have hrow:∀i cs,σ.obj i=zl (.row cs)->i≠tp:=λi cs h1 e=>by rw[e,hc] at h1;cases h1
 exact {
  cell:=by simp only[aa5,if_true]
  all:=by
   rcases h.all with h0|⟨id,h1,h2,h3⟩
   ·exact .inl h0
   ·exact .inr ⟨id,h1,by simp only[aa5,hrow id _ h2,if_false];exact h2,z9 h3 (zm _ _)⟩
  cls:=by
   rcases h.cls with h0|⟨id,h1,h2,h3⟩
   ·exact .inl h0
   ·exact .inr ⟨id,h1,by simp only[aa5,hrow id _ h2,if_false];exact h2,z9 h3 (zm _ _)⟩
  map:=by simp only[aa5,ntm,if_false];exact h.map
  ne:=h.ne
  lt:=⟨by have:=h.lt.1;show tp<σ.next+_;omega,by have:=h.lt.2;show mid<σ.next+_;omega⟩ }
def ef7:Str:=[48,48,48,49,48,50,48,51,48,52,48,53,48,54,48,55,48,56,48,57,49,48,49,49,49,50,49,51,49,52,49,53,49,54,49,55,49,56,49,57,50,48,50,49,50,50,50,51,50,52,50,53,50,54,50,55,50,56,50,57,51,48,51,49,51,50,51,51,51,52,51,53,51,54,51,55,51,56,51,57,52,48,52,49,52,50,52,51,52,52,52,53,52,54,52,55,52,56,52,57,53,48,53,49,53,50,53,51,53,52,53,53,53,54,53,55,53,56,53,57,54,48,54,49,54,50,54,51,54,52,54,53,54,54,54,55,54,56,54,57,55,48,55,49,55,50,55,51,55,52,55,53,55,54,55,55,55,56,55,57,56,48,56,49,56,50,56,51,56,52,56,53,56,54,56,55,56,56,56,57,57,48,57,49,57,50,57,51,57,52,57,53,57,54,57,55,57,56,57,57]
theorem hl7:∀n:Fin 100,¬n.val<10->(ef7.take (n.val*2+2)).drop (n.val*2)=fi7 (n.val:Int)/\n.val*2+2<=ef7.length:=by decide
def in4:Str:=[48,49,50,51,52,53,54,55,56,57,97,98,99,100,101,102,103,104,105,106,107,108,109,110,111,112,113,114,115,116,117,118,119,120,121,122]
theorem jh9:∀n:Fin 10,(in4.take (n.val+1)).drop n.val=fi7 (n.val:Int)/\n.val+1<=in4.length:=by decide
theorem iv7 (s:Str){l h:Nat}{r:Str}(hl:l<=h)(hr:(s.take h).drop l=r/\h<=s.length):cb8 (zl (.int .i64 (l:Int))) (zl (.int .i64 (h:Int))) (.str s)=zl (.str r):=by
 have h1:(0:Int)<=(l:Int):=om;have h2:(0:Int)<=(h:Int):=om;simp only[cb8,cw3,es7,h1,h2,if_true,zg,hl,hr.2,and_self,hr.1]
theorem in5 (n:Nat)(hn:n<100):Pq 265 [.int .i64 n] (.str (fi7 n)):=by
 refine af4 hE fok265 (nZ rfl) (ak1 (.int _ _)) ?_;simp only[ic265,go_sem];have w1:=ac3 (i:=n) om;have w2:IntKind.wrap .i64 ((n:Int)*2)=((n*2:Nat):Int):=by rw[wrap64 om om];omega
 have w3:IntKind.wrap .i64 (((n*2:Nat):Int)+2)=((n*2+2:Nat):Int):=by rw[wrap64 om om];omega
 by_cases h:n<10
 ·have c1:(n:Int)<10:=om;have e:=iv7 in4 (Nat.le_succ n) (jh9 ⟨n,h⟩);unfold in4 at e;simp only[go_sem,c1,w1,e];exact .keep _ (.str _)
 ·have c1:¬(n:Int)<10:=om;have e:=iv7 ef7 (zm _ _) (hl7 ⟨n,hn⟩ h);unfold ef7 at e;simp only[go_sem,c1,w2,w3,e];exact .keep _ (.str _)
theorem ji1 (n:Nat)(hn:n<100):Pq 236 [.int .i64 n] (.str (fi7 n)):=by
 have c1:(0:Int)<=n:=om;have c2:(n:Int)<100:=om;have h1:=in5 n hn
 have h2:Pq 260 [.int .i64 n,.int .i64 10] (.str (fi7 n)):=by
  refine af4 hE fok260 (nZ rfl) (ah6 (.int _ _) (.int _ _)) ?_;simp only[ic260,go_sem,c1,c2];refine aa4 fok265 (h1) ?_;simp only[go_sem];exact .keep _ (.str _)
 have h3:Pq 253 [.int .i64 n] (.str (fi7 n)):=by
  refine af4 hE fok253 (nZ rfl) (ak1 (.int _ _)) ?_;simp only[ic253,go_sem];refine aa4 fok260 (h2) ?_;simp only[go_sem];exact .keep _ (.str _)
 refine af4 hE fok236 (nZ rfl) (ak1 (.int _ _)) ?_;simp only[ic236,go_sem];refine aa4 fok253 (h3) ?_;simp only[go_sem];exact .keep _ (.str _)
theorem ji2 (l:List Int)(hl:l.length<2^30)(hr:∀x∈l,-(2^40)<=x/\x<=2^40)(σ:Store):Cq 100 [.aa3 (l.map Md.ae1)] σ (bo1 σ (noL l)):=by
 refine C_f fok100 (nZ rfl) ?_;simp only[ic100,go_sem];refine ab1 noT (λi fr s=>∃gv,fr=[(3,gv),(6,.aa3 (l.map Md.ae1)),(7,.int .i64 l.length),(8,.int .i64 i)]/\Kept σ s/\ai4 s σ.next gv (noL (l.take i))) l.length ⟨.aa1,rfl,Kept.refl σ,.inl ⟨rfl,rfl⟩⟩ ?_;rintro i fr s hle ⟨gv,rfl,hk,hg⟩;by_cases hlt:i<l.length
 ·obtain ⟨n,hn,_,hdr,hget,htk⟩:=ad2 l i hlt;have c1:(i:Int)<l.length:=om;have c2:(0:Int)<=i:=om;have w1:=ac3 (i:=i) om;have hlen:(noL (l.take i)).length<=i:=by unfold noL;rw[zb,zf];omega
  have hap:=az9 (nid:=s.next) (hg.up 1) (-(n+1)) om;have e:noL (l.take (i+1))=noL (l.take i)++[-(n+1)]:=by rw[htk];unfold noL;rw[zn];rfl
  have hn2:=hr n hn;have wm:IntKind.wrap .i64 (n+1)=n+1:=wrap64 om om;have wn:IntKind.wrap .i64 (0-(n+1))=-(n+1):=by rw[wrap64 om om];omega
  simp only[go_sem,c1,c2,hget,Md.ae1,wm,wn,hap,w1,e];have hz:=bb2 hk hg (-(n+1)) (a:=1) (nid:=s.next) (zc _) (zd _) rfl;exact ⟨hlt,_,rfl,hz.1,hz.2⟩
 ·have hi':i=l.length:=om;subst hi';have c1:¬(l.length:Int)<l.length:=om;rw[zi] at hg;simp only[go_sem,c1];exact ⟨hk,hg⟩
theorem kj3 (l:List Int)(hl:l.length<2^30)(hr:∀x∈l,-(2^40)<=x/\x<=2^40)(σ:Store):Cq 104 [.aa3 (l.map Md.ae1)] σ (bo1 σ (upL l)):=by
 refine C_f fok104 (nZ rfl) ?_;simp only[ic104,go_sem];refine ab1 noT (λi fr s=>∃gv,fr=[(3,gv),(7,.aa3 (l.map Md.ae1)),(8,.int .i64 l.length),(9,.int .i64 i)]/\Kept σ s/\ai4 s σ.next gv (upL (l.take i))) l.length ⟨.slice σ.next 0 0 1,rfl,⟨Nat.le_succ _,λi hi=>?_⟩,.inr ⟨σ.next,zc _,zd _,rfl,?_⟩⟩ ?_
 ·have:¬i=σ.next:=om;simp only[aa5,this,if_false]
 ·simp only[aa5,if_true];rfl
 rintro i fr s hle ⟨gv,rfl,hk,hg⟩;by_cases hlt:i<l.length
 ·obtain ⟨n,hn,_,hdr,hget,htk⟩:=ad2 l i hlt;have c1:(i:Int)<l.length:=om;have c2:(0:Int)<=i:=om;have w1:=ac3 (i:=i) om;have hlen:(upL (l.take i)).length<=i:=by unfold upL;rw[zb,zf];omega
  have hap:=az9 (nid:=s.next) (hg.up 1) (n+1) om;have e:upL (l.take (i+1))=upL (l.take i)++[n+1]:=by rw[htk];unfold upL;rw[zn];rfl
  have hn2:=hr n hn;have wm:IntKind.wrap .i64 (n+1)=n+1:=wrap64 om om;simp only[go_sem,c1,c2,hget,Md.ae1,wm,hap,w1,e];have hz:=bb2 hk hg (n+1) (a:=1) (nid:=s.next) (zc _) (zd _) rfl;exact ⟨hlt,_,rfl,hz.1,hz.2⟩
 ·have hi':i=l.length:=om;subst hi';have c1:¬(l.length:Int)<l.length:=om;rw[zi] at hg;simp only[go_sem,c1];exact ⟨hk,hg⟩
theorem gh6 (b n:Int):Pq 237 [.int .i64 n,.ab8 [.int .i64 b]] (.bool (decide (n=b))):=by
 refine af4 hE fok237 (nZ rfl) (ah6 (.int _ _) (.ab8 _ (ak1 (.int _ _)))) ?_;simp only[ic237,go_sem];exact ab6 rfl
theorem eq8 {σ:Store}{v:IV}{lo:Nat}{zs:List Int}(b:Int)(hz:zs.length<2^40)(hr:ci5 σ lo v zs) :
  Cq 209 [v,.int .i64 b] σ (λv s=>(σ.next<=s.next/\∀i,i<lo->i<σ.next->s.obj i=σ.obj i)/\ci5 s (min lo σ.next) v (bz9 zs b)):=by
 have hvl:v.leaf=true/\v.cs=[v]:=by
  rcases hr with ⟨rfl,_⟩|⟨_,_,_,_,rfl,_⟩<;>exact ⟨rfl,rfl⟩
 refine C_f fok209 (nZ rfl) ?_;simp only[ic209,go_sem,hvl.1,hvl.2];refine ac4 fok154 (jh8 (λn=>decide (n=b)) hz hr fok237.1 (ak1 (.ab8 _ (ak1 (.int _ _)))) λz _=>gh6 b z) ?_;rintro v s ⟨⟨h1,h2⟩,hr⟩;refine ⟨h1,?_⟩;simp only[go_sem];exact ⟨⟨h1,h2⟩,hr⟩
theorem cz8 (l:List Int)(hl:l.length<=100)(hr:∀x∈l,-(2^40)<=x/\x<=2^40)(σ:Store)(tp mid:Nat)(xv allv clv:IV)(P:List aa2)(t:ag9)(h:ar2 σ tp mid xv allv clv P t)(hP:P.length<2^20)(ht:t.h<2^20)(hf:t.few) :
  Cq 212 [.ptr tp 0,.aa3 (l.map Md.ae1)] σ (ec9 σ tp mid xv allv clv P (ak2 P.length l t)):=by
 refine id3 fok212 (nZ rfl) ?_;unfold ag9.few at hf;simp only[ic212,go_sem];refine ab9 (ad6 ?_);simp only[go_sem];refine ab9 (ad6 ?_);simp only[go_sem];refine ac4 fok239 (fo7 _ tp mid xv allv clv P t h hP om) ?_;rintro v s ⟨rfl,hT,hM⟩;refine ⟨hT.next,?_⟩;obtain ⟨H,hH⟩:∃H:Nat,H=P.length+(t.h+1):=⟨_,rfl⟩;rw[<- hH];simp only[go_sem];have w1:IntKind.wrap .i64 (0-(H:Int))=-(H:Int):=by rw[wrap64 om om];omega
 refine ab9 (ad6 ?_);simp only[go_sem,w1];refine ab9 (ab9 (ad6 ?_));simp only[go_sem];have h0:=tab_row (v:=.aa1) (zs:=[]) (lo:=σ.next) (k:=1) (nid:=s.next) (cs:=[.int .i64 (-(H:Int))]) hM (.inl ⟨rfl,rfl⟩) (λ_ _ _ _ e=>by cases e) (λ_ _ _ _ e=>by cases e) (-(H:Int)) (zc _) (zd _) hT.next rfl
 refine ai3 (an3 (Q:=λe f s=>e=.exit 0/\∃clv' gv,bd6 σ s tp mid clv clv'/\ar2 s tp mid xv allv clv' P ⟨t.h+1,t.cl++l.map (λx=>[-x,(H:Int)]),t.sets⟩/\ai4 s σ.next gv (-(H:Int)::l)/\(∀i k m,clv'=.slice i 0 k 1->gv≠.slice i 0 m 1)/\(∀i k m,allv=.slice i 0 k 15->gv≠.slice i 0 m 1) /\
   ∃rst:Frm,f=(0,.ptr tp 0)::(5,.int .i64 (H:Int))::(6,gv)::rst)
  (ab1 noT (λi fr s=>∃clv' gv,fr=[(0,.ptr tp 0),(5,.int .i64 (H:Int)),(6,gv),(14,.aa3 (l.map Md.ae1)),(15,.int .i64 l.length),(16,.int .i64 (i:Int))]/\bd6 σ s tp mid clv clv'/\ar2 s tp mid xv allv clv' P ⟨t.h+1,t.cl++(l.take i).map (λx=>[-x,(H:Int)]),t.sets⟩/\ai4 s σ.next gv (-(H:Int)::l.take i) /\
   (∀i k m,clv'=.slice i 0 k 1->gv≠.slice i 0 m 1)/\(∀i k m,allv=.slice i 0 k 15->gv≠.slice i 0 m 1)) l.length ⟨clv,_,rfl,h0.2.1 σ clv hT (zc _),by rw[List.take_zero,z1,zo];exact h0.1,h0.2.2.1,h0.2.2.2.1,h0.2.2.2.2⟩ ?_) ?_)
 ·clear h0 hM hT;rintro i fr u hle ⟨clv',gv,rfl,hT,hM,hg,hne,hna⟩;by_cases hlt:i<l.length
  ·obtain ⟨n,hn,_,hdr,hget,htk⟩:=ad2 l i hlt;have c1:(i:Int)<l.length:=om;have c2:(0:Int)<=i:=om;have wi:=ac3 (i:=i) om;have hn2:=hr n hn;have wn:IntKind.wrap .i64 (0-n)=-n:=by rw[wrap64 om om];omega
   obtain ⟨s1,e1,e2,e3,hM1,hT1⟩:=tab_push (nid:=u.next) (k:=1) hM [-n,(H:Int)] (by simp only[ze,zb,zf];omega) (zc _) (zd _);have hcl:clE [-n,(H:Int)]=[.aa3 [[.int .i64 (-n)],[.int .i64 (H:Int)]]]:=rfl;rw[hcl] at e1;have hc:=hM.cell;have hg1:=hT1.kl5 hM hg hne;have hL:(t.cl++(l.take i).map (λx=>[-x,(H:Int)])).length<2147483648:=by simp only[ze,zb,zf];omega
   generalize hcs:(aj2.cells [xv,allv,IV.int IntKind.i64 ↑(t.h+1),IV.slice u.next 0 ((t.cl++(l.take i).map (λx=>[-x,(H:Int)])).length+1) 1,IV.map mid])=CS at *;have hap:=az9 (nid:=s1.next) (hg1.up 1) n (by simp only[zv,zf];omega)
   obtain ⟨q1,q2,q3,q4,q5⟩:=tab_row (k:=1) (nid:=s1.next) (cs:=bh4 (-(H:Int))::(l.take i++[n]).map bh4) hM1 hg1 (λi' k' l' e e2=>by
    cases e;rcases hg with ⟨h0,_⟩|⟨j,_,hj,h0,_⟩
    ·rw[h0] at e2;cases e2
    ·rw[h0] at e2;cases e2;omega) hna n (zc _) (zd _) (by show σ.next<=s1.next;have:=hT.next;omega) (by simp)
   have hcl2:t.cl++(l.take (i+1)).map (λx=>[-x,(H:Int)])=t.cl++(l.take i).map (λx=>[-x,(H:Int)])++[[-n,(H:Int)]]:=by rw[htk,zn,<- z2];rfl
   simp only[aa8] at hap q1 q2 q3;simp only[go_sem,c1,c2,hget,Md.ae1,hc,wn,e1,e3,hcs,hap,wi];refine ⟨hlt,_,_,rfl,q2 σ clv (hT.trans hT1) (zc _),?_,?_,q4,q5⟩
   ·rw[hcl2];exact q1
   ·rw[htk];exact q3
  ·have hi':i=l.length:=om;subst hi';have c1:¬(l.length:Int)<l.length:=om;rw[zi] at hM hg;simp only[go_sem,c1];exact ⟨clv',gv,hT,hM,hg,hne,hna,_,rfl⟩
 clear h0 hM hT;rintro e f u ⟨rfl,clv',gv,hT,hM,hg,hne,hna,rst,rfl⟩;simp only[go_sem];refine ab9 (jr1 (S:=dj6 gv) (fr':=(0,.ptr tp 0)::(5,.int .i64 (H:Int))::(6,.aa3 ((-(H:Int)::l).map Md.ae1))::rst) (λk=>?_) (ad6 ?_))
 ·by_cases hk:k=6
  ·subst hk;exact .inr (ey3 hg.w)
  ·left;have e:(k==6)=false:=by simpa using hk
   simp only[Frm.get,List.lookup,e]
   try rfl
 have hM':=hM.off hg.w hne hna
 have hT':bd6 σ (u.kills (dj6 gv)) tp mid clv clv':=hT.kill (bd6.refl _ _ _ _) λi hi=>by
  cases ho:dj6 gv i with
  | true=>rfl
  | false=>have:=(em7 hg.w ho).1;omega
 generalize u.kills (dj6 gv)=K at *;obtain ⟨s1,e1,e2,e3,hM1,hT1⟩:=tab_push (nid:=K.next) (k:=1) hM' (-(H:Int)::l) (by simp only[ze,zb];omega) (zc _) (zd _);have hcl:clE (-(H:Int)::l)=[.aa3 ((-(H:Int)::l).map Md.ae1)]:=rfl;rw[hcl] at e1;have hc:=hM'.cell;generalize (-(H:Int)::l).map Md.ae1=rowV at *;simp only[go_sem,hc,e1,e3];refine ab9 (ad6 ?_);simp only[go_sem];refine ad6 ?_;simp only[go_sem];have he:ak2 P.length l t=((H:Int),⟨t.h+1,t.cl++l.map (λx=>[-x,(H:Int)])++[-(H:Int)::l],t.sets⟩):=by rw[hH];rfl
 rw[he];exact ⟨rfl,_,hT'.trans hT1,hM1⟩
theorem iv8 {s:Store}{lo:Nat}{v:IV}{zs:List Int}(h:ci5 s lo v zs){i m:Nat}(e:v=.slice i 0 m 1):lo<=i:=by
 rcases h with ⟨rfl,_⟩|⟨id,cs,h1,h2,rfl,h4⟩
 ·cases e
 ·cases e;exact h1
theorem tab_late {σ s:Store}{tp mid:Nat}{xv allv clv v:IV}{P:List aa2}{t:ag9}{zs:List Int}(h:ar2 σ tp mid xv allv clv P t)(hr:ci5 s σ.next v zs):(∀i k l,clv=.slice i 0 k 1->v≠.slice i 0 l 1)/\(∀i k l,allv=.slice i 0 k 15->v≠.slice i 0 l 1):=by
 refine ⟨λi k l e e2=>?_,λi k l e e2=>?_⟩
 ·have:=iv8 hr e2;rcases h.cls with ⟨h0,_⟩|⟨j,hj,_,hl⟩
  ·rw[h0] at e;cases e
  ·rw[hj] at e;cases e;omega
 ·have:=iv8 hr e2;rcases h.all with ⟨h0,_⟩|⟨j,hj,_,hl⟩
  ·rw[h0] at e;cases e
  ·rw[hj] at e;cases e;omega
theorem hl8 {σ s:Store}{tp mid lo g:Nat}{xv allv clv clv0 v:IV}{P:List aa2}{t:ag9}{r:Int×ag9}{zs:List Int}(hM:ar2 s tp mid xv allv clv P t)(hT:bd6 σ s tp mid clv0 clv)(hr:ci5 s lo v zs)(hlo:σ.next<=lo)
  (hne:(∀i k l,clv=.slice i 0 k 1->v≠.slice i 0 l 1)/\(∀i k l,allv=.slice i 0 k 15->v≠.slice i 0 l 1))
  (h:∀K,ar2 K tp mid xv allv clv P t->Cq g [.ptr tp 0,.aa3 (zs.map Md.ae1)] K (ec9 K tp mid xv allv clv P r)):Cq g [.ptr tp 0,v] s (λv' u=>s.next<=u.next/\ec9 σ tp mid xv allv clv0 P r v' u):=by
 have htp:dj6 v tp=true:=by
  cases ho:dj6 v tp with
  | true=>rfl
  | false=>
   obtain ⟨_,_,_,cs,h3⟩:=em7 hr ho;exact absurd rfl (hM.ig3 _ _ h3).1
 refine C.mono (el3 (S:=dj6 v) (args':=[.ptr tp 0,.aa3 (zs.map Md.ae1)]) rfl (λi hi=>?_) (h _ (hM.off hr hne.1 hne.2))) ?_
 ·match i,hi with
  | 0,_=>exact .keep _ (.ptr _ _ htp)
  | 1,_=>exact ey3 hr
 ·rintro v' u ⟨rfl,clv',g1,g2⟩;refine ⟨g1.next,rfl,clv',hT.kill g1 λi hi=>?_,g2⟩
  cases ho:dj6 v i with
  | true=>rfl
  | false=>have:=(em7 hr ho).1;omega
theorem hl9 (l:List Int)(hl:l.length<=100)(hr:∀x∈l,-(2^40)<=x/\x<=2^40)(σ:Store)(tp mid:Nat)(xv allv clv:IV)(P:List aa2)(t:ag9)(h:ar2 σ tp mid xv allv clv P t)(hP:P.length<2^20)(ht:t.h<2^20)(hf:t.few) :
  Cq 210 [.ptr tp 0,.aa3 (l.map Md.ae1)] σ (ec9 σ tp mid xv allv clv P (cf5 P.length l t)):=by
 refine C_f fok210 (nZ rfl) ?_;simp only[ic210,go_sem];refine ac4 fok238 (in3 l om hr _) ?_;rintro v s ⟨hk,hv⟩;refine ⟨hk.next,?_⟩;simp only[go_sem];have hM:=h.mono hk.next hk.obj
 refine ac4 fok212 (hl8 (σ:=σ) hM ⟨hk.next,λi hi _ _ _=>hk.obj i hi,.inl rfl⟩ hv.w (zc _) (tab_late h hv.w) λK hK=>cz8 (ec6 l) (by unfold ec6;rw[zb];exact hl) (λx hx=>by
  obtain ⟨y,hy,rfl⟩:=zr.1 hx;have:=hr y hy;exact ⟨om,om⟩) K tp mid xv allv clv P t hK hP ht hf) ?_
 rintro v' u ⟨h1,rfl,clv',hT2,hM2⟩;refine ⟨h1,?_⟩
 have w1:IntKind.wrap .i64 (0-(ak2 P.length (ec6 l) t).1)=-(ak2 P.length (ec6 l) t).1:=by
  have e:(ak2 P.length (ec6 l) t).1=((P.length+(t.h+1):Nat):Int):=rfl;rw[e,wrap64 om om];omega
 simp only[go_sem,w1];exact ⟨rfl,clv',hT2,hM2⟩
theorem fo8 (x y w:Int)(hx:-(2^40)<=x/\x<=2^40)(hy:-(2^40)<=y/\y<=2^40)(hw:-(2^40)<=w/\w<=2^40)(σ:Store)(tp mid:Nat)(xv allv clv:IV)(P:List aa2)(t:ag9)(h:ar2 σ tp mid xv allv clv P t)(hP:P.length<2^20)(ht:t.h<2^20)(hf:t.few) :
  Cq 213 [.ptr tp 0,.int .i64 x,.int .i64 y,.int .i64 w] σ (ec9 σ tp mid xv allv clv P (bq7 P.length x y w t)):=by
 refine C_f fok213 (nZ rfl) ?_;unfold ag9.few at hf;simp only[ic213,go_sem];refine ac4 fok239 (fo7 _ tp mid xv allv clv P t h hP om) ?_;rintro v s ⟨rfl,hT,hM⟩;refine ⟨hT.next,?_⟩;obtain ⟨H,hH⟩:∃H:Nat,H=P.length+(t.h+1):=⟨_,rfl⟩;rw[<- hH];have wh:IntKind.wrap .i64 (0-(H:Int))=-(H:Int):=by rw[wrap64 om om];omega
 have wx:IntKind.wrap .i64 (0-x)=-x:=by rw[wrap64 om om];omega
 have wy:IntKind.wrap .i64 (0-y)=-y:=by rw[wrap64 om om];omega
 have ww:IntKind.wrap .i64 (0-w)=-w:=by rw[wrap64 om om];omega
 simp only[go_sem,wh,wx,wy,ww];obtain ⟨Q,hQ⟩:∃Q:List (List Int),Q=[[-w,-x,(H:Int)],[-w,x,-(H:Int)],[w,-y,(H:Int)],[w,y,-(H:Int)]]:=⟨_,rfl⟩;refine ab1 noT (λi fr s=>∃clv',fr=[(0,.ptr tp 0),(9,.int .i64 (H:Int)),(36,.aa3 (Q.map clE)),(37,.int .i64 4),(38,.int .i64 (i:Int))]/\bd6 σ s tp mid clv clv'/\ar2 s tp mid xv allv clv' P ⟨t.h+1,t.cl++Q.take i,t.sets⟩) 4 ⟨clv,by rw[hQ];rfl,hT,by rw[List.take_zero,zo];exact hM⟩ ?_;clear hM hT;rintro i fr u hle ⟨clv',rfl,hT,hM⟩;have hQl:Q.length=4:=by rw[hQ];rfl
 by_cases hlt:i<4
 ·obtain ⟨q,hq,_,hdr,hget,htk⟩:=ad2 Q i om;have c1:(i:Int)<4:=om;have c0:(i:Int)<(Q.length:Nat):=om;have c2:(0:Int)<=i:=om;have wi:=ac3 (i:=i) om;obtain ⟨s1,e1,e2,e3,hM1,hT1⟩:=tab_push (nid:=u.next) (k:=1) hM q (by simp only[ze,zf];omega) (zc _) (zd _);have hcl:clE q=[.aa3 (q.map Md.ae1)]:=rfl;rw[hcl] at e1;have hc:=hM.cell;generalize q.map Md.ae1=qv at *;simp only[go_sem,c0,c1,c2,hget,hcl,hc,e1,e3,wi];refine ⟨hlt,_,hT.trans hT1,?_⟩;rw[htk,<- z2];exact hM1
 ·have hi':i=4:=om;subst hi';rw[List.take_of_length_le om] at hM;simp only[go_sem];rw[hH,hQ] at *;exact ⟨rfl,_,hT,hM⟩
theorem cz9 (n:Int):(fi7 n).length<=2:=by unfold fi7;split<;>simp
theorem in6 (l:List Int):(dj5 l).length<=3*l.length:=by
 induction l with
 | nil=>exact zc _
 | cons n l ih=>
  have e:dj5 (n::l)=(fi7 n++[32])++dj5 l:=rfl;have:=cz9 n;rw[e,ze,ze,zt,zv];omega
theorem hm3 (l:List Int)(n:Int):dj5 (l++[n])=dj5 l++(fi7 n++[32]):=by unfold dj5;rw[List.flatMap_append];simp
theorem jx1 (l:List Int)(hl:l.length<=100)(hr:∀x∈l,0<=x/\x<100)(σ:Store)(tp mid:Nat)(xv allv clv:IV)(P:List aa2)(t:ag9)(h:ar2 σ tp mid xv allv clv P t)(hP:P.length<2^20)(ht:t.h<2^20)(hf:t.few) :
  Cq 208 [.ptr tp 0,.aa3 (l.map Md.ae1)] σ (ec9 σ tp mid xv allv clv P (fi8 P.length l t)):=by
 refine C_f fok208 (nZ rfl) ?_;unfold fi8;by_cases h1:l.length=1
 ·obtain ⟨n,rfl⟩:=List.length_eq_one_iff.1 h1;have hn:=hr n List.mem_cons_self;have wn:IntKind.wrap .i64 (n+1)=n+1:=wrap64 om om;rw[if_pos h1];simp only[ic208,go_sem,List.map_cons,z1,zv,List.length_nil,Md.ae1,wn];exact ⟨rfl,clv,bd6.refl _ _ _ _,h⟩
 have c0:¬(l.length:Int)=1:=om;rw[if_neg h1];simp only[ic208,go_sem,c0];refine ab1 noT (λi fr s=>fr=[(0,.ptr tp 0),(1,.aa3 (l.map Md.ae1)),(5,.str (dj5 (l.take i))),(21,.aa3 (l.map Md.ae1)),(22,.int .i64 l.length),(23,.int .i64 (i:Int))]/\bd6 σ s tp mid clv clv/\ar2 s tp mid xv allv clv P t) l.length ⟨rfl,bd6.refl _ _ _ _,h⟩ ?_;rintro i fr s hle ⟨rfl,hT,hM⟩;by_cases hlt:i<l.length
 ·obtain ⟨n,hn,_,hdr,hget,htk⟩:=ad2 l i hlt;have c1:(i:Int)<l.length:=om;have c2:(0:Int)<=i:=om;have wi:=ac3 (i:=i) om;have hn2:=hr n hn;obtain ⟨m,rfl⟩:=Int.eq_ofNat_of_zero_le hn2.1;have hI:=ji1 m om;have l1:(fi7 (m:Int)).length+[(32:UInt8)].length<2^62:=by have:=cz9 (m:Int);simp only[zt];omega
  have l2:(dj5 (l.take i)).length+(fi7 (m:Int)++[(32:UInt8)]).length<2^62:=by
   have:=cz9 (m:Int);have:=in6 (l.take i);rw[zf] at this;simp only[ze,zt];omega
  have hk:dj5 (l.take (i+1))=dj5 (l.take i)++(fi7 (m:Int)++[32]):=by rw[htk,hm3]
  simp only[go_sem,c1,c2,hget,Md.ae1];refine aa4 fok236 (hI) ?_;simp only[go_sem,dc8,l1,l2,wi];exact ⟨by have:=cz9 (m:Int);omega,hlt,by rw[hk],hT,hM⟩
 have hi':i=l.length:=om;subst hi';have c1:¬(l.length:Int)<l.length:=om;rw[zi];have hc:=hM.cell;have hlk:=λn=>tab_look (s:=⟨s.next+n,s.obj⟩) hM.map (dj5 l)
 have hlk0:=tab_look (s:=s) hM.map (dj5 l)
 cases hf2:by1 t.sets (dj5 l) with
 | some x=>
  simp only[hf2] at hlk0 hlk;simp only[go_sem,c1,hc,hlk0,hlk,z8,Option.getD_some,Option.isSome_some]
  exact ⟨rfl,clv,hT,hM⟩
 | none=>
  simp only[hf2] at hlk0 hlk;simp only[go_sem,c1,hc,hlk0,hlk,Option.map_none,Option.getD_none,Option.isSome_none];refine ab1 noT (λi fr u=>∃gv,fr=[(0,.ptr tp 0),(5,.str (dj5 l)),(10,gv),(44,.aa3 (l.map Md.ae1)),(45,.int .i64 l.length),(46,.int .i64 (i:Int))]/\Kept s u/\ai4 u s.next gv (upL (l.take i))) l.length ⟨.aa1,rfl,Kept.refl s,.inl ⟨rfl,rfl⟩⟩ ?_;rintro i fr u hle ⟨gv,rfl,hk,hg⟩;by_cases hlt:i<l.length
  ·obtain ⟨n,hn,_,hdr,hget,htk⟩:=ad2 l i hlt;have d1:(i:Int)<l.length:=om;have d2:(0:Int)<=i:=om;have w1:=ac3 (i:=i) om;have hlen:(upL (l.take i)).length<=i:=by unfold upL;rw[zb,zf];omega
   have hap:=az9 (nid:=u.next) (hg.up 1) (n+1) om;have e:upL (l.take (i+1))=upL (l.take i)++[n+1]:=by rw[htk];unfold upL;rw[zn];rfl
   have hn2:=hr n hn;have wm:IntKind.wrap .i64 (n+1)=n+1:=wrap64 om om;simp only[go_sem,d1,d2,hget,Md.ae1,wm,hap,w1,e];have hz:=bb2 hk hg (n+1) (a:=1) (nid:=u.next) (zc _) (zd _) rfl;exact ⟨hlt,_,rfl,hz.1,hz.2⟩
  ·have hi':i=l.length:=om;subst hi';have d1:¬(l.length:Int)<l.length:=om;rw[zi] at hg;simp only[go_sem,d1];have hMu:=hM.mono hk.next hk.obj
   refine ac4 fok212 (hl8 (σ:=σ) hMu (hT.trans ⟨hk.next,λi hi _ _ _=>hk.obj i hi,.inl rfl⟩) hg.w hT.next (tab_late hM hg.w) λK hK=>cz8 (upL l) (by unfold upL;rw[zb];exact hl) (λx hx=>by
    obtain ⟨y,hy,rfl⟩:=zr.1 hx;have:=hr y hy;exact ⟨om,om⟩) K tp mid xv allv clv P t hK hP ht hf) ?_
   rintro v' u2 ⟨g1,rfl,clv',hT2,hM2⟩;refine ⟨g1,?_⟩;have hc2:=hM2.cell;have hst:(ak2 P.length (upL l) t).2.sets=t.sets:=rfl;have hup:=λn=>tab_upd (s:=⟨u2.next+n,u2.obj⟩) (mid:=mid) hM2.map (x:=dj5 l) (ak2 P.length (upL l) t).1 hf2
   have hup0:=tab_upd (s:=u2) (mid:=mid) hM2.map (x:=dj5 l) (ak2 P.length (upL l) t).1 hf2;obtain ⟨hM3,hT3⟩:=tab_set hM2 (dj5 l) (ak2 P.length (upL l) t).1;simp only[go_sem,hc2,hup0,hup];exact ⟨rfl,clv',hT2.trans hT3,hM3⟩
theorem is9 {pt:PT}{ct:CT}{P:Program}{E:Nat->IV}{e id:Nat}{z:List IV}{x:IX}{fr:Frm}{σ:Store}{K:IV->Store->Prop}:opT pt ct P E (.dj2 e z x) id fr σ K=bs8 (db2 (x.ev E fr)) λn=>K (.slice id 0 n e) (σ.put id (.row (rep z n))):=rfl
theorem gv6 {K:Nat->Prop}(n:Nat)(h:n<=2147483648):bs8 (db2 (.int .i64 (n:Int))) K=K n:=by
 have h1:(0:Int)<=n/\(n:Int)<=2147483648:=om;show bs8 (if 0<=(n:Int)/\(n:Int)<=2147483648 then zl ((n:Int).toNat) else none) K=K n;rw[if_pos h1];rfl
abbrev be3 (st:List Bool):IV:=.aa3 (st.map ec3)
def br6 (l:List aa2):IV:=.ab8 [(ad8 l).v,.int .i64 l.length]
theorem hm4 (st:List Bool):Bnd 0 (be3 st):=.aa3 _ λe he c hc=>by
 obtain ⟨b,_,rfl⟩:=zr.1 he
 cases hc with
 | head=>exact .bool _
 | tail _ h=>cases h
theorem dh9 (l:List aa2):Bnd 0 (br6 l):=.ab8 _ (ah6 (ar9 _) (.int _ _))
theorem eq9 {d:Dep}(h:am2 d=true):Dep.small d:=by
 obtain ⟨h1,h2,h3,h4⟩:=eb7 h;exact ⟨h1,h2,by have:=h3.1;omega,by have:=h3.2;omega⟩
theorem er1 {st:List Bool}{n:Nat}(h:n<st.length):(st.map ec3).getD n []=[.bool (st.getD n false)]:=by simp[za,h,ec3]
theorem jx2 (d:Dep)(xs:List aa6)(k:Int):((aa6.mk k d xs).cs.drop 1).take 5=d.cs:=by rw[aa6.ax5];rfl
theorem iv9 (d:Dep)(xs:List aa6)(k:Int):((aa6.mk k d xs).cs.drop 1).length=6:=by rw[aa6.ax5];rfl
theorem er2 (d:Dep)(xs:List aa6)(k:Int):((aa6.mk k d xs).cs.drop 6).head? = zl (ap8 xs):=by rw[aa6.ax5];rfl
theorem br7 (d:Dep)(xs:List aa6)(k:Int):(aa6.mk k d xs).cs.head? = zl (.int .u8 k):=by rw[aa6.ax5];rfl
theorem jx3 {xs:List aa6}{n:Nat}(h:n<xs.length):(xs.map aa6.cs).getD n []=(xs[n]).cs:=by simp[za,h]
abbrev IsA (p:aa2)(r:aa6):Prop:=Pq 214 [.agg p.cs,.agg r.cs] (.bool (r.alone p))
theorem er3 (p:aa2)(x:aa6)(hx:IsA p x):Pq 240 [.agg x.cs,.ab8 p.cs] (.bool (x.alone p)):=by
 refine af4 hE fok240 (nZ rfl) (ah6 (bd8 _) (.ab8 _ (au6 p))) ?_;simp only[ic240,go_sem,af7,ae8,ac7,ae6,ad9,ac5];refine aa4 fok214 (hx) ?_;simp only[go_sem];exact ab6 rfl
theorem er4 (p:aa2)(x:aa6)(hx:IsA p x):Pq 241 [.agg x.cs,.ab8 p.cs] (.bool !(x.alone p)):=by
 refine af4 hE fok241 (nZ rfl) (ah6 (bd8 _) (.ab8 _ (au6 p))) ?_;simp only[ic241,go_sem,af7,ae8,ac7,ae6,ad9,ac5];refine aa4 fok214 (hx) ?_;simp only[go_sem];exact ab6 rfl
theorem in7 (p:aa2)(hp:Pkg.small p)(wh:Int)(r:aa6):r.an5 wh true=true->r.fit->IsA p r:=by
 induction r using aa6.ind with
 | h k d xs ih=>
  intro hf hfit;simp only[aa6.an5,zj,aa6.bc2,List.all_eq_true,Bool.true_or] at hf;obtain ⟨h1,h2⟩:=hf;obtain ⟨f1,f2,f3,f4,f5⟩:=aa6.ce3.1 hfit;have hx:∀x∈xs,IsA p x:=λx hx=>ih x hx (h2 x hx) (f5 x hx)
  have cY:=ct5 xs 240 [] [.ab8 p.cs] (λx=>x.alone p) om fok240.1 λx hm=>er3 p x (hx x hm)
  have cN:=ct5 xs 241 [] [.ab8 p.cs] (λx=>!(x.alone p)) om fok241.1 λx hm=>er4 p x (hx x hm)
  have h7:=ac5 (.mk k d xs)
  have eA:(aa6.mk k d xs).alone p=fi5 p k d (xs.map λr=>r.alone p):=by
   show fi5 _ _ _ _=_;rw[aa6.gd4]
  unfold IsA;rw[eA];refine af4 hE fok214 (nZ rfl) (ah6 (aj8 p) (bd8 _)) ?_;unfold fi5;have n31:¬(3:Int)=1:=by decide
  have n71:¬(7:Int)=1:=by decide
  have n73:¬(7:Int)=3:=by decide
  unfold bz8 at h1;by_cases e1:k=1
  ·rw[if_pos e1] at h1;simp only[zj,decide_eq_true_eq] at h1;have hP:=dg7 p d hp (eq9 h1.2);rw[if_pos e1];simp only[ic214,go_sem,af7,ae8,ac7,ae6,ad9,ac5,br7,jx2,iv9,e1];refine aa4 fok198 (hP) ?_;simp only[go_sem];exact ab6 rfl
  rw[if_neg e1] at h1 ⊢;by_cases e3:k=3
  ·rw[if_pos e3];simp only[ic214,go_sem,af7,ae8,ac7,ae6,ad9,ac5,br7,er2,e3,n31];refine aa4 fok167 (cY) ?_;simp only[go_sem];exact ab6 (by rw[List.any_map];rfl)
  rw[if_neg e3];by_cases e7:k=7
  ·have hn:xs.length=2:=by
    simp[e7] at h1;exact h1.1
   have n0:0<xs.length:=om;have n1:1<xs.length:=om;have q0:=er3 p _ (hx _ (zh n0));have q1:=er4 p _ (hx _ (zh n1));have g0:=jx3 n0;have g1:=jx3 n1;have c0:(0:Int)<xs.length:=om;have c1:(1:Int)<xs.length:=om;have m0:(xs.map λr=>r.alone p).getD 0 false=xs[0].alone p:=by simp[za,n0]
   have m1:(xs.map λr=>r.alone p).getD 1 false=xs[1].alone p:=by simp[za,n1]
   rw[if_pos e7,m0,m1];simp only[ic214,go_sem,af7,ae8,ac7,ae6,ad9,ac5,br7,er2,e7,n71,n73,c0,c1,g0,g1];refine dg3 fok240.1 q0 ?_
   cases xs[0].alone p with
   | false=>simp only[go_sem];exact ab6 rfl
   | true=>
    simp only[go_sem,ae6,ad9,ac5,er2,c0,c1,g0,g1];refine dg3 fok241.1 q1 ?_;simp only[go_sem];exact ab6 rfl
  rw[if_neg e7];simp only[ic214,go_sem,af7,ae8,ac7,ae6,ad9,ac5,br7,er2,e1,e3,e7];refine aa4 fok167 (cN) ?_;simp only[go_sem];refine ab6 ?_;rw[List.all_map,List.not_any_eq_all_not];congr 2;funext x;simp
theorem kx8 (l:List aa2){i:Nat}(h:i<l.length):((l.map aa2.cs).flatten.drop (i*15)).take 15=(l.getD i default).cs/\15<=((l.map aa2.cs).flatten.drop (i*15)).length:=by
 have hl:∀e∈l.map aa2.cs,e.length=15:=λe he=>(aw6 _ e he).1
 have h1:=cd2 hl i (by rw[zb];exact h);have h2:=bl6 hl;refine ⟨by rw[h1];simp[za,h],?_⟩;rw[List.length_drop,h2,zb];omega
theorem ar7 {σ s:Store}(hk:Kept σ s)(tp mid:Nat)(clv:IV):bd6 σ s tp mid clv clv:=⟨hk.next,λi hi _ _ _=>hk.obj i hi,.inl rfl⟩
variable (l:List aa2) (hl:l.length<=100) (hs:∀p∈l,Pkg.small p) (b:Int)
include hl
theorem di1 {q:aa2->Bool}:(bz9 (numsOf q l) b).length<=100/\∀x∈bz9 (numsOf q l) b,0<=x/\x<100:=by
 have h1:=cs3 (numsOf q l) b;have h2:=ae5 q l;exact ⟨om,λx hx=>by have:=fj3 x hx;omega⟩
include hs
theorem jx4 (d:Dep)(hd:am2 d=true)(σ:Store)(tp mid:Nat)(allv clv:IV)(t:ag9)(h:ar2 σ tp mid (ad8 l).v allv clv l t)(ht:t.h<2^20)(hf:t.few) :
  Cq 177 [.ptr tp 0,.agg (aa6.mk 1 d []).cs,.int .i64 b] σ (ec9 σ tp mid (ad8 l).v allv clv l (fi8 l.length (bz9 (ag1 l d) b) t)):=by
 refine id3 fok177 (nZ rfl) ?_;have hc:=h.cell;have xlf:(ad8 l).v.leaf=true:=rfl;have xcs:(ad8 l).v.cs=[(ad8 l).v]:=rfl;have hP:=λσ=>dk5 l d om hs (eq9 hd) σ
 have hln:=ae5 (λp=>provides p d) l;simp only[ic177,go_sem,ac5];refine ab9 (ad6 ?_);simp only[go_sem,ac5];refine ab9 (hz6 ?_);generalize (ad8 l).v=X at *;simp only[go_sem,hc,xlf,xcs,ae6,jx2,iv9];refine ac4 fok153 (hP _) ?_;rintro v s ⟨hk,hr⟩;refine ⟨hk.next,?_⟩;simp only[go_sem];refine ac4 fok209 (eq8 b (by unfold ag1;omega) hr.w) ?_;rintro v2 s2 ⟨⟨k1,k2⟩,hr2⟩;refine ⟨k1,?_⟩;simp only[go_sem];have hkn:σ.next<=s.next:=hk.low.next;have hK:Kept σ s2:=⟨zy hkn k1,λi hi=>by rw[k2 i (by show i<σ.next+_;omega) om,hk.low.obj i hi]⟩;have hr3:ci5 s2 σ.next v2 (bz9 (ag1 l d) b):=hr2.low (by show σ.next<=min (σ.next+_) s.next;omega);refine ac4 fok208 (hl8 (σ:=σ) (h.mono hK.next hK.obj) (ar7 hK _ _ _) hr3 (zc _) (tab_late h hr3) λK hK2=>jx1 _ (di1 l hl b).1 (di1 l hl b).2 K tp mid X allv clv l t hK2 om ht hf) ?_;rintro v' u ⟨h1,rfl,clv',hT2,hM2⟩;refine ⟨h1,?_⟩;simp only[go_sem];refine ad6 ?_;simp only[go_sem];exact ⟨rfl,clv',hT2,hM2⟩
theorem hm5 (r:aa6)(hr:r.an5 1 true=true)(hfit:r.fit)(σ:Store)(tp mid:Nat)(xv allv clv:IV)(t:ag9)(h:ar2 σ tp mid xv allv clv l t)(ht:t.h<2^20)(hf:t.few) :
  Cq 182 [.ptr tp 0,.agg r.cs,.int .i64 b] σ (ec9 σ tp mid xv allv clv l (fi8 l.length (bz9 (numsOf (λp=>r.alone p) l) b) t)):=by
 refine C_f fok182 (nZ rfl) ?_;have hc:=h.cell
 have hla:∀s,cc2 0 s allv=zl (.int .i64 l.length):=λs=>by
  have:=ch4 (s':=s) h.all;rw[zb] at this;exact this
 simp only[ic182,go_sem,ac5,ae6,hc,hla];have hqn:numsOf (λp=>r.alone p) l=ak9 (λn=>r.alone (l.getD n default)) l.length:=rfl;rw[hqn];generalize hqq:(λn:Nat=>r.alone (l.getD n default))=qq;have hqv:∀n,qq n=r.alone (l.getD n default):=λn=>by rw[<- hqq]
 refine ab1 noT (λi fr s=>∃gv,fr=[(0,.ptr tp 0),(2,.int .i64 b),(4,.ab8 r.cs),(7,gv),(13,allv),(14,.int .i64 l.length),(15,.int .i64 (i:Int))]/\Kept σ s/\ai4 s σ.next gv (ak9 qq i)) l.length ⟨.aa1,rfl,Kept.refl σ,.inl ⟨rfl,rfl⟩⟩ ?_;rintro i fr s hle ⟨gv,rfl,hk,hg⟩;by_cases hlt:i<l.length
 ·have c1:(i:Int)<l.length:=om;have c2:(0:Int)<=(i:Int):=om;have wi:=ac3 (i:=i) om;obtain ⟨r1,r2⟩:=kx8 l hlt
  have hpm:l.getD i default∈l:=by
   rw[za,zk hlt];exact zh hlt
  have hA:=in7 (l.getD i default) (hs _ hpm) 1 r hr hfit;unfold IsA at hA;rw[<- hqv] at hA
  obtain ⟨ga,hga,hgo,hgl⟩:∃ga,allv=.slice ga 0 l.length 15/\s.obj ga=zl (.row (l.map aa2.cs).flatten)/\ga<s.next:=by
   rcases (h.mono hk.next hk.obj).all with ⟨_,h1⟩|⟨ga,h1,h2,h3⟩
   ·have:=congrArg List.length h1;rw[zb,List.length_nil] at this;omega
   ·exact ⟨ga,by rw[h1,zb],h2,h3⟩
  subst hga;have hsn:=ax7 qq i;have hln:=ao4 qq i;generalize l.getD i default=p at *;simp only[go_sem,c1,c2,hgo,r1,r2,zx,zg,af7,ae8,ac7,ae6,ad9,ac5];refine aa4 fok214 (hA) ?_
  cases hq:qq i with
  | false=>
   rw[hq,if_neg (by simp),zo] at hsn;simp only[go_sem,wi]
   exact ⟨hlt,gv,rfl,hk.trans (Kept.box s _ _),by rw[hsn];exact hg.kept (Kept.box s _ _)⟩
  | true=>
   rw[hq,if_pos rfl] at hsn;simp only[go_sem];rw[az9 (s:=⟨s.next+1+1,_⟩) (lo:=σ.next) (zs:=ak9 qq i) ((hg.kept (Kept.box s _ _)).up 1) (i:Int) om];simp only[go_sem,wi];have hz:=bb2 (hk.trans (Kept.box s (.cells [.str [],.int .i64 0,.str [],.str [],.int .u8 0,.str [],.aa1,.aa1,.aa1,.aa1,.aa1,.aa1,.aa1,.aa1,.aa1]) (.cells p.cs))) (hg.kept (Kept.box s _ _)) (i:Int) (a:=1) (nid:=s.next+1) (zc _) (zd _) rfl;rw[hsn];exact ⟨hlt,_,rfl,hz.1,hz.2⟩
 ·have hi':i=l.length:=om;subst hi';have c1:¬(l.length:Int)<l.length:=om;have hln:=ao4 qq l.length;simp only[go_sem,c1];refine ac4 fok209 (eq8 b om hg.w) ?_;rintro v2 s2 ⟨⟨k1,k2⟩,hr2⟩;refine ⟨k1,?_⟩;simp only[go_sem];have hkn:=hk.next;have hK:Kept σ s2:=⟨zy hkn k1,λi hi=>by rw[k2 i hi om,hk.obj i hi]⟩;have hr3:ci5 s2 σ.next v2 (bz9 (ak9 qq l.length) b):=hr2.low om;have hb:=di1 (q:=λp=>r.alone p) l hl b;rw[hqn,hqq] at hb;refine ac4 fok208 (hl8 (σ:=σ) (h.mono hK.next hK.obj) (ar7 hK _ _ _) hr3 (zc _) (tab_late h hr3) λK hK2=>jx1 _ hb.1 hb.2 K tp mid xv allv clv l t hK2 om ht hf) ?_;rintro v' u ⟨h1,rfl,clv',hT2,hM2⟩;refine ⟨h1,?_⟩;simp only[go_sem];exact ⟨rfl,clv',hT2,hM2⟩
end Go.Id.Tryz
