/- What is asked for: each question of one or two numbers. Conditions: sizes that fit. -/
import Derived.Test.YtebfbbjghhagbaaGreatDoorTMSD
import Derived.Test.YtebfbbjghhagbaaGreatDoorMw
set_option linter.all false
namespace Go.Id.Tryz
open Go Go.Id Go.Proofs Go.Shelf Go.Id.Md
set_option maxRecDepth 100000
structure AOK (a:ac4):Prop where
 len:a.l.length<=256
 small:∀ p∈a.l,Pkg.small p
 fit:∀ p∈a.l,p.Fit
 tiny:∀ p∈a.l,p.Tiny
 inst:a.p.inst<=a.l.length
 ah4:a.r.ah4.length<=64
 ah9:a.r.ah9.length<=128
 ij5:∀ j∈a.r.ah4,Dep.small j.dep
 jf6:∀ j∈a.r.ah4,1<=j.kind/\j.kind<=4
theorem ag8 (a:ac4):Bnd 0 a.v:=.ac1 _ fun c hc=>by
 simp only[ac4.cs,List.mem_cons,List.not_mem_nil,or_false] at hc;rcases hc with rfl|rfl|rfl|rfl|rfl|rfl|rfl|rfl
 ·exact ax6 _
 ·exact bc2 _
 ·exact .int _ _
 ·exact .bool _
 ·exact ca2 _
 ·exact bc3 _
 ·exact .int _ _
 ·exact av8 _
theorem ar9 {d:TypeId}{c:IV}{cs:List IV}:bv7 (.pointer d) (.ac1 (c::cs))=some false:=rfl
theorem cq7 (a:ac4)(n:Int):PC Tryz.prog EE 65 [a.v,.int .i64 n] (.bool (a.is n)):=by
 refine ae8 hE fok65 (nZ rfl) (aj6 (ag8 a) (.int _ _)) ?_;unfold ac4.is ac4.v ac4.cs;have hl:(a.l.map aa3.cs).length=a.l.length:=List.length_map ..;generalize a.l.map aa3.cs=es at *;generalize a.l.length=k at *;by_cases h1:0<=n
 ·by_cases h2:n<(k:Nat)
  ·simp only[ic65,go_sem,ar9,h1,h2,hl]; exact ab2 rfl
  ·simp only[ic65,go_sem,ar9,h1,h2,hl]; exact ab2 rfl
 ·simp only[ic65,go_sem,ar9,h1]; exact ab2 rfl
theorem cy1 (a:ac4)(n:Int):PC Tryz.prog EE 71 [a.v,.int .i64 n] (.bool (a.job n)):=by
 refine ae8 hE fok71 (nZ rfl) (aj6 (ag8 a) (.int _ _)) ?_;unfold ac4.job ac4.v ac4.cs;by_cases h1:0<=n
 ·by_cases h2:n<(a.r.ah4.length:Nat)
  ·simp only[ic71,go_sem,ar9,h1,h2]; exact ab2 (by simp[h1, *])
  ·simp only[ic71,go_sem,ar9,h1,h2]; exact ab2 (by simp[h1, *])
 ·simp only[ic71,go_sem,ar9,h1]; exact ab2 rfl
theorem bh2 (a:ac4)(n:Int):PC Tryz.prog EE 167 [a.v,.int .i64 n] (.bool (a.inst n)):=by
 refine ae8 hE fok167 (nZ rfl) (aj6 (ag8 a) (.int _ _)) ?_;have h:=cq7 a n;have hp:=az4 a.p;unfold ac4.inst;unfold ac4.v ac4.cs at *;simp only[ic167,go_sem]
 first|refine aa4 fok65 (h) ?_|refine aa2 (h) ?_
 cases a.is n with
 | false=>simp only[go_sem]; exact ab2 rfl
 | true=>
  simp only[go_sem]
  first|refine aa4 fok88 (hp) ?_|refine aa2 (hp) ?_
  simp only[go_sem];exact ab2 rfl
theorem cl3 (a:ac4)(n:Int):PC Tryz.prog EE 29 [a.v,.int .i64 n] (.bool (a.fits n)):=by
 refine ae8 hE fok29 (nZ rfl) (aj6 (ag8 a) (.int _ _)) ?_;have h:=cq7 a n;have hf:=if5 a.r.aq4 (a.pk n).aq4;unfold ac4.fits
 cases hi:a.is n with
 | false=>
  rw[hi] at h;unfold ac4.v ac4.cs at *;simp only[ic29,go_sem]
  first|refine aa4 fok65 (h) ?_|refine aa2 (h) ?_
  simp only[go_sem]; exact ab2 rfl
 | true=>
  rw[hi] at h;unfold ac4.is at hi;simp only[Bool.and_eq_true,decide_eq_true_eq] at hi;have hl:(a.l.map aa3.cs).length=a.l.length:=List.length_map ..;have c1:n.toNat<a.l.length:=by omega
  have hg:(a.l.map aa3.cs).getD n.toNat []=(a.pk n).cs:=by
   unfold ac4.pk;rw[getD_at _ _ c1];simp[List.getD_eq_getElem?_getD,c1]
  have p4:((a.pk n).cs.drop 4).head? = some (.int .u8 (a.pk n).aq4):=rfl;unfold ac4.v ac4.cs at *;generalize a.pk n=q at *;generalize a.l.map aa3.cs=es at *;have c2:n<(es.length:Nat):=by omega
  simp only[ic29,go_sem]
  first|refine aa4 fok65 (h) ?_|refine aa2 (h) ?_
  simp only[go_sem,hi.1,c2,hg,p4,ag4]
  first|refine aa4 fok66 (hf) ?_|refine aa2 (hf) ?_
  simp only[go_sem];exact ab2 rfl
theorem bd9 (a:ac4)(k n:Int)(hA:AOK a):PC Tryz.prog EE 72 [a.v,.int .u8 k,.int .i64 n] (.bool (a.by9 k n)):=by
 refine ae8 hE fok72 (nZ rfl) (az8 (ag8 a) (.int _ _) (.int _ _)) ?_;have h:=fo7 a.r.ah9 ⟨k,n⟩ (by have:=hA.ah9; omega);unfold ac4.by9;unfold ac4.v ac4.cs;unfold bb8.cs at h;simp only[ic72,go_sem]
 first|refine aa4 fok128 (h) ?_|refine aa2 (h) ?_
 simp only[go_sem];exact ab2 rfl
theorem bj3 (a:ac4)(n:Int)(hA:AOK a):PC Tryz.prog EE 32 [a.v,.int .i64 n] (.bool (a.dropped n)):=by
 refine ae8 hE fok32 (nZ rfl) (aj6 (ag8 a) (.int _ _)) ?_;have h:=cy1 a n;have h2:=bd9 a 1 n hA;unfold ac4.dropped;simp only[ic32,go_sem]
 first|refine aa4 fok71 (h) ?_|refine aa2 (h) ?_
 cases a.job n with
 | false=>simp only[go_sem]; exact ab2 rfl
 | true=>
  simp only[go_sem]
  first|refine aa4 fok72 (h2) ?_|refine aa2 (h2) ?_
  simp only[go_sem];exact ab2 rfl
theorem ha5 (a:ac4){n:Int}(h:a.is n=true):0<=n/\n<(a.l.map aa3.cs).length/\(a.l.map aa3.cs).getD n.toNat []=(a.pk n).cs/\a.pk n∈a.l:=by
 unfold ac4.is at h;simp only[Bool.and_eq_true,decide_eq_true_eq] at h;have c1:n.toNat<a.l.length:=by omega
 refine ⟨h.1,by rw[List.length_map]; exact h.2,?_,?_⟩
 ·unfold ac4.pk;rw[getD_at _ _ c1];simp[List.getD_eq_getElem?_getD,c1]
 ·unfold ac4.pk;rw[getD_at _ _ c1];exact List.getElem_mem c1
theorem ew5 (p:aa3):(p.cs.drop 1).length=14:=rfl
theorem cy2 (a:ac4)(n m:Int)(hA:AOK a):PC Tryz.prog EE 30 [a.v,.int .i64 n,.int .i64 m] (.bool (a.twins n m)):=by
 refine ae8 hE fok30 (nZ rfl) (az8 (ag8 a) (.int _ _) (.int _ _)) ?_;have hn:=cq7 a n;have hm:=cq7 a m;unfold ac4.twins
 cases i1:a.is n with
 | false=>
  rw[i1] at hn;unfold ac4.v ac4.cs at *;simp only[ic30,go_sem]
  first|refine aa4 fok65 (hn) ?_|refine aa2 (hn) ?_
  simp only[go_sem]; exact ab2 rfl
 | true=>
 cases i2:a.is m with
 | false=>
  rw[i1] at hn;rw[i2] at hm;unfold ac4.v ac4.cs at *;simp only[ic30,go_sem]
  first|refine aa4 fok65 (hn) ?_|refine aa2 (hn) ?_
  simp only[go_sem]
  first|refine aa4 fok65 (hm) ?_|refine aa2 (hm) ?_
  simp only[go_sem]; exact ab2 rfl
 | true=>
 obtain ⟨n1,n2,n3,n4⟩:=ha5 a i1;obtain ⟨m1,m2,m3,m4⟩:=ha5 a i2;rw[i1] at hn;rw[i2] at hm;have hap:=ew2 (a.pk n).aq4 (a.pk m).aq4;have hev:=bj2 (a.pk n).evr (a.pk m).evr (hA.small _ n4).1 (hA.small _ m4).1;unfold ac4.dz7;unfold ac4.v ac4.cs at *;generalize a.pk n=p at *;generalize a.pk m=q at *;generalize a.l.map aa3.cs=es at *;by_cases e:n=m
 ·simp only[ic30,go_sem]
  first|refine aa4 fok65 (hn) ?_|refine aa2 (hn) ?_
  simp only[go_sem]
  first|refine aa4 fok65 (hm) ?_|refine aa2 (hm) ?_
  simp only[go_sem,e]; exact ab2 (by simp)
 have p0:p.cs.head? = some (.str p.name):=rfl;have q0:q.cs.head? = some (.str q.name):=rfl;have p4:(p.cs.drop 4).head? = some (.int .u8 p.aq4):=rfl;have q4:(q.cs.drop 4).head? = some (.int .u8 q.aq4):=rfl;have p1:(p.cs.drop 1).take 3=p.evr.cs:=rfl;have q1:(q.cs.drop 1).take 3=q.evr.cs:=rfl;simp only[ic30,go_sem]
 first|refine aa4 fok65 (hn) ?_|refine aa2 (hn) ?_
 simp only[go_sem]
 first|refine aa4 fok65 (hm) ?_|refine aa2 (hm) ?_
 simp only[go_sem,e,n1,n2,n3,m1,m2,m3,ag4,ag6,ac9,p0,q0];by_cases e2:p.name=q.name
 ·simp only[go_sem,e2,p4,q4]
  first|refine aa4 fok67 (hap) ?_|refine aa2 (hap) ?_
  cases dj8 p.aq4 q.aq4 with
  | false=>simp only[go_sem]; exact ab2 rfl
  | true=>
   simp only[go_sem,ag4,p1,q1,ew5]
   first|refine aa4 fok68 (hev) ?_|refine aa2 (hev) ?_
   simp only[go_sem];exact ab2 (by simp)
 ·simp only[go_sem,e2];exact ab2 (by simp)
theorem cq8 (j:Job):(j.cs.drop 1).take 5=j.dep.cs:=rfl
theorem cy3 (a:ac4)(k n:Int)(hA:AOK a):PC Tryz.prog EE 168 [a.v,.int .u8 k,.int .i64 n] (.bool (a.bu9 k n)):=by
 refine ae8 hE fok168 (nZ rfl) (az8 (ag8 a) (.int _ _) (.int _ _)) ?_;have hD:∀ i:Nat,i<a.r.ah4.length->PC Tryz.prog EE 32 [a.v,.int .i64 i] (.bool (a.dropped i)):=fun i _=>bj3 a i hA
 have hN:∀ (i:Nat) (h:i<a.r.ah4.length),PC Tryz.prog EE 101 [(ah3 a.l).v,.agg (a.jb i).dep.cs] (.aa5 ((ao9 a.l (a.jb i).dep).map Md.ah8)):=fun i h=>
  bv3 a.l (a.jb i).dep (by have:=hA.len; omega) hA.small (hA.ij5 _ (by
   have e:a.jb i=a.r.ah4[i]:=by simp[ac4.jb,List.getD_eq_getElem?_getD,h]
   rw[e]; exact List.getElem_mem h))
 have hH:∀ i:Nat,PC Tryz.prog EE 151 [.aa5 ((ao9 a.l (a.jb i).dep).map Md.ah8),.int .i64 n] (.bool (decide (n∈ao9 a.l (a.jb i).dep))):=fun i=>
  bz7 _ n (by have h1:=al8 (fun p=>named p (a.jb i).dep) a.l; have:=hA.len; have:(ao9 a.l (a.jb i).dep).length<=a.l.length:=h1; omega)
 have hg:∀ i:Nat,i<a.r.ah4.length->(a.r.ah4.map Job.cs).getD i []=(a.jb i).cs:=fun i h=>by simp[ac4.jb,List.getD_eq_getElem?_getD,h]
 have hlen:=hA.ah4;unfold ac4.bu9;unfold ac4.v ac4.cs at *;simp only[ic168,go_sem];generalize a.dropped=dr at *;generalize a.jb=jb at *;generalize ao9 a.l=nm at *;refine ab7 noT (fun i fr s=>fr=[(0,.ac1 [a.p.v,(ah3 a.l).v,.int .u8 a.r.aq4,.bool a.r.vendor,be4 a.r.ah4,au7 a.r.ah9,.int .i64 a.r.budget,.aa5 (a.l.map aa3.cs)]),(1,.int .u8 k),(2,.int .i64 n),(13,.aa5 (a.r.ah4.map Job.cs)),(14,.int .i64 a.r.ah4.length),(15,.int .i64 (i:Int))]/\((List.range i).any fun i=>decide ((jb i).kind=k)&&!dr i&&decide (n∈nm (jb i).dep))=false) a.r.ah4.length ⟨rfl,rfl⟩ ?_;rintro i fr t hi ⟨rfl,hf⟩;by_cases hlt:i<a.r.ah4.length
 ·have c1:(i:Int)<a.r.ah4.length:=by omega
  have c2:(0:Int)<=i:=by omega
  have w1:=ad6 (i:=i) (by omega);have hgi:=hg i hlt;have hDi:=hD i hlt;have hNi:=hN i hlt;have hHi:=hH i
  have hex:∀ b,(decide ((jb i).kind=k)&&!dr i&&decide (n∈nm (jb i).dep))=b->(b=true->((List.range a.r.ah4.length).any fun i=>decide ((jb i).kind=k)&&!dr i&&decide (n∈nm (jb i).dep))=true)/\(b=false->((List.range i++[i]).any fun i=>decide ((jb i).kind=k)&&!dr i&&decide (n∈nm (jb i).dep))=false):=by
   intro b hb;refine ⟨fun h=>List.any_eq_true.2 ⟨i,List.mem_range.2 hlt,by rw[hb]; exact h⟩,fun h=>?_⟩;rw[List.any_append,hf];simp only[List.any_cons,List.any_nil,Bool.or_false,Bool.false_or,hb,h]
  clear hD hN hH hg;have j0:(jb i).cs.head? = some (.int .u8 (jb i).kind):=rfl;have j1:=cq8 (jb i);have j2:((jb i).cs.drop 1).length=5:=rfl;generalize jb i=j at *;simp only[go_sem,c1,c2,hgi,ax4,ba4,aq8,j0];by_cases e1:j.kind=k
  ·simp only[go_sem,e1]
   first|refine aa4 fok32 (hDi) ?_|refine aa2 (hDi) ?_
   cases e2:dr (i:Int) with
   | true=>
    simp only[go_sem,w1]
    exact ⟨hlt,(hex _ rfl).2 (by simp[e2])⟩
   | false=>
    simp only[go_sem,j1,j2]
    first|refine aa4 fok101 (hNi) ?_|refine aa2 (hNi) ?_
    simp only[go_sem]
    first|refine aa4 fok151 (hHi) ?_|refine aa2 (hHi) ?_
    by_cases e3:n∈nm j.dep
    ·simp only[go_sem,e3];exact ab2 ((hex _ rfl).1 (by simp[e1,e2,e3])).symm
    ·simp only[go_sem,e3,w1];exact ⟨hlt,(hex _ rfl).2 (by simp[e3])⟩
  ·simp only[go_sem,e1,w1];exact ⟨hlt,(hex _ rfl).2 (by simp[e1])⟩
 ·have hi':i=a.r.ah4.length:=by omega
  subst hi';have c1:¬ (a.r.ah4.length:Int)<(a.r.ah4.length:Int):=by omega
  simp only[go_sem,c1];exact ab2 hf.symm
theorem fo8 (a:ac4)(n:Int)(hA:AOK a):PC Tryz.prog EE 156 [a.v,.int .i64 n] (.bool (a.goes n)):=by
 refine ae8 hE fok156 (nZ rfl) (aj6 (ag8 a) (.int _ _)) ?_;have h:=bh2 a n;have h2:=cy3 a 2 n hA;have h3:=bd9 a 2 n hA;unfold ac4.goes;simp only[ic156,go_sem]
 first|refine aa4 fok167 (h) ?_|refine aa2 (h) ?_
 cases a.inst n with
 | false=>simp only[go_sem]; exact ab2 rfl
 | true=>
  simp only[go_sem]
  first|refine aa4 fok168 (h2) ?_|refine aa2 (h2) ?_
  cases a.bu9 2 n with
  | true=>simp only[go_sem]; exact ab2 rfl
  | false=>
   simp only[go_sem]
   first|refine aa4 fok72 (h3) ?_|refine aa2 (h3) ?_
   simp only[go_sem];exact ab2 rfl
theorem en4 {α:Type}(q:α->Bool):∀ (l:List α) (i:Int),ai1 q l i=-1/\(∀ x∈l,q x=false)\/∃ k,∃ h:k<l.length,ai1 q l i=i+k/\q l[k]=true/\∀ x∈l.take k,q x=false:=by
 intro l
 induction l with
 | nil=>intro i; exact .inl ⟨rfl,fun x h=>by cases h⟩
 | cons a l ih=>
  intro i;simp only[ai1]
  cases hq:q a with
  | true=>exact .inr ⟨0,by simp,by simp,by simpa using hq,fun x h=>by cases h⟩
  | false=>
   simp only[Bool.false_eq_true,if_false];rcases ih (i+1) with ⟨h1,h2⟩|⟨k,h,h1,h2,h3⟩
   ·exact .inl ⟨h1,fun x hx=>by
     rcases List.mem_cons.1 hx with rfl|hx
     ·exact hq
     ·exact h2 x hx⟩
   ·refine .inr ⟨k+1,by simp only[List.length_cons]; omega,by rw[h1]; omega,by simpa using h2,fun x hx=>?_⟩;rw[List.take_succ_cons] at hx;rcases List.mem_cons.1 hx with rfl|hx
    ·exact hq
    ·exact h3 x hx
theorem cy4 {q:Int->Bool}{l:List Int}(h:∀ x∈l,q x=false):(l.filter fun x=>!q x)=l:=List.filter_eq_self.2 fun x hx=>by rw[h x hx]; rfl
theorem ha6 {σ:Store}{id:Nat}{cs:List IV}{zs:List Int}(ho:σ.obj id=some (.row cs))(hct:cs.take zs.length=zs.map db9)(hcl:zs.length<=cs.length):cm1 σ 0 (.slice id 0 zs.length 1) (.aa5 (zs.map Md.ah8)):=by
 refine .slice id 0 zs.length 1 cs (zs.map Md.ah8) (Nat.not_lt_zero _) (.inr ho) (by rw[List.length_map]) (by omega) (fun i hi=>?_) fun i hi j hj=>?_
 ·simp[List.getD_eq_getElem?_getD,hi,Md.ah8]
 ·have hj0:j=0:=by omega
  subst hj0;have e2:((zs.map Md.ah8).getD i []).getD 0 .undef=db9 zs[i]:=by simp[List.getD_eq_getElem?_getD,hi,Md.ah8]
  rw[e2,Nat.zero_add,Nat.mul_one,Nat.add_zero,eg9 hct hi];exact .keep _ (.int _ _)
theorem gj3 {σ:Store}{id g:Nat}{cap cs0:List IV}{zs:List Int}(q:Int->Bool)(hz:zs.length<2^40)(ho:σ.obj id=some (.row cs0))(hct:cs0.take zs.length=zs.map db9)(hcl:zs.length<=cs0.length)
  (hok:okF Tryz.prog g=true) (hcap:∀ c∈cap,Bnd 0 c) (hq:∀ z∈zs,PC Tryz.prog EE g (.int .i64 z::cap) (.bool (q z))) :
  C Tryz.prog EE 161 [.slice id 0 zs.length 1,.func (.func g) [] cap] σ (fun v s=>σ.next<=s.next/\(∀ i,i≠id->s.obj i=σ.obj i) /\
   ∃ cs,v=.slice id 0 (zs.filter fun x=>!q x).length 1/\s.obj id=some (.row cs)/\cs.take (zs.filter fun x=>!q x).length=(zs.filter fun x=>!q x).map db9/\(zs.filter fun x=>!q x).length<=cs.length):=by
 refine C_f fok161 (nZ rfl) ?_;simp only[ic161,go_sem]
 have hI:=ct8 (σ:=σ) (args:=[.slice id 0 zs.length 1,.func (.func g) [] cap]) (args':=[.aa5 (zs.map Md.ah8),.func (.func g) [] cap]) hE rfl (fun i hi=>by
  match i,hi with
  | 0,_=>exact ha6 ho hct hcl
  | 1,_=>exact .keep _ (.func _ _ _ (fun c hc=>by cases hc) hcap)) (by simp[IV.plain]) (ca4 zs g [] cap q (by omega) hok hq)
 refine ah1 fok164 hI ?_;rintro v s ⟨rfl,rfl⟩;refine ⟨Nat.le_refl _,?_⟩;rcases en4 q zs 0 with ⟨h1,h2⟩|⟨i0,hi0,h1,h2,h3⟩
 ·simp only[go_sem,h1,cy4 h2];exact ⟨Nat.le_refl _,fun _ _=>trivial,cs0,ho,hct,hcl⟩
 have h1':ai1 q zs 0=(i0:Int):=by rw[h1]; omega
 have d1:¬ (i0:Int)=-1:=by omega
 have w0:=ad6 (i:=i0) (by omega);simp only[go_sem,h1',d1,w0]
 refine ab7 noT (fun j fr t=>∃ (k:Nat) (cs:List IV),fr=[(0,.slice id 0 zs.length 1),(1,.func (.func g) [] cap),(5,.int .i64 (k:Int)),(6,.int .i64 ((i0+1+j:Nat):Int))] /\
  (s.next<=t.next/\∀ q,q≠id->t.obj q=s.obj q)/\t.obj id=some (.row cs)/\cs.length=cs0.length/\k<=i0+j/\i0+1+j<=zs.length/\k=((zs.take (i0+1+j)).filter fun x=>!q x).length/\cs.take k=((zs.take (i0+1+j)).filter fun x=>!q x).map db9 /\
  ∀ (x:Nat) (h:x<zs.length),i0+j<x->(cs.drop x).head? = some (.int .i64 zs[x])) (zs.length-(i0+1)) ?_ ?_
 ·have e:((zs.take (i0+1)).filter fun x=>!q x)=zs.take i0:=by
   rw[List.take_add_one,List.getElem?_eq_getElem hi0,List.filter_append,cy4 h3];simp[h2]
  refine ⟨i0,cs0,rfl,⟨Nat.le_refl _,fun _ _=>rfl⟩,ho,rfl,by omega,by omega,?_,?_,fun x h _=>?_⟩
  ·rw[Nat.add_zero,e,List.length_take]; omega
  ·rw[Nat.add_zero,e,List.map_take,<- hct,List.take_take];congr 1; omega
  ·have:=eg9 hct h;rw[List.head?_drop];rw[List.getD_eq_getElem?_getD,List.getElem?_eq_getElem (by omega)] at this;rw[List.getElem?_eq_getElem (by omega)];exact congrArg some this
 rintro j fr t hj ⟨k,cs,rfl,⟨un,uo⟩,hoc,hcl2,hk1,hk2,hk3,hk4,hcs⟩;by_cases hlt:j<zs.length-(i0+1)
 ·have e1:((i0+1+j:Nat):Int)<zs.length:=by omega
  have e2:(0:Int)<=((i0+1+j:Nat):Int):=by omega
  have hx:i0+1+j<zs.length:=by omega
  have g1:=hcs (i0+1+j) hx (by omega);have w1:=ad6 (i:=i0+1+j) (by omega);have w2:=ad6 (i:=k) (by omega);have hqz:=hq _ (List.getElem_mem hx);have e3:(0:Int)<=(k:Int):=by omega
  have e4:(k:Int)<zs.length:=by omega
  have e5:k+1<=cs.length:=by omega
  have htk:(zs.take (i0+1+j+1)).filter (fun x=>!q x)=(zs.take (i0+1+j)).filter (fun x=>!q x)++if q zs[i0+1+j] then [] else [zs[i0+1+j]]:=by
   rw[List.take_add_one,List.getElem?_eq_getElem hx,List.filter_append];congr 1;simp only[Option.toList,List.filter_cons,List.filter_nil];cases q zs[i0+1+j]<;>rfl
  simp only[go_sem,e1,e2,hoc,g1,Int.toNat_natCast,Nat.zero_add,Nat.mul_one];refine ao1 hok (eh8 hqz) ?_;rintro v u ⟨rfl,rfl⟩;refine ⟨Nat.le_refl _,?_⟩
  cases hb:q zs[i0+1+j] with
  | true=>
   rw[hb,if_pos rfl,List.append_nil] at htk;simp only[go_sem,w1]
   exact ⟨hlt,k,cs,rfl,⟨un,uo⟩,hoc,hcl2,by omega,by omega,by rw[show i0+1+(j+1)=i0+1+j+1 by omega,htk]; exact hk3,by rw[show i0+1+(j+1)=i0+1+j+1 by omega,htk]; exact hk4,fun x h hx=>hcs x h (by omega)⟩
  | false=>
   rw[hb,if_neg (by simp)] at htk;simp only[go_sem,w1,w2,e3,e4,e5,hoc,Int.toNat_natCast,Nat.zero_add,Nat.mul_one];refine ⟨hlt,k+1,ba9 cs k [.int .i64 zs[i0+1+j]],rfl,⟨un,fun q hq=>?_⟩,?_,?_,by omega,by omega,?_,?_,fun x h hx=>?_⟩
   ·simp only[if_neg hq]; exact uo q hq
   ·rfl
   ·rw[aj4 (by rw[List.length_singleton]; omega)]; exact hcl2
   ·rw[show i0+1+(j+1)=i0+1+j+1 by omega,htk,List.length_append,<- hk3]; rfl
   ·rw[show i0+1+(j+1)=i0+1+j+1 by omega,htk,dl7 (by omega),hk4,List.map_append]; rfl
   ·rw[dl8 (by omega) (by omega)];exact hcs x h (by omega)
 ·have hj':i0+1+j=zs.length:=by omega
  have e1:¬ ((i0+1+j:Nat):Int)<zs.length:=by omega
  rw[hj',List.take_length] at hk3 hk4;have hkn:k<zs.length:=by omega
  simp only[go_sem,e1,gi5 (show k<=zs.length by omega),hm7 (show k<=zs.length by omega),hoc,iv3,gi6 hoc hkn (by omega)];have hrl:(rep [IV.int .i64 0] (zs.length-k)).length=zs.length-k:=by rw[au3]; simp
  refine ⟨un,fun q hq=>?_,ba9 cs k (rep [IV.int .i64 0] (zs.length-k)),by rw[hk3],by simp only[aa7,if_true],?_,?_⟩
  ·simp only[aa7,if_neg hq]; exact uo q hq
  ·rw[<- hk3,ec4 (by omega)]; exact hk4
  ·rw[aj4 (by rw[hrl]; omega),<- hk3]; omega
theorem en5 (a:ac4)(down other:Bool)(old q:aa3)(h1:Pkg.small old)(h2:Pkg.small q):PC Tryz.prog EE 169 [.agg q.cs,.ac1 old.cs,.ac1 [.bool down],.ac1 [.bool other],.ac1 [a.v]] (.bool (ac4.dz8 a.r.vendor down other old q)):=by
 refine ae8 hE fok169 (nZ rfl) (ip7 (am9 _) (.ac1 _ (az2 _)) (.ac1 _ (aj1 (.bool _))) (.ac1 _ (aj1 (.bool _))) (.ac1 _ (aj1 (ag8 a)))) ?_;have hf:=fo5 q.aq4 old.aq4;have hev:=bj2 q.evr old.evr h2.1 h1.1;have p0:q.cs.head? = some (.str q.name):=rfl;have q0:old.cs.head? = some (.str old.name):=rfl;have p4:(q.cs.drop 4).head? = some (.int .u8 q.aq4):=rfl;have q4:(old.cs.drop 4).head? = some (.int .u8 old.aq4):=rfl;have p5:(q.cs.drop 5).head? = some (.str q.vendor):=rfl;have q5:(old.cs.drop 5).head? = some (.str old.vendor):=rfl;have p1:(q.cs.drop 1).take 3=q.evr.cs:=rfl;have q1:(old.cs.drop 1).take 3=old.evr.cs:=rfl;unfold ac4.dz8;unfold ac4.v ac4.cs;by_cases e1:q.name=old.name
 case neg=>
  simp only[ic169,go_sem,ag4,ag6,ac9,p0,q0,e1];exact ab2 (by simp)
 simp only[ic169,go_sem,ag4,ag6,ac9,p0,q0,e1];cases down
 case' true=>simp only[go_sem]
 case' false=>
  simp only[go_sem,ew5,p1,q1]
  first|refine aa4 fok68 (hev) ?_|refine aa2 (hev) ?_
  by_cases e2:0<=ap9 q.evr old.evr
  case neg=>
   simp only[go_sem,e2];exact ab2 (by simp)
  simp only[go_sem,e2]
 all_goals
  cases other
  case' true=>simp only[go_sem]
  case' false=>
   simp only[go_sem,p4,q4]
   first|refine aa4 fok170 (hf) ?_|refine aa2 (hf) ?_
   cases cp9 q.aq4 old.aq4
   case false=>
    simp only[go_sem];exact ab2 (by simp)
   simp only[go_sem]
  all_goals
   cases a.r.vendor
   case true=>
    simp only[go_sem];exact ab2 (by simp)
   by_cases e3:q.vendor=old.vendor
   ·simp only[go_sem,p5,q5,e3];exact ab2 (by simp)
   ·simp only[go_sem,p5,q5,e3];exact ab2 (by simp)
theorem cy5 (l:List aa3)(n:Nat)(hl:l.length<2^20)(hn:n<l.length)(hs:∀ p∈l,Pkg.small p)(σ:Store):C Tryz.prog EE 171 [(ah3 l).v,.int .i64 n] σ (cz8 σ (al3 l n)):=by
 have hi:=bi3 l;have hlook:=hi.over (l.getD n default).name
 have hsift:∀ (σ:Store) v,(v=.aa5 ((ad3 (ah3 l).over (l.getD n default).name).map Md.ah8)\/v=.aa1/\ad3 (ah3 l).over (l.getD n default).name=[])->C Tryz.prog EE 165 [(ah3 l).v,v,.func (.func 228) [] [.ac1 [.int .i64 n],.ac1 [(ah3 l).v]]] σ (cz8 σ (al3 l n)):=by
  intro σ v hv
  have h:=hm8 (ah3 l) (ad3 (ah3 l).over (l.getD n default).name) (by rw[hlook]; have:=al8 (fun p=>decide (∃ d∈p.aa9,d.name=(l.getD n default).name)) l; omega) 228 [.ac1 [.int .i64 n],.ac1 [(ah3 l).v]] (fun k=>decide (k.toNat≠n)&&aa9 (l.getD k.toNat default) (l.getD n default)) fok228.1 (fun k hk=>by
   rw[hlook] at hk;obtain ⟨m,rfl,hm⟩:=numsOf_at hk;refine ⟨m,rfl,by rw[hi.all]; exact hm,?_⟩;have e:(ah3 l).all[m]'(by rw[hi.all]; exact hm)=l[m]:=by simp only[hi.all]
   rw[e,Int.toNat_natCast,getD_at l m hm,getD_at l n hn];exact gi4 l m n hm hn hs) σ
  have e:al3 l n=(ad3 (ah3 l).over (l.getD n default).name).filter fun k=>decide (k.toNat≠n)&&aa9 (l.getD k.toNat default) (l.getD n default):=rfl
  rw[<- e] at h;rcases hv with rfl|⟨rfl,h0⟩
  ·exact h
  ·rw[h0] at h;refine gi9 (args':=[(ah3 l).v,.aa5 [],.func (.func 228) [] [.ac1 [.int .i64 n],.ac1 [(ah3 l).v]]]) rfl (fun i hi=>?_) h;have hw:∀ {v:IV} {σ:Store},Bnd 0 v->Frz σ (fun _=>true=true) v v:=fun h=>.keep _ (h.weak fun _ _=>rfl)
   have hb:=bc2 (ah3 l)
   match i,hi with
   | 0,_=>exact hw hb
   | 1,_=>exact .cb8
   | 2,_=>exact hw (.func _ _ _ (fun c hc=>by cases hc) (aj6 (.ac1 _ (aj1 (.int _ _))) (.ac1 _ (aj1 hb))))
 have hx:(ah3 l).v=.ac1 [.aa5 (l.map aa3.cs),.al6 (nmV (ah3 l).av5),.al6 (nmV (ah3 l).names),.al6 (nmV (ah3 l).over)]:=by
  show IV.ac1 [.aa5 ((ah3 l).all.map aa3.cs),_,_,_]=_;rw[hi.all]
 have his:=if2 (ah3 l) n
 have i1:(decide ((0:Int)<=(n:Int))&&decide ((n:Int)<(ah3 l).all.length))=true:=by
  rw[hi.all]; simp only[Bool.and_eq_true,decide_eq_true_eq]; omega
 rw[i1] at his
 have hk0:∀ σ:Store,∃ v,cr3 σ 2 .aa1 false (.al6 (nmV (ah3 l).over)) (.str (l.getD n default).name)=some v/\∀ τ,C Tryz.prog EE 165 [(ah3 l).v,v,.func (.func 228) [] [.ac1 [.int .i64 n],.ac1 [(ah3 l).v]]] τ (cz8 τ (al3 l n)):=fun σ=>
  let ⟨v,h1,h2⟩:=eu6 (ah3 l).over σ (l.getD n default).name
  ⟨v,h1,fun τ=>hsift τ v h2⟩
 have hg:(l.map aa3.cs).getD n []=l[n].cs:=by simp[List.getD_eq_getElem?_getD,hn]
 have hnm:(l.getD n default).name=l[n].name:=by rw[getD_at l n hn]
 have p0:l[n].cs.head? = some (.str l[n].name):=rfl;have hle:(l.map aa3.cs).length=l.length:=List.length_map ..;clear hsift hlook i1;rw[hnm] at hk0;rw[hx] at hk0 his ⊢;generalize al3 l n=res at *;generalize l.map aa3.cs=a0 at *;generalize l[n]=q at *;have c1:(0:Int)<=n:=by omega
 have c2:(n:Int)<a0.length:=by omega
 refine C_f fok171 (nZ rfl) ?_;simp only[ic171,go_sem]
 first|refine aa4 fok227 (his) ?_|refine aa2 (his) ?_
 simp only[go_sem,c1,c2,hg,p0,ba3,aw1,as6];obtain ⟨v,hk,hsv⟩:=hk0 ⟨σ.next+17,σ.obj⟩;simp only[go_sem,hk];refine ah1 fok165 (hsv _) ?_;rintro v' s ⟨hkp,hr⟩;refine ⟨hkp.next,?_⟩;simp only[go_sem];exact ⟨hkp.low,hr.low (Nat.le_add_right _ _)⟩
theorem dt6 {σ:Store}{id:Nat}{cs:List IV}(ho:σ.obj id=some (.cells cs))(hb:∀ c∈cs,Bnd 0 c):cm1 σ 0 (.ptr id 0) (.ac1 cs):=by
 refine .ptr id 0 cs cs (Nat.not_lt_zero _) (.inl ho) (by omega) (fun j hj=>?_);rw[Nat.zero_add];exact .keep _ (hb _ (ad2 _ hj))
theorem iv6 (zs:List Int):(if3 zs).Pairwise (·<=·):=by
 refine List.Pairwise.imp (fun h=>of_decide_eq_true h) (List.pairwise_mergeSort (le:=fun x y:Int=>decide (x<=y)) (fun a b c h1 h2=>?_) (fun a b=>?_) _)
 ·exact decide_eq_true (Int.le_trans (of_decide_eq_true h1) (of_decide_eq_true h2))
 ·rcases Int.le_total a b with h|h
  ·simp[h]
  ·simp[h]
theorem dm1 (a:ac4)(i:Int)(hA:AOK a)(σ:Store):C Tryz.prog EE 103 [a.v,.int .i64 i] σ (ix5 σ (a.bi5 i)):=by
 have hin:=bh2 a i;refine C_f fok103 (nZ rfl) ?_;unfold ac4.bi5
 cases hi:a.inst i with
 | false=>
  rw[hi] at hin;unfold ac4.v ac4.cs at *;simp only[ic103,go_sem]
  first|refine aa4 fok167 (hin) ?_|refine aa2 (hin) ?_
  simp only[go_sem]
  exact ⟨Kept.refl σ,.inl ⟨rfl,rfl⟩⟩
 | true=>
 rw[hi] at hin;have his:a.is i=true:=by unfold ac4.inst at hi; exact (Bool.and_eq_true _ _▸hi).1
 obtain ⟨i1,i2,i3,i4⟩:=ha5 a his;obtain ⟨m,rfl⟩:∃ m:Nat,i=m:=⟨i.toNat,by omega⟩;have hml:m<a.l.length:=by rw[List.length_map] at i2; omega
 have e3:=bd9 a 3 m hA;have e4:=bd9 a 4 m hA;have n4:=cy3 a 4 m hA;have hob:=cy5 a.l m (by have:=hA.len; omega) hml hA.small;have hlen:=hA.len
 have hall:∀ n (h:n<a.l.length),(a.l.map aa3.cs).getD n []=(a.pk n).cs/\a.pk (n:Int)∈a.l:=fun n h=>by
  have hn:a.is (n:Int)=true:=by rw[ac4.ir1]; exact decide_eq_true h
  obtain ⟨_,_,h3,h4⟩:=ha5 a hn;exact ⟨by simpa using h3,h4⟩
 have hfl:∀ down other n (h:n<a.l.length),PC Tryz.prog EE 169 [.agg (a.pk n).cs,.ac1 (a.pk m).cs,.ac1 [.bool down],.ac1 [.bool other],.ac1 [a.v]] (.bool (ac4.dz8 a.r.vendor down other (a.pk m) (a.pk n))):=
  fun down other n h=>en5 a down other _ _ (hA.small _ i4) (hA.small _ (hall n h).2)
 have hba:=ag8 a;unfold ac4.jh2;unfold ac4.v ac4.cs at *;generalize (ah3 a.l).v=X at *;generalize a.p.v=Pv at *;have c0:(0:Int)<=m:=by omega
 have c2:(m:Int)<a.l.length:=by omega
 have hgm:=(hall m hml).1;generalize hdn:(a.by9 3 m||a.bu9 4 m)=down;generalize hot:a.by9 4 m=other at *;simp only[ic103,go_sem]
 first|refine aa4 fok167 (hin) ?_|refine aa2 (hin) ?_
 simp only[go_sem,c0,c2,hgm,ag4,ag6,ac9];cases h3:a.by9 3 m
 case' true=>
  rw[h3] at hdn e3;have hd:true=down:=by simpa using hdn
  first|refine aa4 fok72 (e3) ?_|refine aa2 (e3) ?_
  simp only[go_sem]
 case' false=>
  rw[h3] at hdn e3;have hd:a.bu9 4 m=down:=by simpa using hdn
  first|refine aa4 fok72 (e3) ?_|refine aa2 (e3) ?_
  simp only[go_sem]
  first|refine aa4 fok168 (n4) ?_|refine aa2 (n4) ?_
  simp only[go_sem]
 all_goals
  first|refine aa4 fok72 (e4) ?_|refine aa2 (e4) ?_
  simp only[go_sem];refine ah1 fok171 (hob _) ?_;rintro v s ⟨hk0,hr0⟩;refine ⟨hk0.next,?_⟩;simp only[go_sem];have g1:¬ σ.next=σ.next+1+1:=by omega
  have g2:¬ σ.next=σ.next+1:=by omega
  have g3:¬ σ.next+1=σ.next+1+1:=by omega
  have b5:s.obj σ.next=some (.cells (a.pk m).cs):=(hk0.obj σ.next (by show σ.next<σ.next+_; omega)).trans (by simp only[aa7,g1,g2,if_true,if_false]);have b6:s.obj (σ.next+1)=some (.cells [.bool down]):=(hk0.obj (σ.next+1) (by show σ.next+1<σ.next+_; omega)).trans (by simp only[aa7,g3,if_true,if_false,hd]);have b7:s.obj (σ.next+1+1)=some (.cells [.bool other]):=(hk0.obj (σ.next+1+1) (by show σ.next+1+1<σ.next+_; omega)).trans (by simp only[aa7,if_true])
  have blo:∀ i,i<σ.next->s.obj i=σ.obj i:=fun i hi=>(hk0.obj i (by show i<σ.next+_; omega)).trans (by
   have u1:¬ i=σ.next:=by omega
   have u2:¬ i=σ.next+1:=by omega
   have u3:¬ i=σ.next+1+1:=by omega
   simp only[aa7,u1,u2,u3,if_false])
  have bnx:σ.next+1+1+1<=s.next:=Nat.le_trans (by show σ.next+1+1+1<=σ.next+_; omega) hk0.next;have hr1:ay3 s (σ.next+1+1+1) v (al3 a.l m):=hr0.low (by show σ.next+1+1+1<=σ.next+_; omega);clear hk0 hr0 hob e3 e4 n4 hin;generalize hq:(fun n:Nat=>decide ((n:Int)=m)||ac4.dz8 a.r.vendor down other (a.pk m) (a.pk n))=qq;have hqn:∀ n,qq n=(decide ((n:Int)=m)||ac4.dz8 a.r.vendor down other (a.pk m) (a.pk n)):=fun n=>by rw[<- hq]
  have hobl:=cx8 a.l m;have obm:=fun k=>cx7 (l:=a.l) (n:=m) (k:=k)
  generalize al3 a.l m=ob at *
  refine ab7 noT (fun n fr t=>∃ gv,fr=[(1,.int .i64 (m:Int)),(8,.func (.func 169) [] [.ptr σ.next 0,.ptr (σ.next+1) 0,.ptr (σ.next+1+1) 0,.ac1 [.ac1 [Pv,X,.int .u8 a.r.aq4,.bool a.r.vendor,be4 a.r.ah4,au7 a.r.ah9,.int .i64 a.r.budget,.aa5 (a.l.map aa3.cs)]]]),(9,gv),(44,.aa5 (a.l.map aa3.cs)),(45,.int .i64 a.l.length),(46,.int .i64 (n:Int))] /\
   Kept ⟨σ.next+1+1+1,s.obj⟩ t/\ay3 t (σ.next+1+1+1) gv (ob++bi4 qq n)) a.l.length ⟨v,rfl,⟨bnx,fun _ _=>rfl⟩,by rw[show bi4 qq 0=[] from rfl,List.append_nil]; exact hr1⟩ ?_
  rintro n fr t hn ⟨gv,rfl,hk,hg⟩;by_cases hlt:n<a.l.length
  ·have d1:(n:Int)<a.l.length:=by omega
   have d2:(0:Int)<=n:=by omega
   have w1:=ad6 (i:=n) (by omega);have hgn:=(hall n hlt).1;have hpn:=hfl down other n hlt;have hsn:=fl9 qq n;have hln:=cw1 qq n;have hzl:(ob++bi4 qq n).length<2147483648:=by rw[List.length_append]; omega
   have n5:¬ σ.next=t.next:=by have:=hk.next; show ¬ _; intro e; have:σ.next+1+1+1<=t.next:=this; omega
   have n6:¬ σ.next+1=t.next:=by have:=hk.next; intro e; have:σ.next+1+1+1<=t.next:=this; omega
   have n7:¬ σ.next+1+1=t.next:=by have:=hk.next; intro e; have:σ.next+1+1+1<=t.next:=this; omega
   have t5:=(hk.obj σ.next (by show σ.next<σ.next+1+1+1; omega)).trans b5;have t6:=(hk.obj (σ.next+1) (by show σ.next+1<σ.next+1+1+1; omega)).trans b6;have t7:=(hk.obj (σ.next+1+1) (by show σ.next+1+1<σ.next+1+1+1; omega)).trans b7;by_cases e:(n:Int)=m
   case' pos=>
    have hqt:qq n=true:=by rw[hqn,e]; simp
    have e':n=m:=by omega
    subst e';simp only[go_sem,d1,d2,hgn,ag4,ag6,ac9,eq_self]
   case' neg=>
    simp only[go_sem,d1,d2,hgn,ag4,ag6,ac9,e]
    refine ao1 fok169.1 (ct8 (args':=[.agg (a.pk n).cs,.ac1 (a.pk m).cs,.ac1 [.bool down],.ac1 [.bool other],.ac1 [.ac1 [Pv,X,.int .u8 a.r.aq4,.bool a.r.vendor,be4 a.r.ah4,au7 a.r.ah9,.int .i64 a.r.budget,.aa5 (a.l.map aa3.cs)]]]) hE rfl (fun i hi=>by
     match i,hi with
     | 0,_=>exact .keep _ (am9 _)
     | 1,_=>exact dt6 (by simp only[aa7,n5,if_false]; exact t5) (az2 _)
     | 2,_=>exact dt6 (by simp only[aa7,n6,if_false]; exact t6) (aj1 (.bool _))
     | 3,_=>exact dt6 (by simp only[aa7,n7,if_false]; exact t7) (aj1 (.bool _))
     | 4,_=>exact .keep _ (.ac1 _ (aj1 hba))) (by simp[IV.plain]) hpn) ?_
    rintro v' u ⟨rfl,rfl⟩;refine ⟨Nat.le_refl _,?_⟩;cases hfb:ac4.dz8 a.r.vendor down other (a.pk m) (a.pk n)
    case' false=>
     have hqt:qq n=false:=by rw[hqn,hfb]; simp[e]
     rw[hqt] at hsn;simp only[go_sem,w1];rw[if_neg (by simp),List.append_nil] at hsn;exact ⟨hlt,gv,rfl,hk.trans (Kept.box t _ _),by rw[hsn]; exact hg.kept (Kept.box t _ _)⟩
    have hqt:qq n=true:=by rw[hqn,hfb]; simp
    simp only[go_sem]
   all_goals
    rw[hqt,if_pos rfl] at hsn;rw[fy5 (s:=⟨t.next+1+1,_⟩) (lo:=σ.next+1+1+1) (zs:=ob++bi4 qq n) ((hg.kept (Kept.box t _ _)).up 1) (n:Int) hzl];simp only[go_sem,w1];have hz:=eq7 (hk.trans (Kept.box t (.cells [.str [],.int .i64 0,.str [],.str [],.int .u8 0,.str [],.aa1,.aa1,.aa1,.aa1,.aa1,.aa1,.aa1,.aa1,.aa1]) (.cells (a.pk n).cs))) (hg.kept (Kept.box t _ _)) (n:Int) (a:=1) (nid:=t.next+1) (Nat.le_refl _) (Nat.lt_succ_self _) rfl;rw[hsn,<- List.append_assoc];exact ⟨hlt,_,rfl,hz.1,hz.2⟩
  ·have hn':n=a.l.length:=by omega
   subst hn';have d1:¬ (a.l.length:Int)<(a.l.length:Int):=by omega
   simp only[go_sem,d1];have hln:=cw1 qq a.l.length;have hzl:(ob++bi4 qq a.l.length).length<2^20:=by rw[List.length_append]; omega
   have hmm:(m:Int)∈ob++bi4 qq a.l.length:=List.mem_append_right _ (cv9.2 ⟨m,rfl,hml,by rw[hqn]; simp⟩)
   have hfin:∀ D:List Int,D.Pairwise (· < ·)->(∀ x,x∈D↔x∈ob++bi4 qq a.l.length)->D=bi4 (fun n=>decide ((n:Int)=m)||ac4.dz8 a.r.vendor down other (a.pk m) (a.pk n)||(!decide ((n:Int)=m)&&aa9 (a.pk n) (a.pk m))) a.l.length:=fun D h1 h2=>gi8 h1 (gu2 _ _) fun x=>by
    rw[h2,List.mem_append,obm,cv9,cv9];constructor
    ·rintro (⟨u,rfl,h3,h4,h5⟩|⟨u,rfl,h3,h4⟩)
     ·refine ⟨u,rfl,h3,?_⟩;have h6:¬ (u:Int)=m:=by omega
      simp only[ac4.pk,Int.toNat_natCast,h5,h6,decide_false,Bool.not_false,Bool.and_self,Bool.or_true]
     ·rw[hqn] at h4;exact ⟨u,rfl,h3,by rw[h4,Bool.true_or]⟩
    ·rintro ⟨u,rfl,h3,h4⟩;rw[Bool.or_eq_true] at h4;rcases h4 with h4|h4
     ·exact .inr ⟨u,rfl,h3,by rw[hqn]; exact h4⟩
     ·simp only[Bool.and_eq_true,Bool.not_eq_true',decide_eq_false_iff_not,ac4.pk,Int.toNat_natCast] at h4;exact .inl ⟨u,rfl,h3,by omega,h4.2⟩
   generalize ob++bi4 qq a.l.length=zs at *;rcases hg with ⟨_,h0⟩|⟨id,hid1,hid2,rfl,ho⟩
   ·rw[h0] at hmm; cases hmm
   refine ah1 fok172 (fo4 (zs:=zs) (by omega) ho) ?_;rintro v s' ⟨rfl,rfl⟩;refine ⟨by show t.next<=_; exact Nat.le_refl _,?_⟩;simp only[go_sem];have hsl:(if3 zs).length=zs.length:=List.length_mergeSort _;have hc:=gi7 (σ:=t.put id (.row ((if3 zs).map (IV.int .i64)))) (id:=id) (zs:=if3 zs) (by omega) (by simp only[aa7,if_true]) (iv6 zs);rw[hsl] at hc;refine ah1 fok173 hc ?_;rintro v s' ⟨⟨D,cs,q1,q2,rfl,q4,q5,q6⟩,hsn,hso⟩;refine ⟨hsn,?_⟩;have hD:=hfin D q1 fun x=>(q2 x).trans List.mem_mergeSort
   simp only[go_sem];have hsn':t.next<=s'.next:=hsn;have hkn:σ.next+1+1+1<=t.next:=hk.next;rw[<- hD];refine ⟨⟨by omega,fun i hi=>?_⟩,.inr ⟨id,cs,by omega,by omega,rfl,q4,q5,q6⟩⟩;have hne:i≠id:=by omega
   rw[hso i hne];show (if i=id then _ else t.obj i)=_;rw[if_neg hne,hk.obj i (by show i<σ.next+1+1+1; omega)];exact blo i hi
theorem cy6 (a:ac4)(i:Int)(hA:AOK a):PC Tryz.prog EE 103 [a.v,.int .i64 i] (.aa5 ((a.bi5 i).map Md.ah8)):=io5 fun σ=>dm1 a i hA σ
end Go.Id.Tryz
set_option linter.all false
namespace Go.Id.Tryz
open Go Go.Id Go.Proofs Go.Shelf Go.Id.Md
set_option maxRecDepth 100000
theorem ha7 {σ:Store}{g:Nat}{cap:List IV}(hok:okF Tryz.prog g=true)(hcap:∀ c∈cap,Bnd 0 c):C Tryz.prog EE 161 [.aa1,.func (.func g) [] cap] σ (ix5 σ []):=by
 refine C_f fok161 (nZ rfl) ?_;simp only[ic161,go_sem]
 have hI:C Tryz.prog EE 164 [.aa1,.func (.func g) [] cap] σ (io9 (.int .i64 (-1)) σ):=by
  refine gi9 (args':=[.aa5 (([]:List Int).map Md.ah8),.func (.func g) [] cap]) rfl (fun i hi=>?_) (eh8 (ca4 [] g [] cap (fun _=>true) (by simp) hok (fun z hz=>by cases hz)))
  match i,hi with
  | 0,_=>exact .cb8
  | 1,_=>exact .keep _ ((Nm.func _ _ _ (fun c hc=>by cases hc) hcap:Bnd 0 (.func (.func g) [] cap)).weak fun _ _=>rfl)
 refine ah1 fok164 hI ?_;rintro v s ⟨rfl,rfl⟩;refine ⟨Nat.le_refl _,?_⟩;simp only[go_sem];exact ⟨Kept.refl _,.inl ⟨rfl,rfl⟩⟩
theorem if7 {σ:Store}{v:IV}{lo g:Nat}{cap:List IV}{zs:List Int}(q:Int->Bool)(hz:zs.length<2^40)(hr:eg8 σ lo v zs)(hok:okF Tryz.prog g=true)(hcap:∀ c∈cap,Bnd 0 c)(hq:∀ z∈zs,PC Tryz.prog EE g (.int .i64 z::cap) (.bool (q z))) :
  C Tryz.prog EE 161 [v,.func (.func g) [] cap] σ (fun v s=>(σ.next<=s.next/\∀ i,i<lo->i<σ.next->s.obj i=σ.obj i)/\eg8 s (min lo σ.next) v (zs.filter fun x=>!q x)):=by
 rcases hr with ⟨rfl,rfl⟩|⟨id,cs,h1,h2,rfl,h4,h5,h6⟩
 ·exact (ha7 hok hcap).mono fun v s ⟨h1,h2⟩=>⟨⟨h1.next,fun i _ hi=>h1.obj i hi⟩,h2.low (Nat.min_le_right _ _)⟩
 ·refine (gj3 q hz h4 h5 h6 hok hcap hq).mono fun v s ⟨k1,k2,cs',k3,k4,k5,k6⟩=>⟨⟨k1,fun i hi _=>k2 i (by omega)⟩,.inr ⟨id,cs',by omega,by omega,k3,k4,k5,k6⟩⟩
theorem ha8 (a:ac4)(n:Int):PC Tryz.prog EE 198 [.int .i64 n,.ac1 [a.v]] (.bool (a.inst n || !a.fits n)):=by
 refine ae8 hE fok198 (nZ rfl) (aj6 (.int _ _) (.ac1 _ (aj1 (ag8 a)))) ?_;have h1:=bh2 a n;have h2:=cl3 a n;simp only[ic198,go_sem]
 first|refine aa4 fok167 (h1) ?_|refine aa2 (h1) ?_
 cases a.inst n with
 | true=>simp only[go_sem]; exact ab2 rfl
 | false=>
  simp only[go_sem]
  first|refine aa4 fok29 (h2) ?_|refine aa2 (h2) ?_
  simp only[go_sem];exact ab2 rfl
theorem gj4 (a:ac4)(n:Int):PC Tryz.prog EE 197 [.int .i64 n,.ac1 [a.v]] (.bool (!a.inst n)):=by
 refine ae8 hE fok197 (nZ rfl) (aj6 (.int _ _) (.ac1 _ (aj1 (ag8 a)))) ?_;have h1:=bh2 a n;simp only[ic197,go_sem]
 first|refine aa4 fok167 (h1) ?_|refine aa2 (h1) ?_
 simp only[go_sem];exact ab2 rfl
theorem fo9 (a:ac4)(i:Int)(hA:AOK a):PC Tryz.prog EE 133 [a.v,.int .i64 i] (.aa5 ((a.dz9 i).map Md.ah8)):=by
 refine ae8 hE fok133 (nZ rfl) (aj6 (ag8 a) (.int _ _)) ?_;have h1:=bh2 a i;have h2:=dm1 a i hA;have hba:=ag8 a;have hcl:=ha8 a;have hsl:=a.bz1 i;have hA1:=hA.len;have vcs:a.v.cs=[a.v]:=rfl;have vlf:a.v.leaf=true:=rfl;unfold ac4.dz9
 cases hi:a.inst i with
 | false=>
  rw[hi] at h1;have e:a.bi5 i=[]:=by unfold ac4.bi5; rw[hi]; rfl
  rw[e];generalize a.v=V at *;simp only[ic133,go_sem,vcs,List.all_cons,vlf,List.all_nil,List.head?_cons]
  first|refine aa4 fok167 (h1) ?_|refine aa2 (h1) ?_
  simp only[go_sem]
  exact .cb8
 | true=>
  rw[hi] at h1;generalize a.v=V at *;generalize a.bi5 i=zs at *;simp only[ic133,go_sem,vcs,List.all_cons,vlf,List.all_nil,List.head?_cons]
  first|refine aa4 fok167 (h1) ?_|refine aa2 (h1) ?_
  simp only[go_sem];refine ah1 fok103 (h2 _) ?_;rintro v s ⟨hk,hr⟩;refine ⟨hk.next,?_⟩;simp only[go_sem];refine ah1 fok161 (if7 (fun n=>a.inst n || !a.fits n) (by omega) hr fok198.1 (aj1 (.ac1 _ (aj1 hba))) fun z hz=>hcl z) ?_;rintro v s ⟨⟨h1,_⟩,hr⟩;refine ⟨h1,?_⟩;simp only[go_sem];exact hr.frz fun i _=>Nat.not_lt_zero i
theorem fp1 (l:List aa3)(d:Dep)(hl:l.length<2^20)(hs:∀ p∈l,Pkg.small p)(hd:Dep.small d)(σ:Store):C Tryz.prog EE 101 [(ah3 l).v,.agg d.cs] σ (cz8 σ (ao9 l d)):=by
 have hi:=bi3 l;have hlook:=hi.names d.name
 have hsift:∀ (σ:Store) v,(v=.aa5 ((ad3 (ah3 l).names d.name).map Md.ah8)\/v=.aa1/\ad3 (ah3 l).names d.name=[])->C Tryz.prog EE 165 [(ah3 l).v,v,.func (.func 166) [] [.ac1 d.cs]] σ (cz8 σ (ao9 l d)):=by
  intro σ v hv
  have h:=hm8 (ah3 l) (ad3 (ah3 l).names d.name) (by rw[hlook]; have:=al8 (fun p=>decide (p.name=d.name)) l; omega) 166 [.ac1 d.cs] (fun n=>named (l.getD n.toNat default) d) fok166.1 (fun n hn=>by
   rw[hlook] at hn;obtain ⟨m,rfl,hm⟩:=numsOf_at hn;refine ⟨m,rfl,by rw[hi.all]; exact hm,?_⟩;have e:(ah3 l).all[m]'(by rw[hi.all]; exact hm)=l[m]:=by simp only[hi.all]
   rw[e,Int.toNat_natCast,getD_at l m hm];exact cx4 l[m] m d (hs _ (List.getElem_mem hm)) hd) σ
  rw[er5] at h;rcases hv with rfl|⟨rfl,h0⟩
  ·exact h
  ·rw[h0] at h;refine gi9 (args':=[(ah3 l).v,.aa5 [],.func (.func 166) [] [.ac1 d.cs]]) rfl (fun i hi=>?_) h;have hw:∀ {v:IV} {σ:Store},Bnd 0 v->Frz σ (fun _=>true=true) v v:=fun h=>.keep _ (h.weak fun _ _=>rfl)
   match i,hi with
   | 0,_=>exact hw (bc2 (ah3 l))
   | 1,_=>exact .cb8
   | 2,_=>exact hw (.func _ _ _ (fun c hc=>by cases hc) (ae2 (bd8 d)))
 have hx:(ah3 l).v=.ac1 [.aa5 ((ah3 l).all.map aa3.cs),.al6 (nmV (ah3 l).av5),.al6 (nmV (ah3 l).names),.al6 (nmV (ah3 l).over)]:=rfl;have d0:d.cs.head? = some (.str d.name):=rfl
 have hk0:∀ σ:Store,∃ v,cr3 σ 2 .aa1 false (.al6 (nmV (ah3 l).names)) (.str d.name)=some v/\∀ τ,C Tryz.prog EE 165 [(ah3 l).v,v,.func (.func 166) [] [.ac1 d.cs]] τ (cz8 τ (ao9 l d)):=fun σ=>
  let ⟨v,h1,h2⟩:=eu6 (ah3 l).names σ d.name
  ⟨v,h1,fun τ=>hsift τ v h2⟩
 clear hsift hlook;rw[hx] at hk0 ⊢;generalize (ah3 l).all.map aa3.cs=a0 at *;refine C_f fok101 (nZ rfl) ?_;simp only[ic101,go_sem,ar5,ao2,am8,d0];obtain ⟨v,hk,hsv⟩:=hk0 ⟨σ.next+11,σ.obj⟩;simp only[go_sem,hk];refine ah1 fok165 (hsv _) ?_;rintro v' s ⟨hkp,hr⟩;refine ⟨hkp.next,?_⟩;simp only[go_sem];exact ⟨hkp.low,hr.low (Nat.le_add_right _ _)⟩
theorem iv7 (a:ac4){n:Int}(h:a.job n=true):0<=n/\n<a.r.ah4.length/\(a.r.ah4.map Job.cs).getD n.toNat []=(a.jb n).cs/\a.jb n∈a.r.ah4:=by
 unfold ac4.job at h;simp only[Bool.and_eq_true,decide_eq_true_eq] at h;have c1:n.toNat<a.r.ah4.length:=by omega
 have e:a.jb n=a.r.ah4[n.toNat]:=by simp[ac4.jb,List.getD_eq_getElem?_getD,c1]
 exact ⟨h.1,h.2,by rw[e]; simp[List.getD_eq_getElem?_getD,c1],by rw[e]; exact List.getElem_mem c1⟩
theorem bj4 (a:ac4)(j:Int)(hA:AOK a):PC Tryz.prog EE 130 [a.v,.int .i64 j] (.aa5 ((a.meant j).map Md.ah8)):=by
 refine ae8 hE fok130 (nZ rfl) (aj6 (ag8 a) (.int _ _)) ?_;have h1:=cy1 a j;have hba:=ag8 a;have hcl:=gj4 a;have hlen:=hA.len;unfold ac4.meant
 cases hj:a.job j with
 | false=>
  rw[hj] at h1;unfold ac4.v ac4.cs at *;simp only[ic130,go_sem]
  first|refine aa4 fok71 (h1) ?_|refine aa2 (h1) ?_
  simp only[go_sem]
  exact .cb8
 | true=>
  rw[hj] at h1;obtain ⟨j1,j2,j3,j4⟩:=iv7 a hj;have hds:=hA.ij5 _ j4;have hP:=bo2 a.l (a.jb j).dep (by omega) hA.small hds;have hN:=bv3 a.l (a.jb j).dep (by omega) hA.small hds;have hNc:=fp1 a.l (a.jb j).dep (by omega) hA.small hds;have b1:=ag9 (al9 a.l (a.jb j).dep);have b2:=ag9 (ao9 a.l (a.jb j).dep);have nl:(ao9 a.l (a.jb j).dep).length<=a.l.length:=al8 _ _;have k0:(a.jb j).cs.head? = some (.int .u8 (a.jb j).kind):=rfl;have k1:=cq8 (a.jb j);have k2:((a.jb j).cs.drop 1).length=5:=rfl;generalize a.jb j=x at *;generalize ao9 a.l x.dep=nm at *;generalize al9 a.l x.dep=pv at *;unfold ac4.v ac4.cs at *;generalize (ah3 a.l).v=X at *;have c21:¬ (2:Int)=1:=by decide
  by_cases e1:x.kind=1
  ·rw[if_pos rfl,if_pos e1];simp only[ic130,go_sem]
   first|refine aa4 fok71 (h1) ?_|refine aa2 (h1) ?_
   simp only[go_sem,j1,j2,j3,ax4,ba4,aq8,k0,k1,k2,e1]
   first|refine aa4 fok196 (hP) ?_|refine aa2 (hP) ?_
   simp only[go_sem];exact .keep _ b1
  by_cases e2:x.kind=2
  ·rw[if_pos rfl,if_neg e1,if_pos e2];simp only[ic130,go_sem]
   first|refine aa4 fok71 (h1) ?_|refine aa2 (h1) ?_
   simp only[go_sem,j1,j2,j3,ax4,ba4,aq8,k0,k1,k2,e2,c21]
   first|refine aa4 fok101 (hN) ?_|refine aa2 (hN) ?_
   simp only[go_sem,k0,e2];exact .keep _ b2
  ·rw[if_pos rfl,if_neg e1,if_neg e2];simp only[ic130,go_sem]
   first|refine aa4 fok71 (h1) ?_|refine aa2 (h1) ?_
   simp only[go_sem,j1,j2,j3,ax4,ba4,aq8,k0,k1,k2,e1];refine ah1 fok101 (hNc _) ?_;rintro v s ⟨hk,hr⟩;refine ⟨hk.next,?_⟩;have o0:s.obj 0=some (.cells x.cs):=(hk.obj 0 (Nat.succ_pos _)).trans (by simp only[aa7,if_true]);simp only[go_sem,o0,k0,e2];refine ah1 fok161 (if7 (fun n=>!a.inst n) (by omega) hr.w fok197.1 (aj1 (.ac1 _ (aj1 hba))) fun z hz=>hcl z) ?_;rintro v s ⟨⟨h1,_⟩,hr⟩;refine ⟨h1,?_⟩;have ef:(nm.filter fun x=>!(!a.inst x))=nm.filter fun n=>a.inst n:=List.filter_congr fun x _=>Bool.not_not _
   rw[ef] at hr;simp only[go_sem];exact hr.frz fun i _=>Nat.not_lt_zero i
theorem ha9 (state:List Int)(n:Int)(hs:state.length<2^40):PC Tryz.prog EE 195 [.int .i64 n,.ac1 [.aa5 (state.map Md.ah8)]] (.bool (decide (n∈state))):=by
 refine ae8 hE fok195 (nZ rfl) (aj6 (.int _ _) (.ac1 _ (aj1 (ag9 state)))) ?_;have h:=bz7 state n hs;simp only[ic195,go_sem]
 first|refine aa4 fok151 (h) ?_|refine aa2 (h) ?_
 simp only[go_sem];exact ab2 rfl
theorem dt7 (state l:List Int)(hs:state.length<2^40)(hl:l.length<2^40):PC Tryz.prog EE 129 [.aa5 (state.map Md.ah8),.aa5 (l.map Md.ah8)] (.bool (ac4.some state l)):=by
 refine ae8 hE fok129 (nZ rfl) (aj6 (ag9 _) (ag9 _)) ?_;have h:=bg9 l 195 [] [.ac1 [.aa5 (state.map Md.ah8)]] (fun n=>decide (n∈state)) (by omega) fok195.1 fun x hx=>ha9 state x hs
 simp only[ic129,go_sem]
 first|refine aa4 fok99 (h) ?_|refine aa2 (h) ?_
 simp only[go_sem];exact ab2 rfl
theorem ca5 (a:ac4)(j:Int):(a.meant j).length<=a.l.length:=by
 unfold ac4.meant;split
 ·split
  ·exact al8 _ _
  ·split
   ·exact al8 _ _
   ·exact Nat.le_trans (List.length_filter_le _ _) (al8 _ _)
 ·exact Nat.zero_le _
theorem dt8 (a:ac4)(j:Int)(state:List Int)(hA:AOK a)(hs:state.length<2^40):PC Tryz.prog EE 73 [a.v,.int .i64 j,.aa5 (state.map Md.ah8)] (.bool (ac4.some state (a.meant j))):=by
 refine ae8 hE fok73 (nZ rfl) (az8 (ag8 a) (.int _ _) (ag9 _)) ?_;have h1:=bj4 a j hA;have h2:=dt7 state (a.meant j) hs (by have:=ca5 a j; have:=hA.len; omega);simp only[ic73,go_sem]
 first|refine aa4 fok130 (h1) ?_|refine aa2 (h1) ?_
 simp only[go_sem]
 first|refine aa4 fok129 (h2) ?_|refine aa2 (h2) ?_
 simp only[go_sem];exact ab2 rfl
theorem en6 (a:ac4)(j:Int)(state:List Int)(hA:AOK a)(hs:state.length<2^40):PC Tryz.prog EE 74 [a.v,.int .i64 j,.aa5 (state.map Md.ah8)] (.bool (!ac4.some state (a.meant j))):=by
 refine ae8 hE fok74 (nZ rfl) (az8 (ag8 a) (.int _ _) (ag9 _)) ?_;have h1:=bj4 a j hA;have h2:=dt7 state (a.meant j) hs (by have:=ca5 a j; have:=hA.len; omega);simp only[ic74,go_sem]
 first|refine aa4 fok130 (h1) ?_|refine aa2 (h1) ?_
 simp only[go_sem]
 first|refine aa4 fok129 (h2) ?_|refine aa2 (h2) ?_
 simp only[go_sem];exact ab2 rfl
theorem en7 (a:ac4)(i:Int)(state:List Int)(hA:AOK a)(hs:state.length<2^40):PC Tryz.prog EE 131 [.int .i64 i,.ac1 [.aa5 (state.map Md.ah8)],.ac1 [a.v]] (.bool (!ac4.some state (a.bi5 i))):=by
 refine ae8 hE fok131 (nZ rfl) (az8 (.int _ _) (.ac1 _ (aj1 (ag9 _))) (.ac1 _ (aj1 (ag8 a)))) ?_;have h1:=cy6 a i hA;have h2:=dt7 state (a.bi5 i) hs (by have:=a.bz1 i; have:=hA.len; omega);simp only[ic131,go_sem]
 first|refine aa4 fok103 (h1) ?_|refine aa2 (h1) ?_
 simp only[go_sem]
 first|refine aa4 fok129 (h2) ?_|refine aa2 (h2) ?_
 simp only[go_sem];exact ab2 rfl
theorem hb7 (a:ac4)(i:Int)(state:List Int)(hA:AOK a)(hs:state.length<2^40):PC Tryz.prog EE 132 [.int .i64 i,.ac1 [a.v],.ac1 [.aa5 (state.map Md.ah8)]] (.bool (decide (0<(a.dz9 i).length)&&!ac4.some state (a.dz9 i))):=by
 refine ae8 hE fok132 (nZ rfl) (az8 (.int _ _) (.ac1 _ (aj1 (ag8 a))) (.ac1 _ (aj1 (ag9 _)))) ?_;have h1:=fo9 a i hA;have h2:=dt7 state (a.dz9 i) hs (by have:=a.gu3 i; have:=hA.len; omega);simp only[ic132,go_sem]
 first|refine aa4 fok133 (h1) ?_|refine aa2 (h1) ?_
 by_cases e:0<(a.dz9 i).length
 ·have e':(0:Int)<(a.dz9 i).length:=by omega
  simp only[go_sem,e']
  first|refine aa4 fok129 (h2) ?_|refine aa2 (h2) ?_
  simp only[go_sem];exact ab2 (by simp[e])
 ·have e':¬ (0:Int)<(a.dz9 i).length:=by omega
  simp only[go_sem,e'];exact ab2 (by simp[e])
theorem dt9 (a:ac4)(j:Int)(state:List Int)(hA:AOK a)(hs:state.length<2^40):PC Tryz.prog EE 75 [a.v,.int .i64 j,.aa5 (state.map Md.ah8)] (.bool (!(a.meant j).any fun i=>!ac4.some state (a.bi5 i))):=by
 refine ae8 hE fok75 (nZ rfl) (az8 (ag8 a) (.int _ _) (ag9 _)) ?_;have h1:=bj4 a j hA;have h2:=bg9 (a.meant j) 131 [] [.ac1 [.aa5 (state.map Md.ah8)],.ac1 [a.v]] (fun i=>!ac4.some state (a.bi5 i)) (by have:=ca5 a j; have:=hA.len; omega) fok131.1 fun x hx=>en7 a x state hA hs
 have vcs:a.v.cs=[a.v]:=rfl;have vlf:a.v.leaf=true:=rfl;simp only[ic75,go_sem,vcs,List.all_cons,vlf,List.all_nil,List.head?_cons]
 first|refine aa4 fok130 (h1) ?_|refine aa2 (h1) ?_
 simp only[go_sem]
 first|refine aa4 fok99 (h2) ?_|refine aa2 (h2) ?_
 simp only[go_sem];exact ab2 rfl
theorem fp3 (a:ac4)(j:Int)(state:List Int)(hA:AOK a)(hs:state.length<2^40):PC Tryz.prog EE 76 [a.v,.int .i64 j,.aa5 (state.map Md.ah8)] (.bool (!(a.meant j).any fun i=>decide (0<(a.dz9 i).length)&&!ac4.some state (a.dz9 i))):=by
 refine ae8 hE fok76 (nZ rfl) (az8 (ag8 a) (.int _ _) (ag9 _)) ?_;have h1:=bj4 a j hA;have h2:=bg9 (a.meant j) 132 [] [.ac1 [a.v],.ac1 [.aa5 (state.map Md.ah8)]] (fun i=>decide (0<(a.dz9 i).length)&&!ac4.some state (a.dz9 i)) (by have:=ca5 a j; have:=hA.len; omega) fok132.1 fun x hx=>hb7 a x state hA hs
 have vcs:a.v.cs=[a.v]:=rfl;have vlf:a.v.leaf=true:=rfl;simp only[ic76,go_sem,vcs,List.all_cons,vlf,List.all_nil,List.head?_cons]
 first|refine aa4 fok130 (h1) ?_|refine aa2 (h1) ?_
 simp only[go_sem]
 first|refine aa4 fok99 (h2) ?_|refine aa2 (h2) ?_
 simp only[go_sem];exact ab2 rfl
theorem ca6 (a:ac4)(j:Int)(state:List Int)(hA:AOK a)(hs:state.length<2^40):PC Tryz.prog EE 33 [a.v,.int .i64 j,.aa5 (state.map Md.ah8)] (.bool (a.bv1 j state)):=by
 refine ae8 hE fok33 (nZ rfl) (az8 (ag8 a) (.int _ _) (ag9 _)) ?_;have h1:=cy1 a j;have c1:=dt8 a j state hA hs;have c2:=en6 a j state hA hs;have c3:=dt9 a j state hA hs;have c4:=fp3 a j state hA hs;unfold ac4.bv1
 cases hj:a.job j with
 | false=>
  rw[hj] at h1;simp only[ic33,go_sem]
  first|refine aa4 fok71 (h1) ?_|refine aa2 (h1) ?_
  simp only[go_sem]
  exact ab2 rfl
 | true=>
  rw[hj] at h1;obtain ⟨j1,j2,j3,j4⟩:=iv7 a hj;have hk:=hA.jf6 _ j4;have k0:(a.jb j).cs.head? = some (.int .u8 (a.jb j).kind):=rfl;generalize ac4.some state (a.meant j)=B1 at *;generalize ((a.meant j).any fun i=>!ac4.some state (a.bi5 i))=B3 at *;generalize ((a.meant j).any fun i=>decide (0<(a.dz9 i).length)&&!ac4.some state (a.dz9 i))=B4 at *;generalize a.jb j=x at *;unfold ac4.v ac4.cs at *;have hk4:x.kind=1\/x.kind=2\/x.kind=3\/x.kind=4:=by omega
  simp only[ic33,go_sem]
  first|refine aa4 fok71 (h1) ?_|refine aa2 (h1) ?_
  have nfl:IV.ab8.leaf=true:=rfl;have q1:¬ (2:Int)=1:=by decide
  have q2:¬ (3:Int)=1:=by decide
  have q3:¬ (3:Int)=2:=by decide
  have q4:¬ (4:Int)=1:=by decide
  have q5:¬ (4:Int)=2:=by decide
  have q6:¬ (4:Int)=3:=by decide
  rcases hk4 with e|e|e|e
  ·simp only[go_sem,j1,j2,j3,ax4,ba4,aq8,k0,e,nfl]
   first|refine aa4 fok73 (c1) ?_|refine aa2 (c1) ?_
   simp only[go_sem];exact ab2 rfl
  ·simp only[go_sem,j1,j2,j3,ax4,ba4,aq8,k0,e,nfl,q1]
   first|refine aa4 fok74 (c2) ?_|refine aa2 (c2) ?_
   simp only[go_sem];exact ab2 rfl
  ·simp only[go_sem,j1,j2,j3,ax4,ba4,aq8,k0,e,nfl,q2,q3]
   first|refine aa4 fok75 (c3) ?_|refine aa2 (c3) ?_
   simp only[go_sem];exact ab2 rfl
  ·simp only[go_sem,j1,j2,j3,ax4,ba4,aq8,k0,e,nfl,q4,q5,q6]
   first|refine aa4 fok76 (c4) ?_|refine aa2 (c4) ?_
   simp only[go_sem];exact ab2 rfl
structure du1 (r:Req):Prop where
 ah4:r.ah4.length<2^20
 ah9:r.ah9.length<2^20
 ij5:∀ j∈r.ah4,Dep.small j.dep/\j.dep.name.length<2^30
theorem bc4 (r:Req):∀ c∈r.cs,Bnd 0 c:=ip7 (.int _ _) (.bool _) (ca2 _) (bc3 _) (.int _ _)
theorem if8 (r:Req):r.cs.length=5:=rfl
theorem ag7 (r:Req):r.cs.all IV.leaf=true:=rfl
theorem bj5 (r:Req):r.cs.take 5=r.cs:=rfl
theorem gj5 (j:Job)(h:Dep.small j.dep/\j.dep.name.length<2^30):PC Tryz.prog EE 83 [.agg j.cs] (.bool (!ay5 j)):=by
 refine ae8 hE fok83 (nZ rfl) (aj1 (gz9 j)) ?_;have hd:=bo1 j.dep (by omega) (by have:=h.1.2.2.1; omega) (by have:=h.1.2.2.2; omega);have k0:j.cs.head? = some (.int .u8 j.kind):=rfl;have k1:=cq8 j;have k2:(j.cs.drop 1).length=5:=rfl;unfold ay5;by_cases e1:j.kind<1
 ·have e1':¬ 1<=j.kind:=by omega
  simp only[ic83,go_sem,aq8,k0,e1];exact ab2 (by simp[e1'])
 have e1':1<=j.kind:=by omega
 by_cases e2:4<j.kind
 ·have e2':¬ j.kind<=4:=by omega
  simp only[ic83,go_sem,aq8,k0,e1,e2];exact ab2 (by simp[e2'])
 have e2':j.kind<=4:=by omega
 simp only[ic83,go_sem,aq8,k0,k1,k2,e1,e2]
 first|refine aa4 fok84 (hd) ?_|refine aa2 (hd) ?_
 simp only[go_sem];exact ab2 (by simp[e1',e2'])
theorem fp4 (e:bb8)(ah4 inst:Int):PC Tryz.prog EE 87 [.agg e.cs,.int .i64 ah4,.int .i64 inst] (.bool (au1 e ah4 inst)):=by
 refine ae8 hE fok87 (nZ rfl) (az8 (ca3 e) (.int _ _) (.int _ _)) ?_;have k0:e.cs.head? = some (.int .u8 e.kind):=rfl;have k1:(e.cs.drop 1).head? = some (.int .i64 e.n):=rfl;unfold au1;by_cases d1:e.kind=1
 case' pos=>
  have f1:(1:Int)<=1:=by decide
  have f2:(1:Int)<=4:=by decide
  rw[d1] at k0 ⊢;simp only[ic87,go_sem,aj3,k0,f1,f2,k1];generalize ah4=most
 case' neg=>
  rw[if_neg d1];by_cases d2:1<=e.kind
  case' neg=>
   simp only[ic87,go_sem,aj3,k0,d1,d2];exact ab2 (by simp)
  by_cases d3:e.kind<=4
  case' neg=>
   simp only[ic87,go_sem,aj3,k0,d1,d2,d3];exact ab2 (by simp)
  simp only[ic87,go_sem,aj3,k0,d1,d2,d3,k1];generalize inst=most
 all_goals
  by_cases d4:0<=e.n
  ·simp only[go_sem,d4,k1];exact ab2 (by simp)
  ·simp only[go_sem,d4];exact ab2 (by simp)
theorem if9 (e:bb8)(p:Pool)(r:Req):PC Tryz.prog EE 86 [.agg e.cs,.ac1 r.cs,.ac1 [p.v]] (.bool (!au1 e r.ah4.length p.inst)):=by
 refine ae8 hE fok86 (nZ rfl) (az8 (ca3 e) (.ac1 _ (bc4 r)) (.ac1 _ (aj1 (ax6 p)))) ?_;have h1:=az4 p;have h2:=fp4 e r.ah4.length p.inst;have k2:(r.cs.drop 2).head? = some (be4 r.ah4):=rfl;simp only[ic86,go_sem,aj3,aq9,ao6,k2]
 first|refine aa4 fok88 (h1) ?_|refine aa2 (h1) ?_
 simp only[go_sem]
 first|refine aa4 fok87 (h2) ?_|refine aa2 (h2) ?_
 simp only[go_sem];exact ab2 rfl
theorem hn7 (r:Req)(h1:r.ah4.length<=2147483648)(h2:r.ah9.length<=2147483648):PC Tryz.prog EE 90 [.agg r.cs] (.agg r.cs):=by
 refine ae8 hE fok90 (nZ rfl) (aj1 (.agg _ (bc4 r))) ?_;have c1:=en3 r.ah4 h1;have c2:=ec8 r.ah9 h2;have hb:=bc4 r;unfold Req.cs at *;simp only[ic90,go_sem]
 first|refine aa4 fok152 (c1) ?_|refine aa2 (c1) ?_
 simp only[go_sem]
 first|refine aa4 fok153 (c2) ?_|refine aa2 (c2) ?_
 simp only[go_sem];exact .keep _ (.agg _ hb)
theorem ig1 {α:Type}(q:α->Bool)(l:List α):(l.any fun x=>!q x)=!l.all q:=by
 induction l with
 | nil=>rfl
 | cons x l ih=>simp only[List.any_cons,List.all_cons,ih,Bool.not_and]
theorem gj6 (p:Pool)(r:Req)(hR:du1 r)(hl:(ad4 p).length<=256)(hf:∀ x∈ad4 p,x.Fit/\x.Tiny):PC Tryz.prog EE 39 [p.v,.agg r.cs] (ij3 p r):=by
 refine ae8 hE fok39 (nZ rfl) (aj6 (ax6 p) (.agg _ (bc4 r))) ?_;have hm:=cl2 r.aq4;have hJ:=gj2 r.ah4 83 [] [] (fun j=>!ay5 j) (by have:=hR.ah4; omega) fok83.1 fun j hj=>gj5 j (hR.ij5 j hj)
 have hEd:=fo6 r.ah9 86 [] [.ac1 r.cs,.ac1 [p.v]] (fun e=>!au1 e r.ah4.length p.inst) (by have:=hR.ah9; omega) fok86.1 fun e he=>if9 e p r
 rw[ig1] at hJ hEd;have hrl:p.rows.length=(ad4 p).length:=by simp[ad4]
 have hM:=bj1 p (fun x hx=>(hf _ (List.mem_map_of_mem (f:=fun x:bb3=>x.pkg) hx)).1) (by omega) (fun x hx=>by
  have:=(hf _ (List.mem_map_of_mem (f:=fun x:bb3=>x.pkg) hx)).2;have a:=this.av5.1; have b:=this.obs.1; have c:=this.files; omega)
 have hM:PC Tryz.prog EE 89 [p.v] (.tuple [(ah3 (ad4 p)).v,.int .i64 0]):=hM;have hO:=hn7 r (by have:=hR.ah4; omega) (by have:=hR.ah9; omega);have hC:=ay8 p;rw[hrl] at hC
 have hpk:∀ j (h:j<(ad4 p).length),PC Tryz.prog EE 91 [p.v,.int .i64 j] (.tuple [.agg (ad4 p)[j].cs,.int .i64 0]):=fun j h=>by
  have hq:p.rows[j].pkg=(ad4 p)[j]:=by simp[ad4]
  have h1:=be5 p j (by omega) (by rw[hq]; exact (hf _ (List.getElem_mem h)).1);rw[hq] at h1; exact h1
 have hbA:=ag8 ⟨p,r⟩;have k0:r.cs.head? = some (.int .u8 r.aq4):=rfl;have k2:(r.cs.drop 2).head? = some (be4 r.ah4):=rfl;have k3:(r.cs.drop 3).head? = some (au7 r.ah9):=rfl;have k4:(r.cs.drop 4).head? = some (.int .i64 r.budget):=rfl;obtain ⟨V,hV⟩:∃ V,ij3 p r=V:=⟨_,rfl⟩
 have herr:∀ (s:Store) (e:Int),ak8 r p.inst=e->e≠0->cm1 s 0 (.tuple [.ab6,.int .i64 e]) V:=fun s e h1 h2=>by
  rw[<- hV];unfold ij3;rw[h1,if_neg h2];exact .keep _ (.tuple _ (aj6 .ab6 (.int _ _)))
 rw[hV];have vcs:p.v.cs=[p.v]:=rfl;have vlf:p.v.leaf=true:=rfl;have vnl:∀ d:TypeId,bv7 (.pointer d) p.v=some false:=fun _=>rfl
 by_cases c1:bt1 r.aq4=false
 ·simp only[ic39,go_sem,vcs,List.all_cons,vlf,List.all_nil,List.head?_cons,ag7,vnl,k0]
  first|refine aa4 fok81 (hm) ?_|refine aa2 (hm) ?_
  simp only[go_sem,c1];exact herr _ 1 (by unfold ak8; rw[if_pos (.inl c1)]) (by decide)
 have c1':bt1 r.aq4=true:=by simpa using c1
 by_cases c2:r.budget<0
 ·simp only[ic39,go_sem,vcs,List.all_cons,vlf,List.all_nil,List.head?_cons,ag7,vnl,k0]
  first|refine aa4 fok81 (hm) ?_|refine aa2 (hm) ?_
  simp only[go_sem,c1',k4,c2];exact herr _ 1 (by unfold ak8; rw[if_pos (.inr (.inl c2))]) (by decide)
 by_cases c3:1099511627776<r.budget
 ·simp only[ic39,go_sem,vcs,List.all_cons,vlf,List.all_nil,List.head?_cons,ag7,vnl,k0]
  first|refine aa4 fok81 (hm) ?_|refine aa2 (hm) ?_
  simp only[go_sem,c1',k4,c2,c3];exact herr _ 1 (by unfold ak8; rw[if_pos (.inr (.inr c3))]) (by decide)
 have q1:¬ (bt1 r.aq4=false\/r.budget<0\/1099511627776<r.budget):=fun h=>h.elim c1 fun h=>h.elim c2 c3
 by_cases c4:64<r.ah4.length
 ·have c4':(64:Int)<r.ah4.length:=by omega
  simp only[ic39,go_sem,vcs,List.all_cons,vlf,List.all_nil,List.head?_cons,ag7,vnl,k0]
  first|refine aa4 fok81 (hm) ?_|refine aa2 (hm) ?_
  simp only[go_sem,c1',k4,c2,c3,k2,c4'];exact herr _ 40 (by unfold ak8; rw[if_neg q1,if_pos (.inl c4)]) (by decide)
 have c4':¬ (64:Int)<r.ah4.length:=by omega
 by_cases c5:64<r.ah9.length
 ·have c5':(64:Int)<r.ah9.length:=by omega
  simp only[ic39,go_sem,vcs,List.all_cons,vlf,List.all_nil,List.head?_cons,ag7,vnl,k0]
  first|refine aa4 fok81 (hm) ?_|refine aa2 (hm) ?_
  simp only[go_sem,c1',k4,c2,c3,k2,k3,c4',c5'];exact herr _ 40 (by unfold ak8; rw[if_neg q1,if_pos (.inr c5)]) (by decide)
 have c5':¬ (64:Int)<r.ah9.length:=by omega
 have q2:¬ (64<r.ah4.length\/64<r.ah9.length):=fun h=>h.elim c4 c5
 by_cases c6:r.ah4.all ay5=false
 ·simp only[ic39,go_sem,vcs,List.all_cons,vlf,List.all_nil,List.head?_cons,ag7,vnl,k0]
  first|refine aa4 fok81 (hm) ?_|refine aa2 (hm) ?_
  simp only[go_sem,c1',k4,c2,c3,k2,k3,c4',c5']
  first|refine aa4 fok82 (hJ) ?_|refine aa2 (hJ) ?_
  simp only[go_sem,c6,Bool.not_false];exact herr _ 4 (by unfold ak8; rw[if_neg q1,if_neg q2,if_pos c6]) (by decide)
 have c6':r.ah4.all ay5=true:=by simpa using c6
 simp only[ic39,go_sem,vcs,List.all_cons,vlf,List.all_nil,List.head?_cons,ag7,vnl,k0]
 first|refine aa4 fok81 (hm) ?_|refine aa2 (hm) ?_
 simp only[go_sem,c1',k4,c2,c3,k2,k3,c4',c5']
 first|refine aa4 fok82 (hJ) ?_|refine aa2 (hJ) ?_
 simp only[go_sem,c6',Bool.not_true,k3]
 first|refine aa4 fok85 (hEd) ?_|refine aa2 (hEd) ?_
 by_cases c7:(r.ah9.all fun e=>au1 e r.ah4.length p.inst)=false
 ·simp only[go_sem,c7,Bool.not_false];exact herr _ 5 (by unfold ak8; rw[if_neg q1,if_neg q2,if_neg c6,if_pos c7]) (by decide)
 have c7':(r.ah9.all fun e=>au1 e r.ah4.length p.inst)=true:=by simpa using c7
 have hV0:V=.tuple [.ac1 [p.v,(ah3 (ad4 p)).v,.int .u8 r.aq4,.bool r.vendor,be4 r.ah4,au7 r.ah9,.int .i64 r.budget,.aa5 ((ad4 p).map aa3.cs)],.int .i64 0]:=by
  rw[<- hV];unfold ij3;rw[if_pos (by unfold ak8; rw[if_neg q1,if_neg q2,if_neg c6,if_neg c7])];rfl
 have hbX:=bc2 (ah3 (ad4 p));have hbP:=ax6 p;rw[hV0];clear herr hV hV0 hJ hEd;simp only[go_sem,c7',Bool.not_true]
 first|refine aa4 fok89 (hM) ?_|refine aa2 (hM) ?_
 simp only[go_sem,if8,bj5]
 first|refine aa4 fok90 (hO) ?_|refine aa2 (hO) ?_
 have hrc:r.cs=[.int .u8 r.aq4,.bool r.vendor,be4 r.ah4,au7 r.ah9,.int .i64 r.budget]:=rfl;rw[hrc];have xlf:(ah3 (ad4 p)).v.leaf=true:=rfl;have xcs:(ah3 (ad4 p)).v.cs=[(ah3 (ad4 p)).v]:=rfl;generalize (ah3 (ad4 p)).v=X at *;generalize hPv:p.v=Pv at *;simp only[go_sem,vcs,vlf,xlf,xcs]
 first|refine aa4 fok27 (hC) ?_|refine aa2 (hC) ?_
 simp only[go_sem];refine ab7 noT (fun n fr s=>∃ gv,fr=[(2,.ac1 [Pv]),(8,.ptr 5 0),(65,.int .i64 (ad4 p).length),(66,.int .i64 (n:Int))]/\7<=s.next/\s.obj 5=some (.cells [Pv,X,.int .u8 r.aq4,.bool r.vendor,be4 r.ah4,au7 r.ah9,.int .i64 r.budget,gv])/\Grow s gv 15 (((ad4 p).take n).map aa3.cs)) (ad4 p).length ⟨.aa1,rfl,Nat.le_refl _,by simp only[aa7,if_true],.inl ⟨rfl,rfl⟩⟩ ?_;rintro n fr s hn ⟨gv,rfl,hnx,ho,hg⟩;by_cases hlt:n<(ad4 p).length
 ·have d1:(n:Int)<((ad4 p).length:Int):=by omega
  have w1:=ad6 (i:=n) (by omega);have hp:=hpk n hlt;have n5:¬ 5=s.next:=by omega
  have htk:(ad4 p).take (n+1)=(ad4 p).take n++[(ad4 p)[n]]:=by
   rw[List.take_add_one,List.getElem?_eq_getElem hlt]; rfl
  have hgl:gv.leaf=true:=by rcases hg with ⟨rfl,_⟩|⟨id,rfl,_⟩<;>rfl
  have hgc:gv.cs=[gv]:=by rcases hg with ⟨rfl,_⟩|⟨id,rfl,_⟩<;>rfl
  simp only[go_sem,d1]
  first|refine aa4 fok91 (hp) ?_|refine aa2 (hp) ?_
  simp only[go_sem,ag4,ag6,ac9,n5,ho,b_o,b_p,b_t];obtain ⟨s1,a1,a2,a3,a4⟩:=gq9 (k:=11) (nid:=s.next+1+1+1+1+1+1+1+1) (e:=(ad4 p)[n].cs) (A:=.cells [.str [],.int .i64 0,.str [],.str [],.int .u8 0,.str [],.aa1,.aa1,.aa1,.aa1,.aa1,.aa1,.aa1,.aa1,.aa1]) (B:=.cells (ad4 p)[n].cs) hg (bc1 _) ⟨rfl,rfl⟩ (by rw[List.length_map,List.length_take]; omega) ho (by omega) (by omega);simp only[go_sem,a1,a3,b_o,b_p,b_t,w1];refine ⟨hlt,_,by rw[a2]; omega,rfl,?_⟩;rw[htk,List.map_append];have a5:=a4 [Pv,X,.int .u8 r.aq4,.bool r.vendor,be4 r.ah4,au7 r.ah9,.int .i64 r.budget,.slice (s.next+1+1+1+1+1+1+1+1) 0 (((ad4 p).take n).length+1) 15] s1.next (by rw[a2]; omega);rw[List.length_map] at a5;exact a5
 ·have hn':n=(ad4 p).length:=by omega
  subst hn';have d1:¬ ((ad4 p).length:Int)<((ad4 p).length:Int):=by omega
  rw[List.take_length] at hg;simp only[go_sem,d1]
  have hbe:∀ e∈(ad4 p).map aa3.cs,∀ c∈e,Bnd 0 c:=fun e he c hc=>by
   obtain ⟨y,_,rfl⟩:=List.mem_map.1 he;exact az2 y c hc
  refine .cl8 (.cons (.ptr 5 0 _ _ (Nat.not_lt_zero _) (.inl ho) (Nat.le_refl _) (fun j hj=>?_)) (.cons (bv6 rfl) .nil))
  match j,hj with
  | 0,_=>exact .keep _ hbP
  | 1,_=>exact .keep _ hbX
  | 2,_=>exact .keep _ (.int _ _)
  | 3,_=>exact .keep _ (.bool _)
  | 4,_=>exact .keep _ (ca2 _)
  | 5,_=>exact .keep _ (bc3 _)
  | 6,_=>exact .keep _ (.int _ _)
  | 7,_=>exact hg.frz (fun x hx=>(bc1 _ x hx).1) (fun _ _=>Nat.not_lt_zero _) hbe
end Go.Id.Tryz
