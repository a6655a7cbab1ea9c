/- What is asked for: each question of one or two numbers. Conditions: sizes that fit. -/
import Derived.Test.YtebfbbjghhagbaaGreatDoorTMSD
import Derived.Test.YtebfbbjghhagbaaGreatDoorMw
set_option linter.all false
namespace Go.Id.Tryz
open Go Go.Id Go.Proofs Go.Shelf Go.Id.Md
set_option maxRecDepth 100000
structure AOK (a:ac5):Prop where
 len:a.l.length<=256
 small:∀ p∈a.l,Pkg.small p
 fit:∀ p∈a.l,p.Fit
 tiny:∀ p∈a.l,p.Tiny
 inst:a.p.inst<=a.l.length
 ai4:a.r.ai4.length<=64
 ai5:a.r.ai5.length<=128
 ij7:∀ j∈a.r.ai4,Dep.small j.dep
 jf6:∀ j∈a.r.ai4,1<=j.kind/\j.kind<=4
theorem ah4 (a:ac5):Bnd 0 a.v:=.ac2 _ fun c hc=>by
 simp only[ac5.cs,List.mem_cons,List.not_mem_nil,or_false] at hc;rcases hc with rfl|rfl|rfl|rfl|rfl|rfl|rfl|rfl
 ·exact be2 _
 ·exact bc5 _
 ·exact .int _ _
 ·exact .bool _
 ·exact ca7 _
 ·exact bc6 _
 ·exact .int _ _
 ·exact aw4 _
theorem au8 {d:TypeId}{c:IV}{cs:List IV}:bw8 (.pointer d) (.ac2 (c::cs))=some false:=rfl
theorem cr2 (a:ac5)(n:Int):PC Tryz.prog EE 65 [a.v,.int .i64 n] (.bool (a.is n)):=by
 refine af3 hE fok65 (nZ rfl) (ak2 (ah4 a) (.int _ _)) ?_;unfold ac5.is ac5.v ac5.cs;have hl:(a.l.map aa3.cs).length=a.l.length:=List.length_map ..;generalize a.l.map aa3.cs=es at *;generalize a.l.length=k at *;by_cases h1:0<=n
 ·by_cases h2:n<(k:Nat)
  ·simp only[ic65,go_sem,au8,h1,h2,hl]; exact ab2 rfl
  ·simp only[ic65,go_sem,au8,h1,h2,hl]; exact ab2 rfl
 ·simp only[ic65,go_sem,au8,h1]; exact ab2 rfl
theorem cx9 (a:ac5)(n:Int):PC Tryz.prog EE 71 [a.v,.int .i64 n] (.bool (a.job n)):=by
 refine af3 hE fok71 (nZ rfl) (ak2 (ah4 a) (.int _ _)) ?_;unfold ac5.job ac5.v ac5.cs;by_cases h1:0<=n
 ·by_cases h2:n<(a.r.ai4.length:Nat)
  ·simp only[ic71,go_sem,au8,h1,h2]; exact ab2 (by simp[h1, *])
  ·simp only[ic71,go_sem,au8,h1,h2]; exact ab2 (by simp[h1, *])
 ·simp only[ic71,go_sem,au8,h1]; exact ab2 rfl
theorem bh7 (a:ac5)(n:Int):PC Tryz.prog EE 167 [a.v,.int .i64 n] (.bool (a.inst n)):=by
 refine af3 hE fok167 (nZ rfl) (ak2 (ah4 a) (.int _ _)) ?_;have h:=cr2 a n;have hp:=az8 a.p;unfold ac5.inst;unfold ac5.v ac5.cs at *;simp only[ic167,go_sem]
 first|refine aa4 fok65 (h) ?_|refine aa2 (h) ?_
 cases a.is n with
 | false=>simp only[go_sem]; exact ab2 rfl
 | true=>
  simp only[go_sem]
  first|refine aa4 fok88 (hp) ?_|refine aa2 (hp) ?_
  simp only[go_sem];exact ab2 rfl
theorem dl7 (a:ac5)(n:Int):PC Tryz.prog EE 29 [a.v,.int .i64 n] (.bool (a.fits n)):=by
 refine af3 hE fok29 (nZ rfl) (ak2 (ah4 a) (.int _ _)) ?_;have h:=cr2 a n;have hf:=if8 a.r.au3 (a.pk n).au3;unfold ac5.fits
 cases hi:a.is n with
 | false=>
  rw[hi] at h;unfold ac5.v ac5.cs at *;simp only[ic29,go_sem]
  first|refine aa4 fok65 (h) ?_|refine aa2 (h) ?_
  simp only[go_sem]; exact ab2 rfl
 | true=>
  rw[hi] at h;unfold ac5.is at hi;simp only[Bool.and_eq_true,decide_eq_true_eq] at hi;have hl:(a.l.map aa3.cs).length=a.l.length:=List.length_map ..;have c1:n.toNat<a.l.length:=by omega
  have hg:(a.l.map aa3.cs).getD n.toNat []=(a.pk n).cs:=by
   unfold ac5.pk;rw[getD_at _ _ c1];simp[List.getD_eq_getElem?_getD,c1]
  have p4:((a.pk n).cs.drop 4).head? = some (.int .u8 (a.pk n).au3):=rfl;unfold ac5.v ac5.cs at *;generalize a.pk n=q at *;generalize a.l.map aa3.cs=es at *;have c2:n<(es.length:Nat):=by omega
  simp only[ic29,go_sem]
  first|refine aa4 fok65 (h) ?_|refine aa2 (h) ?_
  simp only[go_sem,hi.1,c2,hg,p4,ag8]
  first|refine aa4 fok66 (hf) ?_|refine aa2 (hf) ?_
  simp only[go_sem];exact ab2 rfl
theorem be6 (a:ac5)(k n:Int)(hA:AOK a):PC Tryz.prog EE 72 [a.v,.int .u8 k,.int .i64 n] (.bool (a.bz6 k n)):=by
 refine af3 hE fok72 (nZ rfl) (bb6 (ah4 a) (.int _ _) (.int _ _)) ?_;have h:=fo4 a.r.ai5 ⟨k,n⟩ (by have:=hA.ai5; omega);unfold ac5.bz6;unfold ac5.v ac5.cs;unfold bc2.cs at h;simp only[ic72,go_sem]
 first|refine aa4 fok128 (h) ?_|refine aa2 (h) ?_
 simp only[go_sem];exact ab2 rfl
theorem cb1 (a:ac5)(n:Int)(hA:AOK a):PC Tryz.prog EE 32 [a.v,.int .i64 n] (.bool (a.dropped n)):=by
 refine af3 hE fok32 (nZ rfl) (ak2 (ah4 a) (.int _ _)) ?_;have h:=cx9 a n;have h2:=be6 a 1 n hA;unfold ac5.dropped;simp only[ic32,go_sem]
 first|refine aa4 fok71 (h) ?_|refine aa2 (h) ?_
 cases a.job n with
 | false=>simp only[go_sem]; exact ab2 rfl
 | true=>
  simp only[go_sem]
  first|refine aa4 fok72 (h2) ?_|refine aa2 (h2) ?_
  simp only[go_sem];exact ab2 rfl
theorem gz7 (a:ac5){n:Int}(h:a.is n=true):0<=n/\n<(a.l.map aa3.cs).length/\(a.l.map aa3.cs).getD n.toNat []=(a.pk n).cs/\a.pk n∈a.l:=by
 unfold ac5.is at h;simp only[Bool.and_eq_true,decide_eq_true_eq] at h;have c1:n.toNat<a.l.length:=by omega
 refine ⟨h.1,by rw[List.length_map]; exact h.2,?_,?_⟩
 ·unfold ac5.pk;rw[getD_at _ _ c1];simp[List.getD_eq_getElem?_getD,c1]
 ·unfold ac5.pk;rw[getD_at _ _ c1];exact List.getElem_mem c1
theorem ew4 (p:aa3):(p.cs.drop 1).length=14:=rfl
theorem en4 (a:ac5)(n m:Int)(hA:AOK a):PC Tryz.prog EE 30 [a.v,.int .i64 n,.int .i64 m] (.bool (a.twins n m)):=by
 refine af3 hE fok30 (nZ rfl) (bb6 (ah4 a) (.int _ _) (.int _ _)) ?_;have hn:=cr2 a n;have hm:=cr2 a m;unfold ac5.twins
 cases i1:a.is n with
 | false=>
  rw[i1] at hn;unfold ac5.v ac5.cs at *;simp only[ic30,go_sem]
  first|refine aa4 fok65 (hn) ?_|refine aa2 (hn) ?_
  simp only[go_sem]; exact ab2 rfl
 | true=>
 cases i2:a.is m with
 | false=>
  rw[i1] at hn;rw[i2] at hm;unfold ac5.v ac5.cs at *;simp only[ic30,go_sem]
  first|refine aa4 fok65 (hn) ?_|refine aa2 (hn) ?_
  simp only[go_sem]
  first|refine aa4 fok65 (hm) ?_|refine aa2 (hm) ?_
  simp only[go_sem]; exact ab2 rfl
 | true=>
 obtain ⟨n1,n2,n3,n4⟩:=gz7 a i1;obtain ⟨m1,m2,m3,m4⟩:=gz7 a i2;rw[i1] at hn;rw[i2] at hm;have hap:=ew1 (a.pk n).au3 (a.pk m).au3;have hev:=bj7 (a.pk n).evr (a.pk m).evr (hA.small _ n4).1 (hA.small _ m4).1;unfold ac5.hj9;unfold ac5.v ac5.cs at *;generalize a.pk n=p at *;generalize a.pk m=q at *;generalize a.l.map aa3.cs=es at *;by_cases e:n=m
 ·simp only[ic30,go_sem]
  first|refine aa4 fok65 (hn) ?_|refine aa2 (hn) ?_
  simp only[go_sem]
  first|refine aa4 fok65 (hm) ?_|refine aa2 (hm) ?_
  simp only[go_sem,e]; exact ab2 (by simp)
 have p0:p.cs.head? = some (.str p.name):=rfl;have q0:q.cs.head? = some (.str q.name):=rfl;have p4:(p.cs.drop 4).head? = some (.int .u8 p.au3):=rfl;have q4:(q.cs.drop 4).head? = some (.int .u8 q.au3):=rfl;have p1:(p.cs.drop 1).take 3=p.evr.cs:=rfl;have q1:(q.cs.drop 1).take 3=q.evr.cs:=rfl;simp only[ic30,go_sem]
 first|refine aa4 fok65 (hn) ?_|refine aa2 (hn) ?_
 simp only[go_sem]
 first|refine aa4 fok65 (hm) ?_|refine aa2 (hm) ?_
 simp only[go_sem,e,n1,n2,n3,m1,m2,m3,ag8,ah1,ad2,p0,q0];by_cases e2:p.name=q.name
 ·simp only[go_sem,e2,p4,q4]
  first|refine aa4 fok67 (hap) ?_|refine aa2 (hap) ?_
  cases dz7 p.au3 q.au3 with
  | false=>simp only[go_sem]; exact ab2 rfl
  | true=>
   simp only[go_sem,ag8,p1,q1,ew4]
   first|refine aa4 fok68 (hev) ?_|refine aa2 (hev) ?_
   simp only[go_sem];exact ab2 (by simp)
 ·simp only[go_sem,e2];exact ab2 (by simp)
theorem cr3 (j:Job):(j.cs.drop 1).take 5=j.dep.cs:=rfl
theorem cy1 (a:ac5)(k n:Int)(hA:AOK a):PC Tryz.prog EE 168 [a.v,.int .u8 k,.int .i64 n] (.bool (a.bv7 k n)):=by
 refine af3 hE fok168 (nZ rfl) (bb6 (ah4 a) (.int _ _) (.int _ _)) ?_;have hD:∀ i:Nat,i<a.r.ai4.length->PC Tryz.prog EE 32 [a.v,.int .i64 i] (.bool (a.dropped i)):=fun i _=>cb1 a i hA
 have hN:∀ (i:Nat) (h:i<a.r.ai4.length),PC Tryz.prog EE 101 [(ah7 a.l).v,.agg (a.jb i).dep.cs] (.aa5 ((ap6 a.l (a.jb i).dep).map Md.ai2)):=fun i h=>
  bv9 a.l (a.jb i).dep (by have:=hA.len; omega) hA.small (hA.ij7 _ (by
   have e:a.jb i=a.r.ai4[i]:=by simp[ac5.jb,List.getD_eq_getElem?_getD,h]
   rw[e]; exact List.getElem_mem h))
 have hH:∀ i:Nat,PC Tryz.prog EE 151 [.aa5 ((ap6 a.l (a.jb i).dep).map Md.ai2),.int .i64 n] (.bool (decide (n∈ap6 a.l (a.jb i).dep))):=fun i=>
  ca4 _ n (by have h1:=am2 (fun p=>named p (a.jb i).dep) a.l; have:=hA.len; have:(ap6 a.l (a.jb i).dep).length<=a.l.length:=h1; omega)
 have hg:∀ i:Nat,i<a.r.ai4.length->(a.r.ai4.map Job.cs).getD i []=(a.jb i).cs:=fun i h=>by simp[ac5.jb,List.getD_eq_getElem?_getD,h]
 have hlen:=hA.ai4;unfold ac5.bv7;unfold ac5.v ac5.cs at *;simp only[ic168,go_sem];generalize a.dropped=dr at *;generalize a.jb=jb at *;generalize ap6 a.l=nm at *;refine ab7 noT (fun i fr s=>fr=[(0,.ac2 [a.p.v,(ah7 a.l).v,.int .u8 a.r.au3,.bool a.r.vendor,bi9 a.r.ai4,av3 a.r.ai5,.int .i64 a.r.budget,.aa5 (a.l.map aa3.cs)]),(1,.int .u8 k),(2,.int .i64 n),(13,.aa5 (a.r.ai4.map Job.cs)),(14,.int .i64 a.r.ai4.length),(15,.int .i64 (i:Int))]/\((List.range i).any fun i=>decide ((jb i).kind=k)&&!dr i&&decide (n∈nm (jb i).dep))=false) a.r.ai4.length ⟨rfl,rfl⟩ ?_;rintro i fr t hi ⟨rfl,hf⟩;by_cases hlt:i<a.r.ai4.length
 ·have c1:(i:Int)<a.r.ai4.length:=by omega
  have c2:(0:Int)<=i:=by omega
  have w1:=ae1 (i:=i) (by omega);have hgi:=hg i hlt;have hDi:=hD i hlt;have hNi:=hN i hlt;have hHi:=hH i
  have hex:∀ b,(decide ((jb i).kind=k)&&!dr i&&decide (n∈nm (jb i).dep))=b->(b=true->((List.range a.r.ai4.length).any fun i=>decide ((jb i).kind=k)&&!dr i&&decide (n∈nm (jb i).dep))=true)/\(b=false->((List.range i++[i]).any fun i=>decide ((jb i).kind=k)&&!dr i&&decide (n∈nm (jb i).dep))=false):=by
   intro b hb;refine ⟨fun h=>List.any_eq_true.2 ⟨i,List.mem_range.2 hlt,by rw[hb]; exact h⟩,fun h=>?_⟩;rw[List.any_append,hf];simp only[List.any_cons,List.any_nil,Bool.or_false,Bool.false_or,hb,h]
  clear hD hN hH hg;have j0:(jb i).cs.head? = some (.int .u8 (jb i).kind):=rfl;have j1:=cr3 (jb i);have j2:((jb i).cs.drop 1).length=5:=rfl;generalize jb i=j at *;simp only[go_sem,c1,c2,hgi,ay1,ba7,ar2,j0];by_cases e1:j.kind=k
  ·simp only[go_sem,e1]
   first|refine aa4 fok32 (hDi) ?_|refine aa2 (hDi) ?_
   cases e2:dr (i:Int) with
   | true=>
    simp only[go_sem,w1]
    exact ⟨hlt,(hex _ rfl).2 (by simp[e2])⟩
   | false=>
    simp only[go_sem,j1,j2]
    first|refine aa4 fok101 (hNi) ?_|refine aa2 (hNi) ?_
    simp only[go_sem]
    first|refine aa4 fok151 (hHi) ?_|refine aa2 (hHi) ?_
    by_cases e3:n∈nm j.dep
    ·simp only[go_sem,e3];exact ab2 ((hex _ rfl).1 (by simp[e1,e2,e3])).symm
    ·simp only[go_sem,e3,w1];exact ⟨hlt,(hex _ rfl).2 (by simp[e3])⟩
  ·simp only[go_sem,e1,w1];exact ⟨hlt,(hex _ rfl).2 (by simp[e1])⟩
 ·have hi':i=a.r.ai4.length:=by omega
  subst hi';have c1:¬ (a.r.ai4.length:Int)<(a.r.ai4.length:Int):=by omega
  simp only[go_sem,c1];exact ab2 hf.symm
theorem fo5 (a:ac5)(n:Int)(hA:AOK a):PC Tryz.prog EE 156 [a.v,.int .i64 n] (.bool (a.goes n)):=by
 refine af3 hE fok156 (nZ rfl) (ak2 (ah4 a) (.int _ _)) ?_;have h:=bh7 a n;have h2:=cy1 a 2 n hA;have h3:=be6 a 2 n hA;unfold ac5.goes;simp only[ic156,go_sem]
 first|refine aa4 fok167 (h) ?_|refine aa2 (h) ?_
 cases a.inst n with
 | false=>simp only[go_sem]; exact ab2 rfl
 | true=>
  simp only[go_sem]
  first|refine aa4 fok168 (h2) ?_|refine aa2 (h2) ?_
  cases a.bv7 2 n with
  | true=>simp only[go_sem]; exact ab2 rfl
  | false=>
   simp only[go_sem]
   first|refine aa4 fok72 (h3) ?_|refine aa2 (h3) ?_
   simp only[go_sem];exact ab2 rfl
theorem en5 {α:Type}(q:α->Bool):∀ (l:List α) (i:Int),ai6 q l i=-1/\(∀ x∈l,q x=false)\/∃ k,∃ h:k<l.length,ai6 q l i=i+k/\q l[k]=true/\∀ x∈l.take k,q x=false:=by
 intro l
 induction l with
 | nil=>intro i; exact .inl ⟨rfl,fun x h=>by cases h⟩
 | cons a l ih=>
  intro i;simp only[ai6]
  cases hq:q a with
  | true=>exact .inr ⟨0,by simp,by simp,by simpa using hq,fun x h=>by cases h⟩
  | false=>
   simp only[Bool.false_eq_true,if_false];rcases ih (i+1) with ⟨h1,h2⟩|⟨k,h,h1,h2,h3⟩
   ·exact .inl ⟨h1,fun x hx=>by
     rcases List.mem_cons.1 hx with rfl|hx
     ·exact hq
     ·exact h2 x hx⟩
   ·refine .inr ⟨k+1,by simp only[List.length_cons]; omega,by rw[h1]; omega,by simpa using h2,fun x hx=>?_⟩;rw[List.take_succ_cons] at hx;rcases List.mem_cons.1 hx with rfl|hx
    ·exact hq
    ·exact h3 x hx
theorem cy2 {q:Int->Bool}{l:List Int}(h:∀ x∈l,q x=false):(l.filter fun x=>!q x)=l:=List.filter_eq_self.2 fun x hx=>by rw[h x hx]; rfl
theorem gz8 {σ:Store}{id:Nat}{cs:List IV}{zs:List Int}(ho:σ.obj id=some (.row cs))(hct:cs.take zs.length=zs.map db8)(hcl:zs.length<=cs.length):cb5 σ 0 (.slice id 0 zs.length 1) (.aa5 (zs.map Md.ai2)):=by
 refine .slice id 0 zs.length 1 cs (zs.map Md.ai2) (Nat.not_lt_zero _) (.inr ho) (by rw[List.length_map]) (by omega) (fun i hi=>?_) fun i hi j hj=>?_
 ·simp[List.getD_eq_getElem?_getD,hi,Md.ai2]
 ·have hj0:j=0:=by omega
  subst hj0;have e2:((zs.map Md.ai2).getD i []).getD 0 .undef=db8 zs[i]:=by simp[List.getD_eq_getElem?_getD,hi,Md.ai2]
  rw[e2,Nat.zero_add,Nat.mul_one,Nat.add_zero,eh2 hct hi];exact .keep _ (.int _ _)
theorem gj1 {σ:Store}{id g:Nat}{cap cs0:List IV}{zs:List Int}(q:Int->Bool)(hz:zs.length<2^40)(ho:σ.obj id=some (.row cs0))(hct:cs0.take zs.length=zs.map db8)(hcl:zs.length<=cs0.length)
  (hok:okF Tryz.prog g=true) (hcap:∀ c∈cap,Bnd 0 c) (hq:∀ z∈zs,PC Tryz.prog EE g (.int .i64 z::cap) (.bool (q z))) :
  C Tryz.prog EE 161 [.slice id 0 zs.length 1,.func (.func g) [] cap] σ (fun v s=>σ.next<=s.next/\(∀ i,i≠id->s.obj i=σ.obj i) /\
   ∃ cs,v=.slice id 0 (zs.filter fun x=>!q x).length 1/\s.obj id=some (.row cs)/\cs.take (zs.filter fun x=>!q x).length=(zs.filter fun x=>!q x).map db8/\(zs.filter fun x=>!q x).length<=cs.length):=by
 refine C_f fok161 (nZ rfl) ?_;simp only[ic161,go_sem]
 have hI:=cj7 (σ:=σ) (args:=[.slice id 0 zs.length 1,.func (.func g) [] cap]) (args':=[.aa5 (zs.map Md.ai2),.func (.func g) [] cap]) hE rfl (fun i hi=>by
  match i,hi with
  | 0,_=>exact gz8 ho hct hcl
  | 1,_=>exact .keep _ (.func _ _ _ (fun c hc=>by cases hc) hcap)) (by simp[IV.plain]) (ca9 zs g [] cap q (by omega) hok hq)
 refine ag2 fok164 hI ?_;rintro v s ⟨rfl,rfl⟩;refine ⟨Nat.le_refl _,?_⟩;rcases en5 q zs 0 with ⟨h1,h2⟩|⟨i0,hi0,h1,h2,h3⟩
 ·simp only[go_sem,h1,cy2 h2];exact ⟨Nat.le_refl _,fun _ _=>trivial,cs0,ho,hct,hcl⟩
 have h1':ai6 q zs 0=(i0:Int):=by rw[h1]; omega
 have d1:¬ (i0:Int)=-1:=by omega
 have w0:=ae1 (i:=i0) (by omega);simp only[go_sem,h1',d1,w0]
 refine ab7 noT (fun j fr t=>∃ (k:Nat) (cs:List IV),fr=[(0,.slice id 0 zs.length 1),(1,.func (.func g) [] cap),(5,.int .i64 (k:Int)),(6,.int .i64 ((i0+1+j:Nat):Int))] /\
  (s.next<=t.next/\∀ q,q≠id->t.obj q=s.obj q)/\t.obj id=some (.row cs)/\cs.length=cs0.length/\k<=i0+j/\i0+1+j<=zs.length/\k=((zs.take (i0+1+j)).filter fun x=>!q x).length/\cs.take k=((zs.take (i0+1+j)).filter fun x=>!q x).map db8 /\
  ∀ (x:Nat) (h:x<zs.length),i0+j<x->(cs.drop x).head? = some (.int .i64 zs[x])) (zs.length-(i0+1)) ?_ ?_
 ·have e:((zs.take (i0+1)).filter fun x=>!q x)=zs.take i0:=by
   rw[List.take_add_one,List.getElem?_eq_getElem hi0,List.filter_append,cy2 h3];simp[h2]
  refine ⟨i0,cs0,rfl,⟨Nat.le_refl _,fun _ _=>rfl⟩,ho,rfl,by omega,by omega,?_,?_,fun x h _=>?_⟩
  ·rw[Nat.add_zero,e,List.length_take]; omega
  ·rw[Nat.add_zero,e,List.map_take,<- hct,List.take_take];congr 1; omega
  ·have:=eh2 hct h;rw[List.head?_drop];rw[List.getD_eq_getElem?_getD,List.getElem?_eq_getElem (by omega)] at this;rw[List.getElem?_eq_getElem (by omega)];exact congrArg some this
 rintro j fr t hj ⟨k,cs,rfl,⟨un,uo⟩,hoc,hcl2,hk1,hk2,hk3,hk4,hcs⟩;by_cases hlt:j<zs.length-(i0+1)
 ·have e1:((i0+1+j:Nat):Int)<zs.length:=by omega
  have e2:(0:Int)<=((i0+1+j:Nat):Int):=by omega
  have hx:i0+1+j<zs.length:=by omega
  have g1:=hcs (i0+1+j) hx (by omega);have w1:=ae1 (i:=i0+1+j) (by omega);have w2:=ae1 (i:=k) (by omega);have hqz:=hq _ (List.getElem_mem hx);have e3:(0:Int)<=(k:Int):=by omega
  have e4:(k:Int)<zs.length:=by omega
  have e5:k+1<=cs.length:=by omega
  have htk:(zs.take (i0+1+j+1)).filter (fun x=>!q x)=(zs.take (i0+1+j)).filter (fun x=>!q x)++if q zs[i0+1+j] then [] else [zs[i0+1+j]]:=by
   rw[List.take_add_one,List.getElem?_eq_getElem hx,List.filter_append];congr 1;simp only[Option.toList,List.filter_cons,List.filter_nil];cases q zs[i0+1+j]<;>rfl
  simp only[go_sem,e1,e2,hoc,g1,Int.toNat_natCast,Nat.zero_add,Nat.mul_one];refine ao5 hok (ei1 hqz) ?_;rintro v u ⟨rfl,rfl⟩;refine ⟨Nat.le_refl _,?_⟩
  cases hb:q zs[i0+1+j] with
  | true=>
   rw[hb,if_pos rfl,List.append_nil] at htk;simp only[go_sem,w1]
   exact ⟨hlt,k,cs,rfl,⟨un,uo⟩,hoc,hcl2,by omega,by omega,by rw[show i0+1+(j+1)=i0+1+j+1 by omega,htk]; exact hk3,by rw[show i0+1+(j+1)=i0+1+j+1 by omega,htk]; exact hk4,fun x h hx=>hcs x h (by omega)⟩
  | false=>
   rw[hb,if_neg (by simp)] at htk;simp only[go_sem,w1,w2,e3,e4,e5,hoc,Int.toNat_natCast,Nat.zero_add,Nat.mul_one];refine ⟨hlt,k+1,bb3 cs k [.int .i64 zs[i0+1+j]],rfl,⟨un,fun q hq=>?_⟩,?_,?_,by omega,by omega,?_,?_,fun x h hx=>?_⟩
   ·simp only[if_neg hq]; exact uo q hq
   ·rfl
   ·rw[aj7 (by rw[List.length_singleton]; omega)]; exact hcl2
   ·rw[show i0+1+(j+1)=i0+1+j+1 by omega,htk,List.length_append,<- hk3]; rfl
   ·rw[show i0+1+(j+1)=i0+1+j+1 by omega,htk,dl4 (by omega),hk4,List.map_append]; rfl
   ·rw[dl5 (by omega) (by omega)];exact hcs x h (by omega)
 ·have hj':i0+1+j=zs.length:=by omega
  have e1:¬ ((i0+1+j:Nat):Int)<zs.length:=by omega
  rw[hj',List.take_length] at hk3 hk4;have hkn:k<zs.length:=by omega
  simp only[go_sem,e1,gi3 (show k<=zs.length by omega),hm7 (show k<=zs.length by omega),hoc,iv3,gi4 hoc hkn (by omega)];have hrl:(rep [IV.int .i64 0] (zs.length-k)).length=zs.length-k:=by rw[au7]; simp
  refine ⟨un,fun q hq=>?_,bb3 cs k (rep [IV.int .i64 0] (zs.length-k)),by rw[hk3],by simp only[aa7,if_true],?_,?_⟩
  ·simp only[aa7,if_neg hq]; exact uo q hq
  ·rw[<- hk3,ec6 (by omega)]; exact hk4
  ·rw[aj7 (by rw[hrl]; omega),<- hk3]; omega
theorem en6 (a:ac5)(down other:Bool)(old q:aa3)(h1:Pkg.small old)(h2:Pkg.small q):PC Tryz.prog EE 169 [.agg q.cs,.ac2 old.cs,.ac2 [.bool down],.ac2 [.bool other],.ac2 [a.v]] (.bool (ac5.dz8 a.r.vendor down other old q)):=by
 refine af3 hE fok169 (nZ rfl) (hz4 (an4 _) (.ac2 _ (az6 _)) (.ac2 _ (aj1 (.bool _))) (.ac2 _ (aj1 (.bool _))) (.ac2 _ (aj1 (ah4 a)))) ?_;have hf:=fo2 q.au3 old.au3;have hev:=bj7 q.evr old.evr h2.1 h1.1;have p0:q.cs.head? = some (.str q.name):=rfl;have q0:old.cs.head? = some (.str old.name):=rfl;have p4:(q.cs.drop 4).head? = some (.int .u8 q.au3):=rfl;have q4:(old.cs.drop 4).head? = some (.int .u8 old.au3):=rfl;have p5:(q.cs.drop 5).head? = some (.str q.vendor):=rfl;have q5:(old.cs.drop 5).head? = some (.str old.vendor):=rfl;have p1:(q.cs.drop 1).take 3=q.evr.cs:=rfl;have q1:(old.cs.drop 1).take 3=old.evr.cs:=rfl;unfold ac5.dz8;unfold ac5.v ac5.cs;by_cases e1:q.name=old.name
 case neg=>
  simp only[ic169,go_sem,ag8,ah1,ad2,p0,q0,e1];exact ab2 (by simp)
 simp only[ic169,go_sem,ag8,ah1,ad2,p0,q0,e1];cases down
 case' true=>simp only[go_sem]
 case' false=>
  simp only[go_sem,ew4,p1,q1]
  first|refine aa4 fok68 (hev) ?_|refine aa2 (hev) ?_
  by_cases e2:0<=aw1 q.evr old.evr
  case neg=>
   simp only[go_sem,e2];exact ab2 (by simp)
  simp only[go_sem,e2]
 all_goals
  cases other
  case' true=>simp only[go_sem]
  case' false=>
   simp only[go_sem,p4,q4]
   first|refine aa4 fok170 (hf) ?_|refine aa2 (hf) ?_
   cases cq4 q.au3 old.au3
   case false=>
    simp only[go_sem];exact ab2 (by simp)
   simp only[go_sem]
  all_goals
   cases a.r.vendor
   case true=>
    simp only[go_sem];exact ab2 (by simp)
   by_cases e3:q.vendor=old.vendor
   ·simp only[go_sem,p5,q5,e3];exact ab2 (by simp)
   ·simp only[go_sem,p5,q5,e3];exact ab2 (by simp)
theorem cy3 (l:List aa3)(n:Nat)(hl:l.length<2^20)(hn:n<l.length)(hs:∀ p∈l,Pkg.small p)(σ:Store):C Tryz.prog EE 171 [(ah7 l).v,.int .i64 n] σ (cz7 σ (al6 l n)):=by
 have hi:=bi8 l;have hlook:=hi.over (l.getD n default).name
 have hsift:∀ (σ:Store) v,(v=.aa5 ((ad5 (ah7 l).over (l.getD n default).name).map Md.ai2)\/v=.aa1/\ad5 (ah7 l).over (l.getD n default).name=[])->C Tryz.prog EE 165 [(ah7 l).v,v,.func (.func 228) [] [.ac2 [.int .i64 n],.ac2 [(ah7 l).v]]] σ (cz7 σ (al6 l n)):=by
  intro σ v hv
  have h:=hm8 (ah7 l) (ad5 (ah7 l).over (l.getD n default).name) (by rw[hlook]; have:=am2 (fun p=>decide (∃ d∈p.aa9,d.name=(l.getD n default).name)) l; omega) 228 [.ac2 [.int .i64 n],.ac2 [(ah7 l).v]] (fun k=>decide (k.toNat≠n)&&aa9 (l.getD k.toNat default) (l.getD n default)) fok228.1 (fun k hk=>by
   rw[hlook] at hk;obtain ⟨m,rfl,hm⟩:=numsOf_at hk;refine ⟨m,rfl,by rw[hi.all]; exact hm,?_⟩;have e:(ah7 l).all[m]'(by rw[hi.all]; exact hm)=l[m]:=by simp only[hi.all]
   rw[e,Int.toNat_natCast,getD_at l m hm,getD_at l n hn];exact gi2 l m n hm hn hs) σ
  have e:al6 l n=(ad5 (ah7 l).over (l.getD n default).name).filter fun k=>decide (k.toNat≠n)&&aa9 (l.getD k.toNat default) (l.getD n default):=rfl
  rw[<- e] at h;rcases hv with rfl|⟨rfl,h0⟩
  ·exact h
  ·rw[h0] at h;refine gi7 (args':=[(ah7 l).v,.aa5 [],.func (.func 228) [] [.ac2 [.int .i64 n],.ac2 [(ah7 l).v]]]) rfl (fun i hi=>?_) h;have hw:∀ {v:IV} {σ:Store},Bnd 0 v->Frz σ (fun _=>true=true) v v:=fun h=>.keep _ (h.weak fun _ _=>rfl)
   have hb:=bc5 (ah7 l)
   match i,hi with
   | 0,_=>exact hw hb
   | 1,_=>exact .cc5
   | 2,_=>exact hw (.func _ _ _ (fun c hc=>by cases hc) (ak2 (.ac2 _ (aj1 (.int _ _))) (.ac2 _ (aj1 hb))))
 have hx:(ah7 l).v=.ac2 [.aa5 (l.map aa3.cs),.al9 (nmV (ah7 l).aw2),.al9 (nmV (ah7 l).names),.al9 (nmV (ah7 l).over)]:=by
  show IV.ac2 [.aa5 ((ah7 l).all.map aa3.cs),_,_,_]=_;rw[hi.all]
 have his:=if5 (ah7 l) n
 have i1:(decide ((0:Int)<=(n:Int))&&decide ((n:Int)<(ah7 l).all.length))=true:=by
  rw[hi.all]; simp only[Bool.and_eq_true,decide_eq_true_eq]; omega
 rw[i1] at his
 have hk0:∀ σ:Store,∃ v,cr7 σ 2 .aa1 false (.al9 (nmV (ah7 l).over)) (.str (l.getD n default).name)=some v/\∀ τ,C Tryz.prog EE 165 [(ah7 l).v,v,.func (.func 228) [] [.ac2 [.int .i64 n],.ac2 [(ah7 l).v]]] τ (cz7 τ (al6 l n)):=fun σ=>
  let ⟨v,h1,h2⟩:=eu8 (ah7 l).over σ (l.getD n default).name
  ⟨v,h1,fun τ=>hsift τ v h2⟩
 have hg:(l.map aa3.cs).getD n []=l[n].cs:=by simp[List.getD_eq_getElem?_getD,hn]
 have hnm:(l.getD n default).name=l[n].name:=by rw[getD_at l n hn]
 have p0:l[n].cs.head? = some (.str l[n].name):=rfl;have hle:(l.map aa3.cs).length=l.length:=List.length_map ..;clear hsift hlook i1;rw[hnm] at hk0;rw[hx] at hk0 his ⊢;generalize al6 l n=res at *;generalize l.map aa3.cs=a0 at *;generalize l[n]=q at *;have c1:(0:Int)<=n:=by omega
 have c2:(n:Int)<a0.length:=by omega
 refine C_f fok171 (nZ rfl) ?_;simp only[ic171,go_sem]
 first|refine aa4 fok227 (his) ?_|refine aa2 (his) ?_
 simp only[go_sem,c1,c2,hg,p0,ba6,aw6,as9];obtain ⟨v,hk,hsv⟩:=hk0 ⟨σ.next+17,σ.obj⟩;simp only[go_sem,hk];refine ag2 fok165 (hsv _) ?_;rintro v' s ⟨hkp,hr⟩;refine ⟨hkp.next,?_⟩;simp only[go_sem];exact ⟨hkp.low,hr.low (Nat.le_add_right _ _)⟩
theorem dt6 {σ:Store}{id:Nat}{cs:List IV}(ho:σ.obj id=some (.cells cs))(hb:∀ c∈cs,Bnd 0 c):cb5 σ 0 (.ptr id 0) (.ac2 cs):=by
 refine .ptr id 0 cs cs (Nat.not_lt_zero _) (.inl ho) (by omega) (fun j hj=>?_);rw[Nat.zero_add];exact .keep _ (hb _ (ad4 _ hj))
theorem iv6 (zs:List Int):(if6 zs).Pairwise (·<=·):=by
 refine List.Pairwise.imp (fun h=>of_decide_eq_true h) (List.pairwise_mergeSort (le:=fun x y:Int=>decide (x<=y)) (fun a b c h1 h2=>?_) (fun a b=>?_) _)
 ·exact decide_eq_true (Int.le_trans (of_decide_eq_true h1) (of_decide_eq_true h2))
 ·rcases Int.le_total a b with h|h
  ·simp[h]
  ·simp[h]
theorem dl8 (a:ac5)(i:Int)(hA:AOK a)(σ:Store):C Tryz.prog EE 103 [a.v,.int .i64 i] σ (ix5 σ (a.bj2 i)):=by
 have hin:=bh7 a i;refine C_f fok103 (nZ rfl) ?_;unfold ac5.bj2
 cases hi:a.inst i with
 | false=>
  rw[hi] at hin;unfold ac5.v ac5.cs at *;simp only[ic103,go_sem]
  first|refine aa4 fok167 (hin) ?_|refine aa2 (hin) ?_
  simp only[go_sem]
  exact ⟨Kept.refl σ,.inl ⟨rfl,rfl⟩⟩
 | true=>
 rw[hi] at hin;have his:a.is i=true:=by unfold ac5.inst at hi; exact (Bool.and_eq_true _ _▸hi).1
 obtain ⟨i1,i2,i3,i4⟩:=gz7 a his;obtain ⟨m,rfl⟩:∃ m:Nat,i=m:=⟨i.toNat,by omega⟩;have hml:m<a.l.length:=by rw[List.length_map] at i2; omega
 have e3:=be6 a 3 m hA;have e4:=be6 a 4 m hA;have n4:=cy1 a 4 m hA;have hob:=cy3 a.l m (by have:=hA.len; omega) hml hA.small;have hlen:=hA.len
 have hall:∀ n (h:n<a.l.length),(a.l.map aa3.cs).getD n []=(a.pk n).cs/\a.pk (n:Int)∈a.l:=fun n h=>by
  have hn:a.is (n:Int)=true:=by rw[ac5.ir3]; exact decide_eq_true h
  obtain ⟨_,_,h3,h4⟩:=gz7 a hn;exact ⟨by simpa using h3,h4⟩
 have hfl:∀ down other n (h:n<a.l.length),PC Tryz.prog EE 169 [.agg (a.pk n).cs,.ac2 (a.pk m).cs,.ac2 [.bool down],.ac2 [.bool other],.ac2 [a.v]] (.bool (ac5.dz8 a.r.vendor down other (a.pk m) (a.pk n))):=
  fun down other n h=>en6 a down other _ _ (hA.small _ i4) (hA.small _ (hall n h).2)
 have hba:=ah4 a;unfold ac5.jh2;unfold ac5.v ac5.cs at *;generalize (ah7 a.l).v=X at *;generalize a.p.v=Pv at *;have c0:(0:Int)<=m:=by omega
 have c2:(m:Int)<a.l.length:=by omega
 have hgm:=(hall m hml).1;generalize hdn:(a.bz6 3 m||a.bv7 4 m)=down;generalize hot:a.bz6 4 m=other at *;simp only[ic103,go_sem]
 first|refine aa4 fok167 (hin) ?_|refine aa2 (hin) ?_
 simp only[go_sem,c0,c2,hgm,ag8,ah1,ad2];cases h3:a.bz6 3 m
 case' true=>
  rw[h3] at hdn e3;have hd:true=down:=by simpa using hdn
  first|refine aa4 fok72 (e3) ?_|refine aa2 (e3) ?_
  simp only[go_sem]
 case' false=>
  rw[h3] at hdn e3;have hd:a.bv7 4 m=down:=by simpa using hdn
  first|refine aa4 fok72 (e3) ?_|refine aa2 (e3) ?_
  simp only[go_sem]
  first|refine aa4 fok168 (n4) ?_|refine aa2 (n4) ?_
  simp only[go_sem]
 all_goals
  first|refine aa4 fok72 (e4) ?_|refine aa2 (e4) ?_
  simp only[go_sem];refine ag2 fok171 (hob _) ?_;rintro v s ⟨hk0,hr0⟩;refine ⟨hk0.next,?_⟩;simp only[go_sem];have g1:¬ σ.next=σ.next+1+1:=by omega
  have g2:¬ σ.next=σ.next+1:=by omega
  have g3:¬ σ.next+1=σ.next+1+1:=by omega
  have b5:s.obj σ.next=some (.cells (a.pk m).cs):=(hk0.obj σ.next (by show σ.next<σ.next+_; omega)).trans (by simp only[aa7,g1,g2,if_true,if_false]);have b6:s.obj (σ.next+1)=some (.cells [.bool down]):=(hk0.obj (σ.next+1) (by show σ.next+1<σ.next+_; omega)).trans (by simp only[aa7,g3,if_true,if_false,hd]);have b7:s.obj (σ.next+1+1)=some (.cells [.bool other]):=(hk0.obj (σ.next+1+1) (by show σ.next+1+1<σ.next+_; omega)).trans (by simp only[aa7,if_true])
  have blo:∀ i,i<σ.next->s.obj i=σ.obj i:=fun i hi=>(hk0.obj i (by show i<σ.next+_; omega)).trans (by
   have u1:¬ i=σ.next:=by omega
   have u2:¬ i=σ.next+1:=by omega
   have u3:¬ i=σ.next+1+1:=by omega
   simp only[aa7,u1,u2,u3,if_false])
  have bnx:σ.next+1+1+1<=s.next:=Nat.le_trans (by show σ.next+1+1+1<=σ.next+_; omega) hk0.next;have hr1:ax6 s (σ.next+1+1+1) v (al6 a.l m):=hr0.low (by show σ.next+1+1+1<=σ.next+_; omega);clear hk0 hr0 hob e3 e4 n4 hin;generalize hq:(fun n:Nat=>decide ((n:Int)=m)||ac5.dz8 a.r.vendor down other (a.pk m) (a.pk n))=qq;have hqn:∀ n,qq n=(decide ((n:Int)=m)||ac5.dz8 a.r.vendor down other (a.pk m) (a.pk n)):=fun n=>by rw[<- hq]
  have hobl:=cx7 a.l m;have obm:=fun k=>cx6 (l:=a.l) (n:=m) (k:=k)
  generalize al6 a.l m=ob at *
  refine ab7 noT (fun n fr t=>∃ gv,fr=[(1,.int .i64 (m:Int)),(8,.func (.func 169) [] [.ptr σ.next 0,.ptr (σ.next+1) 0,.ptr (σ.next+1+1) 0,.ac2 [.ac2 [Pv,X,.int .u8 a.r.au3,.bool a.r.vendor,bi9 a.r.ai4,av3 a.r.ai5,.int .i64 a.r.budget,.aa5 (a.l.map aa3.cs)]]]),(9,gv),(44,.aa5 (a.l.map aa3.cs)),(45,.int .i64 a.l.length),(46,.int .i64 (n:Int))] /\
   Kept ⟨σ.next+1+1+1,s.obj⟩ t/\ax6 t (σ.next+1+1+1) gv (ob++bj1 qq n)) a.l.length ⟨v,rfl,⟨bnx,fun _ _=>rfl⟩,by rw[show bj1 qq 0=[] from rfl,List.append_nil]; exact hr1⟩ ?_
  rintro n fr t hn ⟨gv,rfl,hk,hg⟩;by_cases hlt:n<a.l.length
  ·have d1:(n:Int)<a.l.length:=by omega
   have d2:(0:Int)<=n:=by omega
   have w1:=ae1 (i:=n) (by omega);have hgn:=(hall n hlt).1;have hpn:=hfl down other n hlt;have hsn:=fl8 qq n;have hln:=cw2 qq n;have hzl:(ob++bj1 qq n).length<2147483648:=by rw[List.length_append]; omega
   have n5:¬ σ.next=t.next:=by have:=hk.next; show ¬ _; intro e; have:σ.next+1+1+1<=t.next:=this; omega
   have n6:¬ σ.next+1=t.next:=by have:=hk.next; intro e; have:σ.next+1+1+1<=t.next:=this; omega
   have n7:¬ σ.next+1+1=t.next:=by have:=hk.next; intro e; have:σ.next+1+1+1<=t.next:=this; omega
   have t5:=(hk.obj σ.next (by show σ.next<σ.next+1+1+1; omega)).trans b5;have t6:=(hk.obj (σ.next+1) (by show σ.next+1<σ.next+1+1+1; omega)).trans b6;have t7:=(hk.obj (σ.next+1+1) (by show σ.next+1+1<σ.next+1+1+1; omega)).trans b7;by_cases e:(n:Int)=m
   case' pos=>
    have hqt:qq n=true:=by rw[hqn,e]; simp
    have e':n=m:=by omega
    subst e';simp only[go_sem,d1,d2,hgn,ag8,ah1,ad2,eq_self]
   case' neg=>
    simp only[go_sem,d1,d2,hgn,ag8,ah1,ad2,e]
    refine ao5 fok169.1 (cj7 (args':=[.agg (a.pk n).cs,.ac2 (a.pk m).cs,.ac2 [.bool down],.ac2 [.bool other],.ac2 [.ac2 [Pv,X,.int .u8 a.r.au3,.bool a.r.vendor,bi9 a.r.ai4,av3 a.r.ai5,.int .i64 a.r.budget,.aa5 (a.l.map aa3.cs)]]]) hE rfl (fun i hi=>by
     match i,hi with
     | 0,_=>exact .keep _ (an4 _)
     | 1,_=>exact dt6 (by simp only[aa7,n5,if_false]; exact t5) (az6 _)
     | 2,_=>exact dt6 (by simp only[aa7,n6,if_false]; exact t6) (aj1 (.bool _))
     | 3,_=>exact dt6 (by simp only[aa7,n7,if_false]; exact t7) (aj1 (.bool _))
     | 4,_=>exact .keep _ (.ac2 _ (aj1 hba))) (by simp[IV.plain]) hpn) ?_
    rintro v' u ⟨rfl,rfl⟩;refine ⟨Nat.le_refl _,?_⟩;cases hfb:ac5.dz8 a.r.vendor down other (a.pk m) (a.pk n)
    case' false=>
     have hqt:qq n=false:=by rw[hqn,hfb]; simp[e]
     rw[hqt] at hsn;simp only[go_sem,w1];rw[if_neg (by simp),List.append_nil] at hsn;exact ⟨hlt,gv,rfl,hk.trans (Kept.box t _ _),by rw[hsn]; exact hg.kept (Kept.box t _ _)⟩
    have hqt:qq n=true:=by rw[hqn,hfb]; simp
    simp only[go_sem]
   all_goals
    rw[hqt,if_pos rfl] at hsn;rw[fy2 (s:=⟨t.next+1+1,_⟩) (lo:=σ.next+1+1+1) (zs:=ob++bj1 qq n) ((hg.kept (Kept.box t _ _)).up 1) (n:Int) hzl];simp only[go_sem,w1];have hz:=eq8 (hk.trans (Kept.box t (.cells [.str [],.int .i64 0,.str [],.str [],.int .u8 0,.str [],.aa1,.aa1,.aa1,.aa1,.aa1,.aa1,.aa1,.aa1,.aa1]) (.cells (a.pk n).cs))) (hg.kept (Kept.box t _ _)) (n:Int) (a:=1) (nid:=t.next+1) (Nat.le_refl _) (Nat.lt_succ_self _) rfl;rw[hsn,<- List.append_assoc];exact ⟨hlt,_,rfl,hz.1,hz.2⟩
  ·have hn':n=a.l.length:=by omega
   subst hn';have d1:¬ (a.l.length:Int)<(a.l.length:Int):=by omega
   simp only[go_sem,d1];have hln:=cw2 qq a.l.length;have hzl:(ob++bj1 qq a.l.length).length<2^20:=by rw[List.length_append]; omega
   have hmm:(m:Int)∈ob++bj1 qq a.l.length:=List.mem_append_right _ (cw1.2 ⟨m,rfl,hml,by rw[hqn]; simp⟩)
   have hfin:∀ D:List Int,D.Pairwise (· < ·)->(∀ x,x∈D↔x∈ob++bj1 qq a.l.length)->D=bj1 (fun n=>decide ((n:Int)=m)||ac5.dz8 a.r.vendor down other (a.pk m) (a.pk n)||(!decide ((n:Int)=m)&&aa9 (a.pk n) (a.pk m))) a.l.length:=fun D h1 h2=>gi6 h1 (gt8 _ _) fun x=>by
    rw[h2,List.mem_append,obm,cw1,cw1];constructor
    ·rintro (⟨u,rfl,h3,h4,h5⟩|⟨u,rfl,h3,h4⟩)
     ·refine ⟨u,rfl,h3,?_⟩;have h6:¬ (u:Int)=m:=by omega
      simp only[ac5.pk,Int.toNat_natCast,h5,h6,decide_false,Bool.not_false,Bool.and_self,Bool.or_true]
     ·rw[hqn] at h4;exact ⟨u,rfl,h3,by rw[h4,Bool.true_or]⟩
    ·rintro ⟨u,rfl,h3,h4⟩;rw[Bool.or_eq_true] at h4;rcases h4 with h4|h4
     ·exact .inr ⟨u,rfl,h3,by rw[hqn]; exact h4⟩
     ·simp only[Bool.and_eq_true,Bool.not_eq_true',decide_eq_false_iff_not,ac5.pk,Int.toNat_natCast] at h4;exact .inl ⟨u,rfl,h3,by omega,h4.2⟩
   generalize ob++bj1 qq a.l.length=zs at *;rcases hg with ⟨_,h0⟩|⟨id,hid1,hid2,rfl,ho⟩
   ·rw[h0] at hmm; cases hmm
   refine ag2 fok172 (fo1 (zs:=zs) (by omega) ho) ?_;rintro v s' ⟨rfl,rfl⟩;refine ⟨by show t.next<=_; exact Nat.le_refl _,?_⟩;simp only[go_sem];have hsl:(if6 zs).length=zs.length:=List.length_mergeSort _;have hc:=gi5 (σ:=t.put id (.row ((if6 zs).map (IV.int .i64)))) (id:=id) (zs:=if6 zs) (by omega) (by simp only[aa7,if_true]) (iv6 zs);rw[hsl] at hc;refine ag2 fok173 hc ?_;rintro v s' ⟨⟨D,cs,q1,q2,rfl,q4,q5,q6⟩,hsn,hso⟩;refine ⟨hsn,?_⟩;have hD:=hfin D q1 fun x=>(q2 x).trans List.mem_mergeSort
   simp only[go_sem];have hsn':t.next<=s'.next:=hsn;have hkn:σ.next+1+1+1<=t.next:=hk.next;rw[<- hD];refine ⟨⟨by omega,fun i hi=>?_⟩,.inr ⟨id,cs,by omega,by omega,rfl,q4,q5,q6⟩⟩;have hne:i≠id:=by omega
   rw[hso i hne];show (if i=id then _ else t.obj i)=_;rw[if_neg hne,hk.obj i (by show i<σ.next+1+1+1; omega)];exact blo i hi
theorem cy4 (a:ac5)(i:Int)(hA:AOK a):PC Tryz.prog EE 103 [a.v,.int .i64 i] (.aa5 ((a.bj2 i).map Md.ai2)):=io7 fun σ=>dl8 a i hA σ
end Go.Id.Tryz
set_option linter.all false
namespace Go.Id.Tryz
open Go Go.Id Go.Proofs Go.Shelf Go.Id.Md
set_option maxRecDepth 100000
theorem gz9 {σ:Store}{g:Nat}{cap:List IV}(hok:okF Tryz.prog g=true)(hcap:∀ c∈cap,Bnd 0 c):C Tryz.prog EE 161 [.aa1,.func (.func g) [] cap] σ (ix5 σ []):=by
 refine C_f fok161 (nZ rfl) ?_;simp only[ic161,go_sem]
 have hI:C Tryz.prog EE 164 [.aa1,.func (.func g) [] cap] σ (ii6 (.int .i64 (-1)) σ):=by
  refine gi7 (args':=[.aa5 (([]:List Int).map Md.ai2),.func (.func g) [] cap]) rfl (fun i hi=>?_) (ei1 (ca9 [] g [] cap (fun _=>true) (by simp) hok (fun z hz=>by cases hz)))
  match i,hi with
  | 0,_=>exact .cc5
  | 1,_=>exact .keep _ ((Nm.func _ _ _ (fun c hc=>by cases hc) hcap:Bnd 0 (.func (.func g) [] cap)).weak fun _ _=>rfl)
 refine ag2 fok164 hI ?_;rintro v s ⟨rfl,rfl⟩;refine ⟨Nat.le_refl _,?_⟩;simp only[go_sem];exact ⟨Kept.refl _,.inl ⟨rfl,rfl⟩⟩
theorem ig1 {σ:Store}{v:IV}{lo g:Nat}{cap:List IV}{zs:List Int}(q:Int->Bool)(hz:zs.length<2^40)(hr:eh1 σ lo v zs)(hok:okF Tryz.prog g=true)(hcap:∀ c∈cap,Bnd 0 c)(hq:∀ z∈zs,PC Tryz.prog EE g (.int .i64 z::cap) (.bool (q z))) :
  C Tryz.prog EE 161 [v,.func (.func g) [] cap] σ (fun v s=>(σ.next<=s.next/\∀ i,i<lo->i<σ.next->s.obj i=σ.obj i)/\eh1 s (min lo σ.next) v (zs.filter fun x=>!q x)):=by
 rcases hr with ⟨rfl,rfl⟩|⟨id,cs,h1,h2,rfl,h4,h5,h6⟩
 ·exact (gz9 hok hcap).mono fun v s ⟨h1,h2⟩=>⟨⟨h1.next,fun i _ hi=>h1.obj i hi⟩,h2.low (Nat.min_le_right _ _)⟩
 ·refine (gj1 q hz h4 h5 h6 hok hcap hq).mono fun v s ⟨k1,k2,cs',k3,k4,k5,k6⟩=>⟨⟨k1,fun i hi _=>k2 i (by omega)⟩,.inr ⟨id,cs',by omega,by omega,k3,k4,k5,k6⟩⟩
theorem ha5 (a:ac5)(n:Int):PC Tryz.prog EE 198 [.int .i64 n,.ac2 [a.v]] (.bool (a.inst n || !a.fits n)):=by
 refine af3 hE fok198 (nZ rfl) (ak2 (.int _ _) (.ac2 _ (aj1 (ah4 a)))) ?_;have h1:=bh7 a n;have h2:=dl7 a n;simp only[ic198,go_sem]
 first|refine aa4 fok167 (h1) ?_|refine aa2 (h1) ?_
 cases a.inst n with
 | true=>simp only[go_sem]; exact ab2 rfl
 | false=>
  simp only[go_sem]
  first|refine aa4 fok29 (h2) ?_|refine aa2 (h2) ?_
  simp only[go_sem];exact ab2 rfl
theorem gj2 (a:ac5)(n:Int):PC Tryz.prog EE 197 [.int .i64 n,.ac2 [a.v]] (.bool (!a.inst n)):=by
 refine af3 hE fok197 (nZ rfl) (ak2 (.int _ _) (.ac2 _ (aj1 (ah4 a)))) ?_;have h1:=bh7 a n;simp only[ic197,go_sem]
 first|refine aa4 fok167 (h1) ?_|refine aa2 (h1) ?_
 simp only[go_sem];exact ab2 rfl
theorem fo6 (a:ac5)(i:Int)(hA:AOK a):PC Tryz.prog EE 133 [a.v,.int .i64 i] (.aa5 ((a.dz9 i).map Md.ai2)):=by
 refine af3 hE fok133 (nZ rfl) (ak2 (ah4 a) (.int _ _)) ?_;have h1:=bh7 a i;have h2:=dl8 a i hA;have hba:=ah4 a;have hcl:=ha5 a;have hsl:=a.bz7 i;have hA1:=hA.len;have vcs:a.v.cs=[a.v]:=rfl;have vlf:a.v.leaf=true:=rfl;unfold ac5.dz9
 cases hi:a.inst i with
 | false=>
  rw[hi] at h1;have e:a.bj2 i=[]:=by unfold ac5.bj2; rw[hi]; rfl
  rw[e];generalize a.v=V at *;simp only[ic133,go_sem,vcs,List.all_cons,vlf,List.all_nil,List.head?_cons]
  first|refine aa4 fok167 (h1) ?_|refine aa2 (h1) ?_
  simp only[go_sem]
  exact .cc5
 | true=>
  rw[hi] at h1;generalize a.v=V at *;generalize a.bj2 i=zs at *;simp only[ic133,go_sem,vcs,List.all_cons,vlf,List.all_nil,List.head?_cons]
  first|refine aa4 fok167 (h1) ?_|refine aa2 (h1) ?_
  simp only[go_sem];refine ag2 fok103 (h2 _) ?_;rintro v s ⟨hk,hr⟩;refine ⟨hk.next,?_⟩;simp only[go_sem];refine ag2 fok161 (ig1 (fun n=>a.inst n || !a.fits n) (by omega) hr fok198.1 (aj1 (.ac2 _ (aj1 hba))) fun z hz=>hcl z) ?_;rintro v s ⟨⟨h1,_⟩,hr⟩;refine ⟨h1,?_⟩;simp only[go_sem];exact hr.frz fun i _=>Nat.not_lt_zero i
theorem fo7 (l:List aa3)(d:Dep)(hl:l.length<2^20)(hs:∀ p∈l,Pkg.small p)(hd:Dep.small d)(σ:Store):C Tryz.prog EE 101 [(ah7 l).v,.agg d.cs] σ (cz7 σ (ap6 l d)):=by
 have hi:=bi8 l;have hlook:=hi.names d.name
 have hsift:∀ (σ:Store) v,(v=.aa5 ((ad5 (ah7 l).names d.name).map Md.ai2)\/v=.aa1/\ad5 (ah7 l).names d.name=[])->C Tryz.prog EE 165 [(ah7 l).v,v,.func (.func 166) [] [.ac2 d.cs]] σ (cz7 σ (ap6 l d)):=by
  intro σ v hv
  have h:=hm8 (ah7 l) (ad5 (ah7 l).names d.name) (by rw[hlook]; have:=am2 (fun p=>decide (p.name=d.name)) l; omega) 166 [.ac2 d.cs] (fun n=>named (l.getD n.toNat default) d) fok166.1 (fun n hn=>by
   rw[hlook] at hn;obtain ⟨m,rfl,hm⟩:=numsOf_at hn;refine ⟨m,rfl,by rw[hi.all]; exact hm,?_⟩;have e:(ah7 l).all[m]'(by rw[hi.all]; exact hm)=l[m]:=by simp only[hi.all]
   rw[e,Int.toNat_natCast,getD_at l m hm];exact cx3 l[m] m d (hs _ (List.getElem_mem hm)) hd) σ
  rw[er5] at h;rcases hv with rfl|⟨rfl,h0⟩
  ·exact h
  ·rw[h0] at h;refine gi7 (args':=[(ah7 l).v,.aa5 [],.func (.func 166) [] [.ac2 d.cs]]) rfl (fun i hi=>?_) h;have hw:∀ {v:IV} {σ:Store},Bnd 0 v->Frz σ (fun _=>true=true) v v:=fun h=>.keep _ (h.weak fun _ _=>rfl)
   match i,hi with
   | 0,_=>exact hw (bc5 (ah7 l))
   | 1,_=>exact .cc5
   | 2,_=>exact hw (.func _ _ _ (fun c hc=>by cases hc) (ae4 (be5 d)))
 have hx:(ah7 l).v=.ac2 [.aa5 ((ah7 l).all.map aa3.cs),.al9 (nmV (ah7 l).aw2),.al9 (nmV (ah7 l).names),.al9 (nmV (ah7 l).over)]:=rfl;have d0:d.cs.head? = some (.str d.name):=rfl
 have hk0:∀ σ:Store,∃ v,cr7 σ 2 .aa1 false (.al9 (nmV (ah7 l).names)) (.str d.name)=some v/\∀ τ,C Tryz.prog EE 165 [(ah7 l).v,v,.func (.func 166) [] [.ac2 d.cs]] τ (cz7 τ (ap6 l d)):=fun σ=>
  let ⟨v,h1,h2⟩:=eu8 (ah7 l).names σ d.name
  ⟨v,h1,fun τ=>hsift τ v h2⟩
 clear hsift hlook;rw[hx] at hk0 ⊢;generalize (ah7 l).all.map aa3.cs=a0 at *;refine C_f fok101 (nZ rfl) ?_;simp only[ic101,go_sem,ar7,ao6,an3,d0];obtain ⟨v,hk,hsv⟩:=hk0 ⟨σ.next+11,σ.obj⟩;simp only[go_sem,hk];refine ag2 fok165 (hsv _) ?_;rintro v' s ⟨hkp,hr⟩;refine ⟨hkp.next,?_⟩;simp only[go_sem];exact ⟨hkp.low,hr.low (Nat.le_add_right _ _)⟩
theorem iv7 (a:ac5){n:Int}(h:a.job n=true):0<=n/\n<a.r.ai4.length/\(a.r.ai4.map Job.cs).getD n.toNat []=(a.jb n).cs/\a.jb n∈a.r.ai4:=by
 unfold ac5.job at h;simp only[Bool.and_eq_true,decide_eq_true_eq] at h;have c1:n.toNat<a.r.ai4.length:=by omega
 have e:a.jb n=a.r.ai4[n.toNat]:=by simp[ac5.jb,List.getD_eq_getElem?_getD,c1]
 exact ⟨h.1,h.2,by rw[e]; simp[List.getD_eq_getElem?_getD,c1],by rw[e]; exact List.getElem_mem c1⟩
theorem bj8 (a:ac5)(j:Int)(hA:AOK a):PC Tryz.prog EE 130 [a.v,.int .i64 j] (.aa5 ((a.meant j).map Md.ai2)):=by
 refine af3 hE fok130 (nZ rfl) (ak2 (ah4 a) (.int _ _)) ?_;have h1:=cx9 a j;have hba:=ah4 a;have hcl:=gj2 a;have hlen:=hA.len;unfold ac5.meant
 cases hj:a.job j with
 | false=>
  rw[hj] at h1;unfold ac5.v ac5.cs at *;simp only[ic130,go_sem]
  first|refine aa4 fok71 (h1) ?_|refine aa2 (h1) ?_
  simp only[go_sem]
  exact .cc5
 | true=>
  rw[hj] at h1;obtain ⟨j1,j2,j3,j4⟩:=iv7 a hj;have hds:=hA.ij7 _ j4;have hP:=bo5 a.l (a.jb j).dep (by omega) hA.small hds;have hN:=bv9 a.l (a.jb j).dep (by omega) hA.small hds;have hNc:=fo7 a.l (a.jb j).dep (by omega) hA.small hds;have b1:=ah5 (am3 a.l (a.jb j).dep);have b2:=ah5 (ap6 a.l (a.jb j).dep);have nl:(ap6 a.l (a.jb j).dep).length<=a.l.length:=am2 _ _;have k0:(a.jb j).cs.head? = some (.int .u8 (a.jb j).kind):=rfl;have k1:=cr3 (a.jb j);have k2:((a.jb j).cs.drop 1).length=5:=rfl;generalize a.jb j=x at *;generalize ap6 a.l x.dep=nm at *;generalize am3 a.l x.dep=pv at *;unfold ac5.v ac5.cs at *;generalize (ah7 a.l).v=X at *;have c21:¬ (2:Int)=1:=by decide
  by_cases e1:x.kind=1
  ·rw[if_pos rfl,if_pos e1];simp only[ic130,go_sem]
   first|refine aa4 fok71 (h1) ?_|refine aa2 (h1) ?_
   simp only[go_sem,j1,j2,j3,ay1,ba7,ar2,k0,k1,k2,e1]
   first|refine aa4 fok196 (hP) ?_|refine aa2 (hP) ?_
   simp only[go_sem];exact .keep _ b1
  by_cases e2:x.kind=2
  ·rw[if_pos rfl,if_neg e1,if_pos e2];simp only[ic130,go_sem]
   first|refine aa4 fok71 (h1) ?_|refine aa2 (h1) ?_
   simp only[go_sem,j1,j2,j3,ay1,ba7,ar2,k0,k1,k2,e2,c21]
   first|refine aa4 fok101 (hN) ?_|refine aa2 (hN) ?_
   simp only[go_sem,k0,e2];exact .keep _ b2
  ·rw[if_pos rfl,if_neg e1,if_neg e2];simp only[ic130,go_sem]
   first|refine aa4 fok71 (h1) ?_|refine aa2 (h1) ?_
   simp only[go_sem,j1,j2,j3,ay1,ba7,ar2,k0,k1,k2,e1];refine ag2 fok101 (hNc _) ?_;rintro v s ⟨hk,hr⟩;refine ⟨hk.next,?_⟩;have o0:s.obj 0=some (.cells x.cs):=(hk.obj 0 (Nat.succ_pos _)).trans (by simp only[aa7,if_true]);simp only[go_sem,o0,k0,e2];refine ag2 fok161 (ig1 (fun n=>!a.inst n) (by omega) hr.w fok197.1 (aj1 (.ac2 _ (aj1 hba))) fun z hz=>hcl z) ?_;rintro v s ⟨⟨h1,_⟩,hr⟩;refine ⟨h1,?_⟩;have ef:(nm.filter fun x=>!(!a.inst x))=nm.filter fun n=>a.inst n:=List.filter_congr fun x _=>Bool.not_not _
   rw[ef] at hr;simp only[go_sem];exact hr.frz fun i _=>Nat.not_lt_zero i
theorem ha6 (state:List Int)(n:Int)(hs:state.length<2^40):PC Tryz.prog EE 195 [.int .i64 n,.ac2 [.aa5 (state.map Md.ai2)]] (.bool (decide (n∈state))):=by
 refine af3 hE fok195 (nZ rfl) (ak2 (.int _ _) (.ac2 _ (aj1 (ah5 state)))) ?_;have h:=ca4 state n hs;simp only[ic195,go_sem]
 first|refine aa4 fok151 (h) ?_|refine aa2 (h) ?_
 simp only[go_sem];exact ab2 rfl
theorem dt7 (state l:List Int)(hs:state.length<2^40)(hl:l.length<2^40):PC Tryz.prog EE 129 [.aa5 (state.map Md.ai2),.aa5 (l.map Md.ai2)] (.bool (ac5.some state l)):=by
 refine af3 hE fok129 (nZ rfl) (ak2 (ah5 _) (ah5 _)) ?_;have h:=bh6 l 195 [] [.ac2 [.aa5 (state.map Md.ai2)]] (fun n=>decide (n∈state)) (by omega) fok195.1 fun x hx=>ha6 state x hs
 simp only[ic129,go_sem]
 first|refine aa4 fok99 (h) ?_|refine aa2 (h) ?_
 simp only[go_sem];exact ab2 rfl
theorem cb2 (a:ac5)(j:Int):(a.meant j).length<=a.l.length:=by
 unfold ac5.meant;split
 ·split
  ·exact am2 _ _
  ·split
   ·exact am2 _ _
   ·exact Nat.le_trans (List.length_filter_le _ _) (am2 _ _)
 ·exact Nat.zero_le _
theorem dt8 (a:ac5)(j:Int)(state:List Int)(hA:AOK a)(hs:state.length<2^40):PC Tryz.prog EE 73 [a.v,.int .i64 j,.aa5 (state.map Md.ai2)] (.bool (ac5.some state (a.meant j))):=by
 refine af3 hE fok73 (nZ rfl) (bb6 (ah4 a) (.int _ _) (ah5 _)) ?_;have h1:=bj8 a j hA;have h2:=dt7 state (a.meant j) hs (by have:=cb2 a j; have:=hA.len; omega);simp only[ic73,go_sem]
 first|refine aa4 fok130 (h1) ?_|refine aa2 (h1) ?_
 simp only[go_sem]
 first|refine aa4 fok129 (h2) ?_|refine aa2 (h2) ?_
 simp only[go_sem];exact ab2 rfl
theorem en7 (a:ac5)(j:Int)(state:List Int)(hA:AOK a)(hs:state.length<2^40):PC Tryz.prog EE 74 [a.v,.int .i64 j,.aa5 (state.map Md.ai2)] (.bool (!ac5.some state (a.meant j))):=by
 refine af3 hE fok74 (nZ rfl) (bb6 (ah4 a) (.int _ _) (ah5 _)) ?_;have h1:=bj8 a j hA;have h2:=dt7 state (a.meant j) hs (by have:=cb2 a j; have:=hA.len; omega);simp only[ic74,go_sem]
 first|refine aa4 fok130 (h1) ?_|refine aa2 (h1) ?_
 simp only[go_sem]
 first|refine aa4 fok129 (h2) ?_|refine aa2 (h2) ?_
 simp only[go_sem];exact ab2 rfl
theorem en8 (a:ac5)(i:Int)(state:List Int)(hA:AOK a)(hs:state.length<2^40):PC Tryz.prog EE 131 [.int .i64 i,.ac2 [.aa5 (state.map Md.ai2)],.ac2 [a.v]] (.bool (!ac5.some state (a.bj2 i))):=by
 refine af3 hE fok131 (nZ rfl) (bb6 (.int _ _) (.ac2 _ (aj1 (ah5 _))) (.ac2 _ (aj1 (ah4 a)))) ?_;have h1:=cy4 a i hA;have h2:=dt7 state (a.bj2 i) hs (by have:=a.bz7 i; have:=hA.len; omega);simp only[ic131,go_sem]
 first|refine aa4 fok103 (h1) ?_|refine aa2 (h1) ?_
 simp only[go_sem]
 first|refine aa4 fok129 (h2) ?_|refine aa2 (h2) ?_
 simp only[go_sem];exact ab2 rfl
theorem ha7 (a:ac5)(i:Int)(state:List Int)(hA:AOK a)(hs:state.length<2^40):PC Tryz.prog EE 132 [.int .i64 i,.ac2 [a.v],.ac2 [.aa5 (state.map Md.ai2)]] (.bool (decide (0<(a.dz9 i).length)&&!ac5.some state (a.dz9 i))):=by
 refine af3 hE fok132 (nZ rfl) (bb6 (.int _ _) (.ac2 _ (aj1 (ah4 a))) (.ac2 _ (aj1 (ah5 _)))) ?_;have h1:=fo6 a i hA;have h2:=dt7 state (a.dz9 i) hs (by have:=a.gt9 i; have:=hA.len; omega);simp only[ic132,go_sem]
 first|refine aa4 fok133 (h1) ?_|refine aa2 (h1) ?_
 by_cases e:0<(a.dz9 i).length
 ·have e':(0:Int)<(a.dz9 i).length:=by omega
  simp only[go_sem,e']
  first|refine aa4 fok129 (h2) ?_|refine aa2 (h2) ?_
  simp only[go_sem];exact ab2 (by simp[e])
 ·have e':¬ (0:Int)<(a.dz9 i).length:=by omega
  simp only[go_sem,e'];exact ab2 (by simp[e])
theorem dt9 (a:ac5)(j:Int)(state:List Int)(hA:AOK a)(hs:state.length<2^40):PC Tryz.prog EE 75 [a.v,.int .i64 j,.aa5 (state.map Md.ai2)] (.bool (!(a.meant j).any fun i=>!ac5.some state (a.bj2 i))):=by
 refine af3 hE fok75 (nZ rfl) (bb6 (ah4 a) (.int _ _) (ah5 _)) ?_;have h1:=bj8 a j hA;have h2:=bh6 (a.meant j) 131 [] [.ac2 [.aa5 (state.map Md.ai2)],.ac2 [a.v]] (fun i=>!ac5.some state (a.bj2 i)) (by have:=cb2 a j; have:=hA.len; omega) fok131.1 fun x hx=>en8 a x state hA hs
 have vcs:a.v.cs=[a.v]:=rfl;have vlf:a.v.leaf=true:=rfl;simp only[ic75,go_sem,vcs,List.all_cons,vlf,List.all_nil,List.head?_cons]
 first|refine aa4 fok130 (h1) ?_|refine aa2 (h1) ?_
 simp only[go_sem]
 first|refine aa4 fok99 (h2) ?_|refine aa2 (h2) ?_
 simp only[go_sem];exact ab2 rfl
theorem fo8 (a:ac5)(j:Int)(state:List Int)(hA:AOK a)(hs:state.length<2^40):PC Tryz.prog EE 76 [a.v,.int .i64 j,.aa5 (state.map Md.ai2)] (.bool (!(a.meant j).any fun i=>decide (0<(a.dz9 i).length)&&!ac5.some state (a.dz9 i))):=by
 refine af3 hE fok76 (nZ rfl) (bb6 (ah4 a) (.int _ _) (ah5 _)) ?_;have h1:=bj8 a j hA;have h2:=bh6 (a.meant j) 132 [] [.ac2 [a.v],.ac2 [.aa5 (state.map Md.ai2)]] (fun i=>decide (0<(a.dz9 i).length)&&!ac5.some state (a.dz9 i)) (by have:=cb2 a j; have:=hA.len; omega) fok132.1 fun x hx=>ha7 a x state hA hs
 have vcs:a.v.cs=[a.v]:=rfl;have vlf:a.v.leaf=true:=rfl;simp only[ic76,go_sem,vcs,List.all_cons,vlf,List.all_nil,List.head?_cons]
 first|refine aa4 fok130 (h1) ?_|refine aa2 (h1) ?_
 simp only[go_sem]
 first|refine aa4 fok99 (h2) ?_|refine aa2 (h2) ?_
 simp only[go_sem];exact ab2 rfl
theorem du1 (a:ac5)(j:Int)(state:List Int)(hA:AOK a)(hs:state.length<2^40):PC Tryz.prog EE 33 [a.v,.int .i64 j,.aa5 (state.map Md.ai2)] (.bool (a.ck6 j state)):=by
 refine af3 hE fok33 (nZ rfl) (bb6 (ah4 a) (.int _ _) (ah5 _)) ?_;have h1:=cx9 a j;have c1:=dt8 a j state hA hs;have c2:=en7 a j state hA hs;have c3:=dt9 a j state hA hs;have c4:=fo8 a j state hA hs;unfold ac5.ck6
 cases hj:a.job j with
 | false=>
  rw[hj] at h1;simp only[ic33,go_sem]
  first|refine aa4 fok71 (h1) ?_|refine aa2 (h1) ?_
  simp only[go_sem]
  exact ab2 rfl
 | true=>
  rw[hj] at h1;obtain ⟨j1,j2,j3,j4⟩:=iv7 a hj;have hk:=hA.jf6 _ j4;have k0:(a.jb j).cs.head? = some (.int .u8 (a.jb j).kind):=rfl;generalize ac5.some state (a.meant j)=B1 at *;generalize ((a.meant j).any fun i=>!ac5.some state (a.bj2 i))=B3 at *;generalize ((a.meant j).any fun i=>decide (0<(a.dz9 i).length)&&!ac5.some state (a.dz9 i))=B4 at *;generalize a.jb j=x at *;unfold ac5.v ac5.cs at *;have hk4:x.kind=1\/x.kind=2\/x.kind=3\/x.kind=4:=by omega
  simp only[ic33,go_sem]
  first|refine aa4 fok71 (h1) ?_|refine aa2 (h1) ?_
  have nfl:IV.ab8.leaf=true:=rfl;have q1:¬ (2:Int)=1:=by decide
  have q2:¬ (3:Int)=1:=by decide
  have q3:¬ (3:Int)=2:=by decide
  have q4:¬ (4:Int)=1:=by decide
  have q5:¬ (4:Int)=2:=by decide
  have q6:¬ (4:Int)=3:=by decide
  rcases hk4 with e|e|e|e
  ·simp only[go_sem,j1,j2,j3,ay1,ba7,ar2,k0,e,nfl]
   first|refine aa4 fok73 (c1) ?_|refine aa2 (c1) ?_
   simp only[go_sem];exact ab2 rfl
  ·simp only[go_sem,j1,j2,j3,ay1,ba7,ar2,k0,e,nfl,q1]
   first|refine aa4 fok74 (c2) ?_|refine aa2 (c2) ?_
   simp only[go_sem];exact ab2 rfl
  ·simp only[go_sem,j1,j2,j3,ay1,ba7,ar2,k0,e,nfl,q2,q3]
   first|refine aa4 fok75 (c3) ?_|refine aa2 (c3) ?_
   simp only[go_sem];exact ab2 rfl
  ·simp only[go_sem,j1,j2,j3,ay1,ba7,ar2,k0,e,nfl,q4,q5,q6]
   first|refine aa4 fok76 (c4) ?_|refine aa2 (c4) ?_
   simp only[go_sem];exact ab2 rfl
structure du2 (r:Req):Prop where
 ai4:r.ai4.length<2^20
 ai5:r.ai5.length<2^20
 ij7:∀ j∈r.ai4,Dep.small j.dep/\j.dep.name.length<2^30
theorem bc7 (r:Req):∀ c∈r.cs,Bnd 0 c:=hz4 (.int _ _) (.bool _) (ca7 _) (bc6 _) (.int _ _)
theorem ig2 (r:Req):r.cs.length=5:=rfl
theorem ah2 (r:Req):r.cs.all IV.leaf=true:=rfl
theorem bj9 (r:Req):r.cs.take 5=r.cs:=rfl
theorem gj3 (j:Job)(h:Dep.small j.dep/\j.dep.name.length<2^30):PC Tryz.prog EE 83 [.agg j.cs] (.bool (!ay9 j)):=by
 refine af3 hE fok83 (nZ rfl) (aj1 (gz6 j)) ?_;have hd:=bo4 j.dep (by omega) (by have:=h.1.2.2.1; omega) (by have:=h.1.2.2.2; omega);have k0:j.cs.head? = some (.int .u8 j.kind):=rfl;have k1:=cr3 j;have k2:(j.cs.drop 1).length=5:=rfl;unfold ay9;by_cases e1:j.kind<1
 ·have e1':¬ 1<=j.kind:=by omega
  simp only[ic83,go_sem,ar2,k0,e1];exact ab2 (by simp[e1'])
 have e1':1<=j.kind:=by omega
 by_cases e2:4<j.kind
 ·have e2':¬ j.kind<=4:=by omega
  simp only[ic83,go_sem,ar2,k0,e1,e2];exact ab2 (by simp[e2'])
 have e2':j.kind<=4:=by omega
 simp only[ic83,go_sem,ar2,k0,k1,k2,e1,e2]
 first|refine aa4 fok84 (hd) ?_|refine aa2 (hd) ?_
 simp only[go_sem];exact ab2 (by simp[e1',e2'])
theorem fo9 (e:bc2)(ai4 inst:Int):PC Tryz.prog EE 87 [.agg e.cs,.int .i64 ai4,.int .i64 inst] (.bool (au5 e ai4 inst)):=by
 refine af3 hE fok87 (nZ rfl) (bb6 (ca8 e) (.int _ _) (.int _ _)) ?_;have k0:e.cs.head? = some (.int .u8 e.kind):=rfl;have k1:(e.cs.drop 1).head? = some (.int .i64 e.n):=rfl;unfold au5;by_cases d1:e.kind=1
 case' pos=>
  have f1:(1:Int)<=1:=by decide
  have f2:(1:Int)<=4:=by decide
  rw[d1] at k0 ⊢;simp only[ic87,go_sem,aj6,k0,f1,f2,k1];generalize ai4=most
 case' neg=>
  rw[if_neg d1];by_cases d2:1<=e.kind
  case' neg=>
   simp only[ic87,go_sem,aj6,k0,d1,d2];exact ab2 (by simp)
  by_cases d3:e.kind<=4
  case' neg=>
   simp only[ic87,go_sem,aj6,k0,d1,d2,d3];exact ab2 (by simp)
  simp only[ic87,go_sem,aj6,k0,d1,d2,d3,k1];generalize inst=most
 all_goals
  by_cases d4:0<=e.n
  ·simp only[go_sem,d4,k1];exact ab2 (by simp)
  ·simp only[go_sem,d4];exact ab2 (by simp)
theorem ig3 (e:bc2)(p:Pool)(r:Req):PC Tryz.prog EE 86 [.agg e.cs,.ac2 r.cs,.ac2 [p.v]] (.bool (!au5 e r.ai4.length p.inst)):=by
 refine af3 hE fok86 (nZ rfl) (bb6 (ca8 e) (.ac2 _ (bc7 r)) (.ac2 _ (aj1 (be2 p)))) ?_;have h1:=az8 p;have h2:=fo9 e r.ai4.length p.inst;have k2:(r.cs.drop 2).head? = some (bi9 r.ai4):=rfl;simp only[ic86,go_sem,aj6,ar3,ap3,k2]
 first|refine aa4 fok88 (h1) ?_|refine aa2 (h1) ?_
 simp only[go_sem]
 first|refine aa4 fok87 (h2) ?_|refine aa2 (h2) ?_
 simp only[go_sem];exact ab2 rfl
theorem hn7 (r:Req)(h1:r.ai4.length<=2147483648)(h2:r.ai5.length<=2147483648):PC Tryz.prog EE 90 [.agg r.cs] (.agg r.cs):=by
 refine af3 hE fok90 (nZ rfl) (aj1 (.agg _ (bc7 r))) ?_;have c1:=en3 r.ai4 h1;have c2:=ed1 r.ai5 h2;have hb:=bc7 r;unfold Req.cs at *;simp only[ic90,go_sem]
 first|refine aa4 fok152 (c1) ?_|refine aa2 (c1) ?_
 simp only[go_sem]
 first|refine aa4 fok153 (c2) ?_|refine aa2 (c2) ?_
 simp only[go_sem];exact .keep _ (.agg _ hb)
theorem ig4 {α:Type}(q:α->Bool)(l:List α):(l.any fun x=>!q x)=!l.all q:=by
 induction l with
 | nil=>rfl
 | cons x l ih=>simp only[List.any_cons,List.all_cons,ih,Bool.not_and]
theorem gj4 (p:Pool)(r:Req)(hR:du2 r)(hl:(ae6 p).length<=256)(hf:∀ x∈ae6 p,x.Fit/\x.Tiny):PC Tryz.prog EE 39 [p.v,.agg r.cs] (ij5 p r):=by
 refine af3 hE fok39 (nZ rfl) (ak2 (be2 p) (.agg _ (bc7 r))) ?_;have hm:=cm2 r.au3;have hJ:=gi9 r.ai4 83 [] [] (fun j=>!ay9 j) (by have:=hR.ai4; omega) fok83.1 fun j hj=>gj3 j (hR.ij7 j hj)
 have hEd:=fo3 r.ai5 86 [] [.ac2 r.cs,.ac2 [p.v]] (fun e=>!au5 e r.ai4.length p.inst) (by have:=hR.ai5; omega) fok86.1 fun e he=>ig3 e p r
 rw[ig4] at hJ hEd;have hrl:p.rows.length=(ae6 p).length:=by simp[ae6]
 have hM:=bj6 p (fun x hx=>(hf _ (List.mem_map_of_mem (f:=fun x:bd9=>x.pkg) hx)).1) (by omega) (fun x hx=>by
  have:=(hf _ (List.mem_map_of_mem (f:=fun x:bd9=>x.pkg) hx)).2;have a:=this.aw2.1; have b:=this.obs.1; have c:=this.files; omega)
 have hM:PC Tryz.prog EE 89 [p.v] (.tuple [(ah7 (ae6 p)).v,.int .i64 0]):=hM;have hO:=hn7 r (by have:=hR.ai4; omega) (by have:=hR.ai5; omega);have hC:=be3 p;rw[hrl] at hC
 have hpk:∀ j (h:j<(ae6 p).length),PC Tryz.prog EE 91 [p.v,.int .i64 j] (.tuple [.agg (ae6 p)[j].cs,.int .i64 0]):=fun j h=>by
  have hq:p.rows[j].pkg=(ae6 p)[j]:=by simp[ae6]
  have h1:=bf1 p j (by omega) (by rw[hq]; exact (hf _ (List.getElem_mem h)).1);rw[hq] at h1; exact h1
 have hbA:=ah4 ⟨p,r⟩;have k0:r.cs.head? = some (.int .u8 r.au3):=rfl;have k2:(r.cs.drop 2).head? = some (bi9 r.ai4):=rfl;have k3:(r.cs.drop 3).head? = some (av3 r.ai5):=rfl;have k4:(r.cs.drop 4).head? = some (.int .i64 r.budget):=rfl;obtain ⟨V,hV⟩:∃ V,ij5 p r=V:=⟨_,rfl⟩
 have herr:∀ (s:Store) (e:Int),al2 r p.inst=e->e≠0->cb5 s 0 (.tuple [.ab6,.int .i64 e]) V:=fun s e h1 h2=>by
  rw[<- hV];unfold ij5;rw[h1,if_neg h2];exact .keep _ (.tuple _ (ak2 .ab6 (.int _ _)))
 rw[hV];have vcs:p.v.cs=[p.v]:=rfl;have vlf:p.v.leaf=true:=rfl;have vnl:∀ d:TypeId,bw8 (.pointer d) p.v=some false:=fun _=>rfl
 by_cases c1:bv6 r.au3=false
 ·simp only[ic39,go_sem,vcs,List.all_cons,vlf,List.all_nil,List.head?_cons,ah2,vnl,k0]
  first|refine aa4 fok81 (hm) ?_|refine aa2 (hm) ?_
  simp only[go_sem,c1];exact herr _ 1 (by unfold al2; rw[if_pos (.inl c1)]) (by decide)
 have c1':bv6 r.au3=true:=by simpa using c1
 by_cases c2:r.budget<0
 ·simp only[ic39,go_sem,vcs,List.all_cons,vlf,List.all_nil,List.head?_cons,ah2,vnl,k0]
  first|refine aa4 fok81 (hm) ?_|refine aa2 (hm) ?_
  simp only[go_sem,c1',k4,c2];exact herr _ 1 (by unfold al2; rw[if_pos (.inr (.inl c2))]) (by decide)
 by_cases c3:1099511627776<r.budget
 ·simp only[ic39,go_sem,vcs,List.all_cons,vlf,List.all_nil,List.head?_cons,ah2,vnl,k0]
  first|refine aa4 fok81 (hm) ?_|refine aa2 (hm) ?_
  simp only[go_sem,c1',k4,c2,c3];exact herr _ 1 (by unfold al2; rw[if_pos (.inr (.inr c3))]) (by decide)
 have q1:¬ (bv6 r.au3=false\/r.budget<0\/1099511627776<r.budget):=fun h=>h.elim c1 fun h=>h.elim c2 c3
 by_cases c4:64<r.ai4.length
 ·have c4':(64:Int)<r.ai4.length:=by omega
  simp only[ic39,go_sem,vcs,List.all_cons,vlf,List.all_nil,List.head?_cons,ah2,vnl,k0]
  first|refine aa4 fok81 (hm) ?_|refine aa2 (hm) ?_
  simp only[go_sem,c1',k4,c2,c3,k2,c4'];exact herr _ 40 (by unfold al2; rw[if_neg q1,if_pos (.inl c4)]) (by decide)
 have c4':¬ (64:Int)<r.ai4.length:=by omega
 by_cases c5:64<r.ai5.length
 ·have c5':(64:Int)<r.ai5.length:=by omega
  simp only[ic39,go_sem,vcs,List.all_cons,vlf,List.all_nil,List.head?_cons,ah2,vnl,k0]
  first|refine aa4 fok81 (hm) ?_|refine aa2 (hm) ?_
  simp only[go_sem,c1',k4,c2,c3,k2,k3,c4',c5'];exact herr _ 40 (by unfold al2; rw[if_neg q1,if_pos (.inr c5)]) (by decide)
 have c5':¬ (64:Int)<r.ai5.length:=by omega
 have q2:¬ (64<r.ai4.length\/64<r.ai5.length):=fun h=>h.elim c4 c5
 by_cases c6:r.ai4.all ay9=false
 ·simp only[ic39,go_sem,vcs,List.all_cons,vlf,List.all_nil,List.head?_cons,ah2,vnl,k0]
  first|refine aa4 fok81 (hm) ?_|refine aa2 (hm) ?_
  simp only[go_sem,c1',k4,c2,c3,k2,k3,c4',c5']
  first|refine aa4 fok82 (hJ) ?_|refine aa2 (hJ) ?_
  simp only[go_sem,c6,Bool.not_false];exact herr _ 4 (by unfold al2; rw[if_neg q1,if_neg q2,if_pos c6]) (by decide)
 have c6':r.ai4.all ay9=true:=by simpa using c6
 simp only[ic39,go_sem,vcs,List.all_cons,vlf,List.all_nil,List.head?_cons,ah2,vnl,k0]
 first|refine aa4 fok81 (hm) ?_|refine aa2 (hm) ?_
 simp only[go_sem,c1',k4,c2,c3,k2,k3,c4',c5']
 first|refine aa4 fok82 (hJ) ?_|refine aa2 (hJ) ?_
 simp only[go_sem,c6',Bool.not_true,k3]
 first|refine aa4 fok85 (hEd) ?_|refine aa2 (hEd) ?_
 by_cases c7:(r.ai5.all fun e=>au5 e r.ai4.length p.inst)=false
 ·simp only[go_sem,c7,Bool.not_false];exact herr _ 5 (by unfold al2; rw[if_neg q1,if_neg q2,if_neg c6,if_pos c7]) (by decide)
 have c7':(r.ai5.all fun e=>au5 e r.ai4.length p.inst)=true:=by simpa using c7
 have hV0:V=.tuple [.ac2 [p.v,(ah7 (ae6 p)).v,.int .u8 r.au3,.bool r.vendor,bi9 r.ai4,av3 r.ai5,.int .i64 r.budget,.aa5 ((ae6 p).map aa3.cs)],.int .i64 0]:=by
  rw[<- hV];unfold ij5;rw[if_pos (by unfold al2; rw[if_neg q1,if_neg q2,if_neg c6,if_neg c7])];rfl
 have hbX:=bc5 (ah7 (ae6 p));have hbP:=be2 p;rw[hV0];clear herr hV hV0 hJ hEd;simp only[go_sem,c7',Bool.not_true]
 first|refine aa4 fok89 (hM) ?_|refine aa2 (hM) ?_
 simp only[go_sem,ig2,bj9]
 first|refine aa4 fok90 (hO) ?_|refine aa2 (hO) ?_
 have hrc:r.cs=[.int .u8 r.au3,.bool r.vendor,bi9 r.ai4,av3 r.ai5,.int .i64 r.budget]:=rfl;rw[hrc];have xlf:(ah7 (ae6 p)).v.leaf=true:=rfl;have xcs:(ah7 (ae6 p)).v.cs=[(ah7 (ae6 p)).v]:=rfl;generalize (ah7 (ae6 p)).v=X at *;generalize hPv:p.v=Pv at *;simp only[go_sem,vcs,vlf,xlf,xcs]
 first|refine aa4 fok27 (hC) ?_|refine aa2 (hC) ?_
 simp only[go_sem];refine ab7 noT (fun n fr s=>∃ gv,fr=[(2,.ac2 [Pv]),(8,.ptr 5 0),(65,.int .i64 (ae6 p).length),(66,.int .i64 (n:Int))]/\7<=s.next/\s.obj 5=some (.cells [Pv,X,.int .u8 r.au3,.bool r.vendor,bi9 r.ai4,av3 r.ai5,.int .i64 r.budget,gv])/\Grow s gv 15 (((ae6 p).take n).map aa3.cs)) (ae6 p).length ⟨.aa1,rfl,Nat.le_refl _,by simp only[aa7,if_true],.inl ⟨rfl,rfl⟩⟩ ?_;rintro n fr s hn ⟨gv,rfl,hnx,ho,hg⟩;by_cases hlt:n<(ae6 p).length
 ·have d1:(n:Int)<((ae6 p).length:Int):=by omega
  have w1:=ae1 (i:=n) (by omega);have hp:=hpk n hlt;have n5:¬ 5=s.next:=by omega
  have htk:(ae6 p).take (n+1)=(ae6 p).take n++[(ae6 p)[n]]:=by
   rw[List.take_add_one,List.getElem?_eq_getElem hlt]; rfl
  have hgl:gv.leaf=true:=by rcases hg with ⟨rfl,_⟩|⟨id,rfl,_⟩<;>rfl
  have hgc:gv.cs=[gv]:=by rcases hg with ⟨rfl,_⟩|⟨id,rfl,_⟩<;>rfl
  simp only[go_sem,d1]
  first|refine aa4 fok91 (hp) ?_|refine aa2 (hp) ?_
  simp only[go_sem,ag8,ah1,ad2,n5,ho,b_o,b_p,b_t];obtain ⟨s1,a1,a2,a3,a4⟩:=gq8 (k:=11) (nid:=s.next+1+1+1+1+1+1+1+1) (e:=(ae6 p)[n].cs) (A:=.cells [.str [],.int .i64 0,.str [],.str [],.int .u8 0,.str [],.aa1,.aa1,.aa1,.aa1,.aa1,.aa1,.aa1,.aa1,.aa1]) (B:=.cells (ae6 p)[n].cs) hg (bc4 _) ⟨rfl,rfl⟩ (by rw[List.length_map,List.length_take]; omega) ho (by omega) (by omega);simp only[go_sem,a1,a3,b_o,b_p,b_t,w1];refine ⟨hlt,_,by rw[a2]; omega,rfl,?_⟩;rw[htk,List.map_append];have a5:=a4 [Pv,X,.int .u8 r.au3,.bool r.vendor,bi9 r.ai4,av3 r.ai5,.int .i64 r.budget,.slice (s.next+1+1+1+1+1+1+1+1) 0 (((ae6 p).take n).length+1) 15] s1.next (by rw[a2]; omega);rw[List.length_map] at a5;exact a5
 ·have hn':n=(ae6 p).length:=by omega
  subst hn';have d1:¬ ((ae6 p).length:Int)<((ae6 p).length:Int):=by omega
  rw[List.take_length] at hg;simp only[go_sem,d1]
  have hbe:∀ e∈(ae6 p).map aa3.cs,∀ c∈e,Bnd 0 c:=fun e he c hc=>by
   obtain ⟨y,_,rfl⟩:=List.mem_map.1 he;exact az6 y c hc
  refine .cm6 (.cons (.ptr 5 0 _ _ (Nat.not_lt_zero _) (.inl ho) (Nat.le_refl _) (fun j hj=>?_)) (.cons (bw3 rfl) .nil))
  match j,hj with
  | 0,_=>exact .keep _ hbP
  | 1,_=>exact .keep _ hbX
  | 2,_=>exact .keep _ (.int _ _)
  | 3,_=>exact .keep _ (.bool _)
  | 4,_=>exact .keep _ (ca7 _)
  | 5,_=>exact .keep _ (bc6 _)
  | 6,_=>exact .keep _ (.int _ _)
  | 7,_=>exact hg.frz (fun x hx=>(bc4 _ x hx).1) (fun _ _=>Nat.not_lt_zero _) hbe
end Go.Id.Tryz
