/- What a request asks for,by the reference: who is named,aw1,dropped,fits. Conditions: sizes that fit. -/
import Derived.Test.YtphnnoolpagclaaGreatDoorTQSF
import Derived.Test.YtphnnoolpagclaaGreatDoorTQSK
set_option linter.all false
namespace Go.Id.Md
open Go Go.Id
def ab9.dcs (a:ab9):List IV:=.aa5 (a.l.map aa3.cs)::.int .i64 a.p.inst::a.r.cs
def ab9.dv (a:ab9):IV:=.ab7 a.dcs
end Go.Id.Md
namespace Go.Id.Tryz
open Go Go.Id Go.Proofs Go.Id.Md
set_option maxRecDepth 100000
set_option maxHeartbeats 1000000
theorem ay3 (a:ab9):Bnd 0 a.dv:=.ab7 _ fun c hc=>by
 rcases List.mem_cons.1 hc with rfl|hc
 ·exact ao6 _
 ·rcases List.mem_cons.1 hc with rfl|hc
  ·exact .int _ _
  ·exact av8 a.r c hc
theorem az4 (a:ab9):a.dcs.head? = some (.aa5 (a.l.map aa3.cs)):=rfl
theorem df9 (a:ab9):(a.dcs.drop 1).head? = some (.int .i64 a.p.inst):=rfl
theorem ih5 (a:ab9):(a.dcs.drop 2).head? = some (.int .u8 a.r.ao9):=rfl
theorem ih6 (a:ab9):((a.dcs.drop 2).drop 1).head? = some (.bool a.r.vendor):=rfl
theorem cg8 (a:ab9):((a.dcs.drop 2).drop 2).head? = some (av1 a.r.af3):=rfl
theorem gc1 (a:ab9):((a.dcs.drop 2).drop 3).head? = some (am1 a.r.ae1):=rfl
theorem bt4 (a:ab9):a.dv.cs=[a.dv]:=rfl
theorem aw5 (a:ab9):a.dv.leaf=true:=rfl
theorem ad7 (a:ab9):a.dv=.ab7 a.dcs:=rfl
theorem ay4 (l:List at5)(σ:Store):cp5 0 σ (am1 l)=some (.int .i64 l.length):=by unfold am1; simp only[go_sem]
theorem ah5 (l:List Job)(σ:Store):cp5 0 σ (av1 l)=some (.int .i64 l.length):=by unfold av1; simp only[go_sem]
theorem fl5 (e:at5):e.cs.head? = some (.int .u8 e.kind):=rfl
theorem fl6 (e:at5):(e.cs.drop 1).head? = some (.int .i64 e.n):=rfl
theorem be6 (a:ab9)(hA:AOK a)(k n:Int):PC Tryz.prog EE 62 [a.dv,.int .u8 k,.int .i64 n] (.bool (a.aw1 k n)):=by
 refine af5 hE fok62 (nZ rfl) (bc8 (ay3 a) (.int _ _) (.int _ _)) ?_;have hl:=hA.ae1;simp only[ic62,go_sem];refine ab5 noT (fun i fr s=>fr=[(0,a.dv),(1,.int .u8 k),(2,.int .i64 n),(7,.int .i64 (i:Int))]/\(⟨k,n⟩:at5) ∉ a.r.ae1.take i) a.r.ae1.length ⟨rfl,by simp⟩ ?_;rintro i fr s hi ⟨rfl,hn⟩;by_cases hlt:i<a.r.ae1.length
 ·obtain ⟨x,hx,hxi,hdr,hget,htk⟩:=ad5 a.r.ae1 i hlt;have d1:(i:Int)<a.r.ae1.length:=by omega
  have d2:(0:Int)<=(i:Int):=by omega
  have w1:=ad9 (i:=i) (by omega);have hg:=hget at5.cs;by_cases e1:x.kind=k
  ·by_cases e2:x.n=n
   ·have hin:(⟨k,n⟩:at5)∈a.r.ae1:=by
     have:x=⟨k,n⟩:=by cases x; simp only at e1 e2; subst e1; subst e2; rfl
     rw[<- this]; exact hx
    simp only[go_sem,ad7,gc1,ay4,am1,d1,d2,hg,fl5,fl6,ak9,e1,e2,ad3];exact ab2 (decide_eq_true hin).symm
   ·simp only[go_sem,ad7,gc1,ay4,am1,d1,d2,hg,fl5,fl6,ak9,e1,e2,w1,ad3];refine ⟨hlt,?_⟩;rw[htk,List.mem_append,not_or];exact ⟨hn,fun h=>e2 (by rw[<- List.mem_singleton.1 h])⟩
  ·simp only[go_sem,ad7,gc1,ay4,am1,d1,d2,hg,fl5,fl6,ak9,e1,w1,ad3];refine ⟨hlt,?_⟩;rw[htk,List.mem_append,not_or];exact ⟨hn,fun h=>e1 (by rw[<- List.mem_singleton.1 h])⟩
 ·have d1:¬ (i:Int)<a.r.ae1.length:=by omega
  rw[List.take_of_length_le (by omega)] at hn;simp only[go_sem,ad7,gc1,ay4,d1,ad3];exact ab2 (decide_eq_false hn).symm
theorem ce9 (a:ab9)(hA:AOK a)(n:Int):PC Tryz.prog EE 22 [a.dv,.int .i64 n] (.bool (a.dropped n)):=by
 refine af5 hE fok22 (nZ rfl) (aj2 (ay3 a) (.int _ _)) ?_;have he:=be6 a hA 1 n;by_cases h0:0<=n
 ·by_cases h1:n<a.r.af3.length
  ·simp only[ic22,go_sem,ad7,cg8,ah5,h0,h1,ad3];rw[<- ad7]
   first|refine aa4 fok62 (he) ?_|refine aa2 (he) ?_
   simp only[go_sem];exact ab2 (by unfold ab9.dropped ab9.job; simp[h0,h1])
  ·simp only[ic22,go_sem,ad7,cg8,ah5,h0,h1,ad3];exact ab2 (by unfold ab9.dropped ab9.job; simp[h1])
 ·simp only[ic22,go_sem,ad7,cg8,ah5,h0,ad3];exact ab2 (by unfold ab9.dropped ab9.job; simp[h0])
theorem dp5 (a:ab9)(n:Int):PC Tryz.prog EE 18 [a.dv,.int .i64 n] (.bool (a.fits n)):=by
 refine af5 hE fok18 (nZ rfl) (aj2 (ay3 a) (.int _ _)) ?_;have p4:∀ p:aa3,(p.cs.drop 4).head? = some (.int .u8 p.ao9):=fun _=>rfl
 by_cases h0:0<=n
 ·by_cases h1:n<a.l.length
  ·obtain ⟨m,rfl⟩:∃ m:Nat,n=m:=⟨n.toNat,by omega⟩;have hm:m<a.l.length:=by omega
   have hg:(a.l.map aa3.cs).getD m []=(a.pk m).cs:=by simp[ab9.pk,List.getD_eq_getElem?_getD,hm]
   have hf:=gh4 a.r.ao9 (a.pk m).ao9;simp only[ic18,go_sem,ad7,az4,ih5,h0,h1,hg,p4,ag3,ad3]
   first|refine aa4 fok55 (hf) ?_|refine aa2 (hf) ?_
   simp only[go_sem];exact ab2 (by unfold ab9.fits ab9.is; simp[h0,h1])
  ·simp only[ic18,go_sem,ad7,az4,h0,h1,ad3];exact ab2 (by unfold ab9.fits ab9.is; simp[h1])
 ·simp only[ic18,go_sem,ad7,az4,h0,ad3];exact ab2 (by unfold ab9.fits ab9.is; simp[h0])
theorem bt5 (a:ab9){m:Nat}(h:m<a.l.length):(a.l.map aa3.cs).getD m []=(a.pk m).cs:=by simp[ab9.pk,List.getD_eq_getElem?_getD,h]
theorem fl7 (a:ab9){p:Nat}(h:p<a.l.length):a.pk p∈a.l:=by
 have:a.pk p=a.l[p]:=by simp[ab9.pk,List.getD_eq_getElem?_getD,h]
 rw[this]; exact List.getElem_mem h
theorem ex9 (a:ab9)(hA:AOK a)(n m:Int):PC Tryz.prog EE 20 [a.dv,.int .i64 n,.int .i64 m] (.bool (a.twins n m)):=by
 refine af5 hE fok20 (nZ rfl) (bc8 (ay3 a) (.int _ _) (.int _ _)) ?_;by_cases h0:n<0
 ·simp only[ic20,go_sem,ad7,az4,h0,ad3];exact ab2 (by unfold ab9.twins ab9.is; simp[show ¬ 0<=n by omega])
 by_cases h1:m<0
 ·simp only[ic20,go_sem,ad7,az4,h0,h1,ad3];exact ab2 (by unfold ab9.twins ab9.is; simp[show ¬ 0<=m by omega])
 by_cases h2:(a.l.length:Int)<=n
 ·simp only[ic20,go_sem,ad7,az4,h0,h1,h2,ad3];exact ab2 (by unfold ab9.twins ab9.is; simp[show ¬ n<a.l.length by omega])
 by_cases h3:(a.l.length:Int)<=m
 ·simp only[ic20,go_sem,ad7,az4,h0,h1,h2,h3,ad3];exact ab2 (by unfold ab9.twins ab9.is; simp[show ¬ m<a.l.length by omega])
 by_cases h4:n=m
 ·simp only[ic20,go_sem,ad7,az4,h0,h1,h2,h3,h4,ad3];exact ab2 (by unfold ab9.twins; simp[h4])
 obtain ⟨x,rfl⟩:∃ x:Nat,n=x:=⟨n.toNat,by omega⟩;obtain ⟨y,rfl⟩:∃ y:Nat,m=y:=⟨m.toNat,by omega⟩;have c1:x<a.l.length:=by omega
 have c2:y<a.l.length:=by omega
 have d1:(0:Int)<=(x:Int):=by omega
 have d2:(0:Int)<=(y:Int):=by omega
 have d3:(x:Int)<a.l.length:=by omega
 have d4:(y:Int)<a.l.length:=by omega
 have gx:=bt5 a c1;have gy:=bt5 a c2;have sx:=hA.small _ (fl7 a c1);have sy:=hA.small _ (fl7 a c2);have ht:a.twins x y=ab9.eg1 (a.pk x) (a.pk y):=by unfold ab9.twins ab9.is; simp[h4,d1,d2,c1,c2]
 rw[ht];generalize a.pk x=p at *;generalize a.pk y=q at *;have ha:=fs3 p.ao9 q.ao9;have hc:=bp7 p.evr q.evr sx.1 sy.1;have p1:∀ p:aa3,(p.cs.drop 1).take 3=p.evr.cs:=fun _=>rfl
 have p4:∀ p:aa3,(p.cs.drop 4).head? = some (.int .u8 p.ao9):=fun _=>rfl
 have l1:∀ p:aa3,3<=(p.cs.drop 1).length:=fun p=>by show 3<=14; decide
 unfold ab9.eg1;by_cases hnm:p.name=q.name
 ·simp only[ic20,go_sem,ad7,az4,h0,h1,h2,h3,h4,ad3,d1,d2,d3,d4,gx,gy,ag3,ae8,ae4,fb4,hnm,p4]
  first|refine aa4 fok58 (ha) ?_|refine aa2 (ha) ?_
  cases hap:bt3 p.ao9 q.ao9 with
  | false=>
   simp only[go_sem]
   exact ab2 (by simp)
  | true=>
   simp only[go_sem,p1,l1,ci4]
   first|refine aa4 fok59 (hc) ?_|refine aa2 (hc) ?_
   simp only[go_sem];exact ab2 (by simp)
 ·simp only[ic20,go_sem,ad7,az4,h0,h1,h2,h3,h4,ad3,d1,d2,d3,d4,gx,gy,ag3,ae8,ae4,fb4,hnm];exact ab2 (by simp[hnm])
theorem dg1 (a:ab9){m:Nat}(h:m<a.r.af3.length):(a.r.af3.map Job.cs).getD m []=(a.jb m).cs:=by simp[ab9.jb,List.getD_eq_getElem?_getD,h]
theorem gu3 (a:ab9){p:Nat}(h:p<a.r.af3.length):a.jb p∈a.r.af3:=by
 have:a.jb p=a.r.af3[p]:=by simp[ab9.jb,List.getD_eq_getElem?_getD,h]
 rw[this]; exact List.getElem_mem h
theorem gl5 (j:Job):j.cs.head? = some (.int .u8 j.kind):=rfl
theorem hy8 (j:Job):(j.cs.drop 1).take 5=j.dep.cs:=rfl
theorem gc2 (j:Job):j.cs.length=6:=rfl
theorem gc3 (j:Job):(j.cs.drop 1).length=5:=rfl
theorem gc4 (a:ab9){n:Nat}(h:n<a.l.length)(d:Dep):decide ((n:Int)∈al8 a.l d)=named (a.pk n) d:=by
 have hp:a.l.getD n default=a.pk n:=rfl
 cases hb:named (a.pk n) d with
 | true=>exact decide_eq_true (ar1.2 ⟨n,rfl,h,by rw[hp]; exact hb⟩)
 | false=>
  refine decide_eq_false fun hm=>?_
  obtain ⟨m,h1,_,h3⟩:=ar1.1 hm;have:m=n:=by omega
  subst this;rw[hp,hb] at h3; cases h3
theorem da1 (a:ab9)(hA:AOK a)(k:Int)(n:Nat)(hn:n<a.l.length):PC Tryz.prog EE 65 [a.dv,.int .u8 k,.int .i64 n] (.bool (a.at6 k n)):=by
 refine af5 hE fok65 (nZ rfl) (bc8 (ay3 a) (.int _ _) (.int _ _)) ?_;have hl:=hA.af3;obtain ⟨f,hf⟩:∃ f:Nat->Bool,f=fun i:Nat=>decide ((a.jb i).kind=k)&&!a.dropped i&&decide ((n:Int)∈al8 a.l (a.jb i).dep):=⟨_,rfl⟩
 obtain ⟨g,hg⟩:∃ g:Nat->Bool,g=fun i=>(List.range i).any f:=⟨_,rfl⟩
 have hB:a.at6 k n=g a.r.af3.length:=by rw[hg,hf]; rfl
 have hsn:∀ i,g (i+1)=(g i||f i):=fun i=>by rw[hg]; simp only[List.range_succ,List.any_append]; simp
 have hlast:∀ i,i<a.r.af3.length->f i=true->g a.r.af3.length=true:=fun i hi h=>by rw[hg]; exact List.any_eq_true.2 ⟨i,List.mem_range.2 hi,h⟩
 have hg0:g 0=false:=by rw[hg]; rfl
 clear hg;rw[hB];have e1:(0:Int)<=(n:Int):=by omega
 have e2:(n:Int)<a.l.length:=by omega
 have gn:=bt5 a hn;simp only[ic65,go_sem];refine ab5 noT (fun i fr s=>fr=[(0,a.dv),(1,.int .u8 k),(2,.int .i64 n),(7,.int .i64 (i:Int))]/\g i=false) a.r.af3.length ⟨rfl,hg0⟩ ?_;rintro i fr s hi ⟨rfl,hno⟩;by_cases hlt:i<a.r.af3.length
 ·have d1:(i:Int)<a.r.af3.length:=by omega
  have d2:(0:Int)<=(i:Int):=by omega
  have w1:=ad9 (i:=i) (by omega);have gj:=dg1 a hlt;have hD:=ce9 a hA i;have hN:=bn1 (a.pk n) (a.jb i).dep (hA.small _ (fl7 a hn)) (hA.gm9 _ (gu3 a hlt));have hfi:f i=(decide ((a.jb i).kind=k)&&!a.dropped i&&named (a.pk n) (a.jb i).dep):=by rw[hf,<- gc4 a hn]
  have hst:=hsn i;rw[hno,Bool.false_or] at hst;have hla:=hlast i hlt;rw[hfi] at hst hla;generalize a.jb i=jv at *;by_cases k1:jv.kind=k
  ·simp only[go_sem,ad7,cg8,ah5,av1,d1,d2,gj,gl5,gc2,k1,ad3];rw[<- ad7]
   first|refine aa4 fok22 (hD) ?_|refine aa2 (hD) ?_
   cases hd:a.dropped i with
   | true=>
    rw[hd] at hst;simp only[go_sem,w1]
    exact ⟨hlt,by rw[hst]; simp⟩
   | false=>
    rw[hd] at hst hla;simp only[go_sem,ad7,az4,cg8,ah5,av1,d1,d2,gj,gn,e1,e2,gl5,hy8,gc2,gc3,k1,ad3,ag3,ae8,ae4,ai9,ag5,af9]
    first|refine aa4 fok105 (hN) ?_|refine aa2 (hN) ?_
    cases hb:named (a.pk n) jv.dep with
    | true=>
     simp only[go_sem]
     exact ab2 (hla (by rw[hb]; simp[k1])).symm
    | false=>
     rw[hb] at hst;simp only[go_sem,w1];exact ⟨hlt,by rw[hst]; simp⟩
  ·simp only[go_sem,ad7,cg8,ah5,av1,d1,d2,gj,gl5,gc2,k1,w1,ad3];exact ⟨hlt,by rw[hst]; simp[k1]⟩
 ·have hi':i=a.r.af3.length:=by omega
  subst hi';have d1:¬ (a.r.af3.length:Int)<a.r.af3.length:=by omega
  simp only[go_sem,ad7,cg8,ah5,d1,ad3];exact ab2 hno.symm
theorem fl8 (a:ab9)(hA:AOK a)(n:Int):PC Tryz.prog EE 24 [a.dv,.int .i64 n] (.bool (a.goes n)):=by
 refine af5 hE fok24 (nZ rfl) (aj2 (ay3 a) (.int _ _)) ?_;have he:=be6 a hA 2 n;have hI:=hA.inst;by_cases h0:0<=n
 ·by_cases h1:n<a.p.inst
  ·obtain ⟨m,rfl⟩:∃ m:Nat,n=m:=⟨n.toNat,by omega⟩;have hN:=da1 a hA 2 m (by omega);have hin:a.inst m=true:=by unfold ab9.inst ab9.is; simp[h1]; omega
   have hg:a.goes m=(a.at6 2 m||a.aw1 2 m):=by unfold ab9.goes; rw[hin]; rfl
   rw[hg];simp only[ic24,go_sem,ad7,df9,h0,h1,ad3];rw[<- ad7]
   first|refine aa4 fok65 (hN) ?_|refine aa2 (hN) ?_
   cases a.at6 2 m with
   | true=>simp only[go_sem]; exact ab2 (by simp)
   | false=>
    simp only[go_sem]
    first|refine aa4 fok62 (he) ?_|refine aa2 (he) ?_
    simp only[go_sem];exact ab2 (by simp)
  ·simp only[ic24,go_sem,ad7,df9,h0,h1,ad3];exact ab2 (by unfold ab9.goes ab9.inst; simp[h1])
 ·simp only[ic24,go_sem,ad7,df9,h0,ad3];exact ab2 (by unfold ab9.goes ab9.inst ab9.is; simp[h0])
set_option maxHeartbeats 1000000
theorem be7 (st l:List Int)(h1:st.length<2^62)(h2:l.length<2^62):PC Tryz.prog EE 82 [.aa5 (st.map Md.af2),.aa5 (l.map Md.af2)] (.bool (ab9.some st l)):=by
 refine af5 hE fok82 (nZ rfl) (aj2 (ag1 st) (ag1 l)) ?_;have hyes:∀ x,x∈st->x∈l->ab9.some st l=true:=fun x h1 h2=>List.any_eq_true.2 ⟨x,h2,decide_eq_true h1⟩
 simp only[ic82,go_sem];refine ab5 noT (fun i fr s=>fr=[(0,.aa5 (st.map Md.af2)),(1,.aa5 (l.map Md.af2)),(5,.int .i64 (i:Int))]/\∀ x∈st.take i,x ∉ l) st.length ⟨rfl,fun x h=>by simp at h⟩ ?_;rintro i fr s hi ⟨rfl,hno⟩;by_cases hlt:i<st.length
 ·have d1:(i:Int)<st.length:=by omega
  have d2:(0:Int)<=(i:Int):=by omega
  have w1:=ad9 (i:=i) (by omega);have g1:(st.map Md.af2).getD i []=[.int .i64 st[i]]:=by simp[List.getD_eq_getElem?_getD,hlt,Md.af2]
  simp only[go_sem,d1];refine ab5 noT (fun j fr s=>fr=[(0,.aa5 (st.map Md.af2)),(1,.aa5 (l.map Md.af2)),(5,.int .i64 (i:Int)),(6,.int .i64 (j:Int))]/\st[i] ∉ l.take j) l.length ⟨rfl,by simp⟩ ?_;rintro j fr s hj ⟨rfl,hnj⟩;by_cases hlj:j<l.length
  ·have d3:(j:Int)<l.length:=by omega
   have d4:(0:Int)<=(j:Int):=by omega
   have w2:=ad9 (i:=j) (by omega);have g2:(l.map Md.af2).getD j []=[.int .i64 l[j]]:=by simp[List.getD_eq_getElem?_getD,hlj,Md.af2]
   by_cases he:st[i]=l[j]
   ·simp only[go_sem,d1,d2,d3,d4,g1,g2,he];exact ab2 (hyes _ (List.getElem_mem hlt) (by rw[he]; exact List.getElem_mem hlj)).symm
   ·simp only[go_sem,d1,d2,d3,d4,g1,g2,he,w2];refine ⟨hlj,?_⟩;rw[List.take_add_one,List.getElem?_eq_getElem hlj,List.mem_append,not_or];exact ⟨hnj,fun h=>he (by simpa using h)⟩
  ·have d3:¬ (j:Int)<l.length:=by omega
   rw[List.take_of_length_le (by omega)] at hnj;simp only[go_sem,d3,w1];refine ⟨hlt,fun x hx=>?_⟩;rw[List.take_add_one,List.getElem?_eq_getElem hlt,List.mem_append] at hx;rcases hx with hx|hx
   ·exact hno x hx
   ·have:x=st[i]:=by simpa using hx
    rw[this]; exact hnj
 ·have d1:¬ (i:Int)<st.length:=by omega
  rw[List.take_of_length_le (by omega)] at hno;simp only[go_sem,d1];refine ab2 ?_
  symm
  unfold ab9.some;rw[List.any_eq_false];intro x hx h;exact hno x (of_decide_eq_true h) hx
end Go.Id.Tryz
namespace Go.Id.Md
open Go Go.Id
def ab9.gl6 (a:ab9)(i n:Nat):Bool:=decide ((n:Int)=i)||a.hy7 i (a.pk n)||(!decide ((n:Int)=i)&&aa8 (a.pk n) (a.pk i))
end Go.Id.Md
namespace Go.Id.Tryz
open Go Go.Id Go.Proofs Go.Id.Md
set_option maxHeartbeats 1000000
theorem cq8 (a:ab9)(hA:AOK a)(i n:Nat)(hi:i<a.l.length)(hn:n<a.l.length):PC Tryz.prog EE 70 [a.dv,.int .i64 i,.int .i64 n] (.bool (a.gl6 i n)):=by
 refine af5 hE fok70 (nZ rfl) (bc8 (ay3 a) (.int _ _) (.int _ _)) ?_;have d1:(0:Int)<=(i:Int):=by omega
 have d2:(0:Int)<=(n:Int):=by omega
 have d3:(i:Int)<a.l.length:=by omega
 have d4:(n:Int)<a.l.length:=by omega
 have gi:=bt5 a hi;have gn:=bt5 a hn;have si:=hA.small _ (fl7 a hi);have sn:=hA.small _ (fl7 a hn);have he3:=be6 a hA 3 i;have he4:=be6 a hA 4 i;have hn4:=da1 a hA 4 i hi;generalize hR:a.gl6 i n=R;unfold ab9.gl6 ab9.hy7 ab9.df7 at hR;generalize a.pk i=p at *;generalize a.pk n=q at *;have hO:=bo2 q p sn si;have hC:=bp7 q.evr p.evr sn.1 si.1;have hF:=eb5 q.ao9 p.ao9;have p1:∀ p:aa3,(p.cs.drop 1).take 3=p.evr.cs:=fun _=>rfl
 have p4:∀ p:aa3,(p.cs.drop 4).head? = some (.int .u8 p.ao9):=fun _=>rfl
 have p5:∀ p:aa3,(p.cs.drop 5).head? = some (.str p.vendor):=fun _=>rfl
 by_cases hni:(n:Int)=i
 ·simp only[ic70,go_sem,ad7,az4,ad3,d1,d2,d3,d4,gi,gn,ag3,ae8,ae4,hni];exact ab2 (by rw[<- hR]; simp[hni])
 simp only[ic70,go_sem,ad7,az4,ad3,d1,d2,d3,d4,gi,gn,ag3,ae8,ae4,hni]
 first|refine aa4 fok52 (hO) ?_|refine aa2 (hO) ?_
 cases hob:aa8 q p with
 | true=>
  simp only[go_sem]
  exact ab2 (by rw[<- hR]; simp[hni,hob])
 | false=>
 by_cases hnm:q.name=p.name
 case neg=>
  simp only[go_sem,fb4,hnm];exact ab2 (by rw[<- hR]; simp[hni,hnm,hob])
 simp only[go_sem,fb4,hnm,<- ad7]
 first|refine aa4 fok62 (he3) ?_|refine aa2 (he3) ?_
 have hres:R=((a.aw1 3 i||a.at6 4 i||decide (0<=au9 q.evr p.evr))&&(a.aw1 4 i||ar7 q.ao9 p.ao9)&&(a.r.vendor||decide (q.vendor=p.vendor))):=by rw[<- hR]; simp[hni,hnm,hob]
 clear hR;cases h3:a.aw1 3 i
 case' true=>simp only[go_sem]
 case' false=>
  simp only[go_sem]
  first|refine aa4 fok65 (hn4) ?_|refine aa2 (hn4) ?_
  cases h4:a.at6 4 i<;>simp only[go_sem]
 all_goals
  simp only[go_sem,p1,ci4]
  first|refine aa4 fok59 (hC) ?_|refine aa2 (hC) ?_
  generalize au9 q.evr p.evr=c at *;by_cases hc0:c<0
  case' pos=>
   have hc1:¬ 0<=c:=by omega
   simp only[go_sem,hc0,p4]
  case' neg=>
   have hc1:0<=c:=by omega
   simp only[go_sem,hc0,p4]
 all_goals try (exact ab2 (by rw[hres]; simp[*]))
 all_goals
  first|refine aa4 fok118 (hF) ?_|refine aa2 (hF) ?_
  cases hfo:ar7 q.ao9 p.ao9
  case' true=>simp only[go_sem,p5]
  case' false=>
   simp only[go_sem,<- ad7]
   first|refine aa4 fok62 (he4) ?_|refine aa2 (he4) ?_
   cases h5:a.aw1 4 i<;>simp only[go_sem,p5]
 all_goals try (exact ab2 (by rw[hres]; simp[*]))
 all_goals
  by_cases hv:q.vendor=p.vendor
  ·simp only[go_sem,hv];exact ab2 (by rw[hres]; simp[*])
  ·simp only[go_sem,hv,ad7,ih6,ad3];exact ab2 (by rw[hres]; simp[*])
theorem dg2 (a:ab9)(i:Int):a.aq4 i=ar6 (fun n=>a.inst i&&a.gl6 i.toNat n) a.l.length:=by
 unfold ab9.aq4
 cases h:a.inst i with
 | true=>
  have h0:0<=i:=by
   unfold ab9.inst ab9.is at h;simp only[Bool.and_eq_true,decide_eq_true_eq] at h;exact h.1.1
  obtain ⟨m,rfl⟩:∃ m:Nat,i=m:=⟨i.toNat,by omega⟩;simp only[if_true,Bool.true_and,Int.toNat_natCast]
  rfl
 | false=>
  have:ar6 (fun n=>false&&a.gl6 i.toNat n) a.l.length=[]:=by
   unfold ar6;simp
  rw[this]; simp
theorem dg3 {t:Store}{gv:IV}{l:List Int}(hg:Grow t gv 1 (l.map Md.af2)):dj1 t 0 gv (.aa5 (l.map Md.af2)):=
 hg.frz (fun x hx=>(bi1 _ x hx).1) (fun _ _=>Nat.not_lt_zero _) fun e he c hc=>by
  obtain ⟨n,_,rfl⟩:=List.mem_map.1 he;exact am3 (.int _ _) c hc
theorem ay5 (a:ab9)(hA:AOK a)(i:Int):PC Tryz.prog EE 26 [a.dv,.int .i64 i] (.aa5 ((a.aq4 i).map Md.af2)):=by
 refine af5 hE fok26 (nZ rfl) (aj2 (ay3 a) (.int _ _)) ?_;have hl:=hA.len;have hI:=hA.inst;rw[dg2];obtain ⟨f,hf⟩:∃ f:Nat->Bool,f=fun n=>a.inst i&&a.gl6 i.toNat n:=⟨_,rfl⟩
 rw[<- hf];simp only[ic26,go_sem];refine ab5 noT (fun n fr t=>∃ gv,fr=[(0,a.dv),(1,.int .i64 i),(5,gv),(6,.int .i64 (n:Int))]/\Grow t gv 1 ((ar6 f n).map Md.af2)) a.l.length ⟨.aa1,rfl,.inl ⟨rfl,rfl⟩⟩ ?_;rintro n fr t hn ⟨gv,rfl,hg⟩;by_cases hlt:n<a.l.length
 ·have d1:(n:Int)<a.l.length:=by omega
  have w1:=ad9 (i:=n) (by omega);have hsn:=cd1 f n;have hnl:=ax9 f n
  have hno:f n=false->∀ u:Store,u.obj=t.obj->t.next<=u.next->Grow u gv 1 ((ar6 f (n+1)).map Md.af2):=fun h u h1 h2=>by
   rw[hsn,h];simp only[Bool.false_eq_true,if_false,List.append_nil];exact hg.mono h2 fun _ _ _=>by rw[h1]
  by_cases h0:0<=i
  ·by_cases h1:i<a.p.inst
   ·obtain ⟨m,rfl⟩:∃ m:Nat,i=m:=⟨i.toNat,by omega⟩;have hin:a.inst m=true:=by unfold ab9.inst ab9.is; simp[h1]; omega
    have hfn:f n=a.gl6 m n:=by rw[hf,hin]; rfl
    have hS:=cq8 a hA m n (by omega) hlt;simp only[go_sem,ad7,az4,df9,d1,h0,h1,ad3];rw[<- ad7]
    first|refine aa4 fok70 (hS) ?_|refine aa2 (hS) ?_
    cases hb:a.gl6 m n with
    | true=>
     rw[hfn,hb,if_pos rfl] at hsn;obtain ⟨v',σ',h1,h2,h3⟩:=ay7 (n:=1) (nid:=t.next) (e:=[.int .i64 (n:Int)]) hg (bi1 _) ⟨rfl,rfl⟩ (by rw[List.length_map]; omega) (Nat.le_refl _) (by omega);simp only[go_sem,h1,w1];refine ⟨hlt,v',rfl,?_⟩;rw[hsn,List.map_append]
     exact h3
    | false=>
     simp only[go_sem,w1];exact ⟨hlt,gv,rfl,hno (by rw[hfn,hb]) _ rfl (Nat.le_refl _)⟩
   ·have hfn:f n=false:=by rw[hf]; simp[ab9.inst,h1]
    simp only[go_sem,ad7,az4,df9,d1,h0,h1,ad3,w1];exact ⟨hlt,gv,rfl,hno hfn _ rfl (Nat.le_refl _)⟩
  ·have hfn:f n=false:=by rw[hf]; simp[ab9.inst,ab9.is,h0]
   simp only[go_sem,ad7,az4,df9,d1,h0,ad3,w1];exact ⟨hlt,gv,rfl,hno hfn _ rfl (Nat.le_refl _)⟩
 ·have hn':n=a.l.length:=by omega
  subst hn';have d1:¬ (a.l.length:Int)<a.l.length:=by omega
  simp only[go_sem,ad7,az4,d1,ad3];exact dg3 hg
theorem bm6 (a:ab9)(hA:AOK a)(i:Int):(a.aq4 i).length<=256:=by
 rw[dg2];exact Nat.le_trans (ax9 _ _) hA.len
theorem bn9 (a:ab9)(hA:AOK a)(i:Int):PC Tryz.prog EE 28 [a.dv,.int .i64 i] (.aa5 ((a.bn5 i).map Md.af2)):=by
 refine af5 hE fok28 (nZ rfl) (aj2 (ay3 a) (.int _ _)) ?_;have hS:=ay5 a hA i;have hsl:=bm6 a hA i
 have hsz:∀ n∈a.aq4 i,0<=n/\n<a.l.length:=fun n hn=>by
  rw[dg2] at hn;obtain ⟨m,rfl,h1,_⟩:=bh4.1 hn;omega
 have hnw:a.bn5 i=(a.aq4 i).filter fun n=>!(a.inst n || !a.fits n):=rfl
 rw[hnw];generalize a.aq4 i=L at *;obtain ⟨q,hq⟩:∃ q:Int->Bool,q=fun n=>!(a.inst n || !a.fits n):=⟨_,rfl⟩
 rw[<- hq];simp only[ic28,go_sem]
 first|refine aa4 fok26 (hS) ?_|refine aa2 (hS) ?_
 simp only[go_sem];refine ab5 noT (fun n fr t=>∃ gv,fr=[(0,a.dv),(5,gv),(6,.aa5 (L.map Md.af2)),(7,.int .i64 (n:Int))]/\Grow t gv 1 (((L.take n).filter q).map Md.af2)) L.length ⟨.aa1,rfl,.inl ⟨rfl,rfl⟩⟩ ?_;rintro n fr t hn ⟨gv,rfl,hg⟩;by_cases hlt:n<L.length
 ·have d1:(n:Int)<L.length:=by omega
  have d2:(0:Int)<=(n:Int):=by omega
  have w1:=ad9 (i:=n) (by omega);have g:=(show (L.map Md.af2).getD n []=[.int .i64 L[n]] by simp[List.getD_eq_getElem?_getD,hlt,Md.af2]);have hz:=hsz _ (List.getElem_mem hlt)
  have htk:(L.take (n+1)).filter q=(L.take n).filter q++if q L[n] then [L[n]] else []:=by
   rw[List.take_add_one,List.getElem?_eq_getElem hlt,List.filter_append];congr 1;simp only[Option.toList,List.filter_cons,List.filter_nil]
  have hfl:((L.take n).filter q).length<=n:=by
   refine Nat.le_trans (List.length_filter_le _ _) ?_;rw[List.length_take]; omega
  have hF:=dp5 a L[n];generalize L[n]=z at *
  have hno:q z=false->∀ u:Store,u.obj=t.obj->t.next<=u.next->Grow u gv 1 (((L.take (n+1)).filter q).map Md.af2):=fun h u h1 h2=>by
   rw[htk,h];simp only[Bool.false_eq_true,if_false,List.append_nil];exact hg.mono h2 fun _ _ _=>by rw[h1]
  have hiz:a.is z=true:=by unfold ab9.is; simp[hz.1,hz.2]
  by_cases h1:a.p.inst<=z
  ·have hin:a.inst z=false:=by unfold ab9.inst; simp[show ¬ z<a.p.inst by omega]
   have hqz:q z=a.fits z:=by rw[hq]; simp[hin]
   simp only[go_sem,ad7,df9,d1,d2,g,h1,ad3];rw[<- ad7]
   first|refine aa4 fok18 (hF) ?_|refine aa2 (hF) ?_
   cases hb:a.fits z with
   | true=>
    rw[hqz,hb,if_pos rfl] at htk;obtain ⟨v',σ',h1,h2,h3⟩:=ay7 (n:=18) (nid:=t.next+17) (e:=[.int .i64 z]) hg (bi1 _) ⟨rfl,rfl⟩ (by rw[List.length_map]; omega) (by omega) (by omega);have h1':ba7 ({ next:=t.next+17+1,obj:=t.obj }:Store) (t.next+17) 1 gv (.aa5 [[.int .i64 z]])=some (v',σ'):=h1;simp only[go_sem,d1,d2,g,h1',w1];refine ⟨hlt,v',rfl,?_⟩;rw[htk,List.map_append]
    exact h3
   | false=>
    simp only[go_sem,w1];exact ⟨hlt,gv,rfl,hno (by rw[hqz,hb]) _ rfl (Nat.le_add_right _ _)⟩
  ·have hin:a.inst z=true:=by unfold ab9.inst; rw[hiz]; simp; omega
   have hqz:q z=false:=by rw[hq]; simp[hin]
   simp only[go_sem,ad7,df9,d1,d2,g,h1,ad3,w1];exact ⟨hlt,gv,rfl,hno hqz _ rfl (Nat.le_add_right _ _)⟩
 ·have hn':n=L.length:=by omega
  subst hn';have d1:¬ (L.length:Int)<L.length:=by omega
  rw[List.take_length] at hg;simp only[go_sem,d1];exact dg3 hg
theorem ey1 (q:aa3->Bool)(l:List aa3):∀ m:List aa3,(numsOf q (l++m)).filter (fun n:Int=>decide (n<(l.length:Int)))=numsOf q l:=by
 have hall:∀ l:List aa3,(numsOf q l).filter (fun n:Int=>decide (n<(l.length:Int)))=numsOf q l:=fun l=>List.filter_eq_self.2 fun n hn=>by
  obtain ⟨m,rfl,h,_⟩:=ar1.1 hn;exact decide_eq_true (by omega)
 have key:∀ k:Nat,∀ m:List aa3,m.length=k->(numsOf q (l++m)).filter (fun n:Int=>decide (n<(l.length:Int)))=numsOf q l:=by
  intro k
  induction k with
  | zero=>
   intro m hm;have:m=[]:=List.length_eq_zero_iff.1 hm;subst this
   rw[List.append_nil]; exact hall l
  | succ k ih=>
   intro m hm;have hne:m≠[]:=fun e=>by rw[e] at hm; cases hm
   obtain ⟨m',p,hmp⟩:=(List.eq_nil_or_concat m).resolve_left hne;rw[List.concat_eq_append] at hmp;subst hmp;rw[<- List.append_assoc,at1,List.filter_append,ih m' (by rw[List.length_append,List.length_singleton] at hm; omega)]
   have:((if q p=true then [((l++m').length:Int)] else []):List Int).filter (fun n:Int=>decide (n<(l.length:Int)))=[]:=by
    split
    ·rw[List.length_append];simp;omega
    ·rfl
   rw[this,List.append_nil]
 exact fun m=>key m.length m rfl
theorem dy4 (a:ab9)(hA:AOK a)(hp:0<=a.p.inst)(d:Dep):(al8 a.l d).filter (fun n=>a.inst n)=al8 (a.l.take a.p.inst.toNat) d:=by
 have hI:=hA.inst;have h:=ey1 (fun p=>named p d) (a.l.take a.p.inst.toNat) (a.l.drop a.p.inst.toNat);rw[List.take_append_drop,List.length_take,Nat.min_eq_left (by omega)] at h;show (numsOf (fun p=>named p d) a.l).filter (fun n=>a.inst n)=numsOf (fun p=>named p d) (a.l.take a.p.inst.toNat);rw[<- h];refine List.filter_congr fun n hn=>?_
 obtain ⟨m,rfl,h1,_⟩:=ar1.1 hn;unfold ab9.inst ab9.is;rw[Bool.eq_iff_iff];simp only[Bool.and_eq_true,decide_eq_true_eq];omega
theorem da2 (a:ab9)(hA:AOK a)(hp:0<=a.p.inst)(j:Int):PC Tryz.prog EE 30 [a.dv,.int .i64 j] (.aa5 ((a.meant j).map Md.af2)):=by
 refine af5 hE fok30 (nZ rfl) (aj2 (ay3 a) (.int _ _)) ?_;have hl:=hA.len;have hI:=hA.inst;by_cases h0:j<0
 ·have:a.meant j=[]:=by unfold ab9.meant ab9.job; simp[show ¬ 0<=j by omega]
  rw[this];simp only[ic30,go_sem,ad7,h0,ad3];exact .dd3
 by_cases h1:(a.r.af3.length:Int)<=j
 ·have:a.meant j=[]:=by unfold ab9.meant ab9.job; simp[show ¬ j<a.r.af3.length by omega]
  rw[this];simp only[ic30,go_sem,ad7,cg8,ah5,h0,h1,ad3];exact .dd3
 obtain ⟨m,rfl⟩:∃ m:Nat,j=m:=⟨j.toNat,by omega⟩;have hm:m<a.r.af3.length:=by omega
 have d1:(0:Int)<=(m:Int):=by omega
 have d2:(m:Int)<a.r.af3.length:=by omega
 have gj:=dg1 a hm;have hd:=hA.gm9 _ (gu3 a hm)
 have hme:a.meant m=if (a.jb m).kind=1 then al7 a.l (a.jb m).dep else if (a.jb m).kind=2 then al8 a.l (a.jb m).dep else al8 (a.l.take a.p.inst.toNat) (a.jb m).dep:=by
  have hj:a.job m=true:=by unfold ab9.job; simp[hm]
  unfold ab9.meant;rw[hj,if_pos rfl,dy4 a hA hp]
 rw[hme];generalize a.jb m=jv at *;have hP:=di2 a.l jv.dep (by omega) hA.small hd;have hN:=db6 a.l jv.dep (by omega) hA.small hd;have hT:=db6 (a.l.take a.p.inst.toNat) jv.dep (by rw[List.length_take]; omega) (fun p hp=>hA.small p (List.mem_of_mem_take hp)) hd;have jlf:jv.cs.all IV.leaf=true:=rfl;have jtk:jv.cs.take 6=jv.cs:=rfl;simp only[ic30,go_sem,ad7,cg8,ah5,av1,h0,h1,d1,d2,gj,gl5,gc2,jlf,jtk,ad3];by_cases k1:jv.kind=1
 ·rw[if_pos k1];simp only[go_sem,k1,az4,gl5,hy8,gc2,gc3,ad3]
  first|refine aa4 fok76 (hP) ?_|refine aa2 (hP) ?_
  simp only[go_sem];exact .keep _ (ag1 _)
 rw[if_neg k1];by_cases k2:jv.kind=2
 ·rw[if_pos k2];simp only[go_sem,Int.reduceEq,k2,az4,gl5,hy8,gc2,gc3,ad3]
  first|refine aa4 fok77 (hN) ?_|refine aa2 (hN) ?_
  simp only[go_sem];exact .keep _ (ag1 _)
 rw[if_neg k2];obtain ⟨h,hh⟩:∃ h:Nat,a.p.inst=h:=⟨a.p.inst.toNat,by omega⟩;have hle:h<=a.l.length:=by omega
 have hsl:cr5 15 none (some (.int .i64 a.p.inst)) (.aa5 (a.l.map aa3.cs))=some (ar8 (a.l.take a.p.inst.toNat)):=by
  rw[hh,Int.toNat_natCast];have e:(0:Int)<=h:=by omega
  have e3:(a.l.map aa3.cs).all (fun e=>e.length==15)=true:=by
   rw[List.all_eq_true];intro e he;obtain ⟨p,_,rfl⟩:=List.mem_map.1 he;rfl
  have e4:(0:Nat)<=h/\h<=(a.l.map aa3.cs).length/\(a.l.map aa3.cs).all (fun e=>e.length==15)=true:=⟨Nat.zero_le _,by rw[List.length_map]; exact hle,e3⟩;simp only[cr5,ch1,ec5,e,if_true,Int.toNat_natCast];rw[if_pos e4,List.drop_zero,<- List.map_take]
 simp only[go_sem,k1,k2,az4,df9,gl5,hy8,gc2,gc3,ad3,hsl]
 first|refine aa4 fok77 (hT) ?_|refine aa2 (hT) ?_
 simp only[go_sem];exact .keep _ (ag1 _)
set_option maxHeartbeats 1000000
theorem cm6 (a:ab9)(hA:AOK a)(j:Int):(a.meant j).length<=256:=by
 have hl:=hA.len;unfold ab9.meant;split
 ·split
  ·exact Nat.le_trans (ag7 _ _) hl
  ·split
   ·exact Nat.le_trans (ag7 _ _) hl
   ·exact Nat.le_trans (List.length_filter_le _ _) (Nat.le_trans (ag7 _ _) hl)
 ·exact Nat.zero_le _
theorem dp6 (a:ab9)(hA:AOK a)(hp:0<=a.p.inst)(j:Int)(st:List Int)(hs:st.length<2^40):PC Tryz.prog EE 32 [a.dv,.int .i64 j,.aa5 (st.map Md.af2)] (.bool (a.av6 j st)):=by
 refine af5 hE fok32 (nZ rfl) (bc8 (ay3 a) (.int _ _) (ag1 st)) ?_;by_cases h0:j<0
 ·have:a.av6 j st=true:=by unfold ab9.av6 ab9.job; simp[show ¬ 0<=j by omega]
  rw[this];simp only[ic32,go_sem,ad7,h0,ad3];exact ab2 rfl
 by_cases h1:(a.r.af3.length:Int)<=j
 ·have:a.av6 j st=true:=by unfold ab9.av6 ab9.job; simp[show ¬ j<a.r.af3.length by omega]
  rw[this];simp only[ic32,go_sem,ad7,cg8,ah5,h0,h1,ad3];exact ab2 rfl
 obtain ⟨m,rfl⟩:∃ m:Nat,j=m:=⟨j.toNat,by omega⟩;have hm:m<a.r.af3.length:=by omega
 have d1:(0:Int)<=(m:Int):=by omega
 have d2:(m:Int)<a.r.af3.length:=by omega
 have gj:=dg1 a hm;have hkd:=hA.ht5 _ (gu3 a hm);have hj:a.job m=true:=by unfold ab9.job; simp[hm]
 have hMe:=da2 a hA hp m;have hml:=cm6 a hA m
 have hfu:a.av6 m st=if (a.jb m).kind=1 then ab9.some st (a.meant m) else if (a.jb m).kind=2 then !ab9.some st (a.meant m) else if (a.jb m).kind=3 then !(a.meant m).any (fun i=>!ab9.some st (a.aq4 i)) else !(a.meant m).any fun i=>decide (0<(a.bn5 i).length)&&!ab9.some st (a.bn5 i):=by
  unfold ab9.av6;rw[hj]; rfl
 rw[hfu];generalize a.meant m=L at *;generalize a.jb m=jv at *;have hH:=be7 st L (by omega) (by omega);simp only[ic32,go_sem,ad7,cg8,ah5,h0,h1,ad3];rw[<- ad7]
 first|refine aa4 fok30 (hMe) ?_|refine aa2 (hMe) ?_
 simp only[go_sem,ad7,cg8,ah5,av1,d1,d2,gj,gl5,gc2,ad3];rw[<- ad7];by_cases k1:jv.kind=1
 ·rw[if_pos k1];simp only[go_sem,Int.reduceEq,k1]
  first|refine aa4 fok82 (hH) ?_|refine aa2 (hH) ?_
  simp only[go_sem];exact ab2 rfl
 rw[if_neg k1];by_cases k2:jv.kind=2
 ·rw[if_pos k2];simp only[go_sem,Int.reduceEq,k2]
  first|refine aa4 fok82 (hH) ?_|refine aa2 (hH) ?_
  simp only[go_sem];exact ab2 rfl
 rw[if_neg k2];by_cases k3:jv.kind=3
 ·rw[if_pos k3];simp only[go_sem,Int.reduceEq,k3];refine ab5 noT (fun i fr s=>fr=[(0,a.dv),(2,.aa5 (st.map Md.af2)),(7,.aa5 (L.map Md.af2)),(8,.int .i64 (i:Int))]/\L.any (fun i=>!ab9.some st (a.aq4 i))=(L.drop i).any fun i=>!ab9.some st (a.aq4 i)) L.length ⟨rfl,rfl⟩ ?_;rintro i fr s hi ⟨rfl,ha⟩;by_cases hlt:i<L.length
  ·obtain ⟨z,hz,hzi,hdr,hget,htk⟩:=ad5 L i hlt;have e1:(i:Int)<L.length:=by omega
   have e2:(0:Int)<=(i:Int):=by omega
   have w1:=ad9 (i:=i) (by omega);have g:=hget Md.af2;have hS:=ay5 a hA z;have hsl:=bm6 a hA z;have hH2:=be7 st (a.aq4 z) (by omega) (by omega);rw[bv1 hdr] at ha;simp only[go_sem,e1,e2,g,Md.af2]
   first|refine aa4 fok26 (hS) ?_|refine aa2 (hS) ?_
   simp only[go_sem]
   first|refine aa4 fok82 (hH2) ?_|refine aa2 (hH2) ?_
   cases hb:ab9.some st (a.aq4 z) with
   | true=>
    rw[hb] at ha;simp only[go_sem,w1]
    exact ⟨hlt,by rw[ha]; rfl⟩
   | false=>
    rw[hb] at ha;simp only[go_sem];exact ab2 (by rw[ha]; rfl)
  ·have hi':i=L.length:=by omega
   subst hi';have e1:¬ (L.length:Int)<L.length:=by omega
   rw[List.drop_length,List.any_nil] at ha;rw[ha];simp only[go_sem,e1];exact ab2 rfl
 ·rw [if_neg k3];simp only[go_sem,k1,k2,k3];refine ab5 noT (fun i fr s=>(∃ tl:Frm,fr=(0,a.dv)::(2,.aa5 (st.map Md.af2))::(7,.aa5 (L.map Md.af2))::(9,.int .i64 (i:Int))::tl)/\L.any (fun i=>decide (0<(a.bn5 i).length)&&!ab9.some st (a.bn5 i))=(L.drop i).any fun i=>decide (0<(a.bn5 i).length)&&!ab9.some st (a.bn5 i)) L.length ⟨⟨_,rfl⟩,rfl⟩ ?_;rintro i fr s hi ⟨⟨tl,rfl⟩,ha⟩;by_cases hlt:i<L.length
  ·obtain ⟨z,hz,hzi,hdr,hget,htk⟩:=ad5 L i hlt;have e1:(i:Int)<L.length:=by omega
   have e2:(0:Int)<=(i:Int):=by omega
   have w1:=ad9 (i:=i) (by omega);have g:=hget Md.af2;have hS:=bn9 a hA z;have hsl:=bm6 a hA z;have hnl:(a.bn5 z).length<=256:=Nat.le_trans (List.length_filter_le _ _) hsl;have hH2:=be7 st (a.bn5 z) (by omega) (by omega);rw[bv1 hdr] at ha;simp only[go_sem,e1,e2,g,Md.af2]
   first|refine aa4 fok28 (hS) ?_|refine aa2 (hS) ?_
   generalize a.bn5 z=N at *;by_cases hpos:0<N.length
   ·have e3:(0:Int)<N.length:=by omega
    simp only[go_sem,e3]
    first|refine aa4 fok82 (hH2) ?_|refine aa2 (hH2) ?_
    cases hb:ab9.some st N with
    | true=>
     rw[hb] at ha;simp only[go_sem,w1]
     exact ⟨hlt,⟨_,rfl⟩,by rw[ha]; simp⟩
    | false=>
     rw[hb,decide_eq_true hpos] at ha;simp only[go_sem];exact ab2 (by rw[ha]; rfl)
   ·have e3:¬ (0:Int)<N.length:=by omega
    rw[decide_eq_false hpos] at ha;simp only[go_sem,e3,w1];exact ⟨hlt,⟨_,rfl⟩,by rw[ha]; simp⟩
  ·have hi':i=L.length:=by omega
   subst hi';have e1:¬ (L.length:Int)<L.length:=by omega
   rw[List.drop_length,List.any_nil] at ha;rw[ha];simp only[go_sem,e1];exact ab2 rfl
open Go Go.Id Go.Proofs Go.Shelf Go.Id.Md
end Go.Id.Tryz
