/- Indexes asked: providers,those that are named. Conditions: sizes that fit. -/
import Derived.Test.YtiplpeflonpcmaaGreatDoorTZQF
import Derived.Test.YtiplpeflonpcmaaGreatDoorGZR
import Derived.Test.YtiplpeflonpcmaaGreatDoorTZPE
import Derived.Test.YtiplpeflonpcmaaGreatDoorMsb
import Derived.Test.YtiplpeflonpcmaaGreatDoorFwRo
import Derived.Test.YtiplpeflonpcmaaGreatDoorMv
open List renaming getD_eq_getElem?_getD→za,mem_cons→zb,length_map→zd,not_mem_nil→ze,getElem_mem→zf,length_take→zh,getElem?_eq_getElem→zk,take_append_of_le_length→zl,length_append→zn,take_length→zo,length_singleton→zq,pairwise_iff_getElem→zt,map_append→zx,mem_cons_self→zy,filter_append→zz,take_add_one→z1,drop_length→z2,take_of_length_le→z6,head?_cons→z7,append_nil→z8,length_filter_le→qa,mem_iff_getElem→qd,all_cons→qe,mem_map→qf,getElem_take→qg,all_nil→qh,mem_append→qj,mem_append_right→qm,length_mergeSort→qn,pairwise_append→qo,mem_cons_of_mem→qp,range→qr,pairwise_cons→qs,append_assoc→qu
open Int renaming toNat_natCast→zc,natCast_one→qb,natCast_add→qc
open Option renaming some→zg,toList→qk
open Nat renaming le_refl→zi,lt_succ_self→zm,le_add_right→zp,zero_add→zr,not_lt_zero→zu,mul_one→zw,le_trans→qi,add_zero→ql,lt_of_lt_of_le→qt
open Bool renaming and_eq_true→zj,false_eq_true→zv
set_option linter.all false
set_option maxRecDepth 100000
set_option maxHeartbeats 1000000
private theorem om{P:Prop}(h:P:=by omega):P:=h
namespace Go.Id.Tryz
open Go Go.Id Go.Proofs Go.Id.Md
theorem dw5 (p:aa2)(n:Int)(d:Dep)(hp:Pkg.small p)(hd:Dep.small d):PC Tryz.prog EE 185 [.agg p.cs,.int .i64 n,.ab9 d.cs] (.bool (provides p d)):=by
 refine ae6 hE fok185 (nZ rfl) (fun a ha=>by
  simp only[zb,ze,or_false] at ha;rcases ha with rfl|rfl|rfl
  ·exact ao6 p
  ·exact .int _ _
  ·exact bc3 d) ?_
 simp only[ic185,go_sem,bc4,ax4,at1,ap8,am9,al9];refine aa3 fok186 (dh7 p d hp hd) ?_;simp only[go_sem];exact ab4 _
theorem dh9 (p:aa2)(n:Int)(d:Dep)(hp:Pkg.small p)(hd:Dep.small d):PC Tryz.prog EE 127 [.agg p.cs,.int .i64 n,.ab9 d.cs] (.bool (named p d)):=by
 refine ae6 hE fok127 (nZ rfl) (fun a ha=>by
  simp only[zb,ze,or_false] at ha;rcases ha with rfl|rfl|rfl
  ·exact ao6 p
  ·exact .int _ _
  ·exact bc3 d) ?_
 simp only[ic127,go_sem,bc4,ax4,at1,ap8,am9,al9];refine aa3 fok128 (ef9 p d hp hd) ?_;simp only[go_sem];exact ab4 _
theorem eq7 (nm:Nms)(σ:Store)(k:Str):∃ v,cc3 σ 2 .aa1 false (.ak9 (nmV nm)) (.str k)=zg v/\(v=.aa4 ((ad3 nm k).map Md.ad9)\/v=.aa1/\ad3 nm k=[]):=by
 have h:∀ nm:Nms,∃ r,aw2 2 (.str k) (nmV nm)=zg r/\((∃ v,r=zg v/\v=.aa4 ((ad3 nm k).map Md.ad9))\/r=none/\ad3 nm k=[]):=by
  intro nm
  induction nm with
  | nil=>exact ⟨none,rfl,.inr ⟨rfl,rfl⟩⟩
  | cons t ts ih=>
   obtain ⟨r,h1,h2⟩:=ih;simp only[nmV,List.map_cons,aw2,dm6,ad3] at h1 ⊢;by_cases e:k=t.1
   ·simp only[e,decide_true,if_true];exact ⟨_,rfl,.inl ⟨_,rfl,rfl⟩⟩
   ·simp only[e,decide_false,if_false];exact ⟨r,h1,h2⟩
 obtain ⟨r,h1,h2⟩:=h nm;rcases h2 with ⟨v,rfl,rfl⟩|⟨rfl,h3⟩
 ·refine ⟨.aa4 ((ad3 nm k).map Md.ad9),?_,.inl rfl⟩;simp only[cc3,bz3,h1];rfl
 ·refine ⟨.aa1,?_,.inr ⟨rfl,h3⟩⟩;simp only[cc3,bz3,h1];rfl
theorem numsOf_at {q:aa2->Bool}{l:List aa2}{n:Int}(h:n∈numsOf q l):∃ m:Nat,n=m/\m<l.length:=by
 obtain ⟨m,h1,h2,_⟩:=al3.1 h;exact ⟨m,h1,h2⟩
theorem getD_at (l:List aa2)(m:Nat)(h:m<l.length):l.getD m default=l[m]:=by simp[za,h]
theorem bs3 (l:List aa2)(d:Dep)(hl:l.length<2^20)(hs:∀ p∈l,Pkg.small p)(hd:Dep.small d):PC Tryz.prog EE 139 [(ad7 l).v,.agg d.cs] (.aa4 ((ae9 l d).map Md.ad9)):=by
 have hi:=bg9 l;have hb:=as2 (ad7 l);refine ae6 hE fok139 (nZ rfl) (ao8 hb (ax3 d)) ?_;have hlook:=hi.au1 d.name
 have hsift:∀ v,(v=.aa4 ((ad3 (ad7 l).au1 d.name).map Md.ad9)\/v=.aa1/\ad3 (ad7 l).au1 d.name=[])->PC Tryz.prog EE 126 [(ad7 l).v,v,.func (.func 185) [] [.ab9 d.cs]] (.aa4 ((ae9 l d).map Md.ad9)):=by
  intro v hv
  have h:=gy3 (ad7 l) (ad3 (ad7 l).au1 d.name) (by rw[hlook]; have:=ae8 (fun p=>decide (d.name∈cy7 p)) l; omega) 185 [.ab9 d.cs] (fun n=>provides (l.getD n.toNat default) d) (ae5 (bc3 d)) fok185.1 (fun n hn=>by
   rw[hlook] at hn;obtain ⟨m,rfl,hm⟩:=numsOf_at hn;refine ⟨m,rfl,by rw[hi.all]; exact hm,?_⟩;have e:(ad7 l).all[m]'(by rw[hi.all]; exact hm)=l[m]:=by simp only[hi.all]
   rw[e,zc,getD_at l m hm];exact dw5 l[m] m d (hs _ (zf hm)) hd)
  rw[cu8] at h;rcases hv with rfl|⟨rfl,h0⟩
  ·exact h
  ·rw[h0] at h;have hw:∀ {v:IV} {σ:Store},Bnd 0 v->Frz σ (fun _=>true=true) v v:=fun h=>.keep _ (h.weak fun _ _=>rfl)
   refine ev6 (args':=[(ad7 l).v,.aa4 [],.func (.func 185) [] [.ab9 d.cs]]) rfl (fun σ i hi=>?_) h
   match i,hi with
   | 0,_=>exact hw hb
   | 1,_=>exact .ch6
   | 2,_=>exact hw (.func _ _ _ (fun c hc=>by cases hc) (ae5 (bc3 d)))
 have hx:(ad7 l).v=.ab9 [.aa4 ((ad7 l).all.map aa2.cs),.ak9 (nmV (ad7 l).au1),.ak9 (nmV (ad7 l).names),.ak9 (nmV (ad7 l).over)]:=rfl;have d0:d.cs.head? = zg (.str d.name):=rfl;have hres:=ag8 (ae9 l d)
 have hk0:∀ σ:Store,∃ v,cc3 σ 2 .aa1 false (.ak9 (nmV (ad7 l).au1)) (.str d.name)=zg v/\PC Tryz.prog EE 126 [(ad7 l).v,v,.func (.func 185) [] [.ab9 d.cs]] (.aa4 ((ae9 l d).map Md.ad9)):=fun σ=>
  let ⟨v,h1,h2⟩:=eq7 (ad7 l).au1 σ d.name
  ⟨v,h1,hsift v h2⟩
 clear hsift hlook;rw[hx] at hk0 ⊢;generalize (ad7 l).all.map aa2.cs=a0 at *;simp only[ic139,go_sem,ap8,am9,al9,d0];obtain ⟨v,hk,hsv⟩:=hk0 ⟨11,emp.obj⟩;simp only[go_sem,hk];refine aa3 fok126 hsv ?_;simp only[go_sem];exact .keep _ hres
theorem bn3 (l:List aa2)(d:Dep)(hl:l.length<2^20)(hs:∀ p∈l,Pkg.small p)(hd:Dep.small d):PC Tryz.prog EE 86 [(ad7 l).v,.agg d.cs] (.aa4 ((am1 l d).map Md.ad9)):=by
 have hi:=bg9 l;have hb:=as2 (ad7 l);refine ae6 hE fok86 (nZ rfl) (ao8 hb (ax3 d)) ?_;have hlook:=hi.names d.name
 have hsift:∀ v,(v=.aa4 ((ad3 (ad7 l).names d.name).map Md.ad9)\/v=.aa1/\ad3 (ad7 l).names d.name=[])->PC Tryz.prog EE 126 [(ad7 l).v,v,.func (.func 127) [] [.ab9 d.cs]] (.aa4 ((am1 l d).map Md.ad9)):=by
  intro v hv
  have h:=gy3 (ad7 l) (ad3 (ad7 l).names d.name) (by rw[hlook]; have:=ae8 (fun p=>decide (p.name=d.name)) l; omega) 127 [.ab9 d.cs] (fun n=>named (l.getD n.toNat default) d) (ae5 (bc3 d)) fok127.1 (fun n hn=>by
   rw[hlook] at hn;obtain ⟨m,rfl,hm⟩:=numsOf_at hn;refine ⟨m,rfl,by rw[hi.all]; exact hm,?_⟩;have e:(ad7 l).all[m]'(by rw[hi.all]; exact hm)=l[m]:=by simp only[hi.all]
   rw[e,zc,getD_at l m hm];exact dh9 l[m] m d (hs _ (zf hm)) hd)
  rw[fg9] at h;rcases hv with rfl|⟨rfl,h0⟩
  ·exact h
  ·rw[h0] at h;have hw:∀ {v:IV} {σ:Store},Bnd 0 v->Frz σ (fun _=>true=true) v v:=fun h=>.keep _ (h.weak fun _ _=>rfl)
   refine ev6 (args':=[(ad7 l).v,.aa4 [],.func (.func 127) [] [.ab9 d.cs]]) rfl (fun σ i hi=>?_) h
   match i,hi with
   | 0,_=>exact hw hb
   | 1,_=>exact .ch6
   | 2,_=>exact hw (.func _ _ _ (fun c hc=>by cases hc) (ae5 (bc3 d)))
 have hx:(ad7 l).v=.ab9 [.aa4 ((ad7 l).all.map aa2.cs),.ak9 (nmV (ad7 l).au1),.ak9 (nmV (ad7 l).names),.ak9 (nmV (ad7 l).over)]:=rfl;have d0:d.cs.head? = zg (.str d.name):=rfl;have hres:=ag8 (am1 l d)
 have hk0:∀ σ:Store,∃ v,cc3 σ 2 .aa1 false (.ak9 (nmV (ad7 l).names)) (.str d.name)=zg v/\PC Tryz.prog EE 126 [(ad7 l).v,v,.func (.func 127) [] [.ab9 d.cs]] (.aa4 ((am1 l d).map Md.ad9)):=fun σ=>
  let ⟨v,h1,h2⟩:=eq7 (ad7 l).names σ d.name
  ⟨v,h1,hsift v h2⟩
 clear hsift hlook;rw[hx] at hk0 ⊢;generalize (ad7 l).all.map aa2.cs=a0 at *;simp only[ic86,go_sem,ap8,am9,al9,d0];obtain ⟨v,hk,hsv⟩:=hk0 ⟨11,emp.obj⟩;simp only[go_sem,hk];refine aa3 fok126 hsv ?_;simp only[go_sem];exact .keep _ hres
end Go.Id.Tryz
namespace Go.Id.Tryz
open Go Go.Id Go.Proofs Go.Id.Md
end Go.Id.Tryz
namespace Go.Id.Tryz
open Go Go.Id Go.Proofs Go.Id.Md
end Go.Id.Tryz
namespace Go.Id.Tryz
open Go Go.Id Go.Proofs Go.Id.Md
structure je9 (repos:List an7) (inst:List aa2):Prop where
 r1:repos.length<2^20
 i1:inst.length<2^20
 s1:am6 repos<2^40
 rf:∀ r∈repos,an7.Fit r
 pf:∀ p∈inst,p.Fit
 ro:∀ r∈repos,an7.Ok r
 po:∀ p∈inst,p.Ok
theorem gd7 {p:aa2}(h:p.Tiny):Pkg.small p:=by
 have e:∀ v:EVR,v.tiny->EVR.small v:=fun v hv=>⟨by have:=hv.1; omega,by have:=hv.2; omega⟩
 refine ⟨e _ h.evr,fun d hd=>?_,fun d hd=>?_,?_,?_,?_⟩
 ·obtain ⟨a,b,c,_⟩:=h.au1.2 d hd; exact ⟨a,b,e _ c⟩
 ·obtain ⟨a,b,c,_⟩:=h.obs.2 d hd; exact ⟨a,b,e _ c⟩
 ·have:=h.au1.1; omega
 ·have:=h.obs.1; omega
 ·have:=h.files; omega
theorem it1 {repos:List an7}{inst:List aa2}{p:Pool}(hI:je9 repos inst)(h:ce4 repos inst=.inl p):∀ x∈ac3 p,x.Fit/\Pkg.small x/\x.Tiny:=by
 intro x hx;obtain ⟨h1,h2⟩:=fh2 h x hx;refine ⟨?_,gd7 (fh5 h1),fh5 h1⟩;rcases h2 with h2|⟨r,hr,h2⟩
 ·exact hI.pf x h2
 ·exact (hI.rf r hr).2 x h2
end Go.Id.Tryz
namespace Go.Id.Tryz
open Go Go.Id Go.Proofs Go.Id.Md
theorem jf1 (x:Index)(n:Int):PC Tryz.prog EE 180 [x.v,.int .i64 n] (.bool (decide (0<=n)&&decide (n<x.all.length))):=by
 refine ae6 hE fok180 (nZ rfl) (ao8 (as2 x) (.int _ _)) ?_;have hx:x.v=.ab9 [.aa4 (x.all.map aa2.cs),.ak9 (nmV x.au1),.ak9 (nmV x.names),.ak9 (nmV x.over)]:=rfl;have hnil:∀ (d:TypeId) (cs:List IV) (c:IV),cb6 (.pointer d) (.ab9 (c::cs))=zg false:=fun _ _ _=>rfl
 rw[hx];have hlen:(x.all.map aa2.cs).length=x.all.length:=zd ..;generalize x.all.map aa2.cs=es at *;generalize x.all.length=k at *;by_cases h1:0<=n
 ·by_cases h2:n<(k:Nat)
  ·have h2':n<(es.length:Nat):=om
   simp only[ic180,go_sem,hnil,h1,h2,h2',hlen,Bool.and_self];exact ab4 _
  ·have h2':¬ n<(es.length:Nat):=om
   simp only[ic180,go_sem,hnil,h1,h2,h2',hlen,Bool.and_false];exact ab4 _
 ·simp only[ic180,go_sem,hnil,h1,Bool.false_and];exact ab4 _
theorem hb7 (l:List aa2)(m n:Nat)(hm:m<l.length)(hn:n<l.length)(hs:∀ p∈l,Pkg.small p) :
  PC Tryz.prog EE 181 [.agg l[m].cs,.int .i64 m,.ab9 [.int .i64 n],.ab9 [(ad7 l).v]] (.bool (decide (m≠n)&&aa8 l[m] l[n])):=by
 refine ae6 hE fok181 (nZ rfl) (fun a ha=>by
  simp only[zb,ze,or_false] at ha;rcases ha with rfl|rfl|rfl|rfl
  ·exact ao6 _
  ·exact .int _ _
  ·exact .ab9 _ (ae5 (.int _ _))
  ·exact .ab9 _ (ae5 (as2 _))) ?_
 have hx:(ad7 l).v=.ab9 [.aa4 (l.map aa2.cs),.ak9 (nmV (ad7 l).au1),.ak9 (nmV (ad7 l).names),.ak9 (nmV (ad7 l).over)]:=by
  show IV.ab9 [.aa4 ((ad7 l).all.map aa2.cs),_,_,_]=_;rw[(bg9 l).all]
 have ho:=eq6 l[m] l[n] (hs _ (zf hm)) (hs _ (zf hn));have hg:(l.map aa2.cs).getD n []=l[n].cs:=by simp[za,hn]
 have hl:(l.map aa2.cs).length=l.length:=zd ..;rw[hx];generalize l.map aa2.cs=es at *;by_cases e:m=n
 ·have e':(m:Int)=n:=om
  simp only[ic181,go_sem,bc4,ax4,at1,e',e,ne_eq,not_true_eq_false,decide_false,Bool.false_and];exact ab4 _
 ·have e':¬ (m:Int)=n:=om
  have c1:(0:Int)<=n:=om
  have c2:(n:Int)<es.length:=om
  simp only[ic181,go_sem,bc4,ax4,at1,e',e,c1,c2,hg,ne_eq,not_false_eq_true,decide_true,Bool.true_and];refine aa3 fok182 ho ?_;simp only[go_sem];exact ab4 _
def al8 (l:List aa2)(n:Nat):List Int:=(ad3 (ad7 l).over (l.getD n default).name).filter fun k=>decide (k.toNat≠n)&&aa8 (l.getD k.toNat default) (l.getD n default)
theorem di1 {l:List aa2}{n:Nat}{k:Int}:k∈al8 l n↔∃ m:Nat,k=m/\m<l.length/\m≠n/\aa8 (l.getD m default) (l.getD n default)=true:=by
 unfold al8;rw[(bg9 l).over,List.mem_filter];constructor
 ·rintro ⟨h1,h2⟩;obtain ⟨m,rfl,h3,_⟩:=al3.1 h1;simp only[zc,zj,decide_eq_true_eq] at h2;exact ⟨m,rfl,h3,h2.1,h2.2⟩
 ·rintro ⟨m,rfl,h1,h2,h3⟩;refine ⟨al3.2 ⟨m,rfl,h1,?_⟩,?_⟩
  ·obtain ⟨d,h4,h5⟩:=List.any_eq_true.1 h3;refine decide_eq_true ⟨d,h4,?_⟩;simp only[named,meets,zj,decide_eq_true_eq] at h5;exact h5.1.symm
  ·simp only[zc,zj,decide_eq_true_eq];exact ⟨h2,h3⟩
theorem di2 (l:List aa2)(n:Nat):(al8 l n).length<=l.length:=by
 unfold al8;rw[(bg9 l).over];exact qi (qa _ _) (ae8 _ _)
end Go.Id.Tryz
namespace Go.Id.Tryz
open Go Go.Id Go.Proofs Go.Id.Md
abbrev iv (n:Int):IV:=.int .i64 n
theorem hb8 {id n k:Nat}(h:k<=n):eh7 1 (zg (.int .i64 (k:Int))) none (.slice id 0 n 1)=zg (.slice id k (n-k) 1):=by
 have e:(0:Int)<=k:=om
 simp[eh7,da7,fn9,e,h]
theorem it2 {id n k:Nat}(h:k<=n):eh7 1 none (zg (.int .i64 (k:Int))) (.slice id 0 n 1)=zg (.slice id 0 k 1):=by
 have e:(0:Int)<=k:=om
 simp[eh7,da7,fn9,e,h]
theorem cv5 {zs:List Int}{p:Nat}(h:p+1<zs.length)(x:Int):x∈zs.take (p+1+1)↔x∈zs.take (p+1)\/x=zs[p+1]:=by
 rw[z1 (i:=p+1),zk h,qj];simp[qk]
theorem cv6 {zs:List Int}{p:Nat}(h:p+1<zs.length)(e:zs[p+1]=zs[p])(x:Int):x∈zs.take (p+1)↔x∈zs.take (p+1+1):=by
 rw[cv5 h];refine ⟨.inl,fun q=>q.elim (fun q=>q) fun q=>?_⟩;rw[q,e];exact qd.2 ⟨p,by rw[zh]; omega,by rw[qg]⟩
theorem eq8 {cs vs:List IV}{k:Nat}(h:k<=cs.length):(bb3 cs k vs).take k=cs.take k:=by
 unfold bb3;rw[qu,zl (by rw[zh]; omega),List.take_take,Nat.min_self]
theorem dw6 {cs:List IV}{v:IV}{k:Nat}(h:k<=cs.length):(bb3 cs k [v]).take (k+1)=cs.take k++[v]:=by
 unfold bb3;have e:(cs.take k++[v]).length=k+1:=by rw[zn,zh,zq]; omega
 rw[zl om,z6 om]
theorem dw7 {cs:List IV}{v:IV}{k q:Nat}(h:k<q)(hk:k<=cs.length):(bb3 cs k [v]).drop q=cs.drop q:=by
 unfold bb3;have e:(cs.take k++[v]).length=k+1:=by rw[zn,zh,zq]; omega
 rw[List.drop_append,e,List.drop_of_length_le om,List.nil_append,List.drop_drop,zq];congr 1; omega
theorem jv2 {pt:PT}{ct:CT}{P:Program}{E:Nat->IV}{e id:Nat}{z:List IV}{x:IX}{fr:Frm}{σ:Store}{K:IV->Store->Prop}:opT pt ct P E (.clr e z x) id fr σ K=bt4 (gk5 σ e z (x.ev E fr)) fun σ'=>σ'.next=σ.next/\K .undef σ':=rfl
theorem hb9 {σ:Store}{id k n:Nat}{cs:List IV}(ho:σ.obj id=zg (.row cs))(h1:k<n)(h2:n<=cs.length):gk5 σ 1 [.int .i64 0] (.slice id k (n-k) 1)=zg (σ.put id (.row (bb3 cs k (rep [.int .i64 0] (n-k))))):=by
 have e1:¬ n-k=0:=om
 have e2:k+(n-k)*1<=cs.length:=om
 unfold gk5;simp only[e1,if_false,ho,e2,true_and];rfl
structure kj4 (R:Int->Int->Prop) (σ:Store) (id:Nat) (zs:List Int) (v:IV) (s:Store):Prop where
 out:∃ (D:List Int) (cs:List IV),D.Pairwise R/\(∀ x,x∈D↔x∈zs)/\v=.slice id 0 D.length 1/\s.obj id=zg (.row cs)/\cs.take D.length=D.map iv/\D.length<=cs.length
 next:σ.next<=s.next
 other:∀ i,i≠id->s.obj i=σ.obj i
theorem gd8 {R:Int->Int->Prop}{σ:Store}{id:Nat}{zs:List Int}{tl:List IV}(hT:∀ a∈zs,∀ b∈zs,∀ c∈zs,R a b->R b c->R a c)(hz:zs.length<2^40)(ho:σ.obj id=zg (.row (zs.map iv++tl)))(hs:zs.Pairwise fun a b=>a=b\/R a b) :
  C Tryz.prog EE 137 [.slice id 0 zs.length 1] σ (kj4 R σ id zs):=by
 refine C_f fok137 (nZ rfl) ?_;by_cases h2:(zs.length:Int)<2
 ·simp only[ic137,go_sem,h2];refine ⟨⟨zs,zs.map iv++tl,?_,fun _=>Iff.rfl,rfl,ho,by rw[zl (by simp),z6 (by simp)],by simp⟩,zi _,fun _ _=>rfl⟩
  match zs,h2 with
  | [],_=>exact .nil
  | [a],_=>simp
  | a::b::l,h2=>simp only[List.length_cons] at h2; omega
 simp only[ic137,go_sem,h2];refine ab3 noT (fun i fr t=>(t.obj=σ.obj/\σ.next<=t.next)/\fr=[(0,.slice id 0 zs.length 1),(3,.int .i64 ((i+1:Nat):Int))]/\i+1<=zs.length/\(zs.take (i+1)).Pairwise R) zs.length ⟨⟨rfl,zi _⟩,rfl,om,?_⟩ ?_
 ·cases zs with
  | nil=>exact .nil
  | cons a l=>simp
 rintro i fr t hi ⟨⟨hob,hnx⟩,rfl,hle,hpw⟩;have hot:t.obj id=zg (.row (zs.map iv++tl)):=by rw[hob]; exact ho
 have hh:∀ (j:Nat) (h:j<zs.length),((zs.map iv++tl).drop j).head? = zg (.int .i64 zs[j]):=fun j h=>by simp[List.head?_drop,List.getElem?_append_left,h]
 have hml:zs.length<=(zs.map iv++tl).length:=by rw[zn,zd]; omega
 by_cases hlt:i+1<zs.length
 ·have c1:((i+1:Nat):Int)<zs.length:=om
  have c2:(0:Int)<=((i+1:Nat):Int):=om
  have c3:IntKind.i64.wrap (((i+1:Nat):Int)-1)=(i:Int):=by rw[wrap64 om om]; omega
  have c4:(0:Int)<=(i:Int):=om
  have c5:(i:Int)<zs.length:=om
  have w1:=ad1 (i:=i+1) om;have g1:=hh (i+1) hlt;have g2:=hh i om;have hle2:zs[i]=zs[i+1]\/R zs[i] zs[i+1]:=zt.1 hs i (i+1) om hlt om;by_cases e:zs[i+1]=zs[i]'om
  ·simp only[go_sem,c1,c2,c3,c4,c5,hot,g1,g2,e,zc,zr,zw,w1,hb8 (show i+1<=zs.length by omega)]
   refine ab3 noT (fun j fr t=>∃ (k:Nat) (cs:List IV) (D:List Int),fr=[(0,.slice id 0 zs.length 1),(3,.int .i64 (k:Int)),(4,.slice id (i+1) (zs.length-(i+1)) 1),(5,.int .i64 ((j+1:Nat):Int))] /\
    (σ.next<=t.next/\∀ q,q≠id->t.obj q=σ.obj q)/\t.obj id=zg (.row cs)/\zs.length<=cs.length/\k<=i+1+j/\i+1+j<zs.length/\D.length=k/\cs.take k=D.map iv/\D.Pairwise R/\(∀ x,x∈D↔x∈zs.take (i+1+j+1)) /\
    ∀ (q:Nat) (h:q<zs.length),k<=q->(cs.drop q).head? = zg (.int .i64 zs[q])) (zs.length-(i+1)) ?_ ?_
   ·refine ⟨i+1,zs.map iv++tl,zs.take (i+1),rfl,⟨by show σ.next<=t.next+10; omega,fun q _=>by rw[hob]⟩,hot,hml,om,om,by rw[zh]; omega,by rw[zl (by rw[zd]; omega),List.map_take],hpw,fun x=>?_,fun q h _=>hh q h⟩;exact cv6 (p:=i) hlt e x
   rintro j fr u hj ⟨k,cs,D,rfl,⟨un,uo⟩,hoc,hcl,hk1,hk2,hDl,hDt,hDp,hDm,hcs⟩;by_cases hl2:j+1<zs.length-(i+1)
   ·have d1:((j+1:Nat):Int)<(zs.length-(i+1):Nat):=om
    have d2:(0:Int)<=((j+1:Nat):Int):=om
    have d3:IntKind.i64.wrap (((j+1:Nat):Int)-1)=(j:Int):=by rw[wrap64 om om]; omega
    have d4:(0:Int)<=(j:Int):=om
    have d5:(j:Int)<(zs.length-(i+1):Nat):=om
    have d6:(0:Int)<=(k:Int):=om
    have d7:(k:Int)<zs.length:=om
    have d8:k+1<=cs.length:=om
    have w2:=ad1 (i:=j+1) om;have w3:=ad1 (i:=k) om;have f1:=hcs (i+1+(j+1)) om om;have f2:=hcs (i+1+j) om om;by_cases e2:zs[i+1+(j+1)]=zs[i+1+j]
    ·simp only[go_sem,d1,d2,d3,d4,d5,hoc,f1,f2,e2,zc,zr,zw,w2];exact ⟨om,k,cs,D,rfl,⟨om,uo⟩,rfl,hcl,om,om,hDl,hDt,hDp,fun x=>(hDm x).trans (cv6 (p:=i+1+j) om e2 x),hcs⟩
    ·simp only[go_sem,d1,d2,d3,d4,d5,d6,d7,d8,hoc,f1,f2,e2,zc,zr,zw,w2,w3];have hle3:zs[i+1+j]=zs[i+1+(j+1)]\/R zs[i+1+j] zs[i+1+(j+1)]:=zt.1 hs (i+1+j) (i+1+(j+1)) om om om;have hn:=cv5 (zs:=zs) (p:=i+1+j) om;have hR3:R zs[i+1+j] zs[i+1+(j+1)]:=hle3.elim (fun q=>absurd q.symm e2) fun q=>q
     have hlt3:∀ x∈D,R x zs[i+1+(j+1)]:=by
      intro x hx;obtain ⟨q,hq,rfl⟩:=qd.1 ((hDm x).1 hx);rw[zh] at hq;rw[qg];by_cases hqe:q=i+1+j
      ·subst hqe; exact hR3
      ·rcases zt.1 hs q (i+1+j) om om om with h|h
       ·rw[h]; exact hR3
       ·exact hT _ (zf _) _ (zf _) _ (zf _) h hR3
     have hb1:σ.next<=u.next+10:=om
     refine ⟨om,k+1,bb3 cs k [.int .i64 zs[i+1+(j+1)]],D++[zs[i+1+(j+1)]],rfl,⟨hb1,fun q hq=>by rw[if_neg hq]; exact uo q hq⟩,rfl,?_,om,om,by rw[zn,hDl]; rfl,?_,?_,fun x=>?_,fun q h hq=>?_⟩
     ·rw[ah4 (by rw[zq]; omega)]; exact hcl
     ·rw[dw6 om,hDt,zx]; rfl
     ·exact qo.2 ⟨hDp,by simp,fun a ha b hb=>by
       simp only[zb,ze,or_false] at hb;subst hb; exact hlt3 a ha⟩
     ·rw[qj,hDm x];refine Iff.trans ?_ (hn x).symm;simp only[zb,ze,or_false];exact Iff.rfl
     ·rw[dw7 om om];exact hcs q h om
   ·have d1:¬ ((j+1:Nat):Int)<(zs.length-(i+1):Nat):=om
    have hkn:k<zs.length:=om
    have hj':i+1+j+1=zs.length:=om
    rw[hj',zo] at hDm;simp only[go_sem,d1,hb8 (show k<=zs.length by omega),it2 (show k<=zs.length by omega),hoc,jv2,hb9 hoc hkn om];have hrl:(rep [IV.int .i64 0] (zs.length-k)).length=zs.length-k:=by rw[aq9]; simp
    refine ⟨⟨D,bb3 cs k (rep [IV.int .i64 0] (zs.length-k)),hDp,hDm,by rw[hDl],by simp only[aa5,if_true],by rw[hDl,eq8 om]; exact hDt,?_⟩,un,fun q hq=>?_⟩
    ·rw[ah4 (by rw[hrl]; omega),hDl]; omega
    ·simp only[aa5,if_neg hq];exact uo q hq
  ·simp only[go_sem,c1,c2,c3,c4,c5,hot,g1,g2,e,zc,zr,zw,w1];refine ⟨om,⟨hob,by show σ.next<=_; omega⟩,om,?_⟩;rw[z1,zk hlt,qo];refine ⟨hpw,by simp,fun a ha b hb=>?_⟩;simp only[qk,zb,ze,or_false] at hb;subst hb;obtain ⟨j,hj,rfl⟩:=qd.1 ha;rw[zh] at hj;rw[qg];have hR2:R zs[i] zs[i+1]:=hle2.elim (fun q=>absurd q.symm e) fun q=>q
   by_cases hji:j=i
   ·subst hji; exact hR2
   ·rcases zt.1 hs j i om om om with h|h
    ·rw[h]; exact hR2
    ·exact hT _ (zf _) _ (zf _) _ (zf _) h hR2
 ·have hi':i+1=zs.length:=om
  have c1:¬ ((i+1:Nat):Int)<zs.length:=om
  simp only[go_sem,c1];rw[hi',zo] at hpw;exact ⟨⟨zs,zs.map iv++tl,hpw,fun _=>Iff.rfl,rfl,hot,by rw[zl (by simp),z6 (by simp)],by simp⟩,hnx,fun j _=>by rw[hob]⟩
abbrev Cmp:=kj4 (· < ·)
theorem hc5 {σ:Store}{id:Nat}{zs:List Int}(hz:zs.length<2^40)(ho:σ.obj id=zg (.row (zs.map iv)))(hs:zs.Pairwise (·<=·)) :
  C Tryz.prog EE 137 [.slice id 0 zs.length 1] σ (Cmp σ id zs):=
 gd8 (tl:=[]) (fun _ _ _ _ _ _ h h2=>Int.lt_trans h h2) hz (by rw[z8]; exact ho) (hs.imp fun h=>om)
end Go.Id.Tryz
namespace Go.Id.Tryz
open Go Go.Id Go.Proofs Go.Shelf
def kv2:Go.Shelf.Ren where
 f:=fun n=>(List.lookup n [(0,0),(1,1),(2,2),(99,114),(107,73),(108,116),(109,258),(110,229),(119,292),(122,176),(125,184),(128,226),(129,227),(137,112),(151,283),(152,289),(161,268),(171,242),(189,136),(197,282),(206,161),(215,213),(216,223),(217,160),(224,293),(225,294),(227,274),(228,281),(231,273),(233,275),(235,276),(243,265),(246,272),(257,183),(260,288),(266,201),(283,277),(284,278),(285,279),(286,280),(294,217),(295,218),(296,219),(297,220),(298,221),(299,222),(300,224),(301,225),(317,284),(318,285),(319,286),(320,287),(328,253),(329,254),(330,255),(331,256),(332,257),(336,270),(337,290),(338,291),(343,271),(347,295),(348,296),(349,297),(350,298),(351,299),(352,300),(353,301),(354,302),(355,303),(356,304),(357,305),(358,306),(359,307),(360,308),(361,309),(366,313),(367,324)]).getD 0
 t:=fun n=>(List.lookup n [(0,0),(1,1),(2,2),(3,3),(4,4),(5,5),(7,7),(8,8),(9,9),(10,10),(11,11),(12,12),(13,13),(14,14),(15,15),(16,16),(17,17),(18,18),(20,20),(21,21),(22,184),(23,298),(27,227),(28,37),(29,149),(30,83),(31,51),(32,290),(33,269),(34,274),(35,200),(36,245),(37,312),(40,327),(41,103),(43,226),(45,43),(46,231),(47,230),(51,266),(52,265),(53,268),(54,267),(55,182),(63,317),(64,322),(80,330),(81,36),(83,278),(84,302),(102,177),(104,142),(105,315),(106,316),(111,152),(112,191),(114,318),(115,304),(116,305),(117,306),(118,307),(119,323),(122,303),(123,308),(124,309),(127,339),(131,92),(134,229),(137,324),(139,326),(164,345),(171,310),(172,311),(173,313),(174,314),(181,258),(182,259),(183,260),(184,261),(185,262),(186,263),(187,264),(211,319),(212,320),(213,321),(214,297),(218,284),(219,285),(220,286),(221,287),(222,288),(223,289),(228,299),(229,300),(230,301),(232,328),(233,329),(238,331),(239,332),(240,333),(241,334),(242,335),(245,338),(248,342)]).getD 0
 g:=fun n=>n
theorem jv3:Lays.n189 Tryz.prog kv2 where
 mixed:=by kernel_rfl
 f125:=Tryz.func184.trans (congrArg zg (by kernel_rfl))
 f128:=Tryz.func226.trans (congrArg zg (by kernel_rfl))
 f129:=Tryz.func227.trans (congrArg zg (by kernel_rfl))
 f189:=Tryz.func136.trans (congrArg zg (by kernel_rfl))
 f215:=Tryz.func213.trans (congrArg zg (by kernel_rfl))
 f216:=Tryz.func223.trans (congrArg zg (by kernel_rfl))
 f257:=Tryz.func183.trans (congrArg zg (by kernel_rfl))
 f294:=Tryz.func217.trans (congrArg zg (by kernel_rfl))
 f295:=Tryz.func218.trans (congrArg zg (by kernel_rfl))
 f296:=Tryz.func219.trans (congrArg zg (by kernel_rfl))
 f297:=Tryz.func220.trans (congrArg zg (by kernel_rfl))
 f298:=Tryz.func221.trans (congrArg zg (by kernel_rfl))
 f299:=Tryz.func222.trans (congrArg zg (by kernel_rfl))
 f300:=Tryz.func224.trans (congrArg zg (by kernel_rfl))
 f301:=Tryz.func225.trans (congrArg zg (by kernel_rfl))
 f328:=Tryz.func253.trans (congrArg zg (by kernel_rfl))
 f329:=Tryz.func254.trans (congrArg zg (by kernel_rfl))
 f330:=Tryz.func255.trans (congrArg zg (by kernel_rfl))
 f331:=Tryz.func256.trans (congrArg zg (by kernel_rfl))
 f332:=Tryz.func257.trans (congrArg zg (by kernel_rfl))
 f343:=Tryz.func271.trans (congrArg zg (by kernel_rfl))
 t0:=by kernel_rfl
 a0:=Tryz.isAgg0
 z0:=fun _=>by kernel_rfl
 v0:=fun _=>by kernel_rfl
 t3:=by kernel_rfl
 a3:=Tryz.isAgg3
 z3:=fun _=>by kernel_rfl
 v3:=fun _=>by kernel_rfl
 t4:=by kernel_rfl
 a4:=Tryz.isAgg4
 z4:=fun _=>by kernel_rfl
 v4:=fun _=>by kernel_rfl
 t5:=by kernel_rfl
 a5:=Tryz.isAgg5
 z5:=fun _=>by kernel_rfl
 v5:=fun _=>by kernel_rfl
 t9:=by kernel_rfl
 a9:=Tryz.isAgg9
 z9:=fun _=>by kernel_rfl
 v9:=fun _=>by kernel_rfl
 t28:=by kernel_rfl
 a28:=Tryz.isAgg37
 z28:=fun _=>by kernel_rfl
 v28:=fun _=>by kernel_rfl
 t46:=by kernel_rfl
 a46:=Tryz.isAgg231
 z46:=fun _=>by kernel_rfl
 v46:=fun _=>by kernel_rfl
 t51:=by kernel_rfl
 a51:=Tryz.isAgg266
 z51:=fun _=>by kernel_rfl
 v51:=fun _=>by kernel_rfl
 t53:=by kernel_rfl
 a53:=Tryz.isAgg268
 z53:=fun _=>by kernel_rfl
 v53:=fun _=>by kernel_rfl
 t131:=by kernel_rfl
 a131:=Tryz.isAgg92
 z131:=fun _=>by kernel_rfl
 v131:=fun _=>by kernel_rfl
 t182:=by kernel_rfl
 a182:=Tryz.isAgg259
 z182:=fun _=>by kernel_rfl
 v182:=fun _=>by kernel_rfl
 t183:=by kernel_rfl
 a183:=Tryz.isAgg260
 z183:=fun _=>by kernel_rfl
 v183:=fun _=>by kernel_rfl
 t218:=by kernel_rfl
 a218:=Tryz.isAgg284
 z218:=fun _=>by kernel_rfl
 v218:=fun _=>by kernel_rfl
 t222:=by kernel_rfl
 a222:=Tryz.isAgg288
 z222:=fun _=>by kernel_rfl
 v222:=fun _=>by kernel_rfl
 t228:=by kernel_rfl
 a228:=Tryz.isAgg299
 z228:=fun _=>by kernel_rfl
 v228:=fun _=>by kernel_rfl
 t229:=by kernel_rfl
 a229:=Tryz.isAgg300
 z229:=fun _=>by kernel_rfl
 v229:=fun _=>by kernel_rfl
def jf2 (l:List Int):List Int:=l.mergeSort fun x y=>decide (x<=y)
theorem gd9 {σ:Store}{id:Nat}{zs:List Int}(hz:zs.length<4611686018427387904)(ho:σ.obj id=zg (.row (zs.map (IV.int .i64)))) :
  C Tryz.prog EE 136 [.slice id 0 zs.length 1] σ fun v s=>v=.tuple []/\s=σ.put id (.row ((jf2 zs).map (IV.int .i64))):=
 iy7 (enc:=Value.int .i64) (en:=IV.int .i64) (srt:=jf2) (fun _ _ x=>.int _ _) (fun _ _ x r h=>by cases h; rfl) (fun l=>qn l) (by unfold jf2; rw[List.mergeSort_nil])
  (fun blk off cap zs w h1 h2 h3=>Any.slices_Sort_int jv3 blk off cap zs w h1 h2 h3) (fun p cap w=>Any.slices_Sort_int_none jv3 p cap w) hz ho
end Go.Id.Tryz
namespace Go.Id.Tryz
open Go Go.Id Go.Proofs Go.Shelf Go.Id.Md
theorem hc7:∀ {a b:List Int},a.Pairwise (· < ·)->b.Pairwise (· < ·)->(∀ x,x∈a↔x∈b)->a=b:=by
 intro a
 induction a with
 | nil=>
  intro b _ _ h
  cases b with
  | nil=>rfl
  | cons y b=>exact absurd ((h y).2 (zy ..)) (by simp)
 | cons x a ih=>
  intro b ha hb h
  cases b with
  | nil=>exact absurd ((h x).1 (zy ..)) (by simp)
  | cons y b=>
   obtain ⟨a1,a2⟩:=qs.1 ha;obtain ⟨b1,b2⟩:=qs.1 hb
   have e:x=y:=by
    rcases zb.1 ((h x).1 (zy ..)) with e|e
    ·exact e
    ·have l1:=b1 x e;rcases zb.1 ((h y).2 (zy ..)) with e2|e2
     ·exact e2.symm
     ·have l2:=a1 y e2; omega
   subst e;rw[ih a2 b2 fun z=>?_];constructor
   ·intro hz;have l1:=a1 z hz;rcases zb.1 ((h z).1 (qp _ hz)) with e|e
    ·omega
    ·exact e
   ·intro hz;have l1:=b1 z hz;rcases zb.1 ((h z).2 (qp _ hz)) with e|e
    ·omega
    ·exact e
end Go.Id.Tryz
namespace Go.Id
open Go Go.Id
end Go.Id
namespace Go.Id.Tryz
open Go Go.Id Go.Proofs Go.Shelf Go.Id.Md
end Go.Id.Tryz
namespace Go.Id.Tryz
open Go Go.Id Go.Proofs Go.Id.Md
def mP (name:Str)(au1 obs:List Dep)(files:List Str):aa2:={ name:=name,evr:=⟨0,[49],[49]⟩,au7:=1,vendor:=[],provides:=au1,requires:=[],conflicts:=[],aa8:=obs,ac7:=[],ac4:=[],suggests:=[],af3:=[],files:=files }
def dP (name:Str)(op:Int)(ver:Str):Dep:=⟨name,op,⟨0,ver,[]⟩⟩
def cP (name:Str)(au1 obs files:IV):List IV:=[.str name,.int .i64 0,.str [49],.str [49],.int .u8 1,.str [],au1,.aa1,.aa1,obs,.aa1,.aa1,.aa1,.aa1,files]
def mA:aa2:=mP [97] [] [] []
def mB:aa2:=mP [98] [dP [97] 2 [50]] [dP [97] 1 [50]] []
def mC:aa2:=mP [99] [] [] [[47,102]]
def mT:aa2:=mP [97] [dP [97] 2 [51],dP [97] 2 [52],dP [97] 0 []] [dP [97] 0 [],dP [98] 0 [],dP [98] 1 [57]] []
def mD:aa2:=mP [98] [] [] []
def cA:List IV:=cP [97] .aa1 .aa1 .aa1
def cB:List IV:=cP [98] (deps [dP [97] 2 [50]]) (deps [dP [97] 1 [50]]) .aa1
def cC:List IV:=cP [99] .aa1 .aa1 (strs [[47,102]])
def cT:List IV:=cP [97] (deps [dP [97] 2 [51],dP [97] 2 [52],dP [97] 0 []]) (deps [dP [97] 0 [],dP [98] 0 [],dP [98] 1 [57]]) .aa1
def cD:List IV:=cP [98] .aa1 .aa1 .aa1
theorem jv4 {name:Str}{au1 obs:List Dep}{files:List Str}(h1:name.length<100)(h2:au1.length<100)(h3:obs.length<100)(h4:files.length<100)(h5:(au1++obs).all (fun d=>decide (d.name.length<100)&&decide (d.evr.ver.length<100)&&decide (d.evr.rel.length<100))=true)(h6:files.all (fun s=>decide (s.length<100))=true):(mP name au1 obs files).Fit:=by
 have hd:∀ d∈au1++obs,d.fit:=fun d hd=>by
  have:=List.all_eq_true.1 h5 d hd;simp only[zj,decide_eq_true_eq] at this;exact ⟨om,by show d.evr.ver.length<_; omega,by show d.evr.rel.length<_; omega⟩
 refine ⟨by show name.length<_; omega,⟨by show ([49]:Str).length<2^62; decide,by show ([49]:Str).length<2^62; decide⟩,⟨by show au1.length<_; omega,fun d h=>hd d (List.mem_append_left _ h)⟩,⟨by show obs.length<_; omega,fun d h=>hd d (qm _ h)⟩,⟨by show files.length<_; omega,fun s h=>by have:=List.all_eq_true.1 h6 s h; simp only[decide_eq_true_eq] at this; omega⟩,fun x hx=>?_⟩;simp only[aa2.rows,mP,zb,ze,or_false] at hx;rcases hx with rfl|rfl|rfl|rfl|rfl|rfl<;>exact ⟨by decide,fun r h=>by cases h⟩
theorem di3:∀ p∈[mA,mB,mC,mT,mD],p.Fit:=by
 intro p hp;simp only[zb,ze,or_false] at hp;rcases hp with rfl|rfl|rfl|rfl|rfl<;>exact jv4 (by decide) (by decide) (by decide) (by decide) (by decide) (by decide)
def p1M:Pool:=⟨rowsOf [mA,mB,mC] (-1) 1025,3,[([97],[0]),([98],[1]),([99],[2])]⟩
def p2M:Pool:=⟨rowsOf [mB,mC] (-1) 1025++rowsOf [mA] 0 0++rowsOf [mT,mD] 1 0,2,[([98],[0,4]),([99],[1]),([97],[2,3])]⟩
theorem kv3:jq2 (ce4 [] [mA,mB,mC])=.tuple [p1M.v,.int .i64 0]:=by kernel_rfl
theorem kv4:jq2 (ce4 [⟨0,[mA]⟩,⟨0,[mT,mD]⟩] [mB,mC])=.tuple [p2M.v,.int .i64 0]:=by kernel_rfl
def a1:List IV:=[.aa1,.aa4 [cA,cB,cC]]
def a2:List IV:=[.aa4 [[.int .i64 0,.aa4 [cA]],[.int .i64 0,.aa4 [cT,cD]]],.aa4 [cB,cC]]
theorem e1:PC Tryz.prog EE 20 a1 (.tuple [p1M.v,.int .i64 0]):=by
 rw[<- kv3];refine iy9 (args':=[bb2 [],bc2 [mA,mB,mC]]) (by kernel_rfl) (ct4 [] [mA,mB,mC] (by decide) (by decide) (by decide) (fun r h=>by cases h) fun p hp=>di3 p ?_);simp only[zb,ze,or_false] at hp ⊢;rcases hp with h|h|h<;>simp[h]
theorem e2:PC Tryz.prog EE 20 a2 (.tuple [p2M.v,.int .i64 0]):=by
 rw[<- kv4];refine iy9 (args':=[bb2 [⟨0,[mA]⟩,⟨0,[mT,mD]⟩],bc2 [mB,mC]]) (by kernel_rfl) (ct4 _ _ (by decide) (by decide) (by decide) (fun r hr=>?_) fun p hp=>di3 p ?_)
 ·simp only[zb,ze,or_false] at hr;rcases hr with rfl|rfl
  ·exact ⟨by decide,fun p hp=>di3 p (by simp only[zb,ze,or_false] at hp ⊢; simp[hp])⟩
  ·exact ⟨by decide,fun p hp=>di3 p (by simp only[zb,ze,or_false] at hp ⊢; rcases hp with h|h<;>simp[h])⟩
 ·simp only[zb,ze,or_false] at hp ⊢;rcases hp with h|h<;>simp[h]
theorem fl4 {p:Pool}{l:List aa2}(h:p.rows.map (·.pkg)=l)(hl:∀ x∈l,x∈[mA,mB,mC,mT,mD]):(∀ r∈p.rows,r.pkg.Fit)/\∀ r∈p.rows,r.pkg.provides.length+r.pkg.files.length+r.pkg.aa8.length+3<=2^15:=by
 have hm:∀ r∈p.rows,r.pkg∈[mA,mB,mC,mT,mD]:=fun r hr=>hl _ (by rw[<- h]; exact List.mem_map_of_mem hr)
 refine ⟨fun r hr=>di3 _ (hm r hr),fun r hr=>?_⟩;have:=hm r hr;generalize r.pkg=x at this;simp only[zb,ze,or_false] at this;rcases this with rfl|rfl|rfl|rfl|rfl<;>decide
theorem e3:PC Tryz.prog EE 43 [p1M.v] (.tuple [(ad7 [mA,mB,mC]).v,.int .i64 0]):=by
 obtain ⟨h1,h2⟩:=fl4 (p:=p1M) (l:=[mA,mB,mC]) rfl (fun x hx=>by simp only[zb,ze,or_false] at hx ⊢; rcases hx with h|h|h<;>simp[h]);exact be3 p1M h1 (by decide) h2
theorem e4:PC Tryz.prog EE 43 [p2M.v] (.tuple [(ad7 [mB,mC,mA,mT,mD]).v,.int .i64 0]):=by
 obtain ⟨h1,h2⟩:=fl4 (p:=p2M) (l:=[mB,mC,mA,mT,mD]) rfl (fun x hx=>by simp only[zb,ze,or_false] at hx ⊢; rcases hx with h|h|h|h|h<;>simp[h]);exact be3 p2M h1 (by decide) h2
end Go.Id.Tryz
namespace Go.Id.Tryz
open Go Go.Id Go.Proofs Go.Id.Md
end Go.Id.Tryz
namespace Go.Id.Tryz
open Go Go.Id Go.Proofs Go.Id.Md
theorem fl5 {f:Nat}{args args':List IV}{σ:Store}{Q:IV->Store->Prop}(hl:args'.length=args.length)(ha:∀ i,i<args.length->Frz σ (fun _=>true=true) (args.getD i .undef) (args'.getD i .undef))(h:C Tryz.prog EE f args' σ Q):C Tryz.prog EE f args σ Q :=
 dt9 (S:=fun _=>true) hl ha h
theorem hc9 (x:Index)(l:List Int)(hl:l.length<2^30)(k:Nat)(cap:List IV)(w:Int->Bool)(hok:okF Tryz.prog k=true)
  (hW:∀ n∈l,∃ m:Nat,n=m/\∃ h:m<x.all.length,PC Tryz.prog EE k (.agg x.all[m].cs::.int .i64 n::cap) (.bool (w n))) (σ:Store) :
  C Tryz.prog EE 126 [x.v,.aa4 (l.map Md.ad9),.func (.func k) [] cap] σ (bo8 σ (l.filter w)):=by
 have hx:x.v=.ab9 [.aa4 (x.all.map aa2.cs),.ak9 (nmV x.au1),.ak9 (nmV x.names),.ak9 (nmV x.over)]:=rfl;rw[hx];generalize IV.ak9 (nmV x.au1)=v1 at *;generalize IV.ak9 (nmV x.names)=v2 at *;generalize IV.ak9 (nmV x.over)=v3 at *;refine C_f fok126 (nZ rfl) ?_;simp only[ic126,go_sem];refine ab3 noT (fun i fr s=>∃ gv,fr=[(0,.ab9 [.aa4 (x.all.map aa2.cs),v1,v2,v3]),(2,.func (.func k) [] cap),(7,gv),(10,.aa4 (l.map Md.ad9)),(11,.int .i64 l.length),(12,.int .i64 i)]/\Kept σ s/\al2 s σ.next gv ((l.take i).filter w)) l.length ⟨.aa1,rfl,Kept.refl σ,.inl ⟨rfl,rfl⟩⟩ ?_;rintro i fr s hle ⟨gv,rfl,hk,hg⟩;by_cases hlt:i<l.length
 ·obtain ⟨n,hn,_,hdr,hget,htk⟩:=ad6 l i hlt;have c1:(i:Int)<l.length:=om
  have c2:(0:Int)<=i:=om
  have w1:=ad1 (i:=i) om;obtain ⟨m,rfl,hm,hpc⟩:=hW n hn;have c3:(m:Int)<x.all.length:=om
  have c4:(0:Int)<=m:=om
  have hgm:(x.all.map aa2.cs).getD m []=x.all[m].cs:=by simp[za,hm]
  simp only[go_sem,c1,c2,c3,c4,hget,Md.ad9,hgm,af6,af4,ac9,zc,zd];refine ct3 hok hpc ?_
  cases hw:w (m:Int) with
  | false=>
   simp only[go_sem,w1];have e:(l.take (i+1)).filter w=(l.take i).filter w:=by rw[htk,zz]; simp[hw]
   rw[e]
   exact ⟨hlt,gv,rfl,hk,hg⟩
  | true=>
   have hlen:((l.take i).filter w).length<=i:=by
    refine qi (qa _ _) ?_;rw[zh]; omega
   have hap:=bd5 (nid:=s.next) (hg.up 1) (m:Int) om;have e:(l.take (i+1)).filter w=(l.take i).filter w++[(m:Int)]:=by rw[htk,zz]; simp[hw]
   simp only[go_sem,hap,w1,e];have hz:=bf4 hk hg (m:Int) (a:=1) (nid:=s.next) (zi _) (zm _) rfl;exact ⟨hlt,_,rfl,hz.1,hz.2⟩
 ·have hi':i=l.length:=om
  subst hi';have c1:¬ (l.length:Int)<l.length:=om
  rw[zo] at hg;simp only[go_sem,c1];exact ⟨hk,hg⟩
end Go.Id.Tryz
namespace Go.Id.Tryz
open Go Go.Id Go.Proofs Go.Shelf Go.Id.Md
theorem av2 (d:Job):d.cs.length=6:=rfl
theorem ar5 (d:Job):d.cs.all IV.leaf=true:=rfl
theorem bc5 (d:Job):d.cs.take 6=d.cs:=rfl
theorem ar6 (d:bd9):d.cs.length=2:=rfl
theorem aj1 (d:bd9):d.cs.all IV.leaf=true:=rfl
theorem ap4 (d:bd9):d.cs.take 2=d.cs:=rfl
theorem hd8 (d:Job):∀ c∈d.cs,Bnd 0 c:=kf3 (.int _ _) (.str _) (.int _ _) (.int _ _) (.str _) (.str _)
theorem fl6 (d:bd9):∀ c∈d.cs,Bnd 0 c:=ah9 (.int _ _) (.int _ _)
theorem cg6 (l:List Job):Bnd 0 (be1 l):=.aa4 _ fun e he c hc=>by
 obtain ⟨d,_,rfl⟩:=qf.1 he; exact hd8 d c hc
theorem be4 (l:List bd9):Bnd 0 (av7 l):=.aa4 _ fun e he c hc=>by
 obtain ⟨d,_,rfl⟩:=qf.1 he; exact fl6 d c hc
theorem ik1 (d:Job):Bnd 0 (.agg d.cs):=.agg _ (hd8 d)
theorem cg7 (d:bd9):Bnd 0 (.agg d.cs):=.agg _ (fl6 d)
theorem di4 (xs:List Int)(g:Nat)(first cap:List IV)(q:Int->Bool)(hn:xs.length<2^62)(hok:okF Tryz.prog g=true)
  (hq:∀ x∈xs,PC Tryz.prog EE g (first++[IV.int .i64 x]++cap) (.bool (q x))):PC Tryz.prog EE 187 [.aa4 (xs.map Md.ad9),.func (.func g) first cap] (.int .i64 (ai2 q xs 0)):=by
 refine ba5 fok187 (nZ rfl) fun σ=>?_
 simp only[ic187,go_sem];refine ab3 noT (fun i fr s=>s=σ/\fr=[(0,.aa4 (xs.map Md.ad9)),(1,.func (.func g) first cap),(7,.int .i64 xs.length),(8,.int .i64 i)]/\ai2 q xs 0=ai2 q (xs.drop i) i) xs.length ⟨rfl,rfl,rfl⟩ ?_;rintro i fr s hi ⟨rfl,rfl,hf⟩;by_cases hlt:i<xs.length
 ·obtain ⟨x,ha,_,hdr,hget,_⟩:=ad6 xs i hlt;have c1:(i:Int)<xs.length:=om
  have c2:(0:Int)<=i:=om
  have w1:=ad1 (i:=i) om;rw[hdr] at hf;simp only[go_sem,c1,c2,hget,Md.ad9];refine an2 hok (em3 (hq x ha)) ?_;rintro v s ⟨rfl,rfl⟩;refine ⟨zi _,?_⟩
  cases hqe:q x with
  | true=>simp only[go_sem,hf,ai2,hqe,and_self]
  | false=>
   simp only[go_sem,w1];exact ⟨hlt,by rw[hf]; simp only[ai2,hqe,zv,if_false,qc,qb]⟩
 ·have hi':i=xs.length:=om
  subst hi';have c1:¬ (xs.length:Int)<xs.length:=om
  rw[z2] at hf;simp only[go_sem,c1,hf,ai2,and_self]
theorem bk5 (xs:List Int)(g:Nat)(first cap:List IV)(q:Int->Bool)(hn:xs.length<2^62)(hok:okF Tryz.prog g=true)
  (hq:∀ x∈xs,PC Tryz.prog EE g (first++[IV.int .i64 x]++cap) (.bool (q x))):PC Tryz.prog EE 146 [.aa4 (xs.map Md.ad9),.func (.func g) first cap] (.bool (xs.any q)):=by
 refine ba5 fok146 (nZ rfl) fun σ=>?_
 simp only[ic146,go_sem];refine aa3 fok187 (di4 xs g first cap q hn hok hq) ?_;simp only[go_sem,ar4,and_self]
theorem hd9 (xs:List Job)(g:Nat)(first cap:List IV)(q:Job->Bool)(hn:xs.length<2^62)(hok:okF Tryz.prog g=true)
  (hq:∀ x∈xs,PC Tryz.prog EE g (first++[IV.agg (Job.cs x)]++cap) (.bool (q x))):PC Tryz.prog EE 66 [.aa4 (xs.map Job.cs),.func (.func g) first cap] (.int .i64 (ai2 q xs 0)):=by
 refine ba5 fok66 (nZ rfl) fun σ=>?_
 simp only[ic66,go_sem];refine ab3 noT (fun i fr s=>s=σ/\fr=[(0,.aa4 (xs.map Job.cs)),(1,.func (.func g) first cap),(7,.int .i64 xs.length),(8,.int .i64 i)]/\ai2 q xs 0=ai2 q (xs.drop i) i) xs.length ⟨rfl,rfl,rfl⟩ ?_;rintro i fr s hi ⟨rfl,rfl,hf⟩;by_cases hlt:i<xs.length
 ·obtain ⟨x,ha,_,hdr,hget,_⟩:=ad6 xs i hlt;have c1:(i:Int)<xs.length:=om
  have c2:(0:Int)<=i:=om
  have w1:=ad1 (i:=i) om;rw[hdr] at hf;simp only[go_sem,c1,c2,hget,av2,bc5,ar5];refine an2 hok (em3 (hq x ha)) ?_;rintro v s ⟨rfl,rfl⟩;refine ⟨zi _,?_⟩
  cases hqe:q x with
  | true=>simp only[go_sem,hf,ai2,hqe,and_self]
  | false=>
   simp only[go_sem,w1];exact ⟨hlt,by rw[hf]; simp only[ai2,hqe,zv,if_false,qc,qb]⟩
 ·have hi':i=xs.length:=om
  subst hi';have c1:¬ (xs.length:Int)<xs.length:=om
  rw[z2] at hf;simp only[go_sem,c1,hf,ai2,and_self]
theorem he3 (xs:List Job)(g:Nat)(first cap:List IV)(q:Job->Bool)(hn:xs.length<2^62)(hok:okF Tryz.prog g=true)
  (hq:∀ x∈xs,PC Tryz.prog EE g (first++[IV.agg (Job.cs x)]++cap) (.bool (q x))):PC Tryz.prog EE 36 [.aa4 (xs.map Job.cs),.func (.func g) first cap] (.bool (xs.any q)):=by
 refine ba5 fok36 (nZ rfl) fun σ=>?_
 simp only[ic36,go_sem];refine aa3 fok66 (hd9 xs g first cap q hn hok hq) ?_;simp only[go_sem,ar4,and_self]
theorem ge1 (xs:List bd9)(g:Nat)(first cap:List IV)(q:bd9->Bool)(hn:xs.length<2^62)(hok:okF Tryz.prog g=true)
  (hq:∀ x∈xs,PC Tryz.prog EE g (first++[IV.agg (bd9.cs x)]++cap) (.bool (q x))):PC Tryz.prog EE 71 [.aa4 (xs.map bd9.cs),.func (.func g) first cap] (.int .i64 (ai2 q xs 0)):=by
 refine ba5 fok71 (nZ rfl) fun σ=>?_
 simp only[ic71,go_sem];refine ab3 noT (fun i fr s=>s=σ/\fr=[(0,.aa4 (xs.map bd9.cs)),(1,.func (.func g) first cap),(7,.int .i64 xs.length),(8,.int .i64 i)]/\ai2 q xs 0=ai2 q (xs.drop i) i) xs.length ⟨rfl,rfl,rfl⟩ ?_;rintro i fr s hi ⟨rfl,rfl,hf⟩;by_cases hlt:i<xs.length
 ·obtain ⟨x,ha,_,hdr,hget,_⟩:=ad6 xs i hlt;have c1:(i:Int)<xs.length:=om
  have c2:(0:Int)<=i:=om
  have w1:=ad1 (i:=i) om;rw[hdr] at hf;simp only[go_sem,c1,c2,hget,ar6,ap4,aj1];refine an2 hok (em3 (hq x ha)) ?_;rintro v s ⟨rfl,rfl⟩;refine ⟨zi _,?_⟩
  cases hqe:q x with
  | true=>simp only[go_sem,hf,ai2,hqe,and_self]
  | false=>
   simp only[go_sem,w1];exact ⟨hlt,by rw[hf]; simp only[ai2,hqe,zv,if_false,qc,qb]⟩
 ·have hi':i=xs.length:=om
  subst hi';have c1:¬ (xs.length:Int)<xs.length:=om
  rw[z2] at hf;simp only[go_sem,c1,hf,ai2,and_self]
theorem ge2 (xs:List bd9)(g:Nat)(first cap:List IV)(q:bd9->Bool)(hn:xs.length<2^62)(hok:okF Tryz.prog g=true)
  (hq:∀ x∈xs,PC Tryz.prog EE g (first++[IV.agg (bd9.cs x)]++cap) (.bool (q x))):PC Tryz.prog EE 39 [.aa4 (xs.map bd9.cs),.func (.func g) first cap] (.bool (xs.any q)):=by
 refine ba5 fok39 (nZ rfl) fun σ=>?_
 simp only[ic39,go_sem];refine aa3 fok71 (ge1 xs g first cap q hn hok hq) ?_;simp only[go_sem,ar4,and_self]
theorem jf3 {α:Type}[DecidableEq α](xs:List α)(n:α):xs.any (fun x=>decide (n=x))=decide (n∈xs):=by
 rw[Bool.eq_iff_iff]; simp
theorem it3 (a b:bd9):io4 [1,1] true false (.agg a.cs) (.agg b.cs)=zg (.bool (decide (a=b))):=by
 have e:decide (a=b)=(decide (a.kind=b.kind)&&decide (a.n=b.n)):=by
  cases a; cases b; simp only[bd9.mk.injEq,Bool.decide_and]
 rw[e];unfold bd9.cs;simp only[ip7,ip9,ip8,go_sem,Option.map_some,kb1,ak4,Bool.xor_false,Bool.and_true]
theorem eq9 (xs:List bd9)(n:bd9)(hn:xs.length<2^62):PC Tryz.prog EE 212 [av7 xs,.agg n.cs] (.int .i64 (ai2 (fun x=>decide (n=x)) xs 0)):=by
 refine ae6 hE fok212 (nZ rfl) (ah9 (be4 xs) (cg7 n)) ?_;simp only[ic212,go_sem,aj1];refine ab3 noT (fun i fr s=>fr=[(0,av7 xs),(3,.ab9 n.cs),(7,.int .i64 xs.length),(8,.int .i64 i)]/\ai2 (fun x=>decide (n=x)) xs 0=ai2 (fun x=>decide (n=x)) (xs.drop i) i) xs.length ⟨rfl,rfl⟩ ?_;rintro i fr s hi ⟨rfl,hf⟩;by_cases hlt:i<xs.length
 ·obtain ⟨x,ha,_,hdr,hget,_⟩:=ad6 xs i hlt;have c1:(i:Int)<xs.length:=om
  have c2:(0:Int)<=i:=om
  have w1:=ad1 (i:=i) om;rw[hdr] at hf;by_cases e:n=x
  ·simp only[go_sem,c1,c2,hget,ar6,ap4,aj1,it3,e];subst e;exact cs8 (by rw[hf]; simp[ai2])
  ·simp only[go_sem,c1,c2,hget,ar6,ap4,aj1,it3,e,w1];exact ⟨hlt,by rw[hf]; simp only[ai2,e,decide_false,zv,if_false,qc,qb]⟩
 ·have hi':i=xs.length:=om
  subst hi';have c1:¬ (xs.length:Int)<xs.length:=om
  rw[z2] at hf;simp only[go_sem,c1];exact cs8 (by rw[hf]; rfl)
theorem ge3 (xs:List bd9)(n:bd9)(hn:xs.length<2^62):PC Tryz.prog EE 173 [av7 xs,.agg n.cs] (.bool (decide (n∈xs))):=by
 refine ae6 hE fok173 (nZ rfl) (ah9 (be4 xs) (cg7 n)) ?_;have h:=eq9 xs n hn;have e:=ar4 (fun x=>decide (n=x)) xs;rw[jf3] at e;simp only[ic173,go_sem,ar6,ap4,aj1];refine aa3 fok212 (h) ?_;simp only[go_sem,e];exact ab5 rfl
theorem fc2 (xs:List Job)(hn:xs.length<=2147483648):PC Tryz.prog EE 74 [.aa4 (xs.map Job.cs)] (.aa4 (xs.map Job.cs)):=by
 cases hx:xs with
 | nil=>
  rw[List.map_nil];refine bq1 ?_ ?_
  ·refine ae6 hE fok74 (nZ rfl) (ae5 .aa1) ?_;simp only[ic74,go_sem,aj2];exact .ch6
  ·refine ae6 hE fok74 (nZ rfl) (ae5 .af7) ?_;simp only[ic74,go_sem,aj2];rw[bl8 (by simp only[aa5,if_true]) rfl];simp only[go_sem]
   exact .dm3 _ _ _ (by simp only[aa5,if_true]; exact fun h=>(by cases h))
 | cons a as'=>
  have hne:xs.map Job.cs≠[]:=by rw[hx]; exact fun h=>(by cases h)
  have hall:∀ e∈xs.map Job.cs,e.length=6/\e.all IV.leaf=true:=fun e he=>by
   obtain ⟨x,_,rfl⟩:=qf.1 he;exact ⟨av2 x,ar5 x⟩
  rw[<- hx];refine ae6 hE fok74 (nZ rfl) (ae5 (cg6 xs)) ?_;have hnil:∀ d,cb6 (.slice d) (.aa4 (xs.map Job.cs))=zg false:=fun d=>by rw[hx]; rfl
  simp only[ic74,go_sem,aj2,hnil];rw[cj6 (by simp only[aa5,if_true]) hne hall (by rw[zd]; exact hn)];simp only[go_sem];refine Grow.frz (esz:=6) (es:=xs.map Job.cs) (.inr ⟨1,by rw[zd],by simp only[aa5,if_true],zm _⟩) (fun x hx=>(hall x hx).1) (fun _ _=>zu _) (ao7 (cg6 xs))
theorem er1 (xs:List bd9)(hn:xs.length<=2147483648):PC Tryz.prog EE 75 [.aa4 (xs.map bd9.cs)] (.aa4 (xs.map bd9.cs)):=by
 cases hx:xs with
 | nil=>
  rw[List.map_nil];refine bq1 ?_ ?_
  ·refine ae6 hE fok75 (nZ rfl) (ae5 .aa1) ?_;simp only[ic75,go_sem,aj2];exact .ch6
  ·refine ae6 hE fok75 (nZ rfl) (ae5 .af7) ?_;simp only[ic75,go_sem,aj2];rw[bl8 (by simp only[aa5,if_true]) rfl];simp only[go_sem]
   exact .dm3 _ _ _ (by simp only[aa5,if_true]; exact fun h=>(by cases h))
 | cons a as'=>
  have hne:xs.map bd9.cs≠[]:=by rw[hx]; exact fun h=>(by cases h)
  have hall:∀ e∈xs.map bd9.cs,e.length=2/\e.all IV.leaf=true:=fun e he=>by
   obtain ⟨x,_,rfl⟩:=qf.1 he;exact ⟨ar6 x,aj1 x⟩
  rw[<- hx];refine ae6 hE fok75 (nZ rfl) (ae5 (be4 xs)) ?_;have hnil:∀ d,cb6 (.slice d) (.aa4 (xs.map bd9.cs))=zg false:=fun d=>by rw[hx]; rfl
  simp only[ic75,go_sem,aj2,hnil];rw[cj6 (by simp only[aa5,if_true]) hne hall (by rw[zd]; exact hn)];simp only[go_sem];refine Grow.frz (esz:=2) (es:=xs.map bd9.cs) (.inr ⟨1,by rw[zd],by simp only[aa5,if_true],zm _⟩) (fun x hx=>(hall x hx).1) (fun _ _=>zu _) (ao7 (be4 xs))
end Go.Id.Tryz
namespace Go.Id.Tryz
open Go Go.Id Go.Proofs Go.Shelf Go.Id.Md
structure AOK (a:ab7):Prop where
 len:a.l.length<=256
 small:∀ p∈a.l,Pkg.small p
 fit:∀ p∈a.l,p.Fit
 tiny:∀ p∈a.l,p.Tiny
 inst:a.p.inst<=a.l.length
 ag6:a.r.ag6.length<=64
 ai1:a.r.ai1.length<=128
 jj5:∀ j∈a.r.ag6,Dep.small j.dep
 kg7:∀ j∈a.r.ag6,1<=j.kind/\j.kind<=4
theorem ag1 (a:ab7):Bnd 0 a.v:=.ab9 _ fun c hc=>by
 simp only[ab7.cs,zb,ze,or_false] at hc;rcases hc with rfl|rfl|rfl|rfl|rfl|rfl|rfl|rfl
 ·exact bg2 _
 ·exact as2 _
 ·exact .int _ _
 ·exact .bool _
 ·exact cg6 _
 ·exact be4 _
 ·exact .int _ _
 ·exact au2 _
theorem am5 {d:TypeId}{c:IV}{cs:List IV}:cb6 (.pointer d) (.ab9 (c::cs))=zg false:=rfl
theorem da1 (a:ab7)(n:Int):PC Tryz.prog EE 162 [a.v,.int .i64 n] (.bool (a.is n)):=by
 refine ae6 hE fok162 (nZ rfl) (ah9 (ag1 a) (.int _ _)) ?_;unfold ab7.is ab7.v ab7.cs;have hl:(a.l.map aa2.cs).length=a.l.length:=zd ..;generalize a.l.map aa2.cs=es at *;generalize a.l.length=k at *;by_cases h1:0<=n
 ·by_cases h2:n<(k:Nat)
  ·simp only[ic162,go_sem,am5,h1,h2,hl]; exact ab5 rfl
  ·simp only[ic162,go_sem,am5,h1,h2,hl]; exact ab5 rfl
 ·simp only[ic162,go_sem,am5,h1]; exact ab5 rfl
theorem di5 (a:ab7)(n:Int):PC Tryz.prog EE 138 [a.v,.int .i64 n] (.bool (a.job n)):=by
 refine ae6 hE fok138 (nZ rfl) (ah9 (ag1 a) (.int _ _)) ?_;unfold ab7.job ab7.v ab7.cs;by_cases h1:0<=n
 ·by_cases h2:n<(a.r.ag6.length:Nat)
  ·simp only[ic138,go_sem,am5,h1,h2]; exact ab5 (by simp[h1, *])
  ·simp only[ic138,go_sem,am5,h1,h2]; exact ab5 (by simp[h1, *])
 ·simp only[ic138,go_sem,am5,h1]; exact ab5 rfl
theorem bk6 (a:ab7)(n:Int):PC Tryz.prog EE 129 [a.v,.int .i64 n] (.bool (a.inst n)):=by
 refine ae6 hE fok129 (nZ rfl) (ah9 (ag1 a) (.int _ _)) ?_;have h:=da1 a n;have hp:=ba8 a.p;unfold ab7.inst;unfold ab7.v ab7.cs at *;simp only[ic129,go_sem];refine aa3 fok162 (h) ?_
 cases a.is n with
 | false=>simp only[go_sem]; exact ab5 rfl
 | true=>
  simp only[go_sem]
  first|refine aa3 fok42 (hp) ?_|refine aa7 (hp) ?_
  simp only[go_sem];exact ab5 rfl
theorem dw8 (a:ab7)(n:Int):PC Tryz.prog EE 119 [a.v,.int .i64 n] (.bool (a.fits n)):=by
 refine ae6 hE fok119 (nZ rfl) (ah9 (ag1 a) (.int _ _)) ?_;have h:=da1 a n;have hf:=jd2 a.r.au7 (a.pk n).au7;unfold ab7.fits
 cases hi:a.is n with
 | false=>
  rw[hi] at h;unfold ab7.v ab7.cs at *;simp only[ic119,go_sem];refine aa3 fok162 (h) ?_
  simp only[go_sem]; exact ab5 rfl
 | true=>
  rw[hi] at h;unfold ab7.is at hi;simp only[zj,decide_eq_true_eq] at hi;have hl:(a.l.map aa2.cs).length=a.l.length:=zd ..;have c1:n.toNat<a.l.length:=om
  have hg:(a.l.map aa2.cs).getD n.toNat []=(a.pk n).cs:=by
   unfold ab7.pk;rw[getD_at _ _ c1];simp[za,c1]
  have p4:((a.pk n).cs.drop 4).head? = zg (.int .u8 (a.pk n).au7):=rfl;unfold ab7.v ab7.cs at *;generalize a.pk n=q at *;generalize a.l.map aa2.cs=es at *;have c2:n<(es.length:Nat):=om
  simp only[ic119,go_sem];refine aa3 fok162 (h) ?_;simp only[go_sem,hi.1,c2,hg,p4,af6];refine aa3 fok163 (hf) ?_;simp only[go_sem];exact ab5 rfl
theorem bg4 (a:ab7)(k n:Int)(hA:AOK a):PC Tryz.prog EE 130 [a.v,.int .u8 k,.int .i64 n] (.bool (a.cf1 k n)):=by
 refine ae6 hE fok130 (nZ rfl) (bf1 (ag1 a) (.int _ _) (.int _ _)) ?_;have h:=ge3 a.r.ai1 ⟨k,n⟩ (by have:=hA.ai1; omega);unfold ab7.cf1;unfold ab7.v ab7.cs;unfold bd9.cs at h;simp only[ic130,go_sem];refine aa3 fok173 (h) ?_;simp only[go_sem];exact ab5 rfl
theorem cg8 (a:ab7)(n:Int)(hA:AOK a):PC Tryz.prog EE 123 [a.v,.int .i64 n] (.bool (a.dropped n)):=by
 refine ae6 hE fok123 (nZ rfl) (ah9 (ag1 a) (.int _ _)) ?_;have h:=di5 a n;have h2:=bg4 a 1 n hA;unfold ab7.dropped;simp only[ic123,go_sem];refine aa3 fok138 (h) ?_
 cases a.job n with
 | false=>simp only[go_sem]; exact ab5 rfl
 | true=>
  simp only[go_sem];refine aa3 fok130 (h2) ?_;simp only[go_sem];exact ab5 rfl
theorem ik2 (a:ab7){n:Int}(h:a.is n=true):0<=n/\n<(a.l.map aa2.cs).length/\(a.l.map aa2.cs).getD n.toNat []=(a.pk n).cs/\a.pk n∈a.l:=by
 unfold ab7.is at h;simp only[zj,decide_eq_true_eq] at h;have c1:n.toNat<a.l.length:=om
 refine ⟨h.1,by rw[zd]; exact h.2,?_,?_⟩
 ·unfold ab7.pk;rw[getD_at _ _ c1];simp[za,c1]
 ·unfold ab7.pk;rw[getD_at _ _ c1];exact zf c1
theorem fl7 (p:aa2):(p.cs.drop 1).length=14:=rfl
theorem fc3 (a:ab7)(n m:Int)(hA:AOK a):PC Tryz.prog EE 121 [a.v,.int .i64 n,.int .i64 m] (.bool (a.twins n m)):=by
 refine ae6 hE fok121 (nZ rfl) (bf1 (ag1 a) (.int _ _) (.int _ _)) ?_;have hn:=da1 a n;have hm:=da1 a m;unfold ab7.twins
 cases i1:a.is n with
 | false=>
  rw[i1] at hn;unfold ab7.v ab7.cs at *;simp only[ic121,go_sem];refine aa3 fok162 (hn) ?_
  simp only[go_sem]; exact ab5 rfl
 | true=>
 cases i2:a.is m with
 | false=>
  rw[i1] at hn;rw[i2] at hm;unfold ab7.v ab7.cs at *;simp only[ic121,go_sem];refine aa3 fok162 (hn) ?_;simp only[go_sem];refine aa3 fok162 (hm) ?_
  simp only[go_sem]; exact ab5 rfl
 | true=>
 obtain ⟨n1,n2,n3,n4⟩:=ik2 a i1;obtain ⟨m1,m2,m3,m4⟩:=ik2 a i2;rw[i1] at hn;rw[i2] at hm;have hap:=fj9 (a.pk n).au7 (a.pk m).au7;have hev:=bn2 (a.pk n).evr (a.pk m).evr (hA.small _ n4).1 (hA.small _ m4).1;unfold ab7.ir2;unfold ab7.v ab7.cs at *;generalize a.pk n=p at *;generalize a.pk m=q at *;generalize a.l.map aa2.cs=es at *;by_cases e:n=m
 ·simp only[ic121,go_sem];refine aa3 fok162 (hn) ?_;simp only[go_sem];refine aa3 fok162 (hm) ?_;simp only[go_sem,e]; exact ab5 (by simp)
 have p0:p.cs.head? = zg (.str p.name):=rfl;have q0:q.cs.head? = zg (.str q.name):=rfl;have p4:(p.cs.drop 4).head? = zg (.int .u8 p.au7):=rfl;have q4:(q.cs.drop 4).head? = zg (.int .u8 q.au7):=rfl;have p1:(p.cs.drop 1).take 3=p.evr.cs:=rfl;have q1:(q.cs.drop 1).take 3=q.evr.cs:=rfl;simp only[ic121,go_sem];refine aa3 fok162 (hn) ?_;simp only[go_sem];refine aa3 fok162 (hm) ?_;simp only[go_sem,e,n1,n2,n3,m1,m2,m3,af6,af4,ac9,p0,q0];by_cases e2:p.name=q.name
 ·simp only[go_sem,e2,p4,q4];refine aa3 fok164 (hap) ?_
  cases en3 p.au7 q.au7 with
  | false=>simp only[go_sem]; exact ab5 rfl
  | true=>
   simp only[go_sem,af6,p1,q1,fl7];refine aa3 fok133 (hev) ?_;simp only[go_sem];exact ab5 (by simp)
 ·simp only[go_sem,e2];exact ab5 (by simp)
theorem da2 (j:Job):(j.cs.drop 1).take 5=j.dep.cs:=rfl
theorem di6 (a:ab7)(k n:Int)(hA:AOK a):PC Tryz.prog EE 131 [a.v,.int .u8 k,.int .i64 n] (.bool (a.ca4 k n)):=by
 refine ae6 hE fok131 (nZ rfl) (bf1 (ag1 a) (.int _ _) (.int _ _)) ?_;have hD:∀ i:Nat,i<a.r.ag6.length->PC Tryz.prog EE 123 [a.v,.int .i64 i] (.bool (a.dropped i)):=fun i _=>cg8 a i hA
 have hN:∀ (i:Nat) (h:i<a.r.ag6.length),PC Tryz.prog EE 86 [(ad7 a.l).v,.agg (a.jb i).dep.cs] (.aa4 ((am1 a.l (a.jb i).dep).map Md.ad9)):=fun i h=>
  bn3 a.l (a.jb i).dep (by have:=hA.len; omega) hA.small (hA.jj5 _ (by
   have e:a.jb i=a.r.ag6[i]:=by simp[ab7.jb,za,h]
   rw[e]; exact zf h))
 have hH:∀ i:Nat,PC Tryz.prog EE 73 [.aa4 ((am1 a.l (a.jb i).dep).map Md.ad9),.int .i64 n] (.bool (decide (n∈am1 a.l (a.jb i).dep))):=fun i=>
  cg2 _ n (by have h1:=ae8 (fun p=>named p (a.jb i).dep) a.l; have:=hA.len; have:(am1 a.l (a.jb i).dep).length<=a.l.length:=h1; omega)
 have hg:∀ i:Nat,i<a.r.ag6.length->(a.r.ag6.map Job.cs).getD i []=(a.jb i).cs:=fun i h=>by simp[ab7.jb,za,h]
 have hlen:=hA.ag6;unfold ab7.ca4;unfold ab7.v ab7.cs at *;simp only[ic131,go_sem];generalize a.dropped=dr at *;generalize a.jb=jb at *;generalize am1 a.l=nm at *;refine ab3 noT (fun i fr s=>fr=[(0,.ab9 [a.p.v,(ad7 a.l).v,.int .u8 a.r.au7,.bool a.r.vendor,be1 a.r.ag6,av7 a.r.ai1,.int .i64 a.r.budget,.aa4 (a.l.map aa2.cs)]),(1,.int .u8 k),(2,.int .i64 n),(13,.aa4 (a.r.ag6.map Job.cs)),(14,.int .i64 a.r.ag6.length),(15,.int .i64 (i:Int))]/\((qr i).any fun i=>decide ((jb i).kind=k)&&!dr i&&decide (n∈nm (jb i).dep))=false) a.r.ag6.length ⟨rfl,rfl⟩ ?_;rintro i fr t hi ⟨rfl,hf⟩;by_cases hlt:i<a.r.ag6.length
 ·have c1:(i:Int)<a.r.ag6.length:=om
  have c2:(0:Int)<=i:=om
  have w1:=ad1 (i:=i) om;have hgi:=hg i hlt;have hDi:=hD i hlt;have hNi:=hN i hlt;have hHi:=hH i
  have hex:∀ b,(decide ((jb i).kind=k)&&!dr i&&decide (n∈nm (jb i).dep))=b->(b=true->((qr a.r.ag6.length).any fun i=>decide ((jb i).kind=k)&&!dr i&&decide (n∈nm (jb i).dep))=true)/\(b=false->((qr i++[i]).any fun i=>decide ((jb i).kind=k)&&!dr i&&decide (n∈nm (jb i).dep))=false):=by
   intro b hb;refine ⟨fun h=>List.any_eq_true.2 ⟨i,List.mem_range.2 hlt,by rw[hb]; exact h⟩,fun h=>?_⟩;rw[List.any_append,hf];simp only[List.any_cons,List.any_nil,Bool.or_false,Bool.false_or,hb,h]
  clear hD hN hH hg;have j0:(jb i).cs.head? = zg (.int .u8 (jb i).kind):=rfl;have j1:=da2 (jb i);have j2:((jb i).cs.drop 1).length=5:=rfl;generalize jb i=j at *;simp only[go_sem,c1,c2,hgi,av2,bc5,ar5,j0];by_cases e1:j.kind=k
  ·simp only[go_sem,e1]
   first|refine aa3 fok123 (hDi) ?_|refine aa7 (hDi) ?_
   cases e2:dr (i:Int) with
   | true=>
    simp only[go_sem,w1]
    exact ⟨hlt,(hex _ rfl).2 (by simp[e2])⟩
   | false=>
    simp only[go_sem,j1,j2]
    first|refine aa3 fok86 (hNi) ?_|refine aa7 (hNi) ?_
    simp only[go_sem]
    first|refine aa3 fok73 (hHi) ?_|refine aa7 (hHi) ?_
    by_cases e3:n∈nm j.dep
    ·simp only[go_sem,e3];exact ab5 ((hex _ rfl).1 (by simp[e1,e2,e3])).symm
    ·simp only[go_sem,e3,w1];exact ⟨hlt,(hex _ rfl).2 (by simp[e3])⟩
  ·simp only[go_sem,e1,w1];exact ⟨hlt,(hex _ rfl).2 (by simp[e1])⟩
 ·have hi':i=a.r.ag6.length:=om
  subst hi';have c1:¬ (a.r.ag6.length:Int)<(a.r.ag6.length:Int):=om
  simp only[go_sem,c1];exact ab5 hf.symm
theorem ge4 (a:ab7)(n:Int)(hA:AOK a):PC Tryz.prog EE 122 [a.v,.int .i64 n] (.bool (a.goes n)):=by
 refine ae6 hE fok122 (nZ rfl) (ah9 (ag1 a) (.int _ _)) ?_;have h:=bk6 a n;have h2:=di6 a 2 n hA;have h3:=bg4 a 2 n hA;unfold ab7.goes;simp only[ic122,go_sem];refine aa3 fok129 (h) ?_
 cases a.inst n with
 | false=>simp only[go_sem]; exact ab5 rfl
 | true=>
  simp only[go_sem];refine aa3 fok131 (h2) ?_
  cases a.ca4 2 n with
  | true=>simp only[go_sem]; exact ab5 rfl
  | false=>
   simp only[go_sem];refine aa3 fok130 (h3) ?_;simp only[go_sem];exact ab5 rfl
end Go.Id.Tryz
namespace Go.Id.Tryz
open Go Go.Id Go.Proofs Go.Shelf Go.Id.Md
theorem fc4 {α:Type}(q:α->Bool):∀ (l:List α) (i:Int),ai2 q l i=-1/\(∀ x∈l,q x=false)\/∃ k,∃ h:k<l.length,ai2 q l i=i+k/\q l[k]=true/\∀ x∈l.take k,q x=false:=by
 intro l
 induction l with
 | nil=>intro i; exact .inl ⟨rfl,fun x h=>by cases h⟩
 | cons a l ih=>
  intro i;simp only[ai2]
  cases hq:q a with
  | true=>exact .inr ⟨0,by simp,by simp,by simpa using hq,fun x h=>by cases h⟩
  | false=>
   simp only[zv,if_false];rcases ih (i+1) with ⟨h1,h2⟩|⟨k,h,h1,h2,h3⟩
   ·exact .inl ⟨h1,fun x hx=>by
     rcases zb.1 hx with rfl|hx
     ·exact hq
     ·exact h2 x hx⟩
   ·refine .inr ⟨k+1,by simp only[List.length_cons]; omega,by rw[h1]; omega,by simpa using h2,fun x hx=>?_⟩;rw[List.take_succ_cons] at hx;rcases zb.1 hx with rfl|hx
    ·exact hq
    ·exact h3 x hx
theorem di7 {q:Int->Bool}{l:List Int}(h:∀ x∈l,q x=false):(l.filter fun x=>!q x)=l:=List.filter_eq_self.2 fun x hx=>by rw[h x hx]; rfl
theorem eg2 {σ:Store}{id:Nat}{cs:List IV}{zs:List Int}(ho:σ.obj id=zg (.row cs))(hct:cs.take zs.length=zs.map bo7)(hcl:zs.length<=cs.length):cu4 σ 0 (.slice id 0 zs.length 1) (.aa4 (zs.map Md.ad9)):=by
 refine .slice id 0 zs.length 1 cs (zs.map Md.ad9) (zu _) (.inr ho) (by rw[zd]) om (fun i hi=>?_) fun i hi j hj=>?_
 ·simp[za,hi,Md.ad9]
 ·have hj0:j=0:=om
  subst hj0;have e2:((zs.map Md.ad9).getD i []).getD 0 .undef=bo7 zs[i]:=by simp[za,hi,Md.ad9]
  rw[e2,zr,zw,ql,eb3 hct hi];exact .keep _ (.int _ _)
theorem he4 {σ:Store}{id g:Nat}{cap cs0:List IV}{zs:List Int}(q:Int->Bool)(hz:zs.length<2^40)(ho:σ.obj id=zg (.row cs0))(hct:cs0.take zs.length=zs.map bo7)(hcl:zs.length<=cs0.length)
  (hok:okF Tryz.prog g=true) (hcap:∀ c∈cap,Bnd 0 c) (hq:∀ z∈zs,PC Tryz.prog EE g (.int .i64 z::cap) (.bool (q z))) :
  C Tryz.prog EE 140 [.slice id 0 zs.length 1,.func (.func g) [] cap] σ (fun v s=>σ.next<=s.next/\(∀ i,i≠id->s.obj i=σ.obj i) /\
   ∃ cs,v=.slice id 0 (zs.filter fun x=>!q x).length 1/\s.obj id=zg (.row cs)/\cs.take (zs.filter fun x=>!q x).length=(zs.filter fun x=>!q x).map bo7/\(zs.filter fun x=>!q x).length<=cs.length):=by
 refine C_f fok140 (nZ rfl) ?_;simp only[ic140,go_sem]
 have hI:=cq7 (σ:=σ) (args:=[.slice id 0 zs.length 1,.func (.func g) [] cap]) (args':=[.aa4 (zs.map Md.ad9),.func (.func g) [] cap]) hE rfl (fun i hi=>by
  match i,hi with
  | 0,_=>exact eg2 ho hct hcl
  | 1,_=>exact .keep _ (.func _ _ _ (fun c hc=>by cases hc) hcap)) (by simp[IV.plain]) (di4 zs g [] cap q om hok hq)
 refine ac5 fok187 hI ?_;rintro v s ⟨rfl,rfl⟩;refine ⟨zi _,?_⟩;rcases fc4 q zs 0 with ⟨h1,h2⟩|⟨i0,hi0,h1,h2,h3⟩
 ·simp only[go_sem,h1,di7 h2];exact ⟨zi _,fun _ _=>trivial,cs0,ho,hct,hcl⟩
 have h1':ai2 q zs 0=(i0:Int):=by rw[h1]; omega
 have d1:¬ (i0:Int)=-1:=om
 have w0:=ad1 (i:=i0) om;simp only[go_sem,h1',d1,w0]
 refine ab3 noT (fun j fr t=>∃ (k:Nat) (cs:List IV),fr=[(0,.slice id 0 zs.length 1),(1,.func (.func g) [] cap),(5,.int .i64 (k:Int)),(6,.int .i64 ((i0+1+j:Nat):Int))] /\
  (s.next<=t.next/\∀ q,q≠id->t.obj q=s.obj q)/\t.obj id=zg (.row cs)/\cs.length=cs0.length/\k<=i0+j/\i0+1+j<=zs.length/\k=((zs.take (i0+1+j)).filter fun x=>!q x).length/\cs.take k=((zs.take (i0+1+j)).filter fun x=>!q x).map bo7 /\
  ∀ (x:Nat) (h:x<zs.length),i0+j<x->(cs.drop x).head? = zg (.int .i64 zs[x])) (zs.length-(i0+1)) ?_ ?_
 ·have e:((zs.take (i0+1)).filter fun x=>!q x)=zs.take i0:=by
   rw[z1,zk hi0,zz,di7 h3];simp[h2]
  refine ⟨i0,cs0,rfl,⟨zi _,fun _ _=>rfl⟩,ho,rfl,om,om,?_,?_,fun x h _=>?_⟩
  ·rw[ql,e,zh]; omega
  ·rw[ql,e,List.map_take,<- hct,List.take_take];congr 1; omega
  ·have:=eb3 hct h;rw[List.head?_drop];rw[za,zk om] at this;rw[zk om];exact congrArg zg this
 rintro j fr t hj ⟨k,cs,rfl,⟨un,uo⟩,hoc,hcl2,hk1,hk2,hk3,hk4,hcs⟩;by_cases hlt:j<zs.length-(i0+1)
 ·have e1:((i0+1+j:Nat):Int)<zs.length:=om
  have e2:(0:Int)<=((i0+1+j:Nat):Int):=om
  have hx:i0+1+j<zs.length:=om
  have g1:=hcs (i0+1+j) hx om;have w1:=ad1 (i:=i0+1+j) om;have w2:=ad1 (i:=k) om;have hqz:=hq _ (zf hx);have e3:(0:Int)<=(k:Int):=om
  have e4:(k:Int)<zs.length:=om
  have e5:k+1<=cs.length:=om
  have htk:(zs.take (i0+1+j+1)).filter (fun x=>!q x)=(zs.take (i0+1+j)).filter (fun x=>!q x)++if q zs[i0+1+j] then [] else [zs[i0+1+j]]:=by
   rw[z1,zk hx,zz];congr 1;simp only[qk,List.filter_cons,List.filter_nil];cases q zs[i0+1+j]<;>rfl
  simp only[go_sem,e1,e2,hoc,g1,zc,zr,zw];refine an2 hok (em3 hqz) ?_;rintro v u ⟨rfl,rfl⟩;refine ⟨zi _,?_⟩
  cases hb:q zs[i0+1+j] with
  | true=>
   rw[hb,if_pos rfl,z8] at htk;simp only[go_sem,w1]
   exact ⟨hlt,k,cs,rfl,⟨un,uo⟩,hoc,hcl2,om,om,by rw[show i0+1+(j+1)=i0+1+j+1 by omega,htk]; exact hk3,by rw[show i0+1+(j+1)=i0+1+j+1 by omega,htk]; exact hk4,fun x h hx=>hcs x h om⟩
  | false=>
   rw[hb,if_neg (by simp)] at htk;simp only[go_sem,w1,w2,e3,e4,e5,hoc,zc,zr,zw];refine ⟨hlt,k+1,bb3 cs k [.int .i64 zs[i0+1+j]],rfl,⟨un,fun q hq=>?_⟩,?_,?_,om,om,?_,?_,fun x h hx=>?_⟩
   ·simp only[if_neg hq]; exact uo q hq
   ·rfl
   ·rw[ah4 (by rw[zq]; omega)]; exact hcl2
   ·rw[show i0+1+(j+1)=i0+1+j+1 by omega,htk,zn,<- hk3]; rfl
   ·rw[show i0+1+(j+1)=i0+1+j+1 by omega,htk,dw6 om,hk4,zx]; rfl
   ·rw[dw7 om om];exact hcs x h om
 ·have hj':i0+1+j=zs.length:=om
  have e1:¬ ((i0+1+j:Nat):Int)<zs.length:=om
  rw[hj',zo] at hk3 hk4;have hkn:k<zs.length:=om
  simp only[go_sem,e1,hb8 (show k<=zs.length by omega),it2 (show k<=zs.length by omega),hoc,jv2,hb9 hoc hkn om];have hrl:(rep [IV.int .i64 0] (zs.length-k)).length=zs.length-k:=by rw[aq9]; simp
  refine ⟨un,fun q hq=>?_,bb3 cs k (rep [IV.int .i64 0] (zs.length-k)),by rw[hk3],by simp only[aa5,if_true],?_,?_⟩
  ·simp only[aa5,if_neg hq]; exact uo q hq
  ·rw[<- hk3,eq8 om]; exact hk4
  ·rw[ah4 (by rw[hrl]; omega),<- hk3]; omega
theorem fc5 (a:ab7)(down other:Bool)(old q:aa2)(h1:Pkg.small old)(h2:Pkg.small q):PC Tryz.prog EE 132 [.agg q.cs,.ab9 old.cs,.ab9 [.bool down],.ab9 [.bool other],.ab9 [a.v]] (.bool (ab7.en4 a.r.vendor down other old q)):=by
 refine ae6 hE fok132 (nZ rfl) (jp7 (ao6 _) (.ab9 _ (av1 _)) (.ab9 _ (ah3 (.bool _))) (.ab9 _ (ah3 (.bool _))) (.ab9 _ (ah3 (ag1 a)))) ?_;have hf:=gc5 q.au7 old.au7;have hev:=bn2 q.evr old.evr h2.1 h1.1;have p0:q.cs.head? = zg (.str q.name):=rfl;have q0:old.cs.head? = zg (.str old.name):=rfl;have p4:(q.cs.drop 4).head? = zg (.int .u8 q.au7):=rfl;have q4:(old.cs.drop 4).head? = zg (.int .u8 old.au7):=rfl;have p5:(q.cs.drop 5).head? = zg (.str q.vendor):=rfl;have q5:(old.cs.drop 5).head? = zg (.str old.vendor):=rfl;have p1:(q.cs.drop 1).take 3=q.evr.cs:=rfl;have q1:(old.cs.drop 1).take 3=old.evr.cs:=rfl;unfold ab7.en4;unfold ab7.v ab7.cs;by_cases e1:q.name=old.name
 case neg=>
  simp only[ic132,go_sem,af6,af4,ac9,p0,q0,e1];exact ab5 (by simp)
 simp only[ic132,go_sem,af6,af4,ac9,p0,q0,e1];cases down
 case' true=>simp only[go_sem]
 case' false=>
  simp only[go_sem,fl7,p1,q1];refine aa3 fok133 (hev) ?_;by_cases e2:0<=aw5 q.evr old.evr
  case neg=>
   simp only[go_sem,e2];exact ab5 (by simp)
  simp only[go_sem,e2]
 all_goals
  cases other
  case' true=>simp only[go_sem]
  case' false=>
   simp only[go_sem,p4,q4];refine aa3 fok134 (hf) ?_;cases cy8 q.au7 old.au7
   case false=>
    simp only[go_sem];exact ab5 (by simp)
   simp only[go_sem]
  all_goals
   cases a.r.vendor
   case true=>
    simp only[go_sem];exact ab5 (by simp)
   by_cases e3:q.vendor=old.vendor
   ·simp only[go_sem,p5,q5,e3];exact ab5 (by simp)
   ·simp only[go_sem,p5,q5,e3];exact ab5 (by simp)
theorem di8 (l:List aa2)(n:Nat)(hl:l.length<2^20)(hn:n<l.length)(hs:∀ p∈l,Pkg.small p)(σ:Store):C Tryz.prog EE 135 [(ad7 l).v,.int .i64 n] σ (bo8 σ (al8 l n)):=by
 have hi:=bg9 l;have hlook:=hi.over (l.getD n default).name
 have hsift:∀ (σ:Store) v,(v=.aa4 ((ad3 (ad7 l).over (l.getD n default).name).map Md.ad9)\/v=.aa1/\ad3 (ad7 l).over (l.getD n default).name=[])->C Tryz.prog EE 126 [(ad7 l).v,v,.func (.func 181) [] [.ab9 [.int .i64 n],.ab9 [(ad7 l).v]]] σ (bo8 σ (al8 l n)):=by
  intro σ v hv
  have h:=hc9 (ad7 l) (ad3 (ad7 l).over (l.getD n default).name) (by rw[hlook]; have:=ae8 (fun p=>decide (∃ d∈p.aa8,d.name=(l.getD n default).name)) l; omega) 181 [.ab9 [.int .i64 n],.ab9 [(ad7 l).v]] (fun k=>decide (k.toNat≠n)&&aa8 (l.getD k.toNat default) (l.getD n default)) fok181.1 (fun k hk=>by
   rw[hlook] at hk;obtain ⟨m,rfl,hm⟩:=numsOf_at hk;refine ⟨m,rfl,by rw[hi.all]; exact hm,?_⟩;have e:(ad7 l).all[m]'(by rw[hi.all]; exact hm)=l[m]:=by simp only[hi.all]
   rw[e,zc,getD_at l m hm,getD_at l n hn];exact hb7 l m n hm hn hs) σ
  have e:al8 l n=(ad3 (ad7 l).over (l.getD n default).name).filter fun k=>decide (k.toNat≠n)&&aa8 (l.getD k.toNat default) (l.getD n default):=rfl
  rw[<- e] at h;rcases hv with rfl|⟨rfl,h0⟩
  ·exact h
  ·rw[h0] at h;refine fl5 (args':=[(ad7 l).v,.aa4 [],.func (.func 181) [] [.ab9 [.int .i64 n],.ab9 [(ad7 l).v]]]) rfl (fun i hi=>?_) h;have hw:∀ {v:IV} {σ:Store},Bnd 0 v->Frz σ (fun _=>true=true) v v:=fun h=>.keep _ (h.weak fun _ _=>rfl)
   have hb:=as2 (ad7 l)
   match i,hi with
   | 0,_=>exact hw hb
   | 1,_=>exact .ch6
   | 2,_=>exact hw (.func _ _ _ (fun c hc=>by cases hc) (ah9 (.ab9 _ (ah3 (.int _ _))) (.ab9 _ (ah3 hb))))
 have hx:(ad7 l).v=.ab9 [.aa4 (l.map aa2.cs),.ak9 (nmV (ad7 l).au1),.ak9 (nmV (ad7 l).names),.ak9 (nmV (ad7 l).over)]:=by
  show IV.ab9 [.aa4 ((ad7 l).all.map aa2.cs),_,_,_]=_;rw[hi.all]
 have his:=jf1 (ad7 l) n
 have i1:(decide ((0:Int)<=(n:Int))&&decide ((n:Int)<(ad7 l).all.length))=true:=by
  rw[hi.all]; simp only[zj,decide_eq_true_eq]; omega
 rw[i1] at his
 have hk0:∀ σ:Store,∃ v,cc3 σ 2 .aa1 false (.ak9 (nmV (ad7 l).over)) (.str (l.getD n default).name)=zg v/\∀ τ,C Tryz.prog EE 126 [(ad7 l).v,v,.func (.func 181) [] [.ab9 [.int .i64 n],.ab9 [(ad7 l).v]]] τ (bo8 τ (al8 l n)):=fun σ=>
  let ⟨v,h1,h2⟩:=eq7 (ad7 l).over σ (l.getD n default).name
  ⟨v,h1,fun τ=>hsift τ v h2⟩
 have hg:(l.map aa2.cs).getD n []=l[n].cs:=by simp[za,hn]
 have hnm:(l.getD n default).name=l[n].name:=by rw[getD_at l n hn]
 have p0:l[n].cs.head? = zg (.str l[n].name):=rfl;have hle:(l.map aa2.cs).length=l.length:=zd ..;clear hsift hlook i1;rw[hnm] at hk0;rw[hx] at hk0 his ⊢;generalize al8 l n=res at *;generalize l.map aa2.cs=a0 at *;generalize l[n]=q at *;have c1:(0:Int)<=n:=om
 have c2:(n:Int)<a0.length:=om
 refine C_f fok135 (nZ rfl) ?_;simp only[ic135,go_sem];refine aa3 fok180 (his) ?_;simp only[go_sem,c1,c2,hg,p0,bc4,ax4,at1];obtain ⟨v,hk,hsv⟩:=hk0 ⟨σ.next+17,σ.obj⟩;simp only[go_sem,hk];refine ac5 fok126 (hsv _) ?_;rintro v' s ⟨hkp,hr⟩;refine ⟨hkp.next,?_⟩;simp only[go_sem];exact ⟨hkp.low,hr.low (zp _ _)⟩
end Go.Id.Tryz
namespace Go.Id.Tryz
open Go Go.Id Go.Proofs Go.Shelf Go.Id.Md
theorem eg3 {σ:Store}{id:Nat}{cs:List IV}(ho:σ.obj id=zg (.cells cs))(hb:∀ c∈cs,Bnd 0 c):cu4 σ 0 (.ptr id 0) (.ab9 cs):=by
 refine .ptr id 0 cs cs (zu _) (.inl ho) om (fun j hj=>?_);rw[zr];exact .keep _ (hb _ (ad2 _ hj))
theorem jv5 (zs:List Int):(jf2 zs).Pairwise (·<=·):=by
 refine List.Pairwise.imp (fun h=>of_decide_eq_true h) (List.pairwise_mergeSort (le:=fun x y:Int=>decide (x<=y)) (fun a b c h1 h2=>?_) (fun a b=>?_) _)
 ·exact decide_eq_true (Int.le_trans (of_decide_eq_true h1) (of_decide_eq_true h2))
 ·rcases Int.le_total a b with h|h
  ·simp[h]
  ·simp[h]
theorem dw9 (a:ab7)(i:Int)(hA:AOK a)(σ:Store):C Tryz.prog EE 88 [a.v,.int .i64 i] σ (jy9 σ (a.ao9 i)):=by
 have hin:=bk6 a i;refine C_f fok88 (nZ rfl) ?_;unfold ab7.ao9
 cases hi:a.inst i with
 | false=>
  rw[hi] at hin;unfold ab7.v ab7.cs at *;simp only[ic88,go_sem];refine aa3 fok129 (hin) ?_;simp only[go_sem]
  exact ⟨Kept.refl σ,.inl ⟨rfl,rfl⟩⟩
 | true=>
 rw[hi] at hin;have his:a.is i=true:=by unfold ab7.inst at hi; exact (zj _ _▸hi).1
 obtain ⟨i1,i2,i3,i4⟩:=ik2 a his;obtain ⟨m,rfl⟩:∃ m:Nat,i=m:=⟨i.toNat,om⟩;have hml:m<a.l.length:=by rw[zd] at i2; omega
 have e3:=bg4 a 3 m hA;have e4:=bg4 a 4 m hA;have n4:=di6 a 4 m hA;have hob:=di8 a.l m (by have:=hA.len; omega) hml hA.small;have hlen:=hA.len
 have hall:∀ n (h:n<a.l.length),(a.l.map aa2.cs).getD n []=(a.pk n).cs/\a.pk (n:Int)∈a.l:=fun n h=>by
  have hn:a.is (n:Int)=true:=by rw[ab7.cf2]; exact decide_eq_true h
  obtain ⟨_,_,h3,h4⟩:=ik2 a hn;exact ⟨by simpa using h3,h4⟩
 have hfl:∀ down other n (h:n<a.l.length),PC Tryz.prog EE 132 [.agg (a.pk n).cs,.ab9 (a.pk m).cs,.ab9 [.bool down],.ab9 [.bool other],.ab9 [a.v]] (.bool (ab7.en4 a.r.vendor down other (a.pk m) (a.pk n))):=
  fun down other n h=>fc5 a down other _ _ (hA.small _ i4) (hA.small _ (hall n h).2)
 have hba:=ag1 a;unfold ab7.ki9;unfold ab7.v ab7.cs at *;generalize (ad7 a.l).v=X at *;generalize a.p.v=Pv at *;have c0:(0:Int)<=m:=om
 have c2:(m:Int)<a.l.length:=om
 have hgm:=(hall m hml).1;generalize hdn:(a.cf1 3 m||a.ca4 4 m)=down;generalize hot:a.cf1 4 m=other at *;simp only[ic88,go_sem];refine aa3 fok129 (hin) ?_;simp only[go_sem,c0,c2,hgm,af6,af4,ac9];cases h3:a.cf1 3 m
 case' true=>
  rw[h3] at hdn e3;have hd:true=down:=by simpa using hdn
  refine aa3 fok130 (e3) ?_;simp only[go_sem]
 case' false=>
  rw[h3] at hdn e3;have hd:a.ca4 4 m=down:=by simpa using hdn
  refine aa3 fok130 (e3) ?_;simp only[go_sem];refine aa3 fok131 (n4) ?_;simp only[go_sem]
 all_goals
  refine aa3 fok130 (e4) ?_;simp only[go_sem];refine ac5 fok135 (hob _) ?_;rintro v s ⟨hk0,hr0⟩;refine ⟨hk0.next,?_⟩;simp only[go_sem];have g1:¬ σ.next=σ.next+1+1:=om
  have g2:¬ σ.next=σ.next+1:=om
  have g3:¬ σ.next+1=σ.next+1+1:=om
  have b5:s.obj σ.next=zg (.cells (a.pk m).cs):=(hk0.obj σ.next (by show σ.next<σ.next+_; omega)).trans (by simp only[aa5,g1,g2,if_true,if_false]);have b6:s.obj (σ.next+1)=zg (.cells [.bool down]):=(hk0.obj (σ.next+1) (by show σ.next+1<σ.next+_; omega)).trans (by simp only[aa5,g3,if_true,if_false,hd]);have b7:s.obj (σ.next+1+1)=zg (.cells [.bool other]):=(hk0.obj (σ.next+1+1) (by show σ.next+1+1<σ.next+_; omega)).trans (by simp only[aa5,if_true])
  have blo:∀ i,i<σ.next->s.obj i=σ.obj i:=fun i hi=>(hk0.obj i (by show i<σ.next+_; omega)).trans (by
   have u1:¬ i=σ.next:=om
   have u2:¬ i=σ.next+1:=om
   have u3:¬ i=σ.next+1+1:=om
   simp only[aa5,u1,u2,u3,if_false])
  have bnx:σ.next+1+1+1<=s.next:=qi (by show σ.next+1+1+1<=σ.next+_; omega) hk0.next;have hr1:al2 s (σ.next+1+1+1) v (al8 a.l m):=hr0.low (by show σ.next+1+1+1<=σ.next+_; omega);clear hk0 hr0 hob e3 e4 n4 hin;generalize hq:(fun n:Nat=>decide ((n:Int)=m)||ab7.en4 a.r.vendor down other (a.pk m) (a.pk n))=qq;have hqn:∀ n,qq n=(decide ((n:Int)=m)||ab7.en4 a.r.vendor down other (a.pk m) (a.pk n)):=fun n=>by rw[<- hq]
  have hobl:=di2 a.l m;have obm:=fun k=>di1 (l:=a.l) (n:=m) (k:=k)
  generalize al8 a.l m=ob at *
  refine ab3 noT (fun n fr t=>∃ gv,fr=[(1,.int .i64 (m:Int)),(8,.func (.func 132) [] [.ptr σ.next 0,.ptr (σ.next+1) 0,.ptr (σ.next+1+1) 0,.ab9 [.ab9 [Pv,X,.int .u8 a.r.au7,.bool a.r.vendor,be1 a.r.ag6,av7 a.r.ai1,.int .i64 a.r.budget,.aa4 (a.l.map aa2.cs)]]]),(9,gv),(44,.aa4 (a.l.map aa2.cs)),(45,.int .i64 a.l.length),(46,.int .i64 (n:Int))] /\
   Kept ⟨σ.next+1+1+1,s.obj⟩ t/\al2 t (σ.next+1+1+1) gv (ob++ba7 qq n)) a.l.length ⟨v,rfl,⟨bnx,fun _ _=>rfl⟩,by rw[show ba7 qq 0=[] from rfl,z8]; exact hr1⟩ ?_
  rintro n fr t hn ⟨gv,rfl,hk,hg⟩;by_cases hlt:n<a.l.length
  ·have d1:(n:Int)<a.l.length:=om
   have d2:(0:Int)<=n:=om
   have w1:=ad1 (i:=n) om;have hgn:=(hall n hlt).1;have hpn:=hfl down other n hlt;have hsn:=cr2 qq n;have hln:=aw6 qq n;have hzl:(ob++ba7 qq n).length<2147483648:=by rw[zn]; omega
   have n5:¬ σ.next=t.next:=by have:=hk.next; show ¬ _; intro e; have:σ.next+1+1+1<=t.next:=this; omega
   have n6:¬ σ.next+1=t.next:=by have:=hk.next; intro e; have:σ.next+1+1+1<=t.next:=this; omega
   have n7:¬ σ.next+1+1=t.next:=by have:=hk.next; intro e; have:σ.next+1+1+1<=t.next:=this; omega
   have t5:=(hk.obj σ.next (by show σ.next<σ.next+1+1+1; omega)).trans b5;have t6:=(hk.obj (σ.next+1) (by show σ.next+1<σ.next+1+1+1; omega)).trans b6;have t7:=(hk.obj (σ.next+1+1) (by show σ.next+1+1<σ.next+1+1+1; omega)).trans b7;by_cases e:(n:Int)=m
   case' pos=>
    have hqt:qq n=true:=by rw[hqn,e]; simp
    have e':n=m:=om
    subst e';simp only[go_sem,d1,d2,hgn,af6,af4,ac9,eq_self]
   case' neg=>
    simp only[go_sem,d1,d2,hgn,af6,af4,ac9,e]
    refine an2 fok132.1 (cq7 (args':=[.agg (a.pk n).cs,.ab9 (a.pk m).cs,.ab9 [.bool down],.ab9 [.bool other],.ab9 [.ab9 [Pv,X,.int .u8 a.r.au7,.bool a.r.vendor,be1 a.r.ag6,av7 a.r.ai1,.int .i64 a.r.budget,.aa4 (a.l.map aa2.cs)]]]) hE rfl (fun i hi=>by
     match i,hi with
     | 0,_=>exact .keep _ (ao6 _)
     | 1,_=>exact eg3 (by simp only[aa5,n5,if_false]; exact t5) (av1 _)
     | 2,_=>exact eg3 (by simp only[aa5,n6,if_false]; exact t6) (ah3 (.bool _))
     | 3,_=>exact eg3 (by simp only[aa5,n7,if_false]; exact t7) (ah3 (.bool _))
     | 4,_=>exact .keep _ (.ab9 _ (ah3 hba))) (by simp[IV.plain]) hpn) ?_
    rintro v' u ⟨rfl,rfl⟩;refine ⟨zi _,?_⟩;cases hfb:ab7.en4 a.r.vendor down other (a.pk m) (a.pk n)
    case' false=>
     have hqt:qq n=false:=by rw[hqn,hfb]; simp[e]
     rw[hqt] at hsn;simp only[go_sem,w1];rw[if_neg (by simp),z8] at hsn;exact ⟨hlt,gv,rfl,hk.trans (Kept.box t _ _),by rw[hsn]; exact hg.kept (Kept.box t _ _)⟩
    have hqt:qq n=true:=by rw[hqn,hfb]; simp
    simp only[go_sem]
   all_goals
    rw[hqt,if_pos rfl] at hsn;rw[bd5 (s:=⟨t.next+1+1,_⟩) (lo:=σ.next+1+1+1) (zs:=ob++ba7 qq n) ((hg.kept (Kept.box t _ _)).up 1) (n:Int) hzl];simp only[go_sem,w1];have hz:=bf4 (hk.trans (Kept.box t (.cells [.str [],.int .i64 0,.str [],.str [],.int .u8 0,.str [],.aa1,.aa1,.aa1,.aa1,.aa1,.aa1,.aa1,.aa1,.aa1]) (.cells (a.pk n).cs))) (hg.kept (Kept.box t _ _)) (n:Int) (a:=1) (nid:=t.next+1) (zi _) (zm _) rfl;rw[hsn,<- qu];exact ⟨hlt,_,rfl,hz.1,hz.2⟩
  ·have hn':n=a.l.length:=om
   subst hn';have d1:¬ (a.l.length:Int)<(a.l.length:Int):=om
   simp only[go_sem,d1];have hln:=aw6 qq a.l.length;have hzl:(ob++ba7 qq a.l.length).length<2^20:=by rw[zn]; omega
   have hmm:(m:Int)∈ob++ba7 qq a.l.length:=qm _ (bq9.2 ⟨m,rfl,hml,by rw[hqn]; simp⟩)
   have hfin:∀ D:List Int,D.Pairwise (· < ·)->(∀ x,x∈D↔x∈ob++ba7 qq a.l.length)->D=ba7 (fun n=>decide ((n:Int)=m)||ab7.en4 a.r.vendor down other (a.pk m) (a.pk n)||(!decide ((n:Int)=m)&&aa8 (a.pk n) (a.pk m))) a.l.length:=fun D h1 h2=>hc7 h1 (ib5 _ _) fun x=>by
    rw[h2,qj,obm,bq9,bq9];constructor
    ·rintro (⟨u,rfl,h3,h4,h5⟩|⟨u,rfl,h3,h4⟩)
     ·refine ⟨u,rfl,h3,?_⟩;have h6:¬ (u:Int)=m:=om
      simp only[ab7.pk,zc,h5,h6,decide_false,Bool.not_false,Bool.and_self,Bool.or_true]
     ·rw[hqn] at h4;exact ⟨u,rfl,h3,by rw[h4,Bool.true_or]⟩
    ·rintro ⟨u,rfl,h3,h4⟩;rw[Bool.or_eq_true] at h4;rcases h4 with h4|h4
     ·exact .inr ⟨u,rfl,h3,by rw[hqn]; exact h4⟩
     ·simp only[zj,Bool.not_eq_true',decide_eq_false_iff_not,ab7.pk,zc] at h4;exact .inl ⟨u,rfl,h3,om,h4.2⟩
   generalize ob++ba7 qq a.l.length=zs at *;rcases hg with ⟨_,h0⟩|⟨id,hid1,hid2,rfl,ho⟩
   ·rw[h0] at hmm; cases hmm
   refine ac5 fok136 (gd9 (zs:=zs) om ho) ?_;rintro v s' ⟨rfl,rfl⟩;refine ⟨by show t.next<=_; exact zi _,?_⟩;simp only[go_sem];have hsl:(jf2 zs).length=zs.length:=qn _;have hc:=hc5 (σ:=t.put id (.row ((jf2 zs).map (IV.int .i64)))) (id:=id) (zs:=jf2 zs) om (by simp only[aa5,if_true]) (jv5 zs);rw[hsl] at hc;refine ac5 fok137 hc ?_;rintro v s' ⟨⟨D,cs,q1,q2,rfl,q4,q5,q6⟩,hsn,hso⟩;refine ⟨hsn,?_⟩;have hD:=hfin D q1 fun x=>(q2 x).trans List.mem_mergeSort
   simp only[go_sem];have hsn':t.next<=s'.next:=hsn;have hkn:σ.next+1+1+1<=t.next:=hk.next;rw[<- hD];refine ⟨⟨om,fun i hi=>?_⟩,.inr ⟨id,cs,om,om,rfl,q4,q5,q6⟩⟩;have hne:i≠id:=om
   rw[hso i hne];show (if i=id then _ else t.obj i)=_;rw[if_neg hne,hk.obj i (by show i<σ.next+1+1+1; omega)];exact blo i hi
theorem bn4 (a:ab7)(i:Int)(hA:AOK a):PC Tryz.prog EE 88 [a.v,.int .i64 i] (.aa4 ((a.ao9 i).map Md.ad9)):=iq1 fun σ=>dw9 a i hA σ
end Go.Id.Tryz
namespace Go.Id.Tryz
open Go Go.Id Go.Proofs Go.Shelf Go.Id.Md
theorem ik6 {σ:Store}{g:Nat}{cap:List IV}(hok:okF Tryz.prog g=true)(hcap:∀ c∈cap,Bnd 0 c):C Tryz.prog EE 140 [.aa1,.func (.func g) [] cap] σ (jy9 σ []):=by
 refine C_f fok140 (nZ rfl) ?_;simp only[ic140,go_sem]
 have hI:C Tryz.prog EE 187 [.aa1,.func (.func g) [] cap] σ (jo8 (.int .i64 (-1)) σ):=by
  refine fl5 (args':=[.aa4 (([]:List Int).map Md.ad9),.func (.func g) [] cap]) rfl (fun i hi=>?_) (em3 (di4 [] g [] cap (fun _=>true) (by simp) hok (fun z hz=>by cases hz)))
  match i,hi with
  | 0,_=>exact .ch6
  | 1,_=>exact .keep _ ((Nm.func _ _ _ (fun c hc=>by cases hc) hcap:Bnd 0 (.func (.func g) [] cap)).weak fun _ _=>rfl)
 refine ac5 fok187 hI ?_;rintro v s ⟨rfl,rfl⟩;refine ⟨zi _,?_⟩;simp only[go_sem];exact ⟨Kept.refl _,.inl ⟨rfl,rfl⟩⟩
theorem ik7 {σ:Store}{v:IV}{lo g:Nat}{cap:List IV}{zs:List Int}(q:Int->Bool)(hz:zs.length<2^40)(hr:ch8 σ lo v zs)(hok:okF Tryz.prog g=true)(hcap:∀ c∈cap,Bnd 0 c)(hq:∀ z∈zs,PC Tryz.prog EE g (.int .i64 z::cap) (.bool (q z))) :
  C Tryz.prog EE 140 [v,.func (.func g) [] cap] σ (fun v s=>(σ.next<=s.next/\∀ i,i<lo->i<σ.next->s.obj i=σ.obj i)/\ch8 s (min lo σ.next) v (zs.filter fun x=>!q x)):=by
 rcases hr with ⟨rfl,rfl⟩|⟨id,cs,h1,h2,rfl,h4,h5,h6⟩
 ·exact (ik6 hok hcap).mono fun v s ⟨h1,h2⟩=>⟨⟨h1.next,fun i _ hi=>h1.obj i hi⟩,h2.low (Nat.min_le_right _ _)⟩
 ·refine (he4 q hz h4 h5 h6 hok hcap hq).mono fun v s ⟨k1,k2,cs',k3,k4,k5,k6⟩=>⟨⟨k1,fun i hi _=>k2 i om⟩,.inr ⟨id,cs',om,om,k3,k4,k5,k6⟩⟩
theorem ik8 (a:ab7)(n:Int):PC Tryz.prog EE 142 [.int .i64 n,.ab9 [a.v]] (.bool (a.inst n || !a.fits n)):=by
 refine ae6 hE fok142 (nZ rfl) (ah9 (.int _ _) (.ab9 _ (ah3 (ag1 a)))) ?_;have h1:=bk6 a n;have h2:=dw8 a n;simp only[ic142,go_sem];refine aa3 fok129 (h1) ?_
 cases a.inst n with
 | true=>simp only[go_sem]; exact ab5 rfl
 | false=>
  simp only[go_sem];refine aa3 fok119 (h2) ?_;simp only[go_sem];exact ab5 rfl
theorem he8 (a:ab7)(n:Int):PC Tryz.prog EE 141 [.int .i64 n,.ab9 [a.v]] (.bool (!a.inst n)):=by
 refine ae6 hE fok141 (nZ rfl) (ah9 (.int _ _) (.ab9 _ (ah3 (ag1 a)))) ?_;have h1:=bk6 a n;simp only[ic141,go_sem];refine aa3 fok129 (h1) ?_;simp only[go_sem];exact ab5 rfl
theorem dx2 (a:ab7)(i:Int)(hA:AOK a):PC Tryz.prog EE 91 [a.v,.int .i64 i] (.aa4 ((a.by7 i).map Md.ad9)):=by
 refine ae6 hE fok91 (nZ rfl) (ah9 (ag1 a) (.int _ _)) ?_;have h1:=bk6 a i;have h2:=dw9 a i hA;have hba:=ag1 a;have hcl:=ik8 a;have hsl:=a.az9 i;have hA1:=hA.len;have vcs:a.v.cs=[a.v]:=rfl;have vlf:a.v.leaf=true:=rfl;unfold ab7.by7
 cases hi:a.inst i with
 | false=>
  rw[hi] at h1;have e:a.ao9 i=[]:=by unfold ab7.ao9; rw[hi]; rfl
  rw[e];generalize a.v=V at *;simp only[ic91,go_sem,vcs,qe,vlf,qh,z7];refine aa3 fok129 (h1) ?_;simp only[go_sem]
  exact .ch6
 | true=>
  rw[hi] at h1;generalize a.v=V at *;generalize a.ao9 i=zs at *;simp only[ic91,go_sem,vcs,qe,vlf,qh,z7];refine aa3 fok129 (h1) ?_;simp only[go_sem];refine ac5 fok88 (h2 _) ?_;rintro v s ⟨hk,hr⟩;refine ⟨hk.next,?_⟩;simp only[go_sem];refine ac5 fok140 (ik7 (fun n=>a.inst n || !a.fits n) om hr fok142.1 (ah3 (.ab9 _ (ah3 hba))) fun z hz=>hcl z) ?_;rintro v s ⟨⟨h1,_⟩,hr⟩;refine ⟨h1,?_⟩;simp only[go_sem];exact hr.frz fun i _=>zu i
theorem ge8 (l:List aa2)(d:Dep)(hl:l.length<2^20)(hs:∀ p∈l,Pkg.small p)(hd:Dep.small d)(σ:Store):C Tryz.prog EE 86 [(ad7 l).v,.agg d.cs] σ (bo8 σ (am1 l d)):=by
 have hi:=bg9 l;have hlook:=hi.names d.name
 have hsift:∀ (σ:Store) v,(v=.aa4 ((ad3 (ad7 l).names d.name).map Md.ad9)\/v=.aa1/\ad3 (ad7 l).names d.name=[])->C Tryz.prog EE 126 [(ad7 l).v,v,.func (.func 127) [] [.ab9 d.cs]] σ (bo8 σ (am1 l d)):=by
  intro σ v hv
  have h:=hc9 (ad7 l) (ad3 (ad7 l).names d.name) (by rw[hlook]; have:=ae8 (fun p=>decide (p.name=d.name)) l; omega) 127 [.ab9 d.cs] (fun n=>named (l.getD n.toNat default) d) fok127.1 (fun n hn=>by
   rw[hlook] at hn;obtain ⟨m,rfl,hm⟩:=numsOf_at hn;refine ⟨m,rfl,by rw[hi.all]; exact hm,?_⟩;have e:(ad7 l).all[m]'(by rw[hi.all]; exact hm)=l[m]:=by simp only[hi.all]
   rw[e,zc,getD_at l m hm];exact dh9 l[m] m d (hs _ (zf hm)) hd) σ
  rw[fg9] at h;rcases hv with rfl|⟨rfl,h0⟩
  ·exact h
  ·rw[h0] at h;refine fl5 (args':=[(ad7 l).v,.aa4 [],.func (.func 127) [] [.ab9 d.cs]]) rfl (fun i hi=>?_) h;have hw:∀ {v:IV} {σ:Store},Bnd 0 v->Frz σ (fun _=>true=true) v v:=fun h=>.keep _ (h.weak fun _ _=>rfl)
   match i,hi with
   | 0,_=>exact hw (as2 (ad7 l))
   | 1,_=>exact .ch6
   | 2,_=>exact hw (.func _ _ _ (fun c hc=>by cases hc) (ae5 (bc3 d)))
 have hx:(ad7 l).v=.ab9 [.aa4 ((ad7 l).all.map aa2.cs),.ak9 (nmV (ad7 l).au1),.ak9 (nmV (ad7 l).names),.ak9 (nmV (ad7 l).over)]:=rfl;have d0:d.cs.head? = zg (.str d.name):=rfl
 have hk0:∀ σ:Store,∃ v,cc3 σ 2 .aa1 false (.ak9 (nmV (ad7 l).names)) (.str d.name)=zg v/\∀ τ,C Tryz.prog EE 126 [(ad7 l).v,v,.func (.func 127) [] [.ab9 d.cs]] τ (bo8 τ (am1 l d)):=fun σ=>
  let ⟨v,h1,h2⟩:=eq7 (ad7 l).names σ d.name
  ⟨v,h1,fun τ=>hsift τ v h2⟩
 clear hsift hlook;rw[hx] at hk0 ⊢;generalize (ad7 l).all.map aa2.cs=a0 at *;refine C_f fok86 (nZ rfl) ?_;simp only[ic86,go_sem,ap8,am9,al9,d0];obtain ⟨v,hk,hsv⟩:=hk0 ⟨σ.next+11,σ.obj⟩;simp only[go_sem,hk];refine ac5 fok126 (hsv _) ?_;rintro v' s ⟨hkp,hr⟩;refine ⟨hkp.next,?_⟩;simp only[go_sem];exact ⟨hkp.low,hr.low (zp _ _)⟩
theorem jv9 (a:ab7){n:Int}(h:a.job n=true):0<=n/\n<a.r.ag6.length/\(a.r.ag6.map Job.cs).getD n.toNat []=(a.jb n).cs/\a.jb n∈a.r.ag6:=by
 unfold ab7.job at h;simp only[zj,decide_eq_true_eq] at h;have c1:n.toNat<a.r.ag6.length:=om
 have e:a.jb n=a.r.ag6[n.toNat]:=by simp[ab7.jb,za,c1]
 exact ⟨h.1,h.2,by rw[e]; simp[za,c1],by rw[e]; exact zf c1⟩
theorem ay7 (a:ab7)(j:Int)(hA:AOK a):PC Tryz.prog EE 90 [a.v,.int .i64 j] (.aa4 ((a.meant j).map Md.ad9)):=by
 refine ae6 hE fok90 (nZ rfl) (ah9 (ag1 a) (.int _ _)) ?_;have h1:=di5 a j;have hba:=ag1 a;have hcl:=he8 a;have hlen:=hA.len;unfold ab7.meant
 cases hj:a.job j with
 | false=>
  rw[hj] at h1;unfold ab7.v ab7.cs at *;simp only[ic90,go_sem];refine aa3 fok138 (h1) ?_;simp only[go_sem]
  exact .ch6
 | true=>
  rw[hj] at h1;obtain ⟨j1,j2,j3,j4⟩:=jv9 a hj;have hds:=hA.jj5 _ j4;have hP:=bs3 a.l (a.jb j).dep om hA.small hds;have hN:=bn3 a.l (a.jb j).dep om hA.small hds;have hNc:=ge8 a.l (a.jb j).dep om hA.small hds;have b1:=ag8 (ae9 a.l (a.jb j).dep);have b2:=ag8 (am1 a.l (a.jb j).dep);have nl:(am1 a.l (a.jb j).dep).length<=a.l.length:=ae8 _ _;have k0:(a.jb j).cs.head? = zg (.int .u8 (a.jb j).kind):=rfl;have k1:=da2 (a.jb j);have k2:((a.jb j).cs.drop 1).length=5:=rfl;generalize a.jb j=x at *;generalize am1 a.l x.dep=nm at *;generalize ae9 a.l x.dep=pv at *;unfold ab7.v ab7.cs at *;generalize (ad7 a.l).v=X at *;have c21:¬ (2:Int)=1:=by decide
  by_cases e1:x.kind=1
  ·rw[if_pos rfl,if_pos e1];simp only[ic90,go_sem];refine aa3 fok138 (h1) ?_;simp only[go_sem,j1,j2,j3,av2,bc5,ar5,k0,k1,k2,e1]
   first|refine aa3 fok139 (hP) ?_|refine aa7 (hP) ?_
   simp only[go_sem];exact .keep _ b1
  by_cases e2:x.kind=2
  ·rw[if_pos rfl,if_neg e1,if_pos e2];simp only[ic90,go_sem];refine aa3 fok138 (h1) ?_;simp only[go_sem,j1,j2,j3,av2,bc5,ar5,k0,k1,k2,e2,c21]
   first|refine aa3 fok86 (hN) ?_|refine aa7 (hN) ?_
   simp only[go_sem,k0,e2];exact .keep _ b2
  ·rw[if_pos rfl,if_neg e1,if_neg e2];simp only[ic90,go_sem];refine aa3 fok138 (h1) ?_;simp only[go_sem,j1,j2,j3,av2,bc5,ar5,k0,k1,k2,e1];refine ac5 fok86 (hNc _) ?_;rintro v s ⟨hk,hr⟩;refine ⟨hk.next,?_⟩;have o0:s.obj 0=zg (.cells x.cs):=(hk.obj 0 (Nat.succ_pos _)).trans (by simp only[aa5,if_true]);simp only[go_sem,o0,k0,e2];refine ac5 fok140 (ik7 (fun n=>!a.inst n) om hr.w fok141.1 (ah3 (.ab9 _ (ah3 hba))) fun z hz=>hcl z) ?_;rintro v s ⟨⟨h1,_⟩,hr⟩;refine ⟨h1,?_⟩;have ef:(nm.filter fun x=>!(!a.inst x))=nm.filter fun n=>a.inst n:=List.filter_congr fun x _=>Bool.not_not _
   rw[ef] at hr;simp only[go_sem];exact hr.frz fun i _=>zu i
theorem ik9 (state:List Int)(n:Int)(hs:state.length<2^40):PC Tryz.prog EE 264 [.int .i64 n,.ab9 [.aa4 (state.map Md.ad9)]] (.bool (decide (n∈state))):=by
 refine ae6 hE fok264 (nZ rfl) (ah9 (.int _ _) (.ab9 _ (ah3 (ag8 state)))) ?_;have h:=cg2 state n hs;simp only[ic264,go_sem]
 first|refine aa3 fok73 (h) ?_|refine aa7 (h) ?_
 simp only[go_sem];exact ab5 rfl
theorem eg4 (state l:List Int)(hs:state.length<2^40)(hl:l.length<2^40):PC Tryz.prog EE 238 [.aa4 (state.map Md.ad9),.aa4 (l.map Md.ad9)] (.bool (ab7.some state l)):=by
 refine ae6 hE fok238 (nZ rfl) (ah9 (ag8 _) (ag8 _)) ?_;have h:=bk5 l 264 [] [.ab9 [.aa4 (state.map Md.ad9)]] (fun n=>decide (n∈state)) om fok264.1 fun x hx=>ik9 state x hs
 simp only[ic238,go_sem]
 first|refine aa3 fok146 (h) ?_|refine aa7 (h) ?_
 simp only[go_sem];exact ab5 rfl
theorem bk7 (a:ab7)(j:Int):(a.meant j).length<=a.l.length:=by
 unfold ab7.meant;split
 ·split
  ·exact ae8 _ _
  ·split
   ·exact ae8 _ _
   ·exact qi (qa _ _) (ae8 _ _)
 ·exact Nat.zero_le _
theorem eg5 (a:ab7)(j:Int)(state:List Int)(hA:AOK a)(hs:state.length<2^40):PC Tryz.prog EE 192 [a.v,.int .i64 j,.aa4 (state.map Md.ad9)] (.bool (ab7.some state (a.meant j))):=by
 refine ae6 hE fok192 (nZ rfl) (bf1 (ag1 a) (.int _ _) (ag8 _)) ?_;have h1:=ay7 a j hA;have h2:=eg4 state (a.meant j) hs (by have:=bk7 a j; have:=hA.len; omega);simp only[ic192,go_sem]
 first|refine aa3 fok90 (h1) ?_|refine aa7 (h1) ?_
 simp only[go_sem]
 first|refine aa3 fok238 (h2) ?_|refine aa7 (h2) ?_
 simp only[go_sem];exact ab5 rfl
theorem fc8 (a:ab7)(j:Int)(state:List Int)(hA:AOK a)(hs:state.length<2^40):PC Tryz.prog EE 193 [a.v,.int .i64 j,.aa4 (state.map Md.ad9)] (.bool (!ab7.some state (a.meant j))):=by
 refine ae6 hE fok193 (nZ rfl) (bf1 (ag1 a) (.int _ _) (ag8 _)) ?_;have h1:=ay7 a j hA;have h2:=eg4 state (a.meant j) hs (by have:=bk7 a j; have:=hA.len; omega);simp only[ic193,go_sem]
 first|refine aa3 fok90 (h1) ?_|refine aa7 (h1) ?_
 simp only[go_sem]
 first|refine aa3 fok238 (h2) ?_|refine aa7 (h2) ?_
 simp only[go_sem];exact ab5 rfl
theorem fc9 (a:ab7)(i:Int)(state:List Int)(hA:AOK a)(hs:state.length<2^40):PC Tryz.prog EE 239 [.int .i64 i,.ab9 [.aa4 (state.map Md.ad9)],.ab9 [a.v]] (.bool (!ab7.some state (a.ao9 i))):=by
 refine ae6 hE fok239 (nZ rfl) (bf1 (.int _ _) (.ab9 _ (ah3 (ag8 _))) (.ab9 _ (ah3 (ag1 a)))) ?_;have h1:=bn4 a i hA;have h2:=eg4 state (a.ao9 i) hs (by have:=a.az9 i; have:=hA.len; omega);simp only[ic239,go_sem]
 first|refine aa3 fok88 (h1) ?_|refine aa7 (h1) ?_
 simp only[go_sem]
 first|refine aa3 fok238 (h2) ?_|refine aa7 (h2) ?_
 simp only[go_sem];exact ab5 rfl
theorem il1 (a:ab7)(i:Int)(state:List Int)(hA:AOK a)(hs:state.length<2^40):PC Tryz.prog EE 240 [.int .i64 i,.ab9 [a.v],.ab9 [.aa4 (state.map Md.ad9)]] (.bool (decide (0<(a.by7 i).length)&&!ab7.some state (a.by7 i))):=by
 refine ae6 hE fok240 (nZ rfl) (bf1 (.int _ _) (.ab9 _ (ah3 (ag1 a))) (.ab9 _ (ah3 (ag8 _)))) ?_;have h1:=dx2 a i hA;have h2:=eg4 state (a.by7 i) hs (by have:=a.ec6 i; have:=hA.len; omega);simp only[ic240,go_sem];refine aa3 fok91 (h1) ?_;by_cases e:0<(a.by7 i).length
 ·have e':(0:Int)<(a.by7 i).length:=om
  simp only[go_sem,e']
  first|refine aa3 fok238 (h2) ?_|refine aa7 (h2) ?_
  simp only[go_sem];exact ab5 (by simp[e])
 ·have e':¬ (0:Int)<(a.by7 i).length:=om
  simp only[go_sem,e'];exact ab5 (by simp[e])
theorem eg6 (a:ab7)(j:Int)(state:List Int)(hA:AOK a)(hs:state.length<2^40):PC Tryz.prog EE 194 [a.v,.int .i64 j,.aa4 (state.map Md.ad9)] (.bool (!(a.meant j).any fun i=>!ab7.some state (a.ao9 i))):=by
 refine ae6 hE fok194 (nZ rfl) (bf1 (ag1 a) (.int _ _) (ag8 _)) ?_;have h1:=ay7 a j hA;have h2:=bk5 (a.meant j) 239 [] [.ab9 [.aa4 (state.map Md.ad9)],.ab9 [a.v]] (fun i=>!ab7.some state (a.ao9 i)) (by have:=bk7 a j; have:=hA.len; omega) fok239.1 fun x hx=>fc9 a x state hA hs
 have vcs:a.v.cs=[a.v]:=rfl;have vlf:a.v.leaf=true:=rfl;simp only[ic194,go_sem,vcs,qe,vlf,qh,z7]
 first|refine aa3 fok90 (h1) ?_|refine aa7 (h1) ?_
 simp only[go_sem]
 first|refine aa3 fok146 (h2) ?_|refine aa7 (h2) ?_
 simp only[go_sem];exact ab5 rfl
theorem ge9 (a:ab7)(j:Int)(state:List Int)(hA:AOK a)(hs:state.length<2^40):PC Tryz.prog EE 195 [a.v,.int .i64 j,.aa4 (state.map Md.ad9)] (.bool (!(a.meant j).any fun i=>decide (0<(a.by7 i).length)&&!ab7.some state (a.by7 i))):=by
 refine ae6 hE fok195 (nZ rfl) (bf1 (ag1 a) (.int _ _) (ag8 _)) ?_;have h1:=ay7 a j hA;have h2:=bk5 (a.meant j) 240 [] [.ab9 [a.v],.ab9 [.aa4 (state.map Md.ad9)]] (fun i=>decide (0<(a.by7 i).length)&&!ab7.some state (a.by7 i)) (by have:=bk7 a j; have:=hA.len; omega) fok240.1 fun x hx=>il1 a x state hA hs
 have vcs:a.v.cs=[a.v]:=rfl;have vlf:a.v.leaf=true:=rfl;simp only[ic195,go_sem,vcs,qe,vlf,qh,z7]
 first|refine aa3 fok90 (h1) ?_|refine aa7 (h1) ?_
 simp only[go_sem]
 first|refine aa3 fok146 (h2) ?_|refine aa7 (h2) ?_
 simp only[go_sem];exact ab5 rfl
theorem eg7 (a:ab7)(j:Int)(state:List Int)(hA:AOK a)(hs:state.length<2^40):PC Tryz.prog EE 148 [a.v,.int .i64 j,.aa4 (state.map Md.ad9)] (.bool (a.br1 j state)):=by
 refine ae6 hE fok148 (nZ rfl) (bf1 (ag1 a) (.int _ _) (ag8 _)) ?_;have h1:=di5 a j;have c1:=eg5 a j state hA hs;have c2:=fc8 a j state hA hs;have c3:=eg6 a j state hA hs;have c4:=ge9 a j state hA hs;unfold ab7.br1
 cases hj:a.job j with
 | false=>
  rw[hj] at h1;simp only[ic148,go_sem];refine aa3 fok138 (h1) ?_;simp only[go_sem]
  exact ab5 rfl
 | true=>
  rw[hj] at h1;obtain ⟨j1,j2,j3,j4⟩:=jv9 a hj;have hk:=hA.kg7 _ j4;have k0:(a.jb j).cs.head? = zg (.int .u8 (a.jb j).kind):=rfl;generalize ab7.some state (a.meant j)=B1 at *;generalize ((a.meant j).any fun i=>!ab7.some state (a.ao9 i))=B3 at *;generalize ((a.meant j).any fun i=>decide (0<(a.by7 i).length)&&!ab7.some state (a.by7 i))=B4 at *;generalize a.jb j=x at *;unfold ab7.v ab7.cs at *;have hk4:x.kind=1\/x.kind=2\/x.kind=3\/x.kind=4:=om
  simp only[ic148,go_sem];refine aa3 fok138 (h1) ?_;have nfl:IV.ac1.leaf=true:=rfl;have q1:¬ (2:Int)=1:=by decide
  have q2:¬ (3:Int)=1:=by decide
  have q3:¬ (3:Int)=2:=by decide
  have q4:¬ (4:Int)=1:=by decide
  have q5:¬ (4:Int)=2:=by decide
  have q6:¬ (4:Int)=3:=by decide
  rcases hk4 with e|e|e|e
  ·simp only[go_sem,j1,j2,j3,av2,bc5,ar5,k0,e,nfl]
   first|refine aa3 fok192 (c1) ?_|refine aa7 (c1) ?_
   simp only[go_sem];exact ab5 rfl
  ·simp only[go_sem,j1,j2,j3,av2,bc5,ar5,k0,e,nfl,q1]
   first|refine aa3 fok193 (c2) ?_|refine aa7 (c2) ?_
   simp only[go_sem];exact ab5 rfl
  ·simp only[go_sem,j1,j2,j3,av2,bc5,ar5,k0,e,nfl,q2,q3]
   first|refine aa3 fok194 (c3) ?_|refine aa7 (c3) ?_
   simp only[go_sem];exact ab5 rfl
  ·simp only[go_sem,j1,j2,j3,av2,bc5,ar5,k0,e,nfl,q4,q5,q6]
   first|refine aa3 fok195 (c4) ?_|refine aa7 (c4) ?_
   simp only[go_sem];exact ab5 rfl
end Go.Id.Tryz
namespace Go.Id.Tryz
open Go Go.Id Go.Proofs Go.Shelf Go.Id.Md
theorem dl3 (l:List aa2)(d:Dep)(hl:l.length<2^20)(hs:∀ p∈l,Pkg.small p)(hd:Dep.small d)(σ:Store):C Tryz.prog EE 139 [(ad7 l).v,.agg d.cs] σ (bo8 σ (ae9 l d)):=by
 have hi:=bg9 l;have hlook:=hi.au1 d.name
 have hsift:∀ (σ:Store) v,(v=.aa4 ((ad3 (ad7 l).au1 d.name).map Md.ad9)\/v=.aa1/\ad3 (ad7 l).au1 d.name=[])->C Tryz.prog EE 126 [(ad7 l).v,v,.func (.func 185) [] [.ab9 d.cs]] σ (bo8 σ (ae9 l d)):=by
  intro σ v hv
  have h:=hc9 (ad7 l) (ad3 (ad7 l).au1 d.name) (by rw[hlook]; have:=ae8 (fun p=>decide (d.name∈cy7 p)) l; omega) 185 [.ab9 d.cs] (fun n=>provides (l.getD n.toNat default) d) fok185.1 (fun n hn=>by
   rw[hlook] at hn;obtain ⟨m,rfl,hm⟩:=numsOf_at hn;refine ⟨m,rfl,by rw[hi.all]; exact hm,?_⟩;have e:(ad7 l).all[m]'(by rw[hi.all]; exact hm)=l[m]:=by simp only[hi.all]
   rw[e,zc,getD_at l m hm];exact dw5 l[m] m d (hs _ (zf hm)) hd) σ
  rw[cu8] at h;rcases hv with rfl|⟨rfl,h0⟩
  ·exact h
  ·rw[h0] at h;refine fl5 (args':=[(ad7 l).v,.aa4 [],.func (.func 185) [] [.ab9 d.cs]]) rfl (fun i hi=>?_) h;have hw:∀ {v:IV} {σ:Store},Bnd 0 v->Frz σ (fun _=>true=true) v v:=fun h=>.keep _ (h.weak fun _ _=>rfl)
   match i,hi with
   | 0,_=>exact hw (as2 (ad7 l))
   | 1,_=>exact .ch6
   | 2,_=>exact hw (.func _ _ _ (fun c hc=>by cases hc) (ae5 (bc3 d)))
 have hx:(ad7 l).v=.ab9 [.aa4 ((ad7 l).all.map aa2.cs),.ak9 (nmV (ad7 l).au1),.ak9 (nmV (ad7 l).names),.ak9 (nmV (ad7 l).over)]:=rfl;have d0:d.cs.head? = zg (.str d.name):=rfl
 have hk0:∀ σ:Store,∃ v,cc3 σ 2 .aa1 false (.ak9 (nmV (ad7 l).au1)) (.str d.name)=zg v/\∀ τ,C Tryz.prog EE 126 [(ad7 l).v,v,.func (.func 185) [] [.ab9 d.cs]] τ (bo8 τ (ae9 l d)):=fun σ=>
  let ⟨v,h1,h2⟩:=eq7 (ad7 l).au1 σ d.name
  ⟨v,h1,fun τ=>hsift τ v h2⟩
 clear hsift hlook;rw[hx] at hk0 ⊢;generalize (ad7 l).all.map aa2.cs=a0 at *;refine C_f fok139 (nZ rfl) ?_;simp only[ic139,go_sem,ap8,am9,al9,d0];obtain ⟨v,hk,hsv⟩:=hk0 ⟨σ.next+11,σ.obj⟩;simp only[go_sem,hk];refine ac5 fok126 (hsv _) ?_;rintro v' s ⟨hkp,hr⟩;refine ⟨hkp.next,?_⟩;simp only[go_sem];exact ⟨hkp.low,hr.low (zp _ _)⟩
end Go.Id.Tryz
namespace Go.Id.Tryz
open Go Go.Id Go.Proofs Go.Shelf Go.Id.Md
theorem il2 (l:List Int)(hl:l.length<2^30)(hr:∀ x∈l,-(2^40)<=x/\x<=2^40)(σ:Store):C Tryz.prog EE 244 [.aa4 (l.map Md.ad9)] σ (bo8 σ (dj5 l)):=by
 refine C_f fok244 (nZ rfl) ?_;simp only[ic244,go_sem];refine ab3 noT (fun i fr s=>∃ gv,fr=[(3,gv),(6,.aa4 (l.map Md.ad9)),(7,.int .i64 l.length),(8,.int .i64 i)]/\Kept σ s/\al2 s σ.next gv (dj5 (l.take i))) l.length ⟨.aa1,rfl,Kept.refl σ,.inl ⟨rfl,rfl⟩⟩ ?_;rintro i fr s hle ⟨gv,rfl,hk,hg⟩;by_cases hlt:i<l.length
 ·obtain ⟨n,hn,_,hdr,hget,htk⟩:=ad6 l i hlt;have c1:(i:Int)<l.length:=om
  have c2:(0:Int)<=i:=om
  have w1:=ad1 (i:=i) om;have hlen:(dj5 (l.take i)).length<=i:=by unfold dj5; rw[zd,zh]; omega
  have hap:=bd5 (nid:=s.next) (hg.up 1) (-n) om;have e:dj5 (l.take (i+1))=dj5 (l.take i)++[-n]:=by rw[htk]; unfold dj5; rw[zx]; rfl
  have hn2:=hr n hn;have wn:IntKind.wrap .i64 (0-n)=-n:=by rw[wrap64 om om]; omega
  simp only[go_sem,c1,c2,hget,Md.ad9,wn,hap,w1,e];have hz:=bf4 hk hg (-n) (a:=1) (nid:=s.next) (zi _) (zm _) rfl;exact ⟨hlt,_,rfl,hz.1,hz.2⟩
 ·have hi':i=l.length:=om
  subst hi';have c1:¬ (l.length:Int)<l.length:=om
  rw[zo] at hg;simp only[go_sem,c1];exact ⟨hk,hg⟩
theorem fm2 (σ:Store)(tp mid:Nat)(xv allv clv:IV)(P:List aa2)(t:ah6)(h:aq8 σ tp mid xv allv clv P t)(hP:P.length<2^20)(ht:t.h<2^30) :
  C Tryz.prog EE 245 [.ptr tp 0] σ (fun v s=>v=.int .i64 ((P.length+(t.h+1):Nat):Int)/\be2 σ s tp mid clv clv/\aq8 s tp mid xv allv clv P ⟨t.h+1,t.cl,t.sets⟩):=by
 refine C_f fok245 (nZ rfl) ?_;have hc:=h.cell
 have hla:∀ σ,cc5 0 σ allv=zg (.int .i64 P.length):=fun σ=>by
  have:=bx8 (s':=σ) h.all;rw[zd] at this; exact this
 have w2:IntKind.wrap .i64 ((P.length:Int)+((t.h+1:Nat):Int))=((P.length+(t.h+1):Nat):Int):=by rw[wrap64 om om]; omega
 have w1:=ad1 (i:=t.h) om;simp only[ic245,go_sem,hc,w1,hla,w2];have ntm:¬ mid=tp:=fun e=>by have h2:=h.map; rw[e,hc] at h2; cases h2
 refine ⟨⟨zp _ _,fun i hi h1 h2 h3=>by simp only[aa5,h1,if_false],.inl rfl⟩,?_⟩;have hrow:∀ i cs,σ.obj i=zg (.row cs)->i≠tp:=fun i cs h1 e=>by rw[e,hc] at h1; cases h1
 exact {
  cell:=by simp only[aa5,if_true]
  all:=by
   rcases h.all with h0|⟨id,h1,h2,h3⟩
   ·exact .inl h0
   ·exact .inr ⟨id,h1,by simp only[aa5,hrow id _ h2,if_false]; exact h2,qt h3 (zp _ _)⟩
  cls:=by
   rcases h.cls with h0|⟨id,h1,h2,h3⟩
   ·exact .inl h0
   ·exact .inr ⟨id,h1,by simp only[aa5,hrow id _ h2,if_false]; exact h2,qt h3 (zp _ _)⟩
  map:=by simp only[aa5,ntm,if_false]; exact h.map
  ne:=h.ne
  lt:=⟨by have:=h.lt.1; show tp<σ.next+_; omega,by have:=h.lt.2; show mid<σ.next+_; omega⟩ }
end Go.Id.Tryz
namespace Go.Id.Tryz
open Go Go.Id Go.Proofs Go.Shelf Go.Id.Md
def eg8:Str:=[48,48,48,49,48,50,48,51,48,52,48,53,48,54,48,55,48,56,48,57,49,48,49,49,49,50,49,51,49,52,49,53,49,54,49,55,49,56,49,57,50,48,50,49,50,50,50,51,50,52,50,53,50,54,50,55,50,56,50,57,51,48,51,49,51,50,51,51,51,52,51,53,51,54,51,55,51,56,51,57,52,48,52,49,52,50,52,51,52,52,52,53,52,54,52,55,52,56,52,57,53,48,53,49,53,50,53,51,53,52,53,53,53,54,53,55,53,56,53,57,54,48,54,49,54,50,54,51,54,52,54,53,54,54,54,55,54,56,54,57,55,48,55,49,55,50,55,51,55,52,55,53,55,54,55,55,55,56,55,57,56,48,56,49,56,50,56,51,56,52,56,53,56,54,56,55,56,56,56,57,57,48,57,49,57,50,57,51,57,52,57,53,57,54,57,55,57,56,57,57]
theorem he9:∀ n:Fin 100,¬ n.val<10->(eg8.take (n.val*2+2)).drop (n.val*2)=eh9 (n.val:Int)/\n.val*2+2<=eg8.length:=by decide
def il3:Str:=[48,49,50,51,52,53,54,55,56,57,97,98,99,100,101,102,103,104,105,106,107,108,109,110,111,112,113,114,115,116,117,118,119,120,121,122]
theorem jf9:∀ n:Fin 10,(il3.take (n.val+1)).drop n.val=eh9 (n.val:Int)/\n.val+1<=il3.length:=by decide
theorem it7 (s:Str){l h:Nat}{r:Str}(hl:l<=h)(hr:(s.take h).drop l=r/\h<=s.length):cw1 (zg (.int .i64 (l:Int))) (zg (.int .i64 (h:Int))) (.str s)=zg (.str r):=by
 have h1:(0:Int)<=(l:Int):=om
 have h2:(0:Int)<=(h:Int):=om
 simp only[cw1,da7,fn9,h1,h2,if_true,zc,hl,hr.2,and_self,hr.1]
theorem il4 (n:Nat)(hn:n<100):PC Tryz.prog EE 277 [.int .i64 n] (.str (eh9 n)):=by
 refine ae6 hE fok277 (nZ rfl) (ah3 (.int _ _)) ?_;simp only[ic277,go_sem];have w1:=ad1 (i:=n) om;have w2:IntKind.wrap .i64 ((n:Int)*2)=((n*2:Nat):Int):=by rw[wrap64 om om]; omega
 have w3:IntKind.wrap .i64 (((n*2:Nat):Int)+2)=((n*2+2:Nat):Int):=by rw[wrap64 om om]; omega
 by_cases h:n<10
 ·have c1:(n:Int)<10:=om
  have e:=it7 il3 (Nat.le_succ n) (jf9 ⟨n,h⟩);unfold il3 at e;simp only[go_sem,c1,w1,e];exact .keep _ (.str _)
 ·have c1:¬ (n:Int)<10:=om
  have e:=it7 eg8 (zp _ _) (he9 ⟨n,hn⟩ h);unfold eg8 at e;simp only[go_sem,c1,w2,w3,e];exact .keep _ (.str _)
theorem jg1 (n:Nat)(hn:n<100):PC Tryz.prog EE 242 [.int .i64 n] (.str (eh9 n)):=by
 have c1:(0:Int)<=n:=om
 have c2:(n:Int)<100:=om
 have h1:=il4 n hn
 have h2:PC Tryz.prog EE 272 [.int .i64 n,.int .i64 10] (.str (eh9 n)):=by
  refine ae6 hE fok272 (nZ rfl) (ah9 (.int _ _) (.int _ _)) ?_;simp only[ic272,go_sem,c1,c2];refine aa3 fok277 (h1) ?_;simp only[go_sem];exact .keep _ (.str _)
 have h3:PC Tryz.prog EE 265 [.int .i64 n] (.str (eh9 n)):=by
  refine ae6 hE fok265 (nZ rfl) (ah3 (.int _ _)) ?_;simp only[ic265,go_sem];refine aa3 fok272 (h2) ?_;simp only[go_sem];exact .keep _ (.str _)
 refine ae6 hE fok242 (nZ rfl) (ah3 (.int _ _)) ?_;simp only[ic242,go_sem];refine aa3 fok265 (h3) ?_;simp only[go_sem];exact .keep _ (.str _)
end Go.Id.Tryz
namespace Go.Id.Tryz
open Go Go.Id Go.Proofs Go.Shelf Go.Id.Md
theorem jg2 (l:List Int)(hl:l.length<2^30)(hr:∀ x∈l,-(2^40)<=x/\x<=2^40)(σ:Store):C Tryz.prog EE 83 [.aa4 (l.map Md.ad9)] σ (bo8 σ (noL l)):=by
 refine C_f fok83 (nZ rfl) ?_;simp only[ic83,go_sem];refine ab3 noT (fun i fr s=>∃ gv,fr=[(3,gv),(6,.aa4 (l.map Md.ad9)),(7,.int .i64 l.length),(8,.int .i64 i)]/\Kept σ s/\al2 s σ.next gv (noL (l.take i))) l.length ⟨.aa1,rfl,Kept.refl σ,.inl ⟨rfl,rfl⟩⟩ ?_;rintro i fr s hle ⟨gv,rfl,hk,hg⟩;by_cases hlt:i<l.length
 ·obtain ⟨n,hn,_,hdr,hget,htk⟩:=ad6 l i hlt;have c1:(i:Int)<l.length:=om
  have c2:(0:Int)<=i:=om
  have w1:=ad1 (i:=i) om;have hlen:(noL (l.take i)).length<=i:=by unfold noL; rw[zd,zh]; omega
  have hap:=bd5 (nid:=s.next) (hg.up 1) (-(n+1)) om;have e:noL (l.take (i+1))=noL (l.take i)++[-(n+1)]:=by rw[htk]; unfold noL; rw[zx]; rfl
  have hn2:=hr n hn;have wm:IntKind.wrap .i64 (n+1)=n+1:=wrap64 om om;have wn:IntKind.wrap .i64 (0-(n+1))=-(n+1):=by rw[wrap64 om om]; omega
  simp only[go_sem,c1,c2,hget,Md.ad9,wm,wn,hap,w1,e];have hz:=bf4 hk hg (-(n+1)) (a:=1) (nid:=s.next) (zi _) (zm _) rfl;exact ⟨hlt,_,rfl,hz.1,hz.2⟩
 ·have hi':i=l.length:=om
  subst hi';have c1:¬ (l.length:Int)<l.length:=om
  rw[zo] at hg;simp only[go_sem,c1];exact ⟨hk,hg⟩
theorem kh4 (l:List Int)(hl:l.length<2^30)(hr:∀ x∈l,-(2^40)<=x/\x<=2^40)(σ:Store):C Tryz.prog EE 87 [.aa4 (l.map Md.ad9)] σ (bo8 σ (upL l)):=by
 refine C_f fok87 (nZ rfl) ?_;simp only[ic87,go_sem];refine ab3 noT (fun i fr s=>∃ gv,fr=[(3,gv),(7,.aa4 (l.map Md.ad9)),(8,.int .i64 l.length),(9,.int .i64 i)]/\Kept σ s/\al2 s σ.next gv (upL (l.take i))) l.length ⟨.slice σ.next 0 0 1,rfl,⟨Nat.le_succ _,fun i hi=>?_⟩,.inr ⟨σ.next,zi _,zm _,rfl,?_⟩⟩ ?_
 ·have:¬ i=σ.next:=om
  simp only[aa5,this,if_false]
 ·simp only[aa5,if_true]; rfl
 rintro i fr s hle ⟨gv,rfl,hk,hg⟩;by_cases hlt:i<l.length
 ·obtain ⟨n,hn,_,hdr,hget,htk⟩:=ad6 l i hlt;have c1:(i:Int)<l.length:=om
  have c2:(0:Int)<=i:=om
  have w1:=ad1 (i:=i) om;have hlen:(upL (l.take i)).length<=i:=by unfold upL; rw[zd,zh]; omega
  have hap:=bd5 (nid:=s.next) (hg.up 1) (n+1) om;have e:upL (l.take (i+1))=upL (l.take i)++[n+1]:=by rw[htk]; unfold upL; rw[zx]; rfl
  have hn2:=hr n hn;have wm:IntKind.wrap .i64 (n+1)=n+1:=wrap64 om om;simp only[go_sem,c1,c2,hget,Md.ad9,wm,hap,w1,e];have hz:=bf4 hk hg (n+1) (a:=1) (nid:=s.next) (zi _) (zm _) rfl;exact ⟨hlt,_,rfl,hz.1,hz.2⟩
 ·have hi':i=l.length:=om
  subst hi';have c1:¬ (l.length:Int)<l.length:=om
  rw[zo] at hg;simp only[go_sem,c1];exact ⟨hk,hg⟩
end Go.Id.Tryz
namespace Go.Id.Tryz
open Go Go.Id Go.Proofs Go.Shelf Go.Id.Md
theorem gf1 (b n:Int):PC Tryz.prog EE 243 [.int .i64 n,.ab9 [.int .i64 b]] (.bool (decide (n=b))):=by
 refine ae6 hE fok243 (nZ rfl) (ah9 (.int _ _) (.ab9 _ (ah3 (.int _ _)))) ?_;simp only[ic243,go_sem];exact ab5 rfl
theorem er3 {σ:Store}{v:IV}{lo:Nat}{zs:List Int}(b:Int)(hz:zs.length<2^40)(hr:ch8 σ lo v zs) :
  C Tryz.prog EE 204 [v,.int .i64 b] σ (fun v s=>(σ.next<=s.next/\∀ i,i<lo->i<σ.next->s.obj i=σ.obj i)/\ch8 s (min lo σ.next) v (cu9 zs b)):=by
 have hvl:v.leaf=true/\v.cs=[v]:=by
  rcases hr with ⟨rfl,_⟩|⟨_,_,_,_,rfl,_⟩<;>exact ⟨rfl,rfl⟩
 refine C_f fok204 (nZ rfl) ?_;simp only[ic204,go_sem,hvl.1,hvl.2];refine ac5 fok140 (ik7 (fun n=>decide (n=b)) hz hr fok243.1 (ah3 (.ab9 _ (ah3 (.int _ _)))) fun z _=>gf1 b z) ?_;rintro v s ⟨⟨h1,h2⟩,hr⟩;refine ⟨h1,?_⟩;simp only[go_sem];exact ⟨⟨h1,h2⟩,hr⟩
end Go.Id.Tryz
