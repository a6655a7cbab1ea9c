/- Indexes asked: providers,those that are named. Conditions: sizes that fit. -/
import Derived.Test.YteomphdgniepbaaGreatDoorTNQF
import Derived.Test.YteomphdgniepbaaGreatDoorFwTe
import Derived.Test.YteomphdgniepbaaGreatDoorTNPB
import Derived.Test.YteomphdgniepbaaGreatDoorTNQA
import Derived.Test.YteomphdgniepbaaGreatDoorMw
set_option linter.all false
namespace Go.Id.Tryz
open Go Go.Id Go.Proofs Go.Id.Md
set_option maxRecDepth 100000
theorem fe1 (p:aa2)(n:Int)(d:Dep)(hp:Pkg.small p)(hd:Dep.small d):PC Tryz.prog EE 310 [.agg p.cs,.int .i64 n,.ac2 d.cs] (.bool (provides p d)):=by
 refine ai1 hE fok310 (nZ rfl) (fun a ha=>by
  simp only[List.mem_cons,List.not_mem_nil,or_false] at ha;rcases ha with rfl|rfl|rfl
  ·exact be4 p
  ·exact .int _ _
  ·exact cl9 d) ?_
 simp only[ic310,go_sem,bw5,bj1,bj2,aw3,ar8,ao9];refine aa5 fok139 (cr9 p d hp hd) ?_;simp only[go_sem];exact ac3 _
theorem ii2 (nm:Nms)(σ:Store)(k:Str):∃ v,dm3 σ 2 .aa1 false (.ap7 (nmV nm)) (.str k)=some v∧(v=.aa3 ((ae5 nm k).map Md.ag3)∨v=.aa1∧ae5 nm k=[]):=by
 have h:∀ nm:Nms,∃ r,aw5 2 (.str k) (nmV nm)=some r∧((∃ v,r=some v∧v=.aa3 ((ae5 nm k).map Md.ag3))∨r=none∧ae5 nm k=[]):=by
  intro nm
  induction nm with
  | nil=>exact ⟨none,rfl,.inr ⟨rfl,rfl⟩⟩
  | cons t ts ih=>
   obtain ⟨r,h1,h2⟩:=ih;simp only[nmV,List.map_cons,aw5,ei2,ae5] at h1 ⊢;by_cases e:k=t.1
   ·simp only[e,decide_true,if_true];exact ⟨_,rfl,.inl ⟨_,rfl,rfl⟩⟩
   ·simp only[e,decide_false,if_false];exact ⟨r,h1,h2⟩
 obtain ⟨r,h1,h2⟩:=h nm;rcases h2 with ⟨v,rfl,rfl⟩|⟨rfl,h3⟩
 ·refine ⟨.aa3 ((ae5 nm k).map Md.ag3),?_,.inl rfl⟩;simp only[dm3,ci6,h1];rfl
 ·refine ⟨.aa1,?_,.inr ⟨rfl,h3⟩⟩;simp only[dm3,ci6,h1];rfl
theorem numsOf_at {q:aa2→Bool}{l:List aa2}{n:Int}(h:n∈numsOf q l):∃ m:Nat,n=m∧m<l.length:=by
 obtain ⟨m,h1,h2,_⟩:=dc9.1 h;exact ⟨m,h1,h2⟩
theorem getD_at (l:List aa2)(m:Nat)(h:m<l.length):l.getD m default=l[m]:=by simp[List.getD_eq_getElem?_getD,h]
theorem cs3 (l:List aa2)(d:Dep)(hl:l.length<2^20)(hs:∀ p∈l,Pkg.small p)(hd:Dep.small d):PC Tryz.prog EE 257 [(av5 l).v,.agg d.cs] (.aa3 ((an2 l d).map Md.ag3)):=by
 have hi:=fq3 l;have hb:=cr6 (av5 l);refine ai1 hE fok257 (nZ rfl) (an9 hb (au5 d)) ?_;have hlook:=hi.ax1 d.name
 have hsift:∀ v,(v=.aa3 ((ae5 (av5 l).ax1 d.name).map Md.ag3)∨v=.aa1∧ae5 (av5 l).ax1 d.name=[])→PC Tryz.prog EE 191 [(av5 l).v,v,.func (.func 310) [] [.ac2 d.cs]] (.aa3 ((an2 l d).map Md.ag3)):=by
  intro v hv
  have h:=hg9 (av5 l) (ae5 (av5 l).ax1 d.name) (by rw[hlook]; have:=dd2 (fun p=>decide (d.name∈cq1 p)) l; omega) 310 [.ac2 d.cs] (fun n=>provides (l.getD n.toNat default) d) (af4 (cl9 d)) fok310.1 (fun n hn=>by
   rw[hlook] at hn;obtain ⟨m,rfl,hm⟩:=numsOf_at hn;refine ⟨m,rfl,by rw[hi.all]; exact hm,?_⟩;have e:(av5 l).all[m]'(by rw[hi.all]; exact hm)=l[m]:=by simp only[hi.all]
   rw[e,Int.toNat_natCast,getD_at l m hm];exact fe1 l[m] m d (hs _ (List.getElem_mem hm)) hd)
  rw[dr6] at h;rcases hv with rfl|⟨rfl,h0⟩
  ·exact h
  ·rw[h0] at h;have hw:∀ {v:IV} {σ:Store},Bnd 0 v→Frz σ (fun _=>true=true) v v:=fun h=>.keep _ (h.weak fun _ _=>rfl)
   refine ea1 (args':=[(av5 l).v,.aa3 [],.func (.func 310) [] [.ac2 d.cs]]) rfl (fun σ i hi=>?_) h
   match i,hi with
   | 0,_=>exact hw hb
   | 1,_=>exact .ch1
   | 2,_=>exact hw (.func _ _ _ (fun c hc=>by cases hc) (af4 (cl9 d)))
 have hx:(av5 l).v=.ac2 [.aa3 ((av5 l).all.map aa2.cs),.ap7 (nmV (av5 l).ax1),.ap7 (nmV (av5 l).names),.ap7 (nmV (av5 l).over)]:=rfl;have d0:d.cs.head? = some (.str d.name):=rfl;have hres:=ap3 (an2 l d)
 have hk0:∀ σ:Store,∃ v,dm3 σ 2 .aa1 false (.ap7 (nmV (av5 l).ax1)) (.str d.name)=some v∧PC Tryz.prog EE 191 [(av5 l).v,v,.func (.func 310) [] [.ac2 d.cs]] (.aa3 ((an2 l d).map Md.ag3)):=fun σ=>
  let ⟨v,h1,h2⟩:=ii2 (av5 l).ax1 σ d.name
  ⟨v,h1,hsift v h2⟩
 clear hsift hlook;rw[hx] at hk0 ⊢;generalize (av5 l).all.map aa2.cs=a0 at *;simp only[ic257,go_sem,aw3,ar8,ao9,d0];obtain ⟨v,hk,hsv⟩:=hk0 ⟨11,emp.obj⟩;simp only[go_sem,hk];refine aa5 fok191 hsv ?_;simp only[go_sem];exact .keep _ hres
abbrev wr (n:Int):Int:=IntKind.i64.wrap n
mutual
def ptR:aa7→Int→Int
 | .mk _ _ xs,n=>ptL xs n 0
def ptL:List aa7→Int→Int→Int
 | [],_,w=>w
 | r::rs,n,w=>if w<n then ptL rs n (wr (wr (w+1)+ptR r (wr (n-w)))) else w
end
theorem ii3 (r:aa7)(n:Int):ptR r n=ptL r.args n 0:=by cases r with|mk k d xs=>simp only[ptR,aa7.args]
theorem gm3 (r:aa7):(r.cs.drop 6).head? = some (ae7 r.args):=by rw[aa7.ao4]; rfl
def lR (l:List aa7):List IV:=[ae7 l]
def hh6:List (List aa7)→Int→Int→Int
 | [],_,w=>w
 | l::ls,n,w=>hh6 ls n (wr (w+ptL l n 0))
def szP (p:aa2)(n w:Int):Int:=hh6 (ay5 p) n (wr (wr (wr (wr (w+1)+p.provides.length)+p.ab4.length)+p.files.length))
def szL:List aa2→Int→Int→Int
 | [],_,w=>w
 | p::ps,n,w=>if w<n then szL ps n (szP p n w) else w
theorem fv8 {p:aa2}(h:p.Ok):∀ l∈ay5 p,l.length<2^62∧∀ r∈l,r.ok:=by
 intro l hl;simp only[ay5,List.mem_cons,List.not_mem_nil,or_false] at hl;have:=h.rich;simp only[aa2.rows,List.mem_cons,List.not_mem_nil,or_false,forall_eq_or_imp,forall_eq] at this;obtain ⟨a1,a2,a3,a4,a5,a6⟩:=this;rcases hl with rfl|rfl|rfl|rfl|rfl|rfl
 ·exact a1
 ·exact a2
 ·exact a3
 ·exact a4
 ·exact a5
 ·exact a6
structure gt6 (ab5:List ak8) (inst:List aa2):Prop where
 r1:ab5.length<2^20
 i1:inst.length<2^20
 s1:al4 ab5<2^40
 rf:∀ r∈ab5,ak8.Fit r
 pf:∀ p∈inst,p.Fit
 ro:∀ r∈ab5,ak8.Ok r
 po:∀ p∈inst,p.Ok
theorem fe2 {p:aa2}(h:p.Tiny):Pkg.small p:=by
 have e:∀ v:EVR,v.tiny→EVR.small v:=fun v hv=>⟨by have:=hv.1; omega,by have:=hv.2; omega⟩
 refine ⟨e _ h.evr,fun d hd=>?_,fun d hd=>?_,?_,?_,?_⟩
 ·obtain ⟨a,b,c,_⟩:=h.ax1.2 d hd; exact ⟨a,b,e _ c⟩
 ·obtain ⟨a,b,c,_⟩:=h.obs.2 d hd; exact ⟨a,b,e _ c⟩
 ·have:=h.ax1.1; omega
 ·have:=h.obs.1; omega
 ·have:=h.files; omega
theorem gt7 {ab5:List ak8}{inst:List aa2}{p:Pool}(hI:gt6 ab5 inst)(h:bu9 ab5 inst=.inl p):∀ x∈ad1 p,x.Fit∧Pkg.small x∧x.Tiny:=by
 intro x hx;obtain ⟨h1,h2⟩:=ej5 h x hx;refine ⟨?_,fe2 (ej8 h1),ej8 h1⟩;rcases h2 with h2|⟨r,hr,h2⟩
 ·exact hI.pf x h2
 ·exact (hI.rf r hr).2 x h2
abbrev iv (n:Int):IV:=.int .i64 n
theorem fv9 {id n k:Nat}(h:k≤n):ct1 1 (some (.int .i64 (k:Int))) none (.slice id 0 n 1)=some (.slice id k (n-k) 1):=by
 have e:(0:Int)≤k:=by omega
 simp[ct1,cm4,dm2,e,h]
theorem gt8 {id n k:Nat}(h:k≤n):ct1 1 none (some (.int .i64 (k:Int))) (.slice id 0 n 1)=some (.slice id 0 k 1):=by
 have e:(0:Int)≤k:=by omega
 simp[ct1,cm4,dm2,e,h]
theorem ch8 {zs:List Int}{p:Nat}(h:p+1<zs.length)(x:Int):x∈zs.take (p+1+1)↔x∈zs.take (p+1)∨x=zs[p+1]:=by
 rw[List.take_add_one (i:=p+1),List.getElem?_eq_getElem h,List.mem_append];simp[Option.toList]
theorem ch9 {zs:List Int}{p:Nat}(h:p+1<zs.length)(e:zs[p+1]=zs[p])(x:Int):x∈zs.take (p+1)↔x∈zs.take (p+1+1):=by
 rw[ch8 h];refine ⟨.inl,fun q=>q.elim (fun q=>q) fun q=>?_⟩;rw[q,e];exact List.mem_iff_getElem.2 ⟨p,by rw[List.length_take]; omega,by rw[List.getElem_take]⟩
theorem du5 {cs vs:List IV}{k:Nat}(h:k≤cs.length):(ao8 cs k vs).take k=cs.take k:=by
 unfold ao8;rw[List.append_assoc,List.take_append_of_le_length (by rw[List.length_take]; omega),List.take_take,Nat.min_self]
theorem de4 {cs:List IV}{v:IV}{k:Nat}(h:k≤cs.length):(ao8 cs k [v]).take (k+1)=cs.take k++[v]:=by
 unfold ao8;have e:(cs.take k++[v]).length=k+1:=by rw[List.length_append,List.length_take,List.length_singleton]; omega
 rw[List.take_append_of_le_length (by omega),List.take_of_length_le (by omega)]
theorem de5 {cs:List IV}{v:IV}{k q:Nat}(h:k<q)(hk:k≤cs.length):(ao8 cs k [v]).drop q=cs.drop q:=by
 unfold ao8;have e:(cs.take k++[v]).length=k+1:=by rw[List.length_append,List.length_take,List.length_singleton]; omega
 rw[List.drop_append,e,List.drop_of_length_le (by omega),List.nil_append,List.drop_drop,List.length_singleton];congr 1; omega
theorem ii4 {pt:PT}{ct:CT}{P:Program}{E:Nat→IV}{e id:Nat}{z:List IV}{x:IX}{fr:Frm}{σ:Store}{K:IV→Store→Prop}:opT pt ct P E (.clr e z x) id fr σ K=bx9 (fk3 σ e z (x.ev E fr)) fun σ'=>σ'.next=σ.next∧K .undef σ':=rfl
theorem fw1 {σ:Store}{id k n:Nat}{cs:List IV}(ho:σ.obj id=some (.row cs))(h1:k<n)(h2:n≤cs.length):fk3 σ 1 [.int .i64 0] (.slice id k (n-k) 1)=some (σ.put id (.row (ao8 cs k (rep [.int .i64 0] (n-k))))):=by
 have e1:¬ n-k=0:=by omega
 have e2:k+(n-k)*1≤cs.length:=by omega
 unfold fk3;simp only[e1,if_false,ho,e2,true_and];rfl
structure jb6 (R:Int→Int→Prop) (σ:Store) (id:Nat) (zs:List Int) (v:IV) (s:Store):Prop where
 out:∃ (D:List Int) (cs:List IV),D.Pairwise R∧(∀ x,x∈D↔x∈zs)∧v=.slice id 0 D.length 1∧s.obj id=some (.row cs)∧cs.take D.length=D.map iv∧D.length≤cs.length
 next:σ.next≤s.next
 other:∀ i,i≠id→s.obj i=σ.obj i
theorem fe3 {R:Int→Int→Prop}{σ:Store}{id:Nat}{zs:List Int}{tl:List IV}(hT:∀ a∈zs,∀ b∈zs,∀ c∈zs,R a b→R b c→R a c)(hz:zs.length<2^40)(ho:σ.obj id=some (.row (zs.map iv++tl)))(hs:zs.Pairwise fun a b=>a=b∨R a b) :
  C Tryz.prog EE 62 [.slice id 0 zs.length 1] σ (jb6 R σ id zs):=by
 refine C_f fok62 (nZ rfl) ?_;by_cases h2:(zs.length:Int)<2
 ·simp only[ic62,go_sem,h2];refine ⟨⟨zs,zs.map iv++tl,?_,fun _=>Iff.rfl,rfl,ho,by rw[List.take_append_of_le_length (by simp),List.take_of_length_le (by simp)],by simp⟩,Nat.le_refl _,fun _ _=>rfl⟩
  match zs,h2 with
  | [],_=>exact .nil
  | [a],_=>simp
  | a::b::l,h2=>simp only[List.length_cons] at h2; omega
 simp only[ic62,go_sem,h2];refine ab3 noT (fun i fr t=>(t.obj=σ.obj∧σ.next≤t.next)∧fr=[(0,.slice id 0 zs.length 1),(3,.int .i64 ((i+1:Nat):Int))]∧i+1≤zs.length∧(zs.take (i+1)).Pairwise R) zs.length ⟨⟨rfl,Nat.le_refl _⟩,rfl,by omega,?_⟩ ?_
 ·cases zs with
  | nil=>exact .nil
  | cons a l=>simp
 rintro i fr t hi ⟨⟨hob,hnx⟩,rfl,hle,hpw⟩;have hot:t.obj id=some (.row (zs.map iv++tl)):=by rw[hob]; exact ho
 have hh:∀ (j:Nat) (h:j<zs.length),((zs.map iv++tl).drop j).head? = some (.int .i64 zs[j]):=fun j h=>by simp[List.head?_drop,List.getElem?_append_left,h]
 have hml:zs.length≤(zs.map iv++tl).length:=by rw[List.length_append,List.length_map]; omega
 by_cases hlt:i+1<zs.length
 ·have c1:((i+1:Nat):Int)<zs.length:=by omega
  have c2:(0:Int)≤((i+1:Nat):Int):=by omega
  have c3:IntKind.i64.wrap (((i+1:Nat):Int)-1)=(i:Int):=by rw[wrap64 (by omega) (by omega)]; omega
  have c4:(0:Int)≤(i:Int):=by omega
  have c5:(i:Int)<zs.length:=by omega
  have w1:=ad6 (i:=i+1) (by omega);have g1:=hh (i+1) hlt;have g2:=hh i (by omega);have hle2:zs[i]=zs[i+1]∨R zs[i] zs[i+1]:=List.pairwise_iff_getElem.1 hs i (i+1) (by omega) hlt (by omega);by_cases e:zs[i+1]=zs[i]'(by omega)
  ·simp only[go_sem,c1,c2,c3,c4,c5,hot,g1,g2,e,Int.toNat_natCast,Nat.zero_add,Nat.mul_one,w1,fv9 (show i+1≤zs.length by omega)]
   refine ab3 noT (fun j fr t=>∃ (k:Nat) (cs:List IV) (D:List Int),fr=[(0,.slice id 0 zs.length 1),(3,.int .i64 (k:Int)),(4,.slice id (i+1) (zs.length-(i+1)) 1),(5,.int .i64 ((j+1:Nat):Int))] ∧
    (σ.next≤t.next∧∀ q,q≠id→t.obj q=σ.obj q)∧t.obj id=some (.row cs)∧zs.length≤cs.length∧k≤i+1+j∧i+1+j<zs.length∧D.length=k∧cs.take k=D.map iv∧D.Pairwise R∧(∀ x,x∈D↔x∈zs.take (i+1+j+1)) ∧
    ∀ (q:Nat) (h:q<zs.length),k≤q→(cs.drop q).head? = some (.int .i64 zs[q])) (zs.length-(i+1)) ?_ ?_
   ·refine ⟨i+1,zs.map iv++tl,zs.take (i+1),rfl,⟨by show σ.next≤t.next+10; omega,fun q _=>by rw[hob]⟩,hot,hml,by omega,by omega,by rw[List.length_take]; omega,by rw[List.take_append_of_le_length (by rw[List.length_map]; omega),List.map_take],hpw,fun x=>?_,fun q h _=>hh q h⟩;exact ch9 (p:=i) hlt e x
   rintro j fr u hj ⟨k,cs,D,rfl,⟨un,uo⟩,hoc,hcl,hk1,hk2,hDl,hDt,hDp,hDm,hcs⟩;by_cases hl2:j+1<zs.length-(i+1)
   ·have d1:((j+1:Nat):Int)<(zs.length-(i+1):Nat):=by omega
    have d2:(0:Int)≤((j+1:Nat):Int):=by omega
    have d3:IntKind.i64.wrap (((j+1:Nat):Int)-1)=(j:Int):=by rw[wrap64 (by omega) (by omega)]; omega
    have d4:(0:Int)≤(j:Int):=by omega
    have d5:(j:Int)<(zs.length-(i+1):Nat):=by omega
    have d6:(0:Int)≤(k:Int):=by omega
    have d7:(k:Int)<zs.length:=by omega
    have d8:k+1≤cs.length:=by omega
    have w2:=ad6 (i:=j+1) (by omega);have w3:=ad6 (i:=k) (by omega);have f1:=hcs (i+1+(j+1)) (by omega) (by omega);have f2:=hcs (i+1+j) (by omega) (by omega);by_cases e2:zs[i+1+(j+1)]=zs[i+1+j]
    ·simp only[go_sem,d1,d2,d3,d4,d5,hoc,f1,f2,e2,Int.toNat_natCast,Nat.zero_add,Nat.mul_one,w2];exact ⟨by omega,k,cs,D,rfl,⟨by omega,uo⟩,rfl,hcl,by omega,by omega,hDl,hDt,hDp,fun x=>(hDm x).trans (ch9 (p:=i+1+j) (by omega) e2 x),hcs⟩
    ·simp only[go_sem,d1,d2,d3,d4,d5,d6,d7,d8,hoc,f1,f2,e2,Int.toNat_natCast,Nat.zero_add,Nat.mul_one,w2,w3];have hle3:zs[i+1+j]=zs[i+1+(j+1)]∨R zs[i+1+j] zs[i+1+(j+1)]:=List.pairwise_iff_getElem.1 hs (i+1+j) (i+1+(j+1)) (by omega) (by omega) (by omega);have hn:=ch8 (zs:=zs) (p:=i+1+j) (by omega);have hR3:R zs[i+1+j] zs[i+1+(j+1)]:=hle3.elim (fun q=>absurd q.symm e2) fun q=>q
     have hlt3:∀ x∈D,R x zs[i+1+(j+1)]:=by
      intro x hx;obtain ⟨q,hq,rfl⟩:=List.mem_iff_getElem.1 ((hDm x).1 hx);rw[List.length_take] at hq;rw[List.getElem_take];by_cases hqe:q=i+1+j
      ·subst hqe; exact hR3
      ·rcases List.pairwise_iff_getElem.1 hs q (i+1+j) (by omega) (by omega) (by omega) with h|h
       ·rw[h]; exact hR3
       ·exact hT _ (List.getElem_mem _) _ (List.getElem_mem _) _ (List.getElem_mem _) h hR3
     have hb1:σ.next≤u.next+10:=by omega
     refine ⟨by omega,k+1,ao8 cs k [.int .i64 zs[i+1+(j+1)]],D++[zs[i+1+(j+1)]],rfl,⟨hb1,fun q hq=>by rw[if_neg hq]; exact uo q hq⟩,rfl,?_,by omega,by omega,by rw[List.length_append,hDl]; rfl,?_,?_,fun x=>?_,fun q h hq=>?_⟩
     ·rw[ae1 (by rw[List.length_singleton]; omega)]; exact hcl
     ·rw[de4 (by omega),hDt,List.map_append]; rfl
     ·exact List.pairwise_append.2 ⟨hDp,by simp,fun a ha b hb=>by
       simp only[List.mem_cons,List.not_mem_nil,or_false] at hb;subst hb; exact hlt3 a ha⟩
     ·rw[List.mem_append,hDm x];refine Iff.trans ?_ (hn x).symm;simp only[List.mem_cons,List.not_mem_nil,or_false];exact Iff.rfl
     ·rw[de5 (by omega) (by omega)];exact hcs q h (by omega)
   ·have d1:¬ ((j+1:Nat):Int)<(zs.length-(i+1):Nat):=by omega
    have hkn:k<zs.length:=by omega
    have hj':i+1+j+1=zs.length:=by omega
    rw[hj',List.take_length] at hDm;simp only[go_sem,d1,fv9 (show k≤zs.length by omega),gt8 (show k≤zs.length by omega),hoc,ii4,fw1 hoc hkn (by omega)];have hrl:(rep [IV.int .i64 0] (zs.length-k)).length=zs.length-k:=by rw[aq7]; simp
    refine ⟨⟨D,ao8 cs k (rep [IV.int .i64 0] (zs.length-k)),hDp,hDm,by rw[hDl],by simp only[aa4,if_true],by rw[hDl,du5 (by omega)]; exact hDt,?_⟩,un,fun q hq=>?_⟩
    ·rw[ae1 (by rw[hrl]; omega),hDl]; omega
    ·simp only[aa4,if_neg hq];exact uo q hq
  ·simp only[go_sem,c1,c2,c3,c4,c5,hot,g1,g2,e,Int.toNat_natCast,Nat.zero_add,Nat.mul_one,w1];refine ⟨by omega,⟨hob,by show σ.next≤_; omega⟩,by omega,?_⟩;rw[List.take_add_one,List.getElem?_eq_getElem hlt,List.pairwise_append];refine ⟨hpw,by simp,fun a ha b hb=>?_⟩;simp only[Option.toList,List.mem_cons,List.not_mem_nil,or_false] at hb;subst hb;obtain ⟨j,hj,rfl⟩:=List.mem_iff_getElem.1 ha;rw[List.length_take] at hj;rw[List.getElem_take];have hR2:R zs[i] zs[i+1]:=hle2.elim (fun q=>absurd q.symm e) fun q=>q
   by_cases hji:j=i
   ·subst hji; exact hR2
   ·rcases List.pairwise_iff_getElem.1 hs j i (by omega) (by omega) (by omega) with h|h
    ·rw[h]; exact hR2
    ·exact hT _ (List.getElem_mem _) _ (List.getElem_mem _) _ (List.getElem_mem _) h hR2
 ·have hi':i+1=zs.length:=by omega
  have c1:¬ ((i+1:Nat):Int)<zs.length:=by omega
  simp only[go_sem,c1];rw[hi',List.take_length] at hpw;exact ⟨⟨zs,zs.map iv++tl,hpw,fun _=>Iff.rfl,rfl,hot,by rw[List.take_append_of_le_length (by simp),List.take_of_length_le (by simp)],by simp⟩,hnx,fun j _=>by rw[hob]⟩
end Go.Id.Tryz
