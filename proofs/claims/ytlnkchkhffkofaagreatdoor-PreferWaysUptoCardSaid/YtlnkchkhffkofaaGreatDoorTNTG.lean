/- Numbers struck from a row; who may follow; who ab2,as a row of one's own. Conditions: sizes that fit. -/
import Derived.Test.YtlnkchkhffkofaaGreatDoorTNTE
import Derived.Test.YtlnkchkhffkofaaGreatDoorTNQO
set_option linter.all false
namespace Go.Id.Tryz
open Go Go.Id Go.Proofs Go.Shelf Go.Id.Md
set_option maxRecDepth 100000
theorem ei5 {α:Type}(q:α->Bool):∀ (l:List α) (i:Int),ai3 q l i=-1/\(∀ x∈l,q x=false)\/∃ k,∃ h:k<l.length,ai3 q l i=i+k/\q l[k]=true/\∀ x∈l.take k,q x=false:=by
 intro l
 induction l with
 | nil=>intro i; exact .inl ⟨rfl,fun x h=>by cases h⟩
 | cons a l ih=>
  intro i;simp only[ai3]
  cases hq:q a with
  | true=>exact .inr ⟨0,by simp,by simp,by simpa using hq,fun x h=>by cases h⟩
  | false=>
   simp only[Bool.false_eq_true,if_false];rcases ih (i+1) with ⟨h1,h2⟩|⟨k,h,h1,h2,h3⟩
   ·exact .inl ⟨h1,fun x hx=>by
     rcases List.mem_cons.1 hx with rfl|hx
     ·exact hq
     ·exact h2 x hx⟩
   ·refine .inr ⟨k+1,by simp only[List.length_cons]; omega,by rw[h1]; omega,by simpa using h2,fun x hx=>?_⟩;rw[List.take_succ_cons] at hx;rcases List.mem_cons.1 hx with rfl|hx
    ·exact hq
    ·exact h3 x hx
theorem cu3 {q:Int->Bool}{l:List Int}(h:∀ x∈l,q x=false):(l.filter fun x=>!q x)=l:=List.filter_eq_self.2 fun x hx=>by rw[h x hx]; rfl
theorem do3 {σ:Store}{id:Nat}{cs:List IV}{zs:List Int}(ho:σ.obj id=some (.row cs))(hct:cs.take zs.length=zs.map cl7)(hcl:zs.length<=cs.length):cn4 σ 0 (.slice id 0 zs.length 1) (.aa3 (zs.map Md.af3)):=by
 refine .slice id 0 zs.length 1 cs (zs.map Md.af3) (Nat.not_lt_zero _) (.inr ho) (by rw[List.length_map]) (by omega) (fun i hi=>?_) fun i hi j hj=>?_
 ·simp[List.getD_eq_getElem?_getD,hi,Md.af3]
 ·have hj0:j=0:=by omega
  subst hj0;have e2:((zs.map Md.af3).getD i []).getD 0 .undef=cl7 zs[i]:=by simp[List.getD_eq_getElem?_getD,hi,Md.af3]
  rw[e2,Nat.zero_add,Nat.mul_one,Nat.add_zero,ed3 hct hi];exact .keep _ (.int _ _)
theorem gb7 {σ:Store}{id g:Nat}{cap cs0:List IV}{zs:List Int}(q:Int->Bool)(hz:zs.length<2^40)(ho:σ.obj id=some (.row cs0))(hct:cs0.take zs.length=zs.map cl7)(hcl:zs.length<=cs0.length)
  (hok:okF Tryz.prog g=true) (hcap:∀ c∈cap,Bnd 0 c) (hq:∀ z∈zs,PC Tryz.prog EE g (.int .i64 z::cap) (.bool (q z))) :
  C Tryz.prog EE 88 [.slice id 0 zs.length 1,.func (.func g) [] cap] σ (fun v s=>σ.next<=s.next/\(∀ i,i≠id->s.obj i=σ.obj i) /\
   ∃ cs,v=.slice id 0 (zs.filter fun x=>!q x).length 1/\s.obj id=some (.row cs)/\cs.take (zs.filter fun x=>!q x).length=(zs.filter fun x=>!q x).map cl7/\(zs.filter fun x=>!q x).length<=cs.length):=by
 refine C_f fok88 (nZ rfl) ?_;simp only[ic88,go_sem]
 have hI:=bi4 (σ:=σ) (args:=[.slice id 0 zs.length 1,.func (.func g) [] cap]) (args':=[.aa3 (zs.map Md.af3),.func (.func g) [] cap]) hE rfl (fun i hi=>by
  match i,hi with
  | 0,_=>exact do3 ho hct hcl
  | 1,_=>exact .keep _ (.func _ _ _ (fun c hc=>by cases hc) hcap)) (by simp[IV.plain]) (cu2 zs g [] cap q (by omega) hok hq)
 refine ac9 fok76 hI ?_;rintro v s ⟨rfl,rfl⟩;refine ⟨Nat.le_refl _,?_⟩;rcases ei5 q zs 0 with ⟨h1,h2⟩|⟨i0,hi0,h1,h2,h3⟩
 ·simp only[go_sem,h1,cu3 h2];exact ⟨Nat.le_refl _,fun _ _=>trivial,cs0,ho,hct,hcl⟩
 have h1':ai3 q zs 0=(i0:Int):=by rw[h1]; omega
 have d1:¬ (i0:Int)=-1:=by omega
 have w0:=ad4 (i:=i0) (by omega);simp only[go_sem,h1',d1,w0]
 refine ab4 noT (fun j fr t=>∃ (k:Nat) (cs:List IV),fr=[(0,.slice id 0 zs.length 1),(1,.func (.func g) [] cap),(5,.int .i64 (k:Int)),(6,.int .i64 ((i0+1+j:Nat):Int))] /\
  (s.next<=t.next/\∀ q,q≠id->t.obj q=s.obj q)/\t.obj id=some (.row cs)/\cs.length=cs0.length/\k<=i0+j/\i0+1+j<=zs.length/\k=((zs.take (i0+1+j)).filter fun x=>!q x).length/\cs.take k=((zs.take (i0+1+j)).filter fun x=>!q x).map cl7 /\
  ∀ (x:Nat) (h:x<zs.length),i0+j<x->(cs.drop x).head? = some (.int .i64 zs[x])) (zs.length-(i0+1)) ?_ ?_
 ·have e:((zs.take (i0+1)).filter fun x=>!q x)=zs.take i0:=by
   rw[List.take_add_one,List.getElem?_eq_getElem hi0,List.filter_append,cu3 h3];simp[h2]
  refine ⟨i0,cs0,rfl,⟨Nat.le_refl _,fun _ _=>rfl⟩,ho,rfl,by omega,by omega,?_,?_,fun x h _=>?_⟩
  ·rw[Nat.add_zero,e,List.length_take]; omega
  ·rw[Nat.add_zero,e,List.map_take,<- hct,List.take_take];congr 1; omega
  ·have:=ed3 hct h;rw[List.head?_drop];rw[List.getD_eq_getElem?_getD,List.getElem?_eq_getElem (by omega)] at this;rw[List.getElem?_eq_getElem (by omega)];exact congrArg some this
 rintro j fr t hj ⟨k,cs,rfl,⟨un,uo⟩,hoc,hcl2,hk1,hk2,hk3,hk4,hcs⟩;by_cases hlt:j<zs.length-(i0+1)
 ·have e1:((i0+1+j:Nat):Int)<zs.length:=by omega
  have e2:(0:Int)<=((i0+1+j:Nat):Int):=by omega
  have hx:i0+1+j<zs.length:=by omega
  have g1:=hcs (i0+1+j) hx (by omega);have w1:=ad4 (i:=i0+1+j) (by omega);have w2:=ad4 (i:=k) (by omega);have hqz:=hq _ (List.getElem_mem hx);have e3:(0:Int)<=(k:Int):=by omega
  have e4:(k:Int)<zs.length:=by omega
  have e5:k+1<=cs.length:=by omega
  have htk:(zs.take (i0+1+j+1)).filter (fun x=>!q x)=(zs.take (i0+1+j)).filter (fun x=>!q x)++if q zs[i0+1+j] then [] else [zs[i0+1+j]]:=by
   rw[List.take_add_one,List.getElem?_eq_getElem hx,List.filter_append];congr 1;simp only[Option.toList,List.filter_cons,List.filter_nil];cases q zs[i0+1+j]<;>rfl
  simp only[go_sem,e1,e2,hoc,g1,Int.toNat_natCast,Nat.zero_add,Nat.mul_one];refine an7 hok (ff2 hqz) ?_;rintro v u ⟨rfl,rfl⟩;refine ⟨Nat.le_refl _,?_⟩
  cases hb:q zs[i0+1+j] with
  | true=>
   rw[hb,if_pos rfl,List.append_nil] at htk;simp only[go_sem,w1]
   exact ⟨hlt,k,cs,rfl,⟨un,uo⟩,hoc,hcl2,by omega,by omega,by rw[show i0+1+(j+1)=i0+1+j+1 by omega,htk]; exact hk3,by rw[show i0+1+(j+1)=i0+1+j+1 by omega,htk]; exact hk4,fun x h hx=>hcs x h (by omega)⟩
  | false=>
   rw[hb,if_neg (by simp)] at htk;simp only[go_sem,w1,w2,e3,e4,e5,hoc,Int.toNat_natCast,Nat.zero_add,Nat.mul_one];refine ⟨hlt,k+1,as6 cs k [.int .i64 zs[i0+1+j]],rfl,⟨un,fun q hq=>?_⟩,?_,?_,by omega,by omega,?_,?_,fun x h hx=>?_⟩
   ·simp only[if_neg hq]; exact uo q hq
   ·rfl
   ·rw[af8 (by rw[List.length_singleton]; omega)]; exact hcl2
   ·rw[show i0+1+(j+1)=i0+1+j+1 by omega,htk,List.length_append,<- hk3]; rfl
   ·rw[show i0+1+(j+1)=i0+1+j+1 by omega,htk,dg2 (by omega),hk4,List.map_append]; rfl
   ·rw[dg3 (by omega) (by omega)];exact hcs x h (by omega)
 ·have hj':i0+1+j=zs.length:=by omega
  have e1:¬ ((i0+1+j:Nat):Int)<zs.length:=by omega
  rw[hj',List.take_length] at hk3 hk4;have hkn:k<zs.length:=by omega
  simp only[go_sem,e1,ga1 (show k<=zs.length by omega),gy6 (show k<=zs.length by omega),hoc,in3,ga2 hoc hkn (by omega)];have hrl:(rep [IV.int .i64 0] (zs.length-k)).length=zs.length-k:=by rw[ar7]; simp
  refine ⟨un,fun q hq=>?_,as6 cs k (rep [IV.int .i64 0] (zs.length-k)),by rw[hk3],by simp only[aa4,if_true],?_,?_⟩
  ·simp only[aa4,if_neg hq]; exact uo q hq
  ·rw[<- hk3,dx7 (by omega)]; exact hk4
  ·rw[af8 (by rw[hrl]; omega),<- hk3]; omega
theorem ei6 (a:ah7)(down other:Bool)(old q:aa2)(h1:Pkg.small old)(h2:Pkg.small q):PC Tryz.prog EE 47 [.agg q.cs,.ab6 old.cs,.ab6 [.bool down],.ab6 [.bool other],.ab6 [a.v]] (.bool (ah7.dv3 a.r.vendor down other old q)):=by
 refine ag3 hE fok47 (nZ rfl) (ij4 (ap5 _) (.ab6 _ (ag9 _)) (.ab6 _ (av3 (.bool _))) (.ab6 _ (av3 (.bool _))) (.ab6 _ (av3 (aq2 a)))) ?_;have hf:=fh8 q.an1 old.an1;have hev:=at6 q.evr old.evr h2.1 h1.1;have p0:q.cs.head? = some (.str q.name):=rfl;have q0:old.cs.head? = some (.str old.name):=rfl;have p4:(q.cs.drop 4).head? = some (.int .u8 q.an1):=rfl;have q4:(old.cs.drop 4).head? = some (.int .u8 old.an1):=rfl;have p5:(q.cs.drop 5).head? = some (.str q.vendor):=rfl;have q5:(old.cs.drop 5).head? = some (.str old.vendor):=rfl;have p1:(q.cs.drop 1).take 3=q.evr.cs:=rfl;have q1:(old.cs.drop 1).take 3=old.evr.cs:=rfl;unfold ah7.dv3;unfold ah7.v ah7.cs;by_cases e1:q.name=old.name
 case neg=>
  simp only[ic47,go_sem,ag1,ag6,af1,p0,q0,e1];exact ad9 (by simp)
 simp only[ic47,go_sem,ag1,ag6,af1,p0,q0,e1];cases down
 case' true=>simp only[go_sem]
 case' false=>
  simp only[go_sem,gs3,p1,q1]
  first|refine aa5 fok20 (hev) ?_|refine aa6 (hev) ?_
  by_cases e2:0<=ak8 q.evr old.evr
  case neg=>
   simp only[go_sem,e2];exact ad9 (by simp)
  simp only[go_sem,e2]
 all_goals
  cases other
  case' true=>simp only[go_sem]
  case' false=>
   simp only[go_sem,p4,q4]
   first|refine aa5 fok48 (hf) ?_|refine aa6 (hf) ?_
   cases cn9 q.an1 old.an1
   case false=>
    simp only[go_sem];exact ad9 (by simp)
   simp only[go_sem]
  all_goals
   cases a.r.vendor
   case true=>
    simp only[go_sem];exact ad9 (by simp)
   by_cases e3:q.vendor=old.vendor
   ·simp only[go_sem,p5,q5,e3];exact ad9 (by simp)
   ·simp only[go_sem,p5,q5,e3];exact ad9 (by simp)
theorem cu4 (l:List aa2)(n:Nat)(hl:l.length<2^20)(hn:n<l.length)(hs:∀ p∈l,Pkg.small p)(σ:Store):C Tryz.prog EE 49 [(ai8 l).v,.int .i64 n] σ (ed2 σ (aj9 l n)):=by
 have hi:=bi8 l;have hlook:=hi.over (l.getD n default).name
 have hsift:∀ (σ:Store) v,(v=.aa3 ((ad6 (ai8 l).over (l.getD n default).name).map Md.af3)\/v=.aa1/\ad6 (ai8 l).over (l.getD n default).name=[])->C Tryz.prog EE 116 [(ai8 l).v,v,.func (.func 117) [] [.ab6 [.int .i64 n],.ab6 [(ai8 l).v]]] σ (ed2 σ (aj9 l n)):=by
  intro σ v hv
  have h:=io5 (ai8 l) (ad6 (ai8 l).over (l.getD n default).name) (by rw[hlook]; have:=ay4 (fun p=>decide (∃ d∈p.ab2,d.name=(l.getD n default).name)) l; omega) 117 [.ab6 [.int .i64 n],.ab6 [(ai8 l).v]] (fun k=>decide (k.toNat≠n)&&ab2 (l.getD k.toNat default) (l.getD n default)) fok117.1 (fun k hk=>by
   rw[hlook] at hk;obtain ⟨m,rfl,hm⟩:=numsOf_at hk;refine ⟨m,rfl,by rw[hi.all]; exact hm,?_⟩;have e:(ai8 l).all[m]'(by rw[hi.all]; exact hm)=l[m]:=by simp only[hi.all]
   rw[e,Int.toNat_natCast,getD_at l m hm,getD_at l n hn];exact fz9 l m n hm hn hs) σ
  have e:aj9 l n=(ad6 (ai8 l).over (l.getD n default).name).filter fun k=>decide (k.toNat≠n)&&ab2 (l.getD k.toNat default) (l.getD n default):=rfl
  rw[<- e] at h;rcases hv with rfl|⟨rfl,h0⟩
  ·exact h
  ·rw[h0] at h;refine io4 (args':=[(ai8 l).v,.aa3 [],.func (.func 117) [] [.ab6 [.int .i64 n],.ab6 [(ai8 l).v]]]) rfl (fun i hi=>?_) h;have hw:∀ {v:IV} {σ:Store},Bnd 0 v->Frz σ (fun _=>true=true) v v:=fun h=>.keep _ (h.weak fun _ _=>rfl)
   have hb:=bf4 (ai8 l)
   match i,hi with
   | 0,_=>exact hw hb
   | 1,_=>exact .bg7
   | 2,_=>exact hw (.func _ _ _ (fun c hc=>by cases hc) (ah6 (.ab6 _ (av3 (.int _ _))) (.ab6 _ (av3 hb))))
 have hx:(ai8 l).v=.ab6 [.aa3 (l.map aa2.cs),.al8 (nmV (ai8 l).av4),.al8 (nmV (ai8 l).names),.al8 (nmV (ai8 l).over)]:=by
  show IV.ab6 [.aa3 ((ai8 l).all.map aa2.cs),_,_,_]=_;rw[hi.all]
 have his:=hs8 (ai8 l) n
 have i1:(decide ((0:Int)<=(n:Int))&&decide ((n:Int)<(ai8 l).all.length))=true:=by
  rw[hi.all]; simp only[Bool.and_eq_true,decide_eq_true_eq]; omega
 rw[i1] at his
 have hk0:∀ σ:Store,∃ v,cw8 σ 2 .aa1 false (.al8 (nmV (ai8 l).over)) (.str (l.getD n default).name)=some v/\∀ τ,C Tryz.prog EE 116 [(ai8 l).v,v,.func (.func 117) [] [.ab6 [.int .i64 n],.ab6 [(ai8 l).v]]] τ (ed2 τ (aj9 l n)):=fun σ=>
  let ⟨v,h1,h2⟩:=fz6 (ai8 l).over σ (l.getD n default).name
  ⟨v,h1,fun τ=>hsift τ v h2⟩
 have hg:(l.map aa2.cs).getD n []=l[n].cs:=by simp[List.getD_eq_getElem?_getD,hn]
 have hnm:(l.getD n default).name=l[n].name:=by rw[getD_at l n hn]
 have p0:l[n].cs.head? = some (.str l[n].name):=rfl;have hle:(l.map aa2.cs).length=l.length:=List.length_map ..;clear hsift hlook i1;rw[hnm] at hk0;rw[hx] at hk0 his ⊢;generalize aj9 l n=res at *;generalize l.map aa2.cs=a0 at *;generalize l[n]=q at *;have c1:(0:Int)<=n:=by omega
 have c2:(n:Int)<a0.length:=by omega
 refine C_f fok49 (nZ rfl) ?_;simp only[ic49,go_sem]
 first|refine aa5 fok115 (his) ?_|refine aa6 (his) ?_
 simp only[go_sem,c1,c2,hg,p0,av9,aq7,ao7];obtain ⟨v,hk,hsv⟩:=hk0 ⟨σ.next+17,σ.obj⟩;simp only[go_sem,hk];refine ac9 fok116 (hsv _) ?_;rintro v' s ⟨hkp,hr⟩;refine ⟨hkp.next,?_⟩;simp only[go_sem];exact ⟨hkp.low,hr.low (Nat.le_add_right _ _)⟩
theorem do4 {σ:Store}{id:Nat}{cs:List IV}(ho:σ.obj id=some (.cells cs))(hb:∀ c∈cs,Bnd 0 c):cn4 σ 0 (.ptr id 0) (.ab6 cs):=by
 refine .ptr id 0 cs cs (Nat.not_lt_zero _) (.inl ho) (by omega) (fun j hj=>?_);rw[Nat.zero_add];exact .keep _ (hb _ (ad5 _ hj))
theorem ip1 (zs:List Int):(hs9 zs).Pairwise (·<=·):=by
 refine List.Pairwise.imp (fun h=>of_decide_eq_true h) (List.pairwise_mergeSort (le:=fun x y:Int=>decide (x<=y)) (fun a b c h1 h2=>?_) (fun a b=>?_) _)
 ·exact decide_eq_true (Int.le_trans (of_decide_eq_true h1) (of_decide_eq_true h2))
 ·rcases Int.le_total a b with h|h
  ·simp[h]
  ·simp[h]
theorem dg8 (a:ah7)(i:Int)(hA:AOK a)(σ:Store):C Tryz.prog EE 15 [a.v,.int .i64 i] σ (iw7 σ (a.aw7 i)):=by
 have hin:=fj1 a i;refine C_f fok15 (nZ rfl) ?_;unfold ah7.aw7
 cases hi:a.inst i with
 | false=>
  rw[hi] at hin;unfold ah7.v ah7.cs at *;simp only[ic15,go_sem]
  first|refine aa5 fok44 (hin) ?_|refine aa6 (hin) ?_
  simp only[go_sem]
  exact ⟨Kept.refl σ,.inl ⟨rfl,rfl⟩⟩
 | true=>
 rw[hi] at hin;have his:a.is i=true:=by unfold ah7.inst at hi; exact (Bool.and_eq_true _ _▸hi).1
 obtain ⟨i1,i2,i3,i4⟩:=io6 a his;obtain ⟨m,rfl⟩:∃ m:Nat,i=m:=⟨i.toNat,by omega⟩;have hml:m<a.l.length:=by rw[List.length_map] at i2; omega
 have e3:=bj6 a 3 m hA;have e4:=bj6 a 4 m hA;have n4:=ei3 a 4 m hA;have hob:=cu4 a.l m (by have:=hA.len; omega) hml hA.small;have hlen:=hA.len
 have hall:∀ n (h:n<a.l.length),(a.l.map aa2.cs).getD n []=(a.pk n).cs/\a.pk (n:Int)∈a.l:=fun n h=>by
  have hn:a.is (n:Int)=true:=by rw[ah7.df3]; exact decide_eq_true h
  obtain ⟨_,_,h3,h4⟩:=io6 a hn;exact ⟨by simpa using h3,h4⟩
 have hfl:∀ down other n (h:n<a.l.length),PC Tryz.prog EE 47 [.agg (a.pk n).cs,.ab6 (a.pk m).cs,.ab6 [.bool down],.ab6 [.bool other],.ab6 [a.v]] (.bool (ah7.dv3 a.r.vendor down other (a.pk m) (a.pk n))):=
  fun down other n h=>ei6 a down other _ _ (hA.small _ i4) (hA.small _ (hall n h).2)
 have hba:=aq2 a;unfold ah7.ja8;unfold ah7.v ah7.cs at *;generalize (ai8 a.l).v=X at *;generalize a.p.v=Pv at *;have c0:(0:Int)<=m:=by omega
 have c2:(m:Int)<a.l.length:=by omega
 have hgm:=(hall m hml).1;generalize hdn:(a.cj9 3 m||a.cs6 4 m)=down;generalize hot:a.cj9 4 m=other at *;simp only[ic15,go_sem]
 first|refine aa5 fok44 (hin) ?_|refine aa6 (hin) ?_
 simp only[go_sem,c0,c2,hgm,ag1,ag6,af1];cases h3:a.cj9 3 m
 case' true=>
  rw[h3] at hdn e3;have hd:true=down:=by simpa using hdn
  first|refine aa5 fok45 (e3) ?_|refine aa6 (e3) ?_
  simp only[go_sem]
 case' false=>
  rw[h3] at hdn e3;have hd:a.cs6 4 m=down:=by simpa using hdn
  first|refine aa5 fok45 (e3) ?_|refine aa6 (e3) ?_
  simp only[go_sem]
  first|refine aa5 fok46 (n4) ?_|refine aa6 (n4) ?_
  simp only[go_sem]
 all_goals
  first|refine aa5 fok45 (e4) ?_|refine aa6 (e4) ?_
  simp only[go_sem];refine ac9 fok49 (hob _) ?_;rintro v s ⟨hk0,hr0⟩;refine ⟨hk0.next,?_⟩;simp only[go_sem];have g1:¬ σ.next=σ.next+1+1:=by omega
  have g2:¬ σ.next=σ.next+1:=by omega
  have g3:¬ σ.next+1=σ.next+1+1:=by omega
  have b5:s.obj σ.next=some (.cells (a.pk m).cs):=(hk0.obj σ.next (by show σ.next<σ.next+_; omega)).trans (by simp only[aa4,g1,g2,if_true,if_false]);have b6:s.obj (σ.next+1)=some (.cells [.bool down]):=(hk0.obj (σ.next+1) (by show σ.next+1<σ.next+_; omega)).trans (by simp only[aa4,g3,if_true,if_false,hd]);have b7:s.obj (σ.next+1+1)=some (.cells [.bool other]):=(hk0.obj (σ.next+1+1) (by show σ.next+1+1<σ.next+_; omega)).trans (by simp only[aa4,if_true])
  have blo:∀ i,i<σ.next->s.obj i=σ.obj i:=fun i hi=>(hk0.obj i (by show i<σ.next+_; omega)).trans (by
   have u1:¬ i=σ.next:=by omega
   have u2:¬ i=σ.next+1:=by omega
   have u3:¬ i=σ.next+1+1:=by omega
   simp only[aa4,u1,u2,u3,if_false])
  have bnx:σ.next+1+1+1<=s.next:=Nat.le_trans (by show σ.next+1+1+1<=σ.next+_; omega) hk0.next;have hr1:as8 s (σ.next+1+1+1) v (aj9 a.l m):=hr0.low (by show σ.next+1+1+1<=σ.next+_; omega);clear hk0 hr0 hob e3 e4 n4 hin;generalize hq:(fun n:Nat=>decide ((n:Int)=m)||ah7.dv3 a.r.vendor down other (a.pk m) (a.pk n))=qq;have hqn:∀ n,qq n=(decide ((n:Int)=m)||ah7.dv3 a.r.vendor down other (a.pk m) (a.pk n)):=fun n=>by rw[<- hq]
  have hobl:=ct9 a.l m;have obm:=fun k=>ct8 (l:=a.l) (n:=m) (k:=k)
  generalize aj9 a.l m=ob at *
  refine ab4 noT (fun n fr t=>∃ gv,fr=[(1,.int .i64 (m:Int)),(8,.func (.func 47) [] [.ptr σ.next 0,.ptr (σ.next+1) 0,.ptr (σ.next+1+1) 0,.ab6 [.ab6 [Pv,X,.int .u8 a.r.an1,.bool a.r.vendor,bs3 a.r.an2,aw6 a.r.al4,.int .i64 a.r.budget,.aa3 (a.l.map aa2.cs)]]]),(9,gv),(44,.aa3 (a.l.map aa2.cs)),(45,.int .i64 a.l.length),(46,.int .i64 (n:Int))] /\
   Kept ⟨σ.next+1+1+1,s.obj⟩ t/\as8 t (σ.next+1+1+1) gv (ob++am6 qq n)) a.l.length ⟨v,rfl,⟨bnx,fun _ _=>rfl⟩,by rw[show am6 qq 0=[] from rfl,List.append_nil]; exact hr1⟩ ?_
  rintro n fr t hn ⟨gv,rfl,hk,hg⟩;by_cases hlt:n<a.l.length
  ·have d1:(n:Int)<a.l.length:=by omega
   have d2:(0:Int)<=n:=by omega
   have w1:=ad4 (i:=n) (by omega);have hgn:=(hall n hlt).1;have hpn:=hfl down other n hlt;have hsn:=df1 qq n;have hln:=az3 qq n;have hzl:(ob++am6 qq n).length<2147483648:=by rw[List.length_append]; omega
   have n5:¬ σ.next=t.next:=by have:=hk.next; show ¬ _; intro e; have:σ.next+1+1+1<=t.next:=this; omega
   have n6:¬ σ.next+1=t.next:=by have:=hk.next; intro e; have:σ.next+1+1+1<=t.next:=this; omega
   have n7:¬ σ.next+1+1=t.next:=by have:=hk.next; intro e; have:σ.next+1+1+1<=t.next:=this; omega
   have t5:=(hk.obj σ.next (by show σ.next<σ.next+1+1+1; omega)).trans b5;have t6:=(hk.obj (σ.next+1) (by show σ.next+1<σ.next+1+1+1; omega)).trans b6;have t7:=(hk.obj (σ.next+1+1) (by show σ.next+1+1<σ.next+1+1+1; omega)).trans b7;by_cases e:(n:Int)=m
   case' pos=>
    have hqt:qq n=true:=by rw[hqn,e]; simp
    have e':n=m:=by omega
    subst e';simp only[go_sem,d1,d2,hgn,ag1,ag6,af1,eq_self]
   case' neg=>
    simp only[go_sem,d1,d2,hgn,ag1,ag6,af1,e]
    refine an7 fok47.1 (bi4 (args':=[.agg (a.pk n).cs,.ab6 (a.pk m).cs,.ab6 [.bool down],.ab6 [.bool other],.ab6 [.ab6 [Pv,X,.int .u8 a.r.an1,.bool a.r.vendor,bs3 a.r.an2,aw6 a.r.al4,.int .i64 a.r.budget,.aa3 (a.l.map aa2.cs)]]]) hE rfl (fun i hi=>by
     match i,hi with
     | 0,_=>exact .keep _ (ap5 _)
     | 1,_=>exact do4 (by simp only[aa4,n5,if_false]; exact t5) (ag9 _)
     | 2,_=>exact do4 (by simp only[aa4,n6,if_false]; exact t6) (av3 (.bool _))
     | 3,_=>exact do4 (by simp only[aa4,n7,if_false]; exact t7) (av3 (.bool _))
     | 4,_=>exact .keep _ (.ab6 _ (av3 hba))) (by simp[IV.plain]) hpn) ?_
    rintro v' u ⟨rfl,rfl⟩;refine ⟨Nat.le_refl _,?_⟩;cases hfb:ah7.dv3 a.r.vendor down other (a.pk m) (a.pk n)
    case' false=>
     have hqt:qq n=false:=by rw[hqn,hfb]; simp[e]
     rw[hqt] at hsn;simp only[go_sem,w1];rw[if_neg (by simp),List.append_nil] at hsn;exact ⟨hlt,gv,rfl,hk.trans (Kept.box t _ _),by rw[hsn]; exact hg.kept (Kept.box t _ _)⟩
    have hqt:qq n=true:=by rw[hqn,hfb]; simp
    simp only[go_sem]
   all_goals
    rw[hqt,if_pos rfl] at hsn;rw[ed4 (s:=⟨t.next+1+1,_⟩) (lo:=σ.next+1+1+1) (zs:=ob++am6 qq n) ((hg.kept (Kept.box t _ _)).up 1) (n:Int) hzl];simp only[go_sem,w1];have hz:=em7 (hk.trans (Kept.box t (.cells [.str [],.int .i64 0,.str [],.str [],.int .u8 0,.str [],.aa1,.aa1,.aa1,.aa1,.aa1,.aa1,.aa1,.aa1,.aa1]) (.cells (a.pk n).cs))) (hg.kept (Kept.box t _ _)) (n:Int) (a:=1) (nid:=t.next+1) (Nat.le_refl _) (Nat.lt_succ_self _) rfl;rw[hsn,<- List.append_assoc];exact ⟨hlt,_,rfl,hz.1,hz.2⟩
  ·have hn':n=a.l.length:=by omega
   subst hn';have d1:¬ (a.l.length:Int)<(a.l.length:Int):=by omega
   simp only[go_sem,d1];have hln:=az3 qq a.l.length;have hzl:(ob++am6 qq a.l.length).length<2^20:=by rw[List.length_append]; omega
   have hmm:(m:Int)∈ob++am6 qq a.l.length:=List.mem_append_right _ (at5.2 ⟨m,rfl,hml,by rw[hqn]; simp⟩)
   have hfin:∀ D:List Int,D.Pairwise (· < ·)->(∀ x,x∈D↔x∈ob++am6 qq a.l.length)->D=am6 (fun n=>decide ((n:Int)=m)||ah7.dv3 a.r.vendor down other (a.pk m) (a.pk n)||(!decide ((n:Int)=m)&&ab2 (a.pk n) (a.pk m))) a.l.length:=fun D h1 h2=>ga4 h1 (dl7 _ _) fun x=>by
    rw[h2,List.mem_append,obm,at5,at5];constructor
    ·rintro (⟨u,rfl,h3,h4,h5⟩|⟨u,rfl,h3,h4⟩)
     ·refine ⟨u,rfl,h3,?_⟩;have h6:¬ (u:Int)=m:=by omega
      simp only[ah7.pk,Int.toNat_natCast,h5,h6,decide_false,Bool.not_false,Bool.and_self,Bool.or_true]
     ·rw[hqn] at h4;exact ⟨u,rfl,h3,by rw[h4,Bool.true_or]⟩
    ·rintro ⟨u,rfl,h3,h4⟩;rw[Bool.or_eq_true] at h4;rcases h4 with h4|h4
     ·exact .inr ⟨u,rfl,h3,by rw[hqn]; exact h4⟩
     ·simp only[Bool.and_eq_true,Bool.not_eq_true',decide_eq_false_iff_not,ah7.pk,Int.toNat_natCast] at h4;exact .inl ⟨u,rfl,h3,by omega,h4.2⟩
   generalize ob++am6 qq a.l.length=zs at *;rcases hg with ⟨_,h0⟩|⟨id,hid1,hid2,rfl,ho⟩
   ·rw[h0] at hmm; cases hmm
   refine ac9 fok50 (fi7 (zs:=zs) (by omega) ho) ?_;rintro v s' ⟨rfl,rfl⟩;refine ⟨by show t.next<=_; exact Nat.le_refl _,?_⟩;simp only[go_sem];have hsl:(hs9 zs).length=zs.length:=List.length_mergeSort _;have hc:=ga3 (σ:=t.put id (.row ((hs9 zs).map (IV.int .i64)))) (id:=id) (zs:=hs9 zs) (by omega) (by simp only[aa4,if_true]) (ip1 zs);rw[hsl] at hc;refine ac9 fok51 hc ?_;rintro v s' ⟨⟨D,cs,q1,q2,rfl,q4,q5,q6⟩,hsn,hso⟩;refine ⟨hsn,?_⟩;have hD:=hfin D q1 fun x=>(q2 x).trans List.mem_mergeSort
   simp only[go_sem];have hsn':t.next<=s'.next:=hsn;have hkn:σ.next+1+1+1<=t.next:=hk.next;rw[<- hD];refine ⟨⟨by omega,fun i hi=>?_⟩,.inr ⟨id,cs,by omega,by omega,rfl,q4,q5,q6⟩⟩;have hne:i≠id:=by omega
   rw[hso i hne];show (if i=id then _ else t.obj i)=_;rw[if_neg hne,hk.obj i (by show i<σ.next+1+1+1; omega)];exact blo i hi
theorem ei7 (a:ah7)(i:Int)(hA:AOK a):PC Tryz.prog EE 15 [a.v,.int .i64 i] (.aa3 ((a.aw7 i).map Md.af3)):=ii3 fun σ=>dg8 a i hA σ
structure ei8 (r:Req):Prop where
 an2:r.an2.length<2^20
 al4:r.al4.length<2^20
 ir8:∀ j∈r.an2,Dep.small j.dep/\j.dep.name.length<2^30
theorem bj7 (r:Req):∀ c∈r.cs,Bnd 0 c:=ij4 (.int _ _) (.bool _) (bx6 _) (az8 _) (.int _ _)
theorem bs9 (r:Req):r.cs.length=5:=rfl
theorem ar1 (r:Req):r.cs.all IV.leaf=true:=rfl
theorem bp1 (r:Req):r.cs.take 5=r.cs:=rfl
theorem gb8 (j:Job)(h:Dep.small j.dep/\j.dep.name.length<2^30):PC Tryz.prog EE 94 [.agg j.cs] (.bool (!ck3 j)):=by
 refine ag3 hE fok94 (nZ rfl) (av3 (gs2 j)) ?_;have hd:=bj3 j.dep (by omega) (by have:=h.1.2.2.1; omega) (by have:=h.1.2.2.2; omega);have k0:j.cs.head? = some (.int .u8 j.kind):=rfl;have k1:=eq7 j;have k2:(j.cs.drop 1).length=5:=rfl;unfold ck3;by_cases e1:j.kind<1
 ·have e1':¬ 1<=j.kind:=by omega
  simp only[ic94,go_sem,bo8,k0,e1];exact ad9 (by simp[e1'])
 have e1':1<=j.kind:=by omega
 by_cases e2:4<j.kind
 ·have e2':¬ j.kind<=4:=by omega
  simp only[ic94,go_sem,bo8,k0,e1,e2];exact ad9 (by simp[e2'])
 have e2':j.kind<=4:=by omega
 simp only[ic94,go_sem,bo8,k0,k1,k2,e1,e2]
 first|refine aa5 fok95 (hd) ?_|refine aa6 (hd) ?_
 simp only[go_sem];exact ad9 (by simp[e1',e2'])
theorem fj4 (e:ba2)(an2 inst:Int):PC Tryz.prog EE 98 [.agg e.cs,.int .i64 an2,.int .i64 inst] (.bool (bs4 e an2 inst)):=by
 refine ag3 hE fok98 (nZ rfl) (aw5 (bx7 e) (.int _ _) (.int _ _)) ?_;have k0:e.cs.head? = some (.int .u8 e.kind):=rfl;have k1:(e.cs.drop 1).head? = some (.int .i64 e.n):=rfl;unfold bs4;by_cases d1:e.kind=1
 case' pos=>
  have f1:(1:Int)<=1:=by decide
  have f2:(1:Int)<=4:=by decide
  rw[d1] at k0 ⊢;simp only[ic98,go_sem,ao8,k0,f1,f2,k1];generalize an2=most
 case' neg=>
  rw[if_neg d1];by_cases d2:1<=e.kind
  case' neg=>
   simp only[ic98,go_sem,ao8,k0,d1,d2];exact ad9 (by simp)
  by_cases d3:e.kind<=4
  case' neg=>
   simp only[ic98,go_sem,ao8,k0,d1,d2,d3];exact ad9 (by simp)
  simp only[ic98,go_sem,ao8,k0,d1,d2,d3,k1];generalize inst=most
 all_goals
  by_cases d4:0<=e.n
  ·simp only[go_sem,d4,k1];exact ad9 (by simp)
  ·simp only[go_sem,d4];exact ad9 (by simp)
theorem hv9 (e:ba2)(p:Pool)(r:Req):PC Tryz.prog EE 97 [.agg e.cs,.ab6 r.cs,.ab6 [p.v]] (.bool (!bs4 e r.an2.length p.inst)):=by
 refine ag3 hE fok97 (nZ rfl) (aw5 (bx7 e) (.ab6 _ (bj7 r)) (.ab6 _ (av3 (aq8 p)))) ?_;have h1:=ax2 p;have h2:=fj4 e r.an2.length p.inst;have k2:(r.cs.drop 2).head? = some (bs3 r.an2):=rfl;simp only[ic97,go_sem,ao8,bo9,bj5,k2]
 first|refine aa5 fok99 (h1) ?_|refine aa6 (h1) ?_
 simp only[go_sem]
 first|refine aa5 fok98 (h2) ?_|refine aa6 (h2) ?_
 simp only[go_sem];exact ad9 rfl
theorem gz2 (r:Req)(h1:r.an2.length<=2147483648)(h2:r.al4.length<=2147483648):PC Tryz.prog EE 101 [.agg r.cs] (.agg r.cs):=by
 refine ag3 hE fok101 (nZ rfl) (av3 (.agg _ (bj7 r))) ?_;have c1:=ei2 r.an2 h1;have c2:=dy1 r.al4 h2;have hb:=bj7 r;unfold Req.cs at *;simp only[ic101,go_sem]
 first|refine aa5 fok173 (c1) ?_|refine aa6 (c1) ?_
 simp only[go_sem]
 first|refine aa5 fok174 (c2) ?_|refine aa6 (c2) ?_
 simp only[go_sem];exact .keep _ (.agg _ hb)
theorem hw5 {α:Type}(q:α->Bool)(l:List α):(l.any fun x=>!q x)=!l.all q:=by
 induction l with
 | nil=>rfl
 | cons x l ih=>simp only[List.any_cons,List.all_cons,ih,Bool.not_and]
theorem gb9 (p:Pool)(r:Req)(hR:ei8 r)(hl:(ac8 p).length<=256)(hf:∀ x∈ac8 p,x.Fit/\x.Tiny):PC Tryz.prog EE 42 [p.v,.agg r.cs] (ik6 p r):=by
 refine ag3 hE fok42 (nZ rfl) (ah6 (aq8 p) (.agg _ (bj7 r))) ?_;have hm:=ci2 r.an1;have hJ:=ga7 r.an2 94 [] [] (fun j=>!ck3 j) (by have:=hR.an2; omega) fok94.1 fun j hj=>gb8 j (hR.ir8 j hj)
 have hEd:=fi8 r.al4 97 [] [.ab6 r.cs,.ab6 [p.v]] (fun e=>!bs4 e r.an2.length p.inst) (by have:=hR.al4; omega) fok97.1 fun e he=>hv9 e p r
 rw[hw5] at hJ hEd;have hrl:p.rows.length=(ac8 p).length:=by simp[ac8]
 have hM:=bf3 p (fun x hx=>(hf _ (List.mem_map_of_mem (f:=fun x:ax5=>x.pkg) hx)).1) (by omega) (fun x hx=>by
  have:=(hf _ (List.mem_map_of_mem (f:=fun x:ax5=>x.pkg) hx)).2;have a:=this.av4.1; have b:=this.obs.1; have c:=this.files; omega)
 have hM:PC Tryz.prog EE 100 [p.v] (.tuple [(ai8 (ac8 p)).v,.int .i64 0]):=hM;have hO:=gz2 r (by have:=hR.an2; omega) (by have:=hR.al4; omega);have hC:=bb3 p;rw[hrl] at hC
 have hpk:∀ j (h:j<(ac8 p).length),PC Tryz.prog EE 19 [p.v,.int .i64 j] (.tuple [.agg (ac8 p)[j].cs,.int .i64 0]):=fun j h=>by
  have hq:p.rows[j].pkg=(ac8 p)[j]:=by simp[ac8]
  have h1:=av8 p j (by omega) (by rw[hq]; exact (hf _ (List.getElem_mem h)).1);rw[hq] at h1; exact h1
 have hbA:=aq2 ⟨p,r⟩;have k0:r.cs.head? = some (.int .u8 r.an1):=rfl;have k2:(r.cs.drop 2).head? = some (bs3 r.an2):=rfl;have k3:(r.cs.drop 3).head? = some (aw6 r.al4):=rfl;have k4:(r.cs.drop 4).head? = some (.int .i64 r.budget):=rfl;obtain ⟨V,hV⟩:∃ V,ik6 p r=V:=⟨_,rfl⟩
 have herr:∀ (s:Store) (e:Int),au3 r p.inst=e->e≠0->cn4 s 0 (.tuple [.ab7,.int .i64 e]) V:=fun s e h1 h2=>by
  rw[<- hV];unfold ik6;rw[h1,if_neg h2];exact .keep _ (.tuple _ (ah6 .ab7 (.int _ _)))
 rw[hV];have vcs:p.v.cs=[p.v]:=rfl;have vlf:p.v.leaf=true:=rfl;have vnl:∀ d:TypeId,cl1 (.pointer d) p.v=some false:=fun _=>rfl
 by_cases c1:cw2 r.an1=false
 ·simp only[ic42,go_sem,vcs,List.all_cons,vlf,List.all_nil,List.head?_cons,ar1,vnl,k0]
  first|refine aa5 fok92 (hm) ?_|refine aa6 (hm) ?_
  simp only[go_sem,c1];exact herr _ 1 (by unfold au3; rw[if_pos (.inl c1)]) (by decide)
 have c1':cw2 r.an1=true:=by simpa using c1
 by_cases c2:r.budget<0
 ·simp only[ic42,go_sem,vcs,List.all_cons,vlf,List.all_nil,List.head?_cons,ar1,vnl,k0]
  first|refine aa5 fok92 (hm) ?_|refine aa6 (hm) ?_
  simp only[go_sem,c1',k4,c2];exact herr _ 1 (by unfold au3; rw[if_pos (.inr (.inl c2))]) (by decide)
 by_cases c3:1099511627776<r.budget
 ·simp only[ic42,go_sem,vcs,List.all_cons,vlf,List.all_nil,List.head?_cons,ar1,vnl,k0]
  first|refine aa5 fok92 (hm) ?_|refine aa6 (hm) ?_
  simp only[go_sem,c1',k4,c2,c3];exact herr _ 1 (by unfold au3; rw[if_pos (.inr (.inr c3))]) (by decide)
 have q1:¬ (cw2 r.an1=false\/r.budget<0\/1099511627776<r.budget):=fun h=>h.elim c1 fun h=>h.elim c2 c3
 by_cases c4:64<r.an2.length
 ·have c4':(64:Int)<r.an2.length:=by omega
  simp only[ic42,go_sem,vcs,List.all_cons,vlf,List.all_nil,List.head?_cons,ar1,vnl,k0]
  first|refine aa5 fok92 (hm) ?_|refine aa6 (hm) ?_
  simp only[go_sem,c1',k4,c2,c3,k2,c4'];exact herr _ 40 (by unfold au3; rw[if_neg q1,if_pos (.inl c4)]) (by decide)
 have c4':¬ (64:Int)<r.an2.length:=by omega
 by_cases c5:64<r.al4.length
 ·have c5':(64:Int)<r.al4.length:=by omega
  simp only[ic42,go_sem,vcs,List.all_cons,vlf,List.all_nil,List.head?_cons,ar1,vnl,k0]
  first|refine aa5 fok92 (hm) ?_|refine aa6 (hm) ?_
  simp only[go_sem,c1',k4,c2,c3,k2,k3,c4',c5'];exact herr _ 40 (by unfold au3; rw[if_neg q1,if_pos (.inr c5)]) (by decide)
 have c5':¬ (64:Int)<r.al4.length:=by omega
 have q2:¬ (64<r.an2.length\/64<r.al4.length):=fun h=>h.elim c4 c5
 by_cases c6:r.an2.all ck3=false
 ·simp only[ic42,go_sem,vcs,List.all_cons,vlf,List.all_nil,List.head?_cons,ar1,vnl,k0]
  first|refine aa5 fok92 (hm) ?_|refine aa6 (hm) ?_
  simp only[go_sem,c1',k4,c2,c3,k2,k3,c4',c5']
  first|refine aa5 fok93 (hJ) ?_|refine aa6 (hJ) ?_
  simp only[go_sem,c6,Bool.not_false];exact herr _ 4 (by unfold au3; rw[if_neg q1,if_neg q2,if_pos c6]) (by decide)
 have c6':r.an2.all ck3=true:=by simpa using c6
 simp only[ic42,go_sem,vcs,List.all_cons,vlf,List.all_nil,List.head?_cons,ar1,vnl,k0]
 first|refine aa5 fok92 (hm) ?_|refine aa6 (hm) ?_
 simp only[go_sem,c1',k4,c2,c3,k2,k3,c4',c5']
 first|refine aa5 fok93 (hJ) ?_|refine aa6 (hJ) ?_
 simp only[go_sem,c6',Bool.not_true,k3]
 first|refine aa5 fok96 (hEd) ?_|refine aa6 (hEd) ?_
 by_cases c7:(r.al4.all fun e=>bs4 e r.an2.length p.inst)=false
 ·simp only[go_sem,c7,Bool.not_false];exact herr _ 5 (by unfold au3; rw[if_neg q1,if_neg q2,if_neg c6,if_pos c7]) (by decide)
 have c7':(r.al4.all fun e=>bs4 e r.an2.length p.inst)=true:=by simpa using c7
 have hV0:V=.tuple [.ab6 [p.v,(ai8 (ac8 p)).v,.int .u8 r.an1,.bool r.vendor,bs3 r.an2,aw6 r.al4,.int .i64 r.budget,.aa3 ((ac8 p).map aa2.cs)],.int .i64 0]:=by
  rw[<- hV];unfold ik6;rw[if_pos (by unfold au3; rw[if_neg q1,if_neg q2,if_neg c6,if_neg c7])];rfl
 have hbX:=bf4 (ai8 (ac8 p));have hbP:=aq8 p;rw[hV0];clear herr hV hV0 hJ hEd;simp only[go_sem,c7',Bool.not_true]
 first|refine aa5 fok100 (hM) ?_|refine aa6 (hM) ?_
 simp only[go_sem,bs9,bp1]
 first|refine aa5 fok101 (hO) ?_|refine aa6 (hO) ?_
 have hrc:r.cs=[.int .u8 r.an1,.bool r.vendor,bs3 r.an2,aw6 r.al4,.int .i64 r.budget]:=rfl;rw[hrc];have xlf:(ai8 (ac8 p)).v.leaf=true:=rfl;have xcs:(ai8 (ac8 p)).v.cs=[(ai8 (ac8 p)).v]:=rfl;generalize (ai8 (ac8 p)).v=X at *;generalize hPv:p.v=Pv at *;simp only[go_sem,vcs,vlf,xlf,xcs]
 first|refine aa5 fok28 (hC) ?_|refine aa6 (hC) ?_
 simp only[go_sem];refine ab4 noT (fun n fr s=>∃ gv,fr=[(2,.ab6 [Pv]),(8,.ptr 5 0),(65,.int .i64 (ac8 p).length),(66,.int .i64 (n:Int))]/\7<=s.next/\s.obj 5=some (.cells [Pv,X,.int .u8 r.an1,.bool r.vendor,bs3 r.an2,aw6 r.al4,.int .i64 r.budget,gv])/\Grow s gv 15 (((ac8 p).take n).map aa2.cs)) (ac8 p).length ⟨.aa1,rfl,Nat.le_refl _,by simp only[aa4,if_true],.inl ⟨rfl,rfl⟩⟩ ?_;rintro n fr s hn ⟨gv,rfl,hnx,ho,hg⟩;by_cases hlt:n<(ac8 p).length
 ·have d1:(n:Int)<((ac8 p).length:Int):=by omega
  have w1:=ad4 (i:=n) (by omega);have hp:=hpk n hlt;have n5:¬ 5=s.next:=by omega
  have htk:(ac8 p).take (n+1)=(ac8 p).take n++[(ac8 p)[n]]:=by
   rw[List.take_add_one,List.getElem?_eq_getElem hlt]; rfl
  have hgl:gv.leaf=true:=by rcases hg with ⟨rfl,_⟩|⟨id,rfl,_⟩<;>rfl
  have hgc:gv.cs=[gv]:=by rcases hg with ⟨rfl,_⟩|⟨id,rfl,_⟩<;>rfl
  simp only[go_sem,d1]
  first|refine aa5 fok19 (hp) ?_|refine aa6 (hp) ?_
  simp only[go_sem,ag1,ag6,af1,n5,ho,b_o,b_p,b_t];obtain ⟨s1,a1,a2,a3,a4⟩:=em6 (k:=11) (nid:=s.next+1+1+1+1+1+1+1+1) (e:=(ac8 p)[n].cs) (A:=.cells [.str [],.int .i64 0,.str [],.str [],.int .u8 0,.str [],.aa1,.aa1,.aa1,.aa1,.aa1,.aa1,.aa1,.aa1,.aa1]) (B:=.cells (ac8 p)[n].cs) hg (bs6 _) ⟨rfl,rfl⟩ (by rw[List.length_map,List.length_take]; omega) ho (by omega) (by omega);simp only[go_sem,a1,a3,b_o,b_p,b_t,w1];refine ⟨hlt,_,by rw[a2]; omega,rfl,?_⟩;rw[htk,List.map_append];have a5:=a4 [Pv,X,.int .u8 r.an1,.bool r.vendor,bs3 r.an2,aw6 r.al4,.int .i64 r.budget,.slice (s.next+1+1+1+1+1+1+1+1) 0 (((ac8 p).take n).length+1) 15] s1.next (by rw[a2]; omega);rw[List.length_map] at a5;exact a5
 ·have hn':n=(ac8 p).length:=by omega
  subst hn';have d1:¬ ((ac8 p).length:Int)<((ac8 p).length:Int):=by omega
  rw[List.take_length] at hg;simp only[go_sem,d1]
  have hbe:∀ e∈(ac8 p).map aa2.cs,∀ c∈e,Bnd 0 c:=fun e he c hc=>by
   obtain ⟨y,_,rfl⟩:=List.mem_map.1 he;exact ag9 y c hc
  refine .bu8 (.cons (.ptr 5 0 _ _ (Nat.not_lt_zero _) (.inl ho) (Nat.le_refl _) (fun j hj=>?_)) (.cons (bc1 rfl) .nil))
  match j,hj with
  | 0,_=>exact .keep _ hbP
  | 1,_=>exact .keep _ hbX
  | 2,_=>exact .keep _ (.int _ _)
  | 3,_=>exact .keep _ (.bool _)
  | 4,_=>exact .keep _ (bx6 _)
  | 5,_=>exact .keep _ (az8 _)
  | 6,_=>exact .keep _ (.int _ _)
  | 7,_=>exact hg.frz (fun x hx=>(bs6 _ x hx).1) (fun _ _=>Nat.not_lt_zero _) hbe
theorem by2 (l:List Dep):∀ x∈l.map Dep.cs,x.length=5/\x.all IV.leaf=true:=fun x hx=>by
 obtain ⟨d,_,rfl⟩:=List.mem_map.1 hx; exact ⟨rfl,rfl⟩
theorem er1 (d:Dep):∀ c∈d.cs,Bnd 0 c:=fun c hc=>by
 simp only[Dep.cs,List.mem_cons,List.not_mem_nil,or_false] at hc;rcases hc with rfl|rfl|rfl|rfl|rfl
 ·exact .str _
 ·exact .int _ _
 ·exact .int _ _
 ·exact .str _
 ·exact .str _
def cm8 (p:aa8×Bool):Option Dep:=if p.1.kind=1 then some p.1.dep else none
theorem gs9 (r:aa8)(hf:r.fit)(hc:r.count<2^30):PC Tryz.prog EE 84 [.agg r.cs] (.aa3 (r.atoms.map Dep.cs)):=by
 refine ag3 hE fok84 (nZ rfl) (ae4 (ah8 _)) ?_;simp only[ic84,go_sem,ab8,ad2,ac2];refine ac9 fok164 (eg3 r _) ?_;rintro v s1 ⟨rfl,hb,hn,hs⟩;refine ⟨hn,?_⟩;simp only[go_sem] at hn hs hb ⊢;have h0:s1.obj 0=some (.cells [.aa1]):=by rw[hs 0 (by omega)]; rfl
 have hb1:=hb.1;refine cq3 (ci1 r hf 1) (fun rest t=>boxed 1 t/\∃ (ps rs:List (aa8×Bool)) (v:IV),rest=rs.map row/\ps++rs=r.parts false/\t.obj 0=some (.cells [v])/\s1.next<t.next/\Grow t v 5 ((ps.filterMap cm8).map Dep.cs)/\∀ id k,v=.slice id 0 k 5->s1.next<id) (fun _ _ h=>h.1) ?_ dm6 ?_ ?_ ?_
 ·rintro rest t t' ⟨⟨q1,q2⟩,ps,rs,v,h1,h2,h3,h4,h5,h6⟩ hn' hs';exact ⟨⟨by omega,by rw[hs' 1 q1]; exact q2⟩,ps,rs,v,h1,h2,by rw[hs' 0 (by omega)]; exact h3,by omega,h5.mono hn' fun id _ hid=>hs' id hid,h6⟩
 ·intro o;have e0:¬ 0=s1.next:=by omega
  have e1:¬ 1=s1.next:=by omega
  refine ⟨⟨by show 1<s1.next+1; omega,by simp only[aa4,e1,if_false]; exact hb.2⟩,[],r.parts false,.aa1,rfl,rfl,by simp only[aa4,e0,if_false]; exact h0,Nat.lt_succ_self _,.inl ⟨rfl,rfl⟩,fun id k h=>by cases h⟩
 ·rintro L pre a rest t hev ⟨⟨q1,q2⟩,ps,rs,v,h1,h2,h3,h4,h5,h6⟩ hL hlt
  cases rs with
  | nil=>cases h1
  | cons p rs=>
  rw[List.map_cons] at h1;obtain ⟨ha,hrest⟩:=List.cons.inj h1;subst ha;obtain ⟨⟨k,d,xs⟩,al⟩:=p;simp only[row,aa9] at hL hlt ⊢;have e1:¬ s1.next=t.next:=by omega
  have e2:¬ 0=t.next:=by omega
  have e3:¬ s1.next=0:=by omega
  have e4:¬ 0=s1.next:=by omega
  have e5:¬ 1=t.next:=by omega
  have e6:¬ 1=s1.next:=by omega
  have e7:¬ t.next=s1.next:=by omega
  have e8:¬ t.next=0:=by omega
  have e9:¬ 0=1:=by omega
  simp only[go_sem,hL,e1,e2,e3,e4,e5,e6,e7,e8,ac2,ad2,ab8,by1,hu5,gb4,h3];generalize hU:Store.mk (t.next+1) _=U;have un:U.next=t.next+1:=by rw[<- hU]
  have uL:U.obj s1.next=some (L .busy none):=by rw[<- hU]; simp only[aa4,if_true]
  have uo:∀ i,i<t.next->i≠s1.next->U.obj i=t.obj i:=fun i hi hne=>by
   have:¬ i=t.next:=by omega
   rw[<- hU]; simp only[aa4,hne,this,if_false]
  have u0:=uo 0 (by omega) e4;rw[h3] at u0;have ub:U.obj t.next=some (.cells (aa8.mk k d xs).cs):=by rw[<- hU]; simp only[aa4,e7,if_false,if_true]
  have hg:Grow U v 5 ((ps.filterMap cm8).map Dep.cs):=h5.mono (by omega) fun id hv hid=>uo id hid (by have:=h6 _ _ hv; omega)
  have hcnt:ps.length+(rs.length+1)=r.count:=by
   have:=congrArg List.length h2;rw[List.length_append,List.length_cons,aa8.ct2] at this;exact this
  have hpl:(ps.filterMap cm8).length<2^30:=by
   have:=List.length_filterMap_le cm8 ps;omega
  have hbx:1<U.next/\U.obj 1=some (.cells [.func (.func 216) [] [.ptr 1 0]]):=⟨by omega,by rw[uo 1 q1 e6]; exact q2⟩;by_cases hk:k=1
  ·have hat:cm8 (aa8.mk k d xs,al)=some d:=by unfold cm8; rw[if_pos]; rfl; exact hk
   have hap:=ao9 (nid:=U.next) (e:=d.cs) (σ:=⟨U.next+1,U.obj⟩) (hg.mono (Nat.le_succ _) fun _ _ _=>rfl) (by2 _) ⟨rfl,rfl⟩ (by rw[List.length_map]; omega);have k0:=ai4 hg 0 (.cells [v]) u0 (fun _ h=>by cases h)
   have kL:(aj8 v ⟨U.next+1,U.obj⟩).obj s1.next=some (L .busy none):=by
    cases hv:v<;>try exact uL
    rename_i id o n' e;show (if s1.next=id then none else U.obj _)=_;rcases hg with ⟨h,_⟩|⟨id',h,_,_⟩
    ·rw[h] at hv; cases hv
    ·rw[hv] at h; cases h;have:=h6 _ _ hv;rw[if_neg (by omega)]; exact uL
   have k0':=ai4 (hg.mono (Nat.le_succ _) fun _ _ _=>rfl:Grow ⟨U.next+1,U.obj⟩ v 5 _) 0 (.cells [v]) u0 (fun _ h=>by cases h);have k1:=ai4 (hg.mono (Nat.le_succ _) fun _ _ _=>rfl:Grow ⟨U.next+1,U.obj⟩ v 5 _) 1 _ hbx.2 (fun _ h=>by cases h);have kn:=ah1 (σ:=⟨U.next+1,U.obj⟩) v;have x1:¬ 0=U.next:=by omega
   have x2:¬ s1.next=U.next:=by omega
   have x3:¬ 1=U.next:=by omega
   have x4:¬ U.next=s1.next:=by omega
   have x5:¬ U.next=0:=by omega
   have x6:¬ 1=0:=by omega
   rw[List.length_map] at hap;simp only[go_sem,hk,u0,ub,by1,hu5,gb4,ar5,an8,am7,hap,k0',kL,x1,x2,e3,e4];refine dj5 (by simp only[aa9,kn]; omega) (by simp only[aa4,if_true]) ⟨⟨?_,?_⟩,ps++[(aa8.mk k d xs,al)],rs,.slice U.next 0 ((ps.filterMap cm8).length+1) 5,hrest,by rw[List.append_assoc]; exact h2,?_,?_,?_,fun id k h=>?_⟩
   ·simp only[aa9,kn]; omega
   ·simp only[aa4,x3,x6,e6,if_false]; exact k1
   ·simp only[aa4,e4,if_false,if_true]
   ·simp only[aa9,kn]; omega
   ·rw[List.filterMap_append];simp only[List.filterMap_cons,hat,List.filterMap_nil];rw[List.map_append];refine .inr ⟨U.next,by simp,?_,by simp only[aa9,kn]; omega⟩;simp only[aa4,x4,x5,if_false,if_true]; rfl
   ·cases h; omega
  ·have hat:cm8 (aa8.mk k d xs,al)=none:=by unfold cm8; rw[if_neg]; exact hk
   simp only[go_sem,hk,uL];refine dj5 (by rw[aa9,un]; omega) (by simp only[aa4,if_true]) ⟨⟨by rw[aa9]; exact hbx.1,by rw[aa4,if_neg e6]; exact hbx.2⟩,ps++[(aa8.mk k d xs,al)],rs,v,hrest,by rw[List.append_assoc]; exact h2,by rw[aa4,if_neg e4]; exact u0,by rw[aa9,un]; omega,?_,h6⟩;rw[List.filterMap_append];simp only[List.filterMap_cons,hat,List.filterMap_nil,List.append_nil];exact hg.mono (Nat.le_refl _) fun id hv _=>by rw[aa4,if_neg (by have:=h6 _ _ hv; omega)]
 ·rintro t o ⟨⟨q1,q2⟩,ps,rs,v,h1,h2,h3,h4,h5,h6⟩ hlt ho
  cases rs with
  | cons k rs=>cases h1
  | nil=>
  have e0:¬ 0=s1.next:=by omega
  rw[List.append_nil] at h2;have hat:r.atoms=ps.filterMap cm8:=by unfold aa8.atoms; rw[<- h2]; rfl
  simp only[go_sem,e0,h3];rw[hat]
  have hg:Grow { next:=t.next,obj:=(t.kill s1.next).obj } v 5 ((ps.filterMap cm8).map Dep.cs):=h5.mono (Nat.le_refl _) fun id hv hid=>by
   have:=h6 _ _ hv;show (if id=s1.next then none else t.obj id)=_;rw[if_neg (by omega)]
  exact hg.frz (fun e he=>(by2 _ e he).1) (fun _ _=>Nat.not_lt_zero _) fun e he c hc=>by
   obtain ⟨x,_,rfl⟩:=List.mem_map.1 he;exact er1 x c hc
theorem ei9 (p:Pool)(hl:(ac8 p).length<=256)(hf:∀ x∈ac8 p,x.Fit/\x.Tiny):PC Tryz.prog EE 104 [p.v] (.tuple [ap9 (ac8 p),.int .i64 0]):=by
 refine ag3 hE fok104 (nZ rfl) (av3 (aq8 p)) ?_;have hrl:p.rows.length=(ac8 p).length:=by simp[ac8]
 have hM:=bf3 p (fun x hx=>(hf _ (List.mem_map_of_mem (f:=fun x:ax5=>x.pkg) hx)).1) (by omega) (fun x hx=>by
  have:=(hf _ (List.mem_map_of_mem (f:=fun x:ax5=>x.pkg) hx)).2;have a:=this.av4.1; have b:=this.obs.1; have c:=this.files; omega)
 have hM:PC Tryz.prog EE 100 [p.v] (.tuple [(ai8 (ac8 p)).v,.int .i64 0]):=hM;have hC:=bb3 p;rw[hrl] at hC;have hb:=aw9 (ac8 p);unfold ap9 at *;have xlf:(ai8 (ac8 p)).v.leaf=true:=rfl;have xcs:(ai8 (ac8 p)).v.cs=[(ai8 (ac8 p)).v]:=rfl;generalize (ai8 (ac8 p)).v=X at *;simp only[ic104,go_sem]
 first|refine aa5 fok100 (hM) ?_|refine aa6 (hM) ?_
 simp only[go_sem]
 first|refine aa5 fok28 (hC) ?_|refine aa6 (hC) ?_
 simp only[go_sem,xlf,xcs];exact .keep _ (.tuple _ (ah6 hb (.int _ _)))
theorem fj5 (a:ah7):PC Tryz.prog EE 102 [a.v] a.p.v:=by
 refine ag3 hE fok102 (nZ rfl) (av3 (aq2 a)) ?_;have hb:=aq8 a.p;unfold ah7.v ah7.cs;simp only[ic102,go_sem,am4];exact .keep _ hb
theorem do5 (a:ah7)(hA:AOK a):PC Tryz.prog EE 103 [a.v] (.agg a.r.cs):=by
 refine ag3 hE fok103 (nZ rfl) (av3 (aq2 a)) ?_;have hO:=gz2 a.r (by have:=hA.an2; omega) (by have:=hA.al4; omega);have hb:=bj7 a.r;unfold ah7.v ah7.cs;unfold Req.cs at *;simp only[ic103,go_sem,am4]
 first|refine aa5 fok101 (hO) ?_|refine aa6 (hO) ?_
 simp only[go_sem];exact .keep _ (.agg _ hb)
theorem dg9 {r:aa8}{wh:Int}(h:at1 r wh=0):r.count<=24/\∀ d∈r.atoms,al2 d=true:=by
 unfold at1 at h;split at h
 ·cases h
 split at h
 ·cases h
 split at h
 ·cases h
 split at h
 case isFalse=>cases h
 rename_i hc _ hp;refine ⟨by omega,fun d hd=>?_⟩;unfold aa8.atoms at hd;obtain ⟨p,hp1,hp2⟩:=List.mem_filterMap.1 hd;have:=List.all_eq_true.1 hp p hp1;split at hp2
 ·rename_i hk;cases hp2;unfold aj2 at this;simp only[Bool.and_eq_true] at this;have h3:=this.2;rw[if_pos hk] at h3;exact h3
 ·cases hp2
theorem gt1 {p:aa2}(h:ag8 p=true):(p.suggests.length<=32/\∀ r∈p.suggests,at1 r 1=0)/\p.ac5.length<=32/\∀ r∈p.ac5,at1 r 3=0:=by
 unfold ag8 am9 at h;simp only[Bool.and_eq_true,decide_eq_true_eq,List.all_eq_true] at h;exact ⟨h.1.2,h.2⟩
def at7 (L:List aa2):List Dep:=L.flatMap fun q=>q.suggests.flatMap aa8.atoms
def gc1 (l:List aa2)(n:Nat)(q:aa2):Bool:=((at7 (l.take n)).any fun d=>provides q d)||q.ac5.any fun r=>hm5 l (am6 (fun _=>true) n) r
def az9 (l:List aa2)(n:Nat):List Bool:=l.map (gc1 l n)
theorem cu5 (r:aa8):r.atoms.length<=r.count:=by
 have:=List.length_filterMap_le cm8 (r.parts false);rw[aa8.ct2] at this;exact this
theorem ej1 {α β:Type}(f:α->List β)(m:Nat):∀ (l:List α),(∀ x∈l,(f x).length<=m)->(l.flatMap f).length<=l.length*m:=by
 intro l
 induction l with
 | nil=>intro _; simp
 | cons x l ih=>
  intro h;rw[List.flatMap_cons,List.length_append,List.length_cons,Nat.add_mul];have:=h x List.mem_cons_self;have:=ih fun y hy=>h y (List.mem_cons_of_mem _ hy)
  omega
theorem ej2 (q:aa2)(d:Dep)(hq:Pkg.small q)(hd:Dep.small d):PC Tryz.prog EE 105 [.agg d.cs,.ab6 q.cs] (.bool (provides q d)):=by
 refine ag3 hE fok105 (nZ rfl) (ah6 (aq9 d) (.ab6 _ (ag9 q))) ?_;have h:=ct6 q d hq hd;simp only[ic105,go_sem,ar5,an8,am7,ag1,ag6,af1]
 first|refine aa5 fok86 (h) ?_|refine aa6 (h) ?_
 simp only[go_sem];exact ad9 rfl
theorem ej3 (l:List aa2)(hl:l.length<=256)(hs:∀ p∈l,Pkg.small p)(zs:List Int)(hz:zs.length<2^40)(r:aa8)(h1:r.fit)(h2:r.count<2^31) :
  PC Tryz.prog EE 106 [.agg r.cs,.ab6 [ap9 l],.ab6 [.aa3 (zs.map Md.af3)]] (.bool (hm5 l zs r)):=by
 refine ag3 hE fok106 (nZ rfl) (aw5 (ah8 _) (.ab6 _ (av3 (aw9 l))) (.ab6 _ (av3 (an9 zs)))) ?_;have h:=dy8 l hl hs zs hz r h1 h2;simp only[ic106,go_sem,ac2,ad2,ab8]
 first|refine aa5 fok107 (h) ?_|refine aa6 (h) ?_
 simp only[go_sem];exact ad9 rfl
end Go.Id.Tryz
