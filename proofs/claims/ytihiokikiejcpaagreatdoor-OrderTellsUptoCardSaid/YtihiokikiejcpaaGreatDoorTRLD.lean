/- An installed package's ways: the functions walked. Conditions: sizes that fit. -/
import Derived.Test.YtihiokikiejcpaaGreatDoorTROF
import Derived.Test.YtihiokikiejcpaaGreatDoorTRTS
import Derived.Test.YtihiokikiejcpaaGreatDoorMv
import Derived.Test.YtihiokikiejcpaaGreatDoorTROD
set_option linter.all false
namespace Go.Id.Tryz
open Go Go.Id Go.Proofs Go.Shelf Go.Id.Md
set_option maxRecDepth 100000
set_option maxHeartbeats 1000000
set_option maxHeartbeats 1000000
theorem fp4 {σ:Store}(fv:IV):C Tryz.prog EE 68 [.aa1,.int .i64 0,.int .i64 0,fv] σ fun v s=>v=.tuple []/\σ.next<=s.next/\s.obj=σ.obj:=by
 refine C_f fok68 (nZ rfl) ?_;have w0:IntKind.i64.wrap (0+1)=1:=by decide
 simp only[ic68,go_sem,w0];refine ab3 noT (fun k fr t=>k=0/\fr=[(0,.aa1),(1,.int .i64 0),(2,.int .i64 0),(3,fv),(8,.int .i64 1)]/\σ.next<=t.next/\t.obj=σ.obj) 0 ⟨rfl,rfl,Nat.le_refl _,rfl⟩ ?_;rintro k fr t _ ⟨rfl,rfl,ht⟩;simp only[go_sem];exact ht
theorem gj2 {σ:Store}(fv:IV):C Tryz.prog EE 17 [.aa1,fv] σ fun v s=>v=.tuple []/\σ.next<=s.next/\s.obj=σ.obj:=by
 have hp:∀ lim:Int,C Tryz.prog EE 33 [.aa1,.int .i64 0,.int .i64 0,.int .i64 lim,fv] σ fun v s=>v=.tuple []/\σ.next<=s.next/\s.obj=σ.obj:=fun lim=>by
  refine C_f fok33 (nZ rfl) ?_;have w0:IntKind.i64.wrap (0-0)=0:=by decide
  have c1:(0:Int)<=12:=by decide
  simp only[ic33,go_sem];refine ab3 noT (fun k fr t=>k=0/\fr=[(0,.aa1),(1,.int .i64 0),(2,.int .i64 0),(3,.int .i64 lim),(4,fv),(10,.bool true),(11,.bool true)]/\σ.next<=t.next/\t.obj=σ.obj) 0 ⟨rfl,rfl,Nat.le_refl _,rfl⟩ ?_;rintro k fr t _ ⟨rfl,rfl,ht,ho⟩;simp only[go_sem,w0,c1];refine ad3 fok68 (fp4 fv) ?_;rintro v s ⟨rfl,hs,hso⟩;refine ⟨hs,?_⟩;simp only[go_sem];exact ⟨Nat.le_trans ht hs,by first|exact hso.trans ho|(rw[hso]; exact ho)⟩
 refine C_f fok17 (nZ rfl) ?_;have w0:IntKind.u64.wrap 0=0:=by decide
 have hl:=fw9 0 (by decide);simp only[ic17,go_sem,w0];refine aa5 fok34 hl ?_;simp only[go_sem];refine ad3 fok33 (hp _) ?_;rintro v s ⟨rfl,hs,hso⟩;refine ⟨hs,?_⟩;simp only[go_sem];exact ⟨hs,hso⟩
theorem hf7:Go.Sort.SWO (ltOf fun x y:Int=>ao7 x y):=by
 refine ⟨fun x=>?_,fun x y z h1 h2=>?_,fun x y z h1 h2=>?_⟩
 ·show decide (ao7 x x<0)=false;rw[au3.2 rfl]; rfl
 ·unfold ltOf ao7 at *;simp only[decide_eq_true_eq] at h1 h2 ⊢
  repeat' split at h1
  all_goals repeat' split at h2
  all_goals (repeat' split)
  all_goals omega
 ·unfold ltOf ao7 at *;simp only[decide_eq_false_iff_not] at h1 h2 ⊢
  repeat' split at h1
  all_goals repeat' split at h2
  all_goals (repeat' split)
  all_goals omega
theorem fp5 {σ:Store}{id:Nat}{zs:List Int}(hz:zs.length<256)(hid:id<σ.next)(ho:σ.obj id=some (.row (zs.map as4))) :
  C Tryz.prog EE 17 [.slice id 0 zs.length 1,.func (.func 18) [] []] σ fun v s=>v=.tuple []/\σ.next<=s.next/\(∀ i,i<σ.next->i≠id->s.obj i=σ.obj i)/\s.obj id=some (.row ((aq6 zs).map as4)):=by
 have hCm:cf8 (fun x:Int=>x) (fun x y:Int=>ao7 x y) 18 [] []:=⟨fok18.1,fun x y=>di7 x y⟩
 have hrw:σ.obj id=some (.row (ba1 (fun x:Int=>x) [] zs.toArray)):=by
  rw[ho,ba1,fc2,List.append_nil]
 have hS:=fc7 (fun x:Int=>x) [] hCm hf7 zs.toArray (by simpa using hz) hid hrw;have hsz:zs.toArray.size=zs.length:=List.size_toArray ..;rw[hsz] at hS;refine hS.mono fun v s h=>?_
 obtain ⟨rfl,d',hP,hU,hK⟩:=h;have hd's:d'.size=zs.length:=by rw[hP.1]; exact hsz
 have hpm:d'.toList.Perm zs:=by
  have h3:=hP.2.2;have e1:d'.extract 0 zs.length=d':=by rw[<- hd's]; exact Array.extract_size
  have e2:zs.toArray.extract 0 zs.length=zs.toArray:=by rw[<- hsz]; exact Array.extract_size
  rw[e1,e2] at h3;exact h3
 have hle:d'.toList.Pairwise (·<=·):=by
  refine List.pairwise_iff_getElem.2 fun i j hi hj hij=>?_
  have hi2:i<d'.size:=by simpa using hi
  have hj2:j<d'.size:=by simpa using hj
  have h4:=hU i j (Nat.zero_le _) hij (by omega);rw[getElem!_pos d' i hi2,getElem!_pos d' j hj2] at h4;unfold ltOf at h4;have h5:¬ ao7 d'[j] d'[i]<0:=of_decide_eq_false h4;have g1:d'.toList[i]=d'[i]:=by simp
  have g2:d'.toList[j]=d'[j]:=by simp
  rw[g1,g2];unfold ao7 at h5;split at h5<;>omega
 have hone:d'.toList=aq6 zs:=df9 hpm hle;refine ⟨rfl,hK.next,fun i hi hne=>hK.other i hi hne,?_⟩;rw[hK.row,ba1,fc2,List.append_nil,<- hone]
theorem ck4 (l:List Int):(aq6 l).length=l.length:=(ak1 l).length_eq
theorem ap4 (d:Step):d.cs.length=2:=rfl
theorem al1 (d:Step):d.cs.all IV.leaf=true:=rfl
theorem al2 (d:Step):d.cs.take 2=d.cs:=rfl
theorem bt8 (d:Step):∀ c∈d.cs,Bnd 0 c:=au8 (.int _ _) (.int _ _)
theorem au4 (l:List Step):Bnd 0 (aj1 l):=.aa3 _ fun e he c hc=>by
 obtain ⟨d,_,rfl⟩:=List.mem_map.1 he; exact bt8 d c hc
structure ez1 (s:Store) (l:List Step) (v0 v1 v2:IV):Prop where
 map:s.obj 0=some (.map (bu5 l))
 box:s.obj 1=some (.cells [v0,v1,v2])
 r0:ad1 s 2 v0 (ab7 l 0)
 r1:ad1 s 2 v1 (ab7 l 1)
 r2:ad1 s 2 v2 (ab7 l 2)
 a01:∀ i n m,v0=.slice i 0 n 1->v1≠.slice i 0 m 1
 a02:∀ i n m,v0=.slice i 0 n 1->v2≠.slice i 0 m 1
 a12:∀ i n m,v1=.slice i 0 n 1->v2≠.slice i 0 m 1
 next:2<=s.next
theorem bh5 {s t:Store}{lo:Nat}{v:IV}{zs:List Int}(h:ad1 s lo v zs)(hn:s.next<=t.next)(ho:∀ i n,v=.slice i 0 n 1->i<s.next->t.obj i=s.obj i):ad1 t lo v zs:=by
 rcases h with h|⟨id,h1,h2,h3,h4⟩
 ·exact .inl h
 ·exact .inr ⟨id,h1,by omega,h3,by rw[ho id _ h3 h2]; exact h4⟩
theorem ez1.keep {s t:Store}{l:List Step}{v0 v1 v2:IV}(h:ez1 s l v0 v1 v2)(hn:s.next<=t.next)(ho:∀ i,i<s.next->t.obj i=s.obj i):ez1 t l v0 v1 v2 :=
 have:=h.next
 ⟨by rw[ho 0 (by omega)]; exact h.map,by rw[ho 1 (by omega)]; exact h.box,bh5 h.r0 hn fun i _ _ hi=>ho i hi,bh5 h.r1 hn fun i _ _ hi=>ho i hi,bh5 h.r2 hn fun i _ _ hi=>ho i hi,h.a01,h.a02,h.a12,by omega⟩
theorem dz5 {n m:Nat}{x y:IX}{E:Nat->IV}{fr:Frm}{σ:Store}:bo1 E fr σ (.q (.az3 n m x y))=True:=rfl
theorem bc1 {s s' τ:Store}{nid:Nat}{v w:IV}{zs ys:List Int}(hv:ad1 s 2 v zs)(hw:ad1 s 2 w ys)(ha:∀ i n m,v=.slice i 0 n 1->w≠.slice i 0 m 1)(hn:s.next<=nid)(hnt:s.next<=τ.next)(hs:s'.obj=s.obj)(ho:∀ i,i≠nid->i≠1->τ.obj i=(ad7 v s').obj i):ad1 τ 2 w ys:=by
 rcases hw with h|⟨id,h1,h2,h3,h4⟩
 ·exact .inl h
 ·refine .inr ⟨id,h1,by omega,h3,?_⟩;rw[ho id (by omega) (by omega)];rcases hv with ⟨rfl,_⟩|⟨id',_,_,rfl,_⟩
  ·show s'.obj id=_;rw[hs]; exact h4
  ·have:¬ id=id':=fun e=>ha id' _ _ rfl (by rw[<- e]; exact h3)
   show (if id=id' then none else s'.obj id)=_;rw[if_neg this,hs]; exact h4
theorem dg9 {s:Store}{nid m:Nat}{w:IV}{ys:List Int}(hw:ad1 s 2 w ys)(hn:s.next<=nid):∀ i n k,w=.slice i 0 n 1->(IV.slice nid 0 m 1)≠.slice i 0 k 1:=fun i n k h e=>by
 cases e;rcases hw with ⟨rfl,_⟩|⟨id,_,h2,rfl,_⟩
 ·cases h
 ·cases h; omega
theorem dh1 {s:Store}{nid m:Nat}{w:IV}{ys:List Int}(hw:ad1 s 2 w ys)(hn:s.next<=nid):∀ i n k,(IV.slice nid 0 m 1)=.slice i 0 n 1->w≠.slice i 0 k 1:=fun i n k h e=>dg9 (m:=m) hw hn i k n e h
theorem bt9 {v w:IV}(h:∀ i n m,v=.slice i 0 n 1->w≠.slice i 0 m 1):∀ i n m,w=.slice i 0 n 1->v≠.slice i 0 m 1:=fun i n m h1 h2=>h i m n h2 h1
def idO:IV->Nat
 | .slice i _ _ _=>i
 | _=>1
theorem fp6 {σ:Store}{v:IV}{zs:List Int}(hz:zs.length<256)(h:ad1 σ 2 v zs) :
  C Tryz.prog EE 17 [v,.func (.func 18) [] []] σ fun r s=>r=.tuple []/\σ.next<=s.next/\(∀ i,i<σ.next->i≠idO v->s.obj i=σ.obj i)/\ad1 s 2 v (aq6 zs):=by
 rcases h with ⟨rfl,rfl⟩|⟨id,h1,h2,rfl,h4⟩
 ·refine (gj2 _).mono fun r s h=>⟨h.1,h.2.1,fun i _ _=>by rw[h.2.2],.inl ⟨rfl,by unfold aq6; exact List.mergeSort_nil⟩⟩
 ·refine (fp5 hz h2 h4).mono fun r s h=>⟨h.1,h.2.1,h.2.2.1,.inr ⟨id,h1,by have:=h.2.1; omega,by rw[ck4],h.2.2.2⟩⟩
theorem dh2 {s:Store}{S:Nat->Prop}{v:IV}{zs:List Int}(h:ad1 s 2 v zs)(hS:¬ S (idO v)):Frz s S v (.aa3 (zs.map Md.af9)):=by
 rcases h with ⟨rfl,rfl⟩|⟨id,h1,h2,rfl,h4⟩
 ·exact .dm9
 ·refine .slice id 0 zs.length 1 _ (zs.map Md.af9) hS (.inr h4) (by rw[List.length_map]) (by simp) (fun i hi=>?_) fun i hi j hj=>?_
  ·simp[List.getD_eq_getElem?_getD,hi,Md.af9]
  ·have hj0:j=0:=by omega
   subst hj0;have e2:((zs.map Md.af9).getD i []).getD 0 .undef=as4 zs[i]:=by simp[List.getD_eq_getElem?_getD,hi,Md.af9]
   have e3:(zs.map as4).getD (0+(i*1+0)) .undef=as4 zs[i]:=by simp[List.getD_eq_getElem?_getD,hi]
   rw[e2,e3];exact .keep _ (.int _ _)
theorem db7 {S:Nat->Prop}{v:IV}(h:Bnd 0 v):Nm S v:=h.weak fun i h=>absurd h (Nat.not_lt_zero _)
theorem ie5 {s:Store}{S:Nat->Prop}{v:IV}{zs:List Int}(h:ad1 s 2 v zs)(hS:∀ i,v=.slice i 0 zs.length 1->S i):Nm S v:=by
 rcases h with ⟨rfl,_⟩|⟨id,h1,h2,rfl,h4⟩
 ·exact .aa1
 ·exact .slice _ _ _ _ (hS id rfl)
theorem gt1 {s:Store}{v w:IV}{zs ys:List Int}(hv:ad1 s 2 v zs)(hw:ad1 s 2 w ys)(ha:∀ i n m,v=.slice i 0 n 1->w≠.slice i 0 m 1):∀ i n,w=.slice i 0 n 1->i≠idO v:=fun i n h e=>by
 rcases hv with ⟨rfl,_⟩|⟨id,h1,_,rfl,_⟩
 ·have e':i=1:=e;rcases hw with ⟨rfl,_⟩|⟨id2,h2,_,rfl,_⟩
  ·cases h
  ·injection h with h1
   omega
 ·exact ha id _ n rfl (by rw[h,e]; rfl)
def fp7 (l:List Int):List IV:=[.aa3 (l.map Md.af9)]
def stepOf (l:List Step)(n:Int):List IV:=Step.cs ⟨df7 l n,n⟩
theorem bm6 (l:List Step)(zs:List Int):∀ x∈zs.map (stepOf l),x.length=2/\x.all IV.leaf=true:=fun x hx=>by
 obtain ⟨n,_,rfl⟩:=List.mem_map.1 hx;exact ⟨rfl,rfl⟩
theorem dz6 (p:Pool)(hp:bm8 p)(l:List Step)(hl:l.length<200) :
  PC Tryz.prog EE 7 [p.v,aj1 l] (if okS p.rows.length l then .tuple [aj1 (be4 (ai1 p) l),.int .i64 0] else .tuple [.aa1,.int .i64 4]):=by
 refine ib1 hE fok7 (nZ rfl) (au8 (bv4 p) (au4 l)) ?_;have hnil:∀ d:TypeId,dj9 (.pointer d) p.v=some false:=fun _=>rfl
 simp only[ic7];refine ab2 (ab8 ?_);simp only[go_sem];refine ab2 (ab8 ?_);simp only[go_sem,hnil];refine ab2 (ab8 ?_);simp only[go_sem];refine ab2 (ab8 ?_);simp only[go_sem];refine ab2 (ab2 (ab8 ?_));simp only[go_sem];generalize hT:Store.mk _ _=T
 have hP0:ez1 T ([]:List Step) .aa1 .aa1 .aa1:=by
  rw[<- hT];refine ⟨?_,?_,.inl ⟨rfl,rfl⟩,.inl ⟨rfl,rfl⟩,.inl ⟨rfl,rfl⟩,fun _ _ _ h=>(by cases h),fun _ _ _ h=>(by cases h),fun _ _ _ h=>(by cases h),by decide⟩
  ·simp only[aa2,reduceCtorEq,Int.reduceLT,Int.reduceLE,Int.reduceToNat,Int.reduceAdd,Nat.reduceEqDiff,Nat.reduceAdd,Nat.reduceMul,Nat.reduceLT,Nat.reduceLeDiff,decide_true,decide_false,↓reduceIte]; rfl
  ·simp only[aa2,if_true]
 clear hT;refine ai8 (ak6 (fun e f s=>(e=.ret/\okS p.rows.length l=false/\∃ rst:Frm,f=(4,.aa1)::(5,.int .i64 4)::rst)\/(e=.exit 0/\okS p.rows.length l=true/\∃ v0 v1 v2,(∃ rst:Frm,f=(0,p.v)::(6,.map 0)::(7,.ptr 1 0)::rst)/\ez1 s l v0 v1 v2)) (bn6 (fun k fr t=>∃ v0 v1 v2,fr=[(0,p.v),(6,.map 0),(7,.ptr 1 0),(23,aj1 l),(24,.int .i64 l.length),(25,.int .i64 (k:Int))]/\ez1 t (l.take k) v0 v1 v2/\okS p.rows.length (l.take k)=true) l.length ⟨_,_,_,rfl,hP0,rfl⟩ ?_) ?_)
 ·rintro k fr t hk ⟨v0,v1,v2,rfl,hP,hok⟩;refine ab2 (ab8 ?_);by_cases hlt:k<l.length
  ·have c1:(k:Int)<l.length:=by omega
   have c2:(0:Int)<=(k:Int):=by omega
   have hgk:(l.map Step.cs).getD k []=l[k].cs:=by simp[List.getD_eq_getElem?_getD,hlt]
   have w1:=ad2 (i:=k) (by omega);have htk:l.take (k+1)=l.take k++[l[k]]:=by rw[List.take_add_one,List.getElem?_eq_getElem hlt]; rfl
   have hlk:=dr5 l[k].p (l.take k);have hks:=fs1 l[k].p (l.take k);have hsn:=dh6 p.rows.length (l.take k) l[k];rw[hok,Bool.true_and] at hsn;have hpc:=ds4 p;have hmap:=hP.map;have hbx:=hP.box;simp only[go_sem,c1];refine ab2 (ab8 ?_);simp only[go_sem];refine ab2 (ai8 (ab2 (ab8 ?_)));simp only[go_sem,c1,c2,hgk,ap4,al2,al1];obtain ⟨b,hb⟩:∃ b,b=t.next:=⟨_,rfl⟩;rw[<- hb];have hnx:=hP.next;generalize hU:Store.put _ b (ak4.cells l[k].cs)=U;have hUn:U.next=b+1:=by rw[<- hU]; rfl
   have hUb:U.obj b=some (.cells l[k].cs):=by rw[<- hU]; simp only[aa2,if_true]
   have hUo:∀ i,i<t.next->U.obj i=t.obj i:=fun i hi=>by
    have e:¬ i=b:=by omega
    rw[<- hU]; simp only[aa2,e,if_false]
   clear hU;have hPU:=hP.keep (t:=U) (by omega) hUo;have hmap:=hPU.map;have hbx:=hPU.box;have x0:l[k].cs.head? = some (.int .u8 l[k].kind):=rfl;have x1:(l[k].cs.drop 1).head? = some (.int .i64 l[k].p):=rfl;refine ab2 (ab2 (ab8 ?_));simp only[go_sem,hUb,x0,x1,cl2,ax7,hmap,hlk,ei1,hks];have hbad:(!decide (l[k].p∈(l.take k).map (·.p))&&ao2 p.rows.length l[k])=false->okS p.rows.length l=false:=fun h=>fs2 hlt (by rw[hsn]; exact h)
   by_cases hm:l[k].p∈(l.take k).map (·.p)
   case' pos=>
    refine ab8 ?_;simp only[go_sem,hm];exact .inl ⟨hbad (by rw[decide_eq_true hm]; rfl),_,rfl⟩
   by_cases h1:l[k].kind<1
   case' pos=>
    refine ab8 ?_;simp only[go_sem,hm,hUb,x0,x1,h1];exact .inl ⟨hbad (by have:¬ 1<=l[k].kind:=(by omega); simp[ao2,this]),_,rfl⟩
   by_cases h8:8<l[k].kind
   case' pos=>
    refine ab8 ?_;simp only[go_sem,hm,hUb,x0,x1,h1,h8];exact .inl ⟨hbad (by have:¬ l[k].kind<=8:=(by omega); simp[ao2,this]),_,rfl⟩
   by_cases h0:l[k].p<0
   case' pos=>
    refine ab8 ?_;simp only[go_sem,hm,hUb,x0,x1,h1,h8,h0];exact .inl ⟨hbad (by have:¬ 0<=l[k].p:=(by omega); simp[ao2,this]),_,rfl⟩
   by_cases hN:(p.rows.length:Int)<=l[k].p
   case' pos=>
    refine ab8 ?_;simp only[go_sem,hm,hUb,x0,x1,h1,h8,h0]
    first|refine aa5 fok14 (hpc) ?_|refine aa8 (hpc) ?_
    simp only[go_sem,hN];exact .inl ⟨hbad (by have:¬ l[k].p<p.rows.length:=(by omega); simp[ao2,this]),_,rfl⟩
   have hgood:okS p.rows.length (l.take (k+1))=true:=by
    rw[htk,hsn];have q1:1<=l[k].kind:=by omega
    have q2:l[k].kind<=8:=by omega
    have q3:0<=l[k].p:=by omega
    have q4:l[k].p<p.rows.length:=by omega
    simp only[ao2,hm,q1,q2,q3,q4,decide_true,decide_false,Bool.not_false,Bool.and_self]
   have hup:=gk7 l[k] (l.take k) hm;rw[<- htk] at hup;have hpt:=hi8 l[k].kind;refine ab8 ?_;simp only[go_sem,hm,hUb,x0,x1,h1,h8,h0]
   first|refine aa5 fok14 (hpc) ?_|refine aa8 (hpc) ?_
   simp only[go_sem,hN];refine ab2 (ab8 ?_);simp only[go_sem,hUb,x0,x1,al7,hmap,hup,Option.map_some];have e0b:¬ b=0:=by omega
   have e01:¬ (1=0):=by decide
   refine ab2 (ab8 ?_);simp only[go_sem,hUb,x0,x1,e0b]
   first|refine aa5 fok15 (hpt) ?_|refine aa8 (hpt) ?_
   simp only[go_sem];generalize hW:Store.mk (U.next+23) _=W;have hWn:W.next=U.next+23:=by rw[<- hW]
   have hWm:W.obj 0=some (.map (bu5 (l.take (k+1)))):=by rw[<- hW]; simp only[aa2,if_true]
   have hWo:∀ i,i≠0->W.obj i=U.obj i:=fun i hi=>by rw[<- hW]; simp only[aa2,hi,if_false]
   clear hW;have hWb:W.obj b=some (.cells l[k].cs):=by rw[hWo b e0b]; exact hUb
   have hW1:W.obj 1=some (.cells [v0,v1,v2]):=by rw[hWo 1 (by decide)]; exact hbx
   have wr:∀ {v:IV} {zs:List Int},ad1 U 2 v zs->ad1 W 2 v zs:=fun h=>by
    rcases h with h|⟨id,q1,q2,q3,q4⟩
    ·exact .inl h
    ·exact .inr ⟨id,q1,by omega,q3,by rw[hWo id (by omega)]; exact q4⟩
   have r0:=wr hPU.r0;have r1:=wr hPU.r1;have r2:=wr hPU.r2
   have up:∀ {v:IV} {zs:List Int},ad1 W 2 v zs->ad1 ⟨W.next+10,W.obj⟩ 2 v zs:=fun h=>by
    rcases h with h|⟨id,q1,q2,q3,q4⟩
    ·exact .inl h
    ·exact .inr ⟨id,q1,by show id<W.next+10; omega,q3,q4⟩
   have hln:∀ i,(ab7 (l.take k) i).length<2147483648:=fun i=>by
    unfold ab7;have:=List.length_filter_le (fun s:Step=>decide (bf1 s.kind=i)) (l.take k);rw[List.length_map];rw[List.length_take] at this;omega
   have hps:=fun i=>db8 (l.take k) l[k] i
   simp only[<- htk] at hps;rcases da9 l[k].kind with hk0|hk0|hk0
   all_goals
    rw[hk0];refine ab8 ?_
   ·have hap:=bd6 (nid:=W.next+7) (up r0) l[k].p (hln 0);have hkl:∀ i,i<2->(ad7 v0 (⟨W.next+10,W.obj⟩:Store)).obj i=W.obj i:=fun i hi=>aq7 (up r0) hi
    have k1:=hkl 1 (by decide);rw[hW1] at k1;have kn:(ad7 v0 (⟨W.next+10,W.obj⟩:Store)).next=W.next+10:=ac1 v0;have e17:¬ 1=W.next+7:=by omega
    have e07:¬ 0=W.next+7:=by omega
    have e71:¬ W.next+7=1:=by omega
    simp only[go_sem,hW1,hWb,x1,hap,dz5,e17,k1];refine ab8 ?_;simp only[go_sem,w1];have hp0:=hps 0;have hp1:=hps 1;have hp2:=hps 2;rw[hk0] at hp0 hp1 hp2;simp only[reduceCtorEq,Int.reduceLT,Int.reduceLE,Int.reduceToNat,Int.reduceAdd,Nat.reduceEqDiff,Nat.reduceAdd,Nat.reduceMul,Nat.reduceLT,Nat.reduceLeDiff,decide_true,decide_false,↓reduceIte,Int.reduceEq,if_true,if_false,List.append_nil] at hp0 hp1 hp2;generalize hZ:Store.put (Store.put (ad7 v0 _) (W.next+7) _) 1 _=Z;have hZn:Z.next=W.next+10:=by rw[<- hZ]; simp only[aa6,kn]
    have hZo:∀ i,i≠W.next+7->i≠1->Z.obj i=(ad7 v0 (⟨W.next+10,W.obj⟩:Store)).obj i:=fun i h1 h2=>by rw[<- hZ]; simp only[aa2,h1,h2,if_false]
    have hZr:Z.obj (W.next+7)=some (.row ((ab7 (l.take k) 0++[l[k].p]).map as4)):=by rw[<- hZ]; simp only[aa2,e71,if_false,if_true]
    have hZb:Z.obj 1=some (.cells [IV.slice (W.next+7) 0 ((ab7 (List.take k l) 0).length+1) 1,v1,v2]):=by rw[<- hZ]; simp only[aa2,if_true]
    clear hZ;rw[show (⟨(ad7 v0 (⟨W.next+10,W.obj⟩:Store)).next,Z.obj⟩:Store)=Z from by rw[kn,<- hZn]];refine ⟨hlt,IV.slice (W.next+7) 0 ((ab7 (List.take k l) 0).length+1) 1,v1,v2,⟨?_,hZb,?_,?_,?_,dh1 r1 (Nat.le_add_right _ _),dh1 r2 (Nat.le_add_right _ _),hPU.a12,by omega⟩,hgood⟩
    ·rw[hZo 0 e07 (by decide),hkl 0 (by decide)]; exact hWm
    ·rw[hp0]; exact .inr ⟨W.next+7,by omega,by omega,by rw[List.length_append,List.length_singleton],hZr⟩
    ·rw[hp1]; exact bc1 (nid:=W.next+7) (s':=⟨W.next+10,W.obj⟩) r0 r1 (hPU.a01) (Nat.le_add_right _ _) (by omega) rfl hZo
    ·rw[hp2]; exact bc1 (nid:=W.next+7) (s':=⟨W.next+10,W.obj⟩) r0 r2 (hPU.a02) (Nat.le_add_right _ _) (by omega) rfl hZo
   ·have hap:=bd6 (nid:=W.next+7) (up r1) l[k].p (hln 1);have hkl:∀ i,i<2->(ad7 v1 (⟨W.next+10,W.obj⟩:Store)).obj i=W.obj i:=fun i hi=>aq7 (up r1) hi
    have k1:=hkl 1 (by decide);rw[hW1] at k1;have kn:(ad7 v1 (⟨W.next+10,W.obj⟩:Store)).next=W.next+10:=ac1 v1;have e17:¬ 1=W.next+7:=by omega
    have e07:¬ 0=W.next+7:=by omega
    have e71:¬ W.next+7=1:=by omega
    simp only[go_sem,hW1,hWb,x1,hap,dz5,e17,k1];refine ab8 ?_;simp only[go_sem,w1];have hp0:=hps 0;have hp1:=hps 1;have hp2:=hps 2;rw[hk0] at hp0 hp1 hp2;simp only[reduceCtorEq,Int.reduceLT,Int.reduceLE,Int.reduceToNat,Int.reduceAdd,Nat.reduceEqDiff,Nat.reduceAdd,Nat.reduceMul,Nat.reduceLT,Nat.reduceLeDiff,decide_true,decide_false,↓reduceIte,Int.reduceEq,if_true,if_false,List.append_nil] at hp0 hp1 hp2;generalize hZ:Store.put (Store.put (ad7 v1 _) (W.next+7) _) 1 _=Z;have hZn:Z.next=W.next+10:=by rw[<- hZ]; simp only[aa6,kn]
    have hZo:∀ i,i≠W.next+7->i≠1->Z.obj i=(ad7 v1 (⟨W.next+10,W.obj⟩:Store)).obj i:=fun i h1 h2=>by rw[<- hZ]; simp only[aa2,h1,h2,if_false]
    have hZr:Z.obj (W.next+7)=some (.row ((ab7 (l.take k) 1++[l[k].p]).map as4)):=by rw[<- hZ]; simp only[aa2,e71,if_false,if_true]
    have hZb:Z.obj 1=some (.cells [v0,IV.slice (W.next+7) 0 ((ab7 (List.take k l) 1).length+1) 1,v2]):=by rw[<- hZ]; simp only[aa2,if_true]
    clear hZ;rw[show (⟨(ad7 v1 (⟨W.next+10,W.obj⟩:Store)).next,Z.obj⟩:Store)=Z from by rw[kn,<- hZn]];refine ⟨hlt,v0,IV.slice (W.next+7) 0 ((ab7 (List.take k l) 1).length+1) 1,v2,⟨?_,hZb,?_,?_,?_,dg9 r0 (Nat.le_add_right _ _),hPU.a02,dh1 r2 (Nat.le_add_right _ _),by omega⟩,hgood⟩
    ·rw[hZo 0 e07 (by decide),hkl 0 (by decide)]; exact hWm
    ·rw[hp0]; exact bc1 (nid:=W.next+7) (s':=⟨W.next+10,W.obj⟩) r1 r0 (bt9 hPU.a01) (Nat.le_add_right _ _) (by omega) rfl hZo
    ·rw[hp1]; exact .inr ⟨W.next+7,by omega,by omega,by rw[List.length_append,List.length_singleton],hZr⟩
    ·rw[hp2]; exact bc1 (nid:=W.next+7) (s':=⟨W.next+10,W.obj⟩) r1 r2 (hPU.a12) (Nat.le_add_right _ _) (by omega) rfl hZo
   ·have hap:=bd6 (nid:=W.next+7) (up r2) l[k].p (hln 2);have hkl:∀ i,i<2->(ad7 v2 (⟨W.next+10,W.obj⟩:Store)).obj i=W.obj i:=fun i hi=>aq7 (up r2) hi
    have k1:=hkl 1 (by decide);rw[hW1] at k1;have kn:(ad7 v2 (⟨W.next+10,W.obj⟩:Store)).next=W.next+10:=ac1 v2;have e17:¬ 1=W.next+7:=by omega
    have e07:¬ 0=W.next+7:=by omega
    have e71:¬ W.next+7=1:=by omega
    simp only[go_sem,hW1,hWb,x1,hap,dz5,e17,k1];refine ab8 ?_;simp only[go_sem,w1];have hp0:=hps 0;have hp1:=hps 1;have hp2:=hps 2;rw[hk0] at hp0 hp1 hp2;simp only[reduceCtorEq,Int.reduceLT,Int.reduceLE,Int.reduceToNat,Int.reduceAdd,Nat.reduceEqDiff,Nat.reduceAdd,Nat.reduceMul,Nat.reduceLT,Nat.reduceLeDiff,decide_true,decide_false,↓reduceIte,Int.reduceEq,if_true,if_false,List.append_nil] at hp0 hp1 hp2;generalize hZ:Store.put (Store.put (ad7 v2 _) (W.next+7) _) 1 _=Z;have hZn:Z.next=W.next+10:=by rw[<- hZ]; simp only[aa6,kn]
    have hZo:∀ i,i≠W.next+7->i≠1->Z.obj i=(ad7 v2 (⟨W.next+10,W.obj⟩:Store)).obj i:=fun i h1 h2=>by rw[<- hZ]; simp only[aa2,h1,h2,if_false]
    have hZr:Z.obj (W.next+7)=some (.row ((ab7 (l.take k) 2++[l[k].p]).map as4)):=by rw[<- hZ]; simp only[aa2,e71,if_false,if_true]
    have hZb:Z.obj 1=some (.cells [v0,v1,IV.slice (W.next+7) 0 ((ab7 (List.take k l) 2).length+1) 1]):=by rw[<- hZ]; simp only[aa2,if_true]
    clear hZ;rw[show (⟨(ad7 v2 (⟨W.next+10,W.obj⟩:Store)).next,Z.obj⟩:Store)=Z from by rw[kn,<- hZn]];refine ⟨hlt,v0,v1,IV.slice (W.next+7) 0 ((ab7 (List.take k l) 2).length+1) 1,⟨?_,hZb,?_,?_,?_,hPU.a01,dg9 r0 (Nat.le_add_right _ _),dg9 r1 (Nat.le_add_right _ _),by omega⟩,hgood⟩
    ·rw[hZo 0 e07 (by decide),hkl 0 (by decide)]; exact hWm
    ·rw[hp0]; exact bc1 (nid:=W.next+7) (s':=⟨W.next+10,W.obj⟩) r2 r0 (bt9 hPU.a02) (Nat.le_add_right _ _) (by omega) rfl hZo
    ·rw[hp1]; exact bc1 (nid:=W.next+7) (s':=⟨W.next+10,W.obj⟩) r2 r1 (bt9 hPU.a12) (Nat.le_add_right _ _) (by omega) rfl hZo
    ·rw[hp2]; exact .inr ⟨W.next+7,by omega,by omega,by rw[List.length_append,List.length_singleton],hZr⟩
  ·have c1:¬ (k:Int)<l.length:=by omega
   rw[List.take_of_length_le (by omega)] at hP hok;simp only[go_sem,c1];refine ab2 (ab8 ?_);simp only[go_sem];exact .inr ⟨hok,v0,v1,v2,⟨_,rfl⟩,hP⟩
 rintro e f t (⟨rfl,hbad,rst,rfl⟩|⟨rfl,hgood,v0,v1,v2,⟨rst,rfl⟩,hP⟩)
 ·rw[hbad];simp only[go_sem];exact .keep _ (.tuple _ (au8 .aa1 (.int _ _)))
 rw[hgood];simp only[go_sem,if_true]
 have hd:hb9 l:=by
  unfold okS at hgood;rw[Bool.and_eq_true] at hgood;exact (of_decide_eq_true hgood.1:(l.map (·.p)).Nodup)
 have hall:∀ s∈l,0<=s.p/\s.p<256:=fun s hs=>by
  unfold okS at hgood;rw[Bool.and_eq_true] at hgood;have:=List.all_eq_true.1 hgood.2 s hs;unfold ao2 at this;simp only[Bool.and_eq_true,decide_eq_true_eq] at this;have:=hp.len;omega
 have hpos:∀ c,∀ n∈ab7 l c,0<=n/\n<256:=fun c n hn=>by
  obtain ⟨s,hs,rfl,_⟩:=fo1.1 hn;exact hall s hs
 have hlen:∀ c,(ab7 l c).length<200:=fun c=>by
  unfold ab7;have:=List.length_filter_le (fun s:Step=>decide (bf1 s.kind=c)) l;rw[List.length_map];omega
 have mk0:=fr9 p hp (ab7 l 0) (bd8 hd 0) (by have:=hlen 0; omega) (hpos 0);have mk2:=fr9 p hp (ab7 l 2) (bd8 hd 2) (by have:=hlen 2; omega) (hpos 2);let S1:Nat->Bool:=fun i=>decide (i≠1/\i≠idO v0/\i≠idO v2)
 have n1:∀ i n,v1=.slice i 0 n 1->S1 i=true:=fun i n h=>by
  refine decide_eq_true ⟨?_,gt1 hP.r0 hP.r1 hP.a01 i n h,gt1 hP.r2 hP.r1 (bt9 hP.a12) i n h⟩;rcases hP.r1 with ⟨rfl,_⟩|⟨id,q1,_,rfl,_⟩
  ·cases h
  ·cases h; omega
 have s0:S1 0=true:=by
  refine decide_eq_true ⟨by decide,?_,?_⟩
  ·rcases hP.r0 with ⟨rfl,_⟩|⟨id,q1,_,rfl,_⟩
   ·decide
   ·show ¬ 0=id; omega
  ·rcases hP.r2 with ⟨rfl,_⟩|⟨id,q1,_,rfl,_⟩
   ·decide
   ·show ¬ 0=id; omega
 refine gr7 (S:=S1) (fr':=(0,p.v)::(6,.map 0)::(7,.ad4 [.aa3 ((ab7 l 0).map Md.af9),v1,.aa3 ((ab7 l 2).map Md.af9)])::rst) (fun t=>?_) ?_
 ·simp only[Frm.ay4];by_cases h0:t=0
  ·subst h0; exact .inl rfl
  by_cases h6:t=6
  ·subst h6; exact .inl rfl
  by_cases h7:t=7
  ·subst h7;refine .inr ?_;simp only[reduceCtorEq,Int.reduceLT,Int.reduceLE,Int.reduceToNat,Int.reduceAdd,Nat.reduceEqDiff,Nat.reduceAdd,Nat.reduceMul,Nat.reduceLT,Nat.reduceLeDiff,decide_true,decide_false,↓reduceIte,if_true];refine .ptr 1 0 [v0,v1,v2] _ (by simp[S1]) (.inl hP.box) (Nat.le_refl _) fun j hj=>?_
   match j,hj with
   | 0,_=>exact dh2 hP.r0 (by simp[S1])
   | 1,_=>exact .keep _ (ie5 hP.r1 fun i h=>n1 i _ h)
   | 2,_=>exact dh2 hP.r2 (by simp[S1])
  ·simp only[h0,h6,h7,if_false];exact .inl trivial
 refine ab2 (ab8 ?_);simp only[go_sem]
 first|refine aa5 fok16 (mk0) ?_|refine aa8 (mk0) ?_
 simp only[go_sem]
 first|refine aa5 fok16 (mk2) ?_|refine aa8 (mk2) ?_
 have en:¬ t.next=t.next+1:=by omega
 have en2:¬ t.next+1=t.next:=by omega
 simp only[go_sem,en,en2];have hK0:(t.kills S1).obj 0=some (.map (bu5 l)):=by rw[bs7,if_pos s0]; exact hP.map
 have hK1:ad1 (t.kills S1) 2 v1 (ab7 l 1):=bh5 hP.r1 (Nat.le_refl _) fun i n h hi=>by rw[bs7,if_pos (n1 i n h)]
 have hKn:(t.kills S1).next=t.next:=rfl;generalize t.kills S1=K at *;have htn:=hP.next;obtain ⟨B,hB⟩:∃ B,B=t.next+8:=⟨_,rfl⟩;have hB1:t.next+1+1+1+1+1+1+1+1=B:=by omega
 rw[hB1];generalize hZ:Store.put _ (B+1) _=Z;have hZn:Z.next=t.next+12:=by rw[<- hZ]; rfl
 have e1:¬ B=B+1:=by omega
 have hZ13:Z.obj B=some (.cells [.al4 (au7 (ar1 (ai1 p) (ab7 l 0)) (ab7 l 0)),.al4 (au7 (dg4 (ai1 p) (ab7 l 0)) (ab7 l 0))]):=by
  rw[<- hZ]; simp only[aa2,e1,if_false,if_true]
 have hZ14:Z.obj (B+1)=some (.cells [.al4 (au7 (ar1 (ai1 p) (ab7 l 2)) (ab7 l 2)),.al4 (au7 (dg4 (ai1 p) (ab7 l 2)) (ab7 l 2))]):=by
  rw[<- hZ]; simp only[aa2,if_true]
 have hZo:∀ i,i<t.next->Z.obj i=K.obj i:=fun i hi=>by
  have e2:¬ i=B:=by omega
  have e3:¬ i=B+1:=by omega
  rw[<- hZ]; simp only[aa2,e2,e3,if_false]
 clear hZ;have hZ0:Z.obj 0=some (.map (bu5 l)):=by rw[hZo 0 (by omega)]; exact hK0
 have hZ1:ad1 Z 2 v1 (ab7 l 1):=bh5 hK1 (by omega) fun i n h hi=>hZo i (by omega)
 have hv1B:idO v1<B/\idO v1≠0:=by
  rcases hK1 with ⟨rfl,_⟩|⟨id,q1,q2,rfl,_⟩
  ·exact ⟨(by omega:1<B),(by decide:1≠0)⟩
  ·exact ⟨(by omega:id<B),(by omega:id≠0)⟩
 refine ab2 (ab8 ?_);simp only[go_sem];refine ad3 fok17 (fp6 (by have:=hlen 1; omega) hZ1) ?_;rintro r s ⟨rfl,hsn,hso,hs1⟩;refine ⟨hsn,?_⟩;simp only[go_sem];refine ab2 (ab8 ?_);simp only[go_sem];have hs0:s.obj 0=some (.map (bu5 l)):=by rw[hso 0 (by omega) (by omega)]; exact hZ0
 have hs13:=hso B (by omega) (by omega);have hs14:=hso (B+1) (by omega) (by omega);rw[hZ13] at hs13;rw[hZ14] at hs14;let S2:Nat->Bool:=fun i=>decide (i≠B/\i≠B+1/\i≠idO v1)
 have s20:S2 0=true:=decide_eq_true ⟨by omega,by omega,fun h=>hv1B.2 h.symm⟩;have hbm:∀ (g:Int->Nat) (L:List Int),Bnd 0 (.al4 (au7 g L)):=fun g L=>.al4 _ (fun e he=>by obtain ⟨x,_,rfl⟩:=List.mem_map.1 he; exact .int _ _) fun e he=>by obtain ⟨x,_,rfl⟩:=List.mem_map.1 he; exact .agg _ (bq3 _)
 obtain ⟨R,hR⟩:∃ R,R=ai1 p:=⟨_,rfl⟩;rw[<- hR] at hs13 hs14 ⊢;refine gr7 (S:=S2) (fr':=[(6,.map 0),(7,.ad4 [.aa3 ((ab7 l 0).map Md.af9),.aa3 ((aq6 (ab7 l 1)).map Md.af9),.aa3 ((ab7 l 2).map Md.af9)]),(13,.ad4 [.al4 (au7 (ar1 R (ab7 l 0)) (ab7 l 0)),.al4 (au7 (dg4 R (ab7 l 0)) (ab7 l 0))]),(14,.ad4 [.al4 (au7 (ar1 R (ab7 l 2)) (ab7 l 2)),.al4 (au7 (dg4 R (ab7 l 2)) (ab7 l 2))]),(15,.aa1)]) (fun x=>?_) ?_
 ·simp only[Frm.ay4];by_cases h6:x=6
  ·subst h6; exact .inl rfl
  by_cases h7:x=7
  ·subst h7;refine .inr ?_;simp only[reduceCtorEq,Int.reduceLT,Int.reduceLE,Int.reduceToNat,Int.reduceAdd,Nat.reduceEqDiff,Nat.reduceAdd,Nat.reduceMul,Nat.reduceLT,Nat.reduceLeDiff,decide_true,decide_false,↓reduceIte,if_true];refine .ad4 _ _ rfl fun j hj=>?_
   match j,hj with
   | 0,_=>exact .keep _ (db7 (ay7 _))
   | 1,_=>exact dh2 hs1 (by simp[S2])
   | 2,_=>exact .keep _ (db7 (ay7 _))
  by_cases h13:x=13
  ·subst h13;refine .inr ?_;simp only[reduceCtorEq,Int.reduceLT,Int.reduceLE,Int.reduceToNat,Int.reduceAdd,Nat.reduceEqDiff,Nat.reduceAdd,Nat.reduceMul,Nat.reduceLT,Nat.reduceLeDiff,decide_true,decide_false,↓reduceIte,if_true];refine .ptr B 0 _ _ (by simp[S2]) (.inl hs13) (Nat.le_refl _) fun j hj=>?_
   match j,hj with
   | 0,_=>exact .keep _ (db7 (hbm _ _))
   | 1,_=>exact .keep _ (db7 (hbm _ _))
  by_cases h14:x=14
  ·subst h14;refine .inr ?_;simp only[reduceCtorEq,Int.reduceLT,Int.reduceLE,Int.reduceToNat,Int.reduceAdd,Nat.reduceEqDiff,Nat.reduceAdd,Nat.reduceMul,Nat.reduceLT,Nat.reduceLeDiff,decide_true,decide_false,↓reduceIte,if_true];refine .ptr (B+1) 0 _ _ (by simp[S2]) (.inl hs14) (Nat.le_refl _) fun j hj=>?_
   match j,hj with
   | 0,_=>exact .keep _ (db7 (hbm _ _))
   | 1,_=>exact .keep _ (db7 (hbm _ _))
  ·simp only[h6,h7,h13,h14,if_false];exact .inl trivial
 have hY0:(s.kills S2).obj 0=some (.map (bu5 l)):=by rw[bs7,if_pos s20]; exact hs0
 have hYn:0<(s.kills S2).next:=by show 0<s.next; omega
 generalize s.kills S2=Y at *;have hr0:=gt6 (ab7 l 0) 20 [.ad4 [.al4 (au7 (ar1 R (ab7 l 0)) (ab7 l 0)),.al4 (au7 (dg4 R (ab7 l 0)) (ab7 l 0))]] (az6 R (ab7 l 0)) fok20.1 (fn5 (.ad4 _ (au8 (hbm _ _) (hbm _ _)))) (by have:=hlen 0; omega) fun n hn m hm=>ez8 R _ (hpos 0) (bd8 hd 0) hn hm
 have hr2:=gt6 (ab7 l 2) 22 [.ad4 [.al4 (au7 (ar1 R (ab7 l 2)) (ab7 l 2)),.al4 (au7 (dg4 R (ab7 l 2)) (ab7 l 2))]] (az6 (fun a b=>R b a) (ab7 l 2)) fok22.1 (fn5 (.ad4 _ (au8 (hbm _ _) (hbm _ _)))) (by have:=hlen 2; omega) fun n hn m hm=>ez9 R _ (hpos 2) (bd8 hd 2) hm hn
 have q0:dk6 (az6 R (ab7 l 0)) (ab7 l 0).length (aq6 (ab7 l 0))=dy7 R (ab7 l 0):=rfl;have q2:dk6 (az6 (fun a b=>R b a) (ab7 l 2)) (ab7 l 2).length (aq6 (ab7 l 2))=dy7 (fun a b=>R b a) (ab7 l 2):=rfl;rw[q0] at hr0;rw[q2] at hr2;refine ab2 (ab2 (ab8 ?_));simp only[go_sem]
 first|refine aa5 fok19 (hr0) ?_|refine aa8 (hr0) ?_
 simp only[go_sem]
 first|refine aa5 fok19 (hr2) ?_|refine aa8 (hr2) ?_
 simp only[go_sem]
 have hL:∀ c,(dy7 R (ab7 l c)).length<200/\(aq6 (ab7 l c)).length<200/\(dy7 (fun a b=>R b a) (ab7 l c)).length<200:=fun c=>by
  rw[(bb8 R _).length_eq,ck4,(bb8 (fun a b=>R b a) _).length_eq];exact ⟨hlen c,hlen c,hlen c⟩
 obtain ⟨Ls,hLs⟩:∃ Ls,Ls=[dy7 R (ab7 l 0),aq6 (ab7 l 1),dy7 (fun a b=>R b a) (ab7 l 2)]:=⟨_,rfl⟩;have hLl:Ls.length=3:=by rw[hLs]; rfl
 have hLb:∀ L∈Ls,L.length<200:=fun L h=>by
  rw[hLs] at h;simp only[List.mem_cons,List.not_mem_nil,or_false] at h;rcases h with rfl|rfl|rfl
  ·exact (hL 0).1
  ·exact (hL 1).2.1
  ·exact (hL 2).2.2
 have hflat:Ls.flatten=fd4 R l:=by
  rw[hLs]; unfold fd4;simp only[List.flatten_cons,List.flatten_nil,List.append_nil]
 have hst:aj1 (be4 R l)=.aa3 ((fd4 R l).map (stepOf l)):=by
  unfold be4;show IV.aa3 (((fd4 R l).map fun n=>(⟨df7 l n,n⟩:Step)).map Step.cs)=_;rw[List.map_map]; rfl
 rw[hst,<- hflat];refine ai8 (ak6 (fun e f s=>e=.exit 2/\∃ gv,(∃ rst:Frm,f=(6,.map 0)::(15,gv)::rst)/\Grow s gv 2 (Ls.flatten.map (stepOf l))) (bn6 (fun i fr u=>∃ gv,fr=[(6,.map 0),(15,gv),(98,.aa3 (Ls.map fp7)),(99,.int .i64 3),(100,.int .i64 (i:Int))]/\u.obj 0=some (.map (bu5 l))/\0<u.next/\Grow u gv 2 ((Ls.take i).flatten.map (stepOf l))/\(Ls.take i).flatten.length<=200*i) 3 ⟨.aa1,by rw[hLs]; rfl,hY0,Nat.lt_of_lt_of_le hYn (Nat.le_add_right _ _),.inl ⟨rfl,rfl⟩,Nat.le_refl _⟩ ?_) ?_)
 ·rintro i fr u hi ⟨gv,rfl,hu0,hun,hg,hgl⟩;refine ab2 (ab8 ?_);by_cases hi3:i<3
  ·have hiL:i<Ls.length:=by omega
   obtain ⟨L,hLm,hLg,_,hget,htk⟩:=ae8 Ls i hiL;have hLn:=hLb L hLm;have c1:(i:Int)<3:=by omega
   have c2:(0:Int)<=(i:Int):=by omega
   have c3:(i:Int)<(Ls.length:Nat):=by omega
   have w1:=ad2 (i:=i) (by omega);have hgr:=hget fp7;simp only[go_sem,c1];refine ab2 (ab8 ?_);simp only[go_sem];refine ab2 (ai8 (ab2 (ab8 ?_)));simp only[go_sem,c1,c2,c3,hgr,fp7];refine ab2 (ab8 ?_);simp only[go_sem];refine ai8 (ak6 (fun e f s=>e=.exit 4/\∃ gv,(∃ rst:Frm,f=(6,.map 0)::(15,gv)::(98,.aa3 (Ls.map fp7))::(99,.int .i64 3)::(100,.int .i64 (i:Int))::rst)/\s.obj 0=some (.map (bu5 l))/\0<s.next/\Grow s gv 2 (((Ls.take i).flatten++L).map (stepOf l))) (ab3 noT (fun j fr x=>∃ gv,fr=[(6,.map 0),(15,gv),(98,.aa3 (Ls.map fp7)),(99,.int .i64 3),(100,.int .i64 (i:Int)),(104,.aa3 (L.map Md.af9)),(105,.int .i64 L.length),(106,.int .i64 (j:Int))]/\x.obj 0=some (.map (bu5 l))/\0<x.next/\Grow x gv 2 (((Ls.take i).flatten++L.take j).map (stepOf l))) L.length ⟨gv,rfl,hu0,hun,by rw[List.take_zero,List.append_nil]; exact hg⟩ ?_) ?_)
   ·rintro j fr x hj ⟨gv,rfl,hx0,hxn,hgx⟩;by_cases hjL:j<L.length
    ·have d1:(j:Int)<L.length:=by omega
     have d2:(0:Int)<=(j:Int):=by omega
     have hgj:(L.map Md.af9).getD j []=Md.af9 L[j]:=by simp[List.getD_eq_getElem?_getD,hjL]
     have htj:L.take (j+1)=L.take j++[L[j]]:=by rw[List.take_add_one,List.getElem?_eq_getElem hjL]; rfl
     have w2:=ad2 (i:=j) (by omega);have hlk:=dr5 L[j] l;have hkg:=ei1 L[j] l
     have hlen2:((Ls.take i).flatten++L.take j).length<2000:=by
      rw[List.length_append,List.length_take]; omega
     have hgx2:Grow ⟨x.next+1,x.obj⟩ gv 2 (((Ls.take i).flatten++L.take j).map (stepOf l)):=hgx.mono (Nat.le_succ _) fun _ _ _=>rfl
     have hap:=aj6 (nid:=x.next) (e:=[.int .u8 (df7 l L[j]),.int .i64 L[j]]) hgx2 (bm6 l _) ⟨rfl,rfl⟩ (by rw[List.length_map]; omega);have kn:(ad7 gv (⟨x.next+1,x.obj⟩:Store)).next=x.next+1:=ac1 gv;have k0:=af7 hgx2 0 _ hx0 (fun _ h=>by cases h);have e0:¬ 0=x.next:=by omega
     simp only[go_sem,d1,d2,hgj,Md.af9,hx0,cl2,ax7,hlk,hkg,hap,w2];refine ⟨hjL,_,rfl,by simp only[aa2,e0,if_false]; exact k0,by rw[kn]; omega,?_⟩;have hD:(Ls.take i).flatten++L.take (j+1)=((Ls.take i).flatten++L.take j)++[L[j]]:=by rw[htj,List.append_assoc]
     rw[hD];generalize ((Ls.take i).flatten++L.take j)=D at *;refine .inr ⟨x.next,by rw[List.length_map,List.length_append,List.length_singleton],?_,Nat.lt_of_lt_of_le (Nat.lt_succ_self _) (Nat.le_of_eq kn.symm)⟩;simp only[aa2,if_true];rw[List.map_append];rfl
    ·have d1:¬ (j:Int)<L.length:=by omega
     rw[List.take_of_length_le (l:=L) (i:=j) (by omega)] at hgx;simp only[go_sem,d1];exact ⟨gv,⟨_,rfl⟩,hx0,hxn,hgx⟩
   rintro e f x ⟨rfl,gv2,⟨rst2,rfl⟩,hx0,hxn,hgx⟩;simp only[go_sem];refine ab8 ?_;simp only[go_sem,w1];refine ⟨hi3,gv2,rfl,hx0,hxn,by rw[htk,List.flatten_append,List.flatten_cons,List.flatten_nil,List.append_nil]; exact hgx,?_⟩;rw[htk,List.flatten_append,List.length_append,List.flatten_cons,List.flatten_nil,List.append_nil];omega
  ·have c1:¬ (i:Int)<3:=by omega
   rw[List.take_of_length_le (by omega)] at hg;simp only[go_sem,c1];refine ab2 (ab8 ?_);simp only[go_sem];exact ⟨gv,⟨_,rfl⟩,hg⟩
 rintro e f u ⟨rfl,gv,⟨rst3,rfl⟩,hg⟩;simp only[go_sem];refine ab2 (ab8 ?_);simp only[go_sem];refine ab8 ?_;simp only[go_sem];refine .cn2 (.cons (hg.frz (fun x hx=>(bm6 l _ x hx).1) (fun _ _=>Nat.not_lt_zero _) fun e he c hc=>?_) (.cons (go4 _ _) .nil));obtain ⟨n,_,rfl⟩:=List.mem_map.1 he;exact bt8 _ c hc
theorem dq6 (l:List aa9)(n:Int)(hl:l.length<2^62)(ih:∀ r∈l,∀ m:Int,PC Tryz.prog EE 28 [ae6 r.args,.int .i64 m] (.int .i64 (ptR r m))) :
  PC Tryz.prog EE 28 [ae6 l,.int .i64 n] (.int .i64 (ptL l n 0)):=by
 refine av1 fok28 (nZ rfl) fun σ=>?_
 simp only[ic28,go_sem];refine ab3 noT (fun i fr t=>∃ w:Int,t.obj=σ.obj/\t.next=σ.next/\fr=[(0,ae6 l),(1,.int .i64 n),(5,.int .i64 w),(6,.int .i64 i)]/\ptL l n 0=ptL (l.drop i) n w) l.length ⟨0,rfl,rfl,rfl,rfl⟩ ?_;rintro i fr t hi ⟨w,ho,hn,rfl,hf⟩;have ht:t=σ:=by cases t; cases σ; simp only at ho hn; rw[ho,hn]
 subst ht;by_cases hlt:i<l.length
 ·obtain ⟨r,ha,_,hdr,hget,_⟩:=ae8 l i hlt;have c1:(i:Int)<l.length:=by omega
  have c2:(0:Int)<=i:=by omega
  have w1:=ad2 (i:=i) (by omega);rw[hdr,ptL] at hf;by_cases hw:w<n
  ·rw[if_pos hw] at hf;simp only[go_sem,c1,c2,hw,hget,ad5,gn7];refine aa5 fok28 (ih r ha _) ?_;simp only[go_sem,w1];exact ⟨hlt,_,rfl,hf⟩
  ·rw[if_neg hw] at hf;simp only[go_sem,c1,hw];rw[hf]
 ·have hi':i=l.length:=by omega
  subst hi';have c1:¬ (l.length:Int)<l.length:=by omega
  rw[List.drop_length,ptL] at hf;simp only[go_sem,c1,hf,and_self]
theorem gj3 (r:aa9):r.ok->∀ m:Int,PC Tryz.prog EE 28 [ae6 r.args,.int .i64 m] (.int .i64 (ptR r m)):=by
 induction r using aa9.ind with
 | h k d xs ih=>
  intro ho m;obtain ⟨_,_,_,h4,h5⟩:=aa9.hf4.1 ho;rw[ih9];exact dq6 xs m h4 fun r hr m=>ih r hr (h5 r hr) m
theorem gj4 (l:List aa9)(hl:l.length<2^62)(h:∀ r∈l,r.ok)(n:Int):PC Tryz.prog EE 28 [ae6 l,.int .i64 n] (.int .i64 (ptL l n 0)):=
 dq6 l n hl fun r hr m=>gj3 r (h r hr) m
theorem bm7 (l:List aa4)(n:Int)(hl:l.length<2^62)(h:∀ p∈l,p.Ok):PC Tryz.prog EE 12 [ao3 l,.int .i64 n] (.int .i64 (szL l n 0)):=by
 refine ao4 hE fok12 (nZ rfl) (an3 (as7 l) (.int _ _)) ?_;simp only[ic12,go_sem];refine ab3 noT (fun i fr t=>∃ w:Int,fr=[(0,ao3 l),(1,.int .i64 n),(5,.int .i64 w),(6,.int .i64 i)]/\szL l n 0=szL (l.drop i) n w) l.length ⟨0,rfl,rfl⟩ ?_;rintro i fr t hi ⟨w,rfl,hf⟩;by_cases hlt:i<l.length
 ·obtain ⟨p,ha,_,hdr,hget,_⟩:=ae8 l i hlt;have c1:(i:Int)<l.length:=by omega
  have c2:(0:Int)<=i:=by omega
  have w1:=ad2 (i:=i) (by omega);rw[hdr,szL] at hf;by_cases hw:w<n
  ·rw[if_pos hw] at hf;have f6:(p.cs.drop 6).head? = some (deps p.provides):=rfl;have f7:(p.cs.drop 7).head? = some (ae6 p.requires):=rfl;have f8:(p.cs.drop 8).head? = some (ae6 p.conflicts):=rfl;have f9:(p.cs.drop 9).head? = some (deps p.ac6):=rfl;have f10:(p.cs.drop 10).head? = some (ae6 p.ac3):=rfl;have f11:(p.cs.drop 11).head? = some (ae6 p.ab9):=rfl;have f12:(p.cs.drop 12).head? = some (ae6 p.suggests):=rfl;have f13:(p.cs.drop 13).head? = some (ae6 p.ad8):=rfl;have f14:(p.cs.drop 14).head? = some (strs p.files):=rfl;simp only[go_sem,c1,c2,hw,hget,as8,ao9,ap3,f6,f7,f8,f9,f10,f11,f12,f13,f14,bg6];have hL:∀ (k:Nat) (hk:k<(ax3 p).length),((ax3 p).map lR).getD k []=[ae6 (ax3 p)[k]]:=fun k hk=>by simp[List.getD_eq_getElem?_getD,hk,lR]
   have hok:=fv9 (h p ha);have hlen:(ax3 p).length=6:=rfl;unfold szP wr at hf;generalize hw0:IntKind.i64.wrap (IntKind.i64.wrap (IntKind.i64.wrap (IntKind.i64.wrap (w+1)+p.provides.length)+p.ac6.length)+p.files.length)=w0 at *;have hl6:IV.aa3 [[ae6 p.requires],[ae6 p.conflicts],[ae6 p.ac3],[ae6 p.ab9],[ae6 p.suggests],[ae6 p.ad8]]=.aa3 ((ax3 p).map lR):=rfl;rw[hl6];have hf':szL l n 0=szL (l.drop (i+1)) n (hm3 (ax3 p) n w0):=hf;clear hf hdr hget f6 f7 f8 f9 f10 f11 f12 f13 f14 hl6;refine ab3 noT (fun k fr u=>∃ v:Int,fr=[(0,ao3 l),(1,.int .i64 n),(5,.int .i64 v),(6,.int .i64 i),(51,.aa3 ((ax3 p).map lR)),(52,.int .i64 6),(53,.int .i64 k)]/\hm3 (ax3 p) n w0=hm3 ((ax3 p).drop k) n v) 6 ⟨w0,rfl,rfl⟩ ?_;rintro k fr u hk ⟨v,rfl,hs⟩;by_cases hlt2:k<6
   ·have d1:(k:Int)<6:=by omega
    have d2:(0:Int)<=k:=by omega
    have d3:(k:Int)<(ax3 p).length:=by omega
    have w2:=ad2 (i:=k) (by omega);have hk2:k<(ax3 p).length:=by omega
    have hgk:=hL k hk2;obtain ⟨o1,o2⟩:=hok _ (List.getElem_mem hk2);rw[List.drop_eq_getElem_cons hk2,hm3] at hs;generalize (ax3 p)[k]=x at *;simp only[go_sem,d1,d2,d3,hgk];refine aa5 fok28 (gj4 x o1 o2 n) ?_;simp only[go_sem,w2];exact ⟨hlt2,_,rfl,hs⟩
   ·have hk':k=6:=by omega
    subst hk';have d1:¬ ((6:Nat):Int)<6:=by omega
    rw[List.drop_of_length_le (by omega),hm3] at hs;rw[hs] at hf';simp only[go_sem,d1,w1];exact ⟨hlt,_,rfl,hf'⟩
  ·rw[if_neg hw] at hf;simp only[go_sem,c1,hw];rw[hf];exact ac8 _ _
 ·have hi':i=l.length:=by omega
  subst hi';have c1:¬ (l.length:Int)<l.length:=by omega
  rw[List.drop_length,szL] at hf;simp only[go_sem,c1];rw[hf];exact ac8 _ _
def lgQ (m:Int):List ak2->Int->Int->Int×Int
 | [],w,n=>(w,n)
 | r::rs,w,n=>if w<m then lgQ m rs (wr (wr (w+1)+szL r.packages m 0)) (wr (n+r.packages.length)) else (w,n)
def bu1 (ab5:List ak2)(inst:List aa4)(l:List Step):Bool:=decide (600<=(lgQ 600 ab5 (szL inst 600 0) inst.length).1)||decide (24<(lgQ 600 ab5 (szL inst 600 0) inst.length).2)||decide (60<l.length)
theorem ez2 (ab5:List ak2)(inst:List aa4)(l:List Step)(h1:ab5.length<2^62)(h2:inst.length<2^62)(hr:∀ r∈ab5,ak2.Ok r)(hi:∀ p∈inst,p.Ok) :
  PC Tryz.prog EE 4 [be7 ab5,ao3 inst,aj1 l] (.bool (bu1 ab5 inst l)):=by
 refine ao4 hE fok4 (nZ rfl) (dy4 (bv2 ab5) (as7 inst) (au4 l)) ?_;unfold bu1;simp only[ic4,go_sem]
 first|refine aa5 fok12 (bm7 inst 600 h2 hi) ?_|refine aa8 (bm7 inst 600 h2 hi) ?_
 simp only[go_sem];refine ab3 noT (fun i fr t=>∃ w n:Int,fr=[(0,be7 ab5),(2,aj1 l),(7,.int .i64 w),(8,.int .i64 n),(9,.int .i64 i)]/\lgQ 600 ab5 (szL inst 600 0) inst.length=lgQ 600 (ab5.drop i) w n) ab5.length ⟨_,_,rfl,rfl⟩ ?_;rintro i fr t hle ⟨w,n,rfl,hf⟩;by_cases hlt:i<ab5.length/\w<600
 ·obtain ⟨hlt,hw⟩:=hlt;obtain ⟨x,ha,_,hdr,hget,_⟩:=ae8 ab5 i hlt;have c1:(i:Int)<ab5.length:=by omega
  have c2:(0:Int)<=i:=by omega
  have w1:=ad2 (i:=i) (by omega);rw[hdr,lgQ,if_pos hw] at hf;have f1:(x.cs.drop 1).head? = some (ao3 x.packages):=rfl;simp only[go_sem,c1,c2,hw,hget,bv3,f1]
  first|refine aa5 fok12 (bm7 x.packages 600 (hr x ha).1 (hr x ha).2) ?_|refine aa8 (bm7 x.packages 600 (hr x ha).1 (hr x ha).2) ?_
  simp only[go_sem,c1,c2,hget,bv3,f1,w1];exact ⟨hlt,_,_,rfl,hf⟩
 have hw2:lgQ 600 (ab5.drop i) w n=(w,n):=by
  by_cases hl2:i<ab5.length
  ·obtain ⟨x,ha,_,hdr,hget,_⟩:=ae8 ab5 i hl2;rw[hdr,lgQ,if_neg (fun h=>hlt ⟨hl2,h⟩)]
  ·rw[List.drop_of_length_le (by omega)]; rfl
 rw[hw2] at hf;rw[hf];simp only;by_cases hl2:i<ab5.length
 case' pos=>
  have c1:(i:Int)<ab5.length:=by omega
  have hw:¬ w<600:=fun h=>hlt ⟨hl2,h⟩
  have hw':600<=w:=by omega
  simp only[go_sem,c1,hw,hw'];exact ah8 (by simp)
 have c1:¬ (i:Int)<ab5.length:=by omega
 by_cases hw:600<=w
 ·simp only[go_sem,c1,hw];exact ah8 (by simp)
 by_cases hn:24<n
 ·simp only[go_sem,c1,hw,hn];exact ah8 (by simp)
 by_cases hj:60<l.length
 ·have hj':(60:Int)<l.length:=by omega
  simp only[go_sem,c1,hw,hn,hj'];exact ah8 (by simp[hj])
 ·have hj':¬ (60:Int)<l.length:=by omega
  simp only[go_sem,c1,hw,hn,hj'];exact ah8 (by simp[hj])
theorem dz7 {ab5:List ak2}{inst:List aa4}{l:List Step}(h:bu1 ab5 inst l=false):l.length<=60:=by
 unfold bu1 at h;simp only[Bool.or_eq_false_iff,decide_eq_false_iff_not] at h;omega
theorem ie6 (a b:Step):allEq [1,1] a.cs b.cs=some (decide (a=b)):=by
 have e:decide (a=b)=(decide (a.kind=b.kind)&&decide (a.p=b.p)):=by
  cases a; cases b; simp only[Step.mk.injEq,Bool.decide_and]
 rw[e];unfold Step.cs;simp only[fl3,fl2,go_sem,ij5,ah4,Bool.and_true]
theorem co9 (a b:List Step)(h1:a.length<2^62)(h2:b.length<2^62):PC Tryz.prog EE 9 [aj1 a,aj1 b] (.bool (decide (a=b))):=by
 refine ao4 hE fok9 (nZ rfl) (au8 (au4 a) (au4 b)) ?_;by_cases hl:a.length=b.length
 case neg=>
  have c1:¬ (a.length:Int)=b.length:=by omega
  have hne:¬ a=b:=fun e=>hl (by rw[e])
  simp only[ic9,go_sem,c1];exact ah8 (by simp[hne])
 simp only[ic9,go_sem,hl];refine ab3 noT (fun k fr t=>fr=[(0,aj1 a),(1,aj1 b),(5,.int .i64 (k:Int))]/\a.take k=b.take k) a.length ⟨rfl,rfl⟩ ?_;rintro k fr t hk ⟨rfl,hs⟩;by_cases hlt:k<a.length
 ·have c1:(k:Int)<a.length:=by omega
  have c1':(k:Int)<b.length:=by omega
  have c2:(0:Int)<=(k:Int):=by omega
  have w1:=ad2 (i:=k) (by omega);have g1:(a.map Step.cs).getD k []=a[k].cs:=by simp[List.getD_eq_getElem?_getD,hlt]
  have g2:(b.map Step.cs).getD k []=b[k].cs:=by simp[List.getD_eq_getElem?_getD,show k<b.length by omega]
  have hq:=ie6 a[k] b[k];have ta:a.take (k+1)=a.take k++[a[k]]:=by rw[List.take_add_one,List.getElem?_eq_getElem hlt]; rfl
  have tb:b.take (k+1)=b.take k++[b[k]]:=by rw[List.take_add_one,List.getElem?_eq_getElem (by omega)]; rfl
  by_cases he:a[k]=b[k]
  ·have hq:allEq [1,1] a[k].cs b[k].cs=some true:=by rw[hq,decide_eq_true he]
   simp only[go_sem,c1,c1',c2,hl,g1,g2,ap4,al2,al1,hq,Option.map_some,Bool.not_true,w1];exact ⟨by omega,by rw[ta,tb,hs,he]⟩
  ·have hq:allEq [1,1] a[k].cs b[k].cs=some false:=by rw[hq,decide_eq_false he]
   have hne:¬ a=b:=fun e=>he (by subst e; rfl)
   simp only[go_sem,c1,c1',c2,hl,g1,g2,ap4,al2,al1,hq,Option.map_some,Bool.not_false];exact ah8 (by simp[hne])
 ·have c1:¬ (k:Int)<a.length:=by omega
  have c1':¬ (k:Int)<b.length:=by omega
  have e:a=b:=by rw[<- List.take_of_length_le (show a.length<=k by omega),<- List.take_of_length_le (show b.length<=k by omega)]; exact hs
  simp only[go_sem,c1,c1',hl];exact ah8 (by simp[e])
theorem bu2 (R:Int->Int->Bool)(l:List Step):(be4 R l).length=l.length:=by
 unfold be4;rw[List.length_map,(dp3 (R:=R) (l:=l)).length_eq,List.length_map]
set_option maxHeartbeats 1000000
theorem dz8 {S:Store}{lo nid id off n:Nat}{v:IV}{zs ys:List Int}(hv:ad1 S lo v zs)(hs:S.obj id=some (.row (ys.map as4)))(ho:off+n<=ys.length)(hl:zs.length+n<2^30)(hn:lo<=nid)(hn2:nid<S.next)(hne:∀ k,v≠.slice id 0 k 1) :
  ∃ v' S',an5 S nid 1 v (.slice id off n 1)=some (v',S')/\S'.next=S.next/\ad1 S' lo v' (zs++(ys.drop off).take n)/\(∀ i,i≠nid->(∀ k,v≠.slice i 0 k 1)->S'.obj i=S.obj i)/\(v'=v\/∃ k,v'=.slice nid 0 k 1):=by
 have hsrc:ax8 S 1 (.slice id off n 1)=some (n,((ys.drop off).take n).map as4):=by
  have h5:off+n<=(ys.map as4).length:=by rw[List.length_map]; exact ho
  simp only[ax8,hs,Nat.mul_one,h5,and_self,if_true];rw[<- List.map_drop,<- List.map_take]
 have hlen:((ys.drop off).take n).length=n:=by rw[List.length_take,List.length_drop]; omega
 by_cases h0:n=0
 ·subst h0;refine ⟨v,S,?_,rfl,by rw[List.take_zero,List.append_nil]; exact hv,fun _ _ _=>rfl,.inl rfl⟩;unfold an5;rw[hsrc];rcases hv with ⟨rfl,rfl⟩|⟨vid,h1,h2,rfl,h4⟩
  ·simp
  ·simp[h4]
 ·rcases hv with ⟨rfl,rfl⟩|⟨vid,h1,h2,rfl,h4⟩
  ·refine ⟨.slice nid 0 n 1,S.put nid (.row (((ys.drop off).take n).map as4)),?_,rfl,.inr ⟨nid,hn,hn2,by rw[List.nil_append,hlen],by rw[aa2,if_pos rfl,List.nil_append]⟩,fun i hi _=>by rw[aa2,if_neg hi],.inr ⟨n,rfl⟩⟩;unfold an5;rw[hsrc];have h5:n<=2147483648:=by simp only[List.length_nil] at hl; omega
   simp only[bg4,Bool.true_eq_false,if_false,h0,h5,if_true]
  ·refine ⟨.slice nid 0 (zs.length+n) 1,(S.kill vid).put nid (.row (zs.map as4++((ys.drop off).take n).map as4)),?_,rfl,.inr ⟨nid,hn,hn2,by rw[List.length_append,hlen],by rw[aa2,if_pos rfl,List.map_append]⟩,fun i hi hi2=>?_,.inr ⟨_,rfl⟩⟩
   ·unfold an5;rw[hsrc];have h5:0+zs.length*1=(zs.map as4).length:=by rw[List.length_map]; omega
    have h6:zs.length+n<=2147483648:=by omega
    simp only[bg4,Bool.true_eq_false,if_false,h4,h0,and_false,h5,h6,List.drop_zero,and_self,if_true]
   ·rw[aa2,if_neg hi];show (if i=vid then none else S.obj i)=_;rw[if_neg fun e=>hi2 _ (by rw[e])]
theorem dh3 {S:Store}{lo lo2 nid:Nat}{v u:IV}{zs ys:List Int}(hv:ad1 S lo v zs)(hu:ad1 S lo2 u ys)(hl:zs.length+ys.length<2^30)(hn:lo<=nid)(hn2:nid<S.next)(hne:∀ i k m,v=.slice i 0 k 1->u≠.slice i 0 m 1) :
  ∃ v' S',an5 S nid 1 v u=some (v',S')/\S'.next=S.next/\ad1 S' lo v' (zs++ys)/\(∀ i,i≠nid->(∀ k,v≠.slice i 0 k 1)->S'.obj i=S.obj i)/\(v'=v\/∃ k,v'=.slice nid 0 k 1):=by
 rcases hu with ⟨rfl,rfl⟩|⟨id,h1,h2,rfl,h4⟩
 ·refine ⟨v,S,?_,rfl,by rw[List.append_nil]; exact hv,fun _ _ _=>rfl,.inl rfl⟩;rcases hv with ⟨rfl,rfl⟩|⟨vid,h1,h2,rfl,h4⟩
  ·rfl
  ·simp[an5,ax8,h4]
 ·have:=dz8 (nid:=nid) (off:=0) (n:=ys.length) hv h4 (by omega) hl hn hn2 fun k e=>hne _ _ _ e rfl
  rw[List.drop_zero,List.take_of_length_le (Nat.le_refl _)] at this;exact this
theorem eg9 {S0:Store}{lo a b c d n:Nat}{gv:IV}{l:List Int}{k:Int}(hg:ad1 S0 lo gv l)(hlo:∀ id m,gv=.slice id 0 m 1->id<a)(hn:n<=l.length)(hl:l.length<2^20)(hab:a<b)(hbc:b<c)(hcd:c<d)(hd:d<S0.next)(h0:S0.obj a=some (.row [])) :
  ∃ x1 v1 S1 v2 S2 x2 v3 S3,bh9 1 none (some (.int .i64 (n:Int))) gv=some x1/\an5 S0 b 1 (.slice a 0 0 1) x1=some (v1,S1)/\an5 S1 c 1 v1 (.aa3 [[.int .i64 k]])=some (v2,S2)/\bh9 1 (some (.int .i64 (n:Int))) none gv=some x2/\an5 S2 d 1 v2 x2=some (v3,S3)/\S3.next=S0.next /\
   ad1 S3 a v3 (l.take n++[k]++l.drop n)/\(∀ i,i<a->S3.obj i=S0.obj i)/\(∀ i,i<a->S2.obj i=S0.obj i)/\∀ i,i<a->S1.obj i=S0.obj i:=by
 have hb2:∀ m,bq4 m (some (.int .i64 (n:Int)))=some n:=fun m=>by simp[bq4,cq2]
 have hb0:∀ m,bq4 m none=some m:=fun m=>rfl
 have hrow:ad1 S0 a (.slice a 0 0 1) []:=.inr ⟨a,Nat.le_refl _,by omega,rfl,by rw[h0]; rfl⟩
 -- one number behind a row that is no nil
 have one:∀ (S:Store) (v:IV) (zs:List Int),ad1 S a v zs->zs.length<2^21->S.next=S0.next->∃ v' S',an5 S c 1 v (.aa3 [[.int .i64 k]])=some (v',S')/\S'.next=S0.next/\ad1 S' a v' (zs++[k])/\(∀ i,i<a->S'.obj i=S.obj i)/\v'=.slice c 0 (zs.length+1) 1:=fun S v zs h hz hS=>by
  refine ⟨_,_,bd6 (nid:=c) h k (by omega),by rw[aa6,ac1,hS],.inr ⟨c,by omega,by rw[aa6,ac1,hS]; omega,by rw[List.length_append]; rfl,by rw[aa2,if_pos rfl]⟩,fun i hi=>?_,rfl⟩;rw[aa2,if_neg (by omega)];exact aq7 h hi
 rcases hg with ⟨rfl,rfl⟩|⟨id,h1,h2,rfl,h4⟩
 ·have h0n:n=0:=by simpa using hn
  subst h0n;have hbz:∀ m,bq4 m (some (.int .i64 0))=some 0:=fun m=>rfl
  have s1:bh9 1 none (some (.int .i64 ((0:Nat):Int))) .aa1=some .aa1:=by simp[bh9,hbz,hb0]
  have s2:bh9 1 (some (.int .i64 ((0:Nat):Int))) none .aa1=some .aa1:=by simp[bh9,hbz,hb0]
  have a1:an5 S0 b 1 (.slice a 0 0 1) .aa1=some (.slice a 0 0 1,S0):=by simp[an5,ax8,h0]
  obtain ⟨v2,S2,a2,n2,r2,k2,_⟩:=one S0 _ [] hrow (by decide) rfl;obtain ⟨v3,S3,a3,n3,r3,k3,_⟩:=dh3 (nid:=d) (lo2:=0) r2 (.inl ⟨rfl,rfl⟩:ad1 S2 0 .aa1 []) (by simp) (by omega) (by omega) (fun i k m _ e=>by cases e);refine ⟨_,_,_,_,_,_,_,_,s1,a1,a2,s2,a3,by rw[n3,n2],?_,fun i hi=>?_,k2,fun _ _=>rfl⟩
  ·rw[List.append_nil] at r3; exact r3
  ·rw[k3 i (by omega) fun k e=>?_,k2 i hi];rcases r2 with ⟨h,_⟩|⟨id',h5,_,h6,_⟩
   ·rw[h] at e; cases e
   ·rw[h6] at e; cases e; omega
 ·have hid:=hlo id _ rfl;have s1:bh9 1 none (some (.int .i64 (n:Int))) (.slice id 0 l.length 1)=some (.slice id 0 n 1):=by simp[bh9,hb2,hb0,hn]
  have s2:bh9 1 (some (.int .i64 (n:Int))) none (.slice id 0 l.length 1)=some (.slice id n (l.length-n) 1):=by simp[bh9,hb2,hb0,hn]
  obtain ⟨v1,S1,a1,n1,r1,k1,e1⟩:=dz8 (nid:=b) (off:=0) (n:=n) hrow h4 (by omega) (by simp only[List.length_nil]; omega) (by omega) (by omega) (fun k e=>by cases e; omega);rw[List.nil_append,List.drop_zero] at r1;obtain ⟨v2,S2,a2,n2,r2,k2,e2⟩:=one S1 v1 _ r1 (by rw[List.length_take]; omega) n1;have g1:∀ i,i<a->S1.obj i=S0.obj i:=fun i hi=>k1 i (by omega) fun k e=>by cases e; omega
  have h4':S2.obj id=some (.row (l.map as4)):=by rw[k2 id hid,g1 id hid]; exact h4
  obtain ⟨v3,S3,a3,n3,r3,k3,e3⟩:=dz8 (nid:=d) (off:=n) (n:=l.length-n) r2 h4' (by omega) (by rw[List.length_append,List.length_take,List.length_singleton]; omega) (by omega) (by omega) (fun k e=>by rw[e2] at e; cases e; omega);have ed:(l.drop n).take (l.length-n)=l.drop n:=List.take_of_length_le (by rw[List.length_drop]; exact Nat.le_refl _);rw[ed] at r3;refine ⟨_,_,_,_,_,_,_,_,s1,a1,a2,s2,a3,by rw[n3,n2],r3,fun i hi=>?_,fun i hi=>by rw[k2 i hi,g1 i hi],g1⟩;rw[k3 i (by omega) fun k e=>by rw[e2] at e; cases e; omega,k2 i hi,g1 i hi]
def Ap (v w:IV):Prop:=∀ a n m,v=.slice a 0 n 1->w≠.slice a 0 m 1
theorem Ap.sym {v w:IV}(h:Ap v w):Ap w v:=fun a n m h1 h2=>h a m n h2 h1
structure P3 (t:Store) (cv pv gv:IV) (a b c:List Int):Prop where
 r1:ad1 t 0 cv a
 r2:ad1 t 0 pv b
 r3:ad1 t 0 gv c
 x12:Ap cv pv
 x13:Ap cv gv
 x23:Ap pv gv
theorem P3.rot {t:Store}{cv pv gv:IV}{a b c:List Int}(h:P3 t cv pv gv a b c):P3 t pv gv cv b c a:=⟨h.r2,h.r3,h.r1,h.x23,h.x12.sym,h.x13.sym⟩
theorem P3.keep {t u:Store}{cv pv gv:IV}{a b c:List Int}(h:P3 t cv pv gv a b c)(hk:Kept t u):P3 u cv pv gv a b c:=⟨h.r1.kept hk,h.r2.kept hk,h.r3.kept hk,h.x12,h.x13,h.x23⟩
theorem ar8 {t:Store}{lo:Nat}{v:IV}{zs:List Int}(h:ad1 t lo v zs){i n:Nat}(hv:v=.slice i 0 n 1):lo<=i/\i<t.next:=by
 rcases h with ⟨h,_⟩|⟨id,h1,h2,h3,_⟩
 ·rw[h] at hv; cases hv
 ·rw[h3] at hv; cases hv; exact ⟨h1,h2⟩
theorem eh1 {t u:Store}{lo:Nat}{v w:IV}{zs:List Int}(h:ad1 t lo w zs)(hx:Ap v w)(hn:t.next<=u.next)(ho:∀ i,i<t.next->(∀ n,v≠.slice i 0 n 1)->u.obj i=t.obj i):ad1 u lo w zs:=by
 rcases h with h|⟨id,h1,h2,h3,h4⟩
 ·exact .inl h
 ·exact .inr ⟨id,h1,by omega,h3,by rw[ho id h2 fun n e=>hx _ _ _ e h3]; exact h4⟩
theorem P3.set1 {t u:Store}{cv pv gv v':IV}{a b c a':List Int}(h:P3 t cv pv gv a b c)(hn:t.next<=u.next)(hv:ad1 u t.next v' a')(ho:∀ i,i<t.next->(∀ n,cv≠.slice i 0 n 1)->u.obj i=t.obj i):P3 u v' pv gv a' b c where
 r1:=hv.low (Nat.zero_le _)
 r2:=eh1 h.r2 h.x12 hn ho
 r3:=eh1 h.r3 h.x13 hn ho
 x12:=fun i n m h1 h2=>by have:=(ar8 hv h1).1; have:=(ar8 h.r2 h2).2; omega
 x13:=fun i n m h1 h2=>by have:=(ar8 hv h1).1; have:=(ar8 h.r3 h2).2; omega
 x23:=h.x23
theorem P3.set2 {t u:Store}{cv pv gv v':IV}{a b c b':List Int}(h:P3 t cv pv gv a b c)(hn:t.next<=u.next)(hv:ad1 u t.next v' b')(ho:∀ i,i<t.next->(∀ n,pv≠.slice i 0 n 1)->u.obj i=t.obj i):P3 u cv v' gv a b' c:=(h.rot.set1 hn hv ho).rot.rot
theorem P3.ja7 {t u:Store}{cv pv gv v':IV}{a b c c':List Int}(h:P3 t cv pv gv a b c)(hn:t.next<=u.next)(hv:ad1 u t.next v' c')(ho:∀ i,i<t.next->(∀ n,gv≠.slice i 0 n 1)->u.obj i=t.obj i):P3 u cv pv v' a b c':=(h.rot.rot.set1 hn hv ho).rot
theorem eh2 {t:Store}{v:IV}{zs:List Int}{k:Nat}(h:ad1 t 0 v zs)(n:Int)(hz:zs.length<2^20):∃ v' u,an5 ⟨t.next+(k+1),t.obj⟩ (t.next+k) 1 v (.aa3 [[.int .i64 n]])=some (v',u)/\u.next=t.next+(k+1)/\ad1 u t.next v' (zs++[n])/\∀ i,i<t.next->(∀ m,v≠.slice i 0 m 1)->u.obj i=t.obj i:=by
 refine ⟨_,_,bd6 (nid:=t.next+k) (s:=⟨t.next+(k+1),t.obj⟩) (h.up (k+1)) n (by omega),by rw[aa6,ac1],.inr ⟨t.next+k,by omega,by rw[aa6,ac1]; show t.next+k<t.next+(k+1); omega,by rw[List.length_append]; rfl,by rw[aa2,if_pos rfl]⟩,fun i hi hv=>?_⟩;rw[aa2,if_neg (by omega)];rcases h with ⟨rfl,_⟩|⟨id,_,_,rfl,_⟩
 ·rfl
 ·show (if i=id then none else t.obj i)=_;rw[if_neg fun e=>hv _ (by rw[e])]
end Go.Id.Tryz
