/- An installed package's ways: the functions walked. Conditions: sizes that fit. -/
import Derived.Test.YtlnkchkhffkofaaGreatDoorTOOF
import Derived.Test.YtlnkchkhffkofaaGreatDoorTOUA
import Derived.Test.YtlnkchkhffkofaaGreatDoorMv
import Derived.Test.YtlnkchkhffkofaaGreatDoorTOTN
set_option linter.all false
namespace Go.Id.Tryz
open Go Go.Id Go.Proofs Go.Shelf Go.Id.Md
set_option maxRecDepth 100000
set_option maxHeartbeats 1000000
set_option maxHeartbeats 1000000
theorem fr9 {σ:Store}(fv:IV):C Tryz.prog EE 150 [.aa1,.int .i64 0,.int .i64 0,fv] σ fun v s=>v=.tuple []∧σ.next≤s.next∧s.obj=σ.obj:=by
 refine C_f fok150 (nZ rfl) ?_;have w0:IntKind.i64.wrap (0+1)=1:=by decide
 simp only[ic150,go_sem,w0];refine ab7 noT (fun k fr t=>k=0∧fr=[(0,.aa1),(1,.int .i64 0),(2,.int .i64 0),(3,fv),(8,.int .i64 1)]∧σ.next≤t.next∧t.obj=σ.obj) 0 ⟨rfl,rfl,Nat.le_refl _,rfl⟩ ?_;rintro k fr t _ ⟨rfl,rfl,ht⟩;simp only[go_sem];exact ht
theorem gl3 {σ:Store}(fv:IV):C Tryz.prog EE 31 [.aa1,fv] σ fun v s=>v=.tuple []∧σ.next≤s.next∧s.obj=σ.obj:=by
 have hp:∀ lim:Int,C Tryz.prog EE 71 [.aa1,.int .i64 0,.int .i64 0,.int .i64 lim,fv] σ fun v s=>v=.tuple []∧σ.next≤s.next∧s.obj=σ.obj:=fun lim=>by
  refine C_f fok71 (nZ rfl) ?_;have w0:IntKind.i64.wrap (0-0)=0:=by decide
  have c1:(0:Int)≤12:=by decide
  simp only[ic71,go_sem];refine ab7 noT (fun k fr t=>k=0∧fr=[(0,.aa1),(1,.int .i64 0),(2,.int .i64 0),(3,.int .i64 lim),(4,fv),(10,.bool true),(11,.bool true)]∧σ.next≤t.next∧t.obj=σ.obj) 0 ⟨rfl,rfl,Nat.le_refl _,rfl⟩ ?_;rintro k fr t _ ⟨rfl,rfl,ht,ho⟩;simp only[go_sem,w0,c1];refine ad1 fok150 (fr9 fv) ?_;rintro v s ⟨rfl,hs,hso⟩;refine ⟨hs,?_⟩;simp only[go_sem];exact ⟨Nat.le_trans ht hs,by first|exact hso.trans ho|(rw[hso]; exact ho)⟩
 refine C_f fok31 (nZ rfl) ?_;have w0:IntKind.u64.wrap 0=0:=by decide
 have hl:=fy8 0 (by decide);simp only[ic31,go_sem,w0];refine aa5 fok72 hl ?_;simp only[go_sem];refine ad1 fok71 (hp _) ?_;rintro v s ⟨rfl,hs,hso⟩;refine ⟨hs,?_⟩;simp only[go_sem];exact ⟨hs,hso⟩
theorem hh7:Go.Sort.SWO (ltOf fun x y:Int=>be1 x y):=by
 refine ⟨fun x=>?_,fun x y z h1 h2=>?_,fun x y z h1 h2=>?_⟩
 ·show decide (be1 x x<0)=false;rw[fq5.2 rfl]; rfl
 ·unfold ltOf be1 at *;simp only[decide_eq_true_eq] at h1 h2 ⊢
  repeat' split at h1
  all_goals repeat' split at h2
  all_goals (repeat' split)
  all_goals omega
 ·unfold ltOf be1 at *;simp only[decide_eq_false_iff_not] at h1 h2 ⊢
  repeat' split at h1
  all_goals repeat' split at h2
  all_goals (repeat' split)
  all_goals omega
theorem fs1 {σ:Store}{id:Nat}{zs:List Int}(hz:zs.length<256)(hid:id<σ.next)(ho:σ.obj id=some (.row (zs.map ch5))) :
  C Tryz.prog EE 31 [.slice id 0 zs.length 1,.func (.func 32) [] []] σ fun v s=>v=.tuple []∧σ.next≤s.next∧(∀ i,i<σ.next→i≠id→s.obj i=σ.obj i)∧s.obj id=some (.row ((bt4 zs).map ch5)):=by
 have hCm:cf4 (fun x:Int=>x) (fun x y:Int=>be1 x y) 32 [] []:=⟨fok32.1,fun x y=>dl3 x y⟩
 have hrw:σ.obj id=some (.row (az7 (fun x:Int=>x) [] zs.toArray)):=by
  rw[ho,az7,fd8,List.append_nil]
 have hS:=fe6 (fun x:Int=>x) [] hCm hh7 zs.toArray (by simpa using hz) hid hrw;have hsz:zs.toArray.size=zs.length:=List.size_toArray ..;rw[hsz] at hS;refine hS.mono fun v s h=>?_
 obtain ⟨rfl,d',hP,hU,hK⟩:=h;have hd's:d'.size=zs.length:=by rw[hP.1]; exact hsz
 have hpm:d'.toList.Perm zs:=by
  have h3:=hP.2.2;have e1:d'.extract 0 zs.length=d':=by rw[← hd's]; exact Array.extract_size
  have e2:zs.toArray.extract 0 zs.length=zs.toArray:=by rw[← hsz]; exact Array.extract_size
  rw[e1,e2] at h3;exact h3
 have hle:d'.toList.Pairwise (·≤·):=by
  refine List.pairwise_iff_getElem.2 fun i j hi hj hij=>?_
  have hi2:i<d'.size:=by simpa using hi
  have hj2:j<d'.size:=by simpa using hj
  have h4:=hU i j (Nat.zero_le _) hij (by omega);rw[getElem!_pos d' i hi2,getElem!_pos d' j hj2] at h4;unfold ltOf at h4;have h5:¬ be1 d'[j] d'[i]<0:=of_decide_eq_false h4;have g1:d'.toList[i]=d'[i]:=by simp
  have g2:d'.toList[j]=d'[j]:=by simp
  rw[g1,g2];unfold be1 at h5;split at h5<;>omega
 have hone:d'.toList=bt4 zs:=cj4 hpm hle;refine ⟨rfl,hK.next,fun i hi hne=>hK.other i hi hne,?_⟩;rw[hK.row,az7,fd8,List.append_nil,← hone]
theorem ei8 (l:List Int):(bt4 l).length=l.length:=(ai3 l).length_eq
theorem ag6 (d:Step):d.cs.length=2:=rfl
theorem af3 (d:Step):d.cs.all IV.leaf=true:=rfl
theorem af4 (d:Step):d.cs.take 2=d.cs:=rfl
theorem di9 (d:Step):∀ c∈d.cs,Bnd 0 c:=be7 (.int _ _) (.int _ _)
theorem ap8 (l:List Step):Bnd 0 (af7 l):=.aa3 _ fun e he c hc=>by
 obtain ⟨d,_,rfl⟩:=List.mem_map.1 he; exact di9 d c hc
structure fb9 (s:Store) (l:List Step) (v0 v1 v2:IV):Prop where
 map:s.obj 0=some (.map (bu3 l))
 box:s.obj 1=some (.cells [v0,v1,v2])
 r0:aj3 s 2 v0 (ab4 l 0)
 r1:aj3 s 2 v1 (ab4 l 1)
 r2:aj3 s 2 v2 (ab4 l 2)
 a01:∀ i n m,v0=.slice i 0 n 1→v1≠.slice i 0 m 1
 a02:∀ i n m,v0=.slice i 0 n 1→v2≠.slice i 0 m 1
 a12:∀ i n m,v1=.slice i 0 n 1→v2≠.slice i 0 m 1
 next:2≤s.next
theorem bh5 {s t:Store}{lo:Nat}{v:IV}{zs:List Int}(h:aj3 s lo v zs)(hn:s.next≤t.next)(ho:∀ i n,v=.slice i 0 n 1→i<s.next→t.obj i=s.obj i):aj3 t lo v zs:=by
 rcases h with h|⟨id,h1,h2,h3,h4⟩
 ·exact .inl h
 ·exact .inr ⟨id,h1,by omega,h3,by rw[ho id _ h3 h2]; exact h4⟩
theorem fb9.keep {s t:Store}{l:List Step}{v0 v1 v2:IV}(h:fb9 s l v0 v1 v2)(hn:s.next≤t.next)(ho:∀ i,i<s.next→t.obj i=s.obj i):fb9 t l v0 v1 v2 :=
 have:=h.next
 ⟨by rw[ho 0 (by omega)]; exact h.map,by rw[ho 1 (by omega)]; exact h.box,bh5 h.r0 hn fun i _ _ hi=>ho i hi,bh5 h.r1 hn fun i _ _ hi=>ho i hi,bh5 h.r2 hn fun i _ _ hi=>ho i hi,h.a01,h.a02,h.a12,by omega⟩
theorem eb9 {n m:Nat}{x y:IX}{E:Nat→IV}{fr:Frm}{σ:Store}:bp8 E fr σ (.q (.ay8 n m x y))=True:=rfl
theorem bb7 {s s' τ:Store}{nid:Nat}{v w:IV}{zs ys:List Int}(hv:aj3 s 2 v zs)(hw:aj3 s 2 w ys)(ha:∀ i n m,v=.slice i 0 n 1→w≠.slice i 0 m 1)(hn:s.next≤nid)(hnt:s.next≤τ.next)(hs:s'.obj=s.obj)(ho:∀ i,i≠nid→i≠1→τ.obj i=(ah9 v s').obj i):aj3 τ 2 w ys:=by
 rcases hw with h|⟨id,h1,h2,h3,h4⟩
 ·exact .inl h
 ·refine .inr ⟨id,h1,by omega,h3,?_⟩;rw[ho id (by omega) (by omega)];rcases hv with ⟨rfl,_⟩|⟨id',_,_,rfl,_⟩
  ·show s'.obj id=_;rw[hs]; exact h4
  ·have:¬ id=id':=fun e=>ha id' _ _ rfl (by rw[← e]; exact h3)
   show (if id=id' then none else s'.obj id)=_;rw[if_neg this,hs]; exact h4
theorem dj1 {s:Store}{nid m:Nat}{w:IV}{ys:List Int}(hw:aj3 s 2 w ys)(hn:s.next≤nid):∀ i n k,w=.slice i 0 n 1→(IV.slice nid 0 m 1)≠.slice i 0 k 1:=fun i n k h e=>by
 cases e;rcases hw with ⟨rfl,_⟩|⟨id,_,h2,rfl,_⟩
 ·cases h
 ·cases h; omega
theorem dj2 {s:Store}{nid m:Nat}{w:IV}{ys:List Int}(hw:aj3 s 2 w ys)(hn:s.next≤nid):∀ i n k,(IV.slice nid 0 m 1)=.slice i 0 n 1→w≠.slice i 0 k 1:=fun i n k h e=>dj1 (m:=m) hw hn i k n e h
theorem bu4 {v w:IV}(h:∀ i n m,v=.slice i 0 n 1→w≠.slice i 0 m 1):∀ i n m,w=.slice i 0 n 1→v≠.slice i 0 m 1:=fun i n m h1 h2=>h i m n h2 h1
def idO:IV→Nat
 | .slice i _ _ _=>i
 | _=>1
theorem fs2 {σ:Store}{v:IV}{zs:List Int}(hz:zs.length<256)(h:aj3 σ 2 v zs) :
  C Tryz.prog EE 31 [v,.func (.func 32) [] []] σ fun r s=>r=.tuple []∧σ.next≤s.next∧(∀ i,i<σ.next→i≠idO v→s.obj i=σ.obj i)∧aj3 s 2 v (bt4 zs):=by
 rcases h with ⟨rfl,rfl⟩|⟨id,h1,h2,rfl,h4⟩
 ·refine (gl3 _).mono fun r s h=>⟨h.1,h.2.1,fun i _ _=>by rw[h.2.2],.inl ⟨rfl,by unfold bt4; exact List.mergeSort_nil⟩⟩
 ·refine (fs1 hz h2 h4).mono fun r s h=>⟨h.1,h.2.1,h.2.2.1,.inr ⟨id,h1,by have:=h.2.1; omega,by rw[ei8],h.2.2.2⟩⟩
theorem dj3 {s:Store}{S:Nat→Prop}{v:IV}{zs:List Int}(h:aj3 s 2 v zs)(hS:¬ S (idO v)):Frz s S v (.aa3 (zs.map Md.ag9)):=by
 rcases h with ⟨rfl,rfl⟩|⟨id,h1,h2,rfl,h4⟩
 ·exact .bw7
 ·refine .slice id 0 zs.length 1 _ (zs.map Md.ag9) hS (.inr h4) (by rw[List.length_map]) (by simp) (fun i hi=>?_) fun i hi j hj=>?_
  ·simp[List.getD_eq_getElem?_getD,hi,Md.ag9]
  ·have hj0:j=0:=by omega
   subst hj0;have e2:((zs.map Md.ag9).getD i []).getD 0 .undef=ch5 zs[i]:=by simp[List.getD_eq_getElem?_getD,hi,Md.ag9]
   have e3:(zs.map ch5).getD (0+(i*1+0)) .undef=ch5 zs[i]:=by simp[List.getD_eq_getElem?_getD,hi]
   rw[e2,e3];exact .keep _ (.int _ _)
theorem dd2 {S:Nat→Prop}{v:IV}(h:Bnd 0 v):Nm S v:=h.weak fun i h=>absurd h (Nat.not_lt_zero _)
theorem if8 {s:Store}{S:Nat→Prop}{v:IV}{zs:List Int}(h:aj3 s 2 v zs)(hS:∀ i,v=.slice i 0 zs.length 1→S i):Nm S v:=by
 rcases h with ⟨rfl,_⟩|⟨id,h1,h2,rfl,h4⟩
 ·exact .aa1
 ·exact .slice _ _ _ _ (hS id rfl)
theorem gu1 {s:Store}{v w:IV}{zs ys:List Int}(hv:aj3 s 2 v zs)(hw:aj3 s 2 w ys)(ha:∀ i n m,v=.slice i 0 n 1→w≠.slice i 0 m 1):∀ i n,w=.slice i 0 n 1→i≠idO v:=fun i n h e=>by
 rcases hv with ⟨rfl,_⟩|⟨id,h1,_,rfl,_⟩
 ·have e':i=1:=e;rcases hw with ⟨rfl,_⟩|⟨id2,h2,_,rfl,_⟩
  ·cases h
  ·injection h with h1
   omega
 ·exact ha id _ n rfl (by rw[h,e]; rfl)
def fs3 (l:List Int):List IV:=[.aa3 (l.map Md.ag9)]
def stepOf (l:List Step)(n:Int):List IV:=Step.cs ⟨bn6 l n,n⟩
theorem dd3 (l:List Step)(zs:List Int):∀ x∈zs.map (stepOf l),x.length=2∧x.all IV.leaf=true:=fun x hx=>by
 obtain ⟨n,_,rfl⟩:=List.mem_map.1 hx;exact ⟨rfl,rfl⟩
theorem cp8 (p:Pool)(hp:av1 p)(l:List Step)(hl:l.length<200) :
  PC Tryz.prog EE 8 [p.v,af7 l] (if okS p.rows.length l then .tuple [af7 (ad8 (ac8 p) l),.int .i64 0] else .tuple [.aa1,.int .i64 4]):=by
 refine hb8 hE fok8 (nZ rfl) (be7 (au7 p) (ap8 l)) ?_;have hnil:∀ d:TypeId,dm7 (.pointer d) p.v=some false:=fun _=>rfl
 simp only[ic8];refine aa9 (ab2 ?_);simp only[go_sem];refine aa9 (ab2 ?_);simp only[go_sem,hnil];refine aa9 (ab2 ?_);simp only[go_sem];refine aa9 (ab2 ?_);simp only[go_sem];refine aa9 (aa9 (ab2 ?_));simp only[go_sem];generalize hT:Store.mk _ _=T
 have hP0:fb9 T ([]:List Step) .aa1 .aa1 .aa1:=by
  rw[← hT];refine ⟨?_,?_,.inl ⟨rfl,rfl⟩,.inl ⟨rfl,rfl⟩,.inl ⟨rfl,rfl⟩,fun _ _ _ h=>(by cases h),fun _ _ _ h=>(by cases h),fun _ _ _ h=>(by cases h),by decide⟩
  ·simp only[aa2,reduceCtorEq,Int.reduceLT,Int.reduceLE,Int.reduceToNat,Int.reduceAdd,Nat.reduceEqDiff,Nat.reduceAdd,Nat.reduceMul,Nat.reduceLT,Nat.reduceLeDiff,decide_true,decide_false,↓reduceIte]; rfl
  ·simp only[aa2,if_true]
 clear hT;refine ae2 (ag7 (fun e f s=>(e=.ret∧okS p.rows.length l=false∧∃ rst:Frm,f=(4,.aa1)::(5,.int .i64 4)::rst)∨(e=.exit 0∧okS p.rows.length l=true∧∃ v0 v1 v2,(∃ rst:Frm,f=(0,p.v)::(6,.map 0)::(7,.ptr 1 0)::rst)∧fb9 s l v0 v1 v2)) (as2 (fun k fr t=>∃ v0 v1 v2,fr=[(0,p.v),(6,.map 0),(7,.ptr 1 0),(23,af7 l),(24,.int .i64 l.length),(25,.int .i64 (k:Int))]∧fb9 t (l.take k) v0 v1 v2∧okS p.rows.length (l.take k)=true) l.length ⟨_,_,_,rfl,hP0,rfl⟩ ?_) ?_)
 ·rintro k fr t hk ⟨v0,v1,v2,rfl,hP,hok⟩;refine aa9 (ab2 ?_);by_cases hlt:k<l.length
  ·have c1:(k:Int)<l.length:=by omega
   have c2:(0:Int)≤(k:Int):=by omega
   have hgk:(l.map Step.cs).getD k []=l[k].cs:=by simp[List.getD_eq_getElem?_getD,hlt]
   have w1:=ad5 (i:=k) (by omega);have htk:l.take (k+1)=l.take k++[l[k]]:=by rw[List.take_add_one,List.getElem?_eq_getElem hlt]; rfl
   have hlk:=dt9 l[k].p (l.take k);have hks:=fr8 l[k].p (l.take k);have hsn:=gl2 p.rows.length (l.take k) l[k];rw[hok,Bool.true_and] at hsn;have hpc:=cg7 p;have hmap:=hP.map;have hbx:=hP.box;simp only[go_sem,c1];refine aa9 (ab2 ?_);simp only[go_sem];refine aa9 (ae2 (aa9 (ab2 ?_)));simp only[go_sem,c1,c2,hgk,ag6,af4,af3];obtain ⟨b,hb⟩:∃ b,b=t.next:=⟨_,rfl⟩;rw[← hb];have hnx:=hP.next;generalize hU:Store.put _ b (aj5.cells l[k].cs)=U;have hUn:U.next=b+1:=by rw[← hU]; rfl
   have hUb:U.obj b=some (.cells l[k].cs):=by rw[← hU]; simp only[aa2,if_true]
   have hUo:∀ i,i<t.next→U.obj i=t.obj i:=fun i hi=>by
    have e:¬ i=b:=by omega
    rw[← hU]; simp only[aa2,e,if_false]
   clear hU;have hPU:=hP.keep (t:=U) (by omega) hUo;have hmap:=hPU.map;have hbx:=hPU.box;have x0:l[k].cs.head? = some (.int .u8 l[k].kind):=rfl;have x1:(l[k].cs.drop 1).head? = some (.int .i64 l[k].p):=rfl;refine aa9 (aa9 (ab2 ?_));simp only[go_sem,hUb,x0,x1,cf6,ax4,hmap,hlk,ei7,hks];have hbad:(!decide (l[k].p∈(l.take k).map (·.p))&&az3 p.rows.length l[k])=false→okS p.rows.length l=false:=fun h=>hh5 hlt (by rw[hsn]; exact h)
   by_cases hm:l[k].p∈(l.take k).map (·.p)
   case' pos=>
    refine ab2 ?_;simp only[go_sem,hm];exact .inl ⟨hbad (by rw[decide_eq_true hm]; rfl),_,rfl⟩
   by_cases h1:l[k].kind<1
   case' pos=>
    refine ab2 ?_;simp only[go_sem,hm,hUb,x0,x1,h1];exact .inl ⟨hbad (by have:¬ 1≤l[k].kind:=(by omega); simp[az3,this]),_,rfl⟩
   by_cases h8:8<l[k].kind
   case' pos=>
    refine ab2 ?_;simp only[go_sem,hm,hUb,x0,x1,h1,h8];exact .inl ⟨hbad (by have:¬ l[k].kind≤8:=(by omega); simp[az3,this]),_,rfl⟩
   by_cases h0:l[k].p<0
   case' pos=>
    refine ab2 ?_;simp only[go_sem,hm,hUb,x0,x1,h1,h8,h0];exact .inl ⟨hbad (by have:¬ 0≤l[k].p:=(by omega); simp[az3,this]),_,rfl⟩
   by_cases hN:(p.rows.length:Int)≤l[k].p
   case' pos=>
    refine ab2 ?_;simp only[go_sem,hm,hUb,x0,x1,h1,h8,h0]
    first|refine aa5 fok28 (hpc) ?_|refine aa7 (hpc) ?_
    simp only[go_sem,hN];exact .inl ⟨hbad (by have:¬ l[k].p<p.rows.length:=(by omega); simp[az3,this]),_,rfl⟩
   have hgood:okS p.rows.length (l.take (k+1))=true:=by
    rw[htk,hsn];have q1:1≤l[k].kind:=by omega
    have q2:l[k].kind≤8:=by omega
    have q3:0≤l[k].p:=by omega
    have q4:l[k].p<p.rows.length:=by omega
    simp only[az3,hm,q1,q2,q3,q4,decide_true,decide_false,Bool.not_false,Bool.and_self]
   have hup:=gl1 l[k] (l.take k) hm;rw[← htk] at hup;have hpt:=hh6 l[k].kind;refine ab2 ?_;simp only[go_sem,hm,hUb,x0,x1,h1,h8,h0]
   first|refine aa5 fok28 (hpc) ?_|refine aa7 (hpc) ?_
   simp only[go_sem,hN];refine aa9 (ab2 ?_);simp only[go_sem,hUb,x0,x1,ak4,hmap,hup,Option.map_some];have e0b:¬ b=0:=by omega
   have e01:¬ (1=0):=by decide
   refine aa9 (ab2 ?_);simp only[go_sem,hUb,x0,x1,e0b]
   first|refine aa5 fok29 (hpt) ?_|refine aa7 (hpt) ?_
   simp only[go_sem];generalize hW:Store.mk (U.next+23) _=W;have hWn:W.next=U.next+23:=by rw[← hW]
   have hWm:W.obj 0=some (.map (bu3 (l.take (k+1)))):=by rw[← hW]; simp only[aa2,if_true]
   have hWo:∀ i,i≠0→W.obj i=U.obj i:=fun i hi=>by rw[← hW]; simp only[aa2,hi,if_false]
   clear hW;have hWb:W.obj b=some (.cells l[k].cs):=by rw[hWo b e0b]; exact hUb
   have hW1:W.obj 1=some (.cells [v0,v1,v2]):=by rw[hWo 1 (by decide)]; exact hbx
   have wr:∀ {v:IV} {zs:List Int},aj3 U 2 v zs→aj3 W 2 v zs:=fun h=>by
    rcases h with h|⟨id,q1,q2,q3,q4⟩
    ·exact .inl h
    ·exact .inr ⟨id,q1,by omega,q3,by rw[hWo id (by omega)]; exact q4⟩
   have r0:=wr hPU.r0;have r1:=wr hPU.r1;have r2:=wr hPU.r2
   have up:∀ {v:IV} {zs:List Int},aj3 W 2 v zs→aj3 ⟨W.next+10,W.obj⟩ 2 v zs:=fun h=>by
    rcases h with h|⟨id,q1,q2,q3,q4⟩
    ·exact .inl h
    ·exact .inr ⟨id,q1,by show id<W.next+10; omega,q3,q4⟩
   have hln:∀ i,(ab4 (l.take k) i).length<2147483648:=fun i=>by
    unfold ab4;have:=List.length_filter_le (fun s:Step=>decide (aj8 s.kind=i)) (l.take k);rw[List.length_map];rw[List.length_take] at this;omega
   have hps:=fun i=>fb6 (l.take k) l[k] i
   simp only[← htk] at hps;rcases bm1 l[k].kind with hk0|hk0|hk0
   all_goals
    rw[hk0];refine ab2 ?_
   ·have hap:=cn7 (nid:=W.next+7) (up r0) l[k].p (hln 0);have hkl:∀ i,i<2→(ah9 v0 (⟨W.next+10,W.obj⟩:Store)).obj i=W.obj i:=fun i hi=>aw2 (up r0) hi
    have k1:=hkl 1 (by decide);rw[hW1] at k1;have kn:(ah9 v0 (⟨W.next+10,W.obj⟩:Store)).next=W.next+10:=ae9 v0;have e17:¬ 1=W.next+7:=by omega
    have e07:¬ 0=W.next+7:=by omega
    have e71:¬ W.next+7=1:=by omega
    simp only[go_sem,hW1,hWb,x1,hap,eb9,e17,k1];refine ab2 ?_;simp only[go_sem,w1];have hp0:=hps 0;have hp1:=hps 1;have hp2:=hps 2;rw[hk0] at hp0 hp1 hp2;simp only[reduceCtorEq,Int.reduceLT,Int.reduceLE,Int.reduceToNat,Int.reduceAdd,Nat.reduceEqDiff,Nat.reduceAdd,Nat.reduceMul,Nat.reduceLT,Nat.reduceLeDiff,decide_true,decide_false,↓reduceIte,Int.reduceEq,if_true,if_false,List.append_nil] at hp0 hp1 hp2;generalize hZ:Store.put (Store.put (ah9 v0 _) (W.next+7) _) 1 _=Z;have hZn:Z.next=W.next+10:=by rw[← hZ]; simp only[aa8,kn]
    have hZo:∀ i,i≠W.next+7→i≠1→Z.obj i=(ah9 v0 (⟨W.next+10,W.obj⟩:Store)).obj i:=fun i h1 h2=>by rw[← hZ]; simp only[aa2,h1,h2,if_false]
    have hZr:Z.obj (W.next+7)=some (.row ((ab4 (l.take k) 0++[l[k].p]).map ch5)):=by rw[← hZ]; simp only[aa2,e71,if_false,if_true]
    have hZb:Z.obj 1=some (.cells [IV.slice (W.next+7) 0 ((ab4 (List.take k l) 0).length+1) 1,v1,v2]):=by rw[← hZ]; simp only[aa2,if_true]
    clear hZ;rw[show (⟨(ah9 v0 (⟨W.next+10,W.obj⟩:Store)).next,Z.obj⟩:Store)=Z from by rw[kn,← hZn]];refine ⟨hlt,IV.slice (W.next+7) 0 ((ab4 (List.take k l) 0).length+1) 1,v1,v2,⟨?_,hZb,?_,?_,?_,dj2 r1 (Nat.le_add_right _ _),dj2 r2 (Nat.le_add_right _ _),hPU.a12,by omega⟩,hgood⟩
    ·rw[hZo 0 e07 (by decide),hkl 0 (by decide)]; exact hWm
    ·rw[hp0]; exact .inr ⟨W.next+7,by omega,by omega,by rw[List.length_append,List.length_singleton],hZr⟩
    ·rw[hp1]; exact bb7 (nid:=W.next+7) (s':=⟨W.next+10,W.obj⟩) r0 r1 (hPU.a01) (Nat.le_add_right _ _) (by omega) rfl hZo
    ·rw[hp2]; exact bb7 (nid:=W.next+7) (s':=⟨W.next+10,W.obj⟩) r0 r2 (hPU.a02) (Nat.le_add_right _ _) (by omega) rfl hZo
   ·have hap:=cn7 (nid:=W.next+7) (up r1) l[k].p (hln 1);have hkl:∀ i,i<2→(ah9 v1 (⟨W.next+10,W.obj⟩:Store)).obj i=W.obj i:=fun i hi=>aw2 (up r1) hi
    have k1:=hkl 1 (by decide);rw[hW1] at k1;have kn:(ah9 v1 (⟨W.next+10,W.obj⟩:Store)).next=W.next+10:=ae9 v1;have e17:¬ 1=W.next+7:=by omega
    have e07:¬ 0=W.next+7:=by omega
    have e71:¬ W.next+7=1:=by omega
    simp only[go_sem,hW1,hWb,x1,hap,eb9,e17,k1];refine ab2 ?_;simp only[go_sem,w1];have hp0:=hps 0;have hp1:=hps 1;have hp2:=hps 2;rw[hk0] at hp0 hp1 hp2;simp only[reduceCtorEq,Int.reduceLT,Int.reduceLE,Int.reduceToNat,Int.reduceAdd,Nat.reduceEqDiff,Nat.reduceAdd,Nat.reduceMul,Nat.reduceLT,Nat.reduceLeDiff,decide_true,decide_false,↓reduceIte,Int.reduceEq,if_true,if_false,List.append_nil] at hp0 hp1 hp2;generalize hZ:Store.put (Store.put (ah9 v1 _) (W.next+7) _) 1 _=Z;have hZn:Z.next=W.next+10:=by rw[← hZ]; simp only[aa8,kn]
    have hZo:∀ i,i≠W.next+7→i≠1→Z.obj i=(ah9 v1 (⟨W.next+10,W.obj⟩:Store)).obj i:=fun i h1 h2=>by rw[← hZ]; simp only[aa2,h1,h2,if_false]
    have hZr:Z.obj (W.next+7)=some (.row ((ab4 (l.take k) 1++[l[k].p]).map ch5)):=by rw[← hZ]; simp only[aa2,e71,if_false,if_true]
    have hZb:Z.obj 1=some (.cells [v0,IV.slice (W.next+7) 0 ((ab4 (List.take k l) 1).length+1) 1,v2]):=by rw[← hZ]; simp only[aa2,if_true]
    clear hZ;rw[show (⟨(ah9 v1 (⟨W.next+10,W.obj⟩:Store)).next,Z.obj⟩:Store)=Z from by rw[kn,← hZn]];refine ⟨hlt,v0,IV.slice (W.next+7) 0 ((ab4 (List.take k l) 1).length+1) 1,v2,⟨?_,hZb,?_,?_,?_,dj1 r0 (Nat.le_add_right _ _),hPU.a02,dj2 r2 (Nat.le_add_right _ _),by omega⟩,hgood⟩
    ·rw[hZo 0 e07 (by decide),hkl 0 (by decide)]; exact hWm
    ·rw[hp0]; exact bb7 (nid:=W.next+7) (s':=⟨W.next+10,W.obj⟩) r1 r0 (bu4 hPU.a01) (Nat.le_add_right _ _) (by omega) rfl hZo
    ·rw[hp1]; exact .inr ⟨W.next+7,by omega,by omega,by rw[List.length_append,List.length_singleton],hZr⟩
    ·rw[hp2]; exact bb7 (nid:=W.next+7) (s':=⟨W.next+10,W.obj⟩) r1 r2 (hPU.a12) (Nat.le_add_right _ _) (by omega) rfl hZo
   ·have hap:=cn7 (nid:=W.next+7) (up r2) l[k].p (hln 2);have hkl:∀ i,i<2→(ah9 v2 (⟨W.next+10,W.obj⟩:Store)).obj i=W.obj i:=fun i hi=>aw2 (up r2) hi
    have k1:=hkl 1 (by decide);rw[hW1] at k1;have kn:(ah9 v2 (⟨W.next+10,W.obj⟩:Store)).next=W.next+10:=ae9 v2;have e17:¬ 1=W.next+7:=by omega
    have e07:¬ 0=W.next+7:=by omega
    have e71:¬ W.next+7=1:=by omega
    simp only[go_sem,hW1,hWb,x1,hap,eb9,e17,k1];refine ab2 ?_;simp only[go_sem,w1];have hp0:=hps 0;have hp1:=hps 1;have hp2:=hps 2;rw[hk0] at hp0 hp1 hp2;simp only[reduceCtorEq,Int.reduceLT,Int.reduceLE,Int.reduceToNat,Int.reduceAdd,Nat.reduceEqDiff,Nat.reduceAdd,Nat.reduceMul,Nat.reduceLT,Nat.reduceLeDiff,decide_true,decide_false,↓reduceIte,Int.reduceEq,if_true,if_false,List.append_nil] at hp0 hp1 hp2;generalize hZ:Store.put (Store.put (ah9 v2 _) (W.next+7) _) 1 _=Z;have hZn:Z.next=W.next+10:=by rw[← hZ]; simp only[aa8,kn]
    have hZo:∀ i,i≠W.next+7→i≠1→Z.obj i=(ah9 v2 (⟨W.next+10,W.obj⟩:Store)).obj i:=fun i h1 h2=>by rw[← hZ]; simp only[aa2,h1,h2,if_false]
    have hZr:Z.obj (W.next+7)=some (.row ((ab4 (l.take k) 2++[l[k].p]).map ch5)):=by rw[← hZ]; simp only[aa2,e71,if_false,if_true]
    have hZb:Z.obj 1=some (.cells [v0,v1,IV.slice (W.next+7) 0 ((ab4 (List.take k l) 2).length+1) 1]):=by rw[← hZ]; simp only[aa2,if_true]
    clear hZ;rw[show (⟨(ah9 v2 (⟨W.next+10,W.obj⟩:Store)).next,Z.obj⟩:Store)=Z from by rw[kn,← hZn]];refine ⟨hlt,v0,v1,IV.slice (W.next+7) 0 ((ab4 (List.take k l) 2).length+1) 1,⟨?_,hZb,?_,?_,?_,hPU.a01,dj1 r0 (Nat.le_add_right _ _),dj1 r1 (Nat.le_add_right _ _),by omega⟩,hgood⟩
    ·rw[hZo 0 e07 (by decide),hkl 0 (by decide)]; exact hWm
    ·rw[hp0]; exact bb7 (nid:=W.next+7) (s':=⟨W.next+10,W.obj⟩) r2 r0 (bu4 hPU.a02) (Nat.le_add_right _ _) (by omega) rfl hZo
    ·rw[hp1]; exact bb7 (nid:=W.next+7) (s':=⟨W.next+10,W.obj⟩) r2 r1 (bu4 hPU.a12) (Nat.le_add_right _ _) (by omega) rfl hZo
    ·rw[hp2]; exact .inr ⟨W.next+7,by omega,by omega,by rw[List.length_append,List.length_singleton],hZr⟩
  ·have c1:¬ (k:Int)<l.length:=by omega
   rw[List.take_of_length_le (by omega)] at hP hok;simp only[go_sem,c1];refine aa9 (ab2 ?_);simp only[go_sem];exact .inr ⟨hok,v0,v1,v2,⟨_,rfl⟩,hP⟩
 rintro e f t (⟨rfl,hbad,rst,rfl⟩|⟨rfl,hgood,v0,v1,v2,⟨rst,rfl⟩,hP⟩)
 ·rw[hbad];simp only[go_sem];exact .keep _ (.tuple _ (be7 .aa1 (.int _ _)))
 rw[hgood];simp only[go_sem,if_true]
 have hd:eh7 l:=by
  unfold okS at hgood;rw[Bool.and_eq_true] at hgood;exact (of_decide_eq_true hgood.1:(l.map (·.p)).Nodup)
 have hall:∀ s∈l,0≤s.p∧s.p<256:=fun s hs=>by
  unfold okS at hgood;rw[Bool.and_eq_true] at hgood;have:=List.all_eq_true.1 hgood.2 s hs;unfold az3 at this;simp only[Bool.and_eq_true,decide_eq_true_eq] at this;have:=hp.len;omega
 have hpos:∀ c,∀ n∈ab4 l c,0≤n∧n<256:=fun c n hn=>by
  obtain ⟨s,hs,rfl,_⟩:=bg5.1 hn;exact hall s hs
 have hlen:∀ c,(ab4 l c).length<200:=fun c=>by
  unfold ab4;have:=List.length_filter_le (fun s:Step=>decide (aj8 s.kind=c)) l;rw[List.length_map];omega
 have mk0:=fr7 p hp (ab4 l 0) (ak9 hd 0) (by have:=hlen 0; omega) (hpos 0);have mk2:=fr7 p hp (ab4 l 2) (ak9 hd 2) (by have:=hlen 2; omega) (hpos 2);let S1:Nat→Bool:=fun i=>decide (i≠1∧i≠idO v0∧i≠idO v2)
 have n1:∀ i n,v1=.slice i 0 n 1→S1 i=true:=fun i n h=>by
  refine decide_eq_true ⟨?_,gu1 hP.r0 hP.r1 hP.a01 i n h,gu1 hP.r2 hP.r1 (bu4 hP.a12) i n h⟩;rcases hP.r1 with ⟨rfl,_⟩|⟨id,q1,_,rfl,_⟩
  ·cases h
  ·cases h; omega
 have s0:S1 0=true:=by
  refine decide_eq_true ⟨by decide,?_,?_⟩
  ·rcases hP.r0 with ⟨rfl,_⟩|⟨id,q1,_,rfl,_⟩
   ·decide
   ·show ¬ 0=id; omega
  ·rcases hP.r2 with ⟨rfl,_⟩|⟨id,q1,_,rfl,_⟩
   ·decide
   ·show ¬ 0=id; omega
 refine gt2 (S:=S1) (fr':=(0,p.v)::(6,.map 0)::(7,.ac5 [.aa3 ((ab4 l 0).map Md.ag9),v1,.aa3 ((ab4 l 2).map Md.ag9)])::rst) (fun t=>?_) ?_
 ·simp only[Frm.ay2];by_cases h0:t=0
  ·subst h0; exact .inl rfl
  by_cases h6:t=6
  ·subst h6; exact .inl rfl
  by_cases h7:t=7
  ·subst h7;refine .inr ?_;simp only[reduceCtorEq,Int.reduceLT,Int.reduceLE,Int.reduceToNat,Int.reduceAdd,Nat.reduceEqDiff,Nat.reduceAdd,Nat.reduceMul,Nat.reduceLT,Nat.reduceLeDiff,decide_true,decide_false,↓reduceIte,if_true];refine .ptr 1 0 [v0,v1,v2] _ (by simp[S1]) (.inl hP.box) (Nat.le_refl _) fun j hj=>?_
   match j,hj with
   | 0,_=>exact dj3 hP.r0 (by simp[S1])
   | 1,_=>exact .keep _ (if8 hP.r1 fun i h=>n1 i _ h)
   | 2,_=>exact dj3 hP.r2 (by simp[S1])
  ·simp only[h0,h6,h7,if_false];exact .inl trivial
 refine aa9 (ab2 ?_);simp only[go_sem]
 first|refine aa5 fok30 (mk0) ?_|refine aa7 (mk0) ?_
 simp only[go_sem]
 first|refine aa5 fok30 (mk2) ?_|refine aa7 (mk2) ?_
 have en:¬ t.next=t.next+1:=by omega
 have en2:¬ t.next+1=t.next:=by omega
 simp only[go_sem,en,en2];have hK0:(t.kills S1).obj 0=some (.map (bu3 l)):=by rw[bs6,if_pos s0]; exact hP.map
 have hK1:aj3 (t.kills S1) 2 v1 (ab4 l 1):=bh5 hP.r1 (Nat.le_refl _) fun i n h hi=>by rw[bs6,if_pos (n1 i n h)]
 have hKn:(t.kills S1).next=t.next:=rfl;generalize t.kills S1=K at *;have htn:=hP.next;obtain ⟨B,hB⟩:∃ B,B=t.next+8:=⟨_,rfl⟩;have hB1:t.next+1+1+1+1+1+1+1+1=B:=by omega
 rw[hB1];generalize hZ:Store.put _ (B+1) _=Z;have hZn:Z.next=t.next+12:=by rw[← hZ]; rfl
 have e1:¬ B=B+1:=by omega
 have hZ13:Z.obj B=some (.cells [.al2 (at6 (aq4 (ac8 p) (ab4 l 0)) (ab4 l 0)),.al2 (at6 (cj6 (ac8 p) (ab4 l 0)) (ab4 l 0))]):=by
  rw[← hZ]; simp only[aa2,e1,if_false,if_true]
 have hZ14:Z.obj (B+1)=some (.cells [.al2 (at6 (aq4 (ac8 p) (ab4 l 2)) (ab4 l 2)),.al2 (at6 (cj6 (ac8 p) (ab4 l 2)) (ab4 l 2))]):=by
  rw[← hZ]; simp only[aa2,if_true]
 have hZo:∀ i,i<t.next→Z.obj i=K.obj i:=fun i hi=>by
  have e2:¬ i=B:=by omega
  have e3:¬ i=B+1:=by omega
  rw[← hZ]; simp only[aa2,e2,e3,if_false]
 clear hZ;have hZ0:Z.obj 0=some (.map (bu3 l)):=by rw[hZo 0 (by omega)]; exact hK0
 have hZ1:aj3 Z 2 v1 (ab4 l 1):=bh5 hK1 (by omega) fun i n h hi=>hZo i (by omega)
 have hv1B:idO v1<B∧idO v1≠0:=by
  rcases hK1 with ⟨rfl,_⟩|⟨id,q1,q2,rfl,_⟩
  ·exact ⟨(by omega:1<B),(by decide:1≠0)⟩
  ·exact ⟨(by omega:id<B),(by omega:id≠0)⟩
 refine aa9 (ab2 ?_);simp only[go_sem];refine ad1 fok31 (fs2 (by have:=hlen 1; omega) hZ1) ?_;rintro r s ⟨rfl,hsn,hso,hs1⟩;refine ⟨hsn,?_⟩;simp only[go_sem];refine aa9 (ab2 ?_);simp only[go_sem];have hs0:s.obj 0=some (.map (bu3 l)):=by rw[hso 0 (by omega) (by omega)]; exact hZ0
 have hs13:=hso B (by omega) (by omega);have hs14:=hso (B+1) (by omega) (by omega);rw[hZ13] at hs13;rw[hZ14] at hs14;let S2:Nat→Bool:=fun i=>decide (i≠B∧i≠B+1∧i≠idO v1)
 have s20:S2 0=true:=decide_eq_true ⟨by omega,by omega,fun h=>hv1B.2 h.symm⟩;have hbm:∀ (g:Int→Nat) (L:List Int),Bnd 0 (.al2 (at6 g L)):=fun g L=>.al2 _ (fun e he=>by obtain ⟨x,_,rfl⟩:=List.mem_map.1 he; exact .int _ _) fun e he=>by obtain ⟨x,_,rfl⟩:=List.mem_map.1 he; exact .agg _ (bq5 _)
 obtain ⟨R,hR⟩:∃ R,R=ac8 p:=⟨_,rfl⟩;rw[← hR] at hs13 hs14 ⊢;refine gt2 (S:=S2) (fr':=[(6,.map 0),(7,.ac5 [.aa3 ((ab4 l 0).map Md.ag9),.aa3 ((bt4 (ab4 l 1)).map Md.ag9),.aa3 ((ab4 l 2).map Md.ag9)]),(13,.ac5 [.al2 (at6 (aq4 R (ab4 l 0)) (ab4 l 0)),.al2 (at6 (cj6 R (ab4 l 0)) (ab4 l 0))]),(14,.ac5 [.al2 (at6 (aq4 R (ab4 l 2)) (ab4 l 2)),.al2 (at6 (cj6 R (ab4 l 2)) (ab4 l 2))]),(15,.aa1)]) (fun x=>?_) ?_
 ·simp only[Frm.ay2];by_cases h6:x=6
  ·subst h6; exact .inl rfl
  by_cases h7:x=7
  ·subst h7;refine .inr ?_;simp only[reduceCtorEq,Int.reduceLT,Int.reduceLE,Int.reduceToNat,Int.reduceAdd,Nat.reduceEqDiff,Nat.reduceAdd,Nat.reduceMul,Nat.reduceLT,Nat.reduceLeDiff,decide_true,decide_false,↓reduceIte,if_true];refine .ac5 _ _ rfl fun j hj=>?_
   match j,hj with
   | 0,_=>exact .keep _ (dd2 (bn2 _))
   | 1,_=>exact dj3 hs1 (by simp[S2])
   | 2,_=>exact .keep _ (dd2 (bn2 _))
  by_cases h13:x=13
  ·subst h13;refine .inr ?_;simp only[reduceCtorEq,Int.reduceLT,Int.reduceLE,Int.reduceToNat,Int.reduceAdd,Nat.reduceEqDiff,Nat.reduceAdd,Nat.reduceMul,Nat.reduceLT,Nat.reduceLeDiff,decide_true,decide_false,↓reduceIte,if_true];refine .ptr B 0 _ _ (by simp[S2]) (.inl hs13) (Nat.le_refl _) fun j hj=>?_
   match j,hj with
   | 0,_=>exact .keep _ (dd2 (hbm _ _))
   | 1,_=>exact .keep _ (dd2 (hbm _ _))
  by_cases h14:x=14
  ·subst h14;refine .inr ?_;simp only[reduceCtorEq,Int.reduceLT,Int.reduceLE,Int.reduceToNat,Int.reduceAdd,Nat.reduceEqDiff,Nat.reduceAdd,Nat.reduceMul,Nat.reduceLT,Nat.reduceLeDiff,decide_true,decide_false,↓reduceIte,if_true];refine .ptr (B+1) 0 _ _ (by simp[S2]) (.inl hs14) (Nat.le_refl _) fun j hj=>?_
   match j,hj with
   | 0,_=>exact .keep _ (dd2 (hbm _ _))
   | 1,_=>exact .keep _ (dd2 (hbm _ _))
  ·simp only[h6,h7,h13,h14,if_false];exact .inl trivial
 have hY0:(s.kills S2).obj 0=some (.map (bu3 l)):=by rw[bs6,if_pos s20]; exact hs0
 have hYn:0<(s.kills S2).next:=by show 0<s.next; omega
 generalize s.kills S2=Y at *;have hr0:=gv9 (ab4 l 0) 34 [.ac5 [.al2 (at6 (aq4 R (ab4 l 0)) (ab4 l 0)),.al2 (at6 (cj6 R (ab4 l 0)) (ab4 l 0))]] (at7 R (ab4 l 0)) fok34.1 (dh3 (.ac5 _ (be7 (hbm _ _) (hbm _ _)))) (by have:=hlen 0; omega) fun n hn m hm=>fb7 R _ (hpos 0) (ak9 hd 0) hn hm
 have hr2:=gv9 (ab4 l 2) 36 [.ac5 [.al2 (at6 (aq4 R (ab4 l 2)) (ab4 l 2)),.al2 (at6 (cj6 R (ab4 l 2)) (ab4 l 2))]] (at7 (fun a b=>R b a) (ab4 l 2)) fok36.1 (dh3 (.ac5 _ (be7 (hbm _ _) (hbm _ _)))) (by have:=hlen 2; omega) fun n hn m hm=>fb8 R _ (hpos 2) (ak9 hd 2) hm hn
 have q0:co5 (at7 R (ab4 l 0)) (ab4 l 0).length (bt4 (ab4 l 0))=dr8 R (ab4 l 0):=rfl;have q2:co5 (at7 (fun a b=>R b a) (ab4 l 2)) (ab4 l 2).length (bt4 (ab4 l 2))=dr8 (fun a b=>R b a) (ab4 l 2):=rfl;rw[q0] at hr0;rw[q2] at hr2;refine aa9 (aa9 (ab2 ?_));simp only[go_sem]
 first|refine aa5 fok33 (hr0) ?_|refine aa7 (hr0) ?_
 simp only[go_sem]
 first|refine aa5 fok33 (hr2) ?_|refine aa7 (hr2) ?_
 simp only[go_sem]
 have hL:∀ c,(dr8 R (ab4 l c)).length<200∧(bt4 (ab4 l c)).length<200∧(dr8 (fun a b=>R b a) (ab4 l c)).length<200:=fun c=>by
  rw[(as9 R _).length_eq,ei8,(as9 (fun a b=>R b a) _).length_eq];exact ⟨hlen c,hlen c,hlen c⟩
 obtain ⟨Ls,hLs⟩:∃ Ls,Ls=[dr8 R (ab4 l 0),bt4 (ab4 l 1),dr8 (fun a b=>R b a) (ab4 l 2)]:=⟨_,rfl⟩;have hLl:Ls.length=3:=by rw[hLs]; rfl
 have hLb:∀ L∈Ls,L.length<200:=fun L h=>by
  rw[hLs] at h;simp only[List.mem_cons,List.not_mem_nil,or_false] at h;rcases h with rfl|rfl|rfl
  ·exact (hL 0).1
  ·exact (hL 1).2.1
  ·exact (hL 2).2.2
 have hflat:Ls.flatten=cg2 R l:=by
  rw[hLs]; unfold cg2;simp only[List.flatten_cons,List.flatten_nil,List.append_nil]
 have hst:af7 (ad8 R l)=.aa3 ((cg2 R l).map (stepOf l)):=by
  unfold ad8;show IV.aa3 (((cg2 R l).map fun n=>(⟨bn6 l n,n⟩:Step)).map Step.cs)=_;rw[List.map_map]; rfl
 rw[hst,← hflat];refine ae2 (ag7 (fun e f s=>e=.exit 2∧∃ gv,(∃ rst:Frm,f=(6,.map 0)::(15,gv)::rst)∧Grow s gv 2 (Ls.flatten.map (stepOf l))) (as2 (fun i fr u=>∃ gv,fr=[(6,.map 0),(15,gv),(98,.aa3 (Ls.map fs3)),(99,.int .i64 3),(100,.int .i64 (i:Int))]∧u.obj 0=some (.map (bu3 l))∧0<u.next∧Grow u gv 2 ((Ls.take i).flatten.map (stepOf l))∧(Ls.take i).flatten.length≤200*i) 3 ⟨.aa1,by rw[hLs]; rfl,hY0,Nat.lt_of_lt_of_le hYn (Nat.le_add_right _ _),.inl ⟨rfl,rfl⟩,Nat.le_refl _⟩ ?_) ?_)
 ·rintro i fr u hi ⟨gv,rfl,hu0,hun,hg,hgl⟩;refine aa9 (ab2 ?_);by_cases hi3:i<3
  ·have hiL:i<Ls.length:=by omega
   obtain ⟨L,hLm,hLg,_,hget,htk⟩:=ah3 Ls i hiL;have hLn:=hLb L hLm;have c1:(i:Int)<3:=by omega
   have c2:(0:Int)≤(i:Int):=by omega
   have c3:(i:Int)<(Ls.length:Nat):=by omega
   have w1:=ad5 (i:=i) (by omega);have hgr:=hget fs3;simp only[go_sem,c1];refine aa9 (ab2 ?_);simp only[go_sem];refine aa9 (ae2 (aa9 (ab2 ?_)));simp only[go_sem,c1,c2,c3,hgr,fs3];refine aa9 (ab2 ?_);simp only[go_sem];refine ae2 (ag7 (fun e f s=>e=.exit 4∧∃ gv,(∃ rst:Frm,f=(6,.map 0)::(15,gv)::(98,.aa3 (Ls.map fs3))::(99,.int .i64 3)::(100,.int .i64 (i:Int))::rst)∧s.obj 0=some (.map (bu3 l))∧0<s.next∧Grow s gv 2 (((Ls.take i).flatten++L).map (stepOf l))) (ab7 noT (fun j fr x=>∃ gv,fr=[(6,.map 0),(15,gv),(98,.aa3 (Ls.map fs3)),(99,.int .i64 3),(100,.int .i64 (i:Int)),(104,.aa3 (L.map Md.ag9)),(105,.int .i64 L.length),(106,.int .i64 (j:Int))]∧x.obj 0=some (.map (bu3 l))∧0<x.next∧Grow x gv 2 (((Ls.take i).flatten++L.take j).map (stepOf l))) L.length ⟨gv,rfl,hu0,hun,by rw[List.take_zero,List.append_nil]; exact hg⟩ ?_) ?_)
   ·rintro j fr x hj ⟨gv,rfl,hx0,hxn,hgx⟩;by_cases hjL:j<L.length
    ·have d1:(j:Int)<L.length:=by omega
     have d2:(0:Int)≤(j:Int):=by omega
     have hgj:(L.map Md.ag9).getD j []=Md.ag9 L[j]:=by simp[List.getD_eq_getElem?_getD,hjL]
     have htj:L.take (j+1)=L.take j++[L[j]]:=by rw[List.take_add_one,List.getElem?_eq_getElem hjL]; rfl
     have w2:=ad5 (i:=j) (by omega);have hlk:=dt9 L[j] l;have hkg:=ei7 L[j] l
     have hlen2:((Ls.take i).flatten++L.take j).length<2000:=by
      rw[List.length_append,List.length_take]; omega
     have hgx2:Grow ⟨x.next+1,x.obj⟩ gv 2 (((Ls.take i).flatten++L.take j).map (stepOf l)):=hgx.mono (Nat.le_succ _) fun _ _ _=>rfl
     have hap:=an1 (nid:=x.next) (e:=[.int .u8 (bn6 l L[j]),.int .i64 L[j]]) hgx2 (dd3 l _) ⟨rfl,rfl⟩ (by rw[List.length_map]; omega);have kn:(ah9 gv (⟨x.next+1,x.obj⟩:Store)).next=x.next+1:=ae9 gv;have k0:=ag8 hgx2 0 _ hx0 (fun _ h=>by cases h);have e0:¬ 0=x.next:=by omega
     simp only[go_sem,d1,d2,hgj,Md.ag9,hx0,cf6,ax4,hlk,hkg,hap,w2];refine ⟨hjL,_,rfl,by simp only[aa2,e0,if_false]; exact k0,by rw[kn]; omega,?_⟩;have hD:(Ls.take i).flatten++L.take (j+1)=((Ls.take i).flatten++L.take j)++[L[j]]:=by rw[htj,List.append_assoc]
     rw[hD];generalize ((Ls.take i).flatten++L.take j)=D at *;refine .inr ⟨x.next,by rw[List.length_map,List.length_append,List.length_singleton],?_,Nat.lt_of_lt_of_le (Nat.lt_succ_self _) (Nat.le_of_eq kn.symm)⟩;simp only[aa2,if_true];rw[List.map_append];rfl
    ·have d1:¬ (j:Int)<L.length:=by omega
     rw[List.take_of_length_le (l:=L) (i:=j) (by omega)] at hgx;simp only[go_sem,d1];exact ⟨gv,⟨_,rfl⟩,hx0,hxn,hgx⟩
   rintro e f x ⟨rfl,gv2,⟨rst2,rfl⟩,hx0,hxn,hgx⟩;simp only[go_sem];refine ab2 ?_;simp only[go_sem,w1];refine ⟨hi3,gv2,rfl,hx0,hxn,by rw[htk,List.flatten_append,List.flatten_cons,List.flatten_nil,List.append_nil]; exact hgx,?_⟩;rw[htk,List.flatten_append,List.length_append,List.flatten_cons,List.flatten_nil,List.append_nil];omega
  ·have c1:¬ (i:Int)<3:=by omega
   rw[List.take_of_length_le (by omega)] at hg;simp only[go_sem,c1];refine aa9 (ab2 ?_);simp only[go_sem];exact ⟨gv,⟨_,rfl⟩,hg⟩
 rintro e f u ⟨rfl,gv,⟨rst3,rfl⟩,hg⟩;simp only[go_sem];refine aa9 (ab2 ?_);simp only[go_sem];refine ab2 ?_;simp only[go_sem];refine .cn4 (.cons (hg.frz (fun x hx=>(dd3 l _ x hx).1) (fun _ _=>Nat.not_lt_zero _) fun e he c hc=>?_) (.cons (dm1 _ _) .nil));obtain ⟨n,_,rfl⟩:=List.mem_map.1 he;exact di9 _ c hc
end Go.Id.Tryz
set_option linter.all false
namespace Go.Id.Tryz
open Go Go.Id Go.Proofs Go.Shelf Go.Id.Md
set_option maxRecDepth 100000
theorem du1 (l:List ab1)(n:Int)(hl:l.length<2^62)(ih:∀ r∈l,∀ m:Int,PC Tryz.prog EE 67 [ae7 r.args,.int .i64 m] (.int .i64 (ptR r m))) :
  PC Tryz.prog EE 67 [ae7 l,.int .i64 n] (.int .i64 (ptL l n 0)):=by
 refine as8 fok67 (nZ rfl) fun σ=>?_
 simp only[ic67,go_sem];refine ab7 noT (fun i fr t=>∃ w:Int,t.obj=σ.obj∧t.next=σ.next∧fr=[(0,ae7 l),(1,.int .i64 n),(5,.int .i64 w),(6,.int .i64 i)]∧ptL l n 0=ptL (l.drop i) n w) l.length ⟨0,rfl,rfl,rfl,rfl⟩ ?_;rintro i fr t hi ⟨w,ho,hn,rfl,hf⟩;have ht:t=σ:=by cases t; cases σ; simp only at ho hn; rw[ho,hn]
 subst ht;by_cases hlt:i<l.length
 ·obtain ⟨r,ha,_,hdr,hget,_⟩:=ah3 l i hlt;have c1:(i:Int)<l.length:=by omega
  have c2:(0:Int)≤i:=by omega
  have w1:=ad5 (i:=i) (by omega);rw[hdr,ptL] at hf;by_cases hw:w<n
  ·rw[if_pos hw] at hf;simp only[go_sem,c1,c2,hw,hget,ad3,go8];refine aa5 fok67 (ih r ha _) ?_;simp only[go_sem,w1];exact ⟨hlt,_,rfl,hf⟩
  ·rw[if_neg hw] at hf;simp only[go_sem,c1,hw];rw[hf]
 ·have hi':i=l.length:=by omega
  subst hi';have c1:¬ (l.length:Int)<l.length:=by omega
  rw[List.drop_length,ptL] at hf;simp only[go_sem,c1,hf,and_self]
theorem gl4 (r:ab1):r.ok→∀ m:Int,PC Tryz.prog EE 67 [ae7 r.args,.int .i64 m] (.int .i64 (ptR r m)):=by
 induction r using ab1.ind with
 | h k d xs ih=>
  intro ho m;obtain ⟨_,_,_,h4,h5⟩:=ab1.gj9.1 ho;rw[ii3];exact du1 xs m h4 fun r hr m=>ih r hr (h5 r hr) m
theorem gl5 (l:List ab1)(hl:l.length<2^62)(h:∀ r∈l,r.ok)(n:Int):PC Tryz.prog EE 67 [ae7 l,.int .i64 n] (.int .i64 (ptL l n 0)):=
 du1 l n hl fun r hr m=>gl4 r (h r hr) m
theorem bm5 (l:List aa4)(n:Int)(hl:l.length<2^62)(h:∀ p∈l,p.Ok):PC Tryz.prog EE 26 [bd5 l,.int .i64 n] (.int .i64 (szL l n 0)):=by
 refine ar1 hE fok26 (nZ rfl) (ap9 (ck3 l) (.int _ _)) ?_;simp only[ic26,go_sem];refine ab7 noT (fun i fr t=>∃ w:Int,fr=[(0,bd5 l),(1,.int .i64 n),(5,.int .i64 w),(6,.int .i64 i)]∧szL l n 0=szL (l.drop i) n w) l.length ⟨0,rfl,rfl⟩ ?_;rintro i fr t hi ⟨w,rfl,hf⟩;by_cases hlt:i<l.length
 ·obtain ⟨p,ha,_,hdr,hget,_⟩:=ah3 l i hlt;have c1:(i:Int)<l.length:=by omega
  have c2:(0:Int)≤i:=by omega
  have w1:=ad5 (i:=i) (by omega);rw[hdr,szL] at hf;by_cases hw:w<n
  ·rw[if_pos hw] at hf;have f6:(p.cs.drop 6).head? = some (deps p.provides):=rfl;have f7:(p.cs.drop 7).head? = some (ae7 p.requires):=rfl;have f8:(p.cs.drop 8).head? = some (ae7 p.conflicts):=rfl;have f9:(p.cs.drop 9).head? = some (deps p.ab6):=rfl;have f10:(p.cs.drop 10).head? = some (ae7 p.ac1):=rfl;have f11:(p.cs.drop 11).head? = some (ae7 p.ab9):=rfl;have f12:(p.cs.drop 12).head? = some (ae7 p.suggests):=rfl;have f13:(p.cs.drop 13).head? = some (ae7 p.ad2):=rfl;have f14:(p.cs.drop 14).head? = some (strs p.files):=rfl;simp only[go_sem,c1,c2,hw,hget,ck5,bv4,bv5,f6,f7,f8,f9,f10,f11,f12,f13,f14,bd2];have hL:∀ (k:Nat) (hk:k<(aw8 p).length),((aw8 p).map lR).getD k []=[ae7 (aw8 p)[k]]:=fun k hk=>by simp[List.getD_eq_getElem?_getD,hk,lR]
   have hok:=fw7 (h p ha);have hlen:(aw8 p).length=6:=rfl;unfold szP wr at hf;generalize hw0:IntKind.i64.wrap (IntKind.i64.wrap (IntKind.i64.wrap (IntKind.i64.wrap (w+1)+p.provides.length)+p.ab6.length)+p.files.length)=w0 at *;have hl6:IV.aa3 [[ae7 p.requires],[ae7 p.conflicts],[ae7 p.ac1],[ae7 p.ab9],[ae7 p.suggests],[ae7 p.ad2]]=.aa3 ((aw8 p).map lR):=rfl;rw[hl6];have hf':szL l n 0=szL (l.drop (i+1)) n (hm5 (aw8 p) n w0):=hf;clear hf hdr hget f6 f7 f8 f9 f10 f11 f12 f13 f14 hl6;refine ab7 noT (fun k fr u=>∃ v:Int,fr=[(0,bd5 l),(1,.int .i64 n),(5,.int .i64 v),(6,.int .i64 i),(51,.aa3 ((aw8 p).map lR)),(52,.int .i64 6),(53,.int .i64 k)]∧hm5 (aw8 p) n w0=hm5 ((aw8 p).drop k) n v) 6 ⟨w0,rfl,rfl⟩ ?_;rintro k fr u hk ⟨v,rfl,hs⟩;by_cases hlt2:k<6
   ·have d1:(k:Int)<6:=by omega
    have d2:(0:Int)≤k:=by omega
    have d3:(k:Int)<(aw8 p).length:=by omega
    have w2:=ad5 (i:=k) (by omega);have hk2:k<(aw8 p).length:=by omega
    have hgk:=hL k hk2;obtain ⟨o1,o2⟩:=hok _ (List.getElem_mem hk2);rw[List.drop_eq_getElem_cons hk2,hm5] at hs;generalize (aw8 p)[k]=x at *;simp only[go_sem,d1,d2,d3,hgk];refine aa5 fok67 (gl5 x o1 o2 n) ?_;simp only[go_sem,w2];exact ⟨hlt2,_,rfl,hs⟩
   ·have hk':k=6:=by omega
    subst hk';have d1:¬ ((6:Nat):Int)<6:=by omega
    rw[List.drop_of_length_le (by omega),hm5] at hs;rw[hs] at hf';simp only[go_sem,d1,w1];exact ⟨hlt,_,rfl,hf'⟩
  ·rw[if_neg hw] at hf;simp only[go_sem,c1,hw];rw[hf];exact ad4 _ _
 ·have hi':i=l.length:=by omega
  subst hi';have c1:¬ (l.length:Int)<l.length:=by omega
  rw[List.drop_length,szL] at hf;simp only[go_sem,c1];rw[hf];exact ad4 _ _
def lgQ (m:Int):List ak8→Int→Int→Int×Int
 | [],w,n=>(w,n)
 | r::rs,w,n=>if w<m then lgQ m rs (wr (wr (w+1)+szL r.packages m 0)) (wr (n+r.packages.length)) else (w,n)
def bu5 (ab8:List ak8)(inst:List aa4)(l:List Step):Bool:=decide (600≤(lgQ 600 ab8 (szL inst 600 0) inst.length).1)||decide (24<(lgQ 600 ab8 (szL inst 600 0) inst.length).2)||decide (60<l.length)
theorem fc1 (ab8:List ak8)(inst:List aa4)(l:List Step)(h1:ab8.length<2^62)(h2:inst.length<2^62)(hr:∀ r∈ab8,ak8.Ok r)(hi:∀ p∈inst,p.Ok) :
  PC Tryz.prog EE 6 [be3 ab8,bd5 inst,af7 l] (.bool (bu5 ab8 inst l)):=by
 refine ar1 hE fok6 (nZ rfl) (dr5 (cq7 ab8) (ck3 inst) (ap8 l)) ?_;unfold bu5;simp only[ic6,go_sem]
 first|refine aa5 fok26 (bm5 inst 600 h2 hi) ?_|refine aa7 (bm5 inst 600 h2 hi) ?_
 simp only[go_sem];refine ab7 noT (fun i fr t=>∃ w n:Int,fr=[(0,be3 ab8),(2,af7 l),(7,.int .i64 w),(8,.int .i64 n),(9,.int .i64 i)]∧lgQ 600 ab8 (szL inst 600 0) inst.length=lgQ 600 (ab8.drop i) w n) ab8.length ⟨_,_,rfl,rfl⟩ ?_;rintro i fr t hle ⟨w,n,rfl,hf⟩;by_cases hlt:i<ab8.length∧w<600
 ·obtain ⟨hlt,hw⟩:=hlt;obtain ⟨x,ha,_,hdr,hget,_⟩:=ah3 ab8 i hlt;have c1:(i:Int)<ab8.length:=by omega
  have c2:(0:Int)≤i:=by omega
  have w1:=ad5 (i:=i) (by omega);rw[hdr,lgQ,if_pos hw] at hf;have f1:(x.cs.drop 1).head? = some (bd5 x.packages):=rfl;simp only[go_sem,c1,c2,hw,hget,ck4,f1]
  first|refine aa5 fok26 (bm5 x.packages 600 (hr x ha).1 (hr x ha).2) ?_|refine aa7 (bm5 x.packages 600 (hr x ha).1 (hr x ha).2) ?_
  simp only[go_sem,c1,c2,hget,ck4,f1,w1];exact ⟨hlt,_,_,rfl,hf⟩
 have hw2:lgQ 600 (ab8.drop i) w n=(w,n):=by
  by_cases hl2:i<ab8.length
  ·obtain ⟨x,ha,_,hdr,hget,_⟩:=ah3 ab8 i hl2;rw[hdr,lgQ,if_neg (fun h=>hlt ⟨hl2,h⟩)]
  ·rw[List.drop_of_length_le (by omega)]; rfl
 rw[hw2] at hf;rw[hf];simp only;by_cases hl2:i<ab8.length
 case' pos=>
  have c1:(i:Int)<ab8.length:=by omega
  have hw:¬ w<600:=fun h=>hlt ⟨hl2,h⟩
  have hw':600≤w:=by omega
  simp only[go_sem,c1,hw,hw'];exact am8 (by simp)
 have c1:¬ (i:Int)<ab8.length:=by omega
 by_cases hw:600≤w
 ·simp only[go_sem,c1,hw];exact am8 (by simp)
 by_cases hn:24<n
 ·simp only[go_sem,c1,hw,hn];exact am8 (by simp)
 by_cases hj:60<l.length
 ·have hj':(60:Int)<l.length:=by omega
  simp only[go_sem,c1,hw,hn,hj'];exact am8 (by simp[hj])
 ·have hj':¬ (60:Int)<l.length:=by omega
  simp only[go_sem,c1,hw,hn,hj'];exact am8 (by simp[hj])
theorem ec1 {ab8:List ak8}{inst:List aa4}{l:List Step}(h:bu5 ab8 inst l=false):l.length≤60:=by
 unfold bu5 at h;simp only[Bool.or_eq_false_iff,decide_eq_false_iff_not] at h;omega
theorem bm6 (k:Int):PC Tryz.prog EE 9 [.int .u8 k] (.int .i64 (aj8 k)):=by
 refine as8 fok9 (nZ rfl) fun σ=>?_
 unfold aj8;have n76:¬ (7:Int)=6:=by decide
 have n86:¬ (8:Int)=6:=by decide
 have n87:¬ (8:Int)=7:=by decide
 have n67:¬ (6:Int)=7:=by decide
 have n68:¬ (6:Int)=8:=by decide
 by_cases h7:k=7
 ·subst h7;simp only[ic9,go_sem,n76,true_or,and_self]
 by_cases h8:k=8
 ·subst h8;simp only[ic9,go_sem,n86,n87,or_true,and_self]
 by_cases h6:k=6
 ·subst h6;simp only[ic9,go_sem,n67,n68,or_self,and_self]
 have e:(if k=7∨k=8 then (1:Int) else if k=6 then 2 else 0)=0:=by simp[h7,h8,h6]
 rw[e];simp only[ic9,go_sem,h7,h8,h6,and_self]
theorem if9 (a b:Step):allEq [1,1] a.cs b.cs=some (decide (a=b)):=by
 have e:decide (a=b)=(decide (a.kind=b.kind)&&decide (a.p=b.p)):=by
  cases a; cases b; simp only[Step.mk.injEq,Bool.decide_and]
 rw[e];unfold Step.cs;simp only[fm5,fm4,go_sem,ik6,ai2,Bool.and_true]
theorem fs4 (a b:List Step)(h1:a.length<2^62)(h2:b.length<2^62):PC Tryz.prog EE 66 [af7 a,af7 b] (.bool (decide (a=b))):=by
 refine ar1 hE fok66 (nZ rfl) (be7 (ap8 a) (ap8 b)) ?_;by_cases hl:a.length=b.length
 case neg=>
  have c1:¬ (a.length:Int)=b.length:=by omega
  have hne:¬ a=b:=fun e=>hl (by rw[e])
  simp only[ic66,go_sem,c1];exact am8 (by simp[hne])
 simp only[ic66,go_sem,hl];refine ab7 noT (fun k fr t=>fr=[(0,af7 a),(1,af7 b),(5,.int .i64 (k:Int))]∧a.take k=b.take k) a.length ⟨rfl,rfl⟩ ?_;rintro k fr t hk ⟨rfl,hs⟩;by_cases hlt:k<a.length
 ·have c1:(k:Int)<a.length:=by omega
  have c1':(k:Int)<b.length:=by omega
  have c2:(0:Int)≤(k:Int):=by omega
  have w1:=ad5 (i:=k) (by omega);have g1:(a.map Step.cs).getD k []=a[k].cs:=by simp[List.getD_eq_getElem?_getD,hlt]
  have g2:(b.map Step.cs).getD k []=b[k].cs:=by simp[List.getD_eq_getElem?_getD,show k<b.length by omega]
  have hq:=if9 a[k] b[k];have ta:a.take (k+1)=a.take k++[a[k]]:=by rw[List.take_add_one,List.getElem?_eq_getElem hlt]; rfl
  have tb:b.take (k+1)=b.take k++[b[k]]:=by rw[List.take_add_one,List.getElem?_eq_getElem (by omega)]; rfl
  by_cases he:a[k]=b[k]
  ·have hq:allEq [1,1] a[k].cs b[k].cs=some true:=by rw[hq,decide_eq_true he]
   simp only[go_sem,c1,c1',c2,hl,g1,g2,ag6,af4,af3,hq,Option.map_some,Bool.not_true,w1];exact ⟨by omega,by rw[ta,tb,hs,he]⟩
  ·have hq:allEq [1,1] a[k].cs b[k].cs=some false:=by rw[hq,decide_eq_false he]
   have hne:¬ a=b:=fun e=>he (by subst e; rfl)
   simp only[go_sem,c1,c1',c2,hl,g1,g2,ag6,af4,af3,hq,Option.map_some,Bool.not_false];exact am8 (by simp[hne])
 ·have c1:¬ (k:Int)<a.length:=by omega
  have c1':¬ (k:Int)<b.length:=by omega
  have e:a=b:=by rw[← List.take_of_length_le (show a.length≤k by omega),← List.take_of_length_le (show b.length≤k by omega)]; exact hs
  simp only[go_sem,c1,c1',hl];exact am8 (by simp[e])
theorem dj4 (R:Int→Int→Bool)(l:List Step):(ad8 R l).length=l.length:=by
 unfold ad8;rw[List.length_map,(bg6 (R:=R) (l:=l)).length_eq,List.length_map]
def isM (p:Pool)(l want:List Step):Prop:=okS p.rows.length l=true∧ad8 (ac8 p) l=want
theorem dj5 (p:Pool)(hp:av1 p)(l want:List Step)(hl:l.length<200)(hw:want.length<2^30)(b:Bool)(hb:b=true↔isM p l want):PC Tryz.prog EE 24 [p.v,af7 l,af7 want] (.bool b):=by
 have hr:=cp8 p hp l hl;have hs:=fs4 (ad8 (ac8 p) l) want (by rw[dj4]; omega) (by omega);refine ar1 hE fok24 (nZ rfl) (dr5 (au7 p) (ap8 l) (ap8 want)) ?_;have n40:¬ (4:Int)=0:=by decide
 simp only[ic24,go_sem]
 cases hok:okS p.rows.length l with
 | false=>
  rw[hok] at hr;simp only[Bool.false_eq_true,if_false] at hr
  have hbf:b=false:=by
   cases hbb:b with
   | false=>rfl
   | true=>have:=(hb.1 hbb).1; rw[hok] at this; cases this
  rw[hbf]
  first|refine aa5 fok8 (hr) ?_|refine aa7 (hr) ?_
  simp only[go_sem,n40]
  exact am8 rfl
 | true=>
  rw[hok] at hr;simp only[if_true] at hr
  first|refine aa5 fok8 (hr) ?_|refine aa7 (hr) ?_
  simp only[go_sem]
  first|refine aa5 fok66 (hs) ?_|refine aa7 (hs) ?_
  simp only[go_sem];refine am8 ?_;rw[Bool.eq_iff_iff,hb,decide_eq_true_iff];exact ⟨fun h=>⟨hok,h⟩,fun h=>h.2⟩
set_option maxHeartbeats 1000000
theorem dj6 {ab8:List ak8}{inst:List aa4}{p:Pool}(hI:hm6 ab8 inst)(hn:cg5 ab8 inst=.inl p):av1 p where
 len:=bu1 hn
 good:=fun q hq=>by
  have hf:=ii4 hI hn q hq;have hm:=hm9 hn q hq;refine ⟨hf.1,hf.2.1,?_⟩;have hr:=hf.1.rich (1,q.requires) (by simp[aa4.rows])
  have hreq:q.requires.length≤32∧∀ r∈q.requires,ar2 r 1=0:=by
   unfold ah7 al3 at hm;simp only[Bool.and_eq_true,decide_eq_true_eq,List.all_eq_true] at hm;exact hm.1.1.1.1.1.2
  refine ⟨by have:=hreq.1; omega,fun r hr2=>?_⟩;have h1:=fd7 (hreq.2 r hr2);have h2:=fx6 r;exact ⟨(hr.2 r hr2).1,by have:=h1.1; omega,by have:=h1.1; omega,fun d hd=>fx5 (h1.2 d hd)⟩
theorem ec2 (k:Int)(zs:List Int)(hz:zs.length<2^30):PC Tryz.prog EE 25 [.int .u8 k,.aa3 (zs.map Md.ag9)] (af7 (zs.map fun n=>⟨k,n⟩)):=by
 refine ar1 hE fok25 (nZ rfl) (be7 (.int _ _) (bn2 _)) ?_
 have hall:∀ ys:List Int,∀ x∈ys.map (fun n=>Step.cs ⟨k,n⟩),x.length=2∧x.all IV.leaf=true:=fun ys x hx=>by
  obtain ⟨n,_,rfl⟩:=List.mem_map.1 hx;exact ⟨rfl,rfl⟩
 simp only[ic25,go_sem];refine ab7 noT (fun j fr t=>∃ gv,fr=[(0,.int .u8 k),(1,.aa3 (zs.map Md.ag9)),(5,gv),(6,.int .i64 (j:Int))]∧Grow t gv 2 ((zs.take j).map fun n=>Step.cs ⟨k,n⟩)) zs.length ⟨.aa1,rfl,.inl ⟨rfl,rfl⟩⟩ ?_;rintro j fr t hj ⟨gv,rfl,hg⟩;by_cases hlt:j<zs.length
 ·have d1:(j:Int)<zs.length:=by omega
  have d2:(0:Int)≤(j:Int):=by omega
  have hgj:(zs.map Md.ag9).getD j []=Md.ag9 zs[j]:=by simp[List.getD_eq_getElem?_getD,hlt]
  have htj:zs.take (j+1)=zs.take j++[zs[j]]:=by rw[List.take_add_one,List.getElem?_eq_getElem hlt]; rfl
  have w2:=ad5 (i:=j) (by omega);have hg2:Grow ⟨t.next+1,t.obj⟩ gv 2 ((zs.take j).map fun n=>Step.cs ⟨k,n⟩):=hg.mono (Nat.le_succ _) fun _ _ _=>rfl
  have hap:=an1 (nid:=t.next) (e:=[.int .u8 k,.int .i64 zs[j]]) hg2 (hall _) ⟨rfl,rfl⟩ (by rw[List.length_map,List.length_take]; omega);have kn:(ah9 gv (⟨t.next+1,t.obj⟩:Store)).next=t.next+1:=ae9 gv;simp only[go_sem,d1,d2,hgj,Md.ag9,hap,w2];refine ⟨hlt,_,rfl,?_⟩;rw[htj];refine .inr ⟨t.next,by first|rfl|rw[List.length_map,List.length_append,List.length_singleton]|rw[List.length_map,List.length_append,List.length_singleton,List.length_map],?_,Nat.lt_of_lt_of_le (Nat.lt_succ_self _) (Nat.le_of_eq kn.symm)⟩;simp only[aa2,if_true];rw[List.map_append];rfl
 ·have d1:¬ (j:Int)<zs.length:=by omega
  rw[List.take_of_length_le (by omega)] at hg;simp only[go_sem,d1]
  have e:af7 (zs.map fun n=>⟨k,n⟩)=.aa3 (zs.map fun n=>Step.cs ⟨k,n⟩):=by
   show IV.aa3 ((zs.map fun n=>(⟨k,n⟩:Step)).map Step.cs)=_;rw[List.map_map]; rfl
  rw[e];refine hg.frz (fun x hx=>(hall _ x hx).1) (fun _ _=>Nat.not_lt_zero _) fun e he c hc=>?_
  obtain ⟨n,_,rfl⟩:=List.mem_map.1 he;exact di9 _ c hc
def aR (s:Str):ab1:=.mk 1 ⟨s,0,hr5⟩ []
def nmP (s:Str)(l:List Str):aa4:=⟨s,⟨0,[49],[49]⟩,1,[],[],l.map aR,[],[],[],[],[],[],[]⟩
def aN (n:Str):List IV:=[.int .u8 1,.str n,.int .u8 0,.int .i64 0,.str [],.str [],.aa1]
theorem fs5 {α:Type}{σ:Store}{S:Nat→Prop}{v:IV}{esz:Nat}{f g:α→List IV}{xs:List α}(hg:Grow σ v esz (xs.map f))(h1:∀ x,(f x).length=esz)(h2:∀ x,(g x).length=esz)
  (hS:∀ id,v=.slice id 0 xs.length esz→¬ S id) (h:∀ x j,j<esz→Frz σ S ((f x).getD j .undef) ((g x).getD j .undef)):Frz σ S v (.aa3 (xs.map g)):=by
 have hall:∀ e∈xs.map f,e.length=esz:=fun e he=>by obtain ⟨x,_,rfl⟩:=List.mem_map.1 he; exact h1 x
 rcases hg with ⟨rfl,hx⟩|⟨id,rfl,ho,hid⟩
 ·have:xs=[]:=List.map_eq_nil_iff.1 hx;subst this; exact .bw7
 ·rw[List.length_map] at *;refine .slice id 0 xs.length esz _ (xs.map g) (hS id rfl) (.inr ho) (by rw[List.length_map]) (by rw[ar5 hall,List.length_map]; omega) (fun i hi=>?_) fun i hi j hj=>?_
  ·have e:(xs.map g).getD i []=g xs[i]:=by simp[List.getD_eq_getElem?_getD,hi]
   rw[e]; exact h2 _
  ·have e:(xs.map g).getD i []=g xs[i]:=by simp[List.getD_eq_getElem?_getD,hi]
   have e2:(xs.map f).getD i []=f xs[i]:=by simp[List.getD_eq_getElem?_getD,hi]
   rw[Nat.zero_add,dq1 hall i j (by rw[List.length_map]; exact hi) hj,e,e2];exact h _ j hj
def nmC (s:Str)(rq:IV):List IV:=[.str s,.int .i64 0,.str [49],.str [49],.int .u8 1,.str [],.aa1,rq,.aa1,.aa1,.aa1,.aa1,.aa1,.aa1,.aa1]
theorem bm7 (s:Str)(l:List Str)(hl:l.length<2^30):PC Tryz.prog EE 23 [.str s,strs l] (.agg (nmP s l).cs):=by
 have hbs:Bnd 0 (strs l):=.aa3 _ fun e he c hc=>by
  obtain ⟨x,_,rfl⟩:=List.mem_map.1 he;exact dh3 (.str _) c hc
 refine ar1 hE fok23 (nZ rfl) (be7 (.str _) hbs) ?_
 have hall:∀ ys:List Str,∀ x∈ys.map aN,x.length=7∧x.all IV.leaf=true:=fun ys x hx=>by
  obtain ⟨n,_,rfl⟩:=List.mem_map.1 hx;exact ⟨rfl,rfl⟩
 simp only[ic23,go_sem];refine ab7 noT (fun j fr t=>∃ gv,fr=[(1,strs l),(4,.ptr 0 0),(5,.ptr 1 0),(6,.int .i64 (j:Int))]∧1<t.next∧t.obj 0=some (.cells [.str [],.int .i64 0,.str [],.str [],.int .u8 0,.str [],.aa1,.aa1,.aa1,.aa1,.aa1,.aa1,.aa1,.aa1,.aa1])∧t.obj 1=some (.cells (nmC s gv))∧Grow t gv 7 ((l.take j).map aN)) l.length ⟨.aa1,rfl,Nat.lt_succ_self 1,?_,?_,.inl ⟨rfl,rfl⟩⟩ ?_
 ·simp only[aa2,reduceCtorEq,Int.reduceLT,Int.reduceLE,Int.reduceToNat,Int.reduceAdd,Nat.reduceEqDiff,Nat.reduceAdd,Nat.reduceMul,Nat.reduceLT,Nat.reduceLeDiff,decide_true,decide_false,↓reduceIte]; try rfl
 ·simp only[aa2,if_true]; rfl
 rintro j fr t hj ⟨gv,rfl,hn,h0,h1,hg⟩;by_cases hlt:j<l.length
 ·have d1:(j:Int)<l.length:=by omega
  have d2:(0:Int)≤(j:Int):=by omega
  have hgj:(l.map bn7).getD j []=bn7 l[j]:=by simp[List.getD_eq_getElem?_getD,hlt]
  have htj:l.take (j+1)=l.take j++[l[j]]:=by rw[List.take_add_one,List.getElem?_eq_getElem hlt]; rfl
  have w2:=ad5 (i:=j) (by omega);have n7:((nmC s gv).drop 7).head? = some gv:=rfl;have hg2:Grow ⟨t.next+12,t.obj⟩ gv 7 ((l.take j).map aN):=hg.mono (Nat.le_add_right _ _) fun _ _ _=>rfl
  have hap:=an1 (nid:=t.next+9) (e:=aN l[j]) hg2 (hall _) ⟨rfl,rfl⟩ (by rw[List.length_map,List.length_take]; omega);unfold aN at hap;have kn:(ah9 gv (⟨t.next+12,t.obj⟩:Store)).next=t.next+12:=ae9 gv;have k0:=ag8 hg2 0 _ h0 (fun _ h=>by cases h);have k1:=ag8 hg2 1 _ h1 (fun _ h=>by cases h);have e09:¬ 0=t.next+9:=by omega
  have e19:¬ 1=t.next+9:=by omega
  have e91:¬ t.next+9=1:=by omega
  have pl:∀ w,am6 (nmC s gv) 7 [w]=nmC s w:=fun _=>rfl
  have nl:(nmC s gv).length=15:=rfl;simp only[go_sem,d1,d2,hgj,bn7,h1,n7,hap,e19,k1,pl,nl,w2];refine ⟨hlt,.slice (t.next+9) 0 ((l.take j).length+1) 7,by rw[kn]; omega,k0,rfl,?_⟩;refine .inr ⟨t.next+9,by rw[List.length_map,htj,List.length_append,List.length_singleton],?_,Nat.lt_of_lt_of_le (by omega) (Nat.le_of_eq kn.symm)⟩;simp only[aa2,e91,if_false,if_true];rw[htj,List.map_append];rfl
 ·have d1:¬ (j:Int)<l.length:=by omega
  rw[List.take_of_length_le (by omega)] at hg;have gl:gv.leaf=true:=by rcases hg with ⟨rfl,_⟩|⟨id,rfl,_,_⟩<;>rfl
  have nl:(nmC s gv).length=15:=rfl;have nt:(nmC s gv).take 15=nmC s gv:=rfl
  have nf:(nmC s gv).all IV.leaf=true:=by
   show (true&&(true&&(true&&(true&&(true&&(true&&(true&&(gv.leaf&&_))))))))=true;rw[gl]; rfl
  have nd:∀ a0 a1 a2 a3 a4 a5 a6 a7 a8 a9 a10 a11 a12 a13 a14:IV,List.drop 15 [a0,a1,a2,a3,a4,a5,a6,a7,a8,a9,a10,a11,a12,a13,a14]=[]:=fun _ _ _ _ _ _ _ _ _ _ _ _ _ _ _=>rfl
  simp only[go_sem,d1,h0,h1,nl,nt,nf,nd,List.append_nil]
  have hrq:∀ τ:Store,τ.obj=(t.put 0 (.cells (nmC s gv))).obj→t.next≤τ.next→dc1 τ 0 gv (ae7 (l.map aR)):=fun τ hτ hτn=>by
   have hg3:Grow τ gv 7 (l.map aN):=by
    rcases hg with h|⟨id,q1,q2,q3⟩
    ·exact .inl h
    ·refine .inr ⟨id,q1,?_,?_⟩
     ·rw[hτ];have e:¬ id=0:=fun e=>by rw[e,h0] at q2; cases q2
      simp only[aa2,e,if_false]; exact q2
     ·omega
   show Frz τ _ gv (.aa3 ((l.map aR).map ab1.cs));rw[List.map_map];refine fs5 hg3 (fun _=>rfl) (fun _=>rfl) (fun _ _=>Nat.not_lt_zero _) fun x j hj=>?_
   have hj':j=0∨j=1∨j=2∨j=3∨j=4∨j=5∨j=6:=by omega
   rcases hj' with rfl|rfl|rfl|rfl|rfl|rfl|rfl
   ·exact dm1 _ _
   ·exact cr3 _
   ·exact dm1 _ _
   ·exact dm1 _ _
   ·exact cr3 _
   ·exact cr3 _
   ·exact .bw7
  exact .ik8 (.cons (cr3 _) (.cons (dm1 _ _) (.cons (cr3 _) (.cons (cr3 _) (.cons (dm1 _ _) (.cons (cr3 _) (.cons .bw7 (.cons (hrq _ rfl (Nat.le_refl _)) (.cons .bw7 (.cons .bw7 (.cons .bw7 (.cons .bw7 (.cons .bw7 (.cons .bw7 (.cons .bw7 .nil)))))))))))))))
def inA:List aa4:=[nmP [97] [[98]],nmP [98] [[99]],nmP [99] []]
def inB:List aa4:=[nmP [97] [[98]],nmP [98] [[97],[99]],nmP [99] []]
def plA:Pool:=gv5 [] inA
def plB:Pool:=gv5 [] inB
theorem il3:cg5 [] inA=.inl plA:=by kernel_rfl
theorem il4:cg5 [] inB=.inl plB:=by kernel_rfl
theorem ig1 {s:Str}(h:s.length<100):(aR s).fit:=ab1.co8.2 ⟨by decide,by decide,⟨by show s.length<_; omega,by show 0<2^62; decide,by show 0<2^62; decide⟩,by show 0<_; decide,fun r h=>(by cases h)⟩
theorem it5 {s:Str}(h:s.length<100):(aR s).ok:=ab1.gj9.2 ⟨by decide,by decide,⟨by show s.length<_; omega,by show 0<2^62; decide,by show 0<2^62; decide⟩,by show 0<_; decide,fun r h=>(by cases h)⟩
theorem gu2 {s:Str}{l:List Str}(hs:s.length<100)(hl:l.length<100)(hx:∀ x∈l,x.length<100):(nmP s l).Fit∧(nmP s l).Ok:=by
 have hr:∀ x∈(nmP s l).rows,x.2.length<100∧∀ r∈x.2,∃ n∈l,r=aR n:=fun x hx2=>by
  simp only[aa4.rows,nmP,List.mem_cons,List.not_mem_nil,or_false] at hx2;rcases hx2 with rfl|rfl|rfl|rfl|rfl|rfl
  ·refine ⟨by simpa using hl,fun r hr=>?_⟩;obtain ⟨n,hn,rfl⟩:=List.mem_map.1 hr;exact ⟨n,hn,rfl⟩
  all_goals exact ⟨by decide,fun r h=>by cases h⟩
 have n0:∀ {α:Type} {q:α→Prop},∀ d∈([]:List α),q d:=fun d h=>by cases h
 refine ⟨⟨by show s.length<_; omega,⟨by show 1<2^62; decide,by show 1<2^62; decide⟩,⟨by show 0<_; decide,n0⟩,⟨by show 0<_; decide,n0⟩,⟨by show 0<_; decide,n0⟩,fun x hx2=>⟨by have:=(hr x hx2).1; omega,fun r h=>?_⟩⟩,⟨by show s.length<_; omega,by show 0<2^62; decide,⟨by show 1<2^62; decide,by show 1<2^62; decide⟩,⟨by show 0<_; decide,n0⟩,⟨by show 0<_; decide,n0⟩,⟨by show 0<_; decide,n0⟩,fun x hx2=>⟨by have:=(hr x hx2).1; omega,fun r h=>?_⟩⟩⟩
 ·obtain ⟨n,hn,rfl⟩:=(hr x hx2).2 r h;exact ⟨ig1 (hx n hn),by show 1<2^31; decide⟩
 ·obtain ⟨n,hn,rfl⟩:=(hr x hx2).2 r h;exact it5 (hx n hn)
theorem ig2 {inst:List aa4}(hl:inst.length<100)(h:∀ p∈inst,p.Fit∧p.Ok):hm6 [] inst :=
 ⟨by decide,by omega,by decide,fun r h=>(by cases h),fun p hp=>(h p hp).1,fun r h=>(by cases h),fun p hp=>(h p hp).2⟩
theorem fc2:hm6 [] inA:=ig2 (by decide) fun p hp=>by
 simp only[inA,List.mem_cons,List.not_mem_nil,or_false] at hp;rcases hp with rfl|rfl|rfl<;>exact gu2 (by decide) (by decide) (by decide)
theorem fc3:hm6 [] inB:=ig2 (by decide) fun p hp=>by
 simp only[inB,List.mem_cons,List.not_mem_nil,or_false] at hp;rcases hp with rfl|rfl|rfl<;>exact gu2 (by decide) (by decide) (by decide)
theorem du2 {R:Int→Int→Bool}{L:List Int}(hp:∀ n∈L,0≤n∧n<256)(hd:L.Nodup):dr8 R L=co5 (fun n m=>R n m&&!(cj6 R L m).testBit n.toNat) L.length (bt4 L):=by
 unfold dr8;refine ey3 _ _ fun n hn m hm=>?_
 have hn':=(ai3 L).mem_iff.1 hn;have hm':=(ai3 L).mem_iff.1 hm;unfold at7;rw[di1 hp hd hm' hn']
theorem fs6 {R:Int→Int→Bool}{l:List Step}{a b c:List Int}(h0:a.Perm (ab4 l 0)∧a.Pairwise (·≤·))(h1:b.Perm (ab4 l 1)∧b.Pairwise (·≤·))(h2:c.Perm (ab4 l 2)∧c.Pairwise (·≤·))(hp:∀ k,∀ n∈ab4 l k,0≤n∧n<256)(hd:eh7 l) :
  cg2 R l=co5 (fun n m=>R n m&&!(cj6 R (ab4 l 0) m).testBit n.toNat) (ab4 l 0).length a++(b++co5 (fun n m=>R m n&&!(cj6 (fun a b=>R b a) (ab4 l 2) m).testBit n.toNat) (ab4 l 2).length c):=by
 unfold cg2;rw[du2 (hp 0) (ak9 hd 0),du2 (hp 2) (ak9 hd 2),← cj4 h0.1 h0.2,← cj4 h1.1 h1.2,← cj4 h2.1 h2.2]
set_option maxHeartbeats 1000000
def st (k:Int)(l:List Int):List Step:=l.map fun n=>⟨k,n⟩
theorem dj7 {p:Pool}{l want:List Step}(a b c:List Int)(hok:okS p.rows.length l=true)(hp:p.rows.length≤256)
  (h0:a.Perm (ab4 l 0)∧a.Pairwise (·≤·)) (h1:b.Perm (ab4 l 1)∧b.Pairwise (·≤·)) (h2:c.Perm (ab4 l 2)∧c.Pairwise (·≤·))
  (h:(co5 (fun n m=>ac8 p n m&&!(cj6 (ac8 p) (ab4 l 0) m).testBit n.toNat) (ab4 l 0).length a++(b++co5 (fun n m=>ac8 p m n&&!(cj6 (fun a b=>ac8 p b a) (ab4 l 2) m).testBit n.toNat) (ab4 l 2).length c)).map (fun n=>(⟨bn6 l n,n⟩:Step))=want):isM p l want:=by
 refine ⟨hok,?_⟩;have hok2:=hok;unfold okS at hok2;rw[Bool.and_eq_true] at hok2;have hd:eh7 l:=(of_decide_eq_true hok2.1:(l.map (·.p)).Nodup)
 have hpos:∀ k,∀ n∈ab4 l k,0≤n∧n<256:=fun k n hn=>by
  obtain ⟨s,hs,rfl,_⟩:=bg5.1 hn;have:=List.all_eq_true.1 hok2.2 s hs;unfold az3 at this;simp only[Bool.and_eq_true,decide_eq_true_eq] at this;omega
 unfold ad8;rw[fs6 h0 h1 h2 hpos hd];exact h
theorem jc5:isM plA (st 1 [0,1,2]) (st 1 [2,1,0]):=dj7 [0,1,2] [] [] (by kernel_rfl) (bu1 il3) ⟨by decide,by decide⟩ ⟨by decide,by decide⟩ ⟨by decide,by decide⟩ (by kernel_rfl)
theorem jc6:isM plB (st 1 [0,1,2]) (st 1 [0,2,1]):=dj7 [0,1,2] [] [] (by kernel_rfl) (bu1 il4) ⟨by decide,by decide⟩ ⟨by decide,by decide⟩ ⟨by decide,by decide⟩ (by kernel_rfl)
theorem jc7:isM plA (st 6 [2,1,0]) (st 6 [0,1,2]):=dj7 [] [] [0,1,2] (by kernel_rfl) (bu1 il3) ⟨by decide,by decide⟩ ⟨by decide,by decide⟩ ⟨by decide,by decide⟩ (by kernel_rfl)
theorem jc8:isM plB (st 6 [2,1,0]) (st 6 [0,1,2]):=dj7 [] [] [0,1,2] (by kernel_rfl) (bu1 il4) ⟨by decide,by decide⟩ ⟨by decide,by decide⟩ ⟨by decide,by decide⟩ (by kernel_rfl)
theorem ig3:ac8 plA 0 1=true:=by kernel_rfl
theorem ig4:ac8 plA 0 2=false:=by kernel_rfl
theorem bm8:PC Tryz.prog EE 5 [] (.bool true):=by
 have nA:=bm7 [97] [[98]] (by decide);have nB:=bm7 [98] [[99]] (by decide);have nB2:=bm7 [98] [[97],[99]] (by decide);have nC:PC Tryz.prog EE 23 [.str [99],.aa1] (.agg (nmP [99] []).cs):=fo3 (args':=[.str [99],strs []]) (by kernel_rfl) (bm7 [99] [] (by decide))
 have hA:PC Tryz.prog EE 7 [.aa1,bd5 inA] (.tuple [plA.v,.int .i64 0]):=by
  have h:=bc2 [] inA fc2.r1 fc2.i1 fc2.s1 fc2.rf fc2.pf;rw[il3] at h;exact fo3 (args':=[be3 [],bd5 inA]) (by kernel_rfl) h
 have hB:PC Tryz.prog EE 7 [.aa1,bd5 inB] (.tuple [plB.v,.int .i64 0]):=by
  have h:=bc2 [] inB fc3.r1 fc3.i1 fc3.s1 fc3.rf fc3.pf;rw[il4] at h;exact fo3 (args':=[be3 [],bd5 inB]) (by kernel_rfl) h
 have gA:=dj6 fc2 il3;have gB:=dj6 fc3 il4;have o1:=fun k=>ec2 k [0,1,2] (by decide)
 have o2:=fun k=>ec2 k [2,1,0] (by decide)
 have o3:=fun k=>ec2 k [0,2,1] (by decide)
 have i1:=dj5 plA gA (st 1 [0,1,2]) (st 1 [2,1,0]) (by decide) (by decide) true ⟨fun _=>jc5,fun _=>rfl⟩;have i2:=dj5 plB gB (st 1 [0,1,2]) (st 1 [0,2,1]) (by decide) (by decide) true ⟨fun _=>jc6,fun _=>rfl⟩;have i3:=dj5 plA gA (st 6 [2,1,0]) (st 6 [0,1,2]) (by decide) (by decide) true ⟨fun _=>jc7,fun _=>rfl⟩;have i4:=dj5 plB gB (st 6 [2,1,0]) (st 6 [0,1,2]) (by decide) (by decide) true ⟨fun _=>jc8,fun _=>rfl⟩;have m1:=bc3 plA gA 0 1;have m2:=bc3 plA gA 0 2;rw[ig3] at m1;rw[ig4] at m2;obtain ⟨ra,hra⟩:∃ ra,ra=((([[98]]:List Str).map aR).map ab1.cs):=⟨_,rfl⟩;obtain ⟨rb,hrb⟩:∃ rb,rb=((([[99]]:List Str).map aR).map ab1.cs):=⟨_,rfl⟩;obtain ⟨rd,hrd⟩:∃ rd,rd=((([[97],[99]]:List Str).map aR).map ab1.cs):=⟨_,rfl⟩;have cA:(nmP [97] [[98]]).cs=[.str [97],.int .i64 0,.str [49],.str [49],.int .u8 1,.str [],.aa3 [],.aa3 ra,.aa3 [],.aa3 [],.aa3 [],.aa3 [],.aa3 [],.aa3 [],.aa3 []]:=by rw[hra]; rfl
 have cB:(nmP [98] [[99]]).cs=[.str [98],.int .i64 0,.str [49],.str [49],.int .u8 1,.str [],.aa3 [],.aa3 rb,.aa3 [],.aa3 [],.aa3 [],.aa3 [],.aa3 [],.aa3 [],.aa3 []]:=by rw[hrb]; rfl
 have cB2:(nmP [98] [[97],[99]]).cs=[.str [98],.int .i64 0,.str [49],.str [49],.int .u8 1,.str [],.aa3 [],.aa3 rd,.aa3 [],.aa3 [],.aa3 [],.aa3 [],.aa3 [],.aa3 [],.aa3 []]:=by rw[hrd]; rfl
 have cC:(nmP [99] []).cs=[.str [99],.int .i64 0,.str [49],.str [49],.int .u8 1,.str [],.aa3 [],.aa3 [],.aa3 [],.aa3 [],.aa3 [],.aa3 [],.aa3 [],.aa3 [],.aa3 []]:=rfl;have pA:bd5 inA=.aa3 [(nmP [97] [[98]]).cs,(nmP [98] [[99]]).cs,(nmP [99] []).cs]:=rfl;have pB:bd5 inB=.aa3 [(nmP [97] [[98]]).cs,(nmP [98] [[97],[99]]).cs,(nmP [99] []).cs]:=rfl;rw[pA,cA,cB,cC] at hA;rw[pB,cA,cB2,cC] at hB;rw[cA] at nA;rw[cB] at nB;rw[cB2] at nB2;rw[cC] at nC;have t1:IV.aa3 (([0,1,2]:List Int).map Md.ag9)=.aa3 [[.int .i64 0],[.int .i64 1],[.int .i64 2]]:=rfl;have t2:IV.aa3 (([2,1,0]:List Int).map Md.ag9)=.aa3 [[.int .i64 2],[.int .i64 1],[.int .i64 0]]:=rfl;have t3:IV.aa3 (([0,2,1]:List Int).map Md.ag9)=.aa3 [[.int .i64 0],[.int .i64 2],[.int .i64 1]]:=rfl;have nst:∀ (s:Str),strs [s]=.aa3 [[.str s]]:=fun _=>rfl
 have nst2:∀ (s t:Str),strs [s,t]=.aa3 [[.str s],[.str t]]:=fun _ _=>rfl
 rw[nst] at nA nB;rw[nst2] at nB2;have o1:∀ k,PC Tryz.prog EE 25 [.int .u8 k,.aa3 [[.int .i64 0],[.int .i64 1],[.int .i64 2]]] (af7 (st k [0,1,2])):=o1;have o2:∀ k,PC Tryz.prog EE 25 [.int .u8 k,.aa3 [[.int .i64 2],[.int .i64 1],[.int .i64 0]]] (af7 (st k [2,1,0])):=o2;have o3:∀ k,PC Tryz.prog EE 25 [.int .u8 k,.aa3 [[.int .i64 0],[.int .i64 2],[.int .i64 1]]] (af7 (st k [0,2,1])):=o3;generalize plA.v=VA at *;generalize plB.v=VB at *;generalize hs0:af7 (st 1 [0,1,2])=S0 at *;generalize hs1:af7 (st 1 [2,1,0])=S1 at *;generalize hs2:af7 (st 1 [0,2,1])=S2 at *;generalize hs3:af7 (st 6 [2,1,0])=S3 at *;generalize hs4:af7 (st 6 [0,1,2])=S4 at *;have q0:=o1 1;have q1:=o2 1;have q2:=o3 1;have q3:=o2 6;have q4:=o1 6;rw[hs0] at q0;rw[hs1] at q1;rw[hs2] at q2;rw[hs3] at q3;rw[hs4] at q4;refine ar1 hE fok5 (nZ rfl) (fun a h=>by cases h) ?_;simp only[ic5,go_sem]
 first|refine aa5 fok23 (nA) ?_|refine aa7 (nA) ?_
 simp only[go_sem]
 first|refine aa5 fok23 (nB) ?_|refine aa7 (nB) ?_
 simp only[go_sem]
 first|refine aa5 fok23 (nC) ?_|refine aa7 (nC) ?_
 simp only[go_sem]
 first|refine aa5 fok7 (hA) ?_|refine aa7 (hA) ?_
 simp only[go_sem]
 first|refine aa5 fok23 (nA) ?_|refine aa7 (nA) ?_
 simp only[go_sem]
 first|refine aa5 fok23 (nB2) ?_|refine aa7 (nB2) ?_
 simp only[go_sem]
 first|refine aa5 fok23 (nC) ?_|refine aa7 (nC) ?_
 simp only[go_sem]
 first|refine aa5 fok7 (hB) ?_|refine aa7 (hB) ?_
 simp only[go_sem]
 first|refine aa5 fok25 (q0) ?_|refine aa7 (q0) ?_
 simp only[go_sem]
 first|refine aa5 fok25 (q1) ?_|refine aa7 (q1) ?_
 simp only[go_sem]
 first|refine aa5 fok24 (i1) ?_|refine aa7 (i1) ?_
 simp only[go_sem]
 first|refine aa5 fok25 (q0) ?_|refine aa7 (q0) ?_
 simp only[go_sem]
 first|refine aa5 fok25 (q2) ?_|refine aa7 (q2) ?_
 simp only[go_sem]
 first|refine aa5 fok24 (i2) ?_|refine aa7 (i2) ?_
 simp only[go_sem]
 first|refine aa5 fok25 (q3) ?_|refine aa7 (q3) ?_
 simp only[go_sem]
 first|refine aa5 fok25 (q4) ?_|refine aa7 (q4) ?_
 simp only[go_sem]
 first|refine aa5 fok24 (i3) ?_|refine aa7 (i3) ?_
 simp only[go_sem]
 first|refine aa5 fok25 (q3) ?_|refine aa7 (q3) ?_
 simp only[go_sem]
 first|refine aa5 fok25 (q4) ?_|refine aa7 (q4) ?_
 simp only[go_sem]
 first|refine aa5 fok24 (i4) ?_|refine aa7 (i4) ?_
 simp only[go_sem]
 first|refine aa5 fok10 (m1) ?_|refine aa7 (m1) ?_
 simp only[go_sem]
 first|refine aa5 fok10 (m2) ?_|refine aa7 (m2) ?_
 simp only[go_sem];exact am8 rfl
end Go.Id.Tryz
