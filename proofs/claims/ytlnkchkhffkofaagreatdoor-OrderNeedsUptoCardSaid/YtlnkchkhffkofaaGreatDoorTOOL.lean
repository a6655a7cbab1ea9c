/- OrderNeeds: the law walked. Conditions: sizes that fit. -/
import Derived.Test.YtlnkchkhffkofaaGreatDoorTOOJ
import Derived.Test.YtlnkchkhffkofaaGreatDoorTOTN
import Derived.Test.YtlnkchkhffkofaaGreatDoorMv
import Derived.Test.YtlnkchkhffkofaaGreatDoorTOPD
import Derived.Test.YtlnkchkhffkofaaGreatDoorMb
import Derived.Test.YtlnkchkhffkofaaGreatDoorFwZb
import Derived.Test.YtlnkchkhffkofaaGreatDoorRows
set_option linter.all false
namespace Go.Id.Tryz
open Go Go.Id Go.Proofs Go.Shelf Go.Id.Md
set_option maxRecDepth 100000
set_option maxHeartbeats 1000000
theorem hl9:∀ n:Nat,rep [IV.aa1] n=(List.range n).map fun _=>IV.aa1:=by
 intro n
 induction n with
 | zero=>rfl
 | succ n ih=>
  have e:rep [IV.aa1] (n+1)=IV.aa1::rep [IV.aa1] n:=rfl;rw[e,ih];exact List.ext_getElem (by simp) fun i h1 h2=>by cases i<;>simp
def ek6 (ids:Nat→Nat)(n k:Nat):List IV:=(List.range n).map fun j=>if j<k then .slice (ids j) 0 n 1 else .aa1
theorem aq1 (ids:Nat→Nat)(n k:Nat):(ek6 ids n k).length=n:=by unfold ek6; rw[List.length_map,List.length_range]
theorem ee2 (ids:Nat→Nat){n k i:Nat}(h:i<k)(hn:i<n):(List.drop i (ek6 ids n k)).head? = some (.slice (ids i) 0 n 1):=by
 simp[ek6,hn,h]
theorem ee3 (g:Nat→Bool){n i:Nat}(hn:i<n):(List.drop i (cr2 g n)).head? = some (.bool (g i)):=by
 simp[cr2,hn]
theorem go5 {l:List IV}{j:Nat}(h:j<l.length)(x:IV):am6 l j [x]=l.set j x:=by
 unfold am6;rw[List.set_eq_take_append_cons_drop,if_pos h];simp
theorem go6 (ids:Nat→Nat){n k:Nat}(h:k<n)(nid:Nat):am6 (ek6 ids n k) k [.slice nid 0 n 1]=ek6 (fun j=>if j=k then nid else ids j) n (k+1):=by
 rw[go5 (by rw[aq1]; exact h)];refine List.ext_getElem (by simp[ek6]) fun i h1 h2=>?_
 rw[List.length_set,aq1] at h1;rw[List.getElem_set];simp only[ek6,List.getElem_map,List.getElem_range];by_cases e:i=k
 ·subst e; simp
 ·have e':¬ k=i:=fun h=>e h.symm
  by_cases hi:i<k
  ·have:i<k+1:=by omega
   simp[e,e',hi,this]
  ·have:¬ i<k+1:=by omega
   simp[e,e',hi,this]
structure ck6 (s:Store) (pv rv:IV) (n k:Nat) (ids:Nat→Nat) (G:Nat→Nat→Bool):Prop where
 o0:s.obj 0=some (.cells [pv])
 o1:s.obj 1=some (.cells [rv])
 o2:s.obj 2=some (.row (ek6 ids n k))
 o3:s.obj 3=some (.cells [.slice 2 0 n 1])
 nx:4≤s.next
 row:∀ i,i<k→s.obj (ids i)=some (.row (cr2 (G i) n))∧4≤ids i∧ids i<s.next
 inj:∀ i j,i<k→j<k→ids i=ids j→i=j
theorem ck6.up {s s':Store}{pv rv:IV}{n k:Nat}{ids:Nat→Nat}{G:Nat→Nat→Bool}(h:ck6 s pv rv n k ids G)(hn:s.next≤s'.next)(ho:s'.obj=s.obj):ck6 s' pv rv n k ids G where
 o0:=by rw[ho]; exact h.o0
 o1:=by rw[ho]; exact h.o1
 o2:=by rw[ho]; exact h.o2
 o3:=by rw[ho]; exact h.o3
 nx:=Nat.le_trans h.nx hn
 row:=fun i hi=>by rw[ho]; exact ⟨(h.row i hi).1,(h.row i hi).2.1,Nat.lt_of_lt_of_le (h.row i hi).2.2 hn⟩
 inj:=h.inj
theorem ck6.make {s s':Store}{pv rv:IV}{n k nid:Nat}{ids:Nat→Nat}{G:Nat→Nat→Bool}(h:ck6 s pv rv n k ids G)(hnid:s.next≤nid)(hn:nid<s'.next)(h2:s'.obj 2=some (.row (ek6 (fun j=>if j=k then nid else ids j) n (k+1))))(h3:s'.obj nid=some (.row (cr2 (fun _=>false) n)))
  (ho:∀ i,i≠2→i≠nid→s'.obj i=s.obj i):ck6 s' pv rv n (k+1) (fun j=>if j=k then nid else ids j) (fun a b=>if a=k then false else G a b) where
 o0:=by rw[ho 0 (by decide) (by have:=h.nx; omega)]; exact h.o0
 o1:=by rw[ho 1 (by decide) (by have:=h.nx; omega)]; exact h.o1
 o2:=h2
 o3:=by rw[ho 3 (by decide) (by have:=h.nx; omega)]; exact h.o3
 nx:=by have:=h.nx; omega
 row:=fun i hi=>by
  by_cases e:i=k
  ·subst e;simp only[if_true];exact ⟨h3,by have:=h.nx; omega,hn⟩
  ·simp only[e,if_false];obtain ⟨a,b,c⟩:=h.row i (by omega);exact ⟨by rw[ho _ (by omega) (by omega)]; exact a,b,by omega⟩
 inj:=fun i j hi hj e=>by
  by_cases ei:i=k<;>by_cases ej:j=k
  ·omega
  ·simp only[ei,ej,if_true,if_false] at e;have:=(h.row j (by omega)).2.2; omega
  ·simp only[ei,ej,if_true,if_false] at e;have:=(h.row i (by omega)).2.2; omega
  ·simp only[ei,ej,if_false] at e;exact h.inj i j (by omega) (by omega) e
theorem ck6.set {s s':Store}{pv rv:IV}{n k i j:Nat}{ids:Nat→Nat}{G:Nat→Nat→Bool}(h:ck6 s pv rv n k ids G)(hi:i<k)(x:Bool)(hn:s.next≤s'.next)(ho:s'.obj (ids i)=some (.row (cr2 (fun b=>if b=j then x else G i b) n)))
  (hk:∀ z,z≠ids i→s'.obj z=s.obj z):ck6 s' pv rv n k ids (fun a b=>if a=i∧b=j then x else G a b) where
 o0:=by rw[hk 0 (by have:=(h.row i hi).2.1; omega)]; exact h.o0
 o1:=by rw[hk 1 (by have:=(h.row i hi).2.1; omega)]; exact h.o1
 o2:=by rw[hk 2 (by have:=(h.row i hi).2.1; omega)]; exact h.o2
 o3:=by rw[hk 3 (by have:=(h.row i hi).2.1; omega)]; exact h.o3
 nx:=Nat.le_trans h.nx hn
 row:=fun a ha=>by
  obtain ⟨q1,q2,q3⟩:=h.row a ha;by_cases e:a=i
  ·subst e;simp only[true_and];exact ⟨ho,q2,by omega⟩
  ·simp only[e,false_and,if_false];exact ⟨by rw[hk _ fun c=>e (h.inj a i ha hi c)]; exact q1,q2,by omega⟩
 inj:=h.inj
def ii2 (G:Nat→Nat→Bool)(n:Nat):IV:=.aa3 ((List.range n).map fun i=>[.aa3 (((List.range n).map (G i)).map bu2)])
theorem hm3 (G:Nat→Nat→Bool)(n:Nat):Bnd 0 (ii2 G n):=.aa3 _ fun e he c hc=>by
 obtain ⟨i,_,rfl⟩:=List.mem_map.1 he
 cases hc with
 | head=>exact fx4 _
 | tail _ h=>cases h
theorem dl7 (G:Nat→Nat→Bool){n i:Nat}(h:i<n):((List.range n).map fun i=>[IV.aa3 (((List.range n).map (G i)).map bu2)]).getD i []=[.aa3 (((List.range n).map (G i)).map bu2)]:=by
 simp[List.getD_eq_getElem?_getD,h]
theorem gu9 (g:Nat→Bool){n i:Nat}(h:i<n):(((List.range n).map g).map bu2).getD i []=[.bool (g i)]:=by
 simp[List.getD_eq_getElem?_getD,h,bu2]
theorem cf3 (r:List Step){i:Nat}(h:i<r.length):(r.map Step.cs).getD i []=(r.getD i default).cs:=by
 simp[List.getD_eq_getElem?_getD,h]
theorem go7 (p:Pool)(hG:av1 p)(r:List Step)(hr:r.length<2^40)(G:Nat→Nat→Bool)(i k:Nat)(hi:i<r.length)(hk:k<r.length) :
  PC Tryz.prog EE 11 [.int .i64 i,.int .i64 k,.ac5 [af7 r],.ac5 [p.v],.ac5 [ii2 G r.length]] (.bool (cp3 (ac8 p) r G i k)):=by
 refine ar1 hE fok11 (nZ rfl) (fun a h=>by
  simp only[List.mem_cons,List.not_mem_nil,or_false] at h;rcases h with rfl|rfl|rfl|rfl|rfl
  ·exact .int _ _
  ·exact .int _ _
  ·exact .ac5 _ (dh3 (ap8 r))
  ·exact .ac5 _ (dh3 (au7 p))
  ·exact .ac5 _ (dh3 (hm3 G _))) ?_
 have c1:(i:Int)<r.length:=by omega
 have c2:(0:Int)≤(i:Int):=by omega
 have d1:(k:Int)<r.length:=by omega
 have d2:(0:Int)≤(k:Int):=by omega
 have gi:=cf3 r hi;have gk:=cf3 r hk;have ki:=bm6 (r.getD i default).kind;have kk:=bm6 (r.getD k default).kind;have n1:=bc3 p hG (r.getD i default).p (r.getD k default).p;have n2:=bc3 p hG (r.getD k default).p (r.getD i default).p;have m1:=dl7 G hk;have m2:=gu9 (G k) hi;have m3:=dl7 G hi;have m4:=gu9 (G i) hk;have x0:∀ s:Step,s.cs.head? = some (.int .u8 s.kind):=fun _=>rfl
 have x1:∀ s:Step,(s.cs.drop 1).head? = some (.int .i64 s.p):=fun _=>rfl
 have lm:((List.range r.length).map fun i=>[IV.aa3 (((List.range r.length).map (G i)).map bu2)]).length=r.length:=by simp
 have ll:∀ g:Nat→Bool,(((List.range r.length).map g).map bu2).length=r.length:=fun g=>by simp
 unfold cp3 ao3;generalize r.getD i default=a at *;generalize r.getD k default=b at *;unfold ii2;simp only[ic11,go_sem,c1,c2,gi,ag6,af4,af3,x0]
 first|refine aa5 fok9 (ki) ?_|refine aa7 (ki) ?_
 have vcs:p.v.cs=[p.v]:=rfl;have vlf:p.v.leaf=true:=rfl;by_cases h2:aj8 a.kind=2
 ·rw[if_pos h2];simp only[go_sem,h2,c1,c2,d1,d2,gi,gk,ag6,af4,af3,x0,x1]
  first|refine aa5 fok9 (kk) ?_|refine aa7 (kk) ?_
  simp only[go_sem,h2,c1,c2,d1,d2,gi,gk,ag6,af4,af3,x0,x1]
  first|refine aa5 fok9 (ki) ?_|refine aa7 (ki) ?_
  by_cases e:aj8 b.kind=2
  ·simp only[go_sem,h2,e,c1,c2,d1,d2,gi,gk,ag6,af4,af3,x0,x1,vcs,vlf,List.head?_cons]
   first|refine aa5 fok10 (n2) ?_|refine aa7 (n2) ?_
   cases ac8 p b.p a.p with
   | false=>simp only[go_sem]; exact am8 (by simp)
   | true=>
    simp only[go_sem,lm,ll,c1,c2,d1,d2,m3,m4,List.head?_cons,List.length_singleton];exact am8 (by simp)
  ·simp only[go_sem,h2,e,c1,c2,d1,d2,gi,gk,ag6,af4,af3,x0,x1];exact am8 (by simp)
 ·rw[if_neg h2];simp only[go_sem,h2,c1,c2,d1,d2,gi,gk,ag6,af4,af3,x0,x1]
  first|refine aa5 fok9 (ki) ?_|refine aa7 (ki) ?_
  simp only[go_sem,h2,c1,c2,d1,d2,gi,gk,ag6,af4,af3,x0,x1]
  first|refine aa5 fok9 (kk) ?_|refine aa7 (kk) ?_
  by_cases e:aj8 a.kind=aj8 b.kind
  ·simp only[go_sem,e,c1,c2,d1,d2,gi,gk,ag6,af4,af3,x0,x1,vcs,vlf,List.head?_cons]
   first|refine aa5 fok10 (n1) ?_|refine aa7 (n1) ?_
   cases ac8 p a.p b.p with
   | false=>simp only[go_sem]; exact am8 (by simp)
   | true=>
    simp only[go_sem,lm,ll,c1,c2,d1,d2,m1,m2,List.head?_cons,List.length_singleton];exact am8 (by simp)
  ·simp only[go_sem,e,c1,c2,d1,d2,gi,gk,ag6,af4,af3,x0,x1];exact am8 (by simp)
theorem ck6.frz {s:Store}{pv rv:IV}{n:Nat}{ids:Nat→Nat}{G:Nat→Nat→Bool}(h:ck6 s pv rv n n ids G):dc1 s 0 (.ptr 3 0) (.ac5 [ii2 G n]):=by
 refine .ptr 3 0 [.slice 2 0 n 1] _ (Nat.not_lt_zero _) (.inl h.o3) (Nat.le_refl _) fun j hj=>?_
 have hj0:j=0:=by simp only[List.length_singleton] at hj; omega
 subst hj0;refine .slice 2 0 n 1 (ek6 ids n n) _ (Nat.not_lt_zero _) (.inr h.o2) (by simp) (by rw[aq1]; omega) (fun i hi=>by rw[dl7 G hi]; rfl) fun i hi j hj=>?_
 have hj0:j=0:=by omega
 subst hj0
 have e1:(ek6 ids n n).getD (0+(i*1+0)) .undef=.slice (ids i) 0 n 1:=by
  simp[ek6,List.getD_eq_getElem?_getD,hi]
 rw[e1,dl7 G hi];exact gp2 (Nat.not_lt_zero _) (h.row i hi).1
theorem hm4 (p:Pool)(hG:av1 p)(r:List Step)(hr:r.length<2^40){s:Store}{ids:Nat→Nat}{G:Nat→Nat→Bool}(h:ck6 s p.v (af7 r) r.length r.length ids G)(i k:Nat)(hi:i<r.length)(hk:k<r.length) :
  C Tryz.prog EE 11 [.int .i64 i,.int .i64 k,.ptr 1 0,.ptr 0 0,.ptr 3 0] s (ic4 (.bool (cp3 (ac8 p) r G i k)) s):=
 dh2 (args':=[.int .i64 i,.int .i64 k,.ac5 [af7 r],.ac5 [p.v],.ac5 [ii2 G r.length]]) hE rfl (fun z hz=>by
  match z,hz with
  | 0,_=>exact ig7 rfl
  | 1,_=>exact ig7 rfl
  | 2,_=>exact el5 h.o1 (dh3 (ap8 r))
  | 3,_=>exact el5 h.o0 (dh3 (au7 p))
  | 4,_=>exact h.frz) (by simp[IV.plain]) (go7 p hG r hr G i k hi hk)
theorem dl8 (ab8:List ak8) (inst:List aa4) (l:List Step) (hI:hm6 ab8 inst) (hl:l.length<2^30) :
  PC Tryz.prog EE 3 [be3 ab8,bd5 inst,af7 l] (.bool true):=by
 refine hb8 hE fok3 (nZ rfl) (dr5 (cq7 ab8) (ck3 inst) (ap8 l)) ?_;have hL:=fc1 ab8 inst l (by have:=hI.r1; omega) (by have:=hI.i1; omega) hI.ro hI.po;have hp:=bc2 ab8 inst hI.r1 hI.i1 hI.s1 hI.rf hI.pf;simp only[ic3];refine aa9 (ab2 ?_);simp only[go_sem];refine aa9 (aa9 (ab2 ?_));simp only[go_sem]
 first|refine aa5 fok5 (bm8) ?_|refine aa7 (bm8) ?_
 simp only[go_sem]
 cases hlg:bu5 ab8 inst l with
 | true=>
  rw[hlg] at hL
  first|refine aa5 fok6 (hL) ?_|refine aa7 (hL) ?_
  simp only[go_sem];refine ab2 ?_;simp only[go_sem]
  first|refine aa5 fok5 (bm8) ?_|refine aa7 (bm8) ?_
  simp only[go_sem]
  exact am8 rfl
 | false=>
 rw[hlg] at hL
 first|refine aa5 fok6 (hL) ?_|refine aa7 (hL) ?_
 simp only[go_sem];have hl60:=ec1 hlg;refine ab2 ?_;simp only[go_sem];refine aa9 (ab2 ?_);simp only[go_sem]
 first|refine aa5 fok7 (hp) ?_|refine aa7 (hp) ?_
 cases hn:cg5 ab8 inst with
 | inr e=>
  have he:¬ e=0:=by rcases gk2 hn with rfl|rfl<;>decide
  simp only[ie8,go_sem];refine aa9 (aa9 (ab2 ?_));simp only[go_sem,he];refine ab2 ?_;simp only[go_sem]
  exact am8 rfl
 | inl p=>
 have hG:=dj6 hI hn;have hr:=cp8 p hG l (by omega);have vcs:p.v.cs=[p.v]:=rfl;have vlf:p.v.leaf=true:=rfl;simp only[ie8,go_sem,vcs,vlf,List.all_cons,List.all_nil];refine aa9 (aa9 (ab2 ?_));simp only[go_sem];refine ab2 ?_;simp only[go_sem];refine aa9 (ab2 ?_);simp only[go_sem]
 first|refine aa5 fok8 (hr) ?_|refine aa7 (hr) ?_
 cases hok:okS p.rows.length l with
 | false=>
  have n40:¬ (4:Int)=0:=by decide
  simp only[go_sem,Bool.false_eq_true,if_false];refine aa9 (aa9 (ab2 ?_));simp only[go_sem,n40];refine ab2 ?_;simp only[go_sem]
  exact am8 rfl
 | true=>
 have hd:eh7 l:=by
  unfold okS at hok;rw[Bool.and_eq_true] at hok;exact (of_decide_eq_true hok.1:(l.map (·.p)).Nodup)
 have hnd:=fun a b=>bc3 p hG a b
 have hrl:(ad8 (ac8 p) l).length=l.length:=ey8;have hB:=fun (G:Nat→Nat→Bool) hG {i k:Nat}=>ds6 (R:=ac8 p) (l:=l) (G:=G) hd hG (i:=i) (k:=k)
 have hS:=fun (G:Nat→Nat→Bool) hG {j:Nat}=>ds7 (R:=ac8 p) (l:=l) (G:=G) hd hG (j:=j)
 simp only[go_sem,if_true];generalize hrr:ad8 (ac8 p) l=r at *;refine aa9 (aa9 (ab2 ?_));simp only[go_sem];refine ab2 ?_;simp only[go_sem];refine aa9 (ab2 ?_);simp only[go_sem,hrl];refine aa9 (ab2 ?_);simp only[go_sem,gv1,fx3 _ (show l.length≤2147483648 by omega)];refine aa9 (aa9 (ab2 ?_));simp only[go_sem]
 refine ae2 (ag7 (fun e f s=>e=.exit 0∧∃ ids G,ck6 s p.v (af7 r) l.length l.length ids G∧(∀ a b,a<l.length→b<l.length→G a b=ao3 (ac8 p) r a b)∧∃ rst:Frm,f=(7,.ptr 0 0)::(9,.ptr 1 0)::(10,.int .i64 l.length)::(11,.ptr 3 0)::rst)
  (as2 (fun i fr s=>fr=[(7,.ptr 0 0),(9,.ptr 1 0),(10,.int .i64 l.length),(11,.ptr 3 0),(12,.int .i64 (i:Int))]∧∃ ids G,ck6 s p.v (af7 r) l.length i ids G∧∀ a b,a<i→b<l.length→G a b=ao3 (ac8 p) r a b) l.length ⟨rfl,fun _=>0,fun _ _=>false,?_,fun a b h=>absurd h (Nat.not_lt_zero _)⟩ ?_) ?_)
 ·exact {
   o0:=rfl
   o1:=rfl
   o2:=by
    show some (aj5.row (rep [IV.aa1] l.length))=_;rw[hl9]; simp[ek6]
   o3:=rfl
   nx:=Nat.le_refl _
   row:=fun i h=>absurd h (Nat.not_lt_zero _)
   inj:=fun i j h=>absurd h (Nat.not_lt_zero _) }
 ·rintro i fr t hi ⟨rfl,ids,G,hM,hGe⟩;refine aa9 (ab2 ?_);by_cases hil:i<l.length
  ·have c1:(i:Int)<l.length:=by omega
   have c2:(0:Int)≤(i:Int):=by omega
   have w1:=ad5 (i:=i) (by omega);simp only[go_sem,c1];refine aa9 (ae2 (aa9 (ab2 ?_)));have hput:=go6 ids hil (t.next+3);have o3:=hM.o3;have o2:=hM.o2;have n2:¬ 2=t.next+3:=by have:=hM.nx; omega
   have hil1:i+1≤l.length:=hil;simp only[go_sem,o3,o2,gv1,fx3 _ (show l.length≤2147483648 by omega),c1,c2,Nat.mul_one,Nat.zero_add,Int.toNat_natCast,hput,aq1,n2,hil1,fx2];refine aa9 (ab2 ?_);simp only[go_sem]
   refine ae2 (ag7 (fun e f s=>e=.exit 2∧∃ ids G,ck6 s p.v (af7 r) l.length (i+1) ids G∧(∀ a b,a<i+1→b<l.length→G a b=ao3 (ac8 p) r a b)∧∃ rst:Frm,f=(7,.ptr 0 0)::(9,.ptr 1 0)::(10,.int .i64 l.length)::(11,.ptr 3 0)::(12,.int .i64 (i:Int))::rst)
    (ab7 noT (fun k fr s=>fr=[(7,.ptr 0 0),(9,.ptr 1 0),(10,.int .i64 l.length),(11,.ptr 3 0),(12,.int .i64 (i:Int)),(13,.int .i64 (k:Int))]∧∃ ids G,ck6 s p.v (af7 r) l.length (i+1) ids G∧(∀ a b,a<i→b<l.length→G a b=ao3 (ac8 p) r a b)∧∀ b,b<k→G i b=ao3 (ac8 p) r i b) l.length
     ⟨rfl,_,_,hM.make (s':=_) (nid:=t.next+3) (by omega) ?_ ?_ ?_ ?_,fun a b ha hb=>?_,fun b hb=>absurd hb (Nat.not_lt_zero _)⟩ ?_) ?_)
   ·show t.next+3<t.next+6; omega
   ·simp only[aa2,if_true]
   ·simp only[aa2,n2,if_true,if_false];rw[if_neg (by omega)]
   ·intro z z1 z2;simp only[aa2,z1,z2,if_false]
   ·show (if a=i then false else G a b)=_;rw[if_neg (by omega)]; exact hGe a b ha hb
   ·rintro k fr u hk ⟨rfl,ids',G',hM',hG1,hG2⟩;by_cases hkl:k<l.length
    ·have d1:(k:Int)<l.length:=by omega
     have d2:(0:Int)≤(k:Int):=by omega
     have w2:=ad5 (i:=k) (by omega);have o0:=hM'.o0;have o1:=hM'.o1;have o2:=hM'.o2;have o3:=hM'.o3;obtain ⟨r1,r2,r3⟩:=hM'.row i (Nat.lt_succ_self i);have gw:=ee2 ids' (Nat.lt_succ_self i) hil;have gi:=cf3 r (show i<r.length by omega);have gk:=cf3 r (show k<r.length by omega);have ki:=bm6 (r.getD i default).kind;have kk:=bm6 (r.getD k default).kind;have n1:=hnd (r.getD i default).p (r.getD k default).p;have x0:∀ s:Step,s.cs.head? = some (.int .u8 s.kind):=fun _=>rfl
     have x1:∀ s:Step,(s.cs.drop 1).head? = some (.int .i64 s.p):=fun _=>rfl
     have he:ao3 (ac8 p) r i k=(decide (aj8 (r.getD i default).kind=aj8 (r.getD k default).kind)&&ac8 p (r.getD i default).p (r.getD k default).p):=rfl;simp only[go_sem,d1,d2,c1,c2,o0,o1,o2,o3,hrl,gi,gk,gw,aq1,Nat.mul_one,Nat.zero_add,Int.toNat_natCast,ag6,af4,af3,x0,x1]
     first|refine aa5 fok9 (ki) ?_|refine aa7 (ki) ?_
     simp only[go_sem,d1,d2,c1,c2,o0,o1,o2,o3,hrl,gi,gk,gw,aq1,Nat.mul_one,Nat.zero_add,Int.toNat_natCast,ag6,af4,af3,x0,x1]
     first|refine aa5 fok9 (kk) ?_|refine aa7 (kk) ?_
     have hb:k+1≤(cr2 (G' i) l.length).length:=by rw[aq2]; exact hkl
     by_cases hp:aj8 (r.getD i default).kind=aj8 (r.getD k default).kind
     case' pos=>
      simp only[go_sem,d1,d2,c1,c2,o0,o1,o2,o3,hrl,hp,gi,gk,gw,aq1,Nat.mul_one,Nat.zero_add,Int.toNat_natCast,ag6,af4,af3,x0,x1,vcs,vlf,List.head?_cons]
      first|refine aa5 fok10 (n1) ?_|refine aa7 (n1) ?_
      have hput:=dl9 (G' i) hkl (ac8 p (r.getD i default).p (r.getD k default).p);rw[hp,decide_eq_true rfl,Bool.true_and] at he
     case' neg=>
      have hput:=dl9 (G' i) hkl false;rw[decide_eq_false hp,Bool.false_and] at he
     all_goals
      simp only[go_sem,d1,d2,c1,c2,o0,o1,o2,o3,hrl,hp,gi,gk,gw,aq1,Nat.mul_one,Nat.zero_add,Int.toNat_natCast,ag6,af4,af3,x0,x1,r1,hput,hb,w2];refine ⟨hkl,ids',_,hM'.set (i:=i) (j:=k) (Nat.lt_succ_self i) _ (Nat.le_add_right ..) (by simp only[aa2,if_true]; rfl) (fun z hz=>by simp only[aa2,hz,if_false]),fun a b ha hb=>?_,fun b hb=>?_⟩
      ·show (if a=i∧b=k then _ else G' a b)=_;rw[if_neg (by omega)]; exact hG1 a b ha hb
      ·show (if i=i∧b=k then _ else G' i b)=_;by_cases e:b=k
       ·rw[if_pos ⟨rfl,e⟩,e,he]
       ·rw[if_neg (by omega)]; exact hG2 b (by omega)
    ·have d1:¬ (k:Int)<l.length:=by omega
     simp only[go_sem,d1];refine ⟨ids',G',hM',fun a b ha hb=>?_,_,rfl⟩;by_cases e:a=i
     ·subst e; exact hG2 b (by omega)
     ·exact hG1 a b (by omega) hb
   ·rintro e f u ⟨rfl,ids',G',hM',hG',rst,rfl⟩;simp only[go_sem];refine ab2 ?_;simp only[go_sem,w1];exact ⟨hil,ids',G',hM',hG'⟩
  ·have c1:¬ (i:Int)<l.length:=by omega
   have ei:i=l.length:=by omega
   subst ei;simp only[go_sem,c1];exact ⟨ids,G,hM,hGe,_,rfl⟩
 rintro e f t ⟨rfl,ids,G,hM,hGe,rst,rfl⟩;simp only[go_sem];refine aa9 (aa9 (ab2 ?_));simp only[go_sem]
 refine ae2 (ag7 (fun e f s=>e=.exit 4∧∃ ids G,ck6 s p.v (af7 r) l.length l.length ids G∧War (ao3 (ac8 p) r) l.length l.length 0 0 G∧∃ rst:Frm,f=(7,.ptr 0 0)::(9,.ptr 1 0)::(10,.int .i64 l.length)::(11,.ptr 3 0)::rst)
  (as2 (fun m fr s=>fr=[(7,.ptr 0 0),(9,.ptr 1 0),(10,.int .i64 l.length),(11,.ptr 3 0),(14,.int .i64 (m:Int))]∧∃ ids G,ck6 s p.v (af7 r) l.length l.length ids G∧War (ao3 (ac8 p) r) l.length m 0 0 G) l.length ⟨rfl,ids,G,hM,War.start hGe⟩ ?_) ?_)
 ·clear hM hGe ids G;rintro m fr t hm ⟨rfl,ids,G,hM,hW⟩;refine aa9 (ab2 ?_);by_cases hml:m<l.length
  ·have b1:(m:Int)<l.length:=by omega
   have b2:(0:Int)≤(m:Int):=by omega
   have w0:=ad5 (i:=m) (by omega);simp only[go_sem,b1];refine aa9 (ae2 (aa9 (ab2 ?_)));simp only[go_sem]
   refine ae2 (ag7 (fun e f s=>e=.exit 6∧∃ ids G,ck6 s p.v (af7 r) l.length l.length ids G∧War (ao3 (ac8 p) r) l.length m l.length 0 G∧∃ rst:Frm,f=(7,.ptr 0 0)::(9,.ptr 1 0)::(10,.int .i64 l.length)::(11,.ptr 3 0)::(14,.int .i64 (m:Int))::rst)
    (as2 (fun i fr s=>fr=[(7,.ptr 0 0),(9,.ptr 1 0),(10,.int .i64 l.length),(11,.ptr 3 0),(14,.int .i64 (m:Int)),(15,.int .i64 (i:Int))]∧∃ ids G,ck6 s p.v (af7 r) l.length l.length ids G∧War (ao3 (ac8 p) r) l.length m i 0 G) l.length ⟨rfl,ids,G,hM,hW⟩ ?_) ?_)
   ·clear hM hW ids G;rintro i fr u hi ⟨rfl,ids,G,hM,hW⟩;refine aa9 (ab2 ?_);by_cases hil:i<l.length
    ·have c1:(i:Int)<l.length:=by omega
     have c2:(0:Int)≤(i:Int):=by omega
     have w1:=ad5 (i:=i) (by omega);simp only[go_sem,c1];refine aa9 (ae2 (aa9 (ab2 ?_)));simp only[go_sem]
     refine ae2 (ag7 (fun e f s=>e=.exit 8∧∃ ids G,ck6 s p.v (af7 r) l.length l.length ids G∧War (ao3 (ac8 p) r) l.length m i l.length G∧∃ rst:Frm,f=(7,.ptr 0 0)::(9,.ptr 1 0)::(10,.int .i64 l.length)::(11,.ptr 3 0)::(14,.int .i64 (m:Int))::(15,.int .i64 (i:Int))::rst)
      (ab7 noT (fun k fr s=>fr=[(7,.ptr 0 0),(9,.ptr 1 0),(10,.int .i64 l.length),(11,.ptr 3 0),(14,.int .i64 (m:Int)),(15,.int .i64 (i:Int)),(16,.int .i64 (k:Int))]∧∃ ids G,ck6 s p.v (af7 r) l.length l.length ids G∧War (ao3 (ac8 p) r) l.length m i k G) l.length ⟨rfl,ids,G,hM,hW⟩ ?_) ?_)
     ·clear hM hW ids G;rintro k fr u hk ⟨rfl,ids,G,hM,hW⟩;by_cases hkl:k<l.length
      ·have d1:(k:Int)<l.length:=by omega
       have d2:(0:Int)≤(k:Int):=by omega
       have w2:=ad5 (i:=k) (by omega);have o0:=hM.o0;have o1:=hM.o1;have o2:=hM.o2;have o3:=hM.o3;obtain ⟨r1,r2,r3⟩:=hM.row i hil;obtain ⟨q1,q2,q3⟩:=hM.row m hml;have gi:=ee2 ids hil hil;have gm:=ee2 ids hml hml;have bik:=ee3 (G i) hkl;have bim:=ee3 (G i) hml;have bmk:=ee3 (G m) hkl;have hb:k+1≤(cr2 (G i) l.length).length:=by rw[aq2]; exact hkl
       have hput:am6 (cr2 (G i) l.length) k [.bool (G i k||G i m&&G m k)]=_:=dl9 (G i) hkl (G i k||G i m&&G m k);have hset:=hW.set (G':=fun a b=>if a=i∧b=k then (G i k||G i m&&G m k) else G a b) hml hil hkl (by simp) (fun a b _ _ h=>by simp only[h,if_false]);have hms:=fun (s':Store) h1 h2 h3=>hM.set (s':=s') (i:=i) (j:=k) hil (G i k||G i m&&G m k) h1 h2 h3
       have hb2:k+1≤l.length:=hkl
       have fin:∀ (nx:Nat) (v:Bool) (O:Nat→Option aj5),u.next≤nx→v=(G i k||G i m&&G m k)→O=(u.put (ids i) (.row (am6 (cr2 (G i) l.length) k [.bool v]))).obj→k<l.length∧∃ ids G,ck6 ⟨nx,O⟩ p.v (af7 r) l.length l.length ids G∧War (ao3 (ac8 p) r) l.length m i (k+1) G:=fun nx v O h1 h0 h2=>by
        subst h0;rw[hput] at h2;exact ⟨hkl,ids,_,hms ⟨nx,O⟩ h1 (by show O (ids i)=_; rw[h2]; simp only[aa2,if_true]) (fun z hz=>by show O z=_; rw[h2]; simp only[aa2,hz,if_false]),hset⟩
       clear hput hset hms
       cases hx:G i k with
       | true=>
        rw[hx] at bik fin;simp only[go_sem,d1,d2,c1,c2,b1,b2,o0,o1,o2,o3,gi,gm,aq1,aq2,r1,q1,bik,bim,bmk,Nat.mul_one,Nat.zero_add,Int.toNat_natCast,hb2,w2]
        exact fin _ true _ (by omega) rfl rfl
       | false=>
        rw[hx] at bik fin
        cases hy:G i m with
        | false=>
         rw[hy] at bim fin;simp only[go_sem,d1,d2,c1,c2,b1,b2,o0,o1,o2,o3,gi,gm,aq1,aq2,r1,q1,bik,bim,bmk,Nat.mul_one,Nat.zero_add,Int.toNat_natCast,hb2,w2]
         exact fin _ false _ (by omega) rfl rfl
        | true=>
         rw[hy] at bim fin;simp only[go_sem,d1,d2,c1,c2,b1,b2,o0,o1,o2,o3,gi,gm,aq1,aq2,r1,q1,bik,bim,bmk,Nat.mul_one,Nat.zero_add,Int.toNat_natCast,hb2,w2];exact fin _ (G m k) _ (by omega) rfl rfl
      ·have d1:¬ (k:Int)<l.length:=by omega
       have e:k=l.length:=by omega
       subst e;simp only[go_sem,d1];exact ⟨ids,G,hM,hW,_,rfl⟩
     ·rintro e f u ⟨rfl,ids,G,hM,hW,rst,rfl⟩;simp only[go_sem];refine ab2 ?_;simp only[go_sem,w1];exact ⟨hil,ids,G,hM,hW.row⟩
    ·have c1:¬ (i:Int)<l.length:=by omega
     have e:i=l.length:=by omega
     subst e;simp only[go_sem,c1];exact ⟨ids,G,hM,hW,_,rfl⟩
   ·rintro e f u ⟨rfl,ids,G,hM,hW,rst,rfl⟩;simp only[go_sem];refine ab2 ?_;simp only[go_sem,w0];exact ⟨hml,ids,G,hM,hW.next⟩
  ·have b1:¬ (m:Int)<l.length:=by omega
   have e:m=l.length:=by omega
   subst e;simp only[go_sem,b1];exact ⟨ids,G,hM,hW,_,rfl⟩
 clear hM hGe ids G;rintro e f t ⟨rfl,ids,G,hM,hW,rst,rfl⟩;simp only[go_sem]
 have hGp:∀ a b,a<r.length→b<r.length→(G a b=true↔be8 (ao3 (ac8 p) r) r.length a b):=fun a b ha hb=>by
  rw[hrl] at ha hb ⊢;exact hW.done ha hb
 have hB':=fun {i k:Nat}=>hB G hGp (i:=i) (k:=k)
 have hS':=fun {j:Nat}=>hS G hGp (j:=j)
 have hM2:ck6 t p.v (af7 r) r.length r.length ids G:=by rw[hrl]; exact hM
 have hwc:=fun (s:Store) (h1:t.next≤s.next) (h2:s.obj=t.obj) (i k:Nat) hi hk=>hm4 p hG r (by omega) (hM2.up h1 h2) i k hi hk
 refine aa9 (ab2 ?_);simp only[go_sem];refine aa9 (aa9 (ab2 ?_));simp only[go_sem];refine ae2 (ag7 (fun e f s=>e=.exit 10) (as2 (fun i fr s=>fr=[(9,.ptr 1 0),(10,.int .i64 l.length),(17,.func (.func 11) [] [.ptr 1 0,.ptr 0 0,.ptr 3 0]),(18,.int .i64 (i:Int))]∧t.next≤s.next∧s.obj=t.obj) l.length ⟨rfl,Nat.le_refl _,rfl⟩ ?_) ?_)
 ·rintro i fr u hi ⟨rfl,un,uo⟩;refine aa9 (ab2 ?_);by_cases hil:i<l.length
  ·have c1:(i:Int)<l.length:=by omega
   have c2:(0:Int)≤(i:Int):=by omega
   have w1:=ad5 (i:=i) (by omega);have gi:=cf3 r (show i<r.length by omega);have ki:=bm6 (r.getD i default).kind;have o1:=hM.o1;have x0:∀ s:Step,s.cs.head? = some (.int .u8 s.kind):=fun _=>rfl
   have x1:∀ s:Step,(s.cs.drop 1).head? = some (.int .i64 s.p):=fun _=>rfl
   simp only[go_sem,c1];refine aa9 (ae2 (aa9 (ab2 ?_)));simp only[go_sem,uo,o1,c1,c2,hrl,gi,ag6,x0]
   first|refine aa5 fok9 (ki) ?_|refine aa7 (ki) ?_
   by_cases hq:aj8 (r.getD i default).kind=1
   ·simp only[go_sem,hq];refine ab2 ?_;simp only[go_sem,w1];exact ⟨hil,un⟩
   ·simp only[go_sem,hq];refine aa9 (aa9 (ab2 ?_));simp only[go_sem,w1]
    refine ae2 (ag7 (fun e f s=>e=.exit 12∧t.next≤s.next∧s.obj=t.obj∧∃ rst:Frm,f=(9,.ptr 1 0)::(10,.int .i64 l.length)::(17,.func (.func 11) [] [.ptr 1 0,.ptr 0 0,.ptr 3 0])::(18,.int .i64 (i:Int))::rst)
     (ab7 noT (fun k fr s=>fr=[(9,.ptr 1 0),(10,.int .i64 l.length),(17,.func (.func 11) [] [.ptr 1 0,.ptr 0 0,.ptr 3 0]),(18,.int .i64 (i:Int)),(19,.int .i64 ((i+1+k:Nat):Int))]∧t.next≤s.next∧s.obj=t.obj) (l.length-(i+1)) ⟨rfl,un,rfl⟩ ?_) ?_)
    ·rintro k fr x hk ⟨rfl,xn,xo⟩;by_cases hkl:i+1+k<l.length
     ·have d1:((i+1+k:Nat):Int)<l.length:=by omega
      have w2:=ad5 (i:=i+1+k) (by omega);have hkl2:k<l.length-(i+1):=by omega
      have hwf:=hB' (i:=i) (k:=i+1+k) (by omega) (by omega) hq;simp only[go_sem,d1];refine ad1 fok11 (hwc _ (by first|exact Nat.le_trans xn (Nat.le_add_right ..)|omega) (by first|exact xo|rfl) i (i+1+k) (by omega) (by omega)) ?_;rintro v s ⟨rfl,rfl⟩;refine ⟨Nat.le_refl _,?_⟩;simp only[go_sem,hwf,w2];refine ⟨hkl2,?_,by first|exact Nat.le_trans xn (Nat.le_add_right ..)|omega,by first|exact xo|rfl⟩;rw[Nat.add_assoc (i+1)]
     ·have d1:¬ ((i+1+k:Nat):Int)<l.length:=by omega
      simp only[go_sem,d1];exact ⟨xn,xo,_,rfl⟩
    ·rintro e f x ⟨rfl,xn,xo,rst,rfl⟩;simp only[go_sem];refine ab2 ?_
     cases i with
     | zero=>
      have e0:((0:Nat):Int)=0:=rfl;simp only[go_sem,e0,w1];refine ab2 ?_;simp only[go_sem]
      exact ⟨hil,by first|exact Nat.le_trans xn (Nat.le_add_right ..)|omega,xo⟩
     | succ j=>
      have gj:=cf3 r (show j<r.length by omega);have kj:=bm6 (r.getD j default).kind;have d1:(0:Int)<((j+1:Nat):Int):=by omega
      have d2:(0:Int)≤(j:Int):=by omega
      have d3:(j:Int)<l.length:=by omega
      have w0:IntKind.i64.wrap (((j+1:Nat):Int)-1)=(j:Int):=by rw[wrap64 (by omega) (by omega)]; omega
      simp only[go_sem,d1,d2,d3,c1,c2,w0,xo,o1,hrl,gi,gj,ag6,af4,af3,x0,x1]
      first|refine aa5 fok9 (kj) ?_|refine aa7 (kj) ?_
      simp only[go_sem,d1,d2,d3,c1,c2,w0,xo,o1,hrl,gi,gj,ag6,af4,af3,x0,x1]
      first|refine aa5 fok9 (ki) ?_|refine aa7 (ki) ?_
      by_cases hp:aj8 (r.getD j default).kind=aj8 (r.getD (j+1) default).kind
      ·by_cases hlt:(r.getD (j+1) default).p<(r.getD j default).p
       ·have hwt:=hS' (j:=j) (by omega) hq hp hlt;simp only[go_sem,d1,d2,d3,c1,c2,w0,xo,o1,hrl,gi,gj,ag6,af4,af3,x0,x1,hp,hlt];refine ad1 fok11 (hwc _ (by first|exact Nat.le_trans xn (Nat.le_add_right ..)|omega) (by first|exact xo|rfl) (j+1) j (by omega) (by omega)) ?_;rintro v s ⟨rfl,rfl⟩;refine ⟨Nat.le_refl _,?_⟩;simp only[go_sem,hwt];refine ab2 ?_;simp only[go_sem,w1];exact ⟨hil,by first|exact Nat.le_trans xn (Nat.le_add_right ..)|omega⟩
       ·simp only[go_sem,d1,d2,d3,c1,c2,w0,xo,o1,hrl,gi,gj,ag6,af4,af3,x0,x1,hp,hlt];refine ab2 ?_;simp only[go_sem,w1];exact ⟨hil,by first|exact Nat.le_trans xn (Nat.le_add_right ..)|omega⟩
      ·simp only[go_sem,d1,d2,d3,c1,c2,w0,xo,o1,hrl,gi,gj,ag6,af4,af3,x0,x1,hp];refine ab2 ?_;simp only[go_sem,w1];exact ⟨hil,by first|exact Nat.le_trans xn (Nat.le_add_right ..)|omega⟩
  ·have c1:¬ (i:Int)<l.length:=by omega
   simp only[go_sem,c1]
 ·rintro e f u rfl;simp only[go_sem];refine ab2 ?_;simp only[go_sem];exact am8 rfl
open Go Go.Id Go.Proofs Go.Id.Md
end Go.Id.Tryz
set_option linter.all false
namespace Go.Id.Tryz
open Go Go.Id Go.Proofs Go.Id.Md
set_option maxRecDepth 100000
variable {H:Type} {enc:TypeId×Value→H} {w:World} {base:Nat} {sp:Nat→Bool} {held:Bool}
abbrev Rd (enc:TypeId×Value→H)(w:World)(base:Nat)(sp:Nat→Bool)(held:Bool):=Rdg enc Tryz.prog w base sp held
theorem gu5 {n:Nat}{d:DataW H}(h:Rd enc w base sp held n 53 d)(hw:WT Tryz.prog 53 d):∃ e:EVR,e.fit∧∀ m,n≤m→dv Tryz.prog m 53 d=some e.cs:=by
 obtain ⟨n',ds,rfl,rfl,hl,hf⟩:=bb3 Tryz.underlying53 h hw
 match ds,hl with
 | [d0,d1,d2],_=>
  obtain ⟨r0,w0⟩:=hf 0 _ d0 rfl rfl;obtain ⟨r1,w1⟩:=hf 1 _ d1 rfl rfl;obtain ⟨r2,w2⟩:=hf 2 _ d2 rfl rfl;obtain ⟨z,_,_,e0⟩:=co4 Tryz.underlying3 r0;obtain ⟨s1,l1,e1⟩:=dc2 Tryz.underlying9 r1 w1;obtain ⟨s2,l2,e2⟩:=dc2 Tryz.underlying9 r2 w2;refine ⟨⟨z,s1,s2⟩,⟨l1,l2⟩,fun m hm=>?_⟩
  cases m with
  | zero=>omega
  | succ m=>
   have c3:Tryz.prog.cellsOf 3=1:=by kernel_rfl
   have c9:Tryz.prog.cellsOf 9=1:=by kernel_rfl
   have ct:Tryz.prog.cellsOf 53=3:=by kernel_rfl
   simp only[dv,Tryz.underlying53,List.map_cons,List.map_nil,dvF,e0 m (by omega),e1 m (by omega),e2 m (by omega),List.length_cons,List.length_nil,c3,c9,ct,List.cons_append,List.nil_append,List.append_nil,Nat.reduceAdd,↓reduceIte];rfl
theorem it6 {z:Int}(h:(Lit.int .u8 z).wf=true):0≤z∧z<256:=by
 simp only[Lit.wf,Bool.and_eq_true,decide_eq_true_eq] at h;have e1:IntKind.u8.min=0:=rfl;have e2:IntKind.u8.max=255:=rfl;omega
theorem ig8:Tryz.prog.cellsOf 3=1:=by kernel_rfl
theorem il6:Tryz.prog.cellsOf 5=1:=by kernel_rfl
theorem hj6:Tryz.prog.cellsOf 9=1:=by kernel_rfl
theorem ig9:Tryz.prog.cellsOf 53=3:=by kernel_rfl
theorem hj7:Tryz.prog.cellsOf 117=5:=by kernel_rfl
theorem fu1:Tryz.prog.cellsOf 119=7:=by kernel_rfl
theorem ih4:Tryz.prog.cellsOf 58=15:=by kernel_rfl
theorem gu6:Tryz.prog.cellsOf 69=2:=by kernel_rfl
theorem ih5:Tryz.prog.cellsOf 54=1:=by kernel_rfl
theorem ej6:Tryz.prog.cellsOf 55=1:=by kernel_rfl
theorem ih6:Tryz.prog.cellsOf 56=1:=by kernel_rfl
theorem ih7:Tryz.prog.cellsOf 23=1:=by kernel_rfl
theorem gu7 {n:Nat}{d:DataW H}(h:Rd enc w base sp held n 117 d)(hw:WT Tryz.prog 117 d):∃ e:Dep,e.fit∧∀ m,n≤m→dv Tryz.prog m 117 d=some e.cs:=by
 obtain ⟨n',ds,rfl,rfl,hl,hf⟩:=bb3 Tryz.underlying117 h hw
 match ds,hl with
 | [d0,d1,d2],_=>
  obtain ⟨r0,w0⟩:=hf 0 _ d0 rfl rfl;obtain ⟨r1,w1⟩:=hf 1 _ d1 rfl rfl;obtain ⟨r2,w2⟩:=hf 2 _ d2 rfl rfl;obtain ⟨s0,l0,e0⟩:=dc2 Tryz.underlying9 r0 w0;obtain ⟨z,_,_,e1⟩:=co4 Tryz.underlying5 r1;obtain ⟨e,l2,e2⟩:=gu5 r2 w2;refine ⟨⟨s0,z,e⟩,⟨l0,l2⟩,fun m hm=>?_⟩
  cases m with
  | zero=>omega
  | succ m=>
   simp only[dv,Tryz.underlying117,List.map_cons,List.map_nil,dvF,e0 m (by omega),e1 m (by omega),e2 m (by omega),EVR.cs,List.length_cons,List.length_nil,hj6,il6,ig9,hj7,List.cons_append,List.nil_append,List.append_nil,Nat.reduceAdd,↓reduceIte];rfl
theorem hj8:∀ (n:Nat) (d:DataW H),Rd enc w base sp held n 119 d→WT Tryz.prog 119 d→∃ r:ab1,r.ok∧∀ m,n≤m→dv Tryz.prog m 119 d=some r.cs:=by
 intro n
 induction n using Nat.strongRecOn with
 | ind n ih=>
  intro d h hw;obtain ⟨n',ds,rfl,rfl,hl,hf⟩:=bb3 Tryz.underlying119 h hw
  match ds,hl with
  | [d0,d1,d2],_=>
   obtain ⟨r0,w0⟩:=hf 0 _ d0 rfl rfl;obtain ⟨r1,w1⟩:=hf 1 _ d1 rfl rfl;obtain ⟨r2,w2⟩:=hf 2 _ d2 rfl rfl;obtain ⟨z,_,hz,e0⟩:=co4 Tryz.underlying5 r0;obtain ⟨e,l1,e1⟩:=gu7 r1 w1;obtain ⟨l,k1,k2,e2⟩:=bd3 ab1.cs ab1.ok Tryz.underlying55 fu1 (by decide) (by decide +kernel) (fun r=>by rw[ab1.au4]; rfl) (fun m d' hm hr hw'=>ih m (by omega) d' hr hw') r2 w2;have hz':=it6 hz;refine ⟨.mk z e l,ab1.gj9.2 ⟨hz'.1,hz'.2,l1,k1,k2⟩,fun m hm=>?_⟩
   cases m with
   | zero=>omega
   | succ m=>
    simp only[dv,Tryz.underlying119,List.map_cons,List.map_nil,dvF,e0 m (by omega),e1 m (by omega),e2 m (by omega),Dep.cs,List.length_cons,List.length_nil,ej6,il6,hj7,fu1,List.cons_append,List.nil_append,List.append_nil,Nat.reduceAdd,↓reduceIte];rw[ab1.au4];rfl
theorem fu2 {n:Nat}{d:DataW H}(h:Rd enc w base sp held n 54 d)(hw:WT Tryz.prog 54 d):∃ l:List Dep,l.length<2^62∧(∀ a∈l,a.fit)∧∀ m,n≤m→dv Tryz.prog m 54 d=some [deps l]:=
 bd3 Dep.cs Dep.fit Tryz.underlying54 hj7 (by decide) (by decide +kernel) (fun _=>rfl) (fun _ _ _ hr hw'=>gu7 hr hw') h hw
theorem bc1 {n:Nat}{d:DataW H}(h:Rd enc w base sp held n 55 d)(hw:WT Tryz.prog 55 d):∃ l:List ab1,l.length<2^62∧(∀ a∈l,a.ok)∧∀ m,n≤m→dv Tryz.prog m 55 d=some [ae7 l]:=
 bd3 ab1.cs ab1.ok Tryz.underlying55 fu1 (by decide) (by decide +kernel) (fun r=>by rw[ab1.au4]; rfl) (fun m d' _ hr hw'=>hj8 m d' hr hw') h hw
theorem hj9 {n:Nat}{d:DataW H}(h:Rd enc w base sp held n 56 d)(hw:WT Tryz.prog 56 d):∃ l:List Str,l.length<2^62∧(∀ a∈l,a.length<2^62)∧∀ m,n≤m→dv Tryz.prog m 56 d=some [strs l]:=
 bd3 bn7 (fun s:Str=>s.length<2^62) Tryz.underlying56 hj6 (by decide) (by decide +kernel) (fun _=>rfl) (fun _ _ _ hr hw'=>dc2 Tryz.underlying9 hr hw') h hw
theorem ih8 {n:Nat}{d:DataW H}(h:Rd enc w base sp held n 58 d)(hw:WT Tryz.prog 58 d):∃ p:aa4,p.Ok∧∀ m,n≤m→dv Tryz.prog m 58 d=some p.cs:=by
 obtain ⟨n',ds,rfl,rfl,hl,hf⟩:=bb3 Tryz.underlying58 h hw
 match ds,hl with
 | [d0,d1,d2,d3,d4,d5,d6,d7,d8,d9,d10,d11,d12],_=>
  obtain ⟨r0,w0⟩:=hf 0 _ d0 rfl rfl;obtain ⟨r1,w1⟩:=hf 1 _ d1 rfl rfl;obtain ⟨r2,w2⟩:=hf 2 _ d2 rfl rfl;obtain ⟨r3,w3⟩:=hf 3 _ d3 rfl rfl;obtain ⟨r4,w4⟩:=hf 4 _ d4 rfl rfl;obtain ⟨r5,w5⟩:=hf 5 _ d5 rfl rfl;obtain ⟨r6,w6⟩:=hf 6 _ d6 rfl rfl;obtain ⟨r7,w7⟩:=hf 7 _ d7 rfl rfl;obtain ⟨r8,w8⟩:=hf 8 _ d8 rfl rfl;obtain ⟨r9,w9⟩:=hf 9 _ d9 rfl rfl;obtain ⟨r10,w10⟩:=hf 10 _ d10 rfl rfl;obtain ⟨r11,w11⟩:=hf 11 _ d11 rfl rfl;obtain ⟨r12,w12⟩:=hf 12 _ d12 rfl rfl;obtain ⟨x0,l0,e0⟩:=dc2 Tryz.underlying9 r0 w0;obtain ⟨x1,l1,e1⟩:=gu5 r1 w1;obtain ⟨x2,_,_,e2⟩:=co4 Tryz.underlying5 r2;obtain ⟨x3,l3,e3⟩:=dc2 Tryz.underlying9 r3 w3;obtain ⟨x4,l4,k4,e4⟩:=fu2 r4 w4;obtain ⟨x5,l5,k5,e5⟩:=bc1 r5 w5;obtain ⟨x6,l6,k6,e6⟩:=bc1 r6 w6;obtain ⟨x7,l7,k7,e7⟩:=fu2 r7 w7;obtain ⟨x8,l8,k8,e8⟩:=bc1 r8 w8;obtain ⟨x9,l9,k9,e9⟩:=bc1 r9 w9;obtain ⟨x10,l10,k10,e10⟩:=bc1 r10 w10;obtain ⟨x11,l11,k11,e11⟩:=bc1 r11 w11;obtain ⟨x12,l12,k12,e12⟩:=hj9 r12 w12;refine ⟨⟨x0,x1,x2,x3,x4,x5,x6,x7,x8,x9,x10,x11,x12⟩,⟨l0,l3,l1,⟨l4,k4⟩,⟨l7,k7⟩,⟨l12,k12⟩,?_⟩,fun m hm=>?_⟩
  ·intro x hx;simp only[aa4.rows,List.mem_cons,List.not_mem_nil,or_false] at hx;rcases hx with rfl|rfl|rfl|rfl|rfl|rfl
   ·exact ⟨l5,k5⟩
   ·exact ⟨l6,k6⟩
   ·exact ⟨l8,k8⟩
   ·exact ⟨l9,k9⟩
   ·exact ⟨l10,k10⟩
   ·exact ⟨l11,k11⟩
  cases m with
  | zero=>omega
  | succ m=>
   simp only[dv,Tryz.underlying58,List.map_cons,List.map_nil,dvF,e0 m (by omega),e1 m (by omega),e2 m (by omega),e3 m (by omega),e4 m (by omega),e5 m (by omega),e6 m (by omega),e7 m (by omega),e8 m (by omega),e9 m (by omega),e10 m (by omega),e11 m (by omega),e12 m (by omega),EVR.cs,List.length_cons,List.length_nil,hj6,il6,ig9,ih5,ej6,ih6,ih4,List.cons_append,List.nil_append,List.append_nil,Nat.reduceAdd,↓reduceIte];rfl
theorem fu3 {n:Nat}{d:DataW H}(h:Rd enc w base sp held n 23 d)(hw:WT Tryz.prog 23 d):∃ l:List aa4,l.length<2^62∧(∀ a∈l,a.Ok)∧∀ m,n≤m→dv Tryz.prog m 23 d=some [.aa3 (l.map aa4.cs)]:=
 bd3 aa4.cs aa4.Ok Tryz.underlying23 ih4 (by decide) (by decide +kernel) (fun _=>rfl) (fun _ _ _ hr hw'=>ih8 hr hw') h hw
theorem hk6 {n:Nat}{d:DataW H}(h:Rd enc w base sp held n 69 d)(hw:WT Tryz.prog 69 d):∃ r:ak8,ak8.Ok r∧∀ m,n≤m→dv Tryz.prog m 69 d=some r.cs:=by
 obtain ⟨n',ds,rfl,rfl,hl,hf⟩:=bb3 Tryz.underlying69 h hw
 match ds,hl with
 | [d0,d1],_=>
  obtain ⟨r0,w0⟩:=hf 0 _ d0 rfl rfl;obtain ⟨r1,w1⟩:=hf 1 _ d1 rfl rfl;obtain ⟨z,_,_,e0⟩:=co4 Tryz.underlying3 r0;obtain ⟨l,k1,k2,e1⟩:=fu3 r1 w1;refine ⟨⟨z,l⟩,⟨k1,k2⟩,fun m hm=>?_⟩
  cases m with
  | zero=>omega
  | succ m=>
   simp only[dv,Tryz.underlying69,List.map_cons,List.map_nil,dvF,e0 m (by omega),e1 m (by omega),List.length_cons,List.length_nil,ig8,ih7,gu6,List.cons_append,List.nil_append,List.append_nil,Nat.reduceAdd,↓reduceIte];rfl
theorem gm5 {n:Nat}{d:DataW H}(h:Rd enc w base sp held n 22 d)(hw:WT Tryz.prog 22 d):∃ l:List ak8,l.length<2^62∧(∀ a∈l,ak8.Ok a)∧∀ m,n≤m→dv Tryz.prog m 22 d=some [.aa3 (l.map ak8.cs)]:=
 bd3 ak8.cs ak8.Ok Tryz.underlying22 gu6 (by decide) (by decide +kernel) (fun _=>rfl) (fun _ _ _ hr hw'=>hk6 hr hw') h hw
end Go.Id.Tryz
set_option linter.all false
namespace Go.Id
open Go Go.Id
mutual
def isz:IV→Nat
 | .str s=>s.length+1
 | .aa3 es=>ch1 es+1
 | _=>1
def bc4:List IV→Nat
 | []=>0
 | c::cs=>isz c+bc4 cs
def ch1:List (List IV)→Nat
 | []=>0
 | e::es=>bc4 e+ch1 es
end
theorem ee8 (a b:List IV):bc4 (a++b)=bc4 a+bc4 b:=by
 induction a with
 | nil=>simp[bc4]
 | cons x a ih=>simp only[List.cons_append,bc4,ih]; omega
theorem bv8 {α:Type}(f:α→List IV):∀ (l:List α),∀ a∈l,bc4 (f a)≤ch1 (l.map f):=by
 intro l
 induction l with
 | nil=>intro a h; cases h
 | cons x l ih=>
  intro a h;simp only[List.map_cons,ch1];rcases List.mem_cons.1 h with rfl|h
  ·omega
  ·have:=ih a h; omega
theorem as3 {α:Type}(f:α→List IV)(hf:∀ a,1≤bc4 (f a)):∀ (l:List α),l.length≤ch1 (l.map f):=by
 intro l
 induction l with
 | nil=>simp
 | cons x l ih=>
  simp only[List.map_cons,ch1,List.length_cons];have:=hf x;omega
namespace Md
theorem Dep.szs (d:Dep):bc4 d.cs=d.name.length+d.evr.ver.length+d.evr.rel.length+5:=by
 simp only[Dep.cs,bc4,isz]; omega
theorem ab1.szs (r:ab1):bc4 r.cs=r.dep.name.length+r.dep.evr.ver.length+r.dep.evr.rel.length+ch1 (r.args.map ab1.cs)+7:=by
 rw[ab1.au4]; simp only[bc4,isz]; omega
theorem aa4.szs (p:aa4):bc4 p.cs=p.name.length+p.evr.ver.length+p.evr.rel.length+p.vendor.length+ch1 (p.provides.map Dep.cs)+ch1 (p.requires.map ab1.cs)+ch1 (p.conflicts.map ab1.cs)+ch1 (p.ab6.map Dep.cs)+ch1 (p.ac1.map ab1.cs)+ch1 (p.ab9.map ab1.cs)+ch1 (p.suggests.map ab1.cs)+ch1 (p.ad2.map ab1.cs)+ch1 (p.files.map bn7)+15:=by
 simp only[aa4.cs,bc4,isz]; omega
theorem ak8.szs (r:ak8):bc4 r.cs=ch1 (r.packages.map aa4.cs)+2:=by
 simp only[ak8.cs,bc4,isz]; omega
theorem fe7 (r:ab1):r.count≤bc4 r.cs:=by
 induction r using ab1.ind with
 | h k d xs ih=>
  rw[ab1.szs]
  have:∀ ys:List ab1,(∀ y∈ys,y∈xs)→ab1.counts ys≤ch1 (ys.map ab1.cs):=by
   intro ys
   induction ys with
   | nil=>intro _; simp[ab1.counts]
   | cons y ys ih2=>
    intro h;have h1:=ih y (h y (List.mem_cons_self ..));have h2:=ih2 fun z hz=>h z (List.mem_cons_of_mem _ hz)
    simp only[ab1.counts,List.map_cons,ch1];omega
  have:=this xs fun y h=>h
  simp only[ab1.count,ab1.args];omega
theorem gq6 (r:ab1):r.ok→bc4 r.cs<2^31→r.fit:=by
 induction r using ab1.ind with
 | h k d xs ih=>
  intro ho hs;obtain ⟨a,b,c,e,f⟩:=ab1.gj9.1 ho;rw[ab1.szs] at hs;simp only[ab1.args] at hs;have hl:=as3 ab1.cs (fun r=>by rw[ab1.szs]; omega) xs;refine ab1.co8.2 ⟨a,b,c,by omega,fun r hr=>ih r hr (f r hr) ?_⟩;have:=bv8 ab1.cs xs r hr;omega
theorem fz1 {p:aa4}(h:p.Ok)(hs:bc4 p.cs<2^31):p.Fit:=by
 rw[aa4.szs] at hs;have l1:=as3 Dep.cs (fun r=>by rw[Dep.szs]; omega) p.provides;have l2:=as3 Dep.cs (fun r=>by rw[Dep.szs]; omega) p.ab6;have l3:=as3 bn7 (fun r=>by simp only[bn7,bc4,isz]; omega) p.files
 have hr:∀ x∈p.rows,ch1 (x.2.map ab1.cs)<2^31:=by
  intro x hx;simp only[aa4.rows,List.mem_cons,List.not_mem_nil,or_false] at hx;rcases hx with rfl|rfl|rfl|rfl|rfl|rfl<;>simp only[]<;>omega
 exact {
  name:=h.name
  evr:=h.evr
  bf1:=⟨by omega,h.bf1.2⟩
  obs:=⟨by omega,h.obs.2⟩
  files:=⟨by omega,h.files.2⟩
  rich:=fun x hx=>by
   have h1:=hr x hx;have h2:=as3 ab1.cs (fun r=>by rw[ab1.szs]; omega) x.2;refine ⟨by omega,fun r hr'=>?_⟩;have h3:=bv8 ab1.cs x.2 r hr';have h4:=fe7 r;exact ⟨gq6 r ((h.rich x hx).2 r hr') (by omega),by omega⟩ }
theorem fz3 (ab8:List ak8):ai5 ab8≤ch1 (ab8.map ak8.cs):=by
 induction ab8 with
 | nil=>simp[ai5]
 | cons r rs ih=>
  have h2:=as3 aa4.cs (fun r=>by rw[aa4.szs]; omega) r.packages;have h3:=ak8.szs r;simp only[ai5,List.map_cons,List.sum_cons,ch1] at ih ⊢;omega
end Md
end Go.Id
set_option linter.all false
namespace Go.Id.Tryz
open Go Go.Id Go.Proofs Go.Id.Md
open Go.Proofs.YtlnkchkhffkofaaGreatDoor
set_option maxRecDepth 100000
variable {H:Type} {enc:TypeId×Value→H} {w:World} {base:Nat} {sp:Nat→Bool} {held:Bool}
theorem go9 (d:DataW H):1≤Rows.uptoBulk d:=by
 cases d with
 | lit l=>cases l<;>simp[Rows.uptoBulk]
 | _=>simp[Rows.uptoBulk]
theorem gp1 {r:DataW H→Option (List IV)}{c:Nat}(hr:∀ d cs,r d=some cs→bc4 cs≤Rows.uptoBulk d):∀ (ds:List (DataW H)) es,dvS r c ds=some es→ch1 es≤Rows.uptoBulkAll ds:=by
 intro ds
 induction ds with
 | nil=>intro es h; cases h; simp[ch1]
 | cons d ds ih=>
  intro es h;simp only[dvS] at h;split at h
  ·rename_i a ha;split at h
   ·split at h
    ·rename_i b hb;cases h;have h1:=hr d a ha;have h2:=ih b hb;simp only[ch1,Rows.uptoBulkAll];omega
    ·cases h
   ·cases h
  ·cases h
theorem ek8 {r:TypeId→DataW H→Option (List IV)}{P:Program}(hr:∀ t d cs,r t d=some cs→bc4 cs≤Rows.uptoBulk d):∀ (fs:List (TypeId×Nat)) (ds:List (DataW H)) (off:Nat) es,dvF r P fs ds off=some es→bc4 es≤Rows.uptoBulkAll ds:=by
 intro fs
 induction fs with
 | nil=>
  intro ds off es h
  cases ds with
  | nil=>cases h; simp[bc4]
  | cons d ds=>simp[dvF] at h
 | cons f fs ih=>
  intro ds off es h
  cases ds with
  | nil=>simp[dvF] at h
  | cons d ds=>
   simp only[dvF] at h;split at h
   ·split at h
    ·rename_i a ha;split at h
     ·split at h
      ·rename_i b hb;cases h;have h1:=hr _ d a ha;have h2:=ih ds _ b hb;simp only[ee8,Rows.uptoBulkAll];omega
      ·cases h
     ·cases h
    ·cases h
   ·cases h
theorem ee4 {P:Program}:∀ (m:Nat) (t:TypeId) (d:DataW H) cs,dv P m t d=some cs→bc4 cs≤Rows.uptoBulk d:=by
 intro m
 induction m with
 | zero=>intro t d cs h; simp[dv] at h
 | succ m ih=>
  intro t d cs h;have h1:=go9 d;simp only[dv] at h;split at h
  ·cases h; simpa [bc4,isz] using h1
  ·cases h; simpa [bc4,isz] using h1
  ·cases h; simp[bc4,isz,Rows.uptoBulk]
  ·cases h; simpa [bc4,isz] using h1
  ·split at h
   ·cases h; simpa [bc4,isz] using h1
   ·cases h
  ·cases h; simpa [bc4,isz,ch1] using h1
  ·split at h
   ·cases h
   ·split at h
    ·rename_i es he;cases h;have:=gp1 (ih _) _ _ he;simp only[bc4,isz,Rows.uptoBulk];omega
    ·cases h
  ·split at h
   ·rename_i ivs he;split at h
    ·cases h;have:=ek8 (fun t d cs=>ih t d cs) _ _ _ _ he;simp only[Rows.uptoBulk];omega
    ·cases h
   ·cases h
  ·split at h
   ·rename_i ivs he;split at h
    ·cases h;have:=ek8 (fun t d cs=>ih t d cs) _ _ _ _ he;simp only[Rows.uptoBulk];omega
    ·cases h
   ·cases h
  ·split at h
   ·split at h
    ·cases h; simpa [bc4,isz] using h1
    ·cases h
   ·cases h
  ·cases h
theorem iu3 {ab8:List ak8}{inst:List aa4}(h1:∀ r∈ab8,ak8.Ok r)(h2:∀ p∈inst,p.Ok)(b1:bc4 [IV.aa3 (ab8.map ak8.cs)]≤1048576)(b2:bc4 [IV.aa3 (inst.map aa4.cs)]≤1048576):hm6 ab8 inst:=by
 simp only[bc4,isz] at b1 b2;have l1:=as3 ak8.cs (fun r=>by rw[ak8.szs]; omega) ab8;have l2:=as3 aa4.cs (fun r=>by rw[aa4.szs]; omega) inst;have l3:=fz3 ab8;refine ⟨by omega,by omega,by omega,fun r hr=>?_,fun p hp=>?_,h1,h2⟩
 ·have m1:=bv8 ak8.cs ab8 r hr;rw[ak8.szs] at m1;have l4:=as3 aa4.cs (fun r=>by rw[aa4.szs]; omega) r.packages;refine ⟨by omega,fun p hp=>fz1 ((h1 r hr).2 p hp) ?_⟩;have:=bv8 aa4.cs r.packages p hp;omega
 ·have:=bv8 aa4.cs inst p hp;exact fz1 (h2 p hp) (by omega)
variable {H:Type} {enc:TypeId×Value→H} {w:World} {base:Nat} {sp:Nat→Bool} {held:Bool}
end Go.Id.Tryz
set_option linter.all false
namespace Go.Id.Tryz
open Go Go.Id Go.Proofs Go.Shelf Go.Id.Md
set_option maxRecDepth 100000
set_option maxHeartbeats 1000000
open Go Go.Id Go.Proofs Go.Id.Md
variable {H:Type} {enc:TypeId×Value→H} {w:World} {base:Nat} {sp:Nat→Bool} {held:Bool}
theorem gu3:Tryz.prog.cellsOf 37=2:=by kernel_rfl
theorem hh8 {n:Nat}{d:DataW H}(h:Rd enc w base sp held n 37 d)(hw:WT Tryz.prog 37 d):∃ e:Step,True∧∀ m,n≤m→dv Tryz.prog m 37 d=some e.cs:=by
 obtain ⟨n',ds,rfl,rfl,hl,hf⟩:=bb3 Tryz.underlying37 h hw
 match ds,hl with
 | [d0,d1],_=>
  obtain ⟨r0,w0⟩:=hf 0 _ d0 rfl rfl;obtain ⟨r1,w1⟩:=hf 1 _ d1 rfl rfl;obtain ⟨z,_,hz,e0⟩:=co4 Tryz.underlying5 r0;obtain ⟨y,_,hy,e1⟩:=co4 Tryz.underlying3 r1;refine ⟨⟨z,y⟩,trivial,fun m hm=>?_⟩
  cases m with
  | zero=>omega
  | succ m=>
   simp only[dv,Tryz.underlying37,List.map_cons,List.map_nil,dvF,e0 m (by omega),e1 m (by omega),List.length_cons,List.length_nil,il6,ig8,gu3,List.cons_append,List.nil_append,List.append_nil,Nat.reduceAdd,↓reduceIte];rfl
theorem gl6 {n:Nat}{d:DataW H}(h:Rd enc w base sp held n 24 d)(hw:WT Tryz.prog 24 d):∃ l:List Step,l.length<2^62∧(∀ j∈l,True)∧∀ m,n≤m→dv Tryz.prog m 24 d=some [af7 l]:=
 bd3 Step.cs (fun _=>True) Tryz.underlying24 gu3 (by decide) (by decide +kernel) (fun _=>rfl) (fun _ _ _ hr hw'=>hh8 hr hw') h hw
theorem gl7 {l:List Step}(b:bc4 [af7 l]≤1048576):l.length<2^30:=by
 simp only[bc4,isz] at b;have:=as3 Step.cs (fun z=>by simp only[Step.cs,bc4,isz]; omega) l;omega
end Go.Id.Tryz
