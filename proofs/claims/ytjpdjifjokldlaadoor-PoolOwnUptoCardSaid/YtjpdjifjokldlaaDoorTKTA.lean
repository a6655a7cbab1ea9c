/- A package's copy in rows of one's own,walked. Conditions: sizes that fit. -/
import Derived.Test.YtjpdjifjokldlaaDoorTKHA
import Derived.Test.YtjpdjifjokldlaaDoorFwTf
set_option linter.all false
namespace Go.Id.Tryd
open Go Go.Id Go.Proofs Go.Id.Md
set_option maxRecDepth 100000
set_option maxHeartbeats 1000000
def fe8:IC :=
 (.seq
 (.reg 0 [oK 1 (.box (.t 0)),oK 2 (.alloc [(.str []),(zI 0),(.str []),(.str []),(zU 0),(.str []),.aa1,.aa1,.aa1,.aa1,.aa1,.aa1,.aa1,.aa1,.aa1])] [1,2])
 (.seq
 (.oreg 1 [(0,oQ 7 (.aa9 6 (.t 1)),0),(1,oQ 8 (.load none (.t 7)),0),(3,oQ 10 (.aa9 9 (.t 1)),0),(4,oQ 11 (.load none (.t 10)),0),(6,oQ 13 (.aa9 14 (.t 1)),0),(7,oQ 14 (.load none (.t 13)),0),(2,oK 9 (.call 32 [(.t 8)]),144),(5,oK 12 (.call 32 [(.t 11)]),128),(8,oK 15 (.call 33 [(.t 14)]),0),(9,oQ 16 (.aa9 6 (.t 1)),0),(10,oN (.store 1 (.t 16) (.t 9)),0),(11,oQ 17 (.aa9 9 (.t 1)),0),(12,oN (.store 1 (.t 17) (.t 12)),0),(13,oQ 18 (.aa9 14 (.t 1)),0),(14,oN (.store 1 (.t 18) (.t 15)),0)] [1,2])
 (.seq
 (.seq
 (.reg 2 [oQ 19 (.aa9 7 (.t 1)),oQ 20 (.aa9 8 (.t 1)),oQ 21 (.aa9 10 (.t 1)),oQ 22 (.aa9 11 (.t 1)),oQ 23 (.aa9 12 (.t 1)),oQ 24 (.aa9 13 (.t 1)),oK 25 (.av2 1 6 [.ad3] [⟨0,⟨1,(.t 19)⟩⟩,⟨1,⟨1,(.t 20)⟩⟩,⟨2,⟨1,(.t 21)⟩⟩,⟨3,⟨1,(.t 22)⟩⟩,⟨4,⟨1,(.t 23)⟩⟩,⟨5,⟨1,(.t 24)⟩⟩]),oQ 26 (.len 0 (.t 25)),oM 27 (cI 0)] [1,2,25,26,27])
 (.block 0
 (.loop
 (.seq
 (.reg 3 [oQ 28 (.bin .lss (.t 27) (.t 26))] [1,2,25,26,27,28])
 (.seq
 (.cond (.t 28)
 .skip
 (.exit 0))
 (.seq
 (.block 1
 (.seq
 (.reg 4 [oQ 29 (.ab5 1 (.t 25) (.t 27)),oQ 30 (.load none (.t 29)),oM 4 (.t 30)] [1,2,4,25,26,27])
 (.seq
 (.reg 5 [oM 31 (.t 4),oM 32 (.t 4),oQ 33 (.au1 (.t 32)),oQ 34 (.load none (.t 33)),oK 35 (.call 34 [(.t 34)]),oQ 36 (.au1 (.t 31)),oN (.store 1 (.t 36) (.t 35))] [1,2,4,25,26,27])
 (.seq
 (.reg 6 [oM 37 (.t 4),oQ 38 (.au1 (.t 37)),oQ 39 (.load none (.t 38)),oQ 40 (.len 0 (.t 39)),oM 41 (cI 0)] [1,2,4,25,26,27,39,40,41])
 (.block 2
 (.loop
 (.seq
 (.reg 7 [oQ 42 (.bin .lss (.t 41) (.t 40))] [1,2,4,25,26,27,39,40,41,42])
 (.seq
 (.cond (.t 42)
 .skip
 (.exit 2))
 (.seq
 (.block 3
 (.seq
 (.reg 8 [oM 43 (.t 41),oQ 44 (.ab5 7 (.t 39) (.t 41)),oQ 45 (.load (some 7) (.t 44)),oK 6 (.alloc [(zU 0),(.str []),(zU 0),(zI 0),(.str []),(.str []),.aa1]),oM 5 (.t 43),oN (.store 7 (.t 6) (.t 45))] [1,2,4,5,6,25,26,27,39,40,41])
 (.dreg 9 [oM 46 (.t 4),oQ 47 (.au1 (.t 46)),oQ 48 (.load none (.t 47)),oM 49 (.t 5),oQ 50 (.load (some 7) (.t 6)),oK 51 (.aj4 35 [(.t 50)]),oQ 52 (.ab5 7 (.t 48) (.t 49)),oN (.store 7 (.t 52) (.t 51))] false [1,2,4,25,26,27,39,40,41])))
 (.reg 10 [oQ 53 (.bin .add (.t 41) (cI 1)),oM 41 (.t 53)] [1,2,4,25,26,27,39,40,41]))))))))))
 (.reg 11 [oQ 54 (.bin .add (.t 27) (cI 1)),oM 27 (.t 54)] [1,2,25,26,27])))))))
 (.seq
 (.reg 12 [oQ 55 (.load (some 15) (.t 1)),oN (.store 15 (.t 2) (.t 55))] [2])
 .ret))))
theorem fu3:FOK Tryd.prog 22 (56,fe8,[(.cell (some 15) 2)]):=bk2 [1000025,35] Tryd.func22 (by kernel_rfl) (by kernel_rfl) (by kernel_rfl) (by kernel_rfl)
def an6 (p:aa3)(v6 v7 v8 v9 v10 v11 v12 v13 v14:IV):List IV :=
 [.str p.name,.int .i64 p.evr.aq5,.str p.evr.ver,.str p.evr.rel,.int .u8 p.dg5,.str p.vendor,v6,v7,v8,v9,v10,v11,v12,v13,v14]
def ar8 (s:Store)(lo:Nat)(done:Prop)(v u:IV)(l:List aa8):Prop:=(done∧Grow s v 7 (l.map aa8.cs)∧an1 lo v)∨(¬ done∧v=u)
theorem ar8.mono {s s':Store}{lo:Nat}{done done':Prop}{v u:IV}{l:List aa8}(h:ar8 s lo done v u l)(hd:done↔done')(hn:s.next≤s'.next)(ho:∀ id cs,id<s.next→s.obj id=some (.row cs)→s'.obj id=some (.row cs)):ar8 s' lo done' v u l:=by
 rcases h with ⟨h1,h2,h3⟩|⟨h1,h2⟩
 ·exact .inl ⟨hd.1 h1,Grow.rows h2 hn ho,h3⟩
 ·exact .inr ⟨fun h=>h1 (hd.2 h),h2⟩
theorem ad8 {s:Store}{v:IV}{e:Nat}{es:List (List IV)}(h:Grow s v e es):v.leaf=true∧v.cs=[v]:=by
 rcases h with ⟨rfl,_⟩|⟨id,rfl,_⟩<;>exact ⟨rfl,rfl⟩
theorem av7 {s:Store}{v:IV}{e:Nat}{es:List (List IV)}(h:au4 s v e es):v.leaf=true∧v.cs=[v]:=by
 rcases h with h|⟨rfl,_⟩
 ·exact ad8 h
 ·exact ⟨rfl,rfl⟩
theorem dv8 {s:Store}{v:IV}{e:Nat}{es:List (List IV)}(h:fu2 s v e es):v.leaf=true:=by
 rcases h with rfl|h
 ·rfl
 ·exact (av7 h).1
theorem ar8.leaf {s:Store}{lo:Nat}{done:Prop}{v u:IV}{l:List aa8}(h:ar8 s lo done v u l)(hu:u.leaf=true):v.leaf=true:=by
 rcases h with ⟨_,h,_⟩|⟨_,rfl⟩
 ·exact (ad8 h).1
 ·exact hu
structure ie1 (σ s:Store) (p:aa3) (v6 v7 v8 v9 v10 v11 v12 v13 v14:IV):Prop where
 kept:Kept σ s
 g6:Grow s v6 5 (p.provides.map Dep.cs)∧an1 σ.next v6
 g7:Grow s v7 7 (p.requires.map aa8.cs)∧an1 σ.next v7
 g8:Grow s v8 7 (p.conflicts.map aa8.cs)∧an1 σ.next v8
 g9:Grow s v9 5 (p.ab9.map Dep.cs)∧an1 σ.next v9
 g10:Grow s v10 7 (p.aa7.map aa8.cs)∧an1 σ.next v10
 g11:Grow s v11 7 (p.aa5.map aa8.cs)∧an1 σ.next v11
 g12:Grow s v12 7 (p.suggests.map aa8.cs)∧an1 σ.next v12
 g13:Grow s v13 7 (p.ab2.map aa8.cs)∧an1 σ.next v13
 g14:Grow s v14 1 (p.files.map ap4)∧an1 σ.next v14
def az8 (p:aa3)(w6 w9 w14 v7 v8 v10 v11 v12 v13:IV):List IV:=an6 p w6 v7 v8 w9 v10 v11 v12 v13 w14
def bx3 (B:Nat):List (List IV):=[[.ptr B 7],[.ptr B 8],[.ptr B 10],[.ptr B 11],[.ptr B 12],[.ptr B 13]]
theorem fe9 {E:Nat→IV}{fr:Frm}{i f:Nat}{xs:List IX}{v:IV}{L:List LE}:ap1 E fr i (.call f xs) v L=L:=rfl
theorem gn2 {E:Nat→IV}{fr:Frm}{i n:Nat}{x y:IX}{v:IV}{L:List LE}:ap1 E fr i (.store n x y) v L=L:=rfl
theorem dh5 (p:aa3)(hf:p.Fit)(σ:Store)(u6 u7:IV)(h6:fu2 σ u6 5 (p.provides.map Dep.cs))(h7:fu2 σ u7 7 (p.requires.map aa8.cs)) :
  C Tryd.prog EE 22 [.agg (an6 p u6 u7 (ab7 p.conflicts) (deps p.ab9) (ab7 p.aa7) (ab7 p.aa5) (ab7 p.suggests) (ab7 p.ab2) (strs p.files))] σ fun v s=>∃ v6 v7 v8 v9 v10 v11 v12 v13 v14,v=.agg (an6 p v6 v7 v8 v9 v10 v11 v12 v13 v14)∧ie1 σ s p v6 v7 v8 v9 v10 v11 v12 v13 v14:=by
 have l6:=dv8 h6;have l7:=dv8 h7;obtain ⟨B,hB⟩:∃ B,B=σ.next:=⟨_,rfl⟩;have tb1:Nat.testBit 144 1=false:=by decide
 have tb4:Nat.testBit 144 4=true:=by decide
 have tb7:Nat.testBit 144 7=true:=by decide
 have tc1:Nat.testBit 128 1=false:=by decide
 have tc4:Nat.testBit 128 4=false:=by decide
 have tc7:Nat.testBit 128 7=true:=by decide
 refine ey5 fu3 (nZ rfl) ?_;simp only[fe8];refine ab1 (ab3 ?_);simp only[go_sem,an6,l6,l7];generalize hU:Store.put (Store.put (Store.mk (σ.next+2) σ.obj) σ.next _) (σ.next+1) _=U;have un:U.next=σ.next+2:=by rw[← hU]; rfl
 have hb:U.obj σ.next=some (.cells (an6 p u6 u7 (ab7 p.conflicts) (deps p.ab9) (ab7 p.aa7) (ab7 p.aa5) (ab7 p.suggests) (ab7 p.ab2) (strs p.files))):=by
  have e:¬ σ.next=σ.next+1:=by omega
  rw[← hU]; simp only[aa2,e,if_false,if_true]; rfl
 have hz:U.obj (σ.next+1)=some (.cells ag8):=by rw[← hU]; simp only[aa2,if_true]; rfl
 have kU:Kept σ U:=⟨by omega,fun j hj=>by
  have e1:¬ j=σ.next:=by omega
  have e2:¬ j=σ.next+1:=by omega
  rw[← hU]; simp only[aa2,e1,e2,if_false]⟩
 clear hU;have kV:Kept U ⟨U.next+15,U.obj⟩:=(Kept.refl U).up 15;refine ab1 (du1 ?_);simp only[go_sem,hb,an6];refine ae3 fok32 (cs3 p.provides _ u6 (h6.kept (kU.trans kV)) (by have:=hf.aw3.1; omega)) ?_;rintro w6 s1 ⟨k1,g6,lo6⟩;refine ⟨k1.next,?_⟩
 have hb1:s1.obj σ.next=some (.cells (an6 p u6 u7 (ab7 p.conflicts) (deps p.ab9) (ab7 p.aa7) (ab7 p.aa5) (ab7 p.suggests) (ab7 p.ab2) (strs p.files))):=by
  rw[k1.obj _ (by show σ.next<U.next+15; omega)]; exact hb
 simp only[fe9,fo9 tb7,fo9 tb4,fo8 tb1,go_sem,hb1,an6];refine ae3 fok32 (cs3 p.ab9 _ _ (.inl rfl) (by have:=hf.obs.1; omega)) ?_;rintro w9 s2 ⟨k2,g9,lo9⟩;refine ⟨k2.next,?_⟩
 have hb2:s2.obj σ.next=some (.cells (an6 p u6 u7 (ab7 p.conflicts) (deps p.ab9) (ab7 p.aa7) (ab7 p.aa5) (ab7 p.suggests) (ab7 p.ab2) (strs p.files))):=by
  have h0:σ.next<U.next+15:=by omega
  have h:=k1.next
  have h1:σ.next<s1.next:=by
   simp only at h
   omega
  rw[k2.obj _ h1];exact hb1
 simp only[fe9,fo9 tc7,fo8 tc4,fo8 tc1,go_sem,hb2,an6];refine ae3 fok33 (em5 p.files _ _ (.inl rfl) (by have:=hf.files.1; omega)) ?_;rintro w14 s3 ⟨k3,g14,lo14⟩;refine ⟨k3.next,?_⟩;have n1:U.next+15≤s1.next:=k1.next;have n2:=k2.next;have n3:=k3.next
 have hb3:s3.obj σ.next=some (.cells (an6 p u6 u7 (ab7 p.conflicts) (deps p.ab9) (ab7 p.aa7) (ab7 p.aa5) (ab7 p.suggests) (ab7 p.ab2) (strs p.files))):=by
  rw[k3.obj _ (by omega)]; exact hb2
 have hz3:s3.obj (σ.next+1)=some (.cells ag8):=by
  rw[k3.obj _ (by omega),k2.obj _ (by omega),k1.obj _ (by show σ.next+1<U.next+15; omega)]; exact hz
 have kσ3:Kept σ s3:=kU.trans (kV.trans (k1.trans (k2.trans k3)));have w6l:=(ad8 g6).1;have w6c:=(ad8 g6).2;have w9l:=(ad8 g9).1;have w9c:=(ad8 g9).2;have w14l:=(ad8 g14).1;have w14c:=(ad8 g14).2;simp only[fe9,gn2,go_sem,hb3,an6,w6l,w6c,w9l,w9c,w14l,w14c];refine ab3 ?_;have nB1:¬ σ.next=σ.next+1:=by omega
 have nB2:¬ σ.next+1=σ.next:=by omega
 simp only[go_sem]
 refine ac9 noT (fun i fr s=>fr=[(1,.ptr σ.next 0),(2,.ptr (σ.next+1) 0),(25,.aa4 (bx3 σ.next)),(26,.int .i64 6),(27,.int .i64 (i:Int))]∧(s.obj (σ.next+1)=some (.cells ag8)∧σ.next+1<s.next∧∀ j,j<σ.next→s.obj j=σ.obj j)∧(Grow s w6 5 (p.provides.map Dep.cs)∧Grow s w9 5 (p.ab9.map Dep.cs)∧Grow s w14 1 (p.files.map ap4))∧∃ v7 v8 v10 v11 v12 v13,s.obj σ.next=some (.cells (az8 p w6 w9 w14 v7 v8 v10 v11 v12 v13)) ∧
  ar8 s σ.next (0<i) v7 u7 p.requires∧ar8 s σ.next (1<i) v8 (ab7 p.conflicts) p.conflicts∧ar8 s σ.next (2<i) v10 (ab7 p.aa7) p.aa7∧ar8 s σ.next (3<i) v11 (ab7 p.aa5) p.aa5∧ar8 s σ.next (4<i) v12 (ab7 p.suggests) p.suggests∧ar8 s σ.next (5<i) v13 (ab7 p.ab2) p.ab2) 6 ?_ ?_
 ·have gk:∀ {s t:Store} {v:IV} {e:Nat} {es:List (List IV)},Grow s v e es→Kept s t→Grow t v e es:=fun h hk=>h.mono hk.next fun i _ hi=>hk.obj i hi
  have e6:=gk (gk g6 k2) k3;have e9:=gk g9 k3
  have ne:∀ {v:IV} {e:Nat} {es:List (List IV)} {c1 c2 c3:List IV},Grow s3 v e es→Grow (((s3.put σ.next (.cells c1)).put σ.next (.cells c2)).put σ.next (.cells c3)) v e es:=fun {v e es c1 c2 c3} h=>Grow.rows h (Nat.le_refl _) fun id cs _ ho=>by
   have:¬ id=σ.next:=fun e=>by rw[e,hb3] at ho; cases ho
   simp only[aa2,this,if_false]; exact ho
  refine ⟨rfl,⟨?_,?_,fun j hj=>?_⟩,⟨ne e6,ne e9,ne g14⟩,_,_,_,_,_,_,?_,.inr ⟨by omega,rfl⟩,.inr ⟨by omega,rfl⟩,.inr ⟨by omega,rfl⟩,.inr ⟨by omega,rfl⟩,.inr ⟨by omega,rfl⟩,.inr ⟨by omega,rfl⟩⟩
  ·simp only[aa2,nB2,if_false]; exact hz3
  ·simp only[ac4]; omega
  ·have:¬ j=σ.next:=by omega
   simp only[aa2,this,if_false]; exact kσ3.obj j hj
  ·simp only[aa2,if_true]; rfl
 rintro i fr s hle ⟨rfl,⟨q1,hn,hkj⟩,⟨gg6,gg9,gg14⟩,v7,v8,v10,v11,v12,v13,q0,o7,o8,o10,o11,o12,o13⟩;have hnn:σ.next≤s.next:=by omega
 have hks:Kept σ s:=⟨hnn,hkj⟩;by_cases hlt:i<6
 ·have hcase:i=0∨i=1∨i=2∨i=3∨i=4∨i=5:=by omega
  rcases hcase with rfl|rfl|rfl|rfl|rfl|rfl
  ·have hv:v7=u7:=by
    rcases o7 with ⟨h,_⟩|⟨_,h⟩
    ·exact absurd h (by omega)
    ·exact h
   rw[hv] at q0;have hfl:p.requires.length<2^31∧∀ r∈p.requires,r.fit∧r.count<2^31:=hf.au3 (1,p.requires) (by simp[aa3.rows]);simp only[go_sem,bx3,q0,az8,an6,l7,nB1,nB2];refine ae3 fok34 (ao5 p.requires _ (u7) (h7.kept hks) (by have:=hfl.1; omega)) ?_;rintro v s2 ⟨⟨hn2,hs2⟩,hg,hlo0⟩;refine ⟨hn2,?_⟩;have hlo:an1 σ.next v:=fun i k e h=>Nat.le_trans hnn (hlo0 i k e h)
   have hid:∀ id,v=.slice id 0 p.requires.length 7→s.next≤id:=fun id h=>hlo0 id _ _ h
   have q02:s2.obj σ.next=some (.cells (az8 p w6 w9 w14 u7 v8 v10 v11 v12 v13)):=by rw[hs2 σ.next (by omega)]; exact q0
   have q12:s2.obj (σ.next+1)=some (.cells ag8):=by rw[hs2 (σ.next+1) (by omega)]; exact q1
   have hvl:v.leaf=true:=by rcases hg with ⟨rfl,_⟩|⟨id,rfl,_⟩<;>rfl
   have hvc:v.cs=[v]:=by rcases hg with ⟨rfl,_⟩|⟨id,rfl,_⟩<;>rfl
   have hlen:∀ s,bh7 0 s v=some (.int .i64 (p.requires.length:Nat)):=fun s=>by
    rcases hg with ⟨rfl,he⟩|⟨id,rfl,_⟩
    ·have:p.requires=[]:=by simpa using he
     rw[this]; rfl
    ·rw[al8,List.length_map]
   simp only[go_sem,q02,az8,an6,hvl,hvc,hlen,nB1,nB2]
   refine ac9 noT (fun j fr t=>fr=[(1,.ptr σ.next 0),(2,.ptr (σ.next+1) 0),(4,.ptr σ.next 7),(25,.aa4 (bx3 σ.next)),(26,.int .i64 6),(27,.int .i64 0),(39,v),(40,.int .i64 p.requires.length),(41,.int .i64 j)] ∧
    s2.next≤t.next∧t.obj σ.next=some (.cells (az8 p w6 w9 w14 v v8 v10 v11 v12 v13))∧t.obj (σ.next+1)=some (.cells ag8)∧(∀ j,j<σ.next→t.obj j=σ.obj j)∧∀ id cs,id<s2.next→s2.obj id=some (.row cs)→t.obj id=some (.row cs)) p.requires.length ⟨rfl,Nat.le_refl _,?_,?_,?_,?_⟩ ?_
   ·simp only[aa2,if_true]; rfl
   ·simp only[aa2,nB2,if_false]; exact q12
   ·intro j hj;have e1:¬ j=σ.next:=by omega
    simp only[aa2,e1,if_false];rw[hs2 j (by omega)]; exact hkj j hj
   ·intro id cs hlt' h;have:¬ id=σ.next:=fun e=>by rw[e,q02] at h; cases h
    simp only[aa2,this,if_false]; exact h
   rintro j fr t hle' ⟨rfl,t0,t1,t2,tj,t3⟩;by_cases hjl:j<p.requires.length
   ·obtain ⟨a,ha,_,hdr,hget,_⟩:=ae9 p.requires j hjl;rcases hg with ⟨_,he⟩|⟨id,rfl,ho,hil⟩
    ·have:p.requires=[]:=by simpa using he
     rw[this] at hjl; cases hjl
    have hrow:=t3 _ _ hil ho;have c1:(j:Int)<p.requires.length:=by omega
    have c2:(0:Int)≤j:=by omega
    have w1:=ag4 (i:=j) (by have:=hfl.1; omega);have hid0:¬ id=σ.next:=fun e=>by rw[e,t1] at hrow; cases hrow
    have hid1:¬ id=σ.next+1:=fun e=>by rw[e,t2] at hrow; cases hrow
    have u0:¬ σ.next=t.next:=by omega
    have u1:¬ σ.next+1=t.next:=by omega
    have u2:¬ id=t.next:=by omega
    have u3:¬ t.next=id:=by omega
    have u4:¬ σ.next=id:=fun e=>hid0 e.symm
    have u5:¬ σ.next+1=id:=fun e=>hid1 e.symm
    have hall:=fun x hx=>(af5 p.requires x hx).1
    have hfl2:=ah3 hall;have hpart:=aj1 hall j (by rw[List.length_map]; exact hjl);rw[hget] at hpart;rw[List.length_map] at hfl2;have hin:7≤((p.requires.map aa8.cs).flatten.drop (j*7)).length:=by rw[List.length_drop,hfl2]; omega
    have hin2:j*7+7≤(p.requires.map aa8.cs).flatten.length:=by rw[hfl2]; omega
    have hsame:ao8 (p.requires.map aa8.cs).flatten (j*7) a.cs=(p.requires.map aa8.cs).flatten:=aj6 (by rw[ac1]; exact hpart) (by rw[ac1]; exact hin2);simp only[go_sem,c1,c2,hrow,hin,hpart,ac1,ac3,ae5,t1,az8,an6,u0,u2,u3,hid0];refine af2 (ag1 a (hfl.2 a ha).1) ?_;simp only[go_sem,c1,c2,hrow,hin2,ac1,ac3,hsame,t1,az8,an6,u0,u2,w1];refine ⟨hjl,by omega,?_,?_,?_,?_⟩
    ·simp only[u4,if_false]
    ·simp only[u5,u1,if_false]; exact t2
    ·intro j2 hj2;have hidl:=hid id (by rw[List.length_map]);have e1:¬ j2=id:=by omega
     have e2:¬ j2=t.next:=by omega
     simp only[e1,e2,if_false];exact tj j2 hj2
    ·intro id' cs hlt' h;have h':=t3 id' cs hlt' h;have u6:¬ id'=t.next:=by omega
     by_cases e:id'=id
     ·subst e;rw[hrow] at h';simp only[if_true]; exact h'
     ·simp only[e,u6,if_false]; exact h'
   ·have hj':j=p.requires.length:=by omega
    subst hj';have c1:¬ (p.requires.length:Int)<p.requires.length:=by omega
    have hgt:Grow t v 7 (p.requires.map aa8.cs):=by
     rcases hg with h|⟨id,rfl,ho,hil⟩
     ·exact .inl h
     ·exact .inr ⟨id,rfl,t3 _ _ hil ho,by omega⟩
    have hrows:∀ id cs,id<s.next→s.obj id=some (.row cs)→t.obj id=some (.row cs):=fun id cs hlt' h=>t3 id cs (by omega) (by rw[hs2 id hlt']; exact h)
    have mm:∀ {d d':Prop} (u u2:IV) (l:List aa8),ar8 s σ.next d u u2 l→(d↔d')→ar8 t σ.next d' u u2 l:=fun u u2 l h hd=>h.mono hd (by omega) hrows
    simp only[go_sem,c1];exact ⟨rfl,⟨t2,by omega,tj⟩,⟨Grow.rows gg6 (by omega) hrows,Grow.rows gg9 (by omega) hrows,Grow.rows gg14 (by omega) hrows⟩,v,v8,v10,v11,v12,v13,t1,.inl ⟨by simp,hgt,hlo⟩,mm _ _ _ o8 (by simp),mm _ _ _ o10 (by simp),mm _ _ _ o11 (by simp),mm _ _ _ o12 (by simp),mm _ _ _ o13 (by simp)⟩
  ·have hv:v8=ab7 p.conflicts:=by
    rcases o8 with ⟨h,_⟩|⟨_,h⟩
    ·exact absurd h (by omega)
    ·exact h
   rw[hv] at q0;have hfl:p.conflicts.length<2^31∧∀ r∈p.conflicts,r.fit∧r.count<2^31:=hf.au3 (2,p.conflicts) (by simp[aa3.rows]);simp only[go_sem,bx3,q0,az8,an6,l7,nB1,nB2];refine ae3 fok34 (ao5 p.conflicts _ (ab7 p.conflicts) (.inl rfl) (by have:=hfl.1; omega)) ?_;rintro v s2 ⟨⟨hn2,hs2⟩,hg,hlo0⟩;refine ⟨hn2,?_⟩;have hlo:an1 σ.next v:=fun i k e h=>Nat.le_trans hnn (hlo0 i k e h)
   have hid:∀ id,v=.slice id 0 p.conflicts.length 7→s.next≤id:=fun id h=>hlo0 id _ _ h
   have q02:s2.obj σ.next=some (.cells (az8 p w6 w9 w14 v7 (ab7 p.conflicts) v10 v11 v12 v13)):=by rw[hs2 σ.next (by omega)]; exact q0
   have q12:s2.obj (σ.next+1)=some (.cells ag8):=by rw[hs2 (σ.next+1) (by omega)]; exact q1
   have hvl:v.leaf=true:=by rcases hg with ⟨rfl,_⟩|⟨id,rfl,_⟩<;>rfl
   have hvc:v.cs=[v]:=by rcases hg with ⟨rfl,_⟩|⟨id,rfl,_⟩<;>rfl
   have hlen:∀ s,bh7 0 s v=some (.int .i64 (p.conflicts.length:Nat)):=fun s=>by
    rcases hg with ⟨rfl,he⟩|⟨id,rfl,_⟩
    ·have:p.conflicts=[]:=by simpa using he
     rw[this]; rfl
    ·rw[al8,List.length_map]
   simp only[go_sem,q02,az8,an6,hvl,hvc,hlen,nB1,nB2]
   refine ac9 noT (fun j fr t=>fr=[(1,.ptr σ.next 0),(2,.ptr (σ.next+1) 0),(4,.ptr σ.next 8),(25,.aa4 (bx3 σ.next)),(26,.int .i64 6),(27,.int .i64 1),(39,v),(40,.int .i64 p.conflicts.length),(41,.int .i64 j)] ∧
    s2.next≤t.next∧t.obj σ.next=some (.cells (az8 p w6 w9 w14 v7 v v10 v11 v12 v13))∧t.obj (σ.next+1)=some (.cells ag8)∧(∀ j,j<σ.next→t.obj j=σ.obj j)∧∀ id cs,id<s2.next→s2.obj id=some (.row cs)→t.obj id=some (.row cs)) p.conflicts.length ⟨rfl,Nat.le_refl _,?_,?_,?_,?_⟩ ?_
   ·simp only[aa2,if_true]; rfl
   ·simp only[aa2,nB2,if_false]; exact q12
   ·intro j hj;have e1:¬ j=σ.next:=by omega
    simp only[aa2,e1,if_false];rw[hs2 j (by omega)]; exact hkj j hj
   ·intro id cs hlt' h;have:¬ id=σ.next:=fun e=>by rw[e,q02] at h; cases h
    simp only[aa2,this,if_false]; exact h
   rintro j fr t hle' ⟨rfl,t0,t1,t2,tj,t3⟩;by_cases hjl:j<p.conflicts.length
   ·obtain ⟨a,ha,_,hdr,hget,_⟩:=ae9 p.conflicts j hjl;rcases hg with ⟨_,he⟩|⟨id,rfl,ho,hil⟩
    ·have:p.conflicts=[]:=by simpa using he
     rw[this] at hjl; cases hjl
    have hrow:=t3 _ _ hil ho;have c1:(j:Int)<p.conflicts.length:=by omega
    have c2:(0:Int)≤j:=by omega
    have w1:=ag4 (i:=j) (by have:=hfl.1; omega);have hid0:¬ id=σ.next:=fun e=>by rw[e,t1] at hrow; cases hrow
    have hid1:¬ id=σ.next+1:=fun e=>by rw[e,t2] at hrow; cases hrow
    have u0:¬ σ.next=t.next:=by omega
    have u1:¬ σ.next+1=t.next:=by omega
    have u2:¬ id=t.next:=by omega
    have u3:¬ t.next=id:=by omega
    have u4:¬ σ.next=id:=fun e=>hid0 e.symm
    have u5:¬ σ.next+1=id:=fun e=>hid1 e.symm
    have hall:=fun x hx=>(af5 p.conflicts x hx).1
    have hfl2:=ah3 hall;have hpart:=aj1 hall j (by rw[List.length_map]; exact hjl);rw[hget] at hpart;rw[List.length_map] at hfl2;have hin:7≤((p.conflicts.map aa8.cs).flatten.drop (j*7)).length:=by rw[List.length_drop,hfl2]; omega
    have hin2:j*7+7≤(p.conflicts.map aa8.cs).flatten.length:=by rw[hfl2]; omega
    have hsame:ao8 (p.conflicts.map aa8.cs).flatten (j*7) a.cs=(p.conflicts.map aa8.cs).flatten:=aj6 (by rw[ac1]; exact hpart) (by rw[ac1]; exact hin2);simp only[go_sem,c1,c2,hrow,hin,hpart,ac1,ac3,ae5,t1,az8,an6,u0,u2,u3,hid0];refine af2 (ag1 a (hfl.2 a ha).1) ?_;simp only[go_sem,c1,c2,hrow,hin2,ac1,ac3,hsame,t1,az8,an6,u0,u2,w1];refine ⟨hjl,by omega,?_,?_,?_,?_⟩
    ·simp only[u4,if_false]
    ·simp only[u5,u1,if_false]; exact t2
    ·intro j2 hj2;have hidl:=hid id (by rw[List.length_map]);have e1:¬ j2=id:=by omega
     have e2:¬ j2=t.next:=by omega
     simp only[e1,e2,if_false];exact tj j2 hj2
    ·intro id' cs hlt' h;have h':=t3 id' cs hlt' h;have u6:¬ id'=t.next:=by omega
     by_cases e:id'=id
     ·subst e;rw[hrow] at h';simp only[if_true]; exact h'
     ·simp only[e,u6,if_false]; exact h'
   ·have hj':j=p.conflicts.length:=by omega
    subst hj';have c1:¬ (p.conflicts.length:Int)<p.conflicts.length:=by omega
    have hgt:Grow t v 7 (p.conflicts.map aa8.cs):=by
     rcases hg with h|⟨id,rfl,ho,hil⟩
     ·exact .inl h
     ·exact .inr ⟨id,rfl,t3 _ _ hil ho,by omega⟩
    have hrows:∀ id cs,id<s.next→s.obj id=some (.row cs)→t.obj id=some (.row cs):=fun id cs hlt' h=>t3 id cs (by omega) (by rw[hs2 id hlt']; exact h)
    have mm:∀ {d d':Prop} (u u2:IV) (l:List aa8),ar8 s σ.next d u u2 l→(d↔d')→ar8 t σ.next d' u u2 l:=fun u u2 l h hd=>h.mono hd (by omega) hrows
    simp only[go_sem,c1];exact ⟨rfl,⟨t2,by omega,tj⟩,⟨Grow.rows gg6 (by omega) hrows,Grow.rows gg9 (by omega) hrows,Grow.rows gg14 (by omega) hrows⟩,v7,v,v10,v11,v12,v13,t1,mm _ _ _ o7 (by simp),.inl ⟨by simp,hgt,hlo⟩,mm _ _ _ o10 (by simp),mm _ _ _ o11 (by simp),mm _ _ _ o12 (by simp),mm _ _ _ o13 (by simp)⟩
  ·have hv:v10=ab7 p.aa7:=by
    rcases o10 with ⟨h,_⟩|⟨_,h⟩
    ·exact absurd h (by omega)
    ·exact h
   rw[hv] at q0;have hfl:p.aa7.length<2^31∧∀ r∈p.aa7,r.fit∧r.count<2^31:=hf.au3 (1,p.aa7) (by simp[aa3.rows]);simp only[go_sem,bx3,q0,az8,an6,l7,nB1,nB2];refine ae3 fok34 (ao5 p.aa7 _ (ab7 p.aa7) (.inl rfl) (by have:=hfl.1; omega)) ?_;rintro v s2 ⟨⟨hn2,hs2⟩,hg,hlo0⟩;refine ⟨hn2,?_⟩;have hlo:an1 σ.next v:=fun i k e h=>Nat.le_trans hnn (hlo0 i k e h)
   have hid:∀ id,v=.slice id 0 p.aa7.length 7→s.next≤id:=fun id h=>hlo0 id _ _ h
   have q02:s2.obj σ.next=some (.cells (az8 p w6 w9 w14 v7 v8 (ab7 p.aa7) v11 v12 v13)):=by rw[hs2 σ.next (by omega)]; exact q0
   have q12:s2.obj (σ.next+1)=some (.cells ag8):=by rw[hs2 (σ.next+1) (by omega)]; exact q1
   have hvl:v.leaf=true:=by rcases hg with ⟨rfl,_⟩|⟨id,rfl,_⟩<;>rfl
   have hvc:v.cs=[v]:=by rcases hg with ⟨rfl,_⟩|⟨id,rfl,_⟩<;>rfl
   have hlen:∀ s,bh7 0 s v=some (.int .i64 (p.aa7.length:Nat)):=fun s=>by
    rcases hg with ⟨rfl,he⟩|⟨id,rfl,_⟩
    ·have:p.aa7=[]:=by simpa using he
     rw[this]; rfl
    ·rw[al8,List.length_map]
   simp only[go_sem,q02,az8,an6,hvl,hvc,hlen,nB1,nB2]
   refine ac9 noT (fun j fr t=>fr=[(1,.ptr σ.next 0),(2,.ptr (σ.next+1) 0),(4,.ptr σ.next 10),(25,.aa4 (bx3 σ.next)),(26,.int .i64 6),(27,.int .i64 2),(39,v),(40,.int .i64 p.aa7.length),(41,.int .i64 j)] ∧
    s2.next≤t.next∧t.obj σ.next=some (.cells (az8 p w6 w9 w14 v7 v8 v v11 v12 v13))∧t.obj (σ.next+1)=some (.cells ag8)∧(∀ j,j<σ.next→t.obj j=σ.obj j)∧∀ id cs,id<s2.next→s2.obj id=some (.row cs)→t.obj id=some (.row cs)) p.aa7.length ⟨rfl,Nat.le_refl _,?_,?_,?_,?_⟩ ?_
   ·simp only[aa2,if_true]; rfl
   ·simp only[aa2,nB2,if_false]; exact q12
   ·intro j hj;have e1:¬ j=σ.next:=by omega
    simp only[aa2,e1,if_false];rw[hs2 j (by omega)]; exact hkj j hj
   ·intro id cs hlt' h;have:¬ id=σ.next:=fun e=>by rw[e,q02] at h; cases h
    simp only[aa2,this,if_false]; exact h
   rintro j fr t hle' ⟨rfl,t0,t1,t2,tj,t3⟩;by_cases hjl:j<p.aa7.length
   ·obtain ⟨a,ha,_,hdr,hget,_⟩:=ae9 p.aa7 j hjl;rcases hg with ⟨_,he⟩|⟨id,rfl,ho,hil⟩
    ·have:p.aa7=[]:=by simpa using he
     rw[this] at hjl; cases hjl
    have hrow:=t3 _ _ hil ho;have c1:(j:Int)<p.aa7.length:=by omega
    have c2:(0:Int)≤j:=by omega
    have w1:=ag4 (i:=j) (by have:=hfl.1; omega);have hid0:¬ id=σ.next:=fun e=>by rw[e,t1] at hrow; cases hrow
    have hid1:¬ id=σ.next+1:=fun e=>by rw[e,t2] at hrow; cases hrow
    have u0:¬ σ.next=t.next:=by omega
    have u1:¬ σ.next+1=t.next:=by omega
    have u2:¬ id=t.next:=by omega
    have u3:¬ t.next=id:=by omega
    have u4:¬ σ.next=id:=fun e=>hid0 e.symm
    have u5:¬ σ.next+1=id:=fun e=>hid1 e.symm
    have hall:=fun x hx=>(af5 p.aa7 x hx).1
    have hfl2:=ah3 hall;have hpart:=aj1 hall j (by rw[List.length_map]; exact hjl);rw[hget] at hpart;rw[List.length_map] at hfl2;have hin:7≤((p.aa7.map aa8.cs).flatten.drop (j*7)).length:=by rw[List.length_drop,hfl2]; omega
    have hin2:j*7+7≤(p.aa7.map aa8.cs).flatten.length:=by rw[hfl2]; omega
    have hsame:ao8 (p.aa7.map aa8.cs).flatten (j*7) a.cs=(p.aa7.map aa8.cs).flatten:=aj6 (by rw[ac1]; exact hpart) (by rw[ac1]; exact hin2);simp only[go_sem,c1,c2,hrow,hin,hpart,ac1,ac3,ae5,t1,az8,an6,u0,u2,u3,hid0];refine af2 (ag1 a (hfl.2 a ha).1) ?_;simp only[go_sem,c1,c2,hrow,hin2,ac1,ac3,hsame,t1,az8,an6,u0,u2,w1];refine ⟨hjl,by omega,?_,?_,?_,?_⟩
    ·simp only[u4,if_false]
    ·simp only[u5,u1,if_false]; exact t2
    ·intro j2 hj2;have hidl:=hid id (by rw[List.length_map]);have e1:¬ j2=id:=by omega
     have e2:¬ j2=t.next:=by omega
     simp only[e1,e2,if_false];exact tj j2 hj2
    ·intro id' cs hlt' h;have h':=t3 id' cs hlt' h;have u6:¬ id'=t.next:=by omega
     by_cases e:id'=id
     ·subst e;rw[hrow] at h';simp only[if_true]; exact h'
     ·simp only[e,u6,if_false]; exact h'
   ·have hj':j=p.aa7.length:=by omega
    subst hj';have c1:¬ (p.aa7.length:Int)<p.aa7.length:=by omega
    have hgt:Grow t v 7 (p.aa7.map aa8.cs):=by
     rcases hg with h|⟨id,rfl,ho,hil⟩
     ·exact .inl h
     ·exact .inr ⟨id,rfl,t3 _ _ hil ho,by omega⟩
    have hrows:∀ id cs,id<s.next→s.obj id=some (.row cs)→t.obj id=some (.row cs):=fun id cs hlt' h=>t3 id cs (by omega) (by rw[hs2 id hlt']; exact h)
    have mm:∀ {d d':Prop} (u u2:IV) (l:List aa8),ar8 s σ.next d u u2 l→(d↔d')→ar8 t σ.next d' u u2 l:=fun u u2 l h hd=>h.mono hd (by omega) hrows
    simp only[go_sem,c1];exact ⟨rfl,⟨t2,by omega,tj⟩,⟨Grow.rows gg6 (by omega) hrows,Grow.rows gg9 (by omega) hrows,Grow.rows gg14 (by omega) hrows⟩,v7,v8,v,v11,v12,v13,t1,mm _ _ _ o7 (by simp),mm _ _ _ o8 (by simp),.inl ⟨by simp,hgt,hlo⟩,mm _ _ _ o11 (by simp),mm _ _ _ o12 (by simp),mm _ _ _ o13 (by simp)⟩
  ·have hv:v11=ab7 p.aa5:=by
    rcases o11 with ⟨h,_⟩|⟨_,h⟩
    ·exact absurd h (by omega)
    ·exact h
   rw[hv] at q0;have hfl:p.aa5.length<2^31∧∀ r∈p.aa5,r.fit∧r.count<2^31:=hf.au3 (3,p.aa5) (by simp[aa3.rows]);simp only[go_sem,bx3,q0,az8,an6,l7,nB1,nB2];refine ae3 fok34 (ao5 p.aa5 _ (ab7 p.aa5) (.inl rfl) (by have:=hfl.1; omega)) ?_;rintro v s2 ⟨⟨hn2,hs2⟩,hg,hlo0⟩;refine ⟨hn2,?_⟩;have hlo:an1 σ.next v:=fun i k e h=>Nat.le_trans hnn (hlo0 i k e h)
   have hid:∀ id,v=.slice id 0 p.aa5.length 7→s.next≤id:=fun id h=>hlo0 id _ _ h
   have q02:s2.obj σ.next=some (.cells (az8 p w6 w9 w14 v7 v8 v10 (ab7 p.aa5) v12 v13)):=by rw[hs2 σ.next (by omega)]; exact q0
   have q12:s2.obj (σ.next+1)=some (.cells ag8):=by rw[hs2 (σ.next+1) (by omega)]; exact q1
   have hvl:v.leaf=true:=by rcases hg with ⟨rfl,_⟩|⟨id,rfl,_⟩<;>rfl
   have hvc:v.cs=[v]:=by rcases hg with ⟨rfl,_⟩|⟨id,rfl,_⟩<;>rfl
   have hlen:∀ s,bh7 0 s v=some (.int .i64 (p.aa5.length:Nat)):=fun s=>by
    rcases hg with ⟨rfl,he⟩|⟨id,rfl,_⟩
    ·have:p.aa5=[]:=by simpa using he
     rw[this]; rfl
    ·rw[al8,List.length_map]
   simp only[go_sem,q02,az8,an6,hvl,hvc,hlen,nB1,nB2]
   refine ac9 noT (fun j fr t=>fr=[(1,.ptr σ.next 0),(2,.ptr (σ.next+1) 0),(4,.ptr σ.next 11),(25,.aa4 (bx3 σ.next)),(26,.int .i64 6),(27,.int .i64 3),(39,v),(40,.int .i64 p.aa5.length),(41,.int .i64 j)] ∧
    s2.next≤t.next∧t.obj σ.next=some (.cells (az8 p w6 w9 w14 v7 v8 v10 v v12 v13))∧t.obj (σ.next+1)=some (.cells ag8)∧(∀ j,j<σ.next→t.obj j=σ.obj j)∧∀ id cs,id<s2.next→s2.obj id=some (.row cs)→t.obj id=some (.row cs)) p.aa5.length ⟨rfl,Nat.le_refl _,?_,?_,?_,?_⟩ ?_
   ·simp only[aa2,if_true]; rfl
   ·simp only[aa2,nB2,if_false]; exact q12
   ·intro j hj;have e1:¬ j=σ.next:=by omega
    simp only[aa2,e1,if_false];rw[hs2 j (by omega)]; exact hkj j hj
   ·intro id cs hlt' h;have:¬ id=σ.next:=fun e=>by rw[e,q02] at h; cases h
    simp only[aa2,this,if_false]; exact h
   rintro j fr t hle' ⟨rfl,t0,t1,t2,tj,t3⟩;by_cases hjl:j<p.aa5.length
   ·obtain ⟨a,ha,_,hdr,hget,_⟩:=ae9 p.aa5 j hjl;rcases hg with ⟨_,he⟩|⟨id,rfl,ho,hil⟩
    ·have:p.aa5=[]:=by simpa using he
     rw[this] at hjl; cases hjl
    have hrow:=t3 _ _ hil ho;have c1:(j:Int)<p.aa5.length:=by omega
    have c2:(0:Int)≤j:=by omega
    have w1:=ag4 (i:=j) (by have:=hfl.1; omega);have hid0:¬ id=σ.next:=fun e=>by rw[e,t1] at hrow; cases hrow
    have hid1:¬ id=σ.next+1:=fun e=>by rw[e,t2] at hrow; cases hrow
    have u0:¬ σ.next=t.next:=by omega
    have u1:¬ σ.next+1=t.next:=by omega
    have u2:¬ id=t.next:=by omega
    have u3:¬ t.next=id:=by omega
    have u4:¬ σ.next=id:=fun e=>hid0 e.symm
    have u5:¬ σ.next+1=id:=fun e=>hid1 e.symm
    have hall:=fun x hx=>(af5 p.aa5 x hx).1
    have hfl2:=ah3 hall;have hpart:=aj1 hall j (by rw[List.length_map]; exact hjl);rw[hget] at hpart;rw[List.length_map] at hfl2;have hin:7≤((p.aa5.map aa8.cs).flatten.drop (j*7)).length:=by rw[List.length_drop,hfl2]; omega
    have hin2:j*7+7≤(p.aa5.map aa8.cs).flatten.length:=by rw[hfl2]; omega
    have hsame:ao8 (p.aa5.map aa8.cs).flatten (j*7) a.cs=(p.aa5.map aa8.cs).flatten:=aj6 (by rw[ac1]; exact hpart) (by rw[ac1]; exact hin2);simp only[go_sem,c1,c2,hrow,hin,hpart,ac1,ac3,ae5,t1,az8,an6,u0,u2,u3,hid0];refine af2 (ag1 a (hfl.2 a ha).1) ?_;simp only[go_sem,c1,c2,hrow,hin2,ac1,ac3,hsame,t1,az8,an6,u0,u2,w1];refine ⟨hjl,by omega,?_,?_,?_,?_⟩
    ·simp only[u4,if_false]
    ·simp only[u5,u1,if_false]; exact t2
    ·intro j2 hj2;have hidl:=hid id (by rw[List.length_map]);have e1:¬ j2=id:=by omega
     have e2:¬ j2=t.next:=by omega
     simp only[e1,e2,if_false];exact tj j2 hj2
    ·intro id' cs hlt' h;have h':=t3 id' cs hlt' h;have u6:¬ id'=t.next:=by omega
     by_cases e:id'=id
     ·subst e;rw[hrow] at h';simp only[if_true]; exact h'
     ·simp only[e,u6,if_false]; exact h'
   ·have hj':j=p.aa5.length:=by omega
    subst hj';have c1:¬ (p.aa5.length:Int)<p.aa5.length:=by omega
    have hgt:Grow t v 7 (p.aa5.map aa8.cs):=by
     rcases hg with h|⟨id,rfl,ho,hil⟩
     ·exact .inl h
     ·exact .inr ⟨id,rfl,t3 _ _ hil ho,by omega⟩
    have hrows:∀ id cs,id<s.next→s.obj id=some (.row cs)→t.obj id=some (.row cs):=fun id cs hlt' h=>t3 id cs (by omega) (by rw[hs2 id hlt']; exact h)
    have mm:∀ {d d':Prop} (u u2:IV) (l:List aa8),ar8 s σ.next d u u2 l→(d↔d')→ar8 t σ.next d' u u2 l:=fun u u2 l h hd=>h.mono hd (by omega) hrows
    simp only[go_sem,c1];exact ⟨rfl,⟨t2,by omega,tj⟩,⟨Grow.rows gg6 (by omega) hrows,Grow.rows gg9 (by omega) hrows,Grow.rows gg14 (by omega) hrows⟩,v7,v8,v10,v,v12,v13,t1,mm _ _ _ o7 (by simp),mm _ _ _ o8 (by simp),mm _ _ _ o10 (by simp),.inl ⟨by simp,hgt,hlo⟩,mm _ _ _ o12 (by simp),mm _ _ _ o13 (by simp)⟩
  ·have hv:v12=ab7 p.suggests:=by
    rcases o12 with ⟨h,_⟩|⟨_,h⟩
    ·exact absurd h (by omega)
    ·exact h
   rw[hv] at q0;have hfl:p.suggests.length<2^31∧∀ r∈p.suggests,r.fit∧r.count<2^31:=hf.au3 (1,p.suggests) (by simp[aa3.rows]);simp only[go_sem,bx3,q0,az8,an6,l7,nB1,nB2];refine ae3 fok34 (ao5 p.suggests _ (ab7 p.suggests) (.inl rfl) (by have:=hfl.1; omega)) ?_;rintro v s2 ⟨⟨hn2,hs2⟩,hg,hlo0⟩;refine ⟨hn2,?_⟩;have hlo:an1 σ.next v:=fun i k e h=>Nat.le_trans hnn (hlo0 i k e h)
   have hid:∀ id,v=.slice id 0 p.suggests.length 7→s.next≤id:=fun id h=>hlo0 id _ _ h
   have q02:s2.obj σ.next=some (.cells (az8 p w6 w9 w14 v7 v8 v10 v11 (ab7 p.suggests) v13)):=by rw[hs2 σ.next (by omega)]; exact q0
   have q12:s2.obj (σ.next+1)=some (.cells ag8):=by rw[hs2 (σ.next+1) (by omega)]; exact q1
   have hvl:v.leaf=true:=by rcases hg with ⟨rfl,_⟩|⟨id,rfl,_⟩<;>rfl
   have hvc:v.cs=[v]:=by rcases hg with ⟨rfl,_⟩|⟨id,rfl,_⟩<;>rfl
   have hlen:∀ s,bh7 0 s v=some (.int .i64 (p.suggests.length:Nat)):=fun s=>by
    rcases hg with ⟨rfl,he⟩|⟨id,rfl,_⟩
    ·have:p.suggests=[]:=by simpa using he
     rw[this]; rfl
    ·rw[al8,List.length_map]
   simp only[go_sem,q02,az8,an6,hvl,hvc,hlen,nB1,nB2]
   refine ac9 noT (fun j fr t=>fr=[(1,.ptr σ.next 0),(2,.ptr (σ.next+1) 0),(4,.ptr σ.next 12),(25,.aa4 (bx3 σ.next)),(26,.int .i64 6),(27,.int .i64 4),(39,v),(40,.int .i64 p.suggests.length),(41,.int .i64 j)] ∧
    s2.next≤t.next∧t.obj σ.next=some (.cells (az8 p w6 w9 w14 v7 v8 v10 v11 v v13))∧t.obj (σ.next+1)=some (.cells ag8)∧(∀ j,j<σ.next→t.obj j=σ.obj j)∧∀ id cs,id<s2.next→s2.obj id=some (.row cs)→t.obj id=some (.row cs)) p.suggests.length ⟨rfl,Nat.le_refl _,?_,?_,?_,?_⟩ ?_
   ·simp only[aa2,if_true]; rfl
   ·simp only[aa2,nB2,if_false]; exact q12
   ·intro j hj;have e1:¬ j=σ.next:=by omega
    simp only[aa2,e1,if_false];rw[hs2 j (by omega)]; exact hkj j hj
   ·intro id cs hlt' h;have:¬ id=σ.next:=fun e=>by rw[e,q02] at h; cases h
    simp only[aa2,this,if_false]; exact h
   rintro j fr t hle' ⟨rfl,t0,t1,t2,tj,t3⟩;by_cases hjl:j<p.suggests.length
   ·obtain ⟨a,ha,_,hdr,hget,_⟩:=ae9 p.suggests j hjl;rcases hg with ⟨_,he⟩|⟨id,rfl,ho,hil⟩
    ·have:p.suggests=[]:=by simpa using he
     rw[this] at hjl; cases hjl
    have hrow:=t3 _ _ hil ho;have c1:(j:Int)<p.suggests.length:=by omega
    have c2:(0:Int)≤j:=by omega
    have w1:=ag4 (i:=j) (by have:=hfl.1; omega);have hid0:¬ id=σ.next:=fun e=>by rw[e,t1] at hrow; cases hrow
    have hid1:¬ id=σ.next+1:=fun e=>by rw[e,t2] at hrow; cases hrow
    have u0:¬ σ.next=t.next:=by omega
    have u1:¬ σ.next+1=t.next:=by omega
    have u2:¬ id=t.next:=by omega
    have u3:¬ t.next=id:=by omega
    have u4:¬ σ.next=id:=fun e=>hid0 e.symm
    have u5:¬ σ.next+1=id:=fun e=>hid1 e.symm
    have hall:=fun x hx=>(af5 p.suggests x hx).1
    have hfl2:=ah3 hall;have hpart:=aj1 hall j (by rw[List.length_map]; exact hjl);rw[hget] at hpart;rw[List.length_map] at hfl2;have hin:7≤((p.suggests.map aa8.cs).flatten.drop (j*7)).length:=by rw[List.length_drop,hfl2]; omega
    have hin2:j*7+7≤(p.suggests.map aa8.cs).flatten.length:=by rw[hfl2]; omega
    have hsame:ao8 (p.suggests.map aa8.cs).flatten (j*7) a.cs=(p.suggests.map aa8.cs).flatten:=aj6 (by rw[ac1]; exact hpart) (by rw[ac1]; exact hin2);simp only[go_sem,c1,c2,hrow,hin,hpart,ac1,ac3,ae5,t1,az8,an6,u0,u2,u3,hid0];refine af2 (ag1 a (hfl.2 a ha).1) ?_;simp only[go_sem,c1,c2,hrow,hin2,ac1,ac3,hsame,t1,az8,an6,u0,u2,w1];refine ⟨hjl,by omega,?_,?_,?_,?_⟩
    ·simp only[u4,if_false]
    ·simp only[u5,u1,if_false]; exact t2
    ·intro j2 hj2;have hidl:=hid id (by rw[List.length_map]);have e1:¬ j2=id:=by omega
     have e2:¬ j2=t.next:=by omega
     simp only[e1,e2,if_false];exact tj j2 hj2
    ·intro id' cs hlt' h;have h':=t3 id' cs hlt' h;have u6:¬ id'=t.next:=by omega
     by_cases e:id'=id
     ·subst e;rw[hrow] at h';simp only[if_true]; exact h'
     ·simp only[e,u6,if_false]; exact h'
   ·have hj':j=p.suggests.length:=by omega
    subst hj';have c1:¬ (p.suggests.length:Int)<p.suggests.length:=by omega
    have hgt:Grow t v 7 (p.suggests.map aa8.cs):=by
     rcases hg with h|⟨id,rfl,ho,hil⟩
     ·exact .inl h
     ·exact .inr ⟨id,rfl,t3 _ _ hil ho,by omega⟩
    have hrows:∀ id cs,id<s.next→s.obj id=some (.row cs)→t.obj id=some (.row cs):=fun id cs hlt' h=>t3 id cs (by omega) (by rw[hs2 id hlt']; exact h)
    have mm:∀ {d d':Prop} (u u2:IV) (l:List aa8),ar8 s σ.next d u u2 l→(d↔d')→ar8 t σ.next d' u u2 l:=fun u u2 l h hd=>h.mono hd (by omega) hrows
    simp only[go_sem,c1];exact ⟨rfl,⟨t2,by omega,tj⟩,⟨Grow.rows gg6 (by omega) hrows,Grow.rows gg9 (by omega) hrows,Grow.rows gg14 (by omega) hrows⟩,v7,v8,v10,v11,v,v13,t1,mm _ _ _ o7 (by simp),mm _ _ _ o8 (by simp),mm _ _ _ o10 (by simp),mm _ _ _ o11 (by simp),.inl ⟨by simp,hgt,hlo⟩,mm _ _ _ o13 (by simp)⟩
  ·have hv:v13=ab7 p.ab2:=by
    rcases o13 with ⟨h,_⟩|⟨_,h⟩
    ·exact absurd h (by omega)
    ·exact h
   rw[hv] at q0;have hfl:p.ab2.length<2^31∧∀ r∈p.ab2,r.fit∧r.count<2^31:=hf.au3 (3,p.ab2) (by simp[aa3.rows]);simp only[go_sem,bx3,q0,az8,an6,l7,nB1,nB2];refine ae3 fok34 (ao5 p.ab2 _ (ab7 p.ab2) (.inl rfl) (by have:=hfl.1; omega)) ?_;rintro v s2 ⟨⟨hn2,hs2⟩,hg,hlo0⟩;refine ⟨hn2,?_⟩;have hlo:an1 σ.next v:=fun i k e h=>Nat.le_trans hnn (hlo0 i k e h)
   have hid:∀ id,v=.slice id 0 p.ab2.length 7→s.next≤id:=fun id h=>hlo0 id _ _ h
   have q02:s2.obj σ.next=some (.cells (az8 p w6 w9 w14 v7 v8 v10 v11 v12 (ab7 p.ab2))):=by rw[hs2 σ.next (by omega)]; exact q0
   have q12:s2.obj (σ.next+1)=some (.cells ag8):=by rw[hs2 (σ.next+1) (by omega)]; exact q1
   have hvl:v.leaf=true:=by rcases hg with ⟨rfl,_⟩|⟨id,rfl,_⟩<;>rfl
   have hvc:v.cs=[v]:=by rcases hg with ⟨rfl,_⟩|⟨id,rfl,_⟩<;>rfl
   have hlen:∀ s,bh7 0 s v=some (.int .i64 (p.ab2.length:Nat)):=fun s=>by
    rcases hg with ⟨rfl,he⟩|⟨id,rfl,_⟩
    ·have:p.ab2=[]:=by simpa using he
     rw[this]; rfl
    ·rw[al8,List.length_map]
   simp only[go_sem,q02,az8,an6,hvl,hvc,hlen,nB1,nB2]
   refine ac9 noT (fun j fr t=>fr=[(1,.ptr σ.next 0),(2,.ptr (σ.next+1) 0),(4,.ptr σ.next 13),(25,.aa4 (bx3 σ.next)),(26,.int .i64 6),(27,.int .i64 5),(39,v),(40,.int .i64 p.ab2.length),(41,.int .i64 j)] ∧
    s2.next≤t.next∧t.obj σ.next=some (.cells (az8 p w6 w9 w14 v7 v8 v10 v11 v12 v))∧t.obj (σ.next+1)=some (.cells ag8)∧(∀ j,j<σ.next→t.obj j=σ.obj j)∧∀ id cs,id<s2.next→s2.obj id=some (.row cs)→t.obj id=some (.row cs)) p.ab2.length ⟨rfl,Nat.le_refl _,?_,?_,?_,?_⟩ ?_
   ·simp only[aa2,if_true]; rfl
   ·simp only[aa2,nB2,if_false]; exact q12
   ·intro j hj;have e1:¬ j=σ.next:=by omega
    simp only[aa2,e1,if_false];rw[hs2 j (by omega)]; exact hkj j hj
   ·intro id cs hlt' h;have:¬ id=σ.next:=fun e=>by rw[e,q02] at h; cases h
    simp only[aa2,this,if_false]; exact h
   rintro j fr t hle' ⟨rfl,t0,t1,t2,tj,t3⟩;by_cases hjl:j<p.ab2.length
   ·obtain ⟨a,ha,_,hdr,hget,_⟩:=ae9 p.ab2 j hjl;rcases hg with ⟨_,he⟩|⟨id,rfl,ho,hil⟩
    ·have:p.ab2=[]:=by simpa using he
     rw[this] at hjl; cases hjl
    have hrow:=t3 _ _ hil ho;have c1:(j:Int)<p.ab2.length:=by omega
    have c2:(0:Int)≤j:=by omega
    have w1:=ag4 (i:=j) (by have:=hfl.1; omega);have hid0:¬ id=σ.next:=fun e=>by rw[e,t1] at hrow; cases hrow
    have hid1:¬ id=σ.next+1:=fun e=>by rw[e,t2] at hrow; cases hrow
    have u0:¬ σ.next=t.next:=by omega
    have u1:¬ σ.next+1=t.next:=by omega
    have u2:¬ id=t.next:=by omega
    have u3:¬ t.next=id:=by omega
    have u4:¬ σ.next=id:=fun e=>hid0 e.symm
    have u5:¬ σ.next+1=id:=fun e=>hid1 e.symm
    have hall:=fun x hx=>(af5 p.ab2 x hx).1
    have hfl2:=ah3 hall;have hpart:=aj1 hall j (by rw[List.length_map]; exact hjl);rw[hget] at hpart;rw[List.length_map] at hfl2;have hin:7≤((p.ab2.map aa8.cs).flatten.drop (j*7)).length:=by rw[List.length_drop,hfl2]; omega
    have hin2:j*7+7≤(p.ab2.map aa8.cs).flatten.length:=by rw[hfl2]; omega
    have hsame:ao8 (p.ab2.map aa8.cs).flatten (j*7) a.cs=(p.ab2.map aa8.cs).flatten:=aj6 (by rw[ac1]; exact hpart) (by rw[ac1]; exact hin2);simp only[go_sem,c1,c2,hrow,hin,hpart,ac1,ac3,ae5,t1,az8,an6,u0,u2,u3,hid0];refine af2 (ag1 a (hfl.2 a ha).1) ?_;simp only[go_sem,c1,c2,hrow,hin2,ac1,ac3,hsame,t1,az8,an6,u0,u2,w1];refine ⟨hjl,by omega,?_,?_,?_,?_⟩
    ·simp only[u4,if_false]
    ·simp only[u5,u1,if_false]; exact t2
    ·intro j2 hj2;have hidl:=hid id (by rw[List.length_map]);have e1:¬ j2=id:=by omega
     have e2:¬ j2=t.next:=by omega
     simp only[e1,e2,if_false];exact tj j2 hj2
    ·intro id' cs hlt' h;have h':=t3 id' cs hlt' h;have u6:¬ id'=t.next:=by omega
     by_cases e:id'=id
     ·subst e;rw[hrow] at h';simp only[if_true]; exact h'
     ·simp only[e,u6,if_false]; exact h'
   ·have hj':j=p.ab2.length:=by omega
    subst hj';have c1:¬ (p.ab2.length:Int)<p.ab2.length:=by omega
    have hgt:Grow t v 7 (p.ab2.map aa8.cs):=by
     rcases hg with h|⟨id,rfl,ho,hil⟩
     ·exact .inl h
     ·exact .inr ⟨id,rfl,t3 _ _ hil ho,by omega⟩
    have hrows:∀ id cs,id<s.next→s.obj id=some (.row cs)→t.obj id=some (.row cs):=fun id cs hlt' h=>t3 id cs (by omega) (by rw[hs2 id hlt']; exact h)
    have mm:∀ {d d':Prop} (u u2:IV) (l:List aa8),ar8 s σ.next d u u2 l→(d↔d')→ar8 t σ.next d' u u2 l:=fun u u2 l h hd=>h.mono hd (by omega) hrows
    simp only[go_sem,c1];exact ⟨rfl,⟨t2,by omega,tj⟩,⟨Grow.rows gg6 (by omega) hrows,Grow.rows gg9 (by omega) hrows,Grow.rows gg14 (by omega) hrows⟩,v7,v8,v10,v11,v12,v,t1,mm _ _ _ o7 (by simp),mm _ _ _ o8 (by simp),mm _ _ _ o10 (by simp),mm _ _ _ o11 (by simp),mm _ _ _ o12 (by simp),.inl ⟨by simp,hgt,hlo⟩⟩
 ·have hi':i=6:=by omega
  subst hi';have c1:¬ ((6:Nat):Int)<6:=by omega
  have x7:=o7.leaf l7;have x8:=o8.leaf rfl;have x10:=o10.leaf rfl;have x11:=o11.leaf rfl;have x12:=o12.leaf rfl;have x13:=o13.leaf rfl
  have fin:∀ {k:Nat} {v u:IV} {l:List aa8},k<6→ar8 s σ.next (k<6) v u l→Grow s v 7 (l.map aa8.cs)∧an1 σ.next v:=fun hk h=>by
   rcases h with ⟨_,h1,h2⟩|⟨h,_⟩
   ·exact ⟨h1,h2⟩
   ·exact absurd hk h
  simp only[go_sem,c1,q0,q1,az8,an6,ag8,nB1,nB2,w6l,w9l,w14l,x7,x8,x10,x11,x12,x13]
  have hput:∀ {v:IV} {e:Nat} {es:List (List IV)} {c:List IV},Grow s v e es→Grow (s.put (σ.next+1) (.cells c)) v e es:=fun {v e es c} h=>Grow.rows h (Nat.le_refl _) fun id cs _ ho=>by
   have:¬ id=σ.next+1:=fun e=>by rw[e,q1] at ho; cases ho
   simp only[aa2,this,if_false]; exact ho
  have lo3:∀ {v:IV} {m:Nat},σ.next≤m→an1 m v→an1 σ.next v:=fun hm h i k e hv=>Nat.le_trans hm (h i k e hv)
  refine ⟨w6,v7,v8,w9,v10,v11,v12,v13,w14,rfl,⟨⟨by simp only[ac4]; omega,fun j hj=>?_⟩,⟨hput gg6,lo3 (by show σ.next≤U.next+15; omega) lo6⟩,⟨hput (fin (by decide) o7).1,(fin (by decide) o7).2⟩,⟨hput (fin (by decide) o8).1,(fin (by decide) o8).2⟩,⟨hput gg9,lo3 (by omega) lo9⟩,⟨hput (fin (by decide) o10).1,(fin (by decide) o10).2⟩,⟨hput (fin (by decide) o11).1,(fin (by decide) o11).2⟩,⟨hput (fin (by decide) o12).1,(fin (by decide) o12).2⟩,⟨hput (fin (by decide) o13).1,(fin (by decide) o13).2⟩,⟨hput gg14,lo3 (by omega) lo14⟩⟩⟩;have:¬ j=σ.next+1:=by omega
  simp only[aa2,this,if_false]; exact hkj j hj
end Go.Id.Tryd
set_option linter.all false
namespace Go.Id.Tryd
open Go Go.Id Go.Proofs Go.Id.Md
def aj8 (n0:Nat)(σ s:Store):Prop:=∀ i,i<n0→s.obj i=σ.obj i
theorem aj8.refl (n0:Nat)(σ:Store):aj8 n0 σ σ:=fun _ _=>rfl
theorem aj8.trans {n0:Nat}{a b c:Store}(h:aj8 n0 a b)(g:aj8 n0 b c):aj8 n0 a c:=fun i hi=>by rw[g i hi,h i hi]
theorem aj8.put {n0:Nat}{a b:Store}(h:aj8 n0 a b){i:Nat}(hi:n0≤i)(o:ah2):aj8 n0 a (b.put i o):=fun j hj=>by
 have e:¬ j=i:=by omega
 rw[aa2,if_neg e]; exact h j hj
theorem aj8.box {n0:Nat}{a s:Store}(h:aj8 n0 a s)(hn:n0≤s.next)(A B:ah2):aj8 n0 a ⟨s.next+1,((Store.put ⟨s.next+1,s.obj⟩ s.next A).put s.next B).obj⟩:=
 aj8.put (b:=Store.put ⟨s.next+1,s.obj⟩ s.next A) (aj8.put (b:=⟨s.next+1,s.obj⟩) h hn A) hn B
theorem aj8.app {n0:Nat}{a b s1:Store}{nid esz:Nat}{v x v':IV}(h:aj8 n0 a b)(ha:aw1 b nid esz v x=some (v',s1))(hv:v=.aa1∨∃ id o n e,v=.slice id o n e∧n0≤id)(hn:n0≤nid):aj8 n0 a s1:=by
 unfold aw1 at ha
 cases hs:av9 b esz x with
 | none=>rw[hs] at ha; cases ha
 | some p=>
  obtain ⟨k,xs⟩:=p;rw[hs] at ha;simp only at ha;split at ha
  ·cases ha
  rcases hv with rfl|⟨id,o,n,e,rfl,hid⟩
  ·simp only at ha;split at ha
   ·cases ha; exact h
   split at ha
   ·cases ha; exact h.put hn _
   ·cases ha
  ·simp only at ha;split at ha
   ·split at ha
    ·cases ha; exact h
    split at ha
    ·cases ha;refine aj8.put (fun j hj=>?_) hn _;show (if j=id then none else b.obj j)=_;rw[if_neg (by omega)]; exact h j hj
    ·cases ha
   ·cases ha
structure Low (n0:Nat) (L:NmL) (rv:IV):Prop where
 row:∀ t∈L,n0≤t.2.2
 rv:rv=.aa1∨∃ id o n e,rv=.slice id o n e∧n0≤id
theorem Low.cur {n0:Nat}{L:NmL}{rv:IV}(h:Low n0 L rv)(k:Str):ch4 L k=.aa1∨∃ id o n e,ch4 L k=.slice id o n e∧n0≤id:=by
 rcases bg1 L k with ⟨h1,_⟩|⟨t,ht,_,h1,_⟩
 ·exact .inl h1
 ·exact .inr ⟨_,_,_,_,h1,h.row t ht⟩
theorem Low.upd {n0:Nat}{L:NmL}{rv rv':IV}(h:Low n0 L rv)(hk:(L.map (·.1)).Nodup)(k:Str)(n:Int){nid:Nat}(hn:n0≤nid)(hr:rv'=.aa1∨∃ id o n e,rv'=.slice id o n e∧n0≤id):Low n0 (ba1 L k n nid) rv' where
 row:=fun t ht=>by
  rcases cf3 hk t ht with ⟨h1,_⟩|rfl
  ·exact h.row t h1
  ·exact hn
 rv:=hr
def ik2 (n0:Nat)(σ:Store)(pp mid:Nat)(rows:List av6)(inst:Int)(nm:Nms)(l:List aa3)(bg3 prio:Int):IV→Store→Prop:=fun v s=>
 σ.next≤s.next∧aj8 n0 σ s∧((l.all ah9=true∧v=.int .i64 0∧∃ L rv,ax9 L=ax8 nm rows.length l∧Low n0 L rv∧PS s pp mid (rows++rowsOf l bg3 prio) inst L rv (rows.length+l.length))∨(l.all ah9=false∧v=.int .i64 4))
theorem gp9 (l:List aa3)(hl:l.length<2^20)(hf:∀ p∈l,p.Fit)(bg3 prio:Int)(σ:Store)(pp mid:Nat)(rows:List av6)(hr:rows.length<2^20)(inst:Int)(L:NmL)(rv:IV)(hp:PS σ pp mid rows inst L rv rows.length)(n0:Nat)(h0:n0≤σ.next)(h1:n0≤pp)(h2:n0≤mid)(hlo:Low n0 L rv) :
  C Tryd.prog EE 20 [.ptr pp 0,.aa4 (l.map aa3.cs),.int .i64 bg3,.int .i64 prio] σ (ik2 n0 σ pp mid rows inst (ax9 L) l bg3 prio):=by
 refine C_f fok20 (nZ rfl) ?_;simp only[ic20,go_sem]
 refine ac9 noT (fun i fr s=>fr=[(0,.ptr pp 0),(2,.int .i64 bg3),(3,.int .i64 prio),(11,.aa4 (l.map aa3.cs)),(12,.int .i64 l.length),(13,.int .i64 i)]∧σ.next≤s.next∧aj8 n0 σ s∧(l.take i).all ah9=true ∧
  ∃ L' rv',Low n0 L' rv'∧ax8 (ax9 L') (rows.length+i) (l.drop i)=ax8 (ax9 L) rows.length l∧PS s pp mid (rows++rowsOf (l.take i) bg3 prio) inst L' rv' (rows.length+i)) l.length ⟨rfl,Nat.le_refl _,.refl _ _,rfl,L,rv,hlo,rfl,by simpa [rowsOf] using hp⟩ ?_
 rintro i fr s hle ⟨rfl,hn,hke,hall,L',rv',hlw,hnm,h⟩;by_cases hlt:i<l.length
 ·obtain ⟨x,hx,_,hdr,hget,htk⟩:=ae9 l i hlt;have c1:(i:Int)<l.length:=by omega
  have c2:(0:Int)≤i:=by omega
  have w1:=ag4 (i:=i) (by omega);simp only[go_sem,c1,c2,hget,ak2,ak4,ad9];refine af2 (cf5 x (hf x hx)) ?_
  cases hm:ah9 x with
  | false=>
   have:l.all ah9=false:=by rw[List.all_eq_false]; exact ⟨x,hx,by simp[hm]⟩
   simp only[go_sem]
   exact ⟨by simp only[ac4]; omega,aj8.put (b:=Store.put ⟨s.next+1,s.obj⟩ s.next _) (aj8.put (b:=⟨s.next+1,s.obj⟩) hke (by omega) _) (by omega) _,.inr ⟨this,rfl⟩⟩
  | true=>
   generalize hS:Store.mk (s.next+1) _=S1;have hS1:S1.next=s.next+1:=by rw[← hS]
   have hk1:aj8 n0 σ S1:=by
    rw[← hS];exact aj8.put (b:=Store.put ⟨s.next+1,s.obj⟩ s.next _) (aj8.put (b:=⟨s.next+1,s.obj⟩) hke (by omega) _) (by omega) _
   have hbx:S1.obj s.next=some (.cells x.cs):=by
    rw[← hS]; simp only[aa2,if_true]
   have g1:PS S1 pp mid (rows++rowsOf (l.take i) bg3 prio) inst L' rv' (rows.length+i):=h.mono (by omega) fun j hj=>by
    have e:¬ j=s.next:=by omega
    rw[← hS]; simp only[aa2,e,if_false]
   have hlen:=cz2 (s':=⟨S1.next+21,S1.obj⟩) g1.grow
   have hrl:((rows++rowsOf (l.take i) bg3 prio).map av6.cs).length=rows.length+i:=by
    rw[List.length_map,List.length_append,rowsOf,List.length_map,List.length_take]; omega
   rw[hrl] at hlen;obtain ⟨s2,ha1,ha2,ha3,ha4,hps⟩:=g1.name x.name ((rows.length+i:Nat):Int) (S1.next+21) (S1.next+19) (by omega) (by omega) (by omega);have hlk:=go9 (σ:=⟨S1.next+21,S1.obj⟩) g1.map x.name;simp only[go_sem,Nat.add_assoc,g1.cell,hbx,hlen,dx2,hlk];rw[ha1];simp only[go_sem,Nat.add_assoc];rw[fg9 ha3 x.name ((rows.length+i:Nat):Int)];have g2:=hps (S1.next+21) (by omega);have hmb:¬ s.next=mid:=by have:=h.lt.2; omega
   have hb2:(s2.put mid (ah2.map (mEs (ba1 L' x.name ((rows.length+i:Nat):Int) (S1.next+19))))).obj s.next=some (.cells x.cs):=by
    simp only[aa2,hmb,if_false];exact ha4 _ _ (by omega) hbx
   have hn3:(s2.put mid (ah2.map (mEs (ba1 L' x.name ((rows.length+i:Nat):Int) (S1.next+19))))).next=S1.next+21:=ha2;have hk3:=(aj8.app (b:=⟨S1.next+21,S1.obj⟩) hk1 ha1 (hlw.cur _) (by omega)).put h2 (ah2.map (mEs (ba1 L' x.name ((rows.length+i:Nat):Int) (S1.next+19))));generalize s2.put mid (ah2.map (mEs (ba1 L' x.name ((rows.length+i:Nat):Int) (S1.next+19))))=S3 at *;obtain ⟨s4,hb3,hb4,hb5,hps2⟩:=g2.push ⟨x,bg3,prio⟩ (S3.next+15) (S3.next+11) (by show S1.next+21≤_; omega) (by show S1.next+21≤_; omega) (by rw[List.length_append,rowsOf,List.length_map,List.length_take]; omega);have hc3:=g2.cell;simp only at hc3 hb3;simp only[go_sem,Nat.add_assoc,hc3,hb2,ak2,ak4,ad9];refine af2 (cs7 x (hf x hx)) ?_;simp only[go_sem,Nat.add_assoc,ak2,ak4,ad9,bl1,bl2,bl3,az6,bb8,cf8,List.append_nil,List.drop_nil];rw[hb3];have hc4:s4.obj pp=some (.cells [rv',.int .i64 inst,.map mid]):=by rw[hb5]; exact hc3
   simp only[go_sem,Nat.add_assoc,hc4,w1];have hk4:=aj8.app (b:=⟨S3.next+15,S3.obj⟩) hk3 hb3 hlw.rv (by omega);have h5:=hps2 s4.next (by rw[hb4]; omega);refine ⟨hlt,by omega,hk4.put h1 _,?_,ba1 L' x.name ((rows.length+i:Nat):Int) (S1.next+19),.slice (S3.next+11) 0 ((rows++rowsOf (l.take i) bg3 prio).length+1) 17,hlw.upd h.keys _ _ (by omega) (.inr ⟨_,_,_,_,rfl,by omega⟩),?_,?_⟩
   ·rw[htk,List.all_append,hall]; simp[hm]
   rotate_left
   ·rw[htk,bj6,← List.append_assoc];exact h5
   ·rw[← hnm,hdr,ax8,cx5,← Nat.add_assoc]
 ·have hi':i=l.length:=by omega
  subst hi';have c1:¬ (l.length:Int)<l.length:=by omega
  simp only[go_sem,c1];rw[List.take_length] at hall h;rw[List.drop_length] at hnm;exact ⟨hn,hke,.inl ⟨hall,rfl,L',rv',hnm,hlw,h⟩⟩
theorem PS.iq8 {s:Store}{pp mid:Nat}{rows:List av6}{inst:Int}{L:NmL}{rv:IV}{B:Nat}(h:PS s pp mid rows inst L rv B){n0:Nat}(lw:Low n0 L rv)(hpp:n0≤pp)(hmid:n0≤mid):bm9 s n0 (.ptr pp 0) (Pool.v ⟨rows,inst,ax9 L⟩):=by
 refine .ptr pp 0 _ _ (Nat.not_lt.2 hpp) (.inl h.cell) (Nat.le_refl _) fun j hj=>?_
 have hj3:j=0∨j=1∨j=2:=by simp only[List.length_cons,List.length_nil] at hj; omega
 rcases hj3 with rfl|rfl|rfl
 ·refine h.grow.frz (fun x hx=>(cz3 rows x hx).1) (fun id hv=>(by rcases lw.rv with h1|⟨_,_,_,_,h1,h2⟩<;>(rw[h1] at hv; cases hv); exact Nat.not_lt.2 h2)) fun e he c hc=>?_
  obtain ⟨r,_,rfl⟩:=List.mem_map.1 he;exact (dx1 r c hc).weak fun _ h=>absurd h (Nat.not_lt_zero _)
 ·exact ac8 _ _
 ·have hat:∀ i,i<(mEs L).length→∃ t∈L,(mEs L).getD i (.undef,.undef)=(.str t.1,.slice t.2.2 0 t.2.1.length 1)∧(nmV (ax9 L)).getD i (.undef,.undef)=(.str t.1,.aa4 (t.2.1.map Md.ar1)):=by
   intro i hi;have hi':i<L.length:=by simpa [mEs] using hi
   exact ⟨L[i],List.getElem_mem hi',by simp[mEs,List.getD_eq_getElem?_getD,hi'],by simp[nmV,ax9,List.getD_eq_getElem?_getD,hi']⟩
  refine .map mid (mEs L) (nmV (ax9 L)) (nmV (ax9 L)) (Nat.not_lt.2 hmid) h.map (by simp[nmV,ax9,mEs]) (List.Perm.refl _) ⟨?_,.str,fun e he=>?_⟩ (fun i hi=>?_) (fun i hi=>?_)
  ·have:(nmV (ax9 L)).map (·.1)=(L.map (·.1)).map IV.str:=by simp[nmV,ax9]
   rw[this];exact List.Pairwise.map _ (fun a b hab e=>hab (by cases e; rfl)) h.keys
  ·simp only[nmV,List.mem_map] at he;obtain ⟨t,_,rfl⟩:=he;trivial
  ·obtain ⟨t,ht,e1,e2⟩:=hat i hi;rw[e1,e2]; exact ag7 _
  ·obtain ⟨t,ht,e1,e2⟩:=hat i hi;rw[e1,e2];obtain ⟨r1,r2,_⟩:=h.row t ht;have hg:Grow s (.slice t.2.2 0 t.2.1.length 1) 1 (t.2.1.map Md.ar1):=.inr ⟨t.2.2,by rw[List.length_map],r1,r2⟩;refine hg.frz (fun x hx=>(cf7 _ x hx).1) (fun id hv=>(IV.slice.inj hv).1▸Nat.not_lt.2 (lw.row t ht)) fun e he c hc=>?_
   obtain ⟨n,_,rfl⟩:=List.mem_map.1 he
   cases hc with
   | head=>exact .int _ _
   | tail _ h=>cases h
theorem cb8 {s:Store}{n0:Nat}(n:Int):bm9 s n0 (.tuple [.ad3,.int .i64 n]) (.tuple [.ad3,.int .i64 n]):=.bm2 (.cons (.keep _ .ad3) (.cons (ac8 _ _) .nil))
end Go.Id.Tryd
