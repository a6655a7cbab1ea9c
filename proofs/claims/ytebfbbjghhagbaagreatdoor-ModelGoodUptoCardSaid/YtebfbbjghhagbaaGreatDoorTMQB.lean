/- Copies. Conditions: none. -/
import Derived.Test.YtebfbbjghhagbaaGreatDoorTMPD
import Derived.Test.YtebfbbjghhagbaaGreatDoorFwQ
import Derived.Test.YtebfbbjghhagbaaGreatDoorMv
set_option linter.all false
namespace Go.Id.Tryz
open Go Go.Id Go.Proofs Go.Id.Md
def ah6 (n:Int):List IV:=[.int .i64 n]
theorem ag5 (l:List Int):Bnd 0 (.aa5 (l.map ah6)):=.aa5 _ fun e he c hc=>by
 obtain ⟨d,_,rfl⟩:=List.mem_map.1 he; cases hc with|head=>exact .int _ _|tail _ h=>cases h
theorem ak5 {es:List (List IV)}(h:Bnd 0 (.aa5 es)):∀ e∈es,∀ c∈e,Bnd 0 c:=by
 cases h with|aa5 _ h=>exact h
theorem cx7 (xs:List Dep)(hn:xs.length<=2147483648):PC Tryz.prog EE 206 [.aa5 (xs.map Dep.cs)] (.aa5 (xs.map Dep.cs)):=by
 cases hx:xs with
 | nil=>
  rw[List.map_nil];refine bm7 ?_ ?_
  ·refine ae9 hE fok206 (nZ rfl) (ae1 .aa1) ?_;simp only[ic206,go_sem,ai2];exact .bu6
  ·refine ae9 hE fok206 (nZ rfl) (ae1 .af6) ?_;simp only[ic206,go_sem,ai2];rw[bd2 (by simp only[aa7,if_true]) rfl];simp only[go_sem]
   exact .dc2 _ _ _ (by simp only[aa7,if_true]; exact fun h=>(by cases h))
 | cons a as'=>
  have hne:xs.map Dep.cs≠[]:=by rw[hx]; exact fun h=>(by cases h)
  have hall:∀ e∈xs.map Dep.cs,e.length=5/\e.all IV.leaf=true:=fun e he=>by
   obtain ⟨x,_,rfl⟩:=List.mem_map.1 he;exact ⟨ar6 x,an2 x⟩
  have hnil:bt8 (.slice 0) (.aa5 (xs.map Dep.cs))=some false:=by rw[hx]; rfl
  rw[<- hx];refine ae9 hE fok206 (nZ rfl) (ae1 (ca6 xs)) ?_;have hnil:∀ d,bt8 (.slice d) (.aa5 (xs.map Dep.cs))=some false:=fun d=>by rw[hx]; rfl
  simp only[ic206,go_sem,ai2,hnil];rw[bu9 (by simp only[aa7,if_true]) hne hall (by rw[List.length_map]; exact hn)];simp only[go_sem];refine Grow.frz (esz:=5) (es:=xs.map Dep.cs) (.inr ⟨1,by rw[List.length_map],by simp only[aa7,if_true],Nat.lt_succ_self _⟩) (fun x hx=>(hall x hx).1) (fun _ _=>Nat.not_lt_zero _) (ak5 (ca6 xs))
theorem en4 (xs:List Str)(hn:xs.length<=2147483648):PC Tryz.prog EE 207 [.aa5 (xs.map bi1)] (.aa5 (xs.map bi1)):=by
 cases hx:xs with
 | nil=>
  rw[List.map_nil];refine bm7 ?_ ?_
  ·refine ae9 hE fok207 (nZ rfl) (ae1 .aa1) ?_;simp only[ic207,go_sem,ai2];exact .bu6
  ·refine ae9 hE fok207 (nZ rfl) (ae1 .af6) ?_;simp only[ic207,go_sem,ai2];rw[bd2 (by simp only[aa7,if_true]) rfl];simp only[go_sem]
   exact .dc2 _ _ _ (by simp only[aa7,if_true]; exact fun h=>(by cases h))
 | cons a as'=>
  have hne:xs.map bi1≠[]:=by rw[hx]; exact fun h=>(by cases h)
  have hall:∀ e∈xs.map bi1,e.length=1/\e.all IV.leaf=true:=fun e he=>by
   obtain ⟨x,_,rfl⟩:=List.mem_map.1 he;exact ⟨rfl,rfl⟩
  have hnil:bt8 (.slice 0) (.aa5 (xs.map bi1))=some false:=by rw[hx]; rfl
  rw[<- hx];refine ae9 hE fok207 (nZ rfl) (ae1 (cq6 xs)) ?_;have hnil:∀ d,bt8 (.slice d) (.aa5 (xs.map bi1))=some false:=fun d=>by rw[hx]; rfl
  simp only[ic207,go_sem,ai2,hnil];rw[bu9 (by simp only[aa7,if_true]) hne hall (by rw[List.length_map]; exact hn)];simp only[go_sem];refine Grow.frz (esz:=1) (es:=xs.map bi1) (.inr ⟨1,by rw[List.length_map],by simp only[aa7,if_true],Nat.lt_succ_self _⟩) (fun x hx=>(hall x hx).1) (fun _ _=>Nat.not_lt_zero _) (ak5 (cq6 xs))
theorem ap6 (xs:List aa8):∀ e∈xs.map aa8.cs,e.length=7/\e.all IV.leaf=true:=fun e he=>by
 obtain ⟨x,_,rfl⟩:=List.mem_map.1 he;exact ⟨ac1 x,ab4 x⟩
def en5:List IV:=[.int .u8 0,.str [],.int .u8 0,.int .i64 0,.str [],.str [],.aa1]
theorem av1 (r:aa8):r.fit->PC Tryz.prog EE 209 [.agg r.cs] (.agg r.cs):=by
 induction r using aa8.ind with
 | h k d xs ih=>
  intro hf;obtain ⟨f1,f2,f3,f4,f5⟩:=aa8.bk4.1 hf;refine ae9 hE fok209 (nZ rfl) (ae1 (ag1 _)) ?_;rw[aa8.an7];simp only[ic209,go_sem,aa8.kind,aa8.dep,aa8.args,by6];refine ab7 noT (fun i fr s=>fr=[(2,.ptr 0 0),(3,.ptr 1 0),(12,.aa5 (xs.map aa8.cs)),(13,.int .i64 xs.length),(14,.int .i64 i)]/\∃ v,s.obj 0=some (.cells en5)/\s.obj 1=some (.cells [.int .u8 k,.str d.name,.int .u8 d.op,.int .i64 d.evr.am9,.str d.evr.ver,.str d.evr.rel,v])/\Grow s v 7 ((xs.take i).map aa8.cs)/\1<s.next) xs.length ⟨rfl,.aa1,?_,?_,.inl ⟨rfl,rfl⟩,?_⟩ ?_
  ·simp only[aa7,reduceCtorEq,Int.reduceLT,Int.reduceLE,Int.reduceToNat,Int.reduceAdd,Nat.reduceEqDiff,Nat.reduceAdd,Nat.reduceMul,Nat.reduceLT,Nat.reduceLeDiff,decide_true,decide_false,↓reduceIte,if_true,if_false]; rfl
  ·simp only[aa7,reduceCtorEq,Int.reduceLT,Int.reduceLE,Int.reduceToNat,Int.reduceAdd,Nat.reduceEqDiff,Nat.reduceAdd,Nat.reduceMul,Nat.reduceLT,Nat.reduceLeDiff,decide_true,decide_false,↓reduceIte,if_true,if_false]
  ·show 1<2; omega
  rintro i fr s hle ⟨rfl,v,q0,q1,hg,hn⟩;by_cases hlt:i<xs.length
  ·obtain ⟨a,ha,_,hdr,hget,htk⟩:=ae2 xs i hlt;have c1:(i:Int)<xs.length:=by omega
   have c2:(0:Int)<=i:=by omega
   have w1:=ad4 (i:=i) (by omega);have u0:¬ 1=s.next:=by omega
   have u1:¬ 0=s.next:=by omega
   simp only[go_sem,c1,c2,hget,ac1,ac6,ab4,q1,u0,by6];refine aa2 (ih a ha (f5 a ha)) ?_;simp only[go_sem,ac1,ac6,ab4]
   have hg1:Grow ⟨s.next+1+8,((Store.put ⟨s.next+1,s.obj⟩ s.next (ak4.cells en5)).put s.next (ak4.cells a.cs)).obj⟩ v 7 ((xs.take i).map aa8.cs):=hg.mono (by show s.next<=s.next+1+8; omega) fun id _ hid=>by
    have:¬ id=s.next:=by omega
    simp only[aa7,this,if_false]
   have hl0:((xs.take i).map aa8.cs).length=i:=by rw[List.length_map,List.length_take]; omega
   have ha2:=al4 (nid:=s.next+1+1+1+1+1+1) (e:=a.cs) hg1 (ap6 _) ⟨ac1 a,ab4 a⟩ (by rw[hl0]; omega);have k1:=af7 hg1 1 (.cells [.int .u8 k,.str d.name,.int .u8 d.op,.int .i64 d.evr.am9,.str d.evr.ver,.str d.evr.rel,v]) (by simp only[aa7,u0,if_false]; exact q1) (fun _ h=>by cases h);have k0:=af7 hg1 0 (.cells en5) (by simp only[aa7,u1,if_false]; exact q0) (fun _ h=>by cases h);have kn:=ad8 (σ:=⟨s.next+1+8,((Store.put ⟨s.next+1,s.obj⟩ s.next (ak4.cells en5)).put s.next (ak4.cells a.cs)).obj⟩) v;simp only[en5] at ha2 k1 k0 kn;rw[ha2,hl0];have u2:¬ 1=s.next+1+1+1+1+1+1:=by omega
   have u3:¬ 0=s.next+1+1+1+1+1+1:=by omega
   have u4:¬ s.next+1+1+1+1+1+1=1:=by omega
   simp only[go_sem,u2,k1,w1];refine ⟨hlt,_,?_,rfl,?_,?_⟩
   ·simp only[u3,if_false,en5]; exact k0
   ·rw[htk,List.map_append,List.map_cons,List.map_nil];refine .inr ⟨_,by rw[List.length_append,hl0]; rfl,?_,?_⟩
    ·simp only[aa7,u4,if_false,if_true]
    ·simp only[ab5,kn]; omega
   ·rw[kn]; show 1<s.next+1+8; omega
  ·have hi':i=xs.length:=by omega
   subst hi';have c1:¬ (xs.length:Int)<xs.length:=by omega
   rw[List.take_length] at hg
   have hvl:v.leaf=true:=by
    rcases hg with ⟨rfl,_⟩|⟨id,rfl,_⟩<;>rfl
   simp only[go_sem,c1,q0,q1,by6,en5,hvl];refine .agg _ _ rfl fun j hj=>?_
   have:j=0\/j=1\/j=2\/j=3\/j=4\/j=5\/j=6:=by
    simp only[List.length_cons,List.length_nil] at hj; omega
   rcases this with rfl|rfl|rfl|rfl|rfl|rfl|rfl
   ·exact ad9 _ _
   ·exact bi4 _
   ·exact ad9 _ _
   ·exact ad9 _ _
   ·exact bi4 _
   ·exact bi4 _
   ·have hne:∀ id,v=.slice id 0 (xs.map aa8.cs).length 7->id≠0:=fun id hv=>hg.ne hv q0 (fun _ h=>by cases h)
    refine Grow.frz (hg.mono (Nat.le_refl _) fun id hv _=>?_) (fun x hx=>(ap6 xs x hx).1) (fun _ _=>Nat.not_lt_zero _) (ak5 (aj7 xs));have:¬ id=0:=hne id hv;simp only[aa7,this,if_false]
theorem ax8 (xs:List aa8)(σ:Store)(hn:xs.length<=2147483648):C Tryz.prog EE 208 [.aa5 (xs.map aa8.cs)] σ fun v s=>(∀ i,i<σ.next->s.obj i=σ.obj i)/\σ.next<=s.next/\Grow s v 7 (xs.map aa8.cs)/\∀ id,v=.slice id 0 xs.length 7->σ.next<=id:=by
 cases hx:xs with
 | nil=>
  rw[List.map_nil];refine dp3 ?_ ?_
  ·refine C_f fok208 (nZ rfl) ?_;simp only[ic208,go_sem,ai2];exact ⟨fun _ _=>trivial,Nat.le_refl _,.inl ⟨rfl,rfl⟩,fun id h=>by cases h⟩
  ·refine C_f fok208 (nZ rfl) ?_;simp only[ic208,go_sem,ai2];rw[bd2 (by simp only[aa7,if_true]) rfl];simp only[go_sem];refine ⟨fun i hi=>?_,by omega,.inr ⟨σ.next,rfl,by simp only[aa7,if_true]; rfl,by show σ.next<σ.next+2; omega⟩,fun id h=>by cases h; exact Nat.le_refl _⟩;have:¬ i=σ.next:=by omega
   simp only[this,if_false]
 | cons a as'=>
  have hne:xs.map aa8.cs≠[]:=by rw[hx]; exact fun h=>(by cases h)
  rw[<- hx];refine C_f fok208 (nZ rfl) ?_;have hnil:∀ d,bt8 (.slice d) (.aa5 (xs.map aa8.cs))=some false:=fun d=>by rw[hx]; rfl
  simp only[ic208,go_sem,ai2,hnil];rw[bu9 (by simp only[aa7,if_true]) hne (ap6 xs) (by rw[List.length_map]; exact hn)];simp only[go_sem];refine ⟨fun i hi=>?_,by omega,.inr ⟨σ.next+1,by rw[List.length_map],by simp only[aa7,if_true],by show σ.next+1<σ.next+2; omega⟩,fun id h=>by cases h; omega⟩;have h1:¬ i=σ.next:=by omega
  have h2:¬ i=σ.next+1:=by omega
  simp only[h1,h2,if_false]
def ap7 (s:Store)(done:Prop)(v:IV)(l:List aa8):Prop:=(done/\Grow s v 7 (l.map aa8.cs))\/(¬ done/\v=ai9 l)
theorem ap7.mono {s s':Store}{done done':Prop}{v:IV}{l:List aa8}(h:ap7 s done v l)(hd:done↔done')(hn:s.next<=s'.next)(ho:∀ id cs,id<s.next->s.obj id=some (.row cs)->s'.obj id=some (.row cs)):ap7 s' done' v l:=by
 rcases h with ⟨h1,h2⟩|⟨h1,h2⟩
 ·refine .inl ⟨hd.1 h1,?_⟩;rcases h2 with h2|⟨id,hv,hr,hlt⟩
  ·exact .inl h2
  ·exact .inr ⟨id,hv,ho _ _ hlt hr,Nat.lt_of_lt_of_le hlt hn⟩
 ·exact .inr ⟨fun h=>h1 (hd.2 h),h2⟩
theorem ap7.leaf {s:Store}{done:Prop}{v:IV}{l:List aa8}(h:ap7 s done v l):v.leaf=true:=by
 rcases h with ⟨_,⟨rfl,_⟩|⟨id,rfl,_⟩⟩|⟨_,rfl⟩<;>rfl
def pcs (p:aa3)(v7 v8 v10 v11 v12 v13:IV):List IV :=
 [.str p.name,.int .i64 p.evr.am9,.str p.evr.ver,.str p.evr.rel,.int .u8 p.au2,.str p.vendor,deps p.provides,v7,v8,deps p.aa9,v10,v11,v12,v13,strs p.files]
def be1:List IV:=[.str [],.int .i64 0,.str [],.str [],.int .u8 0,.str [],.aa1,.aa1,.aa1,.aa1,.aa1,.aa1,.aa1,.aa1,.aa1]
def cl1:List (List IV):=[[.ptr 0 7],[.ptr 0 8],[.ptr 0 10],[.ptr 0 11],[.ptr 0 12],[.ptr 0 13]]
theorem dl8 (p:aa3)(hf:p.Fit):PC Tryz.prog EE 135 [.agg p.cs] (.agg p.cs):=by
 refine ae9 hE fok135 (nZ rfl) (ae1 (an3 _)) ?_;simp only[ic135,go_sem,ad1,aa3.cs,bk9];refine aa2 (cx7 p.provides (by have:=hf.av9.1; omega)) ?_;simp only[go_sem,bk9];refine aa2 (cx7 p.aa9 (by have:=hf.obs.1; omega)) ?_;simp only[go_sem,bk9];refine aa2 (en4 p.files (by have:=hf.files.1; omega)) ?_;simp only[go_sem,bk9]
 refine ab7 noT (fun i fr s=>fr=[(1,.ptr 0 0),(2,.ptr 1 0),(25,.aa5 cl1),(26,.int .i64 6),(27,.int .i64 i)]/\(s.obj 1=some (.cells be1)/\1<s.next)/\∃ v7 v8 v10 v11 v12 v13,s.obj 0=some (.cells (pcs p v7 v8 v10 v11 v12 v13)) /\
  ap7 s (0<i) v7 p.requires/\ap7 s (1<i) v8 p.conflicts/\ap7 s (2<i) v10 p.ac3/\ap7 s (3<i) v11 p.ac2/\ap7 s (4<i) v12 p.suggests/\ap7 s (5<i) v13 p.ad6) 6 ?_ ?_
 ·refine ⟨rfl,⟨?_,?_⟩,_,_,_,_,_,_,?_,.inr ⟨by omega,rfl⟩,.inr ⟨by omega,rfl⟩,.inr ⟨by omega,rfl⟩,.inr ⟨by omega,rfl⟩,.inr ⟨by omega,rfl⟩,.inr ⟨by omega,rfl⟩⟩
  ·simp only[aa7,reduceCtorEq,Int.reduceLT,Int.reduceLE,Int.reduceToNat,Int.reduceAdd,Nat.reduceEqDiff,Nat.reduceAdd,Nat.reduceMul,Nat.reduceLT,Nat.reduceLeDiff,decide_true,decide_false,↓reduceIte,if_true,if_false]; rfl
  ·simp only[ab5]; omega
  ·simp only[aa7,reduceCtorEq,Int.reduceLT,Int.reduceLE,Int.reduceToNat,Int.reduceAdd,Nat.reduceEqDiff,Nat.reduceAdd,Nat.reduceMul,Nat.reduceLT,Nat.reduceLeDiff,decide_true,decide_false,↓reduceIte,if_true,if_false]; rfl
 rintro i fr s hle ⟨rfl,⟨q1,hn⟩,v7,v8,v10,v11,v12,v13,q0,o7,o8,o10,o11,o12,o13⟩;by_cases hlt:i<6
 ·have hcase:i=0\/i=1\/i=2\/i=3\/i=4\/i=5:=by omega
  rcases hcase with rfl|rfl|rfl|rfl|rfl|rfl
  ·have hv:v7=ai9 p.requires:=by
    rcases o7 with ⟨h,_⟩|⟨_,h⟩
    ·exact absurd h (by omega)
    ·exact h
   subst hv;have hfl:p.requires.length<2^31/\∀ r∈p.requires,r.fit/\r.count<2^31:=hf.rich (1,p.requires) (by simp[aa3.rows]);simp only[go_sem,cl1,q0,pcs,bk9];refine af1 fok208 (ax8 p.requires _ (by have:=hfl.1; omega)) ?_;rintro v s2 ⟨hs2,hn2,hg,hid⟩;refine ⟨hn2,?_⟩;have q02:s2.obj 0=some (.cells (pcs p (ai9 p.requires) v8 v10 v11 v12 v13)):=by rw[hs2 0 (by omega)]; exact q0
   have q12:s2.obj 1=some (.cells be1):=by rw[hs2 1 (by omega)]; exact q1
   have hvl:v.leaf=true:=by rcases hg with ⟨rfl,_⟩|⟨id,rfl,_⟩<;>rfl
   have hvc:v.cs=[v]:=by rcases hg with ⟨rfl,_⟩|⟨id,rfl,_⟩<;>rfl
   have hlen:∀ s,cl8 0 s v=some (.int .i64 (p.requires.length:Nat)):=fun s=>by
    rcases hg with ⟨rfl,he⟩|⟨id,rfl,_⟩
    ·have:p.requires=[]:=by simpa using he
     rw[this]; rfl
    ·rw[bk2,List.length_map]
   simp only[go_sem,q02,pcs,hvl,hvc,hlen]
   refine ab7 noT (fun j fr t=>fr=[(1,.ptr 0 0),(2,.ptr 1 0),(4,.ptr 0 7),(25,.aa5 cl1),(26,.int .i64 6),(27,.int .i64 0),(39,v),(40,.int .i64 p.requires.length),(41,.int .i64 j)] /\
    s2.next<=t.next/\t.obj 0=some (.cells (pcs p v v8 v10 v11 v12 v13))/\t.obj 1=some (.cells be1)/\∀ id cs,id<s2.next->s2.obj id=some (.row cs)->t.obj id=some (.row cs)) p.requires.length ⟨rfl,Nat.le_refl _,?_,?_,?_⟩ ?_
   ·simp only[aa7,if_true]; rfl
   ·simp only[aa7,reduceCtorEq,Int.reduceLT,Int.reduceLE,Int.reduceToNat,Int.reduceAdd,Nat.reduceEqDiff,Nat.reduceAdd,Nat.reduceMul,Nat.reduceLT,Nat.reduceLeDiff,decide_true,decide_false,↓reduceIte,if_false]; exact q12
   ·intro id cs hlt' h;have:¬ id=0:=fun e=>by subst e; rw[q02] at h; cases h
    simp only[aa7,this,if_false]; exact h
   rintro j fr t hle' ⟨rfl,t0,t1,t2,t3⟩;by_cases hjl:j<p.requires.length
   ·obtain ⟨a,ha,_,hdr,hget,_⟩:=ae2 p.requires j hjl;rcases hg with ⟨_,he⟩|⟨id,rfl,ho,hil⟩
    ·have:p.requires=[]:=by simpa using he
     rw[this] at hjl; cases hjl
    have hrow:=t3 _ _ hil ho;have c1:(j:Int)<p.requires.length:=by omega
    have c2:(0:Int)<=j:=by omega
    have w1:=ad4 (i:=j) (by have:=hfl.1; omega);have hid0:¬ id=0:=fun e=>by subst e; rw[t1] at hrow; cases hrow
    have hid1:¬ id=1:=fun e=>by subst e; rw[t2] at hrow; cases hrow
    have u0:¬ 0=t.next:=by omega
    have u1:¬ 1=t.next:=by omega
    have u2:¬ id=t.next:=by omega
    have u3:¬ t.next=id:=by omega
    have u4:¬ 0=id:=by omega
    have u5:¬ 1=id:=by omega
    have hall:=fun x hx=>(ap6 p.requires x hx).1
    have hfl2:=am4 hall;have hpart:=av5 hall j (by rw[List.length_map]; exact hjl);rw[hget] at hpart;rw[List.length_map] at hfl2;have hin:7<=((p.requires.map aa8.cs).flatten.drop (j*7)).length:=by rw[List.length_drop,hfl2]; omega
    have hin2:j*7+7<=(p.requires.map aa8.cs).flatten.length:=by rw[hfl2]; omega
    have hsame:ay1 (p.requires.map aa8.cs).flatten (j*7) a.cs=(p.requires.map aa8.cs).flatten:=bg1 (by rw[ac1]; exact hpart) (by rw[ac1]; exact hin2);simp only[go_sem,c1,c2,hrow,hin,hpart,cn8,ac1,ab4,ac6,t1,pcs,u0,u2,u3,hid0];refine aa2 (av1 a (hfl.2 a ha).1) ?_;simp only[go_sem,c1,c2,hrow,hin2,cn9,ac1,ab4,hsame,t1,pcs,u0,u2,w1];refine ⟨hjl,by omega,?_,?_,?_⟩
    ·simp only[u4,if_false]
    ·simp only[u5,u1,if_false]; exact t2
    ·intro id' cs hlt' h;have h':=t3 id' cs hlt' h;have u6:¬ id'=t.next:=by omega
     by_cases e:id'=id
     ·subst e;rw[hrow] at h';simp only[if_true]; exact h'
     ·simp only[e,u6,if_false]; exact h'
   ·have hj':j=p.requires.length:=by omega
    subst hj';have c1:¬ (p.requires.length:Int)<p.requires.length:=by omega
    have hgt:Grow t v 7 (p.requires.map aa8.cs):=by
     rcases hg with h|⟨id,rfl,ho,hil⟩
     ·exact .inl h
     ·exact .inr ⟨id,rfl,t3 _ _ hil ho,by omega⟩
    have hrows:∀ id cs,id<s.next->s.obj id=some (.row cs)->t.obj id=some (.row cs):=fun id cs hlt' h=>t3 id cs (by omega) (by rw[hs2 id hlt']; exact h)
    have mm:∀ {d d':Prop} (u:IV) (l:List aa8),ap7 s d u l->(d↔d')->ap7 t d' u l:=fun u l h hd=>h.mono hd (by omega) hrows
    simp only[go_sem,c1];exact ⟨rfl,⟨t2,by omega⟩,v,v8,v10,v11,v12,v13,t1,.inl ⟨by simp,hgt⟩,mm _ _ o8 (by simp),mm _ _ o10 (by simp),mm _ _ o11 (by simp),mm _ _ o12 (by simp),mm _ _ o13 (by simp)⟩
  ·have hv:v8=ai9 p.conflicts:=by
    rcases o8 with ⟨h,_⟩|⟨_,h⟩
    ·exact absurd h (by omega)
    ·exact h
   subst hv;have hfl:p.conflicts.length<2^31/\∀ r∈p.conflicts,r.fit/\r.count<2^31:=hf.rich (2,p.conflicts) (by simp[aa3.rows]);simp only[go_sem,cl1,q0,pcs,bk9];refine af1 fok208 (ax8 p.conflicts _ (by have:=hfl.1; omega)) ?_;rintro v s2 ⟨hs2,hn2,hg,hid⟩;refine ⟨hn2,?_⟩;have q02:s2.obj 0=some (.cells (pcs p v7 (ai9 p.conflicts) v10 v11 v12 v13)):=by rw[hs2 0 (by omega)]; exact q0
   have q12:s2.obj 1=some (.cells be1):=by rw[hs2 1 (by omega)]; exact q1
   have hvl:v.leaf=true:=by rcases hg with ⟨rfl,_⟩|⟨id,rfl,_⟩<;>rfl
   have hvc:v.cs=[v]:=by rcases hg with ⟨rfl,_⟩|⟨id,rfl,_⟩<;>rfl
   have hlen:∀ s,cl8 0 s v=some (.int .i64 (p.conflicts.length:Nat)):=fun s=>by
    rcases hg with ⟨rfl,he⟩|⟨id,rfl,_⟩
    ·have:p.conflicts=[]:=by simpa using he
     rw[this]; rfl
    ·rw[bk2,List.length_map]
   simp only[go_sem,q02,pcs,hvl,hvc,hlen]
   refine ab7 noT (fun j fr t=>fr=[(1,.ptr 0 0),(2,.ptr 1 0),(4,.ptr 0 8),(25,.aa5 cl1),(26,.int .i64 6),(27,.int .i64 1),(39,v),(40,.int .i64 p.conflicts.length),(41,.int .i64 j)] /\
    s2.next<=t.next/\t.obj 0=some (.cells (pcs p v7 v v10 v11 v12 v13))/\t.obj 1=some (.cells be1)/\∀ id cs,id<s2.next->s2.obj id=some (.row cs)->t.obj id=some (.row cs)) p.conflicts.length ⟨rfl,Nat.le_refl _,?_,?_,?_⟩ ?_
   ·simp only[aa7,if_true]; rfl
   ·simp only[aa7,reduceCtorEq,Int.reduceLT,Int.reduceLE,Int.reduceToNat,Int.reduceAdd,Nat.reduceEqDiff,Nat.reduceAdd,Nat.reduceMul,Nat.reduceLT,Nat.reduceLeDiff,decide_true,decide_false,↓reduceIte,if_false]; exact q12
   ·intro id cs hlt' h;have:¬ id=0:=fun e=>by subst e; rw[q02] at h; cases h
    simp only[aa7,this,if_false]; exact h
   rintro j fr t hle' ⟨rfl,t0,t1,t2,t3⟩;by_cases hjl:j<p.conflicts.length
   ·obtain ⟨a,ha,_,hdr,hget,_⟩:=ae2 p.conflicts j hjl;rcases hg with ⟨_,he⟩|⟨id,rfl,ho,hil⟩
    ·have:p.conflicts=[]:=by simpa using he
     rw[this] at hjl; cases hjl
    have hrow:=t3 _ _ hil ho;have c1:(j:Int)<p.conflicts.length:=by omega
    have c2:(0:Int)<=j:=by omega
    have w1:=ad4 (i:=j) (by have:=hfl.1; omega);have hid0:¬ id=0:=fun e=>by subst e; rw[t1] at hrow; cases hrow
    have hid1:¬ id=1:=fun e=>by subst e; rw[t2] at hrow; cases hrow
    have u0:¬ 0=t.next:=by omega
    have u1:¬ 1=t.next:=by omega
    have u2:¬ id=t.next:=by omega
    have u3:¬ t.next=id:=by omega
    have u4:¬ 0=id:=by omega
    have u5:¬ 1=id:=by omega
    have hall:=fun x hx=>(ap6 p.conflicts x hx).1
    have hfl2:=am4 hall;have hpart:=av5 hall j (by rw[List.length_map]; exact hjl);rw[hget] at hpart;rw[List.length_map] at hfl2;have hin:7<=((p.conflicts.map aa8.cs).flatten.drop (j*7)).length:=by rw[List.length_drop,hfl2]; omega
    have hin2:j*7+7<=(p.conflicts.map aa8.cs).flatten.length:=by rw[hfl2]; omega
    have hsame:ay1 (p.conflicts.map aa8.cs).flatten (j*7) a.cs=(p.conflicts.map aa8.cs).flatten:=bg1 (by rw[ac1]; exact hpart) (by rw[ac1]; exact hin2);simp only[go_sem,c1,c2,hrow,hin,hpart,cn8,ac1,ab4,ac6,t1,pcs,u0,u2,u3,hid0];refine aa2 (av1 a (hfl.2 a ha).1) ?_;simp only[go_sem,c1,c2,hrow,hin2,cn9,ac1,ab4,hsame,t1,pcs,u0,u2,w1];refine ⟨hjl,by omega,?_,?_,?_⟩
    ·simp only[u4,if_false]
    ·simp only[u5,u1,if_false]; exact t2
    ·intro id' cs hlt' h;have h':=t3 id' cs hlt' h;have u6:¬ id'=t.next:=by omega
     by_cases e:id'=id
     ·subst e;rw[hrow] at h';simp only[if_true]; exact h'
     ·simp only[e,u6,if_false]; exact h'
   ·have hj':j=p.conflicts.length:=by omega
    subst hj';have c1:¬ (p.conflicts.length:Int)<p.conflicts.length:=by omega
    have hgt:Grow t v 7 (p.conflicts.map aa8.cs):=by
     rcases hg with h|⟨id,rfl,ho,hil⟩
     ·exact .inl h
     ·exact .inr ⟨id,rfl,t3 _ _ hil ho,by omega⟩
    have hrows:∀ id cs,id<s.next->s.obj id=some (.row cs)->t.obj id=some (.row cs):=fun id cs hlt' h=>t3 id cs (by omega) (by rw[hs2 id hlt']; exact h)
    have mm:∀ {d d':Prop} (u:IV) (l:List aa8),ap7 s d u l->(d↔d')->ap7 t d' u l:=fun u l h hd=>h.mono hd (by omega) hrows
    simp only[go_sem,c1];exact ⟨rfl,⟨t2,by omega⟩,v7,v,v10,v11,v12,v13,t1,mm _ _ o7 (by simp),.inl ⟨by simp,hgt⟩,mm _ _ o10 (by simp),mm _ _ o11 (by simp),mm _ _ o12 (by simp),mm _ _ o13 (by simp)⟩
  ·have hv:v10=ai9 p.ac3:=by
    rcases o10 with ⟨h,_⟩|⟨_,h⟩
    ·exact absurd h (by omega)
    ·exact h
   subst hv;have hfl:p.ac3.length<2^31/\∀ r∈p.ac3,r.fit/\r.count<2^31:=hf.rich (1,p.ac3) (by simp[aa3.rows]);simp only[go_sem,cl1,q0,pcs,bk9];refine af1 fok208 (ax8 p.ac3 _ (by have:=hfl.1; omega)) ?_;rintro v s2 ⟨hs2,hn2,hg,hid⟩;refine ⟨hn2,?_⟩;have q02:s2.obj 0=some (.cells (pcs p v7 v8 (ai9 p.ac3) v11 v12 v13)):=by rw[hs2 0 (by omega)]; exact q0
   have q12:s2.obj 1=some (.cells be1):=by rw[hs2 1 (by omega)]; exact q1
   have hvl:v.leaf=true:=by rcases hg with ⟨rfl,_⟩|⟨id,rfl,_⟩<;>rfl
   have hvc:v.cs=[v]:=by rcases hg with ⟨rfl,_⟩|⟨id,rfl,_⟩<;>rfl
   have hlen:∀ s,cl8 0 s v=some (.int .i64 (p.ac3.length:Nat)):=fun s=>by
    rcases hg with ⟨rfl,he⟩|⟨id,rfl,_⟩
    ·have:p.ac3=[]:=by simpa using he
     rw[this]; rfl
    ·rw[bk2,List.length_map]
   simp only[go_sem,q02,pcs,hvl,hvc,hlen]
   refine ab7 noT (fun j fr t=>fr=[(1,.ptr 0 0),(2,.ptr 1 0),(4,.ptr 0 10),(25,.aa5 cl1),(26,.int .i64 6),(27,.int .i64 2),(39,v),(40,.int .i64 p.ac3.length),(41,.int .i64 j)] /\
    s2.next<=t.next/\t.obj 0=some (.cells (pcs p v7 v8 v v11 v12 v13))/\t.obj 1=some (.cells be1)/\∀ id cs,id<s2.next->s2.obj id=some (.row cs)->t.obj id=some (.row cs)) p.ac3.length ⟨rfl,Nat.le_refl _,?_,?_,?_⟩ ?_
   ·simp only[aa7,if_true]; rfl
   ·simp only[aa7,reduceCtorEq,Int.reduceLT,Int.reduceLE,Int.reduceToNat,Int.reduceAdd,Nat.reduceEqDiff,Nat.reduceAdd,Nat.reduceMul,Nat.reduceLT,Nat.reduceLeDiff,decide_true,decide_false,↓reduceIte,if_false]; exact q12
   ·intro id cs hlt' h;have:¬ id=0:=fun e=>by subst e; rw[q02] at h; cases h
    simp only[aa7,this,if_false]; exact h
   rintro j fr t hle' ⟨rfl,t0,t1,t2,t3⟩;by_cases hjl:j<p.ac3.length
   ·obtain ⟨a,ha,_,hdr,hget,_⟩:=ae2 p.ac3 j hjl;rcases hg with ⟨_,he⟩|⟨id,rfl,ho,hil⟩
    ·have:p.ac3=[]:=by simpa using he
     rw[this] at hjl; cases hjl
    have hrow:=t3 _ _ hil ho;have c1:(j:Int)<p.ac3.length:=by omega
    have c2:(0:Int)<=j:=by omega
    have w1:=ad4 (i:=j) (by have:=hfl.1; omega);have hid0:¬ id=0:=fun e=>by subst e; rw[t1] at hrow; cases hrow
    have hid1:¬ id=1:=fun e=>by subst e; rw[t2] at hrow; cases hrow
    have u0:¬ 0=t.next:=by omega
    have u1:¬ 1=t.next:=by omega
    have u2:¬ id=t.next:=by omega
    have u3:¬ t.next=id:=by omega
    have u4:¬ 0=id:=by omega
    have u5:¬ 1=id:=by omega
    have hall:=fun x hx=>(ap6 p.ac3 x hx).1
    have hfl2:=am4 hall;have hpart:=av5 hall j (by rw[List.length_map]; exact hjl);rw[hget] at hpart;rw[List.length_map] at hfl2;have hin:7<=((p.ac3.map aa8.cs).flatten.drop (j*7)).length:=by rw[List.length_drop,hfl2]; omega
    have hin2:j*7+7<=(p.ac3.map aa8.cs).flatten.length:=by rw[hfl2]; omega
    have hsame:ay1 (p.ac3.map aa8.cs).flatten (j*7) a.cs=(p.ac3.map aa8.cs).flatten:=bg1 (by rw[ac1]; exact hpart) (by rw[ac1]; exact hin2);simp only[go_sem,c1,c2,hrow,hin,hpart,cn8,ac1,ab4,ac6,t1,pcs,u0,u2,u3,hid0];refine aa2 (av1 a (hfl.2 a ha).1) ?_;simp only[go_sem,c1,c2,hrow,hin2,cn9,ac1,ab4,hsame,t1,pcs,u0,u2,w1];refine ⟨hjl,by omega,?_,?_,?_⟩
    ·simp only[u4,if_false]
    ·simp only[u5,u1,if_false]; exact t2
    ·intro id' cs hlt' h;have h':=t3 id' cs hlt' h;have u6:¬ id'=t.next:=by omega
     by_cases e:id'=id
     ·subst e;rw[hrow] at h';simp only[if_true]; exact h'
     ·simp only[e,u6,if_false]; exact h'
   ·have hj':j=p.ac3.length:=by omega
    subst hj';have c1:¬ (p.ac3.length:Int)<p.ac3.length:=by omega
    have hgt:Grow t v 7 (p.ac3.map aa8.cs):=by
     rcases hg with h|⟨id,rfl,ho,hil⟩
     ·exact .inl h
     ·exact .inr ⟨id,rfl,t3 _ _ hil ho,by omega⟩
    have hrows:∀ id cs,id<s.next->s.obj id=some (.row cs)->t.obj id=some (.row cs):=fun id cs hlt' h=>t3 id cs (by omega) (by rw[hs2 id hlt']; exact h)
    have mm:∀ {d d':Prop} (u:IV) (l:List aa8),ap7 s d u l->(d↔d')->ap7 t d' u l:=fun u l h hd=>h.mono hd (by omega) hrows
    simp only[go_sem,c1];exact ⟨rfl,⟨t2,by omega⟩,v7,v8,v,v11,v12,v13,t1,mm _ _ o7 (by simp),mm _ _ o8 (by simp),.inl ⟨by simp,hgt⟩,mm _ _ o11 (by simp),mm _ _ o12 (by simp),mm _ _ o13 (by simp)⟩
  ·have hv:v11=ai9 p.ac2:=by
    rcases o11 with ⟨h,_⟩|⟨_,h⟩
    ·exact absurd h (by omega)
    ·exact h
   subst hv;have hfl:p.ac2.length<2^31/\∀ r∈p.ac2,r.fit/\r.count<2^31:=hf.rich (3,p.ac2) (by simp[aa3.rows]);simp only[go_sem,cl1,q0,pcs,bk9];refine af1 fok208 (ax8 p.ac2 _ (by have:=hfl.1; omega)) ?_;rintro v s2 ⟨hs2,hn2,hg,hid⟩;refine ⟨hn2,?_⟩;have q02:s2.obj 0=some (.cells (pcs p v7 v8 v10 (ai9 p.ac2) v12 v13)):=by rw[hs2 0 (by omega)]; exact q0
   have q12:s2.obj 1=some (.cells be1):=by rw[hs2 1 (by omega)]; exact q1
   have hvl:v.leaf=true:=by rcases hg with ⟨rfl,_⟩|⟨id,rfl,_⟩<;>rfl
   have hvc:v.cs=[v]:=by rcases hg with ⟨rfl,_⟩|⟨id,rfl,_⟩<;>rfl
   have hlen:∀ s,cl8 0 s v=some (.int .i64 (p.ac2.length:Nat)):=fun s=>by
    rcases hg with ⟨rfl,he⟩|⟨id,rfl,_⟩
    ·have:p.ac2=[]:=by simpa using he
     rw[this]; rfl
    ·rw[bk2,List.length_map]
   simp only[go_sem,q02,pcs,hvl,hvc,hlen]
   refine ab7 noT (fun j fr t=>fr=[(1,.ptr 0 0),(2,.ptr 1 0),(4,.ptr 0 11),(25,.aa5 cl1),(26,.int .i64 6),(27,.int .i64 3),(39,v),(40,.int .i64 p.ac2.length),(41,.int .i64 j)] /\
    s2.next<=t.next/\t.obj 0=some (.cells (pcs p v7 v8 v10 v v12 v13))/\t.obj 1=some (.cells be1)/\∀ id cs,id<s2.next->s2.obj id=some (.row cs)->t.obj id=some (.row cs)) p.ac2.length ⟨rfl,Nat.le_refl _,?_,?_,?_⟩ ?_
   ·simp only[aa7,if_true]; rfl
   ·simp only[aa7,reduceCtorEq,Int.reduceLT,Int.reduceLE,Int.reduceToNat,Int.reduceAdd,Nat.reduceEqDiff,Nat.reduceAdd,Nat.reduceMul,Nat.reduceLT,Nat.reduceLeDiff,decide_true,decide_false,↓reduceIte,if_false]; exact q12
   ·intro id cs hlt' h;have:¬ id=0:=fun e=>by subst e; rw[q02] at h; cases h
    simp only[aa7,this,if_false]; exact h
   rintro j fr t hle' ⟨rfl,t0,t1,t2,t3⟩;by_cases hjl:j<p.ac2.length
   ·obtain ⟨a,ha,_,hdr,hget,_⟩:=ae2 p.ac2 j hjl;rcases hg with ⟨_,he⟩|⟨id,rfl,ho,hil⟩
    ·have:p.ac2=[]:=by simpa using he
     rw[this] at hjl; cases hjl
    have hrow:=t3 _ _ hil ho;have c1:(j:Int)<p.ac2.length:=by omega
    have c2:(0:Int)<=j:=by omega
    have w1:=ad4 (i:=j) (by have:=hfl.1; omega);have hid0:¬ id=0:=fun e=>by subst e; rw[t1] at hrow; cases hrow
    have hid1:¬ id=1:=fun e=>by subst e; rw[t2] at hrow; cases hrow
    have u0:¬ 0=t.next:=by omega
    have u1:¬ 1=t.next:=by omega
    have u2:¬ id=t.next:=by omega
    have u3:¬ t.next=id:=by omega
    have u4:¬ 0=id:=by omega
    have u5:¬ 1=id:=by omega
    have hall:=fun x hx=>(ap6 p.ac2 x hx).1
    have hfl2:=am4 hall;have hpart:=av5 hall j (by rw[List.length_map]; exact hjl);rw[hget] at hpart;rw[List.length_map] at hfl2;have hin:7<=((p.ac2.map aa8.cs).flatten.drop (j*7)).length:=by rw[List.length_drop,hfl2]; omega
    have hin2:j*7+7<=(p.ac2.map aa8.cs).flatten.length:=by rw[hfl2]; omega
    have hsame:ay1 (p.ac2.map aa8.cs).flatten (j*7) a.cs=(p.ac2.map aa8.cs).flatten:=bg1 (by rw[ac1]; exact hpart) (by rw[ac1]; exact hin2);simp only[go_sem,c1,c2,hrow,hin,hpart,cn8,ac1,ab4,ac6,t1,pcs,u0,u2,u3,hid0];refine aa2 (av1 a (hfl.2 a ha).1) ?_;simp only[go_sem,c1,c2,hrow,hin2,cn9,ac1,ab4,hsame,t1,pcs,u0,u2,w1];refine ⟨hjl,by omega,?_,?_,?_⟩
    ·simp only[u4,if_false]
    ·simp only[u5,u1,if_false]; exact t2
    ·intro id' cs hlt' h;have h':=t3 id' cs hlt' h;have u6:¬ id'=t.next:=by omega
     by_cases e:id'=id
     ·subst e;rw[hrow] at h';simp only[if_true]; exact h'
     ·simp only[e,u6,if_false]; exact h'
   ·have hj':j=p.ac2.length:=by omega
    subst hj';have c1:¬ (p.ac2.length:Int)<p.ac2.length:=by omega
    have hgt:Grow t v 7 (p.ac2.map aa8.cs):=by
     rcases hg with h|⟨id,rfl,ho,hil⟩
     ·exact .inl h
     ·exact .inr ⟨id,rfl,t3 _ _ hil ho,by omega⟩
    have hrows:∀ id cs,id<s.next->s.obj id=some (.row cs)->t.obj id=some (.row cs):=fun id cs hlt' h=>t3 id cs (by omega) (by rw[hs2 id hlt']; exact h)
    have mm:∀ {d d':Prop} (u:IV) (l:List aa8),ap7 s d u l->(d↔d')->ap7 t d' u l:=fun u l h hd=>h.mono hd (by omega) hrows
    simp only[go_sem,c1];exact ⟨rfl,⟨t2,by omega⟩,v7,v8,v10,v,v12,v13,t1,mm _ _ o7 (by simp),mm _ _ o8 (by simp),mm _ _ o10 (by simp),.inl ⟨by simp,hgt⟩,mm _ _ o12 (by simp),mm _ _ o13 (by simp)⟩
  ·have hv:v12=ai9 p.suggests:=by
    rcases o12 with ⟨h,_⟩|⟨_,h⟩
    ·exact absurd h (by omega)
    ·exact h
   subst hv;have hfl:p.suggests.length<2^31/\∀ r∈p.suggests,r.fit/\r.count<2^31:=hf.rich (1,p.suggests) (by simp[aa3.rows]);simp only[go_sem,cl1,q0,pcs,bk9];refine af1 fok208 (ax8 p.suggests _ (by have:=hfl.1; omega)) ?_;rintro v s2 ⟨hs2,hn2,hg,hid⟩;refine ⟨hn2,?_⟩;have q02:s2.obj 0=some (.cells (pcs p v7 v8 v10 v11 (ai9 p.suggests) v13)):=by rw[hs2 0 (by omega)]; exact q0
   have q12:s2.obj 1=some (.cells be1):=by rw[hs2 1 (by omega)]; exact q1
   have hvl:v.leaf=true:=by rcases hg with ⟨rfl,_⟩|⟨id,rfl,_⟩<;>rfl
   have hvc:v.cs=[v]:=by rcases hg with ⟨rfl,_⟩|⟨id,rfl,_⟩<;>rfl
   have hlen:∀ s,cl8 0 s v=some (.int .i64 (p.suggests.length:Nat)):=fun s=>by
    rcases hg with ⟨rfl,he⟩|⟨id,rfl,_⟩
    ·have:p.suggests=[]:=by simpa using he
     rw[this]; rfl
    ·rw[bk2,List.length_map]
   simp only[go_sem,q02,pcs,hvl,hvc,hlen]
   refine ab7 noT (fun j fr t=>fr=[(1,.ptr 0 0),(2,.ptr 1 0),(4,.ptr 0 12),(25,.aa5 cl1),(26,.int .i64 6),(27,.int .i64 4),(39,v),(40,.int .i64 p.suggests.length),(41,.int .i64 j)] /\
    s2.next<=t.next/\t.obj 0=some (.cells (pcs p v7 v8 v10 v11 v v13))/\t.obj 1=some (.cells be1)/\∀ id cs,id<s2.next->s2.obj id=some (.row cs)->t.obj id=some (.row cs)) p.suggests.length ⟨rfl,Nat.le_refl _,?_,?_,?_⟩ ?_
   ·simp only[aa7,if_true]; rfl
   ·simp only[aa7,reduceCtorEq,Int.reduceLT,Int.reduceLE,Int.reduceToNat,Int.reduceAdd,Nat.reduceEqDiff,Nat.reduceAdd,Nat.reduceMul,Nat.reduceLT,Nat.reduceLeDiff,decide_true,decide_false,↓reduceIte,if_false]; exact q12
   ·intro id cs hlt' h;have:¬ id=0:=fun e=>by subst e; rw[q02] at h; cases h
    simp only[aa7,this,if_false]; exact h
   rintro j fr t hle' ⟨rfl,t0,t1,t2,t3⟩;by_cases hjl:j<p.suggests.length
   ·obtain ⟨a,ha,_,hdr,hget,_⟩:=ae2 p.suggests j hjl;rcases hg with ⟨_,he⟩|⟨id,rfl,ho,hil⟩
    ·have:p.suggests=[]:=by simpa using he
     rw[this] at hjl; cases hjl
    have hrow:=t3 _ _ hil ho;have c1:(j:Int)<p.suggests.length:=by omega
    have c2:(0:Int)<=j:=by omega
    have w1:=ad4 (i:=j) (by have:=hfl.1; omega);have hid0:¬ id=0:=fun e=>by subst e; rw[t1] at hrow; cases hrow
    have hid1:¬ id=1:=fun e=>by subst e; rw[t2] at hrow; cases hrow
    have u0:¬ 0=t.next:=by omega
    have u1:¬ 1=t.next:=by omega
    have u2:¬ id=t.next:=by omega
    have u3:¬ t.next=id:=by omega
    have u4:¬ 0=id:=by omega
    have u5:¬ 1=id:=by omega
    have hall:=fun x hx=>(ap6 p.suggests x hx).1
    have hfl2:=am4 hall;have hpart:=av5 hall j (by rw[List.length_map]; exact hjl);rw[hget] at hpart;rw[List.length_map] at hfl2;have hin:7<=((p.suggests.map aa8.cs).flatten.drop (j*7)).length:=by rw[List.length_drop,hfl2]; omega
    have hin2:j*7+7<=(p.suggests.map aa8.cs).flatten.length:=by rw[hfl2]; omega
    have hsame:ay1 (p.suggests.map aa8.cs).flatten (j*7) a.cs=(p.suggests.map aa8.cs).flatten:=bg1 (by rw[ac1]; exact hpart) (by rw[ac1]; exact hin2);simp only[go_sem,c1,c2,hrow,hin,hpart,cn8,ac1,ab4,ac6,t1,pcs,u0,u2,u3,hid0];refine aa2 (av1 a (hfl.2 a ha).1) ?_;simp only[go_sem,c1,c2,hrow,hin2,cn9,ac1,ab4,hsame,t1,pcs,u0,u2,w1];refine ⟨hjl,by omega,?_,?_,?_⟩
    ·simp only[u4,if_false]
    ·simp only[u5,u1,if_false]; exact t2
    ·intro id' cs hlt' h;have h':=t3 id' cs hlt' h;have u6:¬ id'=t.next:=by omega
     by_cases e:id'=id
     ·subst e;rw[hrow] at h';simp only[if_true]; exact h'
     ·simp only[e,u6,if_false]; exact h'
   ·have hj':j=p.suggests.length:=by omega
    subst hj';have c1:¬ (p.suggests.length:Int)<p.suggests.length:=by omega
    have hgt:Grow t v 7 (p.suggests.map aa8.cs):=by
     rcases hg with h|⟨id,rfl,ho,hil⟩
     ·exact .inl h
     ·exact .inr ⟨id,rfl,t3 _ _ hil ho,by omega⟩
    have hrows:∀ id cs,id<s.next->s.obj id=some (.row cs)->t.obj id=some (.row cs):=fun id cs hlt' h=>t3 id cs (by omega) (by rw[hs2 id hlt']; exact h)
    have mm:∀ {d d':Prop} (u:IV) (l:List aa8),ap7 s d u l->(d↔d')->ap7 t d' u l:=fun u l h hd=>h.mono hd (by omega) hrows
    simp only[go_sem,c1];exact ⟨rfl,⟨t2,by omega⟩,v7,v8,v10,v11,v,v13,t1,mm _ _ o7 (by simp),mm _ _ o8 (by simp),mm _ _ o10 (by simp),mm _ _ o11 (by simp),.inl ⟨by simp,hgt⟩,mm _ _ o13 (by simp)⟩
  ·have hv:v13=ai9 p.ad6:=by
    rcases o13 with ⟨h,_⟩|⟨_,h⟩
    ·exact absurd h (by omega)
    ·exact h
   subst hv;have hfl:p.ad6.length<2^31/\∀ r∈p.ad6,r.fit/\r.count<2^31:=hf.rich (3,p.ad6) (by simp[aa3.rows]);simp only[go_sem,cl1,q0,pcs,bk9];refine af1 fok208 (ax8 p.ad6 _ (by have:=hfl.1; omega)) ?_;rintro v s2 ⟨hs2,hn2,hg,hid⟩;refine ⟨hn2,?_⟩;have q02:s2.obj 0=some (.cells (pcs p v7 v8 v10 v11 v12 (ai9 p.ad6))):=by rw[hs2 0 (by omega)]; exact q0
   have q12:s2.obj 1=some (.cells be1):=by rw[hs2 1 (by omega)]; exact q1
   have hvl:v.leaf=true:=by rcases hg with ⟨rfl,_⟩|⟨id,rfl,_⟩<;>rfl
   have hvc:v.cs=[v]:=by rcases hg with ⟨rfl,_⟩|⟨id,rfl,_⟩<;>rfl
   have hlen:∀ s,cl8 0 s v=some (.int .i64 (p.ad6.length:Nat)):=fun s=>by
    rcases hg with ⟨rfl,he⟩|⟨id,rfl,_⟩
    ·have:p.ad6=[]:=by simpa using he
     rw[this]; rfl
    ·rw[bk2,List.length_map]
   simp only[go_sem,q02,pcs,hvl,hvc,hlen]
   refine ab7 noT (fun j fr t=>fr=[(1,.ptr 0 0),(2,.ptr 1 0),(4,.ptr 0 13),(25,.aa5 cl1),(26,.int .i64 6),(27,.int .i64 5),(39,v),(40,.int .i64 p.ad6.length),(41,.int .i64 j)] /\
    s2.next<=t.next/\t.obj 0=some (.cells (pcs p v7 v8 v10 v11 v12 v))/\t.obj 1=some (.cells be1)/\∀ id cs,id<s2.next->s2.obj id=some (.row cs)->t.obj id=some (.row cs)) p.ad6.length ⟨rfl,Nat.le_refl _,?_,?_,?_⟩ ?_
   ·simp only[aa7,if_true]; rfl
   ·simp only[aa7,reduceCtorEq,Int.reduceLT,Int.reduceLE,Int.reduceToNat,Int.reduceAdd,Nat.reduceEqDiff,Nat.reduceAdd,Nat.reduceMul,Nat.reduceLT,Nat.reduceLeDiff,decide_true,decide_false,↓reduceIte,if_false]; exact q12
   ·intro id cs hlt' h;have:¬ id=0:=fun e=>by subst e; rw[q02] at h; cases h
    simp only[aa7,this,if_false]; exact h
   rintro j fr t hle' ⟨rfl,t0,t1,t2,t3⟩;by_cases hjl:j<p.ad6.length
   ·obtain ⟨a,ha,_,hdr,hget,_⟩:=ae2 p.ad6 j hjl;rcases hg with ⟨_,he⟩|⟨id,rfl,ho,hil⟩
    ·have:p.ad6=[]:=by simpa using he
     rw[this] at hjl; cases hjl
    have hrow:=t3 _ _ hil ho;have c1:(j:Int)<p.ad6.length:=by omega
    have c2:(0:Int)<=j:=by omega
    have w1:=ad4 (i:=j) (by have:=hfl.1; omega);have hid0:¬ id=0:=fun e=>by subst e; rw[t1] at hrow; cases hrow
    have hid1:¬ id=1:=fun e=>by subst e; rw[t2] at hrow; cases hrow
    have u0:¬ 0=t.next:=by omega
    have u1:¬ 1=t.next:=by omega
    have u2:¬ id=t.next:=by omega
    have u3:¬ t.next=id:=by omega
    have u4:¬ 0=id:=by omega
    have u5:¬ 1=id:=by omega
    have hall:=fun x hx=>(ap6 p.ad6 x hx).1
    have hfl2:=am4 hall;have hpart:=av5 hall j (by rw[List.length_map]; exact hjl);rw[hget] at hpart;rw[List.length_map] at hfl2;have hin:7<=((p.ad6.map aa8.cs).flatten.drop (j*7)).length:=by rw[List.length_drop,hfl2]; omega
    have hin2:j*7+7<=(p.ad6.map aa8.cs).flatten.length:=by rw[hfl2]; omega
    have hsame:ay1 (p.ad6.map aa8.cs).flatten (j*7) a.cs=(p.ad6.map aa8.cs).flatten:=bg1 (by rw[ac1]; exact hpart) (by rw[ac1]; exact hin2);simp only[go_sem,c1,c2,hrow,hin,hpart,cn8,ac1,ab4,ac6,t1,pcs,u0,u2,u3,hid0];refine aa2 (av1 a (hfl.2 a ha).1) ?_;simp only[go_sem,c1,c2,hrow,hin2,cn9,ac1,ab4,hsame,t1,pcs,u0,u2,w1];refine ⟨hjl,by omega,?_,?_,?_⟩
    ·simp only[u4,if_false]
    ·simp only[u5,u1,if_false]; exact t2
    ·intro id' cs hlt' h;have h':=t3 id' cs hlt' h;have u6:¬ id'=t.next:=by omega
     by_cases e:id'=id
     ·subst e;rw[hrow] at h';simp only[if_true]; exact h'
     ·simp only[e,u6,if_false]; exact h'
   ·have hj':j=p.ad6.length:=by omega
    subst hj';have c1:¬ (p.ad6.length:Int)<p.ad6.length:=by omega
    have hgt:Grow t v 7 (p.ad6.map aa8.cs):=by
     rcases hg with h|⟨id,rfl,ho,hil⟩
     ·exact .inl h
     ·exact .inr ⟨id,rfl,t3 _ _ hil ho,by omega⟩
    have hrows:∀ id cs,id<s.next->s.obj id=some (.row cs)->t.obj id=some (.row cs):=fun id cs hlt' h=>t3 id cs (by omega) (by rw[hs2 id hlt']; exact h)
    have mm:∀ {d d':Prop} (u:IV) (l:List aa8),ap7 s d u l->(d↔d')->ap7 t d' u l:=fun u l h hd=>h.mono hd (by omega) hrows
    simp only[go_sem,c1];exact ⟨rfl,⟨t2,by omega⟩,v7,v8,v10,v11,v12,v,t1,mm _ _ o7 (by simp),mm _ _ o8 (by simp),mm _ _ o10 (by simp),mm _ _ o11 (by simp),mm _ _ o12 (by simp),.inl ⟨by simp,hgt⟩⟩
 ·have hi':i=6:=by omega
  subst hi';have c1:¬ ((6:Nat):Int)<6:=by omega
  simp only[go_sem,c1,q0,q1,pcs,be1,by6,o7.leaf,o8.leaf,o10.leaf,o11.leaf,o12.leaf,o13.leaf]
  have fz:∀ (v:IV) (l:List aa8) (k:Nat) (s':Store),k<6->ap7 s (k<6) v l->(∀ id cs,s.obj id=some (.row cs)->s'.obj id=some (.row cs))->s.next<=s'.next->bt7 s' 0 v (ai9 l):=by
   intro v l k s' hk ho h1 h2;rcases ho.mono Iff.rfl h2 (fun id cs _ h=>h1 id cs h) with ⟨_,h⟩|⟨h,_⟩
   ·exact h.frz (fun x hx=>(ap6 l x hx).1) (fun _ _=>Nat.not_lt_zero _) (ak5 (aj7 l))
   ·exact absurd hk h
  have hr:∀ id cs,s.obj id=some (.row cs)->(s.put 1 (ak4.cells (pcs p v7 v8 v10 v11 v12 v13))).obj id=some (.row cs):=fun id cs h=>by
   have:¬ id=1:=fun e=>by subst e; rw[q1] at h; cases h
   simp only[aa7,this,if_false]; exact h
  have b1:=fun v hv=>Frz.keep (σ:=s.put 1 (ak4.cells (pcs p v7 v8 v10 v11 v12 v13))) (S:=fun i=>i<0) v hv
  exact .il8 (.cons (bi4 _) (.cons (ad9 _ _) (.cons (bi4 _) (.cons (bi4 _) (.cons (ad9 _ _) (.cons (bi4 _) (.cons (b1 _ (ca6 _))
   (.cons (fz v7 _ 0 _ (by omega) o7 hr (Nat.le_refl _)) (.cons (fz v8 _ 1 _ (by omega) o8 hr (Nat.le_refl _)) (.cons (b1 _ (ca6 _)) (.cons (fz v10 _ 2 _ (by omega) o10 hr (Nat.le_refl _)) (.cons (fz v11 _ 3 _ (by omega) o11 hr (Nat.le_refl _))
   (.cons (fz v12 _ 4 _ (by omega) o12 hr (Nat.le_refl _)) (.cons (fz v13 _ 5 _ (by omega) o13 hr (Nat.le_refl _)) (.cons (b1 _ (cq6 _)) .nil)))))))))))))))
end Go.Id.Tryz
set_option linter.all false
namespace Go.Id.Tryz
open Go Go.Id Go.Proofs Go.Id.Md
theorem bs8 (r:bd9):r.cs.length=17:=by unfold bd9.cs; rw[List.length_append]; rfl
theorem cx9 (r:bd9):r.cs.all IV.leaf=true:=by unfold bd9.cs; rw[List.all_append]; rfl
theorem ew3 (r:bd9):∀ c∈r.cs,Bnd 0 c:=by
 intro c hc;unfold bd9.cs at hc;rcases List.mem_append.1 hc with h|h
 ·exact az5 _ c h
 ·simp only[List.mem_cons,List.not_mem_nil,or_false] at h;rcases h with rfl|rfl<;>exact .int _ _
theorem dt5 {s s':Store}{v:IV}{esz:Nat}{es:List (List IV)}(h:Grow s v esz es):cl8 0 s' v=some (.int .i64 es.length):=by
 rcases h with ⟨rfl,rfl⟩|⟨id,rfl,_⟩<;>rfl
theorem gh8 {s:Store}{v:IV}{esz:Nat}{es:List (List IV)}(h:Grow s v esz es):v.leaf=true:=by
 rcases h with ⟨rfl,rfl⟩|⟨id,rfl,_⟩<;>rfl
theorem ih9 {s:Store}{v:IV}{esz:Nat}{es:List (List IV)}(h:Grow s v esz es):v.cs=[v]:=by
 rcases h with ⟨rfl,rfl⟩|⟨id,rfl,_⟩<;>rfl
structure PS (s:Store) (pp mid:Nat) (rows:List bd9) (inst:Int) (L:NmL) (rv:IV) (B:Nat):Prop where
 cell:s.obj pp=some (.cells [rv,.int .i64 inst,.map mid])
 grow:Grow s rv 17 (rows.map bd9.cs)
 map:s.obj mid=some (.map (mEs L))
 row:∀ t∈L,s.obj t.2.2=some (.row (t.2.1.map ah6).flatten)/\t.2.2<s.next/\t.2.1.length<=B
 ids:(L.map (·.2.2)).Nodup
 keys:(L.map (·.1)).Nodup
 ne:∀ id n,rv=.slice id 0 n 17->∀ t∈L,t.2.2≠id
 lt:pp<s.next/\mid<s.next
theorem PS.mono {s s':Store}{pp mid:Nat}{rows:List bd9}{inst:Int}{L:NmL}{rv:IV}{B:Nat}(h:PS s pp mid rows inst L rv B)(hn:s.next<=s'.next)(ho:∀ i,i<s.next->s'.obj i=s.obj i):PS s' pp mid rows inst L rv B where
 cell:=by rw[ho _ h.lt.1]; exact h.cell
 grow:=h.grow.mono hn fun id _ hid=>ho id hid
 map:=by rw[ho _ h.lt.2]; exact h.map
 row:=fun t ht=>⟨by rw[ho _ (h.row t ht).2.1]; exact (h.row t ht).1,by have:=(h.row t ht).2.1; omega,(h.row t ht).2.2⟩
 ids:=h.ids
 keys:=h.keys
 ne:=h.ne
 lt:=⟨by have:=h.lt.1; omega,by have:=h.lt.2; omega⟩
theorem bw1 (l:List Int):∀ e∈l.map Md.ah6,e.length=1/\e.all IV.leaf=true:=fun e he=>by
 obtain ⟨x,_,rfl⟩:=List.mem_map.1 he;exact ⟨rfl,rfl⟩
theorem ew4 (l:List bd9):∀ e∈l.map bd9.cs,e.length=17/\e.all IV.leaf=true:=fun e he=>by
 obtain ⟨x,_,rfl⟩:=List.mem_map.1 he;exact ⟨bs8 x,cx9 x⟩
theorem PS.name {s:Store}{pp mid:Nat}{rows:List bd9}{inst:Int}{L:NmL}{rv:IV}{B:Nat}(h:PS s pp mid rows inst L rv B)(k:Str)(n:Int)(m nid:Nat)(hm:s.next<=m)(hnew:s.next<=nid)(hb:B<2^30) :
  ∃ s1,bf6 ⟨m,s.obj⟩ nid 1 (cu5 L k) (.aa5 [[.int .i64 n]])=some (.slice nid 0 ((cb9 L k).length+1) 1,s1)/\s1.next=m/\s1.obj mid=some (.map (mEs L))/\(∀ i cs,i<s.next->s.obj i=some (.cells cs)->s1.obj i=some (.cells cs)) /\
   ∀ nx,nid<nx->PS ⟨nx,(s1.put mid (.map (mEs (bc7 L k n nid)))).obj⟩ pp mid rows inst (bc7 L k n nid) rv (B+1):=by
 have hg0:Grow s (cu5 L k) 1 ((cb9 L k).map Md.ah6):=by
  rcases by8 L k with ⟨h1,h2⟩|⟨t,ht,_,h1,h2⟩
  ·rw[h1,h2]; exact .inl ⟨rfl,rfl⟩
  ·rw[h1,h2]; exact .inr ⟨t.2.2,by rw[List.length_map],(h.row t ht).1,(h.row t ht).2.1⟩
 have hg:Grow ⟨m,s.obj⟩ (cu5 L k) 1 ((cb9 L k).map Md.ah6):=Grow.mono (σ:=s) hg0 hm fun _ _ _=>rfl
 have hlen:(cb9 L k).length<=B:=by
  rcases by8 L k with ⟨h1,h2⟩|⟨t,ht,_,h1,h2⟩
  ·rw[h2]; exact Nat.zero_le _
  ·rw[h2]; exact (h.row t ht).2.2
 have hap:=al4 (nid:=nid) (e:=[.int .i64 n]) hg (bw1 _) ⟨rfl,rfl⟩ (by rw[List.length_map]; omega);rw[List.length_map] at hap;have hmid:¬ mid=nid:=by have:=h.lt.2; omega
 have hpp:¬ pp=nid:=by have:=h.lt.1; omega
 have hpm:¬ pp=mid:=fun e=>by have h1:=h.cell; have h2:=h.map; rw[e,h2] at h1; cases h1
 have km:=af7 hg mid _ h.map (fun _ e=>by cases e);have kp:=af7 hg pp _ h.cell (fun _ e=>by cases e)
 have kother:∀ i cs,s.obj i=some (.row cs)->(∀ t∈L,t.1=k->t.2.2≠i)->(ai7 (cu5 L k) ⟨m,s.obj⟩).obj i=some (.row cs):=by
  intro i cs hi hne;rcases by8 L k with ⟨h1,_⟩|⟨t,ht,hk,h1,_⟩
  ·rw[h1]; exact hi
  ·rw[h1];show (if i=t.2.2 then none else s.obj i)=_;rw[if_neg (fun e=>hne t ht hk e.symm)]; exact hi
 refine ⟨_,hap,by rw[ab5,ad8],by rw[aa7,if_neg hmid]; exact km,fun i cs hi h=>by rw[aa7,if_neg (by omega)]; exact af7 hg i _ h (fun _ e=>by cases e),fun nx hnx=>?_⟩;have hrow_ne_mid:∀ i cs,s.obj i=some (.row cs)->¬ i=mid:=fun i cs hi e=>by subst e; rw[h.map] at hi; cases hi
 exact {
  cell:=by
   show (if pp=mid then _ else if pp=nid then _ else (ai7 (cu5 L k) ⟨m,s.obj⟩).obj pp)=_;rw[if_neg hpm,if_neg hpp]; exact kp
  grow:=by
   rcases h.grow with h1|⟨id,hv,ho,hlt⟩
   ·exact .inl h1
   ·refine .inr ⟨id,hv,?_,by show id<nx; omega⟩;show (if id=mid then _ else if id=nid then _ else (ai7 (cu5 L k) ⟨m,s.obj⟩).obj id)=_;rw[if_neg (hrow_ne_mid _ _ ho),if_neg (by omega)];exact kother id _ ho fun t ht _=>h.ne id _ hv t ht
  map:=by
   show (if mid=mid then _ else _)=_;rw[if_pos rfl]
  row:=by
   intro t ht;rcases dq4 h.keys t ht with ⟨h1,h2⟩|rfl
   ·obtain ⟨r1,r2,r3⟩:=h.row t h1;refine ⟨?_,by show t.2.2<nx; omega,by omega⟩;show (if t.2.2=mid then _ else if t.2.2=nid then _ else (ai7 (cu5 L k) ⟨m,s.obj⟩).obj t.2.2)=_;rw[if_neg (hrow_ne_mid _ _ r1),if_neg (by omega)];exact kother _ _ r1 fun u hu hk e=>h2 (by rw[<- gb9 h.keys h.ids u hu t h1 e]; exact hk)
   ·refine ⟨?_,hnx,?_⟩
    ·show (if nid=mid then _ else if nid=nid then _ else _)=_;rw[if_neg (fun e=>hmid e.symm),if_pos rfl,List.map_append];rfl
    ·show (cb9 L k++[n]).length<=B+1;rw[List.length_append]; simp; exact hlen
  ids:=(gb8 L h.ids (fun hm=>by
   obtain ⟨t,ht,e⟩:=List.mem_map.1 hm;have:=(h.row t ht).2.1;have e':t.2.2=nid:=e;omega)).1
  keys:=(es8 L h.keys).1
  ne:=by
   intro id m hv t ht;rcases dq4 h.keys t ht with ⟨h1,h2⟩|rfl
   ·exact h.ne id m hv t h1
   ·rcases h.grow with ⟨h1,_⟩|⟨id',hv',ho,hlt⟩
    ·rw[h1] at hv; cases hv
    ·rw[hv'] at hv;cases hv;show nid≠id;omega
  lt:=⟨by have:=h.lt.1; show pp<nx; omega,by have:=h.lt.2; show mid<nx; omega⟩ }
theorem hb7 {σ:Store}{mid:Nat}{L:NmL}(h:σ.obj mid=some (.map (mEs L)))(k:Str):cr3 σ 2 .aa1 false (.map mid) (.str k)=some (cu5 L k):=by
 obtain ⟨r,h1,h2⟩:=id9 L k;simp only[cr3,cc2,h,h1,h2,Bool.false_eq_true,if_false]
theorem ew5 {σ:Store}{mid:Nat}{L:NmL}(h:σ.obj mid=some (.map (mEs L)))(k:Str)(n:Int)(nid:Nat):at6 σ 2 (.map mid) (.str k) (.slice nid 0 ((cb9 L k).length+1) 1)=some (σ.put mid (.map (mEs (bc7 L k n nid)))):=by
 simp only[at6,h,jh6 L k n nid,Option.map]
theorem ew6 (x:aa3):x.cs.head? = some (.str x.name):=rfl
theorem bl1 (x:aa3):(x.cs++[IV.int .i64 0,IV.int .i64 0]).length=17:=rfl
theorem bl2 (x:aa3)(a:Int):(ay1 (x.cs++[IV.int .i64 0,IV.int .i64 0]) 15 [IV.int .i64 a]).length=17:=rfl
theorem bl3 (x:aa3)(a b:Int):ay1 (ay1 (x.cs++[IV.int .i64 0,IV.int .i64 0]) 15 [IV.int .i64 a]) 16 [IV.int .i64 b]=(bd9.mk x a b).cs:=rfl
theorem gh9 (r:bd9):r.cs.take 17=r.cs:=List.take_of_length_le (by rw[bs8]; exact Nat.le_refl _)
theorem PS.push {s:Store}{pp mid:Nat}{rows:List bd9}{inst:Int}{L:NmL}{rv:IV}{B:Nat}(h:PS s pp mid rows inst L rv B)(r:bd9)(m nid:Nat)(hm:s.next<=m)(hnew:s.next<=nid)(hb:rows.length<2^30) :
  ∃ s1,bf6 ⟨m,s.obj⟩ nid 17 rv (.aa5 [r.cs])=some (.slice nid 0 (rows.length+1) 17,s1)/\s1.next=m/\s1.obj pp=s.obj pp /\
   ∀ nx,nid<nx->PS ⟨nx,(s1.put pp (.cells [.slice nid 0 (rows.length+1) 17,.int .i64 inst,.map mid])).obj⟩ pp mid (rows++[r]) inst L (.slice nid 0 (rows.length+1) 17) B:=by
 have hg:Grow ⟨m,s.obj⟩ rv 17 (rows.map bd9.cs):=Grow.mono (σ:=s) h.grow hm fun _ _ _=>rfl
 have hap:=al4 (nid:=nid) (e:=r.cs) hg (ew4 rows) ⟨bs8 r,cx9 r⟩ (by rw[List.length_map]; omega);rw[List.length_map] at hap;have hmid:¬ mid=nid:=by have:=h.lt.2; omega
 have hpp:¬ pp=nid:=by have:=h.lt.1; omega
 have hmp:¬ mid=pp:=fun e=>by have h1:=h.cell; have h2:=h.map; rw[<- e,h2] at h1; cases h1
 have km:=af7 hg mid _ h.map (fun _ e=>by cases e);have kp:=af7 hg pp _ h.cell (fun _ e=>by cases e);refine ⟨_,hap,by rw[ab5,ad8],by rw[aa7,if_neg hpp,kp,h.cell],fun nx hnx=>?_⟩
 exact {
  cell:=by
   show (if pp=pp then _ else _)=_;rw[if_pos rfl]
  grow:=by
   refine .inr ⟨nid,by rw[List.map_append,List.length_append,List.length_map]; rfl,?_,hnx⟩;show (if nid=pp then _ else if nid=nid then _ else _)=_;rw[if_neg (fun e=>hpp e.symm),if_pos rfl,List.map_append]; rfl
  map:=by
   show (if mid=pp then _ else if mid=nid then _ else (ai7 rv ⟨m,s.obj⟩).obj mid)=_;rw[if_neg hmp,if_neg hmid]; exact km
  row:=by
   intro t ht;obtain ⟨r1,r2,r3⟩:=h.row t ht;refine ⟨?_,by show t.2.2<nx; omega,r3⟩;have e1:¬ t.2.2=pp:=fun e=>by rw[e,h.cell] at r1; cases r1
   show (if t.2.2=pp then _ else if t.2.2=nid then _ else (ai7 rv ⟨m,s.obj⟩).obj t.2.2)=_;rw[if_neg e1,if_neg (by omega)];rcases h.grow with ⟨hv,_⟩|⟨id,hv,ho,hlt⟩
   ·rw[hv]; exact r1
   ·rw[hv];show (if t.2.2=id then none else s.obj t.2.2)=_;rw[if_neg (h.ne id _ hv t ht)]; exact r1
  ids:=h.ids
  keys:=h.keys
  ne:=by
   intro id m hv t ht;cases hv;have:=(h.row t ht).2.1;omega
  lt:=⟨by have:=h.lt.1; show pp<nx; omega,by have:=h.lt.2; show mid<nx; omega⟩ }
def jp9 (n pp mid:Nat)(rows:List bd9)(inst:Int)(nm:Nms)(l:List aa3)(es9 prio:Int):IV->Store->Prop:=fun v s=>
 n<=s.next/\((l.all ag2=true/\v=.int .i64 0/\∃ L rv,bb6 L=co1 nm rows.length l/\PS s pp mid (rows++rowsOf l es9 prio) inst L rv (rows.length+l.length))\/(l.all ag2=false/\v=.int .i64 4))
theorem iy3 (l:List aa3)(hl:l.length<2^20)(hf:∀ p∈l,p.Fit)(es9 prio:Int)(σ:Store)(pp mid:Nat)(rows:List bd9)(hr:rows.length<2^20)(inst:Int)(L:NmL)(rv:IV)(hp:PS σ pp mid rows inst L rv rows.length) :
  C Tryz.prog EE 78 [.ptr pp 0,.aa5 (l.map aa3.cs),.int .i64 es9,.int .i64 prio] σ (jp9 σ.next pp mid rows inst (bb6 L) l es9 prio):=by
 refine C_f fok78 (nZ rfl) ?_;simp only[ic78,go_sem]
 refine ab7 noT (fun i fr s=>fr=[(0,.ptr pp 0),(2,.int .i64 es9),(3,.int .i64 prio),(11,.aa5 (l.map aa3.cs)),(12,.int .i64 l.length),(13,.int .i64 i)]/\σ.next<=s.next/\(l.take i).all ag2=true /\
  ∃ L' rv',co1 (bb6 L') (rows.length+i) (l.drop i)=co1 (bb6 L) rows.length l/\PS s pp mid (rows++rowsOf (l.take i) es9 prio) inst L' rv' (rows.length+i)) l.length ⟨rfl,Nat.le_refl _,rfl,L,rv,rfl,by simpa [rowsOf] using hp⟩ ?_
 rintro i fr s hle ⟨rfl,hn,hall,L',rv',hnm,h⟩;by_cases hlt:i<l.length
 ·obtain ⟨x,hx,_,hdr,hget,htk⟩:=ae2 l i hlt;have c1:(i:Int)<l.length:=by omega
  have c2:(0:Int)<=i:=by omega
  have w1:=ad4 (i:=i) (by omega);simp only[go_sem,c1,c2,hget,ag9,ah2,ad1];refine aa2 (gh2 x (hf x hx)) ?_
  cases hm:ag2 x with
  | false=>
   have:l.all ag2=false:=by rw[List.all_eq_false]; exact ⟨x,hx,by simp[hm]⟩
   simp only[go_sem]
   exact ⟨by simp only[ab5]; omega,.inr ⟨this,rfl⟩⟩
  | true=>
   generalize hS:Store.mk (s.next+1) _=S1;have hS1:S1.next=s.next+1:=by rw[<- hS]
   have hbx:S1.obj s.next=some (.cells x.cs):=by
    rw[<- hS]; simp only[aa7,if_true]
   have h1:PS S1 pp mid (rows++rowsOf (l.take i) es9 prio) inst L' rv' (rows.length+i):=h.mono (by omega) fun j hj=>by
    have e:¬ j=s.next:=by omega
    rw[<- hS]; simp only[aa7,e,if_false]
   have hlen:=dt5 (s':=⟨S1.next+21,S1.obj⟩) h1.grow
   have hrl:((rows++rowsOf (l.take i) es9 prio).map bd9.cs).length=rows.length+i:=by
    rw[List.length_map,List.length_append,rowsOf,List.length_map,List.length_take]; omega
   rw[hrl] at hlen;obtain ⟨s2,ha1,ha2,ha3,ha4,hps⟩:=h1.name x.name ((rows.length+i:Nat):Int) (S1.next+21) (S1.next+19) (by omega) (by omega) (by omega);have hlk:=hb7 (σ:=⟨S1.next+21,S1.obj⟩) h1.map x.name;simp only[go_sem,Nat.add_assoc,h1.cell,hbx,hlen,ew6,hlk];rw[ha1];simp only[go_sem,Nat.add_assoc];rw[ew5 ha3 x.name ((rows.length+i:Nat):Int)];have h2:=hps (S1.next+21) (by omega);have hmb:¬ s.next=mid:=by have:=h.lt.2; omega
   have hb2:(s2.put mid (ak4.map (mEs (bc7 L' x.name ((rows.length+i:Nat):Int) (S1.next+19))))).obj s.next=some (.cells x.cs):=by
    simp only[aa7,hmb,if_false];exact ha4 _ _ (by omega) hbx
   have hn3:(s2.put mid (ak4.map (mEs (bc7 L' x.name ((rows.length+i:Nat):Int) (S1.next+19))))).next=S1.next+21:=ha2;generalize s2.put mid (ak4.map (mEs (bc7 L' x.name ((rows.length+i:Nat):Int) (S1.next+19))))=S3 at *;obtain ⟨s4,hb3,hb4,hb5,hps2⟩:=h2.push ⟨x,es9,prio⟩ (S3.next+15) (S3.next+11) (by show S1.next+21<=_; omega) (by show S1.next+21<=_; omega) (by rw[List.length_append,rowsOf,List.length_map,List.length_take]; omega);have hc3:=h2.cell;simp only at hc3 hb3;simp only[go_sem,Nat.add_assoc,hc3,hb2,ag9,ah2,ad1];refine aa2 (dl8 x (hf x hx)) ?_;simp only[go_sem,Nat.add_assoc,ag9,ah2,ad1,bl1,bl2,bl3,bs8,cx9,gh9,List.append_nil,List.drop_nil];rw[hb3];have hc4:s4.obj pp=some (.cells [rv',.int .i64 inst,.map mid]):=by rw[hb5]; exact hc3
   simp only[go_sem,Nat.add_assoc,hc4,w1];have h5:=hps2 s4.next (by rw[hb4]; omega);refine ⟨hlt,by omega,?_,bc7 L' x.name ((rows.length+i:Nat):Int) (S1.next+19),.slice (S3.next+11) 0 ((rows++rowsOf (l.take i) es9 prio).length+1) 17,?_,?_⟩
   ·rw[htk,List.all_append,hall]; simp[hm]
   rotate_left
   ·rw[htk,ej8,<- List.append_assoc];exact h5
   ·rw[<- hnm,hdr,co1,cp7,<- Nat.add_assoc]
 ·have hi':i=l.length:=by omega
  subst hi';have c1:¬ (l.length:Int)<l.length:=by omega
  simp only[go_sem,c1];rw[List.take_length] at hall h;rw[List.drop_length] at hnm;exact ⟨hn,.inl ⟨hall,rfl,L',rv',hnm,h⟩⟩
def al7.Fit (r:al7):Prop:=r.packages.length<2^20/\∀ p∈r.packages,p.Fit
theorem hb8 (r:al7):∀ c∈r.cs,Bnd 0 c:=by
 intro c hc;simp only[al7.cs,List.mem_cons,List.not_mem_nil,or_false] at hc;rcases hc with rfl|rfl
 ·exact .int _ _
 ·exact .aa5 _ fun e he c hc=>by
   obtain ⟨p,_,rfl⟩:=List.mem_map.1 he; exact az5 p c hc
abbrev az6 (l:List aa3):IV:=.aa5 (l.map aa3.cs)
abbrev as7 (l:List al7):IV:=.aa5 (l.map al7.cs)
theorem aw3 (l:List aa3):Bnd 0 (az6 l):=.aa5 _ fun e he c hc=>by
 obtain ⟨p,_,rfl⟩:=List.mem_map.1 he; exact az5 p c hc
theorem bo4 (l:List al7):Bnd 0 (as7 l):=.aa5 _ fun e he c hc=>by
 obtain ⟨p,_,rfl⟩:=List.mem_map.1 he; exact hb8 p c hc
theorem ao7 {P:IV->Prop}{u v:IV}(hu:P u)(hv:P v):∀ a∈[u,v],P a:=fun a ha=>by
 cases ha with
 | head=>exact hu
 | tail _ h=>cases h with
  | head=>exact hv
  | tail _ h=>cases h
theorem ao8 (r:al7):r.cs.length=2:=rfl
theorem aq4 (r:al7):r.cs.all IV.leaf=true:=rfl
theorem aq5 (r:al7):r.cs.take 2=r.cs:=rfl
theorem ca7 (l:List al7)(i:Nat)(a:al7)(h:l.drop i=a::l.drop (i+1)):ak7 (l.drop i)=a.packages.length+ak7 (l.drop (i+1)):=by
 rw[h]; simp[ak7]
theorem PS.frz {s:Store}{pp mid:Nat}{rows:List bd9}{inst:Int}{L:NmL}{rv:IV}{B:Nat}(h:PS s pp mid rows inst L rv B):bt7 s 0 (.ptr pp 0) (Pool.v ⟨rows,inst,bb6 L⟩):=by
 refine .ptr pp 0 _ _ (Nat.not_lt_zero _) (.inl h.cell) (Nat.le_refl _) fun j hj=>?_
 have hj3:j=0\/j=1\/j=2:=by simp only[List.length_cons,List.length_nil] at hj; omega
 rcases hj3 with rfl|rfl|rfl
 ·refine h.grow.frz (fun x hx=>(ew4 rows x hx).1) (fun _ _=>Nat.not_lt_zero _) fun e he c hc=>?_
  obtain ⟨r,_,rfl⟩:=List.mem_map.1 he;exact ew3 r c hc
 ·exact ad9 _ _
 ·have hat:∀ i,i<(mEs L).length->∃ t∈L,(mEs L).getD i (.undef,.undef)=(.str t.1,.slice t.2.2 0 t.2.1.length 1)/\(nmV (bb6 L)).getD i (.undef,.undef)=(.str t.1,.aa5 (t.2.1.map Md.ah6)):=by
   intro i hi;have hi':i<L.length:=by simpa [mEs] using hi
   exact ⟨L[i],List.getElem_mem hi',by simp[mEs,List.getD_eq_getElem?_getD,hi'],by simp[nmV,bb6,List.getD_eq_getElem?_getD,hi']⟩
  refine .map mid (mEs L) (nmV (bb6 L)) (nmV (bb6 L)) (Nat.not_lt_zero _) h.map (by simp[nmV,bb6,mEs]) (List.Perm.refl _) ⟨?_,.str,fun e he=>?_⟩ (fun i hi=>?_) (fun i hi=>?_)
  ·have:(nmV (bb6 L)).map (·.1)=(L.map (·.1)).map IV.str:=by simp[nmV,bb6]
   rw[this];exact List.Pairwise.map _ (fun a b hab e=>hab (by cases e; rfl)) h.keys
  ·simp only[nmV,List.mem_map] at he;obtain ⟨t,_,rfl⟩:=he;trivial
  ·obtain ⟨t,ht,e1,e2⟩:=hat i hi;rw[e1,e2]; exact bi4 _
  ·obtain ⟨t,ht,e1,e2⟩:=hat i hi;rw[e1,e2];obtain ⟨r1,r2,_⟩:=h.row t ht;have hg:Grow s (.slice t.2.2 0 t.2.1.length 1) 1 (t.2.1.map Md.ah6):=.inr ⟨t.2.2,by rw[List.length_map],r1,r2⟩;refine hg.frz (fun x hx=>(bw1 _ x hx).1) (fun _ _=>Nat.not_lt_zero _) fun e he c hc=>?_
   obtain ⟨n,_,rfl⟩:=List.mem_map.1 he
   cases hc with
   | head=>exact .int _ _
   | tail _ h=>cases h
theorem dt6 {s:Store}(n:Int):bt7 s 0 (.tuple [.ab6,.int .i64 n]) (.tuple [.ab6,.int .i64 n]):=.cm2 (.cons (.keep _ .ab6) (.cons (ad9 _ _) .nil))
theorem cl2 (repos:List al7)(inst:List aa3)(h1:repos.length<2^20)(h2:inst.length<2^20)(h3:ak7 repos<2^40)(hr:∀ r∈repos,al7.Fit r)(hi:∀ p∈inst,p.Fit) :
  PC Tryz.prog EE 37 [as7 repos,az6 inst] (it7 (bt2 repos inst)):=by
 refine ae9 hE fok37 (nZ rfl) (ao7 (bo4 _) (aw3 _)) ?_;simp only[ic37,go_sem];refine ab7 noT (fun i fr s=>∃ n:Nat,fr=[(0,as7 repos),(1,az6 inst),(6,.int .i64 n),(16,as7 repos),(17,.int .i64 repos.length),(18,.int .i64 i)]/\n+ak7 (repos.drop i)=inst.length+ak7 repos) repos.length ⟨inst.length,rfl,rfl⟩ ?_;rintro i fr s hle ⟨n,rfl,hn⟩;by_cases hlt:i<repos.length
 ·obtain ⟨a,ha,_,hdr,hget,htk⟩:=ae2 repos i hlt;have c1:(i:Int)<repos.length:=by omega
  have c2:(0:Int)<=i:=by omega
  have w1:=ad4 (i:=i) (by omega);rw[ca7 repos i a hdr] at hn
  have w2:IntKind.i64.wrap ((n:Int)+a.packages.length)=((n+a.packages.length:Nat):Int):=by
   rw[wrap64 (by omega) (by omega)]; omega
  simp only[go_sem,c1,c2,hget,ao8,aq5,aq4];simp only[go_sem,al7.cs,w1,w2];exact ⟨hlt,n+a.packages.length,rfl,by omega⟩
 have hi':i=repos.length:=by omega
 subst hi';have c1:¬ (repos.length:Int)<repos.length:=by omega
 have hn0:n=inst.length+ak7 repos:=by rw[List.drop_length] at hn; simpa [ak7] using hn
 subst hn0;by_cases b1:16<repos.length
 ·have b1':(16:Int)<repos.length:=by omega
  simp only[go_sem,c1,b1',bt2,b1,true_or];exact .cm2 (.cons (.keep _ .ab6) (.cons (ad9 _ _) .nil))
 have b1':¬ (16:Int)<repos.length:=by omega
 by_cases b2:256<inst.length+ak7 repos
 ·have b2':(256:Int)<((inst.length+ak7 repos:Nat):Int):=by omega
  simp only[go_sem,c1,b1',b2',bt2,b1,b2,or_true];exact .cm2 (.cons (.keep _ .ab6) (.cons (ad9 _ _) .nil))
 have b2':¬ (256:Int)<((inst.length+ak7 repos:Nat):Int):=by omega
 simp only[go_sem,c1,b1',b2']
 have hp0:PS ⟨s.next+2,((Store.put ⟨s.next+2,s.obj⟩ s.next (ak4.map [])).put (s.next+1) (ak4.cells [.aa1,.int .i64 inst.length,.map s.next])).obj⟩ (s.next+1) s.next [] inst.length [] .aa1 0 :=
  {cell:=by simp only[aa7,if_true]
   grow:=.inl ⟨rfl,rfl⟩
   map:=by
    have e:¬ s.next=s.next+1:=by omega
    simp only[aa7,e,if_false,if_true]; rfl
   row:=fun t ht=>by cases ht
   ids:=List.nodup_nil
   keys:=List.nodup_nil
   ne:=fun _ _ h=>by cases h
   lt:=⟨by show s.next+1<s.next+2; omega,by show s.next<s.next+2; omega⟩ }
 refine af1 fok78 (iy3 inst h2 hi (-1) 1025 _ (s.next+1) s.next [] (by decide) inst.length [] .aa1 hp0) ?_;rintro v s2 ⟨n2,⟨g1,rfl,L1,rv1,g2,g3⟩|⟨g1,rfl⟩⟩
 case inr=>
  refine ⟨n2,?_⟩;simp only[go_sem,bt2,b1,b2,or_self,g1];exact dt6 _
 refine ⟨n2,?_⟩
 have hres:bt2 repos inst=match af9 0 repos (rowsOf inst (-1) 1025,co1 [] 0 inst) with
  | some (rows,nm)=>.inl ⟨rows,inst.length,nm⟩
  | none=>.inr 4:=by
  simp only[bt2,b1,b2,or_self,if_false,g1,Bool.true_eq_false];rfl
 rw[hres];simp only[go_sem]
 refine ab7 noT (fun i fr t=>fr=[(9,.ptr (s.next+1) 0),(46,as7 repos),(47,.int .i64 repos.length),(48,.int .i64 i)]/\∃ rows L rv,PS t (s.next+1) s.next rows inst.length L rv rows.length /\
  af9 0 repos (rowsOf inst (-1) 1025,co1 [] 0 inst)=af9 i (repos.drop i) (rows,bb6 L)/\rows.length+ak7 (repos.drop i)=inst.length+ak7 repos) repos.length ⟨rfl,rowsOf inst (-1) 1025,L1,rv1,?_,?_,?_⟩ ?_
 ·have e:(rowsOf inst (-1) 1025).length=0+inst.length:=by rw[bs4]; omega
  rw[e]; exact g3
 ·rw[g2]; rfl
 ·rw[bs4]; rfl
 rintro i fr t hle ⟨rfl,rows,L,rv,hp,hrf,hsum⟩;by_cases hlt:i<repos.length
 ·obtain ⟨a,ha,_,hdr,hget,htk⟩:=ae2 repos i hlt;have c1:(i:Int)<repos.length:=by omega
  have c2:(0:Int)<=i:=by omega
  have w1:=ad4 (i:=i) (by omega);rw[ca7 repos i a hdr] at hsum;rw[hdr] at hrf;simp only[go_sem,c1,c2,hget,ao8,aq5,aq4];by_cases p1:a.priority<0
  ·simp only[go_sem,al7.cs,p1];rw[hrf,af9,if_pos (.inl p1)];exact dt6 _
  by_cases p2:1024<a.priority
  ·simp only[go_sem,al7.cs,p1,p2];rw[hrf,af9,if_pos (.inr (.inl p2))];exact dt6 _
  simp only[go_sem,al7.cs,p1,p2]
  have hp1:PS ⟨t.next+1,((Store.put ⟨t.next+1,t.obj⟩ t.next (ak4.cells [.int .i64 0,.aa1])).put t.next (ak4.cells [.int .i64 a.priority,az6 a.packages])).obj⟩ (s.next+1) s.next rows inst.length L rv rows.length:=hp.mono (Nat.le_succ _) fun j hj=>by
   have e:¬ j=t.next:=by omega
   simp only[aa7,e,if_false]
  refine af1 fok78 (iy3 a.packages (hr a ha).1 (hr a ha).2 i a.priority _ (s.next+1) s.next rows (by omega) inst.length L rv hp1) ?_;rintro v s3 ⟨n3,⟨k1,rfl,L2,rv2,k2,k3⟩|⟨k1,rfl⟩⟩
  ·refine ⟨n3,?_⟩;simp only[go_sem,w1];refine ⟨hlt,rows++rowsOf a.packages i a.priority,L2,rv2,?_,?_,?_⟩
   ·rw[List.length_append,bs4]; exact k3
   ·rw[hrf,af9,if_neg (by simp[p1,p2,k1]),k2]
   ·rw[List.length_append,bs4]; omega
  ·refine ⟨n3,?_⟩;simp only[go_sem];rw[hrf,af9,if_pos (.inr (.inr k1))];exact dt6 _
 have hi':i=repos.length:=by omega
 subst hi';have c1:¬ (repos.length:Int)<repos.length:=by omega
 rw[List.drop_length] at hrf;simp only[go_sem,c1];rw[hrf,af9];exact .cm2 (.cons hp.frz (.cons (ad9 _ _) .nil))
set_option maxRecDepth 100000
theorem gi1 (s:Str):PC Tryz.prog EE 279 [.str s] (.bool false):=by
 refine az3 fok279 (nZ rfl) fun σ=>?_
 simp only[ic279,go_sem,and_self,bne_self_eq_false,decide_true,Bool.not_true]
theorem gi2 (n:Int):PC Tryz.prog EE 278 [.int .u8 n] (.bool false):=by
 refine az3 fok278 (nZ rfl) fun σ=>?_
 simp only[ic278,go_sem,and_self,bne_self_eq_false,decide_true,Bool.not_true]
theorem gi3 (n:Int):PC Tryz.prog EE 188 [.int .i64 n] (.bool false):=by
 refine az3 fok188 (nZ rfl) fun σ=>?_
 simp only[ic188,go_sem,and_self,bne_self_eq_false,decide_true,Bool.not_true]
theorem en6 (a b:Int):PC Tryz.prog EE 121 [.int .i64 a,.int .i64 b] (.int .i64 (ay2 a b)):=by
 refine az3 fok121 (nZ rfl) fun σ=>?_
 simp only[ic121,go_sem];refine aa4 fok188 (gi3 a) ?_;simp only[go_sem];refine aa4 fok188 (gi3 b) ?_;simp only[go_sem];by_cases h1:a<b
 ·simp only[go_sem,h1,ay2,and_self]
 ·by_cases h2:b<a
  ·have h3:¬ a=b:=by omega
   simp only[go_sem,h1,h2,h3,ay2,and_self]
  ·have h3:a=b:=by omega
   subst h3;simp only[go_sem,h1,ay2,and_self,if_false,if_true]
theorem en7 (a b:Int):PC Tryz.prog EE 236 [.int .u8 a,.int .u8 b] (.int .i64 (ay2 a b)):=by
 refine az3 fok236 (nZ rfl) fun σ=>?_
 simp only[ic236,go_sem];refine aa4 fok278 (gi2 a) ?_;simp only[go_sem];refine aa4 fok278 (gi2 b) ?_;simp only[go_sem];by_cases h1:a<b
 ·simp only[go_sem,h1,ay2,and_self]
 ·by_cases h2:b<a
  ·have h3:¬ a=b:=by omega
   simp only[go_sem,h1,h2,h3,ay2,and_self]
  ·have h3:a=b:=by omega
   subst h3;simp only[go_sem,h1,ay2,and_self,if_false,if_true]
theorem en8 (a b:Str):PC Tryz.prog EE 237 [.str a,.str b] (.int .i64 (cu4 a b)):=by
 refine az3 fok237 (nZ rfl) fun σ=>?_
 simp only[ic237,go_sem];refine aa4 fok279 (gi1 a) ?_;simp only[go_sem];refine aa4 fok279 (gi1 b) ?_;simp only[go_sem]
 cases h1:Op.bytesLess a b with
 | true=>simp only[go_sem,h1,cu4,and_self]
 | false=>
  by_cases h3:a=b
  ·subst h3;simp only[go_sem,h1,cu4,and_self,Bool.false_eq_true,if_false,if_true,decide_true,Bool.or_true,Bool.not_true]
  ·simp only[go_sem,h1,h3,cu4,and_self,Bool.false_eq_true,if_false,decide_false,Bool.or_false,Bool.not_false]
def orM:List Int->Int
 | []=>0
 | a::l=>if a=0 then orM l else a
theorem ii1 (l:List Int)(hl:l.length<2^40):PC Tryz.prog EE 235 [.aa5 (l.map Md.ah6)] (.int .i64 (orM l)):=by
 refine az3 fok235 (nZ rfl) fun σ=>?_
 simp only[ic235,go_sem];refine ab7 noT (fun i fr s=>fr=[(3,.int .i64 0),(6,.aa5 (l.map Md.ah6)),(7,.int .i64 l.length),(8,.int .i64 i)]/\s=σ/\orM l=orM (l.drop i)) l.length ⟨rfl,rfl,rfl⟩ ?_;rintro i fr s hle ⟨rfl,rfl,hI⟩;by_cases hlt:i<l.length
 ·obtain ⟨x,hx,_,hdr,hget,htk⟩:=ae2 l i hlt;have c1:(i:Int)<l.length:=by omega
  have c2:(0:Int)<=i:=by omega
  have w1:=ad4 (i:=i) (by omega);rw[hdr,orM] at hI;by_cases e:x=0
  ·rw[if_pos e] at hI;subst e;simp only[go_sem,c1,c2,hget,Md.ah6,w1];exact ⟨hlt,hI⟩
  ·rw[if_neg e] at hI;simp only[go_sem,c1,c2,hget,Md.ah6,e,hI,and_self]
 ·have hi':i=l.length:=by omega
  subst hi';have c1:¬ (l.length:Int)<l.length:=by omega
  rw[List.drop_length,orM] at hI;simp only[go_sem,c1,hI,and_self]
theorem gi4 (n:Int)(h:n=-1\/n=0\/n=1):PC Tryz.prog EE 280 [.int .i64 n] (.int .u8 (if n<0 then 1 else if n=0 then 2 else 4)):=by
 rcases h with rfl|rfl|rfl
 all_goals
  refine ae9 hE fok280 (nZ rfl) (ae1 (.int _ _)) ?_;simp only[ic280,go_sem];exact .keep _ (.int _ _)
def vkN (n:Nat):Nat:=if n=126 then 1 else if n=94 then 3 else if 97<=n/\n<=122\/65<=n/\n<=90 then 4 else if 48<=n/\n<=57 then 5 else 0
theorem ii2 (b:UInt8):af2 b=vkN b.toNat:=by
 have h:∀ n,n<256->af2 (UInt8.ofNat n)=vkN n:=by decide +kernel
 have:=h b.toNat b.toNat_lt
 rwa [UInt8.ofNat_toNat] at this
theorem en9 (b:UInt8):PC Tryz.prog EE 276 [.int .u8 b.toNat] (.int .u8 (af2 b)):=by
 rw[ii2];have hb:=b.toNat_lt;generalize b.toNat=n at *;unfold vkN;refine ae9 hE fok276 (nZ rfl) (ae1 (.int _ _)) ?_;by_cases e1:n=126
 ·have e1':(n:Int)=126:=by omega
  rw[if_pos e1];simp only[ic276,go_sem,e1'];exact .keep _ (.int _ _)
 have e1':¬ (n:Int)=126:=by omega
 rw[if_neg e1];by_cases e2:n=94
 ·have e2':(n:Int)=94:=by omega
  have q:¬ (94:Int)=126:=by decide
  rw[if_pos e2];simp only[ic276,go_sem,e2',q];exact .keep _ (.int _ _)
 have e2':¬ (n:Int)=94:=by omega
 rw[if_neg e2];by_cases e3:97<=n/\n<=122
 ·have f1:(97:Int)<=n:=by omega
  have f2:(n:Int)<=122:=by omega
  rw[if_pos (.inl e3)];simp only[ic276,go_sem,e1',e2',f1,f2];exact .keep _ (.int _ _)
 by_cases e4:65<=n/\n<=90
 ·have f1:¬ (97:Int)<=n:=by omega
  have f3:(65:Int)<=n:=by omega
  have f4:(n:Int)<=90:=by omega
  rw[if_pos (.inr e4)];simp only[ic276,go_sem,e1',e2',f1,f3,f4];exact .keep _ (.int _ _)
 rw[if_neg (fun h=>h.elim e3 e4)];by_cases e5:48<=n/\n<=57
 ·have f1:¬ (97:Int)<=n:=by omega
  have f3:¬ (65:Int)<=n:=by omega
  have f5:(48:Int)<=n:=by omega
  have f6:(n:Int)<=57:=by omega
  rw[if_pos e5];simp only[ic276,go_sem,e1',e2',f1,f3,f5,f6];exact .keep _ (.int _ _)
 rw[if_neg e5];by_cases f1:(97:Int)<=n
 ·have f2:¬ (n:Int)<=122:=by omega
  have f3:(65:Int)<=n:=by omega
  have f4:¬ (n:Int)<=90:=by omega
  have f5:(48:Int)<=n:=by omega
  have f6:¬ (n:Int)<=57:=by omega
  simp only[ic276,go_sem,e1',e2',f1,f2,f3,f4,f5,f6];exact .keep _ (.int _ _)
 by_cases f3:(65:Int)<=n
 ·have f4:¬ (n:Int)<=90:=by omega
  have f5:(48:Int)<=n:=by omega
  have f6:¬ (n:Int)<=57:=by omega
  simp only[ic276,go_sem,e1',e2',f1,f3,f4,f5,f6];exact .keep _ (.int _ _)
 by_cases f5:(48:Int)<=n
 ·have f6:¬ (n:Int)<=57:=by omega
  simp only[ic276,go_sem,e1',e2',f1,f3,f5,f6];exact .keep _ (.int _ _)
 ·simp only[ic276,go_sem,e1',e2',f1,f3,f5];exact .keep _ (.int _ _)
theorem hb9 (s:Str)(hs:s.length<2^62)(c:UInt8):PC Tryz.prog EE 293 [.str s,.int .u8 c.toNat] (.str (s.dropWhile (· == c))):=by
 refine az3 fok293 (nZ rfl) fun σ=>?_
 simp only[ic293,go_sem];refine ab7 noT (fun i fr t=>fr=[(0,.str (s.drop i)),(1,.int .u8 c.toNat)]/\t=σ/\s.dropWhile (· == c)=(s.drop i).dropWhile (· == c)) s.length ⟨rfl,rfl,rfl⟩ ?_;rintro i fr t hle ⟨rfl,rfl,hI⟩;by_cases hlt:i<s.length
 ·obtain ⟨x,hx,hget,hdr,_,htk⟩:=ae2 s i hlt;have c1:(0:Int)<(s.length-i:Nat):=by omega
  have h0:(s.drop i)[0]? = some x:=by rw[hdr]; rfl
  by_cases e:x=c
  ·subst e;simp only[go_sem,List.length_drop,c1,cd1,Int.le_refl,Int.toNat_zero,h0,Option.map]
   have hsub:cz5 (some (.int .i64 1)) none (.str (s.drop i))=some (.str (s.drop (i+1))):=by
    rw[hdr];simp[cz5,co9,ep8];exact List.take_of_length_le (by rw[List.length_drop]; omega)
   simp only[go_sem,hsub];refine ⟨hlt,?_⟩;rw[hI,hdr,List.dropWhile_cons,if_pos (by simp)]
  ·have e':¬ (x.toNat:Int)=c.toNat:=fun h=>e (UInt8.toNat_inj.1 (by omega))
   simp only[go_sem,List.length_drop,c1,cd1,Int.le_refl,Int.toNat_zero,h0,Option.map,e'];rw[hI,hdr,List.dropWhile_cons,if_neg (by simpa using e)]
 ·have hi':i=s.length:=by omega
  subst hi';rw[List.drop_length] at hI ⊢;simp only[go_sem,List.length_nil,hI,and_self,List.dropWhile_nil]
theorem hc5 (s:Str)(hs:s.length<2^62):PC Tryz.prog EE 277 [.str s,.str [48]] (.str (s.dropWhile (· == 48))):=by
 refine az3 fok277 (nZ rfl) fun σ=>?_
 simp only[ic277,go_sem];have ht:=hb9 s hs 48;by_cases h0:s=[]
 ·subst h0;simp only[go_sem,List.dropWhile_nil,and_self]
 ·have e1:dv6 (.str [48]) (.int .i64 0)=some (.int .u8 (48:UInt8).toNat):=rfl;have e2:((48:UInt8).toNat:Int)<128:=by decide
  simp only[go_sem,h0,e1,e2];refine aa4 fok293 ht ?_;simp only[go_sem,and_self]
def Part.cs (p:Part):List IV:=[.int .u8 p.kind,.str p.s]
theorem jb5 (a b c:Int):orM [a,b,c]=if a≠0 then a else if b≠0 then b else c:=by
 simp only[orM];by_cases h1:a=0<;>by_cases h2:b=0<;>by_cases h3:c=0<;>simp[h1,h2,h3]
theorem fp3 (a b:Part)(ha:a.s.length<2^62)(hb:b.s.length<2^62):PC Tryz.prog EE 190 [.agg (Part.cs a),.agg (Part.cs b)] (.int .i64 (ag8 a b)):=by
 have bp:∀ p:Part,Bnd 0 (.agg (Part.cs p)):=fun p=>.agg _ fun c hc=>by
  simp only[Part.cs,List.mem_cons,List.not_mem_nil,or_false] at hc;rcases hc with rfl|rfl
  ·exact .int _ _
  ·exact .str _
 refine ae9 hE fok190 (nZ rfl) (ao7 (bp a) (bp b)) ?_;by_cases h1:a.kind=5
 ·have g1:((a.kind:Nat):Int)=5:=by omega
  by_cases h2:b.kind=5
  ·have g2:((b.kind:Nat):Int)=5:=by omega
   simp only[ic190,go_sem,Part.cs,g1,g2]
   first|refine aa4 fok121 (en6 _ _) ?_|refine aa2 (en6 _ _) ?_
   simp only[go_sem];refine aa2 (en7 _ _) ?_;simp only[go_sem];refine aa2 (en8 _ _) ?_;simp only[go_sem];refine aa2 (ii1 [ay2 5 5,ay2 a.s.length b.s.length,cu4 a.s b.s] (by simp)) ?_;simp only[go_sem];have e:orM [ay2 5 5,ay2 a.s.length b.s.length,cu4 a.s b.s]=ag8 a b:=by rw[jb5]; simp only[ag8,h1,h2,and_self,if_true]; rfl
   rw[e]; exact ad9 _ _
  ·have g2:¬ ((b.kind:Nat):Int)=5:=by omega
   simp only[ic190,go_sem,Part.cs,g1,g2];refine aa2 (en7 _ _) ?_;simp only[go_sem];refine aa2 (en8 _ _) ?_;simp only[go_sem];refine aa2 (ii1 [ay2 5 b.kind,0,cu4 a.s b.s] (by simp)) ?_;simp only[go_sem];have e:orM [ay2 5 b.kind,0,cu4 a.s b.s]=ag8 a b:=by rw[jb5]; simp only[ag8,h1,h2,and_false,if_false]; rfl
   rw[e]; exact ad9 _ _
 ·have g1:¬ ((a.kind:Nat):Int)=5:=by omega
  simp only[ic190,go_sem,Part.cs,g1];refine aa2 (en7 _ _) ?_;simp only[go_sem];refine aa2 (en8 _ _) ?_;simp only[go_sem];refine aa2 (ii1 [ay2 a.kind b.kind,0,cu4 a.s b.s] (by simp)) ?_;simp only[go_sem];have e:orM [ay2 a.kind b.kind,0,cu4 a.s b.s]=ag8 a b:=by rw[jb5]; simp only[ag8,h1,false_and,if_false]
  rw[e]; exact ad9 _ _
end Go.Id.Tryz
