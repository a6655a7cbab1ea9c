/- Copies. Conditions: none. -/
import Derived.Test.YtjpdjifjokldlaaGreatDoorTPPD
import Derived.Test.YtjpdjifjokldlaaGreatDoorFwQ
set_option linter.all false
namespace Go.Id.Tryz
open Go Go.Id Go.Proofs Go.Id.Md
def ai9 (n:Int):List IV:=[.int .i64 n]
theorem ar7 (l:List Int):Bnd 0 (.aa3 (l.map ai9)):=.aa3 _ fun e he c hc=>by
 obtain ⟨d,_,rfl⟩:=List.mem_map.1 he; cases hc with|head=>exact .int _ _|tail _ h=>cases h
theorem aj2 {es:List (List IV)}(h:Bnd 0 (.aa3 es)):∀ e∈es,∀ c∈e,Bnd 0 c:=by
 cases h with|aa3 _ h=>exact h
theorem cl4 (xs:List Dep)(hn:xs.length<=2147483648):PC Tryz.prog EE 53 [.aa3 (xs.map Dep.cs)] (.aa3 (xs.map Dep.cs)):=by
 cases hx:xs with
 | nil=>
  rw[List.map_nil];refine ch8 ?_ ?_
  ·refine aj6 hE fok53 (nZ rfl) (af7 .aa1) ?_;simp only[ic53,go_sem,ak4];exact .dr9
  ·refine aj6 hE fok53 (nZ rfl) (af7 .ad6) ?_;simp only[ic53,go_sem,ak4];rw[ce2 (by simp only[aa5,if_true]) rfl];simp only[go_sem]
   exact .eb8 _ _ _ (by simp only[aa5,if_true]; exact fun h=>(by cases h))
 | cons a as'=>
  have hne:xs.map Dep.cs≠[]:=by rw[hx]; exact fun h=>(by cases h)
  have hall:∀ e∈xs.map Dep.cs,e.length=5/\e.all IV.leaf=true:=fun e he=>by
   obtain ⟨x,_,rfl⟩:=List.mem_map.1 he;exact ⟨ar3 x,ar6 x⟩
  have hnil:bs3 (.slice 0) (.aa3 (xs.map Dep.cs))=some false:=by rw[hx]; rfl
  rw[<- hx];refine aj6 hE fok53 (nZ rfl) (af7 (bc3 xs)) ?_;have hnil:∀ d,bs3 (.slice d) (.aa3 (xs.map Dep.cs))=some false:=fun d=>by rw[hx]; rfl
  simp only[ic53,go_sem,ak4,hnil];rw[db7 (by simp only[aa5,if_true]) hne hall (by rw[List.length_map]; exact hn)];simp only[go_sem];refine Grow.frz (esz:=5) (es:=xs.map Dep.cs) (.inr ⟨1,by rw[List.length_map],by simp only[aa5,if_true],Nat.lt_succ_self _⟩) (fun x hx=>(hall x hx).1) (fun _ _=>Nat.not_lt_zero _) (aj2 (bc3 xs))
theorem dy8 (xs:List Str)(hn:xs.length<=2147483648):PC Tryz.prog EE 54 [.aa3 (xs.map ap8)] (.aa3 (xs.map ap8)):=by
 cases hx:xs with
 | nil=>
  rw[List.map_nil];refine ch8 ?_ ?_
  ·refine aj6 hE fok54 (nZ rfl) (af7 .aa1) ?_;simp only[ic54,go_sem,ak4];exact .dr9
  ·refine aj6 hE fok54 (nZ rfl) (af7 .ad6) ?_;simp only[ic54,go_sem,ak4];rw[ce2 (by simp only[aa5,if_true]) rfl];simp only[go_sem]
   exact .eb8 _ _ _ (by simp only[aa5,if_true]; exact fun h=>(by cases h))
 | cons a as'=>
  have hne:xs.map ap8≠[]:=by rw[hx]; exact fun h=>(by cases h)
  have hall:∀ e∈xs.map ap8,e.length=1/\e.all IV.leaf=true:=fun e he=>by
   obtain ⟨x,_,rfl⟩:=List.mem_map.1 he;exact ⟨rfl,rfl⟩
  have hnil:bs3 (.slice 0) (.aa3 (xs.map ap8))=some false:=by rw[hx]; rfl
  rw[<- hx];refine aj6 hE fok54 (nZ rfl) (af7 (bk1 xs)) ?_;have hnil:∀ d,bs3 (.slice d) (.aa3 (xs.map ap8))=some false:=fun d=>by rw[hx]; rfl
  simp only[ic54,go_sem,ak4,hnil];rw[db7 (by simp only[aa5,if_true]) hne hall (by rw[List.length_map]; exact hn)];simp only[go_sem];refine Grow.frz (esz:=1) (es:=xs.map ap8) (.inr ⟨1,by rw[List.length_map],by simp only[aa5,if_true],Nat.lt_succ_self _⟩) (fun x hx=>(hall x hx).1) (fun _ _=>Nat.not_lt_zero _) (aj2 (bk1 xs))
theorem dy9 (xs:List Int)(hn:xs.length<=2147483648):PC Tryz.prog EE 28 [.aa3 (xs.map ai9)] (.aa3 (xs.map ai9)):=by
 cases hx:xs with
 | nil=>
  rw[List.map_nil];refine ch8 ?_ ?_
  ·refine aj6 hE fok28 (nZ rfl) (af7 .aa1) ?_;simp only[ic28,go_sem,ak4];exact .dr9
  ·refine aj6 hE fok28 (nZ rfl) (af7 .ad6) ?_;simp only[ic28,go_sem,ak4];rw[ce2 (by simp only[aa5,if_true]) rfl];simp only[go_sem]
   exact .eb8 _ _ _ (by simp only[aa5,if_true]; exact fun h=>(by cases h))
 | cons a as'=>
  have hne:xs.map ai9≠[]:=by rw[hx]; exact fun h=>(by cases h)
  have hall:∀ e∈xs.map ai9,e.length=1/\e.all IV.leaf=true:=fun e he=>by
   obtain ⟨x,_,rfl⟩:=List.mem_map.1 he;exact ⟨rfl,rfl⟩
  have hnil:bs3 (.slice 0) (.aa3 (xs.map ai9))=some false:=by rw[hx]; rfl
  rw[<- hx];refine aj6 hE fok28 (nZ rfl) (af7 (ar7 xs)) ?_;have hnil:∀ d,bs3 (.slice d) (.aa3 (xs.map ai9))=some false:=fun d=>by rw[hx]; rfl
  simp only[ic28,go_sem,ak4,hnil];rw[db7 (by simp only[aa5,if_true]) hne hall (by rw[List.length_map]; exact hn)];simp only[go_sem];refine Grow.frz (esz:=1) (es:=xs.map ai9) (.inr ⟨1,by rw[List.length_map],by simp only[aa5,if_true],Nat.lt_succ_self _⟩) (fun x hx=>(hall x hx).1) (fun _ _=>Nat.not_lt_zero _) (aj2 (ar7 xs))
theorem al3 (xs:List aa9):∀ e∈xs.map aa9.cs,e.length=7/\e.all IV.leaf=true:=fun e he=>by
 obtain ⟨x,_,rfl⟩:=List.mem_map.1 he;exact ⟨ac6 x,ad1 x⟩
def dz1:List IV:=[.int .u8 0,.str [],.int .u8 0,.int .i64 0,.str [],.str [],.aa1]
theorem ao9 (r:aa9):r.fit->PC Tryz.prog EE 56 [.agg r.cs] (.agg r.cs):=by
 induction r using aa9.ind with
 | h k d xs ih=>
  intro hf;obtain ⟨f1,f2,f3,f4,f5⟩:=aa9.bc7.1 hf;refine aj6 hE fok56 (nZ rfl) (af7 (am3 _)) ?_;rw[aa9.an4];simp only[ic56,go_sem,aa9.kind,aa9.dep,aa9.args,bq5];refine ac2 noT (fun i fr s=>fr=[(2,.ptr 0 0),(3,.ptr 1 0),(12,.aa3 (xs.map aa9.cs)),(13,.int .i64 xs.length),(14,.int .i64 i)]/\∃ v,s.obj 0=some (.cells dz1)/\s.obj 1=some (.cells [.int .u8 k,.str d.name,.int .u8 d.op,.int .i64 d.evr.ai4,.str d.evr.ver,.str d.evr.rel,v])/\Grow s v 7 ((xs.take i).map aa9.cs)/\1<s.next) xs.length ⟨rfl,.aa1,?_,?_,.inl ⟨rfl,rfl⟩,?_⟩ ?_
  ·simp only[aa5,reduceCtorEq,Int.reduceLT,Int.reduceLE,Int.reduceToNat,Int.reduceAdd,Nat.reduceEqDiff,Nat.reduceAdd,Nat.reduceMul,Nat.reduceLT,Nat.reduceLeDiff,decide_true,decide_false,↓reduceIte,if_true,if_false]; rfl
  ·simp only[aa5,reduceCtorEq,Int.reduceLT,Int.reduceLE,Int.reduceToNat,Int.reduceAdd,Nat.reduceEqDiff,Nat.reduceAdd,Nat.reduceMul,Nat.reduceLT,Nat.reduceLeDiff,decide_true,decide_false,↓reduceIte,if_true,if_false]
  ·show 1<2; omega
  rintro i fr s hle ⟨rfl,v,q0,q1,hg,hn⟩;by_cases hlt:i<xs.length
  ·obtain ⟨a,ha,_,hdr,hget,htk⟩:=ad2 xs i hlt;have c1:(i:Int)<xs.length:=by omega
   have c2:(0:Int)<=i:=by omega
   have w1:=af6 (i:=i) (by omega);have u0:¬ 1=s.next:=by omega
   have u1:¬ 0=s.next:=by omega
   simp only[go_sem,c1,c2,hget,ac6,af4,ad1,q1,u0,bq5];refine aa6 (ih a ha (f5 a ha)) ?_;simp only[go_sem,ac6,af4,ad1]
   have hg1:Grow ⟨s.next+1+8,((Store.put ⟨s.next+1,s.obj⟩ s.next (ak2.cells dz1)).put s.next (ak2.cells a.cs)).obj⟩ v 7 ((xs.take i).map aa9.cs):=hg.mono (by show s.next<=s.next+1+8; omega) fun id _ hid=>by
    have:¬ id=s.next:=by omega
    simp only[aa5,this,if_false]
   have hl0:((xs.take i).map aa9.cs).length=i:=by rw[List.length_map,List.length_take]; omega
   have ha2:=al1 (nid:=s.next+1+1+1+1+1+1) (e:=a.cs) hg1 (al3 _) ⟨ac6 a,ad1 a⟩ (by rw[hl0]; omega);have k1:=ah6 hg1 1 (.cells [.int .u8 k,.str d.name,.int .u8 d.op,.int .i64 d.evr.ai4,.str d.evr.ver,.str d.evr.rel,v]) (by simp only[aa5,u0,if_false]; exact q1) (fun _ h=>by cases h);have k0:=ah6 hg1 0 (.cells dz1) (by simp only[aa5,u1,if_false]; exact q0) (fun _ h=>by cases h);have kn:=ae1 (σ:=⟨s.next+1+8,((Store.put ⟨s.next+1,s.obj⟩ s.next (ak2.cells dz1)).put s.next (ak2.cells a.cs)).obj⟩) v;simp only[dz1] at ha2 k1 k0 kn;rw[ha2,hl0];have u2:¬ 1=s.next+1+1+1+1+1+1:=by omega
   have u3:¬ 0=s.next+1+1+1+1+1+1:=by omega
   have u4:¬ s.next+1+1+1+1+1+1=1:=by omega
   simp only[go_sem,u2,k1,w1];refine ⟨hlt,_,?_,rfl,?_,?_⟩
   ·simp only[u3,if_false,dz1]; exact k0
   ·rw[htk,List.map_append,List.map_cons,List.map_nil];refine .inr ⟨_,by rw[List.length_append,hl0]; rfl,?_,?_⟩
    ·simp only[aa5,u4,if_false,if_true]
    ·simp only[ab4,kn]; omega
   ·rw[kn]; show 1<s.next+1+8; omega
  ·have hi':i=xs.length:=by omega
   subst hi';have c1:¬ (xs.length:Int)<xs.length:=by omega
   rw[List.take_length] at hg
   have hvl:v.leaf=true:=by
    rcases hg with ⟨rfl,_⟩|⟨id,rfl,_⟩<;>rfl
   simp only[go_sem,c1,q0,q1,bq5,dz1,hvl];refine .agg _ _ rfl fun j hj=>?_
   have:j=0\/j=1\/j=2\/j=3\/j=4\/j=5\/j=6:=by
    simp only[List.length_cons,List.length_nil] at hj; omega
   rcases this with rfl|rfl|rfl|rfl|rfl|rfl|rfl
   ·exact ac4 _ _
   ·exact ar1 _
   ·exact ac4 _ _
   ·exact ac4 _ _
   ·exact ar1 _
   ·exact ar1 _
   ·have hne:∀ id,v=.slice id 0 (xs.map aa9.cs).length 7->id≠0:=fun id hv=>hg.ne hv q0 (fun _ h=>by cases h)
    refine Grow.frz (hg.mono (Nat.le_refl _) fun id hv _=>?_) (fun x hx=>(al3 xs x hx).1) (fun _ _=>Nat.not_lt_zero _) (aj2 (af8 xs));have:¬ id=0:=hne id hv;simp only[aa5,this,if_false]
theorem ar4 (xs:List aa9)(σ:Store)(hn:xs.length<=2147483648):C Tryz.prog EE 55 [.aa3 (xs.map aa9.cs)] σ fun v s=>(∀ i,i<σ.next->s.obj i=σ.obj i)/\σ.next<=s.next/\Grow s v 7 (xs.map aa9.cs)/\∀ id,v=.slice id 0 xs.length 7->σ.next<=id:=by
 cases hx:xs with
 | nil=>
  rw[List.map_nil];refine gd7 ?_ ?_
  ·refine C_f fok55 (nZ rfl) ?_;simp only[ic55,go_sem,ak4];exact ⟨fun _ _=>trivial,Nat.le_refl _,.inl ⟨rfl,rfl⟩,fun id h=>by cases h⟩
  ·refine C_f fok55 (nZ rfl) ?_;simp only[ic55,go_sem,ak4];rw[ce2 (by simp only[aa5,if_true]) rfl];simp only[go_sem];refine ⟨fun i hi=>?_,by omega,.inr ⟨σ.next,rfl,by simp only[aa5,if_true]; rfl,by show σ.next<σ.next+2; omega⟩,fun id h=>by cases h; exact Nat.le_refl _⟩;have:¬ i=σ.next:=by omega
   simp only[this,if_false]
 | cons a as'=>
  have hne:xs.map aa9.cs≠[]:=by rw[hx]; exact fun h=>(by cases h)
  rw[<- hx];refine C_f fok55 (nZ rfl) ?_;have hnil:∀ d,bs3 (.slice d) (.aa3 (xs.map aa9.cs))=some false:=fun d=>by rw[hx]; rfl
  simp only[ic55,go_sem,ak4,hnil];rw[db7 (by simp only[aa5,if_true]) hne (al3 xs) (by rw[List.length_map]; exact hn)];simp only[go_sem];refine ⟨fun i hi=>?_,by omega,.inr ⟨σ.next+1,by rw[List.length_map],by simp only[aa5,if_true],by show σ.next+1<σ.next+2; omega⟩,fun id h=>by cases h; omega⟩;have h1:¬ i=σ.next:=by omega
  have h2:¬ i=σ.next+1:=by omega
  simp only[h1,h2,if_false]
def al4 (s:Store)(done:Prop)(v:IV)(l:List aa9):Prop:=(done/\Grow s v 7 (l.map aa9.cs))\/(¬ done/\v=ag6 l)
theorem al4.mono {s s':Store}{done done':Prop}{v:IV}{l:List aa9}(h:al4 s done v l)(hd:done↔done')(hn:s.next<=s'.next)(ho:∀ id cs,id<s.next->s.obj id=some (.row cs)->s'.obj id=some (.row cs)):al4 s' done' v l:=by
 rcases h with ⟨h1,h2⟩|⟨h1,h2⟩
 ·refine .inl ⟨hd.1 h1,?_⟩;rcases h2 with h2|⟨id,hv,hr,hlt⟩
  ·exact .inl h2
  ·exact .inr ⟨id,hv,ho _ _ hlt hr,Nat.lt_of_lt_of_le hlt hn⟩
 ·exact .inr ⟨fun h=>h1 (hd.2 h),h2⟩
theorem al4.leaf {s:Store}{done:Prop}{v:IV}{l:List aa9}(h:al4 s done v l):v.leaf=true:=by
 rcases h with ⟨_,⟨rfl,_⟩|⟨id,rfl,_⟩⟩|⟨_,rfl⟩<;>rfl
def pcs (p:aa2)(v7 v8 v10 v11 v12 v13:IV):List IV :=
 [.str p.name,.int .i64 p.evr.ai4,.str p.evr.ver,.str p.evr.rel,.int .u8 p.de2,.str p.vendor,deps p.provides,v7,v8,deps p.ab2,v10,v11,v12,v13,strs p.files]
def ay6:List IV:=[.str [],.int .i64 0,.str [],.str [],.int .u8 0,.str [],.aa1,.aa1,.aa1,.aa1,.aa1,.aa1,.aa1,.aa1,.aa1]
def ca4:List (List IV):=[[.ptr 0 7],[.ptr 0 8],[.ptr 0 10],[.ptr 0 11],[.ptr 0 12],[.ptr 0 13]]
theorem cz2 (p:aa2)(hf:p.Fit):PC Tryz.prog EE 34 [.agg p.cs] (.agg p.cs):=by
 refine aj6 hE fok34 (nZ rfl) (af7 (al2 _)) ?_;simp only[ic34,go_sem,ad9,aa2.cs,bk6];refine aa6 (cl4 p.provides (by have:=hf.bd4.1; omega)) ?_;simp only[go_sem,bk6];refine aa6 (cl4 p.ab2 (by have:=hf.obs.1; omega)) ?_;simp only[go_sem,bk6];refine aa6 (dy8 p.files (by have:=hf.files.1; omega)) ?_;simp only[go_sem,bk6]
 refine ac2 noT (fun i fr s=>fr=[(1,.ptr 0 0),(2,.ptr 1 0),(25,.aa3 ca4),(26,.int .i64 6),(27,.int .i64 i)]/\(s.obj 1=some (.cells ay6)/\1<s.next)/\∃ v7 v8 v10 v11 v12 v13,s.obj 0=some (.cells (pcs p v7 v8 v10 v11 v12 v13)) /\
  al4 s (0<i) v7 p.requires/\al4 s (1<i) v8 p.conflicts/\al4 s (2<i) v10 p.ab7/\al4 s (3<i) v11 p.ab3/\al4 s (4<i) v12 p.suggests/\al4 s (5<i) v13 p.ac3) 6 ?_ ?_
 ·refine ⟨rfl,⟨?_,?_⟩,_,_,_,_,_,_,?_,.inr ⟨by omega,rfl⟩,.inr ⟨by omega,rfl⟩,.inr ⟨by omega,rfl⟩,.inr ⟨by omega,rfl⟩,.inr ⟨by omega,rfl⟩,.inr ⟨by omega,rfl⟩⟩
  ·simp only[aa5,reduceCtorEq,Int.reduceLT,Int.reduceLE,Int.reduceToNat,Int.reduceAdd,Nat.reduceEqDiff,Nat.reduceAdd,Nat.reduceMul,Nat.reduceLT,Nat.reduceLeDiff,decide_true,decide_false,↓reduceIte,if_true,if_false]; rfl
  ·simp only[ab4]; omega
  ·simp only[aa5,reduceCtorEq,Int.reduceLT,Int.reduceLE,Int.reduceToNat,Int.reduceAdd,Nat.reduceEqDiff,Nat.reduceAdd,Nat.reduceMul,Nat.reduceLT,Nat.reduceLeDiff,decide_true,decide_false,↓reduceIte,if_true,if_false]; rfl
 rintro i fr s hle ⟨rfl,⟨q1,hn⟩,v7,v8,v10,v11,v12,v13,q0,o7,o8,o10,o11,o12,o13⟩;by_cases hlt:i<6
 ·have hcase:i=0\/i=1\/i=2\/i=3\/i=4\/i=5:=by omega
  rcases hcase with rfl|rfl|rfl|rfl|rfl|rfl
  ·have hv:v7=ag6 p.requires:=by
    rcases o7 with ⟨h,_⟩|⟨_,h⟩
    ·exact absurd h (by omega)
    ·exact h
   subst hv;have hfl:p.requires.length<2^31/\∀ r∈p.requires,r.fit/\r.count<2^31:=hf.ay5 (1,p.requires) (by simp[aa2.rows]);simp only[go_sem,ca4,q0,pcs,bk6];refine am1 fok55 (ar4 p.requires _ (by have:=hfl.1; omega)) ?_;rintro v s2 ⟨hs2,hn2,hg,hid⟩;refine ⟨hn2,?_⟩;have q02:s2.obj 0=some (.cells (pcs p (ag6 p.requires) v8 v10 v11 v12 v13)):=by rw[hs2 0 (by omega)]; exact q0
   have q12:s2.obj 1=some (.cells ay6):=by rw[hs2 1 (by omega)]; exact q1
   have hvl:v.leaf=true:=by rcases hg with ⟨rfl,_⟩|⟨id,rfl,_⟩<;>rfl
   have hvc:v.cs=[v]:=by rcases hg with ⟨rfl,_⟩|⟨id,rfl,_⟩<;>rfl
   have hlen:∀ s,cd7 0 s v=some (.int .i64 (p.requires.length:Nat)):=fun s=>by
    rcases hg with ⟨rfl,he⟩|⟨id,rfl,_⟩
    ·have:p.requires=[]:=by simpa using he
     rw[this]; rfl
    ·rw[az9,List.length_map]
   simp only[go_sem,q02,pcs,hvl,hvc,hlen]
   refine ac2 noT (fun j fr t=>fr=[(1,.ptr 0 0),(2,.ptr 1 0),(4,.ptr 0 7),(25,.aa3 ca4),(26,.int .i64 6),(27,.int .i64 0),(39,v),(40,.int .i64 p.requires.length),(41,.int .i64 j)] /\
    s2.next<=t.next/\t.obj 0=some (.cells (pcs p v v8 v10 v11 v12 v13))/\t.obj 1=some (.cells ay6)/\∀ id cs,id<s2.next->s2.obj id=some (.row cs)->t.obj id=some (.row cs)) p.requires.length ⟨rfl,Nat.le_refl _,?_,?_,?_⟩ ?_
   ·simp only[aa5,if_true]; rfl
   ·simp only[aa5,reduceCtorEq,Int.reduceLT,Int.reduceLE,Int.reduceToNat,Int.reduceAdd,Nat.reduceEqDiff,Nat.reduceAdd,Nat.reduceMul,Nat.reduceLT,Nat.reduceLeDiff,decide_true,decide_false,↓reduceIte,if_false]; exact q12
   ·intro id cs hlt' h;have:¬ id=0:=fun e=>by subst e; rw[q02] at h; cases h
    simp only[aa5,this,if_false]; exact h
   rintro j fr t hle' ⟨rfl,t0,t1,t2,t3⟩;by_cases hjl:j<p.requires.length
   ·obtain ⟨a,ha,_,hdr,hget,_⟩:=ad2 p.requires j hjl;rcases hg with ⟨_,he⟩|⟨id,rfl,ho,hil⟩
    ·have:p.requires=[]:=by simpa using he
     rw[this] at hjl; cases hjl
    have hrow:=t3 _ _ hil ho;have c1:(j:Int)<p.requires.length:=by omega
    have c2:(0:Int)<=j:=by omega
    have w1:=af6 (i:=j) (by have:=hfl.1; omega);have hid0:¬ id=0:=fun e=>by subst e; rw[t1] at hrow; cases hrow
    have hid1:¬ id=1:=fun e=>by subst e; rw[t2] at hrow; cases hrow
    have u0:¬ 0=t.next:=by omega
    have u1:¬ 1=t.next:=by omega
    have u2:¬ id=t.next:=by omega
    have u3:¬ t.next=id:=by omega
    have u4:¬ 0=id:=by omega
    have u5:¬ 1=id:=by omega
    have hall:=fun x hx=>(al3 p.requires x hx).1
    have hfl2:=ap6 hall;have hpart:=aw4 hall j (by rw[List.length_map]; exact hjl);rw[hget] at hpart;rw[List.length_map] at hfl2;have hin:7<=((p.requires.map aa9.cs).flatten.drop (j*7)).length:=by rw[List.length_drop,hfl2]; omega
    have hin2:j*7+7<=(p.requires.map aa9.cs).flatten.length:=by rw[hfl2]; omega
    have hsame:ax1 (p.requires.map aa9.cs).flatten (j*7) a.cs=(p.requires.map aa9.cs).flatten:=az4 (by rw[ac6]; exact hpart) (by rw[ac6]; exact hin2);simp only[go_sem,c1,c2,hrow,hin,hpart,cb9,ac6,ad1,af4,t1,pcs,u0,u2,u3,hid0];refine aa6 (ao9 a (hfl.2 a ha).1) ?_;simp only[go_sem,c1,c2,hrow,hin2,cc1,ac6,ad1,hsame,t1,pcs,u0,u2,w1];refine ⟨hjl,by omega,?_,?_,?_⟩
    ·simp only[u4,if_false]
    ·simp only[u5,u1,if_false]; exact t2
    ·intro id' cs hlt' h;have h':=t3 id' cs hlt' h;have u6:¬ id'=t.next:=by omega
     by_cases e:id'=id
     ·subst e;rw[hrow] at h';simp only[if_true]; exact h'
     ·simp only[e,u6,if_false]; exact h'
   ·have hj':j=p.requires.length:=by omega
    subst hj';have c1:¬ (p.requires.length:Int)<p.requires.length:=by omega
    have hgt:Grow t v 7 (p.requires.map aa9.cs):=by
     rcases hg with h|⟨id,rfl,ho,hil⟩
     ·exact .inl h
     ·exact .inr ⟨id,rfl,t3 _ _ hil ho,by omega⟩
    have hrows:∀ id cs,id<s.next->s.obj id=some (.row cs)->t.obj id=some (.row cs):=fun id cs hlt' h=>t3 id cs (by omega) (by rw[hs2 id hlt']; exact h)
    have mm:∀ {d d':Prop} (u:IV) (l:List aa9),al4 s d u l->(d↔d')->al4 t d' u l:=fun u l h hd=>h.mono hd (by omega) hrows
    simp only[go_sem,c1];exact ⟨rfl,⟨t2,by omega⟩,v,v8,v10,v11,v12,v13,t1,.inl ⟨by simp,hgt⟩,mm _ _ o8 (by simp),mm _ _ o10 (by simp),mm _ _ o11 (by simp),mm _ _ o12 (by simp),mm _ _ o13 (by simp)⟩
  ·have hv:v8=ag6 p.conflicts:=by
    rcases o8 with ⟨h,_⟩|⟨_,h⟩
    ·exact absurd h (by omega)
    ·exact h
   subst hv;have hfl:p.conflicts.length<2^31/\∀ r∈p.conflicts,r.fit/\r.count<2^31:=hf.ay5 (2,p.conflicts) (by simp[aa2.rows]);simp only[go_sem,ca4,q0,pcs,bk6];refine am1 fok55 (ar4 p.conflicts _ (by have:=hfl.1; omega)) ?_;rintro v s2 ⟨hs2,hn2,hg,hid⟩;refine ⟨hn2,?_⟩;have q02:s2.obj 0=some (.cells (pcs p v7 (ag6 p.conflicts) v10 v11 v12 v13)):=by rw[hs2 0 (by omega)]; exact q0
   have q12:s2.obj 1=some (.cells ay6):=by rw[hs2 1 (by omega)]; exact q1
   have hvl:v.leaf=true:=by rcases hg with ⟨rfl,_⟩|⟨id,rfl,_⟩<;>rfl
   have hvc:v.cs=[v]:=by rcases hg with ⟨rfl,_⟩|⟨id,rfl,_⟩<;>rfl
   have hlen:∀ s,cd7 0 s v=some (.int .i64 (p.conflicts.length:Nat)):=fun s=>by
    rcases hg with ⟨rfl,he⟩|⟨id,rfl,_⟩
    ·have:p.conflicts=[]:=by simpa using he
     rw[this]; rfl
    ·rw[az9,List.length_map]
   simp only[go_sem,q02,pcs,hvl,hvc,hlen]
   refine ac2 noT (fun j fr t=>fr=[(1,.ptr 0 0),(2,.ptr 1 0),(4,.ptr 0 8),(25,.aa3 ca4),(26,.int .i64 6),(27,.int .i64 1),(39,v),(40,.int .i64 p.conflicts.length),(41,.int .i64 j)] /\
    s2.next<=t.next/\t.obj 0=some (.cells (pcs p v7 v v10 v11 v12 v13))/\t.obj 1=some (.cells ay6)/\∀ id cs,id<s2.next->s2.obj id=some (.row cs)->t.obj id=some (.row cs)) p.conflicts.length ⟨rfl,Nat.le_refl _,?_,?_,?_⟩ ?_
   ·simp only[aa5,if_true]; rfl
   ·simp only[aa5,reduceCtorEq,Int.reduceLT,Int.reduceLE,Int.reduceToNat,Int.reduceAdd,Nat.reduceEqDiff,Nat.reduceAdd,Nat.reduceMul,Nat.reduceLT,Nat.reduceLeDiff,decide_true,decide_false,↓reduceIte,if_false]; exact q12
   ·intro id cs hlt' h;have:¬ id=0:=fun e=>by subst e; rw[q02] at h; cases h
    simp only[aa5,this,if_false]; exact h
   rintro j fr t hle' ⟨rfl,t0,t1,t2,t3⟩;by_cases hjl:j<p.conflicts.length
   ·obtain ⟨a,ha,_,hdr,hget,_⟩:=ad2 p.conflicts j hjl;rcases hg with ⟨_,he⟩|⟨id,rfl,ho,hil⟩
    ·have:p.conflicts=[]:=by simpa using he
     rw[this] at hjl; cases hjl
    have hrow:=t3 _ _ hil ho;have c1:(j:Int)<p.conflicts.length:=by omega
    have c2:(0:Int)<=j:=by omega
    have w1:=af6 (i:=j) (by have:=hfl.1; omega);have hid0:¬ id=0:=fun e=>by subst e; rw[t1] at hrow; cases hrow
    have hid1:¬ id=1:=fun e=>by subst e; rw[t2] at hrow; cases hrow
    have u0:¬ 0=t.next:=by omega
    have u1:¬ 1=t.next:=by omega
    have u2:¬ id=t.next:=by omega
    have u3:¬ t.next=id:=by omega
    have u4:¬ 0=id:=by omega
    have u5:¬ 1=id:=by omega
    have hall:=fun x hx=>(al3 p.conflicts x hx).1
    have hfl2:=ap6 hall;have hpart:=aw4 hall j (by rw[List.length_map]; exact hjl);rw[hget] at hpart;rw[List.length_map] at hfl2;have hin:7<=((p.conflicts.map aa9.cs).flatten.drop (j*7)).length:=by rw[List.length_drop,hfl2]; omega
    have hin2:j*7+7<=(p.conflicts.map aa9.cs).flatten.length:=by rw[hfl2]; omega
    have hsame:ax1 (p.conflicts.map aa9.cs).flatten (j*7) a.cs=(p.conflicts.map aa9.cs).flatten:=az4 (by rw[ac6]; exact hpart) (by rw[ac6]; exact hin2);simp only[go_sem,c1,c2,hrow,hin,hpart,cb9,ac6,ad1,af4,t1,pcs,u0,u2,u3,hid0];refine aa6 (ao9 a (hfl.2 a ha).1) ?_;simp only[go_sem,c1,c2,hrow,hin2,cc1,ac6,ad1,hsame,t1,pcs,u0,u2,w1];refine ⟨hjl,by omega,?_,?_,?_⟩
    ·simp only[u4,if_false]
    ·simp only[u5,u1,if_false]; exact t2
    ·intro id' cs hlt' h;have h':=t3 id' cs hlt' h;have u6:¬ id'=t.next:=by omega
     by_cases e:id'=id
     ·subst e;rw[hrow] at h';simp only[if_true]; exact h'
     ·simp only[e,u6,if_false]; exact h'
   ·have hj':j=p.conflicts.length:=by omega
    subst hj';have c1:¬ (p.conflicts.length:Int)<p.conflicts.length:=by omega
    have hgt:Grow t v 7 (p.conflicts.map aa9.cs):=by
     rcases hg with h|⟨id,rfl,ho,hil⟩
     ·exact .inl h
     ·exact .inr ⟨id,rfl,t3 _ _ hil ho,by omega⟩
    have hrows:∀ id cs,id<s.next->s.obj id=some (.row cs)->t.obj id=some (.row cs):=fun id cs hlt' h=>t3 id cs (by omega) (by rw[hs2 id hlt']; exact h)
    have mm:∀ {d d':Prop} (u:IV) (l:List aa9),al4 s d u l->(d↔d')->al4 t d' u l:=fun u l h hd=>h.mono hd (by omega) hrows
    simp only[go_sem,c1];exact ⟨rfl,⟨t2,by omega⟩,v7,v,v10,v11,v12,v13,t1,mm _ _ o7 (by simp),.inl ⟨by simp,hgt⟩,mm _ _ o10 (by simp),mm _ _ o11 (by simp),mm _ _ o12 (by simp),mm _ _ o13 (by simp)⟩
  ·have hv:v10=ag6 p.ab7:=by
    rcases o10 with ⟨h,_⟩|⟨_,h⟩
    ·exact absurd h (by omega)
    ·exact h
   subst hv;have hfl:p.ab7.length<2^31/\∀ r∈p.ab7,r.fit/\r.count<2^31:=hf.ay5 (1,p.ab7) (by simp[aa2.rows]);simp only[go_sem,ca4,q0,pcs,bk6];refine am1 fok55 (ar4 p.ab7 _ (by have:=hfl.1; omega)) ?_;rintro v s2 ⟨hs2,hn2,hg,hid⟩;refine ⟨hn2,?_⟩;have q02:s2.obj 0=some (.cells (pcs p v7 v8 (ag6 p.ab7) v11 v12 v13)):=by rw[hs2 0 (by omega)]; exact q0
   have q12:s2.obj 1=some (.cells ay6):=by rw[hs2 1 (by omega)]; exact q1
   have hvl:v.leaf=true:=by rcases hg with ⟨rfl,_⟩|⟨id,rfl,_⟩<;>rfl
   have hvc:v.cs=[v]:=by rcases hg with ⟨rfl,_⟩|⟨id,rfl,_⟩<;>rfl
   have hlen:∀ s,cd7 0 s v=some (.int .i64 (p.ab7.length:Nat)):=fun s=>by
    rcases hg with ⟨rfl,he⟩|⟨id,rfl,_⟩
    ·have:p.ab7=[]:=by simpa using he
     rw[this]; rfl
    ·rw[az9,List.length_map]
   simp only[go_sem,q02,pcs,hvl,hvc,hlen]
   refine ac2 noT (fun j fr t=>fr=[(1,.ptr 0 0),(2,.ptr 1 0),(4,.ptr 0 10),(25,.aa3 ca4),(26,.int .i64 6),(27,.int .i64 2),(39,v),(40,.int .i64 p.ab7.length),(41,.int .i64 j)] /\
    s2.next<=t.next/\t.obj 0=some (.cells (pcs p v7 v8 v v11 v12 v13))/\t.obj 1=some (.cells ay6)/\∀ id cs,id<s2.next->s2.obj id=some (.row cs)->t.obj id=some (.row cs)) p.ab7.length ⟨rfl,Nat.le_refl _,?_,?_,?_⟩ ?_
   ·simp only[aa5,if_true]; rfl
   ·simp only[aa5,reduceCtorEq,Int.reduceLT,Int.reduceLE,Int.reduceToNat,Int.reduceAdd,Nat.reduceEqDiff,Nat.reduceAdd,Nat.reduceMul,Nat.reduceLT,Nat.reduceLeDiff,decide_true,decide_false,↓reduceIte,if_false]; exact q12
   ·intro id cs hlt' h;have:¬ id=0:=fun e=>by subst e; rw[q02] at h; cases h
    simp only[aa5,this,if_false]; exact h
   rintro j fr t hle' ⟨rfl,t0,t1,t2,t3⟩;by_cases hjl:j<p.ab7.length
   ·obtain ⟨a,ha,_,hdr,hget,_⟩:=ad2 p.ab7 j hjl;rcases hg with ⟨_,he⟩|⟨id,rfl,ho,hil⟩
    ·have:p.ab7=[]:=by simpa using he
     rw[this] at hjl; cases hjl
    have hrow:=t3 _ _ hil ho;have c1:(j:Int)<p.ab7.length:=by omega
    have c2:(0:Int)<=j:=by omega
    have w1:=af6 (i:=j) (by have:=hfl.1; omega);have hid0:¬ id=0:=fun e=>by subst e; rw[t1] at hrow; cases hrow
    have hid1:¬ id=1:=fun e=>by subst e; rw[t2] at hrow; cases hrow
    have u0:¬ 0=t.next:=by omega
    have u1:¬ 1=t.next:=by omega
    have u2:¬ id=t.next:=by omega
    have u3:¬ t.next=id:=by omega
    have u4:¬ 0=id:=by omega
    have u5:¬ 1=id:=by omega
    have hall:=fun x hx=>(al3 p.ab7 x hx).1
    have hfl2:=ap6 hall;have hpart:=aw4 hall j (by rw[List.length_map]; exact hjl);rw[hget] at hpart;rw[List.length_map] at hfl2;have hin:7<=((p.ab7.map aa9.cs).flatten.drop (j*7)).length:=by rw[List.length_drop,hfl2]; omega
    have hin2:j*7+7<=(p.ab7.map aa9.cs).flatten.length:=by rw[hfl2]; omega
    have hsame:ax1 (p.ab7.map aa9.cs).flatten (j*7) a.cs=(p.ab7.map aa9.cs).flatten:=az4 (by rw[ac6]; exact hpart) (by rw[ac6]; exact hin2);simp only[go_sem,c1,c2,hrow,hin,hpart,cb9,ac6,ad1,af4,t1,pcs,u0,u2,u3,hid0];refine aa6 (ao9 a (hfl.2 a ha).1) ?_;simp only[go_sem,c1,c2,hrow,hin2,cc1,ac6,ad1,hsame,t1,pcs,u0,u2,w1];refine ⟨hjl,by omega,?_,?_,?_⟩
    ·simp only[u4,if_false]
    ·simp only[u5,u1,if_false]; exact t2
    ·intro id' cs hlt' h;have h':=t3 id' cs hlt' h;have u6:¬ id'=t.next:=by omega
     by_cases e:id'=id
     ·subst e;rw[hrow] at h';simp only[if_true]; exact h'
     ·simp only[e,u6,if_false]; exact h'
   ·have hj':j=p.ab7.length:=by omega
    subst hj';have c1:¬ (p.ab7.length:Int)<p.ab7.length:=by omega
    have hgt:Grow t v 7 (p.ab7.map aa9.cs):=by
     rcases hg with h|⟨id,rfl,ho,hil⟩
     ·exact .inl h
     ·exact .inr ⟨id,rfl,t3 _ _ hil ho,by omega⟩
    have hrows:∀ id cs,id<s.next->s.obj id=some (.row cs)->t.obj id=some (.row cs):=fun id cs hlt' h=>t3 id cs (by omega) (by rw[hs2 id hlt']; exact h)
    have mm:∀ {d d':Prop} (u:IV) (l:List aa9),al4 s d u l->(d↔d')->al4 t d' u l:=fun u l h hd=>h.mono hd (by omega) hrows
    simp only[go_sem,c1];exact ⟨rfl,⟨t2,by omega⟩,v7,v8,v,v11,v12,v13,t1,mm _ _ o7 (by simp),mm _ _ o8 (by simp),.inl ⟨by simp,hgt⟩,mm _ _ o11 (by simp),mm _ _ o12 (by simp),mm _ _ o13 (by simp)⟩
  ·have hv:v11=ag6 p.ab3:=by
    rcases o11 with ⟨h,_⟩|⟨_,h⟩
    ·exact absurd h (by omega)
    ·exact h
   subst hv;have hfl:p.ab3.length<2^31/\∀ r∈p.ab3,r.fit/\r.count<2^31:=hf.ay5 (3,p.ab3) (by simp[aa2.rows]);simp only[go_sem,ca4,q0,pcs,bk6];refine am1 fok55 (ar4 p.ab3 _ (by have:=hfl.1; omega)) ?_;rintro v s2 ⟨hs2,hn2,hg,hid⟩;refine ⟨hn2,?_⟩;have q02:s2.obj 0=some (.cells (pcs p v7 v8 v10 (ag6 p.ab3) v12 v13)):=by rw[hs2 0 (by omega)]; exact q0
   have q12:s2.obj 1=some (.cells ay6):=by rw[hs2 1 (by omega)]; exact q1
   have hvl:v.leaf=true:=by rcases hg with ⟨rfl,_⟩|⟨id,rfl,_⟩<;>rfl
   have hvc:v.cs=[v]:=by rcases hg with ⟨rfl,_⟩|⟨id,rfl,_⟩<;>rfl
   have hlen:∀ s,cd7 0 s v=some (.int .i64 (p.ab3.length:Nat)):=fun s=>by
    rcases hg with ⟨rfl,he⟩|⟨id,rfl,_⟩
    ·have:p.ab3=[]:=by simpa using he
     rw[this]; rfl
    ·rw[az9,List.length_map]
   simp only[go_sem,q02,pcs,hvl,hvc,hlen]
   refine ac2 noT (fun j fr t=>fr=[(1,.ptr 0 0),(2,.ptr 1 0),(4,.ptr 0 11),(25,.aa3 ca4),(26,.int .i64 6),(27,.int .i64 3),(39,v),(40,.int .i64 p.ab3.length),(41,.int .i64 j)] /\
    s2.next<=t.next/\t.obj 0=some (.cells (pcs p v7 v8 v10 v v12 v13))/\t.obj 1=some (.cells ay6)/\∀ id cs,id<s2.next->s2.obj id=some (.row cs)->t.obj id=some (.row cs)) p.ab3.length ⟨rfl,Nat.le_refl _,?_,?_,?_⟩ ?_
   ·simp only[aa5,if_true]; rfl
   ·simp only[aa5,reduceCtorEq,Int.reduceLT,Int.reduceLE,Int.reduceToNat,Int.reduceAdd,Nat.reduceEqDiff,Nat.reduceAdd,Nat.reduceMul,Nat.reduceLT,Nat.reduceLeDiff,decide_true,decide_false,↓reduceIte,if_false]; exact q12
   ·intro id cs hlt' h;have:¬ id=0:=fun e=>by subst e; rw[q02] at h; cases h
    simp only[aa5,this,if_false]; exact h
   rintro j fr t hle' ⟨rfl,t0,t1,t2,t3⟩;by_cases hjl:j<p.ab3.length
   ·obtain ⟨a,ha,_,hdr,hget,_⟩:=ad2 p.ab3 j hjl;rcases hg with ⟨_,he⟩|⟨id,rfl,ho,hil⟩
    ·have:p.ab3=[]:=by simpa using he
     rw[this] at hjl; cases hjl
    have hrow:=t3 _ _ hil ho;have c1:(j:Int)<p.ab3.length:=by omega
    have c2:(0:Int)<=j:=by omega
    have w1:=af6 (i:=j) (by have:=hfl.1; omega);have hid0:¬ id=0:=fun e=>by subst e; rw[t1] at hrow; cases hrow
    have hid1:¬ id=1:=fun e=>by subst e; rw[t2] at hrow; cases hrow
    have u0:¬ 0=t.next:=by omega
    have u1:¬ 1=t.next:=by omega
    have u2:¬ id=t.next:=by omega
    have u3:¬ t.next=id:=by omega
    have u4:¬ 0=id:=by omega
    have u5:¬ 1=id:=by omega
    have hall:=fun x hx=>(al3 p.ab3 x hx).1
    have hfl2:=ap6 hall;have hpart:=aw4 hall j (by rw[List.length_map]; exact hjl);rw[hget] at hpart;rw[List.length_map] at hfl2;have hin:7<=((p.ab3.map aa9.cs).flatten.drop (j*7)).length:=by rw[List.length_drop,hfl2]; omega
    have hin2:j*7+7<=(p.ab3.map aa9.cs).flatten.length:=by rw[hfl2]; omega
    have hsame:ax1 (p.ab3.map aa9.cs).flatten (j*7) a.cs=(p.ab3.map aa9.cs).flatten:=az4 (by rw[ac6]; exact hpart) (by rw[ac6]; exact hin2);simp only[go_sem,c1,c2,hrow,hin,hpart,cb9,ac6,ad1,af4,t1,pcs,u0,u2,u3,hid0];refine aa6 (ao9 a (hfl.2 a ha).1) ?_;simp only[go_sem,c1,c2,hrow,hin2,cc1,ac6,ad1,hsame,t1,pcs,u0,u2,w1];refine ⟨hjl,by omega,?_,?_,?_⟩
    ·simp only[u4,if_false]
    ·simp only[u5,u1,if_false]; exact t2
    ·intro id' cs hlt' h;have h':=t3 id' cs hlt' h;have u6:¬ id'=t.next:=by omega
     by_cases e:id'=id
     ·subst e;rw[hrow] at h';simp only[if_true]; exact h'
     ·simp only[e,u6,if_false]; exact h'
   ·have hj':j=p.ab3.length:=by omega
    subst hj';have c1:¬ (p.ab3.length:Int)<p.ab3.length:=by omega
    have hgt:Grow t v 7 (p.ab3.map aa9.cs):=by
     rcases hg with h|⟨id,rfl,ho,hil⟩
     ·exact .inl h
     ·exact .inr ⟨id,rfl,t3 _ _ hil ho,by omega⟩
    have hrows:∀ id cs,id<s.next->s.obj id=some (.row cs)->t.obj id=some (.row cs):=fun id cs hlt' h=>t3 id cs (by omega) (by rw[hs2 id hlt']; exact h)
    have mm:∀ {d d':Prop} (u:IV) (l:List aa9),al4 s d u l->(d↔d')->al4 t d' u l:=fun u l h hd=>h.mono hd (by omega) hrows
    simp only[go_sem,c1];exact ⟨rfl,⟨t2,by omega⟩,v7,v8,v10,v,v12,v13,t1,mm _ _ o7 (by simp),mm _ _ o8 (by simp),mm _ _ o10 (by simp),.inl ⟨by simp,hgt⟩,mm _ _ o12 (by simp),mm _ _ o13 (by simp)⟩
  ·have hv:v12=ag6 p.suggests:=by
    rcases o12 with ⟨h,_⟩|⟨_,h⟩
    ·exact absurd h (by omega)
    ·exact h
   subst hv;have hfl:p.suggests.length<2^31/\∀ r∈p.suggests,r.fit/\r.count<2^31:=hf.ay5 (1,p.suggests) (by simp[aa2.rows]);simp only[go_sem,ca4,q0,pcs,bk6];refine am1 fok55 (ar4 p.suggests _ (by have:=hfl.1; omega)) ?_;rintro v s2 ⟨hs2,hn2,hg,hid⟩;refine ⟨hn2,?_⟩;have q02:s2.obj 0=some (.cells (pcs p v7 v8 v10 v11 (ag6 p.suggests) v13)):=by rw[hs2 0 (by omega)]; exact q0
   have q12:s2.obj 1=some (.cells ay6):=by rw[hs2 1 (by omega)]; exact q1
   have hvl:v.leaf=true:=by rcases hg with ⟨rfl,_⟩|⟨id,rfl,_⟩<;>rfl
   have hvc:v.cs=[v]:=by rcases hg with ⟨rfl,_⟩|⟨id,rfl,_⟩<;>rfl
   have hlen:∀ s,cd7 0 s v=some (.int .i64 (p.suggests.length:Nat)):=fun s=>by
    rcases hg with ⟨rfl,he⟩|⟨id,rfl,_⟩
    ·have:p.suggests=[]:=by simpa using he
     rw[this]; rfl
    ·rw[az9,List.length_map]
   simp only[go_sem,q02,pcs,hvl,hvc,hlen]
   refine ac2 noT (fun j fr t=>fr=[(1,.ptr 0 0),(2,.ptr 1 0),(4,.ptr 0 12),(25,.aa3 ca4),(26,.int .i64 6),(27,.int .i64 4),(39,v),(40,.int .i64 p.suggests.length),(41,.int .i64 j)] /\
    s2.next<=t.next/\t.obj 0=some (.cells (pcs p v7 v8 v10 v11 v v13))/\t.obj 1=some (.cells ay6)/\∀ id cs,id<s2.next->s2.obj id=some (.row cs)->t.obj id=some (.row cs)) p.suggests.length ⟨rfl,Nat.le_refl _,?_,?_,?_⟩ ?_
   ·simp only[aa5,if_true]; rfl
   ·simp only[aa5,reduceCtorEq,Int.reduceLT,Int.reduceLE,Int.reduceToNat,Int.reduceAdd,Nat.reduceEqDiff,Nat.reduceAdd,Nat.reduceMul,Nat.reduceLT,Nat.reduceLeDiff,decide_true,decide_false,↓reduceIte,if_false]; exact q12
   ·intro id cs hlt' h;have:¬ id=0:=fun e=>by subst e; rw[q02] at h; cases h
    simp only[aa5,this,if_false]; exact h
   rintro j fr t hle' ⟨rfl,t0,t1,t2,t3⟩;by_cases hjl:j<p.suggests.length
   ·obtain ⟨a,ha,_,hdr,hget,_⟩:=ad2 p.suggests j hjl;rcases hg with ⟨_,he⟩|⟨id,rfl,ho,hil⟩
    ·have:p.suggests=[]:=by simpa using he
     rw[this] at hjl; cases hjl
    have hrow:=t3 _ _ hil ho;have c1:(j:Int)<p.suggests.length:=by omega
    have c2:(0:Int)<=j:=by omega
    have w1:=af6 (i:=j) (by have:=hfl.1; omega);have hid0:¬ id=0:=fun e=>by subst e; rw[t1] at hrow; cases hrow
    have hid1:¬ id=1:=fun e=>by subst e; rw[t2] at hrow; cases hrow
    have u0:¬ 0=t.next:=by omega
    have u1:¬ 1=t.next:=by omega
    have u2:¬ id=t.next:=by omega
    have u3:¬ t.next=id:=by omega
    have u4:¬ 0=id:=by omega
    have u5:¬ 1=id:=by omega
    have hall:=fun x hx=>(al3 p.suggests x hx).1
    have hfl2:=ap6 hall;have hpart:=aw4 hall j (by rw[List.length_map]; exact hjl);rw[hget] at hpart;rw[List.length_map] at hfl2;have hin:7<=((p.suggests.map aa9.cs).flatten.drop (j*7)).length:=by rw[List.length_drop,hfl2]; omega
    have hin2:j*7+7<=(p.suggests.map aa9.cs).flatten.length:=by rw[hfl2]; omega
    have hsame:ax1 (p.suggests.map aa9.cs).flatten (j*7) a.cs=(p.suggests.map aa9.cs).flatten:=az4 (by rw[ac6]; exact hpart) (by rw[ac6]; exact hin2);simp only[go_sem,c1,c2,hrow,hin,hpart,cb9,ac6,ad1,af4,t1,pcs,u0,u2,u3,hid0];refine aa6 (ao9 a (hfl.2 a ha).1) ?_;simp only[go_sem,c1,c2,hrow,hin2,cc1,ac6,ad1,hsame,t1,pcs,u0,u2,w1];refine ⟨hjl,by omega,?_,?_,?_⟩
    ·simp only[u4,if_false]
    ·simp only[u5,u1,if_false]; exact t2
    ·intro id' cs hlt' h;have h':=t3 id' cs hlt' h;have u6:¬ id'=t.next:=by omega
     by_cases e:id'=id
     ·subst e;rw[hrow] at h';simp only[if_true]; exact h'
     ·simp only[e,u6,if_false]; exact h'
   ·have hj':j=p.suggests.length:=by omega
    subst hj';have c1:¬ (p.suggests.length:Int)<p.suggests.length:=by omega
    have hgt:Grow t v 7 (p.suggests.map aa9.cs):=by
     rcases hg with h|⟨id,rfl,ho,hil⟩
     ·exact .inl h
     ·exact .inr ⟨id,rfl,t3 _ _ hil ho,by omega⟩
    have hrows:∀ id cs,id<s.next->s.obj id=some (.row cs)->t.obj id=some (.row cs):=fun id cs hlt' h=>t3 id cs (by omega) (by rw[hs2 id hlt']; exact h)
    have mm:∀ {d d':Prop} (u:IV) (l:List aa9),al4 s d u l->(d↔d')->al4 t d' u l:=fun u l h hd=>h.mono hd (by omega) hrows
    simp only[go_sem,c1];exact ⟨rfl,⟨t2,by omega⟩,v7,v8,v10,v11,v,v13,t1,mm _ _ o7 (by simp),mm _ _ o8 (by simp),mm _ _ o10 (by simp),mm _ _ o11 (by simp),.inl ⟨by simp,hgt⟩,mm _ _ o13 (by simp)⟩
  ·have hv:v13=ag6 p.ac3:=by
    rcases o13 with ⟨h,_⟩|⟨_,h⟩
    ·exact absurd h (by omega)
    ·exact h
   subst hv;have hfl:p.ac3.length<2^31/\∀ r∈p.ac3,r.fit/\r.count<2^31:=hf.ay5 (3,p.ac3) (by simp[aa2.rows]);simp only[go_sem,ca4,q0,pcs,bk6];refine am1 fok55 (ar4 p.ac3 _ (by have:=hfl.1; omega)) ?_;rintro v s2 ⟨hs2,hn2,hg,hid⟩;refine ⟨hn2,?_⟩;have q02:s2.obj 0=some (.cells (pcs p v7 v8 v10 v11 v12 (ag6 p.ac3))):=by rw[hs2 0 (by omega)]; exact q0
   have q12:s2.obj 1=some (.cells ay6):=by rw[hs2 1 (by omega)]; exact q1
   have hvl:v.leaf=true:=by rcases hg with ⟨rfl,_⟩|⟨id,rfl,_⟩<;>rfl
   have hvc:v.cs=[v]:=by rcases hg with ⟨rfl,_⟩|⟨id,rfl,_⟩<;>rfl
   have hlen:∀ s,cd7 0 s v=some (.int .i64 (p.ac3.length:Nat)):=fun s=>by
    rcases hg with ⟨rfl,he⟩|⟨id,rfl,_⟩
    ·have:p.ac3=[]:=by simpa using he
     rw[this]; rfl
    ·rw[az9,List.length_map]
   simp only[go_sem,q02,pcs,hvl,hvc,hlen]
   refine ac2 noT (fun j fr t=>fr=[(1,.ptr 0 0),(2,.ptr 1 0),(4,.ptr 0 13),(25,.aa3 ca4),(26,.int .i64 6),(27,.int .i64 5),(39,v),(40,.int .i64 p.ac3.length),(41,.int .i64 j)] /\
    s2.next<=t.next/\t.obj 0=some (.cells (pcs p v7 v8 v10 v11 v12 v))/\t.obj 1=some (.cells ay6)/\∀ id cs,id<s2.next->s2.obj id=some (.row cs)->t.obj id=some (.row cs)) p.ac3.length ⟨rfl,Nat.le_refl _,?_,?_,?_⟩ ?_
   ·simp only[aa5,if_true]; rfl
   ·simp only[aa5,reduceCtorEq,Int.reduceLT,Int.reduceLE,Int.reduceToNat,Int.reduceAdd,Nat.reduceEqDiff,Nat.reduceAdd,Nat.reduceMul,Nat.reduceLT,Nat.reduceLeDiff,decide_true,decide_false,↓reduceIte,if_false]; exact q12
   ·intro id cs hlt' h;have:¬ id=0:=fun e=>by subst e; rw[q02] at h; cases h
    simp only[aa5,this,if_false]; exact h
   rintro j fr t hle' ⟨rfl,t0,t1,t2,t3⟩;by_cases hjl:j<p.ac3.length
   ·obtain ⟨a,ha,_,hdr,hget,_⟩:=ad2 p.ac3 j hjl;rcases hg with ⟨_,he⟩|⟨id,rfl,ho,hil⟩
    ·have:p.ac3=[]:=by simpa using he
     rw[this] at hjl; cases hjl
    have hrow:=t3 _ _ hil ho;have c1:(j:Int)<p.ac3.length:=by omega
    have c2:(0:Int)<=j:=by omega
    have w1:=af6 (i:=j) (by have:=hfl.1; omega);have hid0:¬ id=0:=fun e=>by subst e; rw[t1] at hrow; cases hrow
    have hid1:¬ id=1:=fun e=>by subst e; rw[t2] at hrow; cases hrow
    have u0:¬ 0=t.next:=by omega
    have u1:¬ 1=t.next:=by omega
    have u2:¬ id=t.next:=by omega
    have u3:¬ t.next=id:=by omega
    have u4:¬ 0=id:=by omega
    have u5:¬ 1=id:=by omega
    have hall:=fun x hx=>(al3 p.ac3 x hx).1
    have hfl2:=ap6 hall;have hpart:=aw4 hall j (by rw[List.length_map]; exact hjl);rw[hget] at hpart;rw[List.length_map] at hfl2;have hin:7<=((p.ac3.map aa9.cs).flatten.drop (j*7)).length:=by rw[List.length_drop,hfl2]; omega
    have hin2:j*7+7<=(p.ac3.map aa9.cs).flatten.length:=by rw[hfl2]; omega
    have hsame:ax1 (p.ac3.map aa9.cs).flatten (j*7) a.cs=(p.ac3.map aa9.cs).flatten:=az4 (by rw[ac6]; exact hpart) (by rw[ac6]; exact hin2);simp only[go_sem,c1,c2,hrow,hin,hpart,cb9,ac6,ad1,af4,t1,pcs,u0,u2,u3,hid0];refine aa6 (ao9 a (hfl.2 a ha).1) ?_;simp only[go_sem,c1,c2,hrow,hin2,cc1,ac6,ad1,hsame,t1,pcs,u0,u2,w1];refine ⟨hjl,by omega,?_,?_,?_⟩
    ·simp only[u4,if_false]
    ·simp only[u5,u1,if_false]; exact t2
    ·intro id' cs hlt' h;have h':=t3 id' cs hlt' h;have u6:¬ id'=t.next:=by omega
     by_cases e:id'=id
     ·subst e;rw[hrow] at h';simp only[if_true]; exact h'
     ·simp only[e,u6,if_false]; exact h'
   ·have hj':j=p.ac3.length:=by omega
    subst hj';have c1:¬ (p.ac3.length:Int)<p.ac3.length:=by omega
    have hgt:Grow t v 7 (p.ac3.map aa9.cs):=by
     rcases hg with h|⟨id,rfl,ho,hil⟩
     ·exact .inl h
     ·exact .inr ⟨id,rfl,t3 _ _ hil ho,by omega⟩
    have hrows:∀ id cs,id<s.next->s.obj id=some (.row cs)->t.obj id=some (.row cs):=fun id cs hlt' h=>t3 id cs (by omega) (by rw[hs2 id hlt']; exact h)
    have mm:∀ {d d':Prop} (u:IV) (l:List aa9),al4 s d u l->(d↔d')->al4 t d' u l:=fun u l h hd=>h.mono hd (by omega) hrows
    simp only[go_sem,c1];exact ⟨rfl,⟨t2,by omega⟩,v7,v8,v10,v11,v12,v,t1,mm _ _ o7 (by simp),mm _ _ o8 (by simp),mm _ _ o10 (by simp),mm _ _ o11 (by simp),mm _ _ o12 (by simp),.inl ⟨by simp,hgt⟩⟩
 ·have hi':i=6:=by omega
  subst hi';have c1:¬ ((6:Nat):Int)<6:=by omega
  simp only[go_sem,c1,q0,q1,pcs,ay6,bq5,o7.leaf,o8.leaf,o10.leaf,o11.leaf,o12.leaf,o13.leaf]
  have fz:∀ (v:IV) (l:List aa9) (k:Nat) (s':Store),k<6->al4 s (k<6) v l->(∀ id cs,s.obj id=some (.row cs)->s'.obj id=some (.row cs))->s.next<=s'.next->dh8 s' 0 v (ag6 l):=by
   intro v l k s' hk ho h1 h2;rcases ho.mono Iff.rfl h2 (fun id cs _ h=>h1 id cs h) with ⟨_,h⟩|⟨h,_⟩
   ·exact h.frz (fun x hx=>(al3 l x hx).1) (fun _ _=>Nat.not_lt_zero _) (aj2 (af8 l))
   ·exact absurd hk h
  have hr:∀ id cs,s.obj id=some (.row cs)->(s.put 1 (ak2.cells (pcs p v7 v8 v10 v11 v12 v13))).obj id=some (.row cs):=fun id cs h=>by
   have:¬ id=1:=fun e=>by subst e; rw[q1] at h; cases h
   simp only[aa5,this,if_false]; exact h
  have b1:=fun v hv=>Frz.keep (σ:=s.put 1 (ak2.cells (pcs p v7 v8 v10 v11 v12 v13))) (S:=fun i=>i<0) v hv
  exact .in2 (.cons (ar1 _) (.cons (ac4 _ _) (.cons (ar1 _) (.cons (ar1 _) (.cons (ac4 _ _) (.cons (ar1 _) (.cons (b1 _ (bc3 _))
   (.cons (fz v7 _ 0 _ (by omega) o7 hr (Nat.le_refl _)) (.cons (fz v8 _ 1 _ (by omega) o8 hr (Nat.le_refl _)) (.cons (b1 _ (bc3 _)) (.cons (fz v10 _ 2 _ (by omega) o10 hr (Nat.le_refl _)) (.cons (fz v11 _ 3 _ (by omega) o11 hr (Nat.le_refl _))
   (.cons (fz v12 _ 4 _ (by omega) o12 hr (Nat.le_refl _)) (.cons (fz v13 _ 5 _ (by omega) o13 hr (Nat.le_refl _)) (.cons (b1 _ (bk1 _)) .nil)))))))))))))))
end Go.Id.Tryz
