/- Versions,EVRs,ranges compared; who provides what. Conditions: sizes that fit. -/
import Derived.Test.YteomphdgniepbaaGreatDoorTNQA
import Derived.Test.YteomphdgniepbaaGreatDoorTNPE
import Derived.Test.YteomphdgniepbaaGreatDoorMw
set_option linter.all false
namespace Go.Id.Tryz
open Go Go.Id Go.Proofs Go.Id.Md
set_option maxRecDepth 100000
theorem dt9 (s:Str):PC Tryz.prog EE 270 [.str s] (.func (.func 314) [] [.ac2 [.str s]]):=by
 refine ai1 hE fok270 (nZ rfl) (af4 (.str _)) ?_;simp only[ic270,go_sem];have h1:∀ c∈[IV.str s],Bnd 0 c:=af4 (.str _);have h2:∀ c∈[IV.ac2 [.str s]],Bnd 0 c:=af4 (.ac2 _ h1);exact .keep _ (.func _ _ _ (fun c hc=>by cases hc) h2)
theorem bw2 (l:List Part):∀ e∈l.map Part.cs,e.length=2∧e.all IV.leaf=true:=fun e he=>by
 obtain ⟨x,_,rfl⟩:=List.mem_map.1 he; exact ⟨rfl,rfl⟩
theorem fd6:∀ (n:Nat) (l:Str),l.length≤n→(aq8 n l).length≤l.length:=by
 intro n
 induction n with
 | zero=>intro l h; simp[aq8]
 | succ n ih=>
  intro l h
  cases l with
  | nil=>simp[aq8]
  | cons b l=>
   simp only[List.length_cons] at h;simp only[aq8];split
   ·exact Nat.le_trans (ih l (by omega)) (by simp)
   ·split
    ·simp only[List.length_cons]; have:=ih l (by omega); omega
    ·simp only[List.length_cons]
     have hd:((b::l).dropWhile fun c=>ae4 c==ae4 b).length≤l.length:=by
      rw[List.dropWhile_cons,if_pos (by simp)]; exact cl2 l
     have:=ih _ (Nat.le_trans hd (by omega));omega
theorem cg6 (s:Str):(ae8 s).length≤s.length:=fd6 _ _ (Nat.le_refl _)
theorem de2 (s:Str)(hs:s.length<2^30)(σ:Store):C Tryz.prog EE 202 [.str s] σ fun v t=>(∀ i,i<σ.next→t.obj i=σ.obj i)∧σ.next≤t.next∧Grow t v 2 ((ae8 s).map Part.cs)∧∀ id n,v=.slice id 0 n 2→σ.next≤id:=by
 refine C_f fok202 (nZ rfl) ?_;simp only[ic202,go_sem];refine aa5 fok270 (dt9 s) ?_;simp only[go_sem];have hvl:=cg6 s;refine co5 (gk4 s (by omega)) (fun rest t=>∃ n v,n≤(ae8 s).length∧rest=((ae8 s).drop n).map evP∧(∀ i,i<σ.next→t.obj i=σ.obj i)∧t.obj σ.next=some (.cells [v])∧σ.next<t.next∧Grow t v 2 (((ae8 s).take n).map Part.cs)∧∀ id k,v=.slice id 0 k 2→σ.next+1<id) (fun _ _ _=>trivial) ?_ ?_ ?_ ?_ ?_
 ·rintro rest t t' ⟨n,v,h0,h1,h2,h3,h4,h5,h6⟩ hn ho;exact ⟨n,v,h0,h1,fun i hi=>by rw[ho i (by omega)]; exact h2 i hi,by rw[ho _ h4]; exact h3,by omega,h5.mono hn fun id _ hid=>ho id hid,h6⟩
 ·intro a ha;obtain ⟨p,_,rfl⟩:=List.mem_map.1 ha;rfl
 ·intro o;have e0:¬ σ.next=σ.next+1:=by omega
  refine ⟨0,.aa1,Nat.zero_le _,rfl,fun i hi=>?_,?_,by show σ.next<σ.next+1+1; omega,.inl ⟨rfl,by simp⟩,fun id k h=>by cases h⟩
  ·have e1:¬ i=σ.next:=by omega
   have e2:¬ i=σ.next+1:=by omega
   simp only[aa4,ab1,e1,e2,if_false]
  ·simp only[aa4,ab1,e0,if_false,if_true]
 ·rintro L pre a rest t hev ⟨n,v,h0,h1,h2,h3,h4,h5,h6⟩ hL hlt
  have hn:n<(ae8 s).length:=by
   rcases Nat.lt_or_ge n (ae8 s).length with h|h
   ·exact h
   ·rw[List.drop_of_length_le h] at h1; cases h1
  rw[List.drop_eq_getElem_cons hn,List.map_cons] at h1;obtain ⟨ha,hrest⟩:=List.cons.inj h1;subst ha;simp only[evP,Part.cs,ab1] at hL hlt ⊢;have e1:¬ σ.next+1=t.next:=by omega
  have e2:¬ σ.next=t.next:=by omega
  have e3:¬ σ.next=σ.next+1:=by omega
  have e4:¬ t.next=σ.next+1:=by omega
  have e5:¬ t.next=σ.next:=by omega
  simp only[go_sem,hL,e1,e2,e3,e4,h3];generalize hU:(((Store.put ⟨t.next+1,t.obj⟩ t.next (aj2.cells [IV.int .u8 0,IV.str []])).put t.next (aj2.cells [IV.int .u8 ↑(ae8 s)[n].kind,IV.str (ae8 s)[n].s])).put (σ.next+1) (L .busy none))=U
  have hUo:∀ i,i<t.next→i≠σ.next+1→U.obj i=t.obj i:=fun i hi hne=>by
   have:¬ i=t.next:=by omega
   rw[← hU]; simp only[aa4,hne,this,if_false]
  have hUL:U.obj (σ.next+1)=some (L .busy none):=by rw[← hU]; simp only[aa4,if_true]
  have hg:Grow ⟨t.next+1+1,U.obj⟩ v 2 (((ae8 s).take n).map Part.cs):=by
   refine h5.mono (by show t.next≤t.next+1+1; omega) fun id hv hid=>?_
   have:=h6 _ _ hv;exact hUo id hid (by omega)
  have hl0:(((ae8 s).take n).map Part.cs).length=n:=by rw[List.length_map,List.length_take]; omega
  have hap:=am7 (nid:=t.next+1) (e:=[IV.int .u8 ↑(ae8 s)[n].kind,IV.str (ae8 s)[n].s]) hg (bw2 _) ⟨rfl,rfl⟩ (by rw[hl0]; omega);have k1:=ah3 hg σ.next (.cells [v]) (by show U.obj _=_; rw[hUo _ h4 e3]; exact h3) (fun _ h=>by cases h)
  have k2:(ak3 v ⟨t.next+1+1,U.obj⟩).obj (σ.next+1)=some (L .busy none):=by
   cases hv:v<;>try exact hUL
   rename_i id o n' e;show (if σ.next+1=id then none else U.obj _)=_;rcases h5 with ⟨h,_⟩|⟨id',h,_,_⟩
   ·rw[h] at hv; cases hv
   ·rw[hv] at h; cases h;have:=h6 _ _ hv;rw[if_neg (by omega)]; exact hUL
  have k3:∀ i,i<σ.next→(ak3 v ⟨t.next+1+1,U.obj⟩).obj i=σ.obj i:=fun i hi=>by
   have e7:U.obj i=σ.obj i:=by rw[hUo i (by omega) (by omega)]; exact h2 i hi
   cases hv:v<;>try exact e7
   rename_i id o n' e;show (if i=id then none else U.obj _)=_;rcases h5 with ⟨h,_⟩|⟨id',h,_,_⟩
   ·rw[h] at hv; cases hv
   ·rw[hv] at h; cases h;have:=h6 _ _ hv;rw[if_neg (by omega)]; exact e7
  have kn:=ah2 (σ:=⟨t.next+1+1,U.obj⟩) v;rw[hl0] at hap;have e6:¬ σ.next=t.next+1:=by omega
  have e7:¬ σ.next+1=t.next+1:=by omega
  have e8:¬ σ.next+1=σ.next:=by omega
  simp only[go_sem,hap,e6,k1,e7,e8,k2];refine dg9 (by rw[ab1,ab1,ab1,kn]; show t.next≤t.next+1+1; omega) (by simp only[aa4,if_true]) ?_;refine ⟨n+1,.slice (t.next+1) 0 (n+1) 2,hn,hrest,fun i hi=>?_,?_,?_,?_,fun id k h=>?_⟩
  ·have g1:¬ i=σ.next+1:=by omega
   have g2:¬ i=σ.next:=by omega
   have g3:¬ i=t.next+1:=by omega
   simp only[aa4,g1,g2,g3,if_false]; exact k3 i hi
  ·simp only[aa4,e3,if_false,if_true]
  ·simp only[ab1,kn]; omega
  ·have htk:(ae8 s).take (n+1)=(ae8 s).take n++[(ae8 s)[n]]:=by rw[List.take_succ_eq_append_getElem hn]
   rw[htk,List.map_append];refine .inr ⟨t.next+1,by simp; omega,?_,by simp only[ab1,kn]; omega⟩;have g1:¬ t.next+1=σ.next+1:=by omega
   have g2:¬ t.next+1=σ.next:=by omega
   simp only[aa4,g1,g2,if_false,if_true]; rfl
  ·cases h; omega
 ·rintro t o ⟨n,v,h0,h1,h2,h3,h4,h5,h6⟩ hlt ho
  have hn:n=(ae8 s).length:=by
   rcases Nat.lt_or_ge n (ae8 s).length with h|h
   ·rw[List.drop_eq_getElem_cons h] at h1; cases h1
   ·omega
  subst hn;have e3:¬ σ.next=σ.next+1:=by omega
  simp only[ab1] at hlt ho ⊢;simp only[go_sem,e3,h3];rw[List.take_length] at h5;refine ⟨fun i hi=>?_,by omega,h5.mono (Nat.le_refl _) fun id hv hid=>?_,fun id k h=>?_⟩
  ·have g1:¬ i=σ.next+1:=by omega
   rw[if_neg g1]; exact h2 i hi
  ·have:=h6 _ _ hv;have g1:¬ id=σ.next+1:=by omega
   show (if id=σ.next+1 then none else t.obj id)=_;rw[if_neg g1]
  ·have:=h6 _ _ h; omega
theorem gt5 {p:UInt8→Bool}(l:Str):(l.takeWhile p).length≤l.length:=(List.takeWhile_sublist _).length_le
theorem gl6:∀ (n:Nat) (l:Str),l.length≤n→∀ p∈aq8 n l,p.s.length≤l.length:=by
 intro n
 induction n with
 | zero=>intro l h p hp; simp[aq8] at hp
 | succ n ih=>
  intro l h p hp
  cases l with
  | nil=>simp[aq8] at hp
  | cons b l=>
   simp only[List.length_cons] at h;simp only[aq8] at hp;split at hp
   ·exact Nat.le_trans (ih l (by omega) p hp) (by simp)
   ·split at hp
    ·rcases List.mem_cons.1 hp with rfl|hp
     ·simp
     ·exact Nat.le_trans (ih l (by omega) p hp) (by simp)
    ·have hd:((b::l).dropWhile fun c=>ae4 c==ae4 b).length≤l.length:=by
      rw[List.dropWhile_cons,if_pos (by simp)]; exact cl2 l
     rcases List.mem_cons.1 hp with rfl|hp
     ·simp only;split
      ·exact Nat.le_trans (cl2 _) (gt5 _)
      ·exact gt5 _
     ·exact Nat.le_trans (ih _ (Nat.le_trans hd (by omega)) p hp) (Nat.le_trans hd (by simp))
theorem gl7 (s:Str):∀ p∈ae8 s,p.s.length≤s.length:=gl6 _ _ (Nat.le_refl _)
def fq7:Part:=⟨2,[]⟩
abbrev vL (s:Str):List Part:=ae8 s++[fq7]
theorem iv9 (s:Str):∀ p∈vL s,p.s.length≤s.length:=fun p hp=>by
 rcases List.mem_append.1 hp with h|h
 ·exact gl7 s p h
 ·simp[fq7] at h; subst h; exact Nat.zero_le _
theorem dl2 {xs ys:List Part}{i:Nat}(h1:i<xs.length)(h2:i<ys.length):af6 (xs.drop i) (ys.drop i)=if af3 xs[i] ys[i]≠0 then af3 xs[i] ys[i] else af6 (xs.drop (i+1)) (ys.drop (i+1)):=by
 rw[List.drop_eq_getElem_cons h1,List.drop_eq_getElem_cons h2,af6]
theorem du1 {xs ys:List Part}{i:Nat}(h:xs.length≤i∨ys.length≤i):af6 (xs.drop i) (ys.drop i)=0:=by
 rcases h with h|h
 ·rw[List.drop_of_length_le h,af6]; intros; contradiction
 ·rw[List.drop_of_length_le h]; cases xs.drop i<;>rw[af6]<;>intros<;>contradiction
theorem hh5 (l:List Part)(i:Nat)(h:i<l.length):(l.map Part.cs).getD i []=Part.cs l[i]:=by simp[List.getD_eq_getElem?_getD,h]
theorem fu2 {σ:Store}{id i:Nat}{l:List Part}(ho:σ.obj id=some (.row (l.map Part.cs).flatten))(h:i<l.length):dh7 (some 2) (i*2) (σ.obj id)=some (.agg (Part.cs l[i])):=by
 have hall:∀ e∈l.map Part.cs,e.length=2:=fun e he=>(bw2 l e he).1
 have hlen:=ar3 hall;rw[List.length_map] at hlen;have hp:=av4 hall i (by rw[List.length_map]; exact h);rw[ho];simp only[dh7];have h1:i*2+2≤l.length*2:=by omega
 rw[if_pos (by rw[List.length_drop,hlen]; omega),hp,hh5 l i h]
theorem bw3 (a b:Str)(ha:a.length<2^30)(hb:b.length<2^30):PC Tryz.prog EE 121 [.str a,.str b] (.int .i64 (an4 a b)):=by
 refine ai1 hE fok121 (nZ rfl) (an9 (.str _) (.str _)) ?_;have la:=cg6 a;have lb:=cg6 b;simp only[ic121,go_sem];refine ad3 fok202 (de2 a ha _) ?_;rintro v1 s1 ⟨-,n1,g1,-⟩;refine ⟨n1,?_⟩;have n1:2≤s1.next:=n1;have ap1:=am7 (nid:=0) (e:=[IV.int .u8 2,IV.str []]) g1 (bw2 _) ⟨rfl,rfl⟩ (by rw[List.length_map]; omega);simp only[go_sem,ap1];have hl1:∀ e∈(vL a).map Part.cs,e.length=2:=fun e he=>(bw2 _ e he).1
 have r1:((ae8 a).map Part.cs++[[IV.int .u8 2,IV.str []]]).flatten=((vL a).map Part.cs).flatten:=by rw[List.map_append]; rfl
 have r2:((ae8 b).map Part.cs++[[IV.int .u8 2,IV.str []]]).flatten=((vL b).map Part.cs).flatten:=by rw[List.map_append]; rfl
 rw[r1];refine ad3 fok202 (de2 b hb _) ?_;rintro v2 s2 ⟨o2,n2,g2,h2⟩;refine ⟨n2,?_⟩;have n2:2≤s2.next:=by rw[ab1,ah2] at n2; omega
 have ap2:=am7 (nid:=1) (e:=[IV.int .u8 2,IV.str []]) g2 (bw2 _) ⟨rfl,rfl⟩ (by rw[List.length_map]; omega)
 have q0:s2.obj 0=some (.row ((vL a).map Part.cs).flatten):=by
  rw[o2 0 (by rw[ab1,ah2]; omega)];simp only[aa4,if_true]
 have q1:(ak3 v2 s2).obj 0=some (.row ((vL a).map Part.cs).flatten):=by
  rcases g2 with ⟨rfl,_⟩|⟨id,rfl,_,_⟩
  ·exact q0
  ·have:=h2 _ _ rfl;rw[ab1,ah2] at this;show (if 0=id then none else s2.obj 0)=_;rw[if_neg (by omega)]; exact q0
 rw[r2] at ap2;simp only[go_sem,ap2];generalize hS:(ak3 v2 s2).put 1 (.row ((vL b).map Part.cs).flatten)=S;have k0:S.obj 0=some (.row ((vL a).map Part.cs).flatten):=by rw[← hS]; exact q1
 have k1:S.obj 1=some (.row ((vL b).map Part.cs).flatten):=by rw[← hS]; simp only[aa4,if_true]
 clear hS ap1 ap2
 have hmin:(if ((ae8 b).length+1:Nat)<(((ae8 a).length+1:Nat):Int) then (((ae8 b).length+1:Nat):Int) else (((ae8 a).length+1:Nat):Int))=((min (vL a).length (vL b).length:Nat):Int):=by
  simp only[List.length_append,List.length_cons,List.length_nil];split<;>omega
 rw[hmin];have hA:(ae8 a).length+1=(vL a).length:=by simp
 have hB:(ae8 b).length+1=(vL b).length:=by simp
 rw[hA,hB];have hNa:min (vL a).length (vL b).length≤(vL a).length:=Nat.min_le_left _ _;have hNb:min (vL a).length (vL b).length≤(vL b).length:=Nat.min_le_right _ _;have hN:(vL a).length≤min (vL a).length (vL b).length∨(vL b).length≤min (vL a).length (vL b).length:=by omega
 have hsm:min (vL a).length (vL b).length<2^40:=by rw[← hA] at hNa; omega
 generalize min (vL a).length (vL b).length=N at *;refine ab3 noT (fun i fr s=>fr=[(5,.slice 0 0 (vL a).length 2),(6,.slice 1 0 (vL b).length 2),(23,.int .i64 N),(24,.int .i64 i)]∧s.obj=S.obj∧an4 a b=af6 ((vL a).drop i) ((vL b).drop i)) N ⟨rfl,rfl,rfl⟩ ?_;rintro i fr s hle ⟨rfl,hs,hI⟩;by_cases hlt:i<N
 ·have c1:(i:Int)<N:=by omega
  have c2:(0:Int)≤i:=by omega
  have ia:i<(vL a).length:=by omega
  have ib:i<(vL b).length:=by omega
  have c3:(i:Int)<(vL a).length:=by omega
  have c4:(i:Int)<(vL b).length:=by omega
  have w1:=ad6 (i:=i) (by omega);have l0:=fu2 k0 ia;have l1:=fu2 k1 ib;rw[dl2 ia ib] at hI;have hp:=fd5 (vL a)[i] (vL b)[i] (by have:=iv9 a _ (List.getElem_mem ia); omega) (by have:=iv9 b _ (List.getElem_mem ib); omega);generalize (vL a)[i]=x at *;generalize (vL b)[i]=y at *;simp only[go_sem,c1,c2,c3,c4,hs,l0,l1];refine aa5 fok203 hp ?_;by_cases hz:af3 x y=0
  ·simp only[go_sem,hz,w1];rw[hz,if_neg (by simp)] at hI;exact ⟨hlt,hI⟩
  ·rw[if_pos hz] at hI;simp only[go_sem,hz];rw[hI]; exact ad8 _ _
 ·have hi':i=N:=by omega
  subst hi';have c1:¬ (i:Int)<i:=by omega
  rw[du1 hN] at hI;simp only[go_sem,c1];rw[hI]; exact ad8 _ _
theorem fu3 (a b:EVR):PC Tryz.prog EE 119 [.ac2 a.cs,.ac2 b.cs] (.int .i64 (am9 a.am6 b.am6)):=by
 refine an7 fok119 (nZ rfl) fun σ=>?_
 simp only[ic119,go_sem,EVR.cs];refine aa5 fok69 (bi9 _ _) ?_;simp only[go_sem,and_self]
theorem fu4 (a b:EVR)(h1:a.ver.length<2^30)(h2:b.ver.length<2^30):PC Tryz.prog EE 120 [.ac2 a.cs,.ac2 b.cs] (.int .i64 (an4 a.ver b.ver)):=by
 refine an7 fok120 (nZ rfl) fun σ=>?_
 simp only[ic120,go_sem,EVR.cs];refine aa5 fok121 (bw3 _ _ h1 h2) ?_;simp only[go_sem,and_self]
theorem fu5 (a b:EVR)(h1:a.rel.length<2^30)(h2:b.rel.length<2^30):PC Tryz.prog EE 122 [.ac2 a.cs,.ac2 b.cs] (.int .i64 (if a.rel=[]∨b.rel=[] then 0 else an4 a.rel b.rel)):=by
 refine an7 fok122 (nZ rfl) fun σ=>?_
 by_cases e1:a.rel=[]
 ·simp only[ic122,go_sem,EVR.cs,e1,true_or,and_self]
 ·by_cases e2:b.rel=[]
  ·simp only[ic122,go_sem,EVR.cs,e1,e2,or_true,and_self]
  ·simp only[ic122,go_sem,EVR.cs,e1,e2,or_self];refine aa5 fok121 (bw3 _ _ h1 h2) ?_;simp only[go_sem,and_self]
def fnC (f:Nat×List IV):List IV:=[.func (.func f.1) [] f.2]
theorem ee2 (fs:List (Nat×List IV))(vals:List Int)(hl:fs.length=vals.length)(hn:fs.length<2^40)(hb:∀ f∈fs,∀ c∈f.2,Bnd 0 c)
  (h:∀ i (h1:i<fs.length) (h2:i<vals.length),okF Tryz.prog fs[i].1=true∧PC Tryz.prog EE fs[i].1 fs[i].2 (.int .i64 vals[i])):PC Tryz.prog EE 118 [.aa3 (fs.map fnC)] (.int .i64 (orM vals)):=by
 refine ai1 hE fok118 (nZ rfl) (af4 (.aa3 _ fun e he c hc=>?_)) ?_
 ·obtain ⟨f,hf,rfl⟩:=List.mem_map.1 he
  cases hc with
  | head=>exact .func _ _ _ (fun c hc=>by cases hc) (hb f hf)
  | tail _ h=>cases h
 simp only[ic118,go_sem];refine ab3 noT (fun i fr s=>fr=[(6,.aa3 (fs.map fnC)),(7,.int .i64 fs.length),(8,.int .i64 i)]∧orM vals=orM (vals.drop i)) fs.length ⟨rfl,rfl⟩ ?_;rintro i fr s hle ⟨rfl,hI⟩;by_cases hlt:i<fs.length
 ·obtain ⟨f,hf,hget0,hdr,hget,htk⟩:=af8 fs i hlt;have hlt2:i<vals.length:=by omega
  have c1:(i:Int)<fs.length:=by omega
  have c2:(0:Int)≤i:=by omega
  have w1:=ad6 (i:=i) (by omega);obtain ⟨k1,k2⟩:=h i hlt hlt2
  have hfi:fs[i]=f:=by
   have:=List.getElem?_eq_getElem hlt; rw[this] at hget0; exact Option.some.inj hget0
  rw[hfi] at k1 k2;rw[List.drop_eq_getElem_cons hlt2,orM] at hI;generalize vals[i]=x at *;simp only[go_sem,c1,c2,hget,fnC];refine ak6 k1 k2 ?_;by_cases hx:x=0
  ·subst hx;simp only[go_sem,w1];exact ⟨hlt,by simpa using hI⟩
  ·rw[if_neg hx] at hI;simp only[go_sem,hx];rw[hI]; exact ad8 _ _
 ·have hi':i=fs.length:=by omega
  subst hi';have c1:¬ (fs.length:Int)<fs.length:=by omega
  rw[hl,List.drop_length,orM] at hI;simp only[go_sem,c1];rw[hI]; exact ad8 _ _
theorem em2 (a:EVR):Bnd 0 (.ac2 a.cs):=.ac2 _ fun c hc=>by
 simp only[EVR.cs,List.mem_cons,List.not_mem_nil,or_false] at hc;rcases hc with rfl|rfl|rfl
 ·exact .int _ _
 ·exact .str _
 ·exact .str _
theorem dl3 (a:EVR):Bnd 0 (.agg a.cs):=.agg _ fun c hc=>by
 simp only[EVR.cs,List.mem_cons,List.not_mem_nil,or_false] at hc;rcases hc with rfl|rfl|rfl
 ·exact .int _ _
 ·exact .str _
 ·exact .str _
def EVR.small (e:EVR):Prop:=e.ver.length<2^30∧e.rel.length<2^30
theorem bw4 (a b:EVR)(ha:EVR.small a)(hb:EVR.small b):PC Tryz.prog EE 49 [.agg a.cs,.agg b.cs] (.int .i64 (ar5 a b)):=by
 refine ai1 hE fok49 (nZ rfl) (an9 (dl3 a) (dl3 b)) ?_
 have hv:ar5 a b=orM [am9 a.am6 b.am6,an4 a.ver b.ver,if a.rel=[]∨b.rel=[] then 0 else an4 a.rel b.rel]:=by
  rw[im1]; unfold ar5;split
  ·rfl
  ·split
   ·rfl
   ·rfl
 have hf:=ee2 [(119,[.ac2 a.cs,.ac2 b.cs]),(120,[.ac2 a.cs,.ac2 b.cs]),(122,[.ac2 a.cs,.ac2 b.cs])] [am9 a.am6 b.am6,an4 a.ver b.ver,if a.rel=[]∨b.rel=[] then 0 else an4 a.rel b.rel] rfl (by simp)
  (fun f hf c hc=>by
   simp only[List.mem_cons,List.not_mem_nil,or_false] at hf;rcases hf with rfl|rfl|rfl<;>exact an9 (em2 a) (em2 b) c hc)
  (fun i h1 h2=>by
   match i,h1 with
   | 0,_=>exact ⟨fok119.1,fu3 a b⟩
   | 1,_=>exact ⟨fok120.1,fu4 a b ha.1 hb.1⟩
   | 2,_=>exact ⟨fok122.1,fu5 a b ha.2 hb.2⟩
   | i+3,h=>simp at h; omega)
 rw[← hv] at hf;have ea:(IV.agg a.cs).cs.all IV.leaf=true:=rfl;have eb:(IV.agg b.cs).cs.all IV.leaf=true:=rfl;simp only[EVR.cs] at hf ⊢;simp only[ic49,go_sem];refine aa5 fok118 hf ?_;simp only[go_sem];exact ad8 _ _
def cr8 (a b:Int):Int:=IntKind.u8.wrap ((BitVec.ofInt 8 a &&& BitVec.ofInt 8 b).toNat:Int)
theorem bf6 (a b:Int):au7 .and (.int .u8 a) (.int .u8 b)=some (.int .u8 (cr8 a b)):=rfl
theorem it3 {n:Nat}(h:n<256):IntKind.u8.wrap (n:Int)=n:=by
 simp[IntKind.wrap,IntKind.bits,IntKind.signed]; omega
theorem ba5 (a b:Nat)(ha:a<256)(hb:b<256):cr8 a b=((a &&& b:Nat):Int):=by
 unfold cr8;rw[BitVec.toNat_and]
 have e:∀ n:Nat,n<256→(BitVec.ofInt 8 (n:Int)).toNat=n:=fun n hn=>by
  rw[BitVec.toNat_ofInt]; omega
 rw[e a ha,e b hb];exact it3 (Nat.lt_of_le_of_lt Nat.and_le_left ha)
theorem and7:∀ a,a<256→((a &&& 7=0)↔a%8=0):=by decide +kernel
theorem fu6:∀ x,x<256→((x &&& 7=0)↔(x.testBit 0=false∧x.testBit 1=false∧x.testBit 2=false)):=by decide +kernel
theorem and1:∀ a,a<256→((a &&& 1=0)↔a.testBit 0=false):=by decide +kernel
theorem im2:∀ a,a<256→((a &&& 4=0)↔a.testBit 2=false):=by decide +kernel
theorem fu7 (a b:Int):am9 a b=-1∨am9 a b=0∨am9 a b=1:=by
 unfold am9; split
 ·exact .inl rfl
 ·split
  ·exact .inr (.inl rfl)
  ·exact .inr (.inr rfl)
theorem ii1 (a b:Str):cp5 a b=-1∨cp5 a b=0∨cp5 a b=1:=by
 unfold cp5; split
 ·exact .inl rfl
 ·split
  ·exact .inr (.inl rfl)
  ·exact .inr (.inr rfl)
theorem fu8 (a b:Part):af3 a b=-1∨af3 a b=0∨af3 a b=1:=by
 have h:∀ k n s:Int,(k=-1∨k=0∨k=1)→(n=-1∨n=0∨n=1)→(s=-1∨s=0∨s=1)→((if k≠0 then k else if n≠0 then n else s)=-1∨(if k≠0 then k else if n≠0 then n else s)=0∨(if k≠0 then k else if n≠0 then n else s)=1):=by
  intro k n s h1 h2 h3;rcases h1 with rfl|rfl|rfl<;>rcases h2 with rfl|rfl|rfl<;>simp<;>exact h3
 refine h (am9 a.kind b.kind) (if a.kind=5∧b.kind=5 then am9 a.s.length b.s.length else 0) (cp5 a.s b.s) (fu7 _ _) ?_ (ii1 _ _);split
 ·exact fu7 _ _
 ·exact .inr (.inl rfl)
theorem fd7:∀ (l m:List Part),af6 l m=-1∨af6 l m=0∨af6 l m=1:=by
 intro l
 induction l with
 | nil=>intro m; exact .inr (.inl (by rw[af6]; intros; contradiction))
 | cons a l ih=>
  intro m
  cases m with
  | nil=>exact .inr (.inl (by rw[af6]; intros; contradiction))
  | cons b m=>
   rw[af6];split
   ·exact fu8 a b
   ·exact ih m
theorem em3 (a b:Str):an4 a b=-1∨an4 a b=0∨an4 a b=1:=fd7 _ _
theorem gl8 (a b:EVR):ar5 a b=-1∨ar5 a b=0∨ar5 a b=1:=by
 unfold ar5;split
 ·exact fu7 _ _
 ·split
  ·exact em3 _ _
  ·split
   ·exact .inr (.inl rfl)
   ·exact em3 _ _
def Dep.small (d:Dep):Prop:=0≤d.op∧d.op<256∧EVR.small d.evr
theorem au5 (d:Dep):Bnd 0 (.agg d.cs):=.agg _ fun c hc=>by
 simp only[Dep.cs,List.mem_cons,List.not_mem_nil,or_false] at hc;rcases hc with rfl|rfl|rfl|rfl|rfl
 ·exact .str _
 ·exact .int _ _
 ·exact .int _ _
 ·exact .str _
 ·exact .str _
theorem ee3 (a b:Dep)(ha:Dep.small a)(hb:Dep.small b):PC Tryz.prog EE 280 [.agg a.cs,.agg b.cs] (.bool (meet a b)):=by
 refine ai1 hE fok280 (nZ rfl) (an9 (au5 a) (au5 b)) ?_;obtain ⟨a1,a2,a3⟩:=ha;obtain ⟨b1,b2,b3⟩:=hb;have hc:=bw4 a.evr b.evr a3 b3;have h3:=gl8 a.evr b.evr;unfold meet;generalize ar5 a.evr b.evr=n at hc h3;simp only[EVR.cs] at hc;obtain ⟨x,hx⟩:∃ x:Nat,a.op=x:=⟨a.op.toNat,by omega⟩;obtain ⟨y,hy⟩:∃ y:Nat,b.op=y:=⟨b.op.toNat,by omega⟩;have hx2:x<256:=by omega
 have hy2:y<256:=by omega
 have ex7:cr8 x 7=((x &&& 7:Nat):Int):=ba5 x 7 hx2 (by omega);have ey7:cr8 y 7=((y &&& 7:Nat):Int):=ba5 y 7 hy2 (by omega);rw[hx,hy,Int.toNat_natCast,Int.toNat_natCast];by_cases hx0:x%8=0
 ·have q:=(and7 x hx2).2 hx0;rw[q] at ex7;have q':cr8 x 7=0:=ex7;simp only[ic280,go_sem,Dep.cs,hx,hy,bf6,q',hx0,true_or];exact ac3 _
 ·have q:¬ (x &&& 7=0):=fun e=>hx0 ((and7 x hx2).1 e)
  have q':¬ cr8 x 7=0:=by rw[ex7]; omega
  by_cases hy0:y%8=0
  ·have r:=(and7 y hy2).2 hy0;rw[r] at ey7;have r':cr8 y 7=0:=ey7;simp only[ic280,go_sem,Dep.cs,hx,hy,bf6,q',r',hy0,or_true];exact ac3 _
  ·have r:¬ (y &&& 7=0):=fun e=>hy0 ((and7 y hy2).1 e)
   have r':¬ cr8 y 7=0:=by rw[ey7]; omega
   simp only[ic280,go_sem,Dep.cs,hx,hy,bf6,q',r',hx0,hy0,or_self];refine aa5 fok49 hc ?_;have exy:cr8 x y=((x &&& y:Nat):Int):=ba5 x y hx2 hy2;have hxy:x &&& y<256:=Nat.lt_of_le_of_lt Nat.and_le_left hx2;have exy7:cr8 ((x &&& y:Nat):Int) 7=((x &&& y &&& 7:Nat):Int):=ba5 _ 7 hxy (by omega);have s1:=fu1 1 (.inr (.inr rfl));have s2:=fu1 (-1) (.inl rfl);have n1:¬ ((1:Int)<0):=by decide
   have n2:¬ ((1:Int)=0):=by decide
   have n3:((-1:Int)<0):=by decide
   rw[if_neg n1,if_neg n2] at s1;rw[if_pos n3] at s2;have x1:cr8 x 1=((x &&& 1:Nat):Int):=ba5 x 1 hx2 (by omega);have x4:cr8 x 4=((x &&& 4:Nat):Int):=ba5 x 4 hx2 (by omega);have y1:cr8 y 1=((y &&& 1:Nat):Int):=ba5 y 1 hy2 (by omega);have y4:cr8 y 4=((y &&& 4:Nat):Int):=ba5 y 4 hy2 (by omega);have w1:IntKind.i64.wrap (0 - -1)=1:=by decide
   have w2:IntKind.i64.wrap (0-1)=-1:=by decide
   have bt:∀ (k i:Nat),bit (k:Int) i=k.testBit i:=fun k i=>by unfold bit; rw[Int.toNat_natCast]
   have z0:∀ k:Nat,((k:Int)=0)↔k=0:=fun k=>by omega
   rcases h3 with rfl|rfl|rfl
   ·have g1:side (- -1)=2:=by decide
    have g2:side (-1)=0:=by decide
    have m0:¬ ((-1:Int)=0):=by decide
    simp only[go_sem,m0,w1,g1,g2,bt];refine aa6 s1 ?_
    cases hb:x.testBit 2 with
    | true=>
     have e:¬ cr8 x 4=0:=by rw[x4,z0,im2 x hx2,hb]; simp
     simp only[go_sem,bf6,e]
     exact ac3 _
    | false=>
     have e:cr8 x 4=0:=by rw[x4,z0,im2 x hx2,hb]
     simp only[go_sem,bf6,e];refine aa6 s2 ?_
     cases hc:y.testBit 0 with
     | true=>
      have e2:¬ cr8 y 1=0:=by rw[y1,z0,and1 y hy2,hc]; simp
      simp only[go_sem,bf6,e2]
      exact ac3 _
     | false=>
      have e2:cr8 y 1=0:=by rw[y1,z0,and1 y hy2,hc]
      simp only[go_sem,bf6,e2];exact ac3 _
   ·simp only[go_sem,bf6,exy,exy7,bt]
    have e:(!decide (((x &&& y &&& 7:Nat):Int)=0))=(x.testBit 0&&y.testBit 0||x.testBit 1&&y.testBit 1||x.testBit 2&&y.testBit 2):=by
     by_cases hz:x &&& y &&& 7=0
     ·obtain ⟨t0,t1,t2⟩:=(fu6 _ hxy).1 hz;rw[Nat.testBit_and] at t0 t1 t2;rw[hz,t0,t1,t2]; rfl
     ·have hz':¬ ((x &&& y &&& 7:Nat):Int)=0:=fun h=>hz (by omega)
      have ht:¬ ((x &&& y).testBit 0=false∧(x &&& y).testBit 1=false∧(x &&& y).testBit 2=false):=fun h=>hz ((fu6 _ hxy).2 h)
      rw[Nat.testBit_and,Nat.testBit_and,Nat.testBit_and] at ht;rw[decide_eq_false hz']
      revert ht
      generalize (x.testBit 0&&y.testBit 0)=b0;generalize (x.testBit 1&&y.testBit 1)=b1;generalize (x.testBit 2&&y.testBit 2)=b2;cases b0<;>cases b1<;>cases b2<;>simp
    rw[e];exact ac3 _
   ·have g1:side (-1)=0:=by decide
    have g2:side 1=2:=by decide
    simp only[go_sem,n2,w2,g1,g2,bt];refine aa6 s2 ?_
    cases hb:x.testBit 0 with
    | true=>
     have e:¬ cr8 x 1=0:=by rw[x1,z0,and1 x hx2,hb]; simp
     simp only[go_sem,bf6,e]
     exact ac3 _
    | false=>
     have e:cr8 x 1=0:=by rw[x1,z0,and1 x hx2,hb]
     simp only[go_sem,bf6,e];refine aa6 s1 ?_
     cases hc:y.testBit 2 with
     | true=>
      have e2:¬ cr8 y 4=0:=by rw[y4,z0,im2 y hy2,hc]; simp
      simp only[go_sem,bf6,e2]
      exact ac3 _
     | false=>
      have e2:cr8 y 4=0:=by rw[y4,z0,im2 y hy2,hc]
      simp only[go_sem,bf6,e2];exact ac3 _
theorem cl9 (d:Dep):Bnd 0 (.ac2 d.cs):=.ac2 _ fun c hc=>by
 simp only[Dep.cs,List.mem_cons,List.not_mem_nil,or_false] at hc;rcases hc with rfl|rfl|rfl|rfl|rfl
 ·exact .str _
 ·exact .int _ _
 ·exact .int _ _
 ·exact .str _
 ·exact .str _
theorem em4 (a d:Dep)(ha:Dep.small a)(hd:Dep.small d):PC Tryz.prog EE 216 [.agg a.cs,.agg d.cs] (.bool (meets a d)):=by
 refine ai1 hE fok216 (nZ rfl) (an9 (au5 a) (au5 d)) ?_;have hm:=ee3 a d ha hd;unfold meets;simp only[Dep.cs] at hm;by_cases h:a.name=d.name
 ·simp only[ic216,go_sem,Dep.cs,h] at hm ⊢;refine aa5 fok280 hm ?_;simp only[go_sem];exact ac3 _
 ·simp only[ic216,go_sem,Dep.cs,h];exact ac3 _
theorem fu9 (n:Str)(e:EVR):PC Tryz.prog EE 309 [.str n,.agg e.cs] (.agg (Dep.cs ⟨n,2,e⟩)):=by
 refine ai1 hE fok309 (nZ rfl) (an9 (.str _) (dl3 e)) ?_;simp only[ic309,go_sem,EVR.cs,Dep.cs]
 exact .keep _ (.agg _ fun c hc=>by
  simp only[List.mem_cons,List.not_mem_nil,or_false] at hc;rcases hc with rfl|rfl|rfl|rfl|rfl
  ·exact .str _
  ·exact .int _ _
  ·exact .int _ _
  ·exact .str _
  ·exact .str _)
theorem fv1 (p:aa2):PC Tryz.prog EE 254 [.agg p.cs] (.agg (own p).cs):=by
 refine ai1 hE fok254 (nZ rfl) (af4 (be4 p)) ?_;have ho:=fu9 p.name p.evr;simp only[EVR.cs,Dep.cs] at ho;simp only[ic254,go_sem,aa2.cs,own,Dep.cs];refine aa5 fok309 ho ?_;simp only[go_sem];exact .keep _ (au5 (own p))
def Pkg.small (p:aa2):Prop:=EVR.small p.evr∧(∀ d∈p.provides,Dep.small d)∧(∀ d∈p.ab4,Dep.small d)∧p.provides.length<2^40∧p.ab4.length<2^40∧p.files.length<2^40
theorem fv2 {p:aa2}(h:Pkg.small p):Dep.small (own p):=⟨by show (0:Int)≤2; decide,by show (2:Int)<256; decide,h.1⟩
theorem bw5 (p:aa2):p.cs.length=15:=rfl
theorem bj1 (p:aa2):p.cs.take 15=p.cs:=rfl
theorem bj2 (p:aa2):p.cs.all IV.leaf=true:=rfl
theorem gl9 (p:aa2)(d:Dep)(hp:Pkg.small p)(hd:Dep.small d):PC Tryz.prog EE 181 [.agg p.cs,.agg d.cs] (.bool (named p d)):=by
 refine ai1 hE fok181 (nZ rfl) (an9 (be4 p) (au5 d)) ?_;have ho:=fv1 p;have hm:=em4 (own p) d (fv2 hp) hd;generalize hx:Dep.cs (own p)=x at ho hm;simp only[ic181,go_sem,bw5,bj1,bj2,aw3,ar8,ao9];refine aa6 ho ?_;simp only[go_sem,aw3,ar8,ao9];refine aa6 hm ?_;simp only[go_sem];exact ac3 _
theorem fv3 (a d:Dep)(ha:Dep.small a)(hd:Dep.small d):PC Tryz.prog EE 215 ([]++[.agg a.cs]++[.ac2 d.cs]) (.bool (meets a d)):=by
 refine ai1 hE fok215 (nZ rfl) (an9 (au5 a) (cl9 d)) ?_;simp only[ic215,go_sem,aw3,ar8,ao9];refine aa5 fok216 (em4 a d ha hd) ?_;simp only[go_sem];exact ac3 _
theorem ee4 (l:List Str)(s:Str)(hl:l.length<2^40):PC Tryz.prog EE 281 [.aa3 (l.map bs4),.str s] (.int .i64 (ai3 (fun x=>decide (s=x)) l 0)):=by
 refine an7 fok281 (nZ rfl) fun σ=>?_
 simp only[ic281,go_sem];refine ab3 noT (fun i fr t=>t=σ∧fr=[(0,.aa3 (l.map bs4)),(1,.str s),(7,.int .i64 l.length),(8,.int .i64 i)]∧ai3 (fun x=>decide (s=x)) l 0=ai3 (fun x=>decide (s=x)) (l.drop i) i) l.length ⟨rfl,rfl,rfl⟩ ?_;rintro i fr t hi ⟨rfl,rfl,hf⟩;by_cases hlt:i<l.length
 ·obtain ⟨x,ha,_,hdr,hget,_⟩:=af8 l i hlt;have c1:(i:Int)<l.length:=by omega
  have c2:(0:Int)≤i:=by omega
  have w1:=ad6 (i:=i) (by omega);rw[hdr,ai3] at hf;by_cases e:s=x
  ·rw[if_pos (by simpa using e)] at hf;subst e;simp only[go_sem,c1,c2,hget,dk4,bs4,hf,and_self]
  ·rw[if_neg (by simpa using e)] at hf;simp only[go_sem,c1,c2,hget,dk4,bs4,e,w1];exact ⟨hlt,by rw[hf]; simp only[Int.natCast_add,Int.natCast_one]⟩
 ·have hi':i=l.length:=by omega
  subst hi';have c1:¬ (l.length:Int)<l.length:=by omega
  rw[List.drop_length] at hf;simp only[go_sem,c1,hf,ai3,and_self]
theorem fv4 (l:List Str)(s:Str)(hl:l.length<2^40):PC Tryz.prog EE 217 [.aa3 (l.map bs4),.str s] (.bool (l.contains s)):=by
 refine an7 fok217 (nZ rfl) fun σ=>?_
 simp only[ic217,go_sem];refine aa5 fok281 (ee4 l s hl) ?_
 have e:l.any (fun x=>decide (s=x))=l.contains s:=by
  induction l with
  | nil=>rfl
  | cons a l ih=>rw[List.any_cons,List.contains_cons,ih (by simp at hl; omega)]; congr 1; by_cases h:s=a<;>simp[h]
 simp only[go_sem,at7,e,and_self]
theorem cr9 (p:aa2)(d:Dep)(hp:Pkg.small p)(hd:Dep.small d):PC Tryz.prog EE 139 [.agg p.cs,.agg d.cs] (.bool (provides p d)):=by
 refine ai1 hE fok139 (nZ rfl) (an9 (be4 p) (au5 d)) ?_;have hn:=gl9 p d hp hd;have hc:=cr4 p.provides 215 [] [.ac2 d.cs] (fun a=>meets a d) (by have:=hp.2.2.2.1; omega) fok215.1 fun a ha=>fv3 a d (hp.2.1 a ha) hd
 have hs:=fv4 p.files d.name hp.2.2.2.2.2;have hf:(p.cs.drop 6).head? = some (deps p.provides):=rfl;have hg:(p.cs.drop 14).head? = some (strs p.files):=rfl;have d0:d.cs.head? = some (.str d.name):=rfl;have d1:(d.cs.drop 1).head? = some (.int .u8 d.op):=rfl;unfold provides
 cases hb:named p d with
 | true=>
  rw[hb] at hn;simp only[ic139,go_sem,bw5,bj1,bj2,aw3,ar8,ao9];refine aa5 fok181 hn ?_;simp only[go_sem]
  exact ac3 _
 | false=>
  rw[hb] at hn;simp only[ic139,go_sem,bw5,bj1,bj2,aw3,ar8,ao9];refine aa5 fok181 hn ?_;simp only[go_sem,hf];refine aa5 fok137 hc ?_
  cases ha:p.provides.any (fun a=>meets a d) with
  | true=>
   simp only[go_sem]
   exact ac3 _
  | false=>
   by_cases h0:d.op=0
   ·simp only[go_sem,d0,d1,h0,hg];refine aa5 fok217 hs ?_;simp only[go_sem];exact ac3 _
   ·simp only[go_sem,d0,d1,h0];exact ac3 _
end Go.Id.Tryz
