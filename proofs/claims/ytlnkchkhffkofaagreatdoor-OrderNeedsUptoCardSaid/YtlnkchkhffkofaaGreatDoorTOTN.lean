/- Versions,EVRs,ranges compared; who provides what. Conditions: sizes that fit. -/
import Derived.Test.YtlnkchkhffkofaaGreatDoorTOQA
import Derived.Test.YtlnkchkhffkofaaGreatDoorTOQB
import Derived.Test.YtlnkchkhffkofaaGreatDoorMb
import Derived.Test.YtlnkchkhffkofaaGreatDoorFwZb
import Derived.Test.YtlnkchkhffkofaaGreatDoorTOPD
import Derived.Shelf.SlSortCmp.Insertion
import Derived.Sort.LotA
set_option linter.all false
namespace Go.Id.Tryz
open Go Go.Id Go.Proofs Go.Id.Md
set_option maxRecDepth 100000
theorem dv3 (s:Str):PC Tryz.prog EE 192 [.str s] (.func (.func 233) [] [.ac5 [.str s]]):=by
 refine ar1 hE fok192 (nZ rfl) (aj4 (.str _)) ?_;simp only[ic192,go_sem];have h1:∀ c∈[IV.str s],Bnd 0 c:=aj4 (.str _);have h2:∀ c∈[IV.ac5 [.str s]],Bnd 0 c:=aj4 (.ac5 _ h1);exact .keep _ (.func _ _ _ (fun c hc=>by cases hc) h2)
theorem bv2 (l:List Part):∀ e∈l.map Part.cs,e.length=2∧e.all IV.leaf=true:=fun e he=>by
 obtain ⟨x,_,rfl⟩:=List.mem_map.1 he; exact ⟨rfl,rfl⟩
theorem fd3:∀ (n:Nat) (l:Str),l.length≤n→(aq5 n l).length≤l.length:=by
 intro n
 induction n with
 | zero=>intro l h; simp[aq5]
 | succ n ih=>
  intro l h
  cases l with
  | nil=>simp[aq5]
  | cons b l=>
   simp only[List.length_cons] at h;simp only[aq5];split
   ·exact Nat.le_trans (ih l (by omega)) (by simp)
   ·split
    ·simp only[List.length_cons]; have:=ih l (by omega); omega
    ·simp only[List.length_cons]
     have hd:((b::l).dropWhile fun c=>ae1 c==ae1 b).length≤l.length:=by
      rw[List.dropWhile_cons,if_pos (by simp)]; exact cj7 l
     have:=ih _ (Nat.le_trans hd (by omega));omega
theorem cf2 (s:Str):(ae6 s).length≤s.length:=fd3 _ _ (Nat.le_refl _)
theorem de1 (s:Str)(hs:s.length<2^30)(σ:Store):C Tryz.prog EE 129 [.str s] σ fun v t=>(∀ i,i<σ.next→t.obj i=σ.obj i)∧σ.next≤t.next∧Grow t v 2 ((ae6 s).map Part.cs)∧∀ id n,v=.slice id 0 n 2→σ.next≤id:=by
 refine C_f fok129 (nZ rfl) ?_;simp only[ic129,go_sem];refine aa5 fok192 (dv3 s) ?_;simp only[go_sem];have hvl:=cf2 s;refine bx3 (gm6 s (by omega)) (fun rest t=>∃ n v,n≤(ae6 s).length∧rest=((ae6 s).drop n).map evP∧(∀ i,i<σ.next→t.obj i=σ.obj i)∧t.obj σ.next=some (.cells [v])∧σ.next<t.next∧Grow t v 2 (((ae6 s).take n).map Part.cs)∧∀ id k,v=.slice id 0 k 2→σ.next+1<id) (fun _ _ _=>trivial) ?_ ?_ ?_ ?_ ?_
 ·rintro rest t t' ⟨n,v,h0,h1,h2,h3,h4,h5,h6⟩ hn ho;exact ⟨n,v,h0,h1,fun i hi=>by rw[ho i (by omega)]; exact h2 i hi,by rw[ho _ h4]; exact h3,by omega,h5.mono hn fun id _ hid=>ho id hid,h6⟩
 ·intro a ha;obtain ⟨p,_,rfl⟩:=List.mem_map.1 ha;rfl
 ·intro o;have e0:¬ σ.next=σ.next+1:=by omega
  refine ⟨0,.aa1,Nat.zero_le _,rfl,fun i hi=>?_,?_,by show σ.next<σ.next+1+1; omega,.inl ⟨rfl,by simp⟩,fun id k h=>by cases h⟩
  ·have e1:¬ i=σ.next:=by omega
   have e2:¬ i=σ.next+1:=by omega
   simp only[aa2,aa8,e1,e2,if_false]
  ·simp only[aa2,aa8,e0,if_false,if_true]
 ·rintro L pre a rest t hev ⟨n,v,h0,h1,h2,h3,h4,h5,h6⟩ hL hlt
  have hn:n<(ae6 s).length:=by
   rcases Nat.lt_or_ge n (ae6 s).length with h|h
   ·exact h
   ·rw[List.drop_of_length_le h] at h1; cases h1
  rw[List.drop_eq_getElem_cons hn,List.map_cons] at h1;obtain ⟨ha,hrest⟩:=List.cons.inj h1;subst ha;simp only[evP,Part.cs,aa8] at hL hlt ⊢;have e1:¬ σ.next+1=t.next:=by omega
  have e2:¬ σ.next=t.next:=by omega
  have e3:¬ σ.next=σ.next+1:=by omega
  have e4:¬ t.next=σ.next+1:=by omega
  have e5:¬ t.next=σ.next:=by omega
  simp only[go_sem,hL,e1,e2,e3,e4,h3];generalize hU:(((Store.put ⟨t.next+1,t.obj⟩ t.next (aj5.cells [IV.int .u8 0,IV.str []])).put t.next (aj5.cells [IV.int .u8 ↑(ae6 s)[n].kind,IV.str (ae6 s)[n].s])).put (σ.next+1) (L .busy none))=U
  have hUo:∀ i,i<t.next→i≠σ.next+1→U.obj i=t.obj i:=fun i hi hne=>by
   have:¬ i=t.next:=by omega
   rw[← hU]; simp only[aa2,hne,this,if_false]
  have hUL:U.obj (σ.next+1)=some (L .busy none):=by rw[← hU]; simp only[aa2,if_true]
  have hg:Grow ⟨t.next+1+1,U.obj⟩ v 2 (((ae6 s).take n).map Part.cs):=by
   refine h5.mono (by show t.next≤t.next+1+1; omega) fun id hv hid=>?_
   have:=h6 _ _ hv;exact hUo id hid (by omega)
  have hl0:(((ae6 s).take n).map Part.cs).length=n:=by rw[List.length_map,List.length_take]; omega
  have hap:=an1 (nid:=t.next+1) (e:=[IV.int .u8 ↑(ae6 s)[n].kind,IV.str (ae6 s)[n].s]) hg (bv2 _) ⟨rfl,rfl⟩ (by rw[hl0]; omega);have k1:=ag8 hg σ.next (.cells [v]) (by show U.obj _=_; rw[hUo _ h4 e3]; exact h3) (fun _ h=>by cases h)
  have k2:(ah9 v ⟨t.next+1+1,U.obj⟩).obj (σ.next+1)=some (L .busy none):=by
   cases hv:v<;>try exact hUL
   rename_i id o n' e;show (if σ.next+1=id then none else U.obj _)=_;rcases h5 with ⟨h,_⟩|⟨id',h,_,_⟩
   ·rw[h] at hv; cases hv
   ·rw[hv] at h; cases h;have:=h6 _ _ hv;rw[if_neg (by omega)]; exact hUL
  have k3:∀ i,i<σ.next→(ah9 v ⟨t.next+1+1,U.obj⟩).obj i=σ.obj i:=fun i hi=>by
   have e7:U.obj i=σ.obj i:=by rw[hUo i (by omega) (by omega)]; exact h2 i hi
   cases hv:v<;>try exact e7
   rename_i id o n' e;show (if i=id then none else U.obj _)=_;rcases h5 with ⟨h,_⟩|⟨id',h,_,_⟩
   ·rw[h] at hv; cases hv
   ·rw[hv] at h; cases h;have:=h6 _ _ hv;rw[if_neg (by omega)]; exact e7
  have kn:=ae9 (σ:=⟨t.next+1+1,U.obj⟩) v;rw[hl0] at hap;have e6:¬ σ.next=t.next+1:=by omega
  have e7:¬ σ.next+1=t.next+1:=by omega
  have e8:¬ σ.next+1=σ.next:=by omega
  simp only[go_sem,hap,e6,k1,e7,e8,k2];refine cs7 (by rw[aa8,aa8,aa8,kn]; show t.next≤t.next+1+1; omega) (by simp only[aa2,if_true]) ?_;refine ⟨n+1,.slice (t.next+1) 0 (n+1) 2,hn,hrest,fun i hi=>?_,?_,?_,?_,fun id k h=>?_⟩
  ·have g1:¬ i=σ.next+1:=by omega
   have g2:¬ i=σ.next:=by omega
   have g3:¬ i=t.next+1:=by omega
   simp only[aa2,g1,g2,g3,if_false]; exact k3 i hi
  ·simp only[aa2,e3,if_false,if_true]
  ·simp only[aa8,kn]; omega
  ·have htk:(ae6 s).take (n+1)=(ae6 s).take n++[(ae6 s)[n]]:=by rw[List.take_succ_eq_append_getElem hn]
   rw[htk,List.map_append];refine .inr ⟨t.next+1,by simp; omega,?_,by simp only[aa8,kn]; omega⟩;have g1:¬ t.next+1=σ.next+1:=by omega
   have g2:¬ t.next+1=σ.next:=by omega
   simp only[aa2,g1,g2,if_false,if_true]; rfl
  ·cases h; omega
 ·rintro t o ⟨n,v,h0,h1,h2,h3,h4,h5,h6⟩ hlt ho
  have hn:n=(ae6 s).length:=by
   rcases Nat.lt_or_ge n (ae6 s).length with h|h
   ·rw[List.drop_eq_getElem_cons h] at h1; cases h1
   ·omega
  subst hn;have e3:¬ σ.next=σ.next+1:=by omega
  simp only[aa8] at hlt ho ⊢;simp only[go_sem,e3,h3];rw[List.take_length] at h5;refine ⟨fun i hi=>?_,by omega,h5.mono (Nat.le_refl _) fun id hv hid=>?_,fun id k h=>?_⟩
  ·have g1:¬ i=σ.next+1:=by omega
   rw[if_neg g1]; exact h2 i hi
  ·have:=h6 _ _ hv;have g1:¬ id=σ.next+1:=by omega
   show (if id=σ.next+1 then none else t.obj id)=_;rw[if_neg g1]
  ·have:=h6 _ _ h; omega
theorem gu8 {p:UInt8→Bool}(l:Str):(l.takeWhile p).length≤l.length:=(List.takeWhile_sublist _).length_le
theorem gn8:∀ (n:Nat) (l:Str),l.length≤n→∀ p∈aq5 n l,p.s.length≤l.length:=by
 intro n
 induction n with
 | zero=>intro l h p hp; simp[aq5] at hp
 | succ n ih=>
  intro l h p hp
  cases l with
  | nil=>simp[aq5] at hp
  | cons b l=>
   simp only[List.length_cons] at h;simp only[aq5] at hp;split at hp
   ·exact Nat.le_trans (ih l (by omega) p hp) (by simp)
   ·split at hp
    ·rcases List.mem_cons.1 hp with rfl|hp
     ·simp
     ·exact Nat.le_trans (ih l (by omega) p hp) (by simp)
    ·have hd:((b::l).dropWhile fun c=>ae1 c==ae1 b).length≤l.length:=by
      rw[List.dropWhile_cons,if_pos (by simp)]; exact cj7 l
     rcases List.mem_cons.1 hp with rfl|hp
     ·simp only;split
      ·exact Nat.le_trans (cj7 _) (gu8 _)
      ·exact gu8 _
     ·exact Nat.le_trans (ih _ (Nat.le_trans hd (by omega)) p hp) (Nat.le_trans hd (by simp))
theorem gn9 (s:Str):∀ p∈ae6 s,p.s.length≤s.length:=gn8 _ _ (Nat.le_refl _)
def is9:Part:=⟨2,[]⟩
abbrev vL (s:Str):List Part:=ae6 s++[is9]
theorem iw2 (s:Str):∀ p∈vL s,p.s.length≤s.length:=fun p hp=>by
 rcases List.mem_append.1 hp with h|h
 ·exact gn9 s p h
 ·simp[is9] at h; subst h; exact Nat.zero_le _
theorem dl4 {xs ys:List Part}{i:Nat}(h1:i<xs.length)(h2:i<ys.length):al1 (xs.drop i) (ys.drop i)=if ao7 xs[i] ys[i]≠0 then ao7 xs[i] ys[i] else al1 (xs.drop (i+1)) (ys.drop (i+1)):=by
 rw[List.drop_eq_getElem_cons h1,List.drop_eq_getElem_cons h2,al1]
theorem dv4 {xs ys:List Part}{i:Nat}(h:xs.length≤i∨ys.length≤i):al1 (xs.drop i) (ys.drop i)=0:=by
 rcases h with h|h
 ·rw[List.drop_of_length_le h,al1]; intros; contradiction
 ·rw[List.drop_of_length_le h]; cases xs.drop i<;>rw[al1]<;>intros<;>contradiction
theorem hl8 (l:List Part)(i:Nat)(h:i<l.length):(l.map Part.cs).getD i []=Part.cs l[i]:=by simp[List.getD_eq_getElem?_getD,h]
theorem fv4 {σ:Store}{id i:Nat}{l:List Part}(ho:σ.obj id=some (.row (l.map Part.cs).flatten))(h:i<l.length):ct1 (some 2) (i*2) (σ.obj id)=some (.agg (Part.cs l[i])):=by
 have hall:∀ e∈l.map Part.cs,e.length=2:=fun e he=>(bv2 l e he).1
 have hlen:=ar5 hall;rw[List.length_map] at hlen;have hp:=aw1 hall i (by rw[List.length_map]; exact h);rw[ho];simp only[ct1];have h1:i*2+2≤l.length*2:=by omega
 rw[if_pos (by rw[List.length_drop,hlen]; omega),hp,hl8 l i h]
theorem bv3 (a b:Str)(ha:a.length<2^30)(hb:b.length<2^30):PC Tryz.prog EE 62 [.str a,.str b] (.int .i64 (ay4 a b)):=by
 refine ar1 hE fok62 (nZ rfl) (ap9 (.str _) (.str _)) ?_;have la:=cf2 a;have lb:=cf2 b;simp only[ic62,go_sem];refine ad1 fok129 (de1 a ha _) ?_;rintro v1 s1 ⟨-,n1,g1,-⟩;refine ⟨n1,?_⟩;have n1:2≤s1.next:=n1;have ap1:=an1 (nid:=0) (e:=[IV.int .u8 2,IV.str []]) g1 (bv2 _) ⟨rfl,rfl⟩ (by rw[List.length_map]; omega);simp only[go_sem,ap1];have hl1:∀ e∈(vL a).map Part.cs,e.length=2:=fun e he=>(bv2 _ e he).1
 have r1:((ae6 a).map Part.cs++[[IV.int .u8 2,IV.str []]]).flatten=((vL a).map Part.cs).flatten:=by rw[List.map_append]; rfl
 have r2:((ae6 b).map Part.cs++[[IV.int .u8 2,IV.str []]]).flatten=((vL b).map Part.cs).flatten:=by rw[List.map_append]; rfl
 rw[r1];refine ad1 fok129 (de1 b hb _) ?_;rintro v2 s2 ⟨o2,n2,g2,h2⟩;refine ⟨n2,?_⟩;have n2:2≤s2.next:=by rw[aa8,ae9] at n2; omega
 have ap2:=an1 (nid:=1) (e:=[IV.int .u8 2,IV.str []]) g2 (bv2 _) ⟨rfl,rfl⟩ (by rw[List.length_map]; omega)
 have q0:s2.obj 0=some (.row ((vL a).map Part.cs).flatten):=by
  rw[o2 0 (by rw[aa8,ae9]; omega)];simp only[aa2,if_true]
 have q1:(ah9 v2 s2).obj 0=some (.row ((vL a).map Part.cs).flatten):=by
  rcases g2 with ⟨rfl,_⟩|⟨id,rfl,_,_⟩
  ·exact q0
  ·have:=h2 _ _ rfl;rw[aa8,ae9] at this;show (if 0=id then none else s2.obj 0)=_;rw[if_neg (by omega)]; exact q0
 rw[r2] at ap2;simp only[go_sem,ap2];generalize hS:(ah9 v2 s2).put 1 (.row ((vL b).map Part.cs).flatten)=S;have k0:S.obj 0=some (.row ((vL a).map Part.cs).flatten):=by rw[← hS]; exact q1
 have k1:S.obj 1=some (.row ((vL b).map Part.cs).flatten):=by rw[← hS]; simp only[aa2,if_true]
 clear hS ap1 ap2
 have hmin:(if ((ae6 b).length+1:Nat)<(((ae6 a).length+1:Nat):Int) then (((ae6 b).length+1:Nat):Int) else (((ae6 a).length+1:Nat):Int))=((min (vL a).length (vL b).length:Nat):Int):=by
  simp only[List.length_append,List.length_cons,List.length_nil];split<;>omega
 rw[hmin];have hA:(ae6 a).length+1=(vL a).length:=by simp
 have hB:(ae6 b).length+1=(vL b).length:=by simp
 rw[hA,hB];have hNa:min (vL a).length (vL b).length≤(vL a).length:=Nat.min_le_left _ _;have hNb:min (vL a).length (vL b).length≤(vL b).length:=Nat.min_le_right _ _;have hN:(vL a).length≤min (vL a).length (vL b).length∨(vL b).length≤min (vL a).length (vL b).length:=by omega
 have hsm:min (vL a).length (vL b).length<2^40:=by rw[← hA] at hNa; omega
 generalize min (vL a).length (vL b).length=N at *;refine ab7 noT (fun i fr s=>fr=[(5,.slice 0 0 (vL a).length 2),(6,.slice 1 0 (vL b).length 2),(23,.int .i64 N),(24,.int .i64 i)]∧s.obj=S.obj∧ay4 a b=al1 ((vL a).drop i) ((vL b).drop i)) N ⟨rfl,rfl,rfl⟩ ?_;rintro i fr s hle ⟨rfl,hs,hI⟩;by_cases hlt:i<N
 ·have c1:(i:Int)<N:=by omega
  have c2:(0:Int)≤i:=by omega
  have ia:i<(vL a).length:=by omega
  have ib:i<(vL b).length:=by omega
  have c3:(i:Int)<(vL a).length:=by omega
  have c4:(i:Int)<(vL b).length:=by omega
  have w1:=ad5 (i:=i) (by omega);have l0:=fv4 k0 ia;have l1:=fv4 k1 ib;rw[dl4 ia ib] at hI;have hp:=fd2 (vL a)[i] (vL b)[i] (by have:=iw2 a _ (List.getElem_mem ia); omega) (by have:=iw2 b _ (List.getElem_mem ib); omega);generalize (vL a)[i]=x at *;generalize (vL b)[i]=y at *;simp only[go_sem,c1,c2,c3,c4,hs,l0,l1];refine aa5 fok130 hp ?_;by_cases hz:ao7 x y=0
  ·simp only[go_sem,hz,w1];rw[hz,if_neg (by simp)] at hI;exact ⟨hlt,hI⟩
  ·rw[if_pos hz] at hI;simp only[go_sem,hz];rw[hI]; exact ad4 _ _
 ·have hi':i=N:=by omega
  subst hi';have c1:¬ (i:Int)<i:=by omega
  rw[dv4 hN] at hI;simp only[go_sem,c1];rw[hI]; exact ad4 _ _
theorem fv5 (a b:EVR):PC Tryz.prog EE 60 [.ac5 a.cs,.ac5 b.cs] (.int .i64 (be1 a.aw6 b.aw6)):=by
 refine as8 fok60 (nZ rfl) fun σ=>?_
 simp only[ic60,go_sem,EVR.cs];refine aa5 fok32 (dl3 _ _) ?_;simp only[go_sem,and_self]
theorem fv6 (a b:EVR)(h1:a.ver.length<2^30)(h2:b.ver.length<2^30):PC Tryz.prog EE 61 [.ac5 a.cs,.ac5 b.cs] (.int .i64 (ay4 a.ver b.ver)):=by
 refine as8 fok61 (nZ rfl) fun σ=>?_
 simp only[ic61,go_sem,EVR.cs];refine aa5 fok62 (bv3 _ _ h1 h2) ?_;simp only[go_sem,and_self]
theorem fv7 (a b:EVR)(h1:a.rel.length<2^30)(h2:b.rel.length<2^30):PC Tryz.prog EE 63 [.ac5 a.cs,.ac5 b.cs] (.int .i64 (if a.rel=[]∨b.rel=[] then 0 else ay4 a.rel b.rel)):=by
 refine as8 fok63 (nZ rfl) fun σ=>?_
 by_cases e1:a.rel=[]
 ·simp only[ic63,go_sem,EVR.cs,e1,true_or,and_self]
 ·by_cases e2:b.rel=[]
  ·simp only[ic63,go_sem,EVR.cs,e1,e2,or_true,and_self]
  ·simp only[ic63,go_sem,EVR.cs,e1,e2,or_self];refine aa5 fok62 (bv3 _ _ h1 h2) ?_;simp only[go_sem,and_self]
def fnC (f:Nat×List IV):List IV:=[.func (.func f.1) [] f.2]
theorem ed7 (fs:List (Nat×List IV))(vals:List Int)(hl:fs.length=vals.length)(hn:fs.length<2^40)(hb:∀ f∈fs,∀ c∈f.2,Bnd 0 c)
  (h:∀ i (h1:i<fs.length) (h2:i<vals.length),okF Tryz.prog fs[i].1=true∧PC Tryz.prog EE fs[i].1 fs[i].2 (.int .i64 vals[i])):PC Tryz.prog EE 59 [.aa3 (fs.map fnC)] (.int .i64 (orM vals)):=by
 refine ar1 hE fok59 (nZ rfl) (aj4 (.aa3 _ fun e he c hc=>?_)) ?_
 ·obtain ⟨f,hf,rfl⟩:=List.mem_map.1 he
  cases hc with
  | head=>exact .func _ _ _ (fun c hc=>by cases hc) (hb f hf)
  | tail _ h=>cases h
 simp only[ic59,go_sem];refine ab7 noT (fun i fr s=>fr=[(6,.aa3 (fs.map fnC)),(7,.int .i64 fs.length),(8,.int .i64 i)]∧orM vals=orM (vals.drop i)) fs.length ⟨rfl,rfl⟩ ?_;rintro i fr s hle ⟨rfl,hI⟩;by_cases hlt:i<fs.length
 ·obtain ⟨f,hf,hget0,hdr,hget,htk⟩:=ah3 fs i hlt;have hlt2:i<vals.length:=by omega
  have c1:(i:Int)<fs.length:=by omega
  have c2:(0:Int)≤i:=by omega
  have w1:=ad5 (i:=i) (by omega);obtain ⟨k1,k2⟩:=h i hlt hlt2
  have hfi:fs[i]=f:=by
   have:=List.getElem?_eq_getElem hlt; rw[this] at hget0; exact Option.some.inj hget0
  rw[hfi] at k1 k2;rw[List.drop_eq_getElem_cons hlt2,orM] at hI;generalize vals[i]=x at *;simp only[go_sem,c1,c2,hget,fnC];refine al9 k1 k2 ?_;by_cases hx:x=0
  ·subst hx;simp only[go_sem,w1];exact ⟨hlt,by simpa using hI⟩
  ·rw[if_neg hx] at hI;simp only[go_sem,hx];rw[hI]; exact ad4 _ _
 ·have hi':i=fs.length:=by omega
  subst hi';have c1:¬ (fs.length:Int)<fs.length:=by omega
  rw[hl,List.drop_length,orM] at hI;simp only[go_sem,c1];rw[hI]; exact ad4 _ _
theorem ek3 (a:EVR):Bnd 0 (.ac5 a.cs):=.ac5 _ fun c hc=>by
 simp only[EVR.cs,List.mem_cons,List.not_mem_nil,or_false] at hc;rcases hc with rfl|rfl|rfl
 ·exact .int _ _
 ·exact .str _
 ·exact .str _
theorem dl5 (a:EVR):Bnd 0 (.agg a.cs):=.agg _ fun c hc=>by
 simp only[EVR.cs,List.mem_cons,List.not_mem_nil,or_false] at hc;rcases hc with rfl|rfl|rfl
 ·exact .int _ _
 ·exact .str _
 ·exact .str _
def EVR.small (e:EVR):Prop:=e.ver.length<2^30∧e.rel.length<2^30
theorem dl6 (a b:EVR)(ha:EVR.small a)(hb:EVR.small b):PC Tryz.prog EE 20 [.agg a.cs,.agg b.cs] (.int .i64 (bt5 a b)):=by
 refine ar1 hE fok20 (nZ rfl) (ap9 (dl5 a) (dl5 b)) ?_
 have hv:bt5 a b=orM [be1 a.aw6 b.aw6,ay4 a.ver b.ver,if a.rel=[]∨b.rel=[] then 0 else ay4 a.rel b.rel]:=by
  rw[il7]; unfold bt5;split
  ·rfl
  ·split
   ·rfl
   ·rfl
 have hf:=ed7 [(60,[.ac5 a.cs,.ac5 b.cs]),(61,[.ac5 a.cs,.ac5 b.cs]),(63,[.ac5 a.cs,.ac5 b.cs])] [be1 a.aw6 b.aw6,ay4 a.ver b.ver,if a.rel=[]∨b.rel=[] then 0 else ay4 a.rel b.rel] rfl (by simp)
  (fun f hf c hc=>by
   simp only[List.mem_cons,List.not_mem_nil,or_false] at hf;rcases hf with rfl|rfl|rfl<;>exact ap9 (ek3 a) (ek3 b) c hc)
  (fun i h1 h2=>by
   match i,h1 with
   | 0,_=>exact ⟨fok60.1,fv5 a b⟩
   | 1,_=>exact ⟨fok61.1,fv6 a b ha.1 hb.1⟩
   | 2,_=>exact ⟨fok63.1,fv7 a b ha.2 hb.2⟩
   | i+3,h=>simp at h; omega)
 rw[← hv] at hf;have ea:(IV.agg a.cs).cs.all IV.leaf=true:=rfl;have eb:(IV.agg b.cs).cs.all IV.leaf=true:=rfl;simp only[EVR.cs] at hf ⊢;simp only[ic20,go_sem];refine aa5 fok59 hf ?_;simp only[go_sem];exact ad4 _ _
def cq8 (a b:Int):Int:=IntKind.u8.wrap ((BitVec.ofInt 8 a &&& BitVec.ofInt 8 b).toNat:Int)
theorem be4 (a b:Int):ao9 .and (.int .u8 a) (.int .u8 b)=some (.int .u8 (cq8 a b)):=rfl
theorem it9 {n:Nat}(h:n<256):IntKind.u8.wrap (n:Int)=n:=by
 simp[IntKind.wrap,IntKind.bits,IntKind.signed]; omega
theorem ay6 (a b:Nat)(ha:a<256)(hb:b<256):cq8 a b=((a &&& b:Nat):Int):=by
 unfold cq8;rw[BitVec.toNat_and]
 have e:∀ n:Nat,n<256→(BitVec.ofInt 8 (n:Int)).toNat=n:=fun n hn=>by
  rw[BitVec.toNat_ofInt]; omega
 rw[e a ha,e b hb];exact it9 (Nat.lt_of_le_of_lt Nat.and_le_left ha)
theorem and7:∀ a,a<256→((a &&& 7=0)↔a%8=0):=by decide +kernel
theorem fv8:∀ x,x<256→((x &&& 7=0)↔(x.testBit 0=false∧x.testBit 1=false∧x.testBit 2=false)):=by decide +kernel
theorem and1:∀ a,a<256→((a &&& 1=0)↔a.testBit 0=false):=by decide +kernel
theorem il8:∀ a,a<256→((a &&& 4=0)↔a.testBit 2=false):=by decide +kernel
theorem fv9 (a b:Int):be1 a b=-1∨be1 a b=0∨be1 a b=1:=by
 unfold be1; split
 ·exact .inl rfl
 ·split
  ·exact .inr (.inl rfl)
  ·exact .inr (.inr rfl)
theorem ii1 (a b:Str):dw1 a b=-1∨dw1 a b=0∨dw1 a b=1:=by
 unfold dw1; split
 ·exact .inl rfl
 ·split
  ·exact .inr (.inl rfl)
  ·exact .inr (.inr rfl)
theorem fw1 (a b:Part):ao7 a b=-1∨ao7 a b=0∨ao7 a b=1:=by
 have h:∀ k n s:Int,(k=-1∨k=0∨k=1)→(n=-1∨n=0∨n=1)→(s=-1∨s=0∨s=1)→((if k≠0 then k else if n≠0 then n else s)=-1∨(if k≠0 then k else if n≠0 then n else s)=0∨(if k≠0 then k else if n≠0 then n else s)=1):=by
  intro k n s h1 h2 h3;rcases h1 with rfl|rfl|rfl<;>rcases h2 with rfl|rfl|rfl<;>simp<;>exact h3
 refine h (be1 a.kind b.kind) (if a.kind=5∧b.kind=5 then be1 a.s.length b.s.length else 0) (dw1 a.s b.s) (fv9 _ _) ?_ (ii1 _ _);split
 ·exact fv9 _ _
 ·exact .inr (.inl rfl)
theorem fd4:∀ (l m:List Part),al1 l m=-1∨al1 l m=0∨al1 l m=1:=by
 intro l
 induction l with
 | nil=>intro m; exact .inr (.inl (by rw[al1]; intros; contradiction))
 | cons a l ih=>
  intro m
  cases m with
  | nil=>exact .inr (.inl (by rw[al1]; intros; contradiction))
  | cons b m=>
   rw[al1];split
   ·exact fw1 a b
   ·exact ih m
theorem ek4 (a b:Str):ay4 a b=-1∨ay4 a b=0∨ay4 a b=1:=fd4 _ _
theorem go2 (a b:EVR):bt5 a b=-1∨bt5 a b=0∨bt5 a b=1:=by
 unfold bt5;split
 ·exact fv9 _ _
 ·split
  ·exact ek4 _ _
  ·split
   ·exact .inr (.inl rfl)
   ·exact ek4 _ _
def Dep.small (d:Dep):Prop:=0≤d.op∧d.op<256∧EVR.small d.evr
theorem au8 (d:Dep):Bnd 0 (.agg d.cs):=.agg _ fun c hc=>by
 simp only[Dep.cs,List.mem_cons,List.not_mem_nil,or_false] at hc;rcases hc with rfl|rfl|rfl|rfl|rfl
 ·exact .str _
 ·exact .int _ _
 ·exact .int _ _
 ·exact .str _
 ·exact .str _
theorem ed8 (a b:Dep)(ha:Dep.small a)(hb:Dep.small b):PC Tryz.prog EE 219 [.agg a.cs,.agg b.cs] (.bool (meet a b)):=by
 refine ar1 hE fok219 (nZ rfl) (ap9 (au8 a) (au8 b)) ?_;obtain ⟨a1,a2,a3⟩:=ha;obtain ⟨b1,b2,b3⟩:=hb;have hc:=dl6 a.evr b.evr a3 b3;have h3:=go2 a.evr b.evr;unfold meet;generalize bt5 a.evr b.evr=n at hc h3;simp only[EVR.cs] at hc;obtain ⟨x,hx⟩:∃ x:Nat,a.op=x:=⟨a.op.toNat,by omega⟩;obtain ⟨y,hy⟩:∃ y:Nat,b.op=y:=⟨b.op.toNat,by omega⟩;have hx2:x<256:=by omega
 have hy2:y<256:=by omega
 have ex7:cq8 x 7=((x &&& 7:Nat):Int):=ay6 x 7 hx2 (by omega);have ey7:cq8 y 7=((y &&& 7:Nat):Int):=ay6 y 7 hy2 (by omega);rw[hx,hy,Int.toNat_natCast,Int.toNat_natCast];by_cases hx0:x%8=0
 ·have q:=(and7 x hx2).2 hx0;rw[q] at ex7;have q':cq8 x 7=0:=ex7;simp only[ic219,go_sem,Dep.cs,hx,hy,be4,q',hx0,true_or];exact ac6 _
 ·have q:¬ (x &&& 7=0):=fun e=>hx0 ((and7 x hx2).1 e)
  have q':¬ cq8 x 7=0:=by rw[ex7]; omega
  by_cases hy0:y%8=0
  ·have r:=(and7 y hy2).2 hy0;rw[r] at ey7;have r':cq8 y 7=0:=ey7;simp only[ic219,go_sem,Dep.cs,hx,hy,be4,q',r',hy0,or_true];exact ac6 _
  ·have r:¬ (y &&& 7=0):=fun e=>hy0 ((and7 y hy2).1 e)
   have r':¬ cq8 y 7=0:=by rw[ey7]; omega
   simp only[ic219,go_sem,Dep.cs,hx,hy,be4,q',r',hx0,hy0,or_self];refine aa5 fok20 hc ?_;have exy:cq8 x y=((x &&& y:Nat):Int):=ay6 x y hx2 hy2;have hxy:x &&& y<256:=Nat.lt_of_le_of_lt Nat.and_le_left hx2;have exy7:cq8 ((x &&& y:Nat):Int) 7=((x &&& y &&& 7:Nat):Int):=ay6 _ 7 hxy (by omega);have s1:=fv3 1 (.inr (.inr rfl));have s2:=fv3 (-1) (.inl rfl);have n1:¬ ((1:Int)<0):=by decide
   have n2:¬ ((1:Int)=0):=by decide
   have n3:((-1:Int)<0):=by decide
   rw[if_neg n1,if_neg n2] at s1;rw[if_pos n3] at s2;have x1:cq8 x 1=((x &&& 1:Nat):Int):=ay6 x 1 hx2 (by omega);have x4:cq8 x 4=((x &&& 4:Nat):Int):=ay6 x 4 hx2 (by omega);have y1:cq8 y 1=((y &&& 1:Nat):Int):=ay6 y 1 hy2 (by omega);have y4:cq8 y 4=((y &&& 4:Nat):Int):=ay6 y 4 hy2 (by omega);have w1:IntKind.i64.wrap (0 - -1)=1:=by decide
   have w2:IntKind.i64.wrap (0-1)=-1:=by decide
   have bt:∀ (k i:Nat),bit (k:Int) i=k.testBit i:=fun k i=>by unfold bit; rw[Int.toNat_natCast]
   have z0:∀ k:Nat,((k:Int)=0)↔k=0:=fun k=>by omega
   rcases h3 with rfl|rfl|rfl
   ·have g1:side (- -1)=2:=by decide
    have g2:side (-1)=0:=by decide
    have m0:¬ ((-1:Int)=0):=by decide
    simp only[go_sem,m0,w1,g1,g2,bt];refine aa7 s1 ?_
    cases hb:x.testBit 2 with
    | true=>
     have e:¬ cq8 x 4=0:=by rw[x4,z0,il8 x hx2,hb]; simp
     simp only[go_sem,be4,e]
     exact ac6 _
    | false=>
     have e:cq8 x 4=0:=by rw[x4,z0,il8 x hx2,hb]
     simp only[go_sem,be4,e];refine aa7 s2 ?_
     cases hc:y.testBit 0 with
     | true=>
      have e2:¬ cq8 y 1=0:=by rw[y1,z0,and1 y hy2,hc]; simp
      simp only[go_sem,be4,e2]
      exact ac6 _
     | false=>
      have e2:cq8 y 1=0:=by rw[y1,z0,and1 y hy2,hc]
      simp only[go_sem,be4,e2];exact ac6 _
   ·simp only[go_sem,be4,exy,exy7,bt]
    have e:(!decide (((x &&& y &&& 7:Nat):Int)=0))=(x.testBit 0&&y.testBit 0||x.testBit 1&&y.testBit 1||x.testBit 2&&y.testBit 2):=by
     by_cases hz:x &&& y &&& 7=0
     ·obtain ⟨t0,t1,t2⟩:=(fv8 _ hxy).1 hz;rw[Nat.testBit_and] at t0 t1 t2;rw[hz,t0,t1,t2]; rfl
     ·have hz':¬ ((x &&& y &&& 7:Nat):Int)=0:=fun h=>hz (by omega)
      have ht:¬ ((x &&& y).testBit 0=false∧(x &&& y).testBit 1=false∧(x &&& y).testBit 2=false):=fun h=>hz ((fv8 _ hxy).2 h)
      rw[Nat.testBit_and,Nat.testBit_and,Nat.testBit_and] at ht;rw[decide_eq_false hz']
      revert ht
      generalize (x.testBit 0&&y.testBit 0)=b0;generalize (x.testBit 1&&y.testBit 1)=b1;generalize (x.testBit 2&&y.testBit 2)=b2;cases b0<;>cases b1<;>cases b2<;>simp
    rw[e];exact ac6 _
   ·have g1:side (-1)=0:=by decide
    have g2:side 1=2:=by decide
    simp only[go_sem,n2,w2,g1,g2,bt];refine aa7 s2 ?_
    cases hb:x.testBit 0 with
    | true=>
     have e:¬ cq8 x 1=0:=by rw[x1,z0,and1 x hx2,hb]; simp
     simp only[go_sem,be4,e]
     exact ac6 _
    | false=>
     have e:cq8 x 1=0:=by rw[x1,z0,and1 x hx2,hb]
     simp only[go_sem,be4,e];refine aa7 s1 ?_
     cases hc:y.testBit 2 with
     | true=>
      have e2:¬ cq8 y 4=0:=by rw[y4,z0,il8 y hy2,hc]; simp
      simp only[go_sem,be4,e2]
      exact ac6 _
     | false=>
      have e2:cq8 y 4=0:=by rw[y4,z0,il8 y hy2,hc]
      simp only[go_sem,be4,e2];exact ac6 _
theorem go3 (d:Dep):Bnd 0 (.ac5 d.cs):=.ac5 _ fun c hc=>by
 simp only[Dep.cs,List.mem_cons,List.not_mem_nil,or_false] at hc;rcases hc with rfl|rfl|rfl|rfl|rfl
 ·exact .str _
 ·exact .int _ _
 ·exact .int _ _
 ·exact .str _
 ·exact .str _
theorem ek5 (a d:Dep)(ha:Dep.small a)(hd:Dep.small d):PC Tryz.prog EE 167 [.agg a.cs,.agg d.cs] (.bool (meets a d)):=by
 refine ar1 hE fok167 (nZ rfl) (ap9 (au8 a) (au8 d)) ?_;have hm:=ed8 a d ha hd;unfold meets;simp only[Dep.cs] at hm;by_cases h:a.name=d.name
 ·simp only[ic167,go_sem,Dep.cs,h] at hm ⊢;refine aa5 fok219 hm ?_;simp only[go_sem];exact ac6 _
 ·simp only[ic167,go_sem,Dep.cs,h];exact ac6 _
theorem fw2 (n:Str)(e:EVR):PC Tryz.prog EE 242 [.str n,.agg e.cs] (.agg (Dep.cs ⟨n,2,e⟩)):=by
 refine ar1 hE fok242 (nZ rfl) (ap9 (.str _) (dl5 e)) ?_;simp only[ic242,go_sem,EVR.cs,Dep.cs]
 exact .keep _ (.agg _ fun c hc=>by
  simp only[List.mem_cons,List.not_mem_nil,or_false] at hc;rcases hc with rfl|rfl|rfl|rfl|rfl
  ·exact .str _
  ·exact .int _ _
  ·exact .int _ _
  ·exact .str _
  ·exact .str _)
theorem fw3 (p:aa4):PC Tryz.prog EE 218 [.agg p.cs] (.agg (own p).cs):=by
 refine ar1 hE fok218 (nZ rfl) (aj4 (bn1 p)) ?_;have ho:=fw2 p.name p.evr;simp only[EVR.cs,Dep.cs] at ho;simp only[ic218,go_sem,aa4.cs,own,Dep.cs];refine aa5 fok242 ho ?_;simp only[go_sem];exact .keep _ (au8 (own p))
def Pkg.small (p:aa4):Prop:=EVR.small p.evr∧(∀ d∈p.provides,Dep.small d)∧(∀ d∈p.ab6,Dep.small d)∧p.provides.length<2^40∧p.ab6.length<2^40∧p.files.length<2^40
theorem fw4 {p:aa4}(h:Pkg.small p):Dep.small (own p):=⟨by show (0:Int)≤2; decide,by show (2:Int)<256; decide,h.1⟩
theorem ck5 (p:aa4):p.cs.length=15:=rfl
theorem bv4 (p:aa4):p.cs.take 15=p.cs:=rfl
theorem bv5 (p:aa4):p.cs.all IV.leaf=true:=rfl
theorem go4 (p:aa4)(d:Dep)(hp:Pkg.small p)(hd:Dep.small d):PC Tryz.prog EE 165 [.agg p.cs,.agg d.cs] (.bool (named p d)):=by
 refine ar1 hE fok165 (nZ rfl) (ap9 (bn1 p) (au8 d)) ?_;have ho:=fw3 p;have hm:=ek5 (own p) d (fw4 hp) hd;generalize hx:Dep.cs (own p)=x at ho hm;simp only[ic165,go_sem,ck5,bv4,bv5,az4,au5,ar8];refine aa7 ho ?_;simp only[go_sem,az4,au5,ar8];refine aa7 hm ?_;simp only[go_sem];exact ac6 _
theorem fw5 (a d:Dep)(ha:Dep.small a)(hd:Dep.small d):PC Tryz.prog EE 166 ([]++[.agg a.cs]++[.ac5 d.cs]) (.bool (meets a d)):=by
 refine ar1 hE fok166 (nZ rfl) (ap9 (au8 a) (go3 d)) ?_;simp only[ic166,go_sem,az4,au5,ar8];refine aa5 fok167 (ek5 a d ha hd) ?_;simp only[go_sem];exact ac6 _
theorem ed9 (l:List Str)(s:Str)(hl:l.length<2^40):PC Tryz.prog EE 220 [.aa3 (l.map bn7),.str s] (.int .i64 (al4 (fun x=>decide (s=x)) l 0)):=by
 refine as8 fok220 (nZ rfl) fun σ=>?_
 simp only[ic220,go_sem];refine ab7 noT (fun i fr t=>t=σ∧fr=[(0,.aa3 (l.map bn7)),(1,.str s),(7,.int .i64 l.length),(8,.int .i64 i)]∧al4 (fun x=>decide (s=x)) l 0=al4 (fun x=>decide (s=x)) (l.drop i) i) l.length ⟨rfl,rfl,rfl⟩ ?_;rintro i fr t hi ⟨rfl,rfl,hf⟩;by_cases hlt:i<l.length
 ·obtain ⟨x,ha,_,hdr,hget,_⟩:=ah3 l i hlt;have c1:(i:Int)<l.length:=by omega
  have c2:(0:Int)≤i:=by omega
  have w1:=ad5 (i:=i) (by omega);rw[hdr,al4] at hf;by_cases e:s=x
  ·rw[if_pos (by simpa using e)] at hf;subst e;simp only[go_sem,c1,c2,hget,dk7,bn7,hf,and_self]
  ·rw[if_neg (by simpa using e)] at hf;simp only[go_sem,c1,c2,hget,dk7,bn7,e,w1];exact ⟨hlt,by rw[hf]; simp only[Int.natCast_add,Int.natCast_one]⟩
 ·have hi':i=l.length:=by omega
  subst hi';have c1:¬ (l.length:Int)<l.length:=by omega
  rw[List.drop_length] at hf;simp only[go_sem,c1,hf,al4,and_self]
theorem fw6 (l:List Str)(s:Str)(hl:l.length<2^40):PC Tryz.prog EE 168 [.aa3 (l.map bn7),.str s] (.bool (l.contains s)):=by
 refine as8 fok168 (nZ rfl) fun σ=>?_
 simp only[ic168,go_sem];refine aa5 fok220 (ed9 l s hl) ?_
 have e:l.any (fun x=>decide (s=x))=l.contains s:=by
  induction l with
  | nil=>rfl
  | cons a l ih=>rw[List.any_cons,List.contains_cons,ih (by simp at hl; omega)]; congr 1; by_cases h:s=a<;>simp[h]
 simp only[go_sem,bb9,e,and_self]
theorem ee1 (p:aa4)(d:Dep)(hp:Pkg.small p)(hd:Dep.small d):PC Tryz.prog EE 86 [.agg p.cs,.agg d.cs] (.bool (provides p d)):=by
 refine ar1 hE fok86 (nZ rfl) (ap9 (bn1 p) (au8 d)) ?_;have hn:=go4 p d hp hd;have hc:=cq2 p.provides 166 [] [.ac5 d.cs] (fun a=>meets a d) (by have:=hp.2.2.2.1; omega) fok166.1 fun a ha=>fw5 a d (hp.2.1 a ha) hd
 have hs:=fw6 p.files d.name hp.2.2.2.2.2;have hf:(p.cs.drop 6).head? = some (deps p.provides):=rfl;have hg:(p.cs.drop 14).head? = some (strs p.files):=rfl;have d0:d.cs.head? = some (.str d.name):=rfl;have d1:(d.cs.drop 1).head? = some (.int .u8 d.op):=rfl;unfold provides
 cases hb:named p d with
 | true=>
  rw[hb] at hn;simp only[ic86,go_sem,ck5,bv4,bv5,az4,au5,ar8];refine aa5 fok165 hn ?_;simp only[go_sem]
  exact ac6 _
 | false=>
  rw[hb] at hn;simp only[ic86,go_sem,ck5,bv4,bv5,az4,au5,ar8];refine aa5 fok165 hn ?_;simp only[go_sem,hf];refine aa5 fok83 hc ?_
  cases ha:p.provides.any (fun a=>meets a d) with
  | true=>
   simp only[go_sem]
   exact ac6 _
  | false=>
   by_cases h0:d.op=0
   ·simp only[go_sem,d0,d1,h0,hg];refine aa5 fok168 hs ?_;simp only[go_sem];exact ac6 _
   ·simp only[go_sem,d0,d1,h0];exact ac6 _
end Go.Id.Tryz
set_option linter.all false
namespace Go.Id.Tryz
open Go Go.Id Go.Proofs Go.Id.Md
set_option maxRecDepth 100000
abbrev wr (n:Int):Int:=IntKind.i64.wrap n
mutual
def ptR:ab1→Int→Int
 | .mk _ _ xs,n=>ptL xs n 0
def ptL:List ab1→Int→Int→Int
 | [],_,w=>w
 | r::rs,n,w=>if w<n then ptL rs n (wr (wr (w+1)+ptR r (wr (n-w)))) else w
end
theorem ii3 (r:ab1)(n:Int):ptR r n=ptL r.args n 0:=by cases r with|mk k d xs=>simp only[ptR,ab1.args]
theorem go8 (r:ab1):(r.cs.drop 6).head? = some (ae7 r.args):=by rw[ab1.au4]; rfl
def lR (l:List ab1):List IV:=[ae7 l]
def hm5:List (List ab1)→Int→Int→Int
 | [],_,w=>w
 | l::ls,n,w=>hm5 ls n (wr (w+ptL l n 0))
def szP (p:aa4)(n w:Int):Int:=hm5 (aw8 p) n (wr (wr (wr (wr (w+1)+p.provides.length)+p.ab6.length)+p.files.length))
def szL:List aa4→Int→Int→Int
 | [],_,w=>w
 | p::ps,n,w=>if w<n then szL ps n (szP p n w) else w
theorem fw7 {p:aa4}(h:p.Ok):∀ l∈aw8 p,l.length<2^62∧∀ r∈l,r.ok:=by
 intro l hl;simp only[aw8,List.mem_cons,List.not_mem_nil,or_false] at hl;have:=h.rich;simp only[aa4.rows,List.mem_cons,List.not_mem_nil,or_false,forall_eq_or_imp,forall_eq] at this;obtain ⟨a1,a2,a3,a4,a5,a6⟩:=this;rcases hl with rfl|rfl|rfl|rfl|rfl|rfl
 ·exact a1
 ·exact a2
 ·exact a3
 ·exact a4
 ·exact a5
 ·exact a6
structure hm6 (ab8:List ak8) (inst:List aa4):Prop where
 r1:ab8.length<2^20
 i1:inst.length<2^20
 s1:ai5 ab8<2^40
 rf:∀ r∈ab8,ak8.Fit r
 pf:∀ p∈inst,p.Fit
 ro:∀ r∈ab8,ak8.Ok r
 po:∀ p∈inst,p.Ok
theorem fd5 {p:aa4}(h:p.Tiny):Pkg.small p:=by
 have e:∀ v:EVR,v.tiny→EVR.small v:=fun v hv=>⟨by have:=hv.1; omega,by have:=hv.2; omega⟩
 refine ⟨e _ h.evr,fun d hd=>?_,fun d hd=>?_,?_,?_,?_⟩
 ·obtain ⟨a,b,c,_⟩:=h.bf1.2 d hd; exact ⟨a,b,e _ c⟩
 ·obtain ⟨a,b,c,_⟩:=h.obs.2 d hd; exact ⟨a,b,e _ c⟩
 ·have:=h.bf1.1; omega
 ·have:=h.obs.1; omega
 ·have:=h.files; omega
theorem ii4 {ab8:List ak8}{inst:List aa4}{p:Pool}(hI:hm6 ab8 inst)(h:cg5 ab8 inst=.inl p):∀ x∈bo5 p,x.Fit∧Pkg.small x∧x.Tiny:=by
 intro x hx;obtain ⟨h1,h2⟩:=ei1 h x hx;refine ⟨?_,fd5 (ei4 h1),ei4 h1⟩;rcases h2 with h2|⟨r,hr,h2⟩
 ·exact hI.pf x h2
 ·exact (hI.rf r hr).2 x h2
abbrev iv (n:Int):IV:=.int .i64 n
theorem ii5 {id n k:Nat}(h:k≤n):dm6 1 (some (.int .i64 (k:Int))) none (.slice id 0 n 1)=some (.slice id k (n-k) 1):=by
 have e:(0:Int)≤k:=by omega
 simp[dm6,cr4,de7,e,h]
theorem iu1 {pt:PT}{ct:CT}{P:Program}{E:Nat→IV}{e id:Nat}{z:List IV}{x:IX}{fr:Frm}{σ:Store}{K:IV→Store→Prop}:opT pt ct P E (.clr e z x) id fr σ K=bo2 (fi9 σ e z (x.ev E fr)) fun σ'=>σ'.next=σ.next∧K .undef σ':=rfl
end Go.Id.Tryz
set_option linter.all false
namespace Go.Id.Tryz
open Go Go.Id Go.Proofs Go.Shelf
set_option maxRecDepth 100000
def jd1:Go.Shelf.Ren where
 f:=fun n=>(List.lookup n [(0,0),(1,1),(2,2),(99,199),(107,111),(108,180),(109,220),(110,168),(119,262),(122,32),(125,72),(128,158),(129,159),(137,198),(151,259),(152,261),(161,235),(189,50),(197,258),(206,239),(215,73),(216,189),(217,238),(224,263),(225,264),(227,252),(228,257),(231,251),(233,253),(235,254),(257,119),(260,260),(266,255),(294,183),(295,184),(296,185),(297,186),(298,187),(299,188),(300,190),(301,191),(328,230),(329,211),(330,212),(331,231),(332,232),(336,237),(343,250),(347,265),(348,266),(349,267),(350,268),(351,269),(352,270),(353,271),(354,272),(355,273),(356,274),(357,275),(358,276),(359,277),(360,278),(361,279),(366,283),(367,291)]).getD 0
 t:=fun n=>(List.lookup n [(0,0),(1,1),(2,2),(3,3),(4,4),(5,5),(7,7),(8,8),(9,9),(10,10),(11,11),(12,12),(13,13),(14,14),(15,15),(16,16),(17,17),(18,18),(20,20),(21,21),(22,239),(23,268),(27,115),(28,49),(29,163),(30,224),(31,56),(32,258),(33,211),(34,141),(35,105),(40,298),(41,143),(43,85),(46,127),(47,126),(48,35),(51,203),(52,202),(53,87),(54,204),(55,237),(63,292),(64,293),(80,299),(81,79),(102,172),(104,184),(105,290),(106,291),(111,90),(112,39),(114,62),(115,283),(116,284),(117,285),(118,286),(119,294),(122,282),(123,287),(124,288),(127,308),(131,200),(134,169),(137,295),(139,297),(164,314),(181,225),(182,195),(183,196),(184,226),(185,227),(186,228),(187,229),(211,107),(214,267),(218,248),(219,249),(220,250),(221,264),(222,252),(223,265),(228,271),(229,272),(230,281),(238,300),(239,301),(240,302),(241,303),(242,304),(245,307),(248,311)]).getD 0
 g:=fun n=>n
theorem hm7:Lays.n189 Tryz.prog jd1 where
 mixed:=by kernel_rfl
 f125:=Tryz.func72.trans (congrArg some (by kernel_rfl))
 f128:=Tryz.func158.trans (congrArg some (by kernel_rfl))
 f129:=Tryz.func159.trans (congrArg some (by kernel_rfl))
 f189:=Tryz.func50.trans (congrArg some (by kernel_rfl))
 f215:=Tryz.func73.trans (congrArg some (by kernel_rfl))
 f216:=Tryz.func189.trans (congrArg some (by kernel_rfl))
 f257:=Tryz.func119.trans (congrArg some (by kernel_rfl))
 f294:=Tryz.func183.trans (congrArg some (by kernel_rfl))
 f295:=Tryz.func184.trans (congrArg some (by kernel_rfl))
 f296:=Tryz.func185.trans (congrArg some (by kernel_rfl))
 f297:=Tryz.func186.trans (congrArg some (by kernel_rfl))
 f298:=Tryz.func187.trans (congrArg some (by kernel_rfl))
 f299:=Tryz.func188.trans (congrArg some (by kernel_rfl))
 f300:=Tryz.func190.trans (congrArg some (by kernel_rfl))
 f301:=Tryz.func191.trans (congrArg some (by kernel_rfl))
 f328:=Tryz.func230.trans (congrArg some (by kernel_rfl))
 f329:=Tryz.func211.trans (congrArg some (by kernel_rfl))
 f330:=Tryz.func212.trans (congrArg some (by kernel_rfl))
 f331:=Tryz.func231.trans (congrArg some (by kernel_rfl))
 f332:=Tryz.func232.trans (congrArg some (by kernel_rfl))
 f343:=Tryz.func250.trans (congrArg some (by kernel_rfl))
 t0:=by kernel_rfl
 a0:=Tryz.isAgg0
 z0:=fun _=>by kernel_rfl
 v0:=fun _=>by kernel_rfl
 t3:=by kernel_rfl
 a3:=Tryz.isAgg3
 z3:=fun _=>by kernel_rfl
 v3:=fun _=>by kernel_rfl
 t4:=by kernel_rfl
 a4:=Tryz.isAgg4
 z4:=fun _=>by kernel_rfl
 v4:=fun _=>by kernel_rfl
 t5:=by kernel_rfl
 a5:=Tryz.isAgg5
 z5:=fun _=>by kernel_rfl
 v5:=fun _=>by kernel_rfl
 t9:=by kernel_rfl
 a9:=Tryz.isAgg9
 z9:=fun _=>by kernel_rfl
 v9:=fun _=>by kernel_rfl
 t28:=by kernel_rfl
 a28:=Tryz.isAgg49
 z28:=fun _=>by kernel_rfl
 v28:=fun _=>by kernel_rfl
 t46:=by kernel_rfl
 a46:=Tryz.isAgg127
 z46:=fun _=>by kernel_rfl
 v46:=fun _=>by kernel_rfl
 t51:=by kernel_rfl
 a51:=Tryz.isAgg203
 z51:=fun _=>by kernel_rfl
 v51:=fun _=>by kernel_rfl
 t53:=by kernel_rfl
 a53:=Tryz.isAgg87
 z53:=fun _=>by kernel_rfl
 v53:=fun _=>by kernel_rfl
 t131:=by kernel_rfl
 a131:=Tryz.isAgg200
 z131:=fun _=>by kernel_rfl
 v131:=fun _=>by kernel_rfl
 t182:=by kernel_rfl
 a182:=Tryz.isAgg195
 z182:=fun _=>by kernel_rfl
 v182:=fun _=>by kernel_rfl
 t183:=by kernel_rfl
 a183:=Tryz.isAgg196
 z183:=fun _=>by kernel_rfl
 v183:=fun _=>by kernel_rfl
 t218:=by kernel_rfl
 a218:=Tryz.isAgg248
 z218:=fun _=>by kernel_rfl
 v218:=fun _=>by kernel_rfl
 t222:=by kernel_rfl
 a222:=Tryz.isAgg252
 z222:=fun _=>by kernel_rfl
 v222:=fun _=>by kernel_rfl
 t228:=by kernel_rfl
 a228:=Tryz.isAgg271
 z228:=fun _=>by kernel_rfl
 v228:=fun _=>by kernel_rfl
 t229:=by kernel_rfl
 a229:=Tryz.isAgg272
 z229:=fun _=>by kernel_rfl
 v229:=fun _=>by kernel_rfl
def iu2 (l:List Int):List Int:=l.mergeSort fun x y=>decide (x≤y)
theorem fd6 {σ:Store}{id:Nat}{zs:List Int}(hz:zs.length<4611686018427387904)(ho:σ.obj id=some (.row (zs.map (IV.int .i64)))) :
  C Tryz.prog EE 50 [.slice id 0 zs.length 1] σ fun v s=>v=.tuple []∧s=σ.put id (.row ((iu2 zs).map (IV.int .i64))):=
 hb7 (enc:=Value.int .i64) (en:=IV.int .i64) (srt:=iu2) (fun _ _ x=>.int _ _) (fun _ _ x r h=>by cases h; rfl) (fun l=>List.length_mergeSort l) (by unfold iu2; rw[List.mergeSort_nil])
  (fun blk off cap zs w h1 h2 h3=>Any.slices_Sort_int hm7 blk off cap zs w h1 h2 h3) (fun p cap w=>Any.slices_Sort_int_none hm7 p cap w) hz ho
open Go Go.Id Go.Proofs Go.Shelf Go.Id.Md
theorem fw8 {P:Program}{E:Nat→IV}{f:Nat}(hn:∀ (p:Option Addr) (cap:Nat) (w:World),Calls P f #[.slice p 0 cap] w fun e w'=>e=.returned (.tuple #[])∧w'=w){σ:Store}:C P E f [.aa1] σ fun v s=>v=.tuple []∧s=σ:=by
 intro ρ w rargs hs hr;obtain ⟨hr1,hr2⟩:=hr;have hv0:=hr2 0 (by simp);obtain ⟨al⟩:=rargs
 match al,hr1,hv0 with
 | [r],_,hv0=>
  have hv0:VR ρ w .aa1 r:=hv0;cases hv0;refine callsIn_wide.2 ((hn _ _ w).mono ?_);rintro e w' ⟨rfl,rfl⟩;exact ⟨.tuple [],_,ρ,σ,rfl,⟨rfl,rfl⟩,hs,.tuple [] #[] rfl (fun i hi=>by simp at hi),ax7.refl _ _ _⟩
theorem fw9 {σ:Store}:C Tryz.prog EE 50 [.aa1] σ fun v s=>v=.tuple []∧s=σ:=fw8 fun p cap w=>Any.slices_Sort_int_none hm7 p cap w
end Go.Id.Tryz
/- Whom a package ab6: the function walked. Conditions: sizes that fit. -/
namespace Go.Id
open Go Go.Id
end Go.Id
namespace Go.Id.Tryz
open Go Go.Id Go.Proofs Go.Shelf Go.Id.Md
end Go.Id.Tryz
set_option linter.all false
namespace Go.Id.Tryz
open Go Go.Id Go.Proofs Go.Id.Md
set_option maxRecDepth 100000
def mP (name:Str)(bf1 obs:List Dep)(files:List Str):aa4:={ name:=name,evr:=⟨0,[49],[49]⟩,ez1:=1,vendor:=[],provides:=bf1,requires:=[],conflicts:=[],ab6:=obs,ac1:=[],ab9:=[],suggests:=[],ad2:=[],files:=files }
def dP (name:Str)(op:Int)(ver:Str):Dep:=⟨name,op,⟨0,ver,[]⟩⟩
def cP (name:Str)(bf1 obs files:IV):List IV:=[.str name,.int .i64 0,.str [49],.str [49],.int .u8 1,.str [],bf1,.aa1,.aa1,obs,.aa1,.aa1,.aa1,.aa1,files]
def mA:aa4:=mP [97] [] [] []
def mB:aa4:=mP [98] [dP [97] 2 [50]] [dP [97] 1 [50]] []
def mC:aa4:=mP [99] [] [] [[47,102]]
def mT:aa4:=mP [97] [dP [97] 2 [51],dP [97] 2 [52],dP [97] 0 []] [dP [97] 0 [],dP [98] 0 [],dP [98] 1 [57]] []
def mD:aa4:=mP [98] [] [] []
def cA:List IV:=cP [97] .aa1 .aa1 .aa1
def cB:List IV:=cP [98] (deps [dP [97] 2 [50]]) (deps [dP [97] 1 [50]]) .aa1
def cC:List IV:=cP [99] .aa1 .aa1 (strs [[47,102]])
def cT:List IV:=cP [97] (deps [dP [97] 2 [51],dP [97] 2 [52],dP [97] 0 []]) (deps [dP [97] 0 [],dP [98] 0 [],dP [98] 1 [57]]) .aa1
def cD:List IV:=cP [98] .aa1 .aa1 .aa1
theorem ii6 {name:Str}{bf1 obs:List Dep}{files:List Str}(h1:name.length<100)(h2:bf1.length<100)(h3:obs.length<100)(h4:files.length<100)(h5:(bf1++obs).all (fun d=>decide (d.name.length<100)&&decide (d.evr.ver.length<100)&&decide (d.evr.rel.length<100))=true)(h6:files.all (fun s=>decide (s.length<100))=true):(mP name bf1 obs files).Fit:=by
 have hd:∀ d∈bf1++obs,d.fit:=fun d hd=>by
  have:=List.all_eq_true.1 h5 d hd;simp only[Bool.and_eq_true,decide_eq_true_eq] at this;exact ⟨by omega,by show d.evr.ver.length<_; omega,by show d.evr.rel.length<_; omega⟩
 refine ⟨by show name.length<_; omega,⟨by show ([49]:Str).length<2^62; decide,by show ([49]:Str).length<2^62; decide⟩,⟨by show bf1.length<_; omega,fun d h=>hd d (List.mem_append_left _ h)⟩,⟨by show obs.length<_; omega,fun d h=>hd d (List.mem_append_right _ h)⟩,⟨by show files.length<_; omega,fun s h=>by have:=List.all_eq_true.1 h6 s h; simp only[decide_eq_true_eq] at this; omega⟩,fun x hx=>?_⟩;simp only[aa4.rows,mP,List.mem_cons,List.not_mem_nil,or_false] at hx;rcases hx with rfl|rfl|rfl|rfl|rfl|rfl<;>exact ⟨by decide,fun r h=>by cases h⟩
theorem cq9:∀ p∈[mA,mB,mC,mT,mD],p.Fit:=by
 intro p hp;simp only[List.mem_cons,List.not_mem_nil,or_false] at hp;rcases hp with rfl|rfl|rfl|rfl|rfl<;>exact ii6 (by decide) (by decide) (by decide) (by decide) (by decide) (by decide)
def p1M:Pool:=⟨rowsOf [mA,mB,mC] (-1) 1025,3,[([97],[0]),([98],[1]),([99],[2])]⟩
def p2M:Pool:=⟨rowsOf [mB,mC] (-1) 1025++rowsOf [mA] 0 0++rowsOf [mT,mD] 1 0,2,[([98],[0,4]),([99],[1]),([97],[2,3])]⟩
theorem jd2:ie8 (cg5 [] [mA,mB,mC])=.tuple [p1M.v,.int .i64 0]:=by kernel_rfl
theorem jd3:ie8 (cg5 [⟨0,[mA]⟩,⟨0,[mT,mD]⟩] [mB,mC])=.tuple [p2M.v,.int .i64 0]:=by kernel_rfl
def a1:List IV:=[.aa1,.aa3 [cA,cB,cC]]
def a2:List IV:=[.aa3 [[.int .i64 0,.aa3 [cA]],[.int .i64 0,.aa3 [cT,cD]]],.aa3 [cB,cC]]
theorem e1:PC Tryz.prog EE 7 a1 (.tuple [p1M.v,.int .i64 0]):=by
 rw[← jd2];refine fo3 (args':=[be3 [],bd5 [mA,mB,mC]]) (by kernel_rfl) (bc2 [] [mA,mB,mC] (by decide) (by decide) (by decide) (fun r h=>by cases h) fun p hp=>cq9 p ?_);simp only[List.mem_cons,List.not_mem_nil,or_false] at hp ⊢;rcases hp with h|h|h<;>simp[h]
theorem e2:PC Tryz.prog EE 7 a2 (.tuple [p2M.v,.int .i64 0]):=by
 rw[← jd3];refine fo3 (args':=[be3 [⟨0,[mA]⟩,⟨0,[mT,mD]⟩],bd5 [mB,mC]]) (by kernel_rfl) (bc2 _ _ (by decide) (by decide) (by decide) (fun r hr=>?_) fun p hp=>cq9 p ?_)
 ·simp only[List.mem_cons,List.not_mem_nil,or_false] at hr;rcases hr with rfl|rfl
  ·exact ⟨by decide,fun p hp=>cq9 p (by simp only[List.mem_cons,List.not_mem_nil,or_false] at hp ⊢; simp[hp])⟩
  ·exact ⟨by decide,fun p hp=>cq9 p (by simp only[List.mem_cons,List.not_mem_nil,or_false] at hp ⊢; rcases hp with h|h<;>simp[h])⟩
 ·simp only[List.mem_cons,List.not_mem_nil,or_false] at hp ⊢;rcases hp with h|h<;>simp[h]
theorem ek7 {p:Pool}{l:List aa4}(h:p.rows.map (·.pkg)=l)(hl:∀ x∈l,x∈[mA,mB,mC,mT,mD]):(∀ r∈p.rows,r.pkg.Fit)∧∀ r∈p.rows,r.pkg.provides.length+r.pkg.files.length+r.pkg.ab6.length+3≤2^15:=by
 have hm:∀ r∈p.rows,r.pkg∈[mA,mB,mC,mT,mD]:=fun r hr=>hl _ (by rw[← h]; exact List.mem_map_of_mem hr)
 refine ⟨fun r hr=>cq9 _ (hm r hr),fun r hr=>?_⟩;have:=hm r hr;generalize r.pkg=x at this;simp only[List.mem_cons,List.not_mem_nil,or_false] at this;rcases this with rfl|rfl|rfl|rfl|rfl<;>decide
theorem e3:PC Tryz.prog EE 100 [p1M.v] (.tuple [(dm9 [mA,mB,mC]).v,.int .i64 0]):=by
 obtain ⟨h1,h2⟩:=ek7 (p:=p1M) (l:=[mA,mB,mC]) rfl (fun x hx=>by simp only[List.mem_cons,List.not_mem_nil,or_false] at hx ⊢; rcases hx with h|h|h<;>simp[h]);exact cq4 p1M h1 (by decide) h2
theorem e4:PC Tryz.prog EE 100 [p2M.v] (.tuple [(dm9 [mB,mC,mA,mT,mD]).v,.int .i64 0]):=by
 obtain ⟨h1,h2⟩:=ek7 (p:=p2M) (l:=[mB,mC,mA,mT,mD]) rfl (fun x hx=>by simp only[List.mem_cons,List.not_mem_nil,or_false] at hx ⊢; rcases hx with h|h|h|h|h<;>simp[h]);exact cq4 p2M h1 (by decide) h2
end Go.Id.Tryz
set_option linter.all false
namespace Go.Id.Tryz
open Go Go.Id Go.Proofs Go.Id.Md
set_option maxRecDepth 100000
open Go Go.Id Go.Proofs Go.Shelf Go.Id.Md
theorem cr1 (xs:List Int)(g:Nat)(first cap:List IV)(q:Int→Bool)(hn:xs.length<2^62)(hok:okF Tryz.prog g=true)
  (hq:∀ x∈xs,PC Tryz.prog EE g (first++[IV.int .i64 x]++cap) (.bool (q x))):PC Tryz.prog EE 76 [.aa3 (xs.map Md.ag9),.func (.func g) first cap] (.int .i64 (al4 q xs 0)):=by
 refine as8 fok76 (nZ rfl) fun σ=>?_
 simp only[ic76,go_sem];refine ab7 noT (fun i fr s=>s=σ∧fr=[(0,.aa3 (xs.map Md.ag9)),(1,.func (.func g) first cap),(7,.int .i64 xs.length),(8,.int .i64 i)]∧al4 q xs 0=al4 q (xs.drop i) i) xs.length ⟨rfl,rfl,rfl⟩ ?_;rintro i fr s hi ⟨rfl,rfl,hf⟩;by_cases hlt:i<xs.length
 ·obtain ⟨x,ha,_,hdr,hget,_⟩:=ah3 xs i hlt;have c1:(i:Int)<xs.length:=by omega
  have c2:(0:Int)≤i:=by omega
  have w1:=ad5 (i:=i) (by omega);rw[hdr] at hf;simp only[go_sem,c1,c2,hget,Md.ag9];refine ar6 hok (gh5 (hq x ha)) ?_;rintro v s ⟨rfl,rfl⟩;refine ⟨Nat.le_refl _,?_⟩
  cases hqe:q x with
  | true=>simp only[go_sem,hf,al4,hqe,and_self]
  | false=>
   simp only[go_sem,w1];exact ⟨hlt,by rw[hf]; simp only[al4,hqe,Bool.false_eq_true,if_false,Int.natCast_add,Int.natCast_one]⟩
 ·have hi':i=xs.length:=by omega
  subst hi';have c1:¬ (xs.length:Int)<xs.length:=by omega
  rw[List.drop_length] at hf;simp only[go_sem,c1,hf,al4,and_self]
theorem fx1 (xs:List Int)(g:Nat)(first cap:List IV)(q:Int→Bool)(hn:xs.length<2^62)(hok:okF Tryz.prog g=true)
  (hq:∀ x∈xs,PC Tryz.prog EE g (first++[IV.int .i64 x]++cap) (.bool (q x))):PC Tryz.prog EE 78 [.aa3 (xs.map Md.ag9),.func (.func g) first cap] (.bool (xs.any q)):=by
 refine as8 fok78 (nZ rfl) fun σ=>?_
 simp only[ic78,go_sem]
 first|refine aa5 fok76 (cr1 xs g first cap q hn hok hq) ?_|refine aa7 (cr1 xs g first cap q hn hok hq) ?_
 simp only[go_sem,bb9,and_self]
/-! ### A number,an edit,looked for -/
/-! ### Copies of il2,of fb3 -/
theorem gs3 {d:TypeId}{c:IV}{cs:List IV}:dm7 (.pointer d) (.ac5 (c::cs))=some false:=rfl
def cr2 (c:Nat→Bool)(n:Nat):List IV:=(List.range n).map fun j=>.bool (c j)
theorem aq2 (c:Nat→Bool)(n:Nat):(cr2 c n).length=n:=by simp[cr2]
theorem fx2:∀ n:Nat,rep [IV.bool false] n=cr2 (fun _=>false) n:=by
 intro n
 have h:∀ m,rep [IV.bool false] m=List.replicate m (.bool false):=by
  intro m
  induction m with
  | zero=>rfl
  | succ m ih=>show [IV.bool false]++rep _ m=_; rw[ih]; rfl
 rw[h];exact List.ext_getElem (by simp[cr2]) fun i h1 h2=>by simp[cr2]
theorem ek9 (c:Nat→Bool){n i:Nat}(h:i<(cr2 c n).length):(cr2 c n)[i]=.bool (c i):=by simp[cr2]
theorem dl9 (c:Nat→Bool){n j:Nat}(h:j<n)(x:Bool):am6 (cr2 c n) j [.bool x]=cr2 (fun i=>if i=j then x else c i) n:=by
 refine List.ext_getElem (by rw[ad9 (by rw[aq2]; simp only[List.length_singleton]; omega),aq2,aq2]) fun i h1 h2=>?_
 rw[ek9];rw[aq2] at h2;unfold am6;simp only[List.getElem_append,List.length_take,aq2,List.getElem_take,List.getElem_drop,List.length_append,List.length_singleton,ek9];by_cases e:i=j
 ·subst e;have g1:¬ i<min i n:=by omega
  have g2:i<min i n+1:=by omega
  simp only[g1,g2,dite_false,dite_true,if_true,List.getElem_singleton]
 ·by_cases e2:i<j
  ·have g1:i<min j n:=by omega
   have g2:i<min j n+1:=by omega
   simp only[g1,g2,dite_true,e,if_false]
  ·have g1:¬ i<min j n:=by omega
   have g2:¬ i<min j n+1:=by omega
   have g3:j+1+(i-(min j n+1))=i:=by omega
   simp only[g2,g3,dite_false,e,if_false]
theorem gv1 {pt:PT}{ct:CT}{P:Program}{E:Nat→IV}{e id:Nat}{z:List IV}{x:IX}{fr:Frm}{σ:Store}{K:IV→Store→Prop}:opT pt ct P E (.cs9 e z x) id fr σ K=bo2 (df5 (x.ev E fr)) fun n=>K (.slice id 0 n e) (σ.put id (.row (rep z n))):=rfl
theorem fx3 {K:Nat→Prop}(n:Nat)(h:n≤2147483648):bo2 (df5 (.int .i64 (n:Int))) K=K n:=by
 have h1:(0:Int)≤n∧(n:Int)≤2147483648:=by omega
 show bo2 (if 0≤(n:Int)∧(n:Int)≤2147483648 then some ((n:Int).toNat) else none) K=K n;rw[if_pos h1]; rfl
theorem gp2 {s:Store}{S:Nat→Prop}{id n:Nat}{c:Nat→Bool}(hid:¬ S id)(ho:s.obj id=some (.row (cr2 c n))):Frz s S (.slice id 0 n 1) (.aa3 (((List.range n).map c).map bu2)):=by
 have hl:(((List.range n).map c).map bu2).length=n:=by simp
 refine .slice id 0 n 1 (cr2 c n) _ hid (.inr ho) hl (by rw[aq2]; omega) (fun i hi=>?_) fun i hi j hj=>?_
 ·simp[List.getD_eq_getElem?_getD,hi,bu2]
 ·have hj0:j=0:=by omega
  subst hj0;have e2:((((List.range n).map c).map bu2).getD i []).getD 0 .undef=.bool (c i):=by simp[List.getD_eq_getElem?_getD,hi,bu2]
  have e3:(cr2 c n).getD (0+(i*1+0)) .undef=.bool (c i):=by simp[List.getD_eq_getElem?_getD,hi,cr2]
  rw[e2,e3];exact .keep _ (.bool _)
abbrev ii7 (st:List Bool):IV:=.aa3 (st.map bu2)
theorem fx4 (st:List Bool):Bnd 0 (ii7 st):=.aa3 _ fun e he c hc=>by
 obtain ⟨b,_,rfl⟩:=List.mem_map.1 he
 cases hc with
 | head=>exact .bool _
 | tail _ h=>cases h
theorem fx5 {d:Dep}(h:an4 d=true):Dep.small d:=by
 obtain ⟨h1,h2,h3,h4⟩:=di8 h;exact ⟨h1,h2,by have:=h3.1; omega,by have:=h3.2; omega⟩
theorem ii8 (d:Dep)(xs:List ab1)(k:Int):((ab1.mk k d xs).cs.drop 1).take 5=d.cs:=by rw[ab1.au4]; rfl
theorem gv3 (d:Dep)(xs:List ab1)(k:Int):((ab1.mk k d xs).cs.drop 1).length=6:=by rw[ab1.au4]; rfl
theorem gv4 (d:Dep)(xs:List ab1)(k:Int):(ab1.mk k d xs).cs.head? = some (.int .u8 k):=by rw[ab1.au4]; rfl
end Go.Id.Tryz
set_option linter.all false
namespace Go.Id.Tryz
open Go Go.Id Go.Proofs Go.Shelf Go.Id.Md
set_option maxRecDepth 100000
theorem el1 (l:List Dep):∀ x∈l.map Dep.cs,x.length=5∧x.all IV.leaf=true:=fun x hx=>by
 obtain ⟨d,_,rfl⟩:=List.mem_map.1 hx; exact ⟨rfl,rfl⟩
theorem gp3 (d:Dep):∀ c∈d.cs,Bnd 0 c:=fun c hc=>by
 simp only[Dep.cs,List.mem_cons,List.not_mem_nil,or_false] at hc;rcases hc with rfl|rfl|rfl|rfl|rfl
 ·exact .str _
 ·exact .int _ _
 ·exact .int _ _
 ·exact .str _
 ·exact .str _
def ci6 (p:ab1×Bool):Option Dep:=if p.1.kind=1 then some p.1.dep else none
theorem gp4 (r:ab1)(hf:r.fit)(hc:r.count<2^30):PC Tryz.prog EE 84 [.agg r.cs] (.aa3 (r.atoms.map Dep.cs)):=by
 refine ar1 hE fok84 (nZ rfl) (aj4 (bb8 _)) ?_;simp only[ic84,go_sem,af2,ak1,ad3];refine ad1 fok164 (ec6 r _) ?_;rintro v s1 ⟨rfl,hb,hn,hs⟩;refine ⟨hn,?_⟩;simp only[go_sem] at hn hs hb ⊢;have h0:s1.obj 0=some (.cells [.aa1]):=by rw[hs 0 (by omega)]; rfl
 have hb1:=hb.1;refine bx3 (ce8 r hf 1) (fun rest t=>boxed 1 t∧∃ (ps rs:List (ab1×Bool)) (v:IV),rest=rs.map row∧ps++rs=r.parts false∧t.obj 0=some (.cells [v])∧s1.next<t.next∧Grow t v 5 ((ps.filterMap ci6).map Dep.cs)∧∀ id k,v=.slice id 0 k 5→s1.next<id) (fun _ _ h=>h.1) ?_ dk5 ?_ ?_ ?_
 ·rintro rest t t' ⟨⟨q1,q2⟩,ps,rs,v,h1,h2,h3,h4,h5,h6⟩ hn' hs';exact ⟨⟨by omega,by rw[hs' 1 q1]; exact q2⟩,ps,rs,v,h1,h2,by rw[hs' 0 (by omega)]; exact h3,by omega,h5.mono hn' fun id _ hid=>hs' id hid,h6⟩
 ·intro o;have e0:¬ 0=s1.next:=by omega
  have e1:¬ 1=s1.next:=by omega
  refine ⟨⟨by show 1<s1.next+1; omega,by simp only[aa2,e1,if_false]; exact hb.2⟩,[],r.parts false,.aa1,rfl,rfl,by simp only[aa2,e0,if_false]; exact h0,Nat.lt_succ_self _,.inl ⟨rfl,rfl⟩,fun id k h=>by cases h⟩
 ·rintro L pre a rest t hev ⟨⟨q1,q2⟩,ps,rs,v,h1,h2,h3,h4,h5,h6⟩ hL hlt
  cases rs with
  | nil=>cases h1
  | cons p rs=>
  rw[List.map_cons] at h1;obtain ⟨ha,hrest⟩:=List.cons.inj h1;subst ha;obtain ⟨⟨k,d,xs⟩,al⟩:=p;simp only[row,aa8] at hL hlt ⊢;have e1:¬ s1.next=t.next:=by omega
  have e2:¬ 0=t.next:=by omega
  have e3:¬ s1.next=0:=by omega
  have e4:¬ 0=s1.next:=by omega
  have e5:¬ 1=t.next:=by omega
  have e6:¬ 1=s1.next:=by omega
  have e7:¬ t.next=s1.next:=by omega
  have e8:¬ t.next=0:=by omega
  have e9:¬ 0=1:=by omega
  simp only[go_sem,hL,e1,e2,e3,e4,e5,e6,e7,e8,ad3,ak1,af2,gv4,ii8,gv3,h3];generalize hU:Store.mk (t.next+1) _=U;have un:U.next=t.next+1:=by rw[← hU]
  have uL:U.obj s1.next=some (L .busy none):=by rw[← hU]; simp only[aa2,if_true]
  have uo:∀ i,i<t.next→i≠s1.next→U.obj i=t.obj i:=fun i hi hne=>by
   have:¬ i=t.next:=by omega
   rw[← hU]; simp only[aa2,hne,this,if_false]
  have u0:=uo 0 (by omega) e4;rw[h3] at u0;have ub:U.obj t.next=some (.cells (ab1.mk k d xs).cs):=by rw[← hU]; simp only[aa2,e7,if_false,if_true]
  have hg:Grow U v 5 ((ps.filterMap ci6).map Dep.cs):=h5.mono (by omega) fun id hv hid=>uo id hid (by have:=h6 _ _ hv; omega)
  have hcnt:ps.length+(rs.length+1)=r.count:=by
   have:=congrArg List.length h2;rw[List.length_append,List.length_cons,ab1.cq1] at this;exact this
  have hpl:(ps.filterMap ci6).length<2^30:=by
   have:=List.length_filterMap_le ci6 ps;omega
  have hbx:1<U.next∧U.obj 1=some (.cells [.func (.func 216) [] [.ptr 1 0]]):=⟨by omega,by rw[uo 1 q1 e6]; exact q2⟩;by_cases hk:k=1
  ·have hat:ci6 (ab1.mk k d xs,al)=some d:=by unfold ci6; rw[if_pos]; rfl; exact hk
   have hap:=an1 (nid:=U.next) (e:=d.cs) (σ:=⟨U.next+1,U.obj⟩) (hg.mono (Nat.le_succ _) fun _ _ _=>rfl) (el1 _) ⟨rfl,rfl⟩ (by rw[List.length_map]; omega);have k0:=ag8 hg 0 (.cells [v]) u0 (fun _ h=>by cases h)
   have kL:(ah9 v ⟨U.next+1,U.obj⟩).obj s1.next=some (L .busy none):=by
    cases hv:v<;>try exact uL
    rename_i id o n' e;show (if s1.next=id then none else U.obj _)=_;rcases hg with ⟨h,_⟩|⟨id',h,_,_⟩
    ·rw[h] at hv; cases hv
    ·rw[hv] at h; cases h;have:=h6 _ _ hv;rw[if_neg (by omega)]; exact uL
   have k0':=ag8 (hg.mono (Nat.le_succ _) fun _ _ _=>rfl:Grow ⟨U.next+1,U.obj⟩ v 5 _) 0 (.cells [v]) u0 (fun _ h=>by cases h);have k1:=ag8 (hg.mono (Nat.le_succ _) fun _ _ _=>rfl:Grow ⟨U.next+1,U.obj⟩ v 5 _) 1 _ hbx.2 (fun _ h=>by cases h);have kn:=ae9 (σ:=⟨U.next+1,U.obj⟩) v;have x1:¬ 0=U.next:=by omega
   have x2:¬ s1.next=U.next:=by omega
   have x3:¬ 1=U.next:=by omega
   have x4:¬ U.next=s1.next:=by omega
   have x5:¬ U.next=0:=by omega
   have x6:¬ 1=0:=by omega
   rw[List.length_map] at hap;simp only[go_sem,hk,u0,ub,gv4,ii8,gv3,az4,au5,ar8,hap,k0',kL,x1,x2,e3,e4];refine cs7 (by simp only[aa8,kn]; omega) (by simp only[aa2,if_true]) ⟨⟨?_,?_⟩,ps++[(ab1.mk k d xs,al)],rs,.slice U.next 0 ((ps.filterMap ci6).length+1) 5,hrest,by rw[List.append_assoc]; exact h2,?_,?_,?_,fun id k h=>?_⟩
   ·simp only[aa8,kn]; omega
   ·simp only[aa2,x3,x6,e6,if_false]; exact k1
   ·simp only[aa2,e4,if_false,if_true]
   ·simp only[aa8,kn]; omega
   ·rw[List.filterMap_append];simp only[List.filterMap_cons,hat,List.filterMap_nil];rw[List.map_append];refine .inr ⟨U.next,by simp,?_,by simp only[aa8,kn]; omega⟩;simp only[aa2,x4,x5,if_false,if_true]; rfl
   ·cases h; omega
  ·have hat:ci6 (ab1.mk k d xs,al)=none:=by unfold ci6; rw[if_neg]; exact hk
   simp only[go_sem,hk,uL];refine cs7 (by rw[aa8,un]; omega) (by simp only[aa2,if_true]) ⟨⟨by rw[aa8]; exact hbx.1,by rw[aa2,if_neg e6]; exact hbx.2⟩,ps++[(ab1.mk k d xs,al)],rs,v,hrest,by rw[List.append_assoc]; exact h2,by rw[aa2,if_neg e4]; exact u0,by rw[aa8,un]; omega,?_,h6⟩;rw[List.filterMap_append];simp only[List.filterMap_cons,hat,List.filterMap_nil,List.append_nil];exact hg.mono (Nat.le_refl _) fun id hv _=>by rw[aa2,if_neg (by have:=h6 _ _ hv; omega)]
 ·rintro t o ⟨⟨q1,q2⟩,ps,rs,v,h1,h2,h3,h4,h5,h6⟩ hlt ho
  cases rs with
  | cons k rs=>cases h1
  | nil=>
  have e0:¬ 0=s1.next:=by omega
  rw[List.append_nil] at h2;have hat:r.atoms=ps.filterMap ci6:=by unfold ab1.atoms; rw[← h2]; rfl
  simp only[go_sem,e0,h3];rw[hat]
  have hg:Grow { next:=t.next,obj:=(t.kill s1.next).obj } v 5 ((ps.filterMap ci6).map Dep.cs):=h5.mono (Nat.le_refl _) fun id hv hid=>by
   have:=h6 _ _ hv;show (if id=s1.next then none else t.obj id)=_;rw[if_neg (by omega)]
  exact hg.frz (fun e he=>(el1 _ e he).1) (fun _ _=>Nat.not_lt_zero _) fun e he c hc=>by
   obtain ⟨x,_,rfl⟩:=List.mem_map.1 he;exact gp3 x c hc
theorem fd7 {r:ab1}{wh:Int}(h:ar2 r wh=0):r.count≤24∧∀ d∈r.atoms,an4 d=true:=by
 unfold ar2 at h;split at h
 ·cases h
 split at h
 ·cases h
 split at h
 ·cases h
 split at h
 case isFalse=>cases h
 rename_i hc _ hp;refine ⟨by omega,fun d hd=>?_⟩;unfold ab1.atoms at hd;obtain ⟨p,hp1,hp2⟩:=List.mem_filterMap.1 hd;have:=List.all_eq_true.1 hp p hp1;split at hp2
 ·rename_i hk;cases hp2;unfold ai4 at this;simp only[Bool.and_eq_true] at this;have h3:=this.2;rw[if_pos hk] at h3;exact h3
 ·cases hp2
theorem fx6 (r:ab1):r.atoms.length≤r.count:=by
 have:=List.length_filterMap_le ci6 (r.parts false);rw[ab1.cq1] at this;exact this
structure PF (u:Store) (m ga:Nat) (F C0:List IV) (Tv iv av:IV) (zs:List Int) (D:List Dep):Prop where
 nx:m+1<u.next
 gm:0<ga∧ga<m
 o0:u.obj 0=some (.cells C0)
 oF:u.obj ga=some (.row F)
 o8:u.obj m=some (.cells [Tv])
 o10:u.obj (m+1)=some (.cells [iv])
 hi:aj3 u (m+2) iv zs
 ha:Grow u av 5 (D.map Dep.cs)
 la:∀ id k,av=.slice id 0 k 5→m+1<id
 ne:∀ i j k k',iv=.slice i 0 k 1→av=.slice j 0 k' 5→i≠j
variable {u u':Store} {m ga:Nat} {F C0:List IV} {Tv iv av:IV} {zs:List Int} {D:List Dep}
theorem ii9 {s:Store}{lo:Nat}{v:IV}{zs:List Int}(h:aj3 s lo v zs):∀ i k,v=.slice i 0 k 1→lo≤i∧i<s.next:=fun i k hv=>by
 rcases h with ⟨rfl,_⟩|⟨id,h1,h2,rfl,_⟩
 ·cases hv
 ·cases hv; exact ⟨h1,h2⟩
theorem PF.mono (h:PF u m ga F C0 Tv iv av zs D)(hn:u.next≤u'.next)(ho:∀ i,i<u.next→u'.obj i=u.obj i):PF u' m ga F C0 Tv iv av zs D where
 nx:=Nat.lt_of_lt_of_le h.nx hn
 gm:=h.gm
 o0:=by rw[ho _ (by have:=h.nx; omega)]; exact h.o0
 oF:=by rw[ho _ (by have:=h.nx; have:=h.gm; omega)]; exact h.oF
 o8:=by rw[ho _ (by have:=h.nx; omega)]; exact h.o8
 o10:=by rw[ho _ h.nx]; exact h.o10
 hi:=h.hi.kept ⟨hn,ho⟩
 ha:=h.ha.mono hn fun id _ hid=>ho id hid
 la:=h.la
 ne:=h.ne
theorem PF.atoms (h:PF u m ga F C0 Tv iv av zs D)(E:List Dep){k nid:Nat}(h1:u.next≤nid)(h2:nid<u.next+k) :
  PF ((ah9 av ⟨u.next+k,u.obj⟩).put nid (.row (D.map Dep.cs++E.map Dep.cs).flatten)) m ga F C0 Tv iv (.slice nid 0 ((D.map Dep.cs).length+(E.map Dep.cs).length) 5) zs (D++E):=by
 have hx:=h.nx;have hg:=h.gm;have hkn:(ah9 av ⟨u.next+k,u.obj⟩).next=u.next+k:=ae9 av
 have hk:∀ i,(∀ k',av≠.slice i 0 k' 5)→(ah9 av ⟨u.next+k,u.obj⟩).obj i=u.obj i:=fun i hi=>by
  rcases h.ha with ⟨hv,_⟩|⟨id,hv,_,_⟩
  ·rw[hv]; rfl
  ·rw[hv];show (if i=id then none else u.obj i)=u.obj i;rw[if_neg fun e=>hi _ (by rw[e]; exact hv)]
 have hlow:∀ i,i<m+2→((ah9 av ⟨u.next+k,u.obj⟩).put nid (.row (D.map Dep.cs++E.map Dep.cs).flatten)).obj i=u.obj i:=fun i hi=>by
  rw[aa2,if_neg (by omega),hk i fun k' hv=>by have:=h.la _ _ hv; omega]
 refine ⟨by rw[aa8,hkn]; omega,hg,?_,?_,?_,?_,?_,?_,fun id k' hv=>by cases hv; omega,fun i j k1 k2 hi hj e=>?_⟩
 ·rw[hlow 0 (by omega)]; exact h.o0
 ·rw[hlow ga (by omega)]; exact h.oF
 ·rw[hlow m (by omega)]; exact h.o8
 ·rw[hlow (m+1) (by omega)]; exact h.o10
 ·rcases h.hi with ⟨hv,hz⟩|⟨id,i1,i2,hv,ho⟩
  ·exact .inl ⟨hv,hz⟩
  ·refine .inr ⟨id,i1,by rw[aa8,hkn]; omega,hv,?_⟩;rw[aa2,if_neg (by omega),hk id fun k' hv2=>h.ne _ _ _ _ hv hv2 rfl];exact ho
 ·refine .inr ⟨nid,by rw[List.map_append,List.length_append],by rw[aa2,if_pos rfl,List.map_append],by rw[aa8,hkn]; exact h2⟩
 ·cases hj;subst e;have:=(ii9 h.hi _ _ hi).2;omega
theorem ij1 {s:Store}{S:Nat→Prop}{fn:Fn}{cap cap':List IV}(h:fz6 s S cap cap'):Frz s S (.func fn [] cap) (.func fn [] cap'):=.func fn [] [] cap cap' rfl h.at.1 (fun i h=>absurd h (Nat.not_lt_zero _)) h.at.2
theorem el5 {s:Store}{id:Nat}{cs:List IV}(ho:s.obj id=some (.cells cs))(hb:∀ c∈cs,Bnd 0 c):dc1 s 0 (.ptr id 0) (.ac5 cs):=.ptr id 0 cs cs (Nat.not_lt_zero _) (.inl ho) (by omega) fun j hj=>by
 rw[Nat.zero_add,List.getD_eq_getElem?_getD,List.getElem?_eq_getElem hj];exact .keep _ (hb _ (List.getElem_mem hj))
end Go.Id.Tryz
set_option linter.all false
namespace Go.Id.Tryz
open Go Go.Id Go.Proofs Go.Shelf Go.Id.Md
set_option maxRecDepth 100000
theorem dv5 {v:IV}(h:Bnd 0 v):Bnd 0 (.ac5 [v]):=.ac5 _ (dh3 h)
/-! ### What is the same -/
open Go Go.Id Go.Proofs
section
variable {α:Type} [Inhabited α] (emb:α→Int)
def fd8 (d:Array α):List IV:=d.toList.map fun x=>.int .i64 (emb x)
theorem au9 (d:Array α):(fd8 emb d).length=d.size:=by simp[fd8]
theorem hm8 {d:Array α}{k:Nat}(h:k<d.size):((fd8 emb d).drop k).head? = some (.int .i64 (emb d[k]!)):=by
 simp[fd8,List.head?_drop,h]
theorem el6 {d:Array α}{i:Nat}(h:i<(fd8 emb d).length):(fd8 emb d)[i]=.int .i64 (emb (d[i]'(by rw[au9] at h; exact h))):=by simp[fd8]
theorem gp5 {d:Array α}{k:Nat}(h:k<d.size)(x:α):am6 (fd8 emb d) k [.int .i64 (emb x)]=fd8 emb (d.setIfInBounds k x):=by
 refine List.ext_getElem (by rw[ad9 (by rw[au9]; simp only[List.length_singleton]; omega),au9,au9,Array.size_setIfInBounds]) fun i h1 h2=>?_
 have h3:i<d.size:=by rw[au9,Array.size_setIfInBounds] at h2; exact h2
 have e0:(fd8 emb (d.setIfInBounds k x))[i]=.int .i64 (emb (if k=i then x else d[i])):=by
  rw[el6]; congr 2; exact Array.getElem_setIfInBounds ..
 rw[e0];unfold am6;simp only[List.getElem_append,List.length_take,au9,List.getElem_take,List.getElem_drop,List.length_append,List.length_singleton,el6];by_cases e:i=k
 ·subst e;have g1:¬ i<min i d.size:=by omega
  have g2:i<min i d.size+1:=by omega
  simp only[g1,g2,dite_false,dite_true,if_true,List.getElem_singleton]
 ·have e':¬ k=i:=fun h=>e h.symm
  by_cases e2:i<k
  ·have g1:i<min k d.size:=by omega
   have g2:i<min k d.size+1:=by omega
   simp only[g1,g2,dite_true,e',if_false]
  ·have g1:¬ i<min k d.size:=by omega
   have g2:¬ i<min k d.size+1:=by omega
   have g3:k+1+(i-(min k d.size+1))=i:=by omega
   simp only[g2,g3,dite_false,e',if_false]
theorem gp6 {a t vs:List IV}{k:Nat}(h:k+vs.length≤a.length):am6 (a++t) k vs=am6 a k vs++t:=by
 unfold am6;rw[List.take_append_of_le_length (by omega),List.drop_append_of_le_length h];simp only[List.append_assoc]
variable (tl:List IV)
def az7 (d:Array α):List IV:=fd8 emb d++tl
theorem bn4 (d:Array α):(az7 emb tl d).length=d.size+tl.length:=by rw[az7,List.length_append,au9]
theorem ah5 {d:Array α}{k:Nat}(h:k<d.size):((az7 emb tl d).drop k).head? = some (.int .i64 (emb d[k]!)):=by
 rw[az7,List.drop_append_of_le_length (by rw[au9]; omega),List.head?_append,hm8 emb h]; rfl
theorem el7 {d:Array α}{k:Nat}(h:k<d.size)(x:α):am6 (az7 emb tl d) k [.int .i64 (emb x)]=az7 emb tl (d.setIfInBounds k x):=by
 rw[az7,gp6 (by rw[au9,List.length_singleton]; omega),gp5 emb h,az7]
theorem el8 {d:Array α}{i j:Nat}(hi:i<d.size)(hj:j<d.size):am6 (am6 (az7 emb tl d) i [.int .i64 (emb d[j]!)]) j [.int .i64 (emb d[i]!)]=az7 emb tl (Go.Sort.swp d i j):=by
 rw[el7 emb tl hi,el7 emb tl (by rw[Array.size_setIfInBounds]; exact hj)]; rfl
theorem swp_size (d:Array α)(i j:Nat):(Go.Sort.swp d i j).size=d.size:=by simp[Go.Sort.swp]
structure SO (id:Nat) (d':Array α) (σ s:Store):Prop where
 next:σ.next≤s.next
 other:∀ i,i≠id→s.obj i=σ.obj i
 row:s.obj id=some (.row (az7 emb tl d'))
variable {cf:α→α→Int} {g:Nat} {first cap:List IV} {id:Nat}
structure cf4 (cf:α→α→Int) (g:Nat) (first cap:List IV):Prop where
 ok:okF Tryz.prog g=true
 pc:∀ x y:α,PC Tryz.prog EE g (first++[.int .i64 (emb x),.int .i64 (emb y)]++cap) (.int .i64 (cf x y))
theorem fx7 (hC:cf4 emb cf g first cap){σ:Store}(d:Array α)(a b:Nat)(hab:a≤b)(hb:b≤d.size)(hz:d.size<2^40)(ho:σ.obj id=some (.row (az7 emb tl d))) :
  C Tryz.prog EE 150 [.slice id 0 d.size 1,.int .i64 a,.int .i64 b,.func (.func g) first cap] σ fun v s=>v=.tuple []∧SO emb tl id (Go.Sort.insertionSort (ltOf cf) d a b) σ s:=by
 refine C_f fok150 (nZ rfl) ?_;have w0:=ad5 (i:=a) (by omega);simp only[ic150,go_sem,w0];refine ab7 noT (fun k fr t=>∃ dk:Array α,fr=[(0,.slice id 0 d.size 1),(1,.int .i64 a),(2,.int .i64 b),(3,.func (.func g) first cap),(8,.int .i64 ((a+1+k:Nat):Int))]∧SO emb tl id dk σ t∧dk.size=d.size∧Go.Sort.insOuter (ltOf cf) a b (a+1+k) dk=Go.Sort.insertionSort (ltOf cf) d a b) (b-(a+1)) ⟨d,rfl,⟨Nat.le_refl _,fun _ _=>rfl,ho⟩,rfl,rfl⟩ ?_;rintro k fr t hk ⟨dk,rfl,hS,hsz,hI⟩;by_cases hlt:a+1+k<b
 ·have c1:((a+1+k:Nat):Int)<b:=by omega
  have w1:=ad5 (i:=a+1+k) (by omega);rw[Go.Sort.insOuter,if_pos hlt] at hI;simp only[go_sem,c1];refine ab7 noT (fun m fr u=>∃ (j:Nat) (dj:Array α),fr=[(0,.slice id 0 d.size 1),(1,.int .i64 a),(2,.int .i64 b),(3,.func (.func g) first cap),(8,.int .i64 ((a+1+k:Nat):Int)),(9,.int .i64 (j:Int))]∧j+m=a+1+k∧SO emb tl id dj σ u∧dj.size=d.size∧Go.Sort.insInner (ltOf cf) a j dj=Go.Sort.insInner (ltOf cf) a (a+1+k) dk) (a+1+k) ⟨a+1+k,dk,rfl,rfl,?_,hsz,rfl⟩ ?_
  ·exact ⟨hS.next,hS.other,hS.row⟩
  rintro m fr u hm ⟨j,dj,rfl,hj,hSj,hszj,hIj⟩;by_cases hja:a<j
  ·obtain ⟨j',rfl⟩:∃ j',j=j'+1:=⟨j-1,by omega⟩;have d1:(a:Int)<((j'+1:Nat):Int):=by omega
   have d2:IntKind.i64.wrap (((j'+1:Nat):Int)-1)=(j':Int):=by rw[wrap64 (by omega) (by omega)]; omega
   have d3:(0:Int)≤((j'+1:Nat):Int):=by omega
   have d4:((j'+1:Nat):Int)<d.size:=by omega
   have d5:(0:Int)≤(j':Int):=by omega
   have d6:(j':Int)<d.size:=by omega
   have r1:=ah5 emb tl (d:=dj) (k:=j'+1) (by omega);have r2:=ah5 emb tl (d:=dj) (k:=j') (by omega);have hc:=hC.pc dj[j'+1]! dj[j']!;rw[Go.Sort.insInner] at hIj;have hgt:decide (j'+1>a)=true:=decide_eq_true hja;rw[hgt,Bool.true_and] at hIj;simp only[go_sem,d1,d2,d3,d4,d5,d6,hSj.row,r1,r2,Int.toNat_natCast,Nat.zero_add,Nat.mul_one];refine al9 hC.ok hc ?_;by_cases hcf:cf dj[j'+1]! dj[j']! < 0
   ·have hlt2:ltOf cf dj[j'+1]! dj[j']! = true:=decide_eq_true hcf;rw[if_pos hlt2] at hIj;have hsw:=el8 emb tl (d:=dj) (i:=j'+1) (j:=j') (by omega) (by omega);have r3:j'+1+1≤(az7 emb tl dj).length:=by rw[bn4]; omega
    have r4:j'+1≤(am6 (az7 emb tl dj) (j'+1) [.int .i64 (emb dj[j']!)]).length:=by rw[ad9 (by rw[bn4]; simp only[List.length_singleton]; omega),bn4]; omega
    simp only[go_sem,hcf,d2,d3,d4,d5,d6,hSj.row,r1,r2,r3,r4,hsw,Int.toNat_natCast,Nat.zero_add,Nat.mul_one];refine ⟨by omega,j',Go.Sort.swp dj (j'+1) j',rfl,by omega,⟨?_,fun i hi=>?_,?_⟩,by rw[swp_size]; exact hszj,hIj⟩
    ·have:=hSj.next; simp only[aa8]; omega
    ·simp only[aa2,hi,if_false]; exact hSj.other i hi
    ·simp only[aa2,if_true]
   ·have hlt2:¬ ltOf cf dj[j'+1]! dj[j']! = true:=by unfold ltOf; simp[hcf]
    rw[if_neg hlt2] at hIj;simp only[go_sem,hcf,w1];refine ⟨by omega,dj,rfl,⟨?_,hSj.other,hSj.row⟩,hszj,?_⟩
    ·have:=hSj.next; show σ.next≤u.next+_; omega
    ·rw[← hI,← hIj];exact congrArg (fun n=>Go.Sort.insOuter (ltOf cf) a b n dj) (by omega)
  ·have d1:¬ (a:Int)<(j:Int):=by omega
   have hd:dj=Go.Sort.insInner (ltOf cf) a (a+1+k) dk:=by
    rw[← hIj]
    cases j with
    | zero=>rfl
    | succ j'=>
     rw[Go.Sort.insInner];have:decide (j'+1>a)=false:=decide_eq_false hja;rw[this]; rfl
   simp only[go_sem,d1,w1];refine ⟨by omega,dj,rfl,⟨?_,hSj.other,hSj.row⟩,hszj,?_⟩
   ·have:=hSj.next; show σ.next≤u.next+_; omega
   ·rw[← hI,hd];exact congrArg (fun n=>Go.Sort.insOuter (ltOf cf) a b n _) (by omega)
 ·have c1:¬ ((a+1+k:Nat):Int)<b:=by omega
  rw[Go.Sort.insOuter,if_neg hlt] at hI;simp only[go_sem,c1];rw[← hI];exact ⟨hS.next,hS.other,hS.row⟩
end
section
variable {α:Type} [Inhabited α] (emb:α→Int) (tl:List IV) {cf:α→α→Int} {g:Nat} {first cap:List IV} {id:Nat}
theorem SO.trans {d d':Array α}{σ s t:Store}(h:SO emb tl id d σ s)(h2:SO emb tl id d' s t):SO emb tl id d' σ t :=
 ⟨Nat.le_trans h.next h2.next,fun i hi=>by rw[h2.other i hi,h.other i hi],h2.row⟩
end
open Go Go.Id Go.Proofs Go.Id.Md
theorem cr3 {s:Store}(x:Str):dc1 s 0 (.str x) (.str x):=.keep _ (.str _)
theorem dm1 {s:Store}(k:IntKind)(n:Int):dc1 s 0 (.int k n) (.int k n):=.keep _ (.int _ _)
def gv5 (ab8:List ak8)(inst:List aa4):Pool:=match cg5 ab8 inst with
 | .inl p=>p
 | .inr _=>⟨[],0,[]⟩
theorem hm9 {ab8:List ak8}{inst:List aa4}{p:Pool}(hn:cg5 ab8 inst=.inl p):∀ q∈bo5 p,ah7 q=true:=fun q hq=>(ei1 hn q hq).1
end Go.Id.Tryz
