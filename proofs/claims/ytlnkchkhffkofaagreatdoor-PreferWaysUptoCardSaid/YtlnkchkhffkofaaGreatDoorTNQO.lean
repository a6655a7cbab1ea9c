/- Versions,EVRs,ranges compared; who provides what. Conditions: sizes that fit. -/
import Derived.Test.YtlnkchkhffkofaaGreatDoorTNQA
import Derived.Test.YtlnkchkhffkofaaGreatDoorTNPE
import Derived.Test.YtlnkchkhffkofaaGreatDoorMf
import Derived.Test.YtlnkchkhffkofaaGreatDoorFwZb
import Derived.Test.YtlnkchkhffkofaaGreatDoorTNPD
set_option linter.all false
namespace Go.Id.Tryz
open Go Go.Id Go.Proofs Go.Id.Md
set_option maxRecDepth 100000
theorem dx4 (s:Str):PC Tryz.prog EE 192 [.str s] (.func (.func 233) [] [.ab6 [.str s]]):=by
 refine ag3 hE fok192 (nZ rfl) (ae4 (.str _)) ?_;simp only[ic192,go_sem];have h1:∀ c∈[IV.str s],Bnd 0 c:=ae4 (.str _);have h2:∀ c∈[IV.ab6 [.str s]],Bnd 0 c:=ae4 (.ab6 _ h1);exact .keep _ (.func _ _ _ (fun c hc=>by cases hc) h2)
theorem bx4 (l:List Part):∀ e∈l.map Part.cs,e.length=2/\e.all IV.leaf=true:=fun e he=>by
 obtain ⟨x,_,rfl⟩:=List.mem_map.1 he; exact ⟨rfl,rfl⟩
theorem fi2:∀ (n:Nat) (l:Str),l.length<=n->(ar8 n l).length<=l.length:=by
 intro n
 induction n with
 | zero=>intro l h; simp[ar8]
 | succ n ih=>
  intro l h
  cases l with
  | nil=>simp[ar8]
  | cons b l=>
   simp only[List.length_cons] at h;simp only[ar8];split
   ·exact Nat.le_trans (ih l (by omega)) (by simp)
   ·split
    ·simp only[List.length_cons]; have:=ih l (by omega); omega
    ·simp only[List.length_cons]
     have hd:((b::l).dropWhile fun c=>ae3 c==ae3 b).length<=l.length:=by
      rw[List.dropWhile_cons,if_pos (by simp)]; exact cn7 l
     have:=ih _ (Nat.le_trans hd (by omega));omega
theorem ci6 (s:Str):(ae9 s).length<=s.length:=fi2 _ _ (Nat.le_refl _)
theorem dg1 (s:Str)(hs:s.length<2^30)(σ:Store):C Tryz.prog EE 129 [.str s] σ fun v t=>(∀ i,i<σ.next->t.obj i=σ.obj i)/\σ.next<=t.next/\Grow t v 2 ((ae9 s).map Part.cs)/\∀ id n,v=.slice id 0 n 2->σ.next<=id:=by
 refine C_f fok129 (nZ rfl) ?_;simp only[ic129,go_sem];refine aa5 fok192 (dx4 s) ?_;simp only[go_sem];have hvl:=ci6 s;refine cq3 (gp6 s (by omega)) (fun rest t=>∃ n v,n<=(ae9 s).length/\rest=((ae9 s).drop n).map evP/\(∀ i,i<σ.next->t.obj i=σ.obj i)/\t.obj σ.next=some (.cells [v])/\σ.next<t.next/\Grow t v 2 (((ae9 s).take n).map Part.cs)/\∀ id k,v=.slice id 0 k 2->σ.next+1<id) (fun _ _ _=>trivial) ?_ ?_ ?_ ?_ ?_
 ·rintro rest t t' ⟨n,v,h0,h1,h2,h3,h4,h5,h6⟩ hn ho;exact ⟨n,v,h0,h1,fun i hi=>by rw[ho i (by omega)]; exact h2 i hi,by rw[ho _ h4]; exact h3,by omega,h5.mono hn fun id _ hid=>ho id hid,h6⟩
 ·intro a ha;obtain ⟨p,_,rfl⟩:=List.mem_map.1 ha;rfl
 ·intro o;have e0:¬ σ.next=σ.next+1:=by omega
  refine ⟨0,.aa1,Nat.zero_le _,rfl,fun i hi=>?_,?_,by show σ.next<σ.next+1+1; omega,.inl ⟨rfl,by simp⟩,fun id k h=>by cases h⟩
  ·have e1:¬ i=σ.next:=by omega
   have e2:¬ i=σ.next+1:=by omega
   simp only[aa4,aa9,e1,e2,if_false]
  ·simp only[aa4,aa9,e0,if_false,if_true]
 ·rintro L pre a rest t hev ⟨n,v,h0,h1,h2,h3,h4,h5,h6⟩ hL hlt
  have hn:n<(ae9 s).length:=by
   rcases Nat.lt_or_ge n (ae9 s).length with h|h
   ·exact h
   ·rw[List.drop_of_length_le h] at h1; cases h1
  rw[List.drop_eq_getElem_cons hn,List.map_cons] at h1;obtain ⟨ha,hrest⟩:=List.cons.inj h1;subst ha;simp only[evP,Part.cs,aa9] at hL hlt ⊢;have e1:¬ σ.next+1=t.next:=by omega
  have e2:¬ σ.next=t.next:=by omega
  have e3:¬ σ.next=σ.next+1:=by omega
  have e4:¬ t.next=σ.next+1:=by omega
  have e5:¬ t.next=σ.next:=by omega
  simp only[go_sem,hL,e1,e2,e3,e4,h3];generalize hU:(((Store.put ⟨t.next+1,t.obj⟩ t.next (ak3.cells [IV.int .u8 0,IV.str []])).put t.next (ak3.cells [IV.int .u8 ↑(ae9 s)[n].kind,IV.str (ae9 s)[n].s])).put (σ.next+1) (L .busy none))=U
  have hUo:∀ i,i<t.next->i≠σ.next+1->U.obj i=t.obj i:=fun i hi hne=>by
   have:¬ i=t.next:=by omega
   rw[<- hU]; simp only[aa4,hne,this,if_false]
  have hUL:U.obj (σ.next+1)=some (L .busy none):=by rw[<- hU]; simp only[aa4,if_true]
  have hg:Grow ⟨t.next+1+1,U.obj⟩ v 2 (((ae9 s).take n).map Part.cs):=by
   refine h5.mono (by show t.next<=t.next+1+1; omega) fun id hv hid=>?_
   have:=h6 _ _ hv;exact hUo id hid (by omega)
  have hl0:(((ae9 s).take n).map Part.cs).length=n:=by rw[List.length_map,List.length_take]; omega
  have hap:=ao9 (nid:=t.next+1) (e:=[IV.int .u8 ↑(ae9 s)[n].kind,IV.str (ae9 s)[n].s]) hg (bx4 _) ⟨rfl,rfl⟩ (by rw[hl0]; omega);have k1:=ai4 hg σ.next (.cells [v]) (by show U.obj _=_; rw[hUo _ h4 e3]; exact h3) (fun _ h=>by cases h)
  have k2:(aj8 v ⟨t.next+1+1,U.obj⟩).obj (σ.next+1)=some (L .busy none):=by
   cases hv:v<;>try exact hUL
   rename_i id o n' e;show (if σ.next+1=id then none else U.obj _)=_;rcases h5 with ⟨h,_⟩|⟨id',h,_,_⟩
   ·rw[h] at hv; cases hv
   ·rw[hv] at h; cases h;have:=h6 _ _ hv;rw[if_neg (by omega)]; exact hUL
  have k3:∀ i,i<σ.next->(aj8 v ⟨t.next+1+1,U.obj⟩).obj i=σ.obj i:=fun i hi=>by
   have e7:U.obj i=σ.obj i:=by rw[hUo i (by omega) (by omega)]; exact h2 i hi
   cases hv:v<;>try exact e7
   rename_i id o n' e;show (if i=id then none else U.obj _)=_;rcases h5 with ⟨h,_⟩|⟨id',h,_,_⟩
   ·rw[h] at hv; cases hv
   ·rw[hv] at h; cases h;have:=h6 _ _ hv;rw[if_neg (by omega)]; exact e7
  have kn:=ah1 (σ:=⟨t.next+1+1,U.obj⟩) v;rw[hl0] at hap;have e6:¬ σ.next=t.next+1:=by omega
  have e7:¬ σ.next+1=t.next+1:=by omega
  have e8:¬ σ.next+1=σ.next:=by omega
  simp only[go_sem,hap,e6,k1,e7,e8,k2];refine dj5 (by rw[aa9,aa9,aa9,kn]; show t.next<=t.next+1+1; omega) (by simp only[aa4,if_true]) ?_;refine ⟨n+1,.slice (t.next+1) 0 (n+1) 2,hn,hrest,fun i hi=>?_,?_,?_,?_,fun id k h=>?_⟩
  ·have g1:¬ i=σ.next+1:=by omega
   have g2:¬ i=σ.next:=by omega
   have g3:¬ i=t.next+1:=by omega
   simp only[aa4,g1,g2,g3,if_false]; exact k3 i hi
  ·simp only[aa4,e3,if_false,if_true]
  ·simp only[aa9,kn]; omega
  ·have htk:(ae9 s).take (n+1)=(ae9 s).take n++[(ae9 s)[n]]:=by rw[List.take_succ_eq_append_getElem hn]
   rw[htk,List.map_append];refine .inr ⟨t.next+1,by simp; omega,?_,by simp only[aa9,kn]; omega⟩;have g1:¬ t.next+1=σ.next+1:=by omega
   have g2:¬ t.next+1=σ.next:=by omega
   simp only[aa4,g1,g2,if_false,if_true]; rfl
  ·cases h; omega
 ·rintro t o ⟨n,v,h0,h1,h2,h3,h4,h5,h6⟩ hlt ho
  have hn:n=(ae9 s).length:=by
   rcases Nat.lt_or_ge n (ae9 s).length with h|h
   ·rw[List.drop_eq_getElem_cons h] at h1; cases h1
   ·omega
  subst hn;have e3:¬ σ.next=σ.next+1:=by omega
  simp only[aa9] at hlt ho ⊢;simp only[go_sem,e3,h3];rw[List.take_length] at h5;refine ⟨fun i hi=>?_,by omega,h5.mono (Nat.le_refl _) fun id hv hid=>?_,fun id k h=>?_⟩
  ·have g1:¬ i=σ.next+1:=by omega
   rw[if_neg g1]; exact h2 i hi
  ·have:=h6 _ _ hv;have g1:¬ id=σ.next+1:=by omega
   show (if id=σ.next+1 then none else t.obj id)=_;rw[if_neg g1]
  ·have:=h6 _ _ h; omega
theorem gy4 {p:UInt8->Bool}(l:Str):(l.takeWhile p).length<=l.length:=(List.takeWhile_sublist _).length_le
theorem gq8:∀ (n:Nat) (l:Str),l.length<=n->∀ p∈ar8 n l,p.s.length<=l.length:=by
 intro n
 induction n with
 | zero=>intro l h p hp; simp[ar8] at hp
 | succ n ih=>
  intro l h p hp
  cases l with
  | nil=>simp[ar8] at hp
  | cons b l=>
   simp only[List.length_cons] at h;simp only[ar8] at hp;split at hp
   ·exact Nat.le_trans (ih l (by omega) p hp) (by simp)
   ·split at hp
    ·rcases List.mem_cons.1 hp with rfl|hp
     ·simp
     ·exact Nat.le_trans (ih l (by omega) p hp) (by simp)
    ·have hd:((b::l).dropWhile fun c=>ae3 c==ae3 b).length<=l.length:=by
      rw[List.dropWhile_cons,if_pos (by simp)]; exact cn7 l
     rcases List.mem_cons.1 hp with rfl|hp
     ·simp only;split
      ·exact Nat.le_trans (cn7 _) (gy4 _)
      ·exact gy4 _
     ·exact Nat.le_trans (ih _ (Nat.le_trans hd (by omega)) p hp) (Nat.le_trans hd (by simp))
theorem gq9 (s:Str):∀ p∈ae9 s,p.s.length<=s.length:=gq8 _ _ (Nat.le_refl _)
def fu7:Part:=⟨2,[]⟩
abbrev vL (s:Str):List Part:=ae9 s++[fu7]
theorem jb5 (s:Str):∀ p∈vL s,p.s.length<=s.length:=fun p hp=>by
 rcases List.mem_append.1 hp with h|h
 ·exact gq9 s p h
 ·simp[fu7] at h; subst h; exact Nat.zero_le _
theorem dn6 {xs ys:List Part}{i:Nat}(h1:i<xs.length)(h2:i<ys.length):ag2 (xs.drop i) (ys.drop i)=if af9 xs[i] ys[i]≠0 then af9 xs[i] ys[i] else ag2 (xs.drop (i+1)) (ys.drop (i+1)):=by
 rw[List.drop_eq_getElem_cons h1,List.drop_eq_getElem_cons h2,ag2]
theorem dx5 {xs ys:List Part}{i:Nat}(h:xs.length<=i\/ys.length<=i):ag2 (xs.drop i) (ys.drop i)=0:=by
 rcases h with h|h
 ·rw[List.drop_of_length_le h,ag2]; intros; contradiction
 ·rw[List.drop_of_length_le h]; cases xs.drop i<;>rw[ag2]<;>intros<;>contradiction
theorem hr6 (l:List Part)(i:Nat)(h:i<l.length):(l.map Part.cs).getD i []=Part.cs l[i]:=by simp[List.getD_eq_getElem?_getD,h]
theorem fx7 {σ:Store}{id i:Nat}{l:List Part}(ho:σ.obj id=some (.row (l.map Part.cs).flatten))(h:i<l.length):dk6 (some 2) (i*2) (σ.obj id)=some (.agg (Part.cs l[i])):=by
 have hall:∀ e∈l.map Part.cs,e.length=2:=fun e he=>(bx4 l e he).1
 have hlen:=as7 hall;rw[List.length_map] at hlen;have hp:=aw4 hall i (by rw[List.length_map]; exact h);rw[ho];simp only[dk6];have h1:i*2+2<=l.length*2:=by omega
 rw[if_pos (by rw[List.length_drop,hlen]; omega),hp,hr6 l i h]
theorem bx5 (a b:Str)(ha:a.length<2^30)(hb:b.length<2^30):PC Tryz.prog EE 62 [.str a,.str b] (.int .i64 (ap8 a b)):=by
 refine ag3 hE fok62 (nZ rfl) (am2 (.str _) (.str _)) ?_;have la:=ci6 a;have lb:=ci6 b;simp only[ic62,go_sem];refine ac9 fok129 (dg1 a ha _) ?_;rintro v1 s1 ⟨-,n1,g1,-⟩;refine ⟨n1,?_⟩;have n1:2<=s1.next:=n1;have ap1:=ao9 (nid:=0) (e:=[IV.int .u8 2,IV.str []]) g1 (bx4 _) ⟨rfl,rfl⟩ (by rw[List.length_map]; omega);simp only[go_sem,ap1];have hl1:∀ e∈(vL a).map Part.cs,e.length=2:=fun e he=>(bx4 _ e he).1
 have r1:((ae9 a).map Part.cs++[[IV.int .u8 2,IV.str []]]).flatten=((vL a).map Part.cs).flatten:=by rw[List.map_append]; rfl
 have r2:((ae9 b).map Part.cs++[[IV.int .u8 2,IV.str []]]).flatten=((vL b).map Part.cs).flatten:=by rw[List.map_append]; rfl
 rw[r1];refine ac9 fok129 (dg1 b hb _) ?_;rintro v2 s2 ⟨o2,n2,g2,h2⟩;refine ⟨n2,?_⟩;have n2:2<=s2.next:=by rw[aa9,ah1] at n2; omega
 have ap2:=ao9 (nid:=1) (e:=[IV.int .u8 2,IV.str []]) g2 (bx4 _) ⟨rfl,rfl⟩ (by rw[List.length_map]; omega)
 have q0:s2.obj 0=some (.row ((vL a).map Part.cs).flatten):=by
  rw[o2 0 (by rw[aa9,ah1]; omega)];simp only[aa4,if_true]
 have q1:(aj8 v2 s2).obj 0=some (.row ((vL a).map Part.cs).flatten):=by
  rcases g2 with ⟨rfl,_⟩|⟨id,rfl,_,_⟩
  ·exact q0
  ·have:=h2 _ _ rfl;rw[aa9,ah1] at this;show (if 0=id then none else s2.obj 0)=_;rw[if_neg (by omega)]; exact q0
 rw[r2] at ap2;simp only[go_sem,ap2];generalize hS:(aj8 v2 s2).put 1 (.row ((vL b).map Part.cs).flatten)=S;have k0:S.obj 0=some (.row ((vL a).map Part.cs).flatten):=by rw[<- hS]; exact q1
 have k1:S.obj 1=some (.row ((vL b).map Part.cs).flatten):=by rw[<- hS]; simp only[aa4,if_true]
 clear hS ap1 ap2
 have hmin:(if ((ae9 b).length+1:Nat)<(((ae9 a).length+1:Nat):Int) then (((ae9 b).length+1:Nat):Int) else (((ae9 a).length+1:Nat):Int))=((min (vL a).length (vL b).length:Nat):Int):=by
  simp only[List.length_append,List.length_cons,List.length_nil];split<;>omega
 rw[hmin];have hA:(ae9 a).length+1=(vL a).length:=by simp
 have hB:(ae9 b).length+1=(vL b).length:=by simp
 rw[hA,hB];have hNa:min (vL a).length (vL b).length<=(vL a).length:=Nat.min_le_left _ _;have hNb:min (vL a).length (vL b).length<=(vL b).length:=Nat.min_le_right _ _;have hN:(vL a).length<=min (vL a).length (vL b).length\/(vL b).length<=min (vL a).length (vL b).length:=by omega
 have hsm:min (vL a).length (vL b).length<2^40:=by rw[<- hA] at hNa; omega
 generalize min (vL a).length (vL b).length=N at *;refine ab4 noT (fun i fr s=>fr=[(5,.slice 0 0 (vL a).length 2),(6,.slice 1 0 (vL b).length 2),(23,.int .i64 N),(24,.int .i64 i)]/\s.obj=S.obj/\ap8 a b=ag2 ((vL a).drop i) ((vL b).drop i)) N ⟨rfl,rfl,rfl⟩ ?_;rintro i fr s hle ⟨rfl,hs,hI⟩;by_cases hlt:i<N
 ·have c1:(i:Int)<N:=by omega
  have c2:(0:Int)<=i:=by omega
  have ia:i<(vL a).length:=by omega
  have ib:i<(vL b).length:=by omega
  have c3:(i:Int)<(vL a).length:=by omega
  have c4:(i:Int)<(vL b).length:=by omega
  have w1:=ad4 (i:=i) (by omega);have l0:=fx7 k0 ia;have l1:=fx7 k1 ib;rw[dn6 ia ib] at hI;have hp:=fi1 (vL a)[i] (vL b)[i] (by have:=jb5 a _ (List.getElem_mem ia); omega) (by have:=jb5 b _ (List.getElem_mem ib); omega);generalize (vL a)[i]=x at *;generalize (vL b)[i]=y at *;simp only[go_sem,c1,c2,c3,c4,hs,l0,l1];refine aa5 fok130 hp ?_;by_cases hz:af9 x y=0
  ·simp only[go_sem,hz,w1];rw[hz,if_neg (by simp)] at hI;exact ⟨hlt,hI⟩
  ·rw[if_pos hz] at hI;simp only[go_sem,hz];rw[hI]; exact ad8 _ _
 ·have hi':i=N:=by omega
  subst hi';have c1:¬ (i:Int)<i:=by omega
  rw[dx5 hN] at hI;simp only[go_sem,c1];rw[hI]; exact ad8 _ _
theorem fx8 (a b:EVR):PC Tryz.prog EE 60 [.ab6 a.cs,.ab6 b.cs] (.int .i64 (am5 a.ao5 b.ao5)):=by
 refine ap7 fok60 (nZ rfl) fun σ=>?_
 simp only[ic60,go_sem,EVR.cs];refine aa5 fok32 (az7 _ _) ?_;simp only[go_sem,and_self]
theorem fx9 (a b:EVR)(h1:a.ver.length<2^30)(h2:b.ver.length<2^30):PC Tryz.prog EE 61 [.ab6 a.cs,.ab6 b.cs] (.int .i64 (ap8 a.ver b.ver)):=by
 refine ap7 fok61 (nZ rfl) fun σ=>?_
 simp only[ic61,go_sem,EVR.cs];refine aa5 fok62 (bx5 _ _ h1 h2) ?_;simp only[go_sem,and_self]
theorem fy1 (a b:EVR)(h1:a.rel.length<2^30)(h2:b.rel.length<2^30):PC Tryz.prog EE 63 [.ab6 a.cs,.ab6 b.cs] (.int .i64 (if a.rel=[]\/b.rel=[] then 0 else ap8 a.rel b.rel)):=by
 refine ap7 fok63 (nZ rfl) fun σ=>?_
 by_cases e1:a.rel=[]
 ·simp only[ic63,go_sem,EVR.cs,e1,true_or,and_self]
 ·by_cases e2:b.rel=[]
  ·simp only[ic63,go_sem,EVR.cs,e1,e2,or_true,and_self]
  ·simp only[ic63,go_sem,EVR.cs,e1,e2,or_self];refine aa5 fok62 (bx5 _ _ h1 h2) ?_;simp only[go_sem,and_self]
def fnC (f:Nat×List IV):List IV:=[.func (.func f.1) [] f.2]
theorem eh4 (fs:List (Nat×List IV))(vals:List Int)(hl:fs.length=vals.length)(hn:fs.length<2^40)(hb:∀ f∈fs,∀ c∈f.2,Bnd 0 c)
  (h:∀ i (h1:i<fs.length) (h2:i<vals.length),okF Tryz.prog fs[i].1=true/\PC Tryz.prog EE fs[i].1 fs[i].2 (.int .i64 vals[i])):PC Tryz.prog EE 59 [.aa3 (fs.map fnC)] (.int .i64 (orM vals)):=by
 refine ag3 hE fok59 (nZ rfl) (ae4 (.aa3 _ fun e he c hc=>?_)) ?_
 ·obtain ⟨f,hf,rfl⟩:=List.mem_map.1 he
  cases hc with
  | head=>exact .func _ _ _ (fun c hc=>by cases hc) (hb f hf)
  | tail _ h=>cases h
 simp only[ic59,go_sem];refine ab4 noT (fun i fr s=>fr=[(6,.aa3 (fs.map fnC)),(7,.int .i64 fs.length),(8,.int .i64 i)]/\orM vals=orM (vals.drop i)) fs.length ⟨rfl,rfl⟩ ?_;rintro i fr s hle ⟨rfl,hI⟩;by_cases hlt:i<fs.length
 ·obtain ⟨f,hf,hget0,hdr,hget,htk⟩:=af5 fs i hlt;have hlt2:i<vals.length:=by omega
  have c1:(i:Int)<fs.length:=by omega
  have c2:(0:Int)<=i:=by omega
  have w1:=ad4 (i:=i) (by omega);obtain ⟨k1,k2⟩:=h i hlt hlt2
  have hfi:fs[i]=f:=by
   have:=List.getElem?_eq_getElem hlt; rw[this] at hget0; exact Option.some.inj hget0
  rw[hfi] at k1 k2;rw[List.drop_eq_getElem_cons hlt2,orM] at hI;generalize vals[i]=x at *;simp only[go_sem,c1,c2,hget,fnC];refine ak5 k1 k2 ?_;by_cases hx:x=0
  ·subst hx;simp only[go_sem,w1];exact ⟨hlt,by simpa using hI⟩
  ·rw[if_neg hx] at hI;simp only[go_sem,hx];rw[hI]; exact ad8 _ _
 ·have hi':i=fs.length:=by omega
  subst hi';have c1:¬ (fs.length:Int)<fs.length:=by omega
  rw[hl,List.drop_length,orM] at hI;simp only[go_sem,c1];rw[hI]; exact ad8 _ _
theorem ep7 (a:EVR):Bnd 0 (.ab6 a.cs):=.ab6 _ fun c hc=>by
 simp only[EVR.cs,List.mem_cons,List.not_mem_nil,or_false] at hc;rcases hc with rfl|rfl|rfl
 ·exact .int _ _
 ·exact .str _
 ·exact .str _
theorem dn7 (a:EVR):Bnd 0 (.agg a.cs):=.agg _ fun c hc=>by
 simp only[EVR.cs,List.mem_cons,List.not_mem_nil,or_false] at hc;rcases hc with rfl|rfl|rfl
 ·exact .int _ _
 ·exact .str _
 ·exact .str _
def EVR.small (e:EVR):Prop:=e.ver.length<2^30/\e.rel.length<2^30
theorem at6 (a b:EVR)(ha:EVR.small a)(hb:EVR.small b):PC Tryz.prog EE 20 [.agg a.cs,.agg b.cs] (.int .i64 (ak8 a b)):=by
 refine ag3 hE fok20 (nZ rfl) (am2 (dn7 a) (dn7 b)) ?_
 have hv:ak8 a b=orM [am5 a.ao5 b.ao5,ap8 a.ver b.ver,if a.rel=[]\/b.rel=[] then 0 else ap8 a.rel b.rel]:=by
  rw[ir6]; unfold ak8;split
  ·rfl
  ·split
   ·rfl
   ·rfl
 have hf:=eh4 [(60,[.ab6 a.cs,.ab6 b.cs]),(61,[.ab6 a.cs,.ab6 b.cs]),(63,[.ab6 a.cs,.ab6 b.cs])] [am5 a.ao5 b.ao5,ap8 a.ver b.ver,if a.rel=[]\/b.rel=[] then 0 else ap8 a.rel b.rel] rfl (by simp)
  (fun f hf c hc=>by
   simp only[List.mem_cons,List.not_mem_nil,or_false] at hf;rcases hf with rfl|rfl|rfl<;>exact am2 (ep7 a) (ep7 b) c hc)
  (fun i h1 h2=>by
   match i,h1 with
   | 0,_=>exact ⟨fok60.1,fx8 a b⟩
   | 1,_=>exact ⟨fok61.1,fx9 a b ha.1 hb.1⟩
   | 2,_=>exact ⟨fok63.1,fy1 a b ha.2 hb.2⟩
   | i+3,h=>simp at h; omega)
 rw[<- hv] at hf;have ea:(IV.agg a.cs).cs.all IV.leaf=true:=rfl;have eb:(IV.agg b.cs).cs.all IV.leaf=true:=rfl;simp only[EVR.cs] at hf ⊢;simp only[ic20,go_sem];refine aa5 fok59 hf ?_;simp only[go_sem];exact ad8 _ _
def ct5 (a b:Int):Int:=IntKind.u8.wrap ((BitVec.ofInt 8 a &&& BitVec.ofInt 8 b).toNat:Int)
theorem bg5 (a b:Int):as5 .and (.int .u8 a) (.int .u8 b)=some (.int .u8 (ct5 a b)):=rfl
theorem iy6 {n:Nat}(h:n<256):IntKind.u8.wrap (n:Int)=n:=by
 simp[IntKind.wrap,IntKind.bits,IntKind.signed]; omega
theorem bb5 (a b:Nat)(ha:a<256)(hb:b<256):ct5 a b=((a &&& b:Nat):Int):=by
 unfold ct5;rw[BitVec.toNat_and]
 have e:∀ n:Nat,n<256->(BitVec.ofInt 8 (n:Int)).toNat=n:=fun n hn=>by
  rw[BitVec.toNat_ofInt]; omega
 rw[e a ha,e b hb];exact iy6 (Nat.lt_of_le_of_lt Nat.and_le_left ha)
theorem and7:∀ a,a<256->((a &&& 7=0)↔a%8=0):=by decide +kernel
theorem fy2:∀ x,x<256->((x &&& 7=0)↔(x.testBit 0=false/\x.testBit 1=false/\x.testBit 2=false)):=by decide +kernel
theorem and1:∀ a,a<256->((a &&& 1=0)↔a.testBit 0=false):=by decide +kernel
theorem ir7:∀ a,a<256->((a &&& 4=0)↔a.testBit 2=false):=by decide +kernel
theorem fy3 (a b:Int):am5 a b=-1\/am5 a b=0\/am5 a b=1:=by
 unfold am5; split
 ·exact .inl rfl
 ·split
  ·exact .inr (.inl rfl)
  ·exact .inr (.inr rfl)
theorem in1 (a b:Str):cr5 a b=-1\/cr5 a b=0\/cr5 a b=1:=by
 unfold cr5; split
 ·exact .inl rfl
 ·split
  ·exact .inr (.inl rfl)
  ·exact .inr (.inr rfl)
theorem fy4 (a b:Part):af9 a b=-1\/af9 a b=0\/af9 a b=1:=by
 have h:∀ k n s:Int,(k=-1\/k=0\/k=1)->(n=-1\/n=0\/n=1)->(s=-1\/s=0\/s=1)->((if k≠0 then k else if n≠0 then n else s)=-1\/(if k≠0 then k else if n≠0 then n else s)=0\/(if k≠0 then k else if n≠0 then n else s)=1):=by
  intro k n s h1 h2 h3;rcases h1 with rfl|rfl|rfl<;>rcases h2 with rfl|rfl|rfl<;>simp<;>exact h3
 refine h (am5 a.kind b.kind) (if a.kind=5/\b.kind=5 then am5 a.s.length b.s.length else 0) (cr5 a.s b.s) (fy3 _ _) ?_ (in1 _ _);split
 ·exact fy3 _ _
 ·exact .inr (.inl rfl)
theorem fi3:∀ (l m:List Part),ag2 l m=-1\/ag2 l m=0\/ag2 l m=1:=by
 intro l
 induction l with
 | nil=>intro m; exact .inr (.inl (by rw[ag2]; intros; contradiction))
 | cons a l ih=>
  intro m
  cases m with
  | nil=>exact .inr (.inl (by rw[ag2]; intros; contradiction))
  | cons b m=>
   rw[ag2];split
   ·exact fy4 a b
   ·exact ih m
theorem ep8 (a b:Str):ap8 a b=-1\/ap8 a b=0\/ap8 a b=1:=fi3 _ _
theorem gr1 (a b:EVR):ak8 a b=-1\/ak8 a b=0\/ak8 a b=1:=by
 unfold ak8;split
 ·exact fy3 _ _
 ·split
  ·exact ep8 _ _
  ·split
   ·exact .inr (.inl rfl)
   ·exact ep8 _ _
def Dep.small (d:Dep):Prop:=0<=d.op/\d.op<256/\EVR.small d.evr
theorem aq9 (d:Dep):Bnd 0 (.agg d.cs):=.agg _ fun c hc=>by
 simp only[Dep.cs,List.mem_cons,List.not_mem_nil,or_false] at hc;rcases hc with rfl|rfl|rfl|rfl|rfl
 ·exact .str _
 ·exact .int _ _
 ·exact .int _ _
 ·exact .str _
 ·exact .str _
theorem eh5 (a b:Dep)(ha:Dep.small a)(hb:Dep.small b):PC Tryz.prog EE 219 [.agg a.cs,.agg b.cs] (.bool (meet a b)):=by
 refine ag3 hE fok219 (nZ rfl) (am2 (aq9 a) (aq9 b)) ?_;obtain ⟨a1,a2,a3⟩:=ha;obtain ⟨b1,b2,b3⟩:=hb;have hc:=at6 a.evr b.evr a3 b3;have h3:=gr1 a.evr b.evr;unfold meet;generalize ak8 a.evr b.evr=n at hc h3;simp only[EVR.cs] at hc;obtain ⟨x,hx⟩:∃ x:Nat,a.op=x:=⟨a.op.toNat,by omega⟩;obtain ⟨y,hy⟩:∃ y:Nat,b.op=y:=⟨b.op.toNat,by omega⟩;have hx2:x<256:=by omega
 have hy2:y<256:=by omega
 have ex7:ct5 x 7=((x &&& 7:Nat):Int):=bb5 x 7 hx2 (by omega);have ey7:ct5 y 7=((y &&& 7:Nat):Int):=bb5 y 7 hy2 (by omega);rw[hx,hy,Int.toNat_natCast,Int.toNat_natCast];by_cases hx0:x%8=0
 ·have q:=(and7 x hx2).2 hx0;rw[q] at ex7;have q':ct5 x 7=0:=ex7;simp only[ic219,go_sem,Dep.cs,hx,hy,bg5,q',hx0,true_or];exact ab9 _
 ·have q:¬ (x &&& 7=0):=fun e=>hx0 ((and7 x hx2).1 e)
  have q':¬ ct5 x 7=0:=by rw[ex7]; omega
  by_cases hy0:y%8=0
  ·have r:=(and7 y hy2).2 hy0;rw[r] at ey7;have r':ct5 y 7=0:=ey7;simp only[ic219,go_sem,Dep.cs,hx,hy,bg5,q',r',hy0,or_true];exact ab9 _
  ·have r:¬ (y &&& 7=0):=fun e=>hy0 ((and7 y hy2).1 e)
   have r':¬ ct5 y 7=0:=by rw[ey7]; omega
   simp only[ic219,go_sem,Dep.cs,hx,hy,bg5,q',r',hx0,hy0,or_self];refine aa5 fok20 hc ?_;have exy:ct5 x y=((x &&& y:Nat):Int):=bb5 x y hx2 hy2;have hxy:x &&& y<256:=Nat.lt_of_le_of_lt Nat.and_le_left hx2;have exy7:ct5 ((x &&& y:Nat):Int) 7=((x &&& y &&& 7:Nat):Int):=bb5 _ 7 hxy (by omega);have s1:=fx6 1 (.inr (.inr rfl));have s2:=fx6 (-1) (.inl rfl);have n1:¬ ((1:Int)<0):=by decide
   have n2:¬ ((1:Int)=0):=by decide
   have n3:((-1:Int)<0):=by decide
   rw[if_neg n1,if_neg n2] at s1;rw[if_pos n3] at s2;have x1:ct5 x 1=((x &&& 1:Nat):Int):=bb5 x 1 hx2 (by omega);have x4:ct5 x 4=((x &&& 4:Nat):Int):=bb5 x 4 hx2 (by omega);have y1:ct5 y 1=((y &&& 1:Nat):Int):=bb5 y 1 hy2 (by omega);have y4:ct5 y 4=((y &&& 4:Nat):Int):=bb5 y 4 hy2 (by omega);have w1:IntKind.i64.wrap (0 - -1)=1:=by decide
   have w2:IntKind.i64.wrap (0-1)=-1:=by decide
   have bt:∀ (k i:Nat),bit (k:Int) i=k.testBit i:=fun k i=>by unfold bit; rw[Int.toNat_natCast]
   have z0:∀ k:Nat,((k:Int)=0)↔k=0:=fun k=>by omega
   rcases h3 with rfl|rfl|rfl
   ·have g1:side (- -1)=2:=by decide
    have g2:side (-1)=0:=by decide
    have m0:¬ ((-1:Int)=0):=by decide
    simp only[go_sem,m0,w1,g1,g2,bt];refine aa6 s1 ?_
    cases hb:x.testBit 2 with
    | true=>
     have e:¬ ct5 x 4=0:=by rw[x4,z0,ir7 x hx2,hb]; simp
     simp only[go_sem,bg5,e]
     exact ab9 _
    | false=>
     have e:ct5 x 4=0:=by rw[x4,z0,ir7 x hx2,hb]
     simp only[go_sem,bg5,e];refine aa6 s2 ?_
     cases hc:y.testBit 0 with
     | true=>
      have e2:¬ ct5 y 1=0:=by rw[y1,z0,and1 y hy2,hc]; simp
      simp only[go_sem,bg5,e2]
      exact ab9 _
     | false=>
      have e2:ct5 y 1=0:=by rw[y1,z0,and1 y hy2,hc]
      simp only[go_sem,bg5,e2];exact ab9 _
   ·simp only[go_sem,bg5,exy,exy7,bt]
    have e:(!decide (((x &&& y &&& 7:Nat):Int)=0))=(x.testBit 0&&y.testBit 0||x.testBit 1&&y.testBit 1||x.testBit 2&&y.testBit 2):=by
     by_cases hz:x &&& y &&& 7=0
     ·obtain ⟨t0,t1,t2⟩:=(fy2 _ hxy).1 hz;rw[Nat.testBit_and] at t0 t1 t2;rw[hz,t0,t1,t2]; rfl
     ·have hz':¬ ((x &&& y &&& 7:Nat):Int)=0:=fun h=>hz (by omega)
      have ht:¬ ((x &&& y).testBit 0=false/\(x &&& y).testBit 1=false/\(x &&& y).testBit 2=false):=fun h=>hz ((fy2 _ hxy).2 h)
      rw[Nat.testBit_and,Nat.testBit_and,Nat.testBit_and] at ht;rw[decide_eq_false hz']
      revert ht
      generalize (x.testBit 0&&y.testBit 0)=b0;generalize (x.testBit 1&&y.testBit 1)=b1;generalize (x.testBit 2&&y.testBit 2)=b2;cases b0<;>cases b1<;>cases b2<;>simp
    rw[e];exact ab9 _
   ·have g1:side (-1)=0:=by decide
    have g2:side 1=2:=by decide
    simp only[go_sem,n2,w2,g1,g2,bt];refine aa6 s2 ?_
    cases hb:x.testBit 0 with
    | true=>
     have e:¬ ct5 x 1=0:=by rw[x1,z0,and1 x hx2,hb]; simp
     simp only[go_sem,bg5,e]
     exact ab9 _
    | false=>
     have e:ct5 x 1=0:=by rw[x1,z0,and1 x hx2,hb]
     simp only[go_sem,bg5,e];refine aa6 s1 ?_
     cases hc:y.testBit 2 with
     | true=>
      have e2:¬ ct5 y 4=0:=by rw[y4,z0,ir7 y hy2,hc]; simp
      simp only[go_sem,bg5,e2]
      exact ab9 _
     | false=>
      have e2:ct5 y 4=0:=by rw[y4,z0,ir7 y hy2,hc]
      simp only[go_sem,bg5,e2];exact ab9 _
theorem bf5 (d:Dep):Bnd 0 (.ab6 d.cs):=.ab6 _ fun c hc=>by
 simp only[Dep.cs,List.mem_cons,List.not_mem_nil,or_false] at hc;rcases hc with rfl|rfl|rfl|rfl|rfl
 ·exact .str _
 ·exact .int _ _
 ·exact .int _ _
 ·exact .str _
 ·exact .str _
theorem ep9 (a d:Dep)(ha:Dep.small a)(hd:Dep.small d):PC Tryz.prog EE 167 [.agg a.cs,.agg d.cs] (.bool (meets a d)):=by
 refine ag3 hE fok167 (nZ rfl) (am2 (aq9 a) (aq9 d)) ?_;have hm:=eh5 a d ha hd;unfold meets;simp only[Dep.cs] at hm;by_cases h:a.name=d.name
 ·simp only[ic167,go_sem,Dep.cs,h] at hm ⊢;refine aa5 fok219 hm ?_;simp only[go_sem];exact ab9 _
 ·simp only[ic167,go_sem,Dep.cs,h];exact ab9 _
theorem fy5 (n:Str)(e:EVR):PC Tryz.prog EE 242 [.str n,.agg e.cs] (.agg (Dep.cs ⟨n,2,e⟩)):=by
 refine ag3 hE fok242 (nZ rfl) (am2 (.str _) (dn7 e)) ?_;simp only[ic242,go_sem,EVR.cs,Dep.cs]
 exact .keep _ (.agg _ fun c hc=>by
  simp only[List.mem_cons,List.not_mem_nil,or_false] at hc;rcases hc with rfl|rfl|rfl|rfl|rfl
  ·exact .str _
  ·exact .int _ _
  ·exact .int _ _
  ·exact .str _
  ·exact .str _)
theorem fy6 (p:aa2):PC Tryz.prog EE 218 [.agg p.cs] (.agg (own p).cs):=by
 refine ag3 hE fok218 (nZ rfl) (ae4 (ap5 p)) ?_;have ho:=fy5 p.name p.evr;simp only[EVR.cs,Dep.cs] at ho;simp only[ic218,go_sem,aa2.cs,own,Dep.cs];refine aa5 fok242 ho ?_;simp only[go_sem];exact .keep _ (aq9 (own p))
def Pkg.small (p:aa2):Prop:=EVR.small p.evr/\(∀ d∈p.provides,Dep.small d)/\(∀ d∈p.ab2,Dep.small d)/\p.provides.length<2^40/\p.ab2.length<2^40/\p.files.length<2^40
theorem fy7 {p:aa2}(h:Pkg.small p):Dep.small (own p):=⟨by show (0:Int)<=2; decide,by show (2:Int)<256; decide,h.1⟩
theorem av9 (p:aa2):p.cs.length=15:=rfl
theorem aq7 (p:aa2):p.cs.take 15=p.cs:=rfl
theorem ao7 (p:aa2):p.cs.all IV.leaf=true:=rfl
theorem dn8 (p:aa2)(d:Dep)(hp:Pkg.small p)(hd:Dep.small d):PC Tryz.prog EE 165 [.agg p.cs,.agg d.cs] (.bool (named p d)):=by
 refine ag3 hE fok165 (nZ rfl) (am2 (ap5 p) (aq9 d)) ?_;have ho:=fy6 p;have hm:=ep9 (own p) d (fy7 hp) hd;generalize hx:Dep.cs (own p)=x at ho hm;simp only[ic165,go_sem,av9,aq7,ao7,ar5,an8,am7];refine aa6 ho ?_;simp only[go_sem,ar5,an8,am7];refine aa6 hm ?_;simp only[go_sem];exact ab9 _
theorem gr2 (q:aa2)(d:Dep)(hq:Pkg.small q)(hd:Dep.small d):PC Tryz.prog EE 182 ([]++[.agg d.cs]++[.ab6 q.cs]) (.bool (named q d)):=by
 refine ag3 hE fok182 (nZ rfl) (am2 (aq9 d) (.ab6 _ (ag9 q))) ?_;simp only[ic182,go_sem,av9,aq7,ao7,ar5,an8,am7];refine aa5 fok165 (dn8 q d hq hd) ?_;simp only[go_sem];exact ab9 _
theorem dx6 (p q:aa2)(hp:Pkg.small p)(hq:Pkg.small q):PC Tryz.prog EE 118 [.agg p.cs,.agg q.cs] (.bool (ab2 p q)):=by
 refine ag3 hE fok118 (nZ rfl) (am2 (ap5 p) (ap5 q)) ?_;have hc:=bx2 p.ab2 182 [] [.ab6 q.cs] (fun d=>named q d) (by have:=hp.2.2.2.2.1; omega) fok182.1 fun d hd=>gr2 q d hq (hp.2.2.1 d hd)
 have hf:(p.cs.drop 9).head? = some (deps p.ab2):=rfl;simp only[ic118,go_sem,ao7,hf];refine aa5 fok83 hc ?_;simp only[go_sem];exact ab9 _
theorem fy8 (a d:Dep)(ha:Dep.small a)(hd:Dep.small d):PC Tryz.prog EE 166 ([]++[.agg a.cs]++[.ab6 d.cs]) (.bool (meets a d)):=by
 refine ag3 hE fok166 (nZ rfl) (am2 (aq9 a) (bf5 d)) ?_;simp only[ic166,go_sem,ar5,an8,am7];refine aa5 fok167 (ep9 a d ha hd) ?_;simp only[go_sem];exact ab9 _
theorem eh6 (l:List Str)(s:Str)(hl:l.length<2^40):PC Tryz.prog EE 220 [.aa3 (l.map bt3),.str s] (.int .i64 (ai3 (fun x=>decide (s=x)) l 0)):=by
 refine ap7 fok220 (nZ rfl) fun σ=>?_
 simp only[ic220,go_sem];refine ab4 noT (fun i fr t=>t=σ/\fr=[(0,.aa3 (l.map bt3)),(1,.str s),(7,.int .i64 l.length),(8,.int .i64 i)]/\ai3 (fun x=>decide (s=x)) l 0=ai3 (fun x=>decide (s=x)) (l.drop i) i) l.length ⟨rfl,rfl,rfl⟩ ?_;rintro i fr t hi ⟨rfl,rfl,hf⟩;by_cases hlt:i<l.length
 ·obtain ⟨x,ha,_,hdr,hget,_⟩:=af5 l i hlt;have c1:(i:Int)<l.length:=by omega
  have c2:(0:Int)<=i:=by omega
  have w1:=ad4 (i:=i) (by omega);rw[hdr,ai3] at hf;by_cases e:s=x
  ·rw[if_pos (by simpa using e)] at hf;subst e;simp only[go_sem,c1,c2,hget,dm8,bt3,hf,and_self]
  ·rw[if_neg (by simpa using e)] at hf;simp only[go_sem,c1,c2,hget,dm8,bt3,e,w1];exact ⟨hlt,by rw[hf]; simp only[Int.natCast_add,Int.natCast_one]⟩
 ·have hi':i=l.length:=by omega
  subst hi';have c1:¬ (l.length:Int)<l.length:=by omega
  rw[List.drop_length] at hf;simp only[go_sem,c1,hf,ai3,and_self]
theorem fy9 (l:List Str)(s:Str)(hl:l.length<2^40):PC Tryz.prog EE 168 [.aa3 (l.map bt3),.str s] (.bool (l.contains s)):=by
 refine ap7 fok168 (nZ rfl) fun σ=>?_
 simp only[ic168,go_sem];refine aa5 fok220 (eh6 l s hl) ?_
 have e:l.any (fun x=>decide (s=x))=l.contains s:=by
  induction l with
  | nil=>rfl
  | cons a l ih=>rw[List.any_cons,List.contains_cons,ih (by simp at hl; omega)]; congr 1; by_cases h:s=a<;>simp[h]
 simp only[go_sem,as2,e,and_self]
theorem ct6 (p:aa2)(d:Dep)(hp:Pkg.small p)(hd:Dep.small d):PC Tryz.prog EE 86 [.agg p.cs,.agg d.cs] (.bool (provides p d)):=by
 refine ag3 hE fok86 (nZ rfl) (am2 (ap5 p) (aq9 d)) ?_;have hn:=dn8 p d hp hd;have hc:=bx2 p.provides 166 [] [.ab6 d.cs] (fun a=>meets a d) (by have:=hp.2.2.2.1; omega) fok166.1 fun a ha=>fy8 a d (hp.2.1 a ha) hd
 have hs:=fy9 p.files d.name hp.2.2.2.2.2;have hf:(p.cs.drop 6).head? = some (deps p.provides):=rfl;have hg:(p.cs.drop 14).head? = some (strs p.files):=rfl;have d0:d.cs.head? = some (.str d.name):=rfl;have d1:(d.cs.drop 1).head? = some (.int .u8 d.op):=rfl;unfold provides
 cases hb:named p d with
 | true=>
  rw[hb] at hn;simp only[ic86,go_sem,av9,aq7,ao7,ar5,an8,am7];refine aa5 fok165 hn ?_;simp only[go_sem]
  exact ab9 _
 | false=>
  rw[hb] at hn;simp only[ic86,go_sem,av9,aq7,ao7,ar5,an8,am7];refine aa5 fok165 hn ?_;simp only[go_sem,hf];refine aa5 fok83 hc ?_
  cases ha:p.provides.any (fun a=>meets a d) with
  | true=>
   simp only[go_sem]
   exact ab9 _
  | false=>
   by_cases h0:d.op=0
   ·simp only[go_sem,d0,d1,h0,hg];refine aa5 fok168 hs ?_;simp only[go_sem];exact ab9 _
   ·simp only[go_sem,d0,d1,h0];exact ab9 _
end Go.Id.Tryz
set_option linter.all false
namespace Go.Id.Tryz
open Go Go.Id Go.Proofs Go.Id.Md
set_option maxRecDepth 100000
theorem fi5 (p:aa2)(n:Int)(d:Dep)(hp:Pkg.small p)(hd:Dep.small d):PC Tryz.prog EE 256 [.agg p.cs,.int .i64 n,.ab6 d.cs] (.bool (provides p d)):=by
 refine ag3 hE fok256 (nZ rfl) (fun a ha=>by
  simp only[List.mem_cons,List.not_mem_nil,or_false] at ha;rcases ha with rfl|rfl|rfl
  ·exact ap5 p
  ·exact .int _ _
  ·exact bf5 d) ?_
 simp only[ic256,go_sem,av9,aq7,ao7,ar5,an8,am7];refine aa5 fok86 (ct6 p d hp hd) ?_;simp only[go_sem];exact ab9 _
theorem eh8 (p:aa2)(n:Int)(d:Dep)(hp:Pkg.small p)(hd:Dep.small d):PC Tryz.prog EE 181 [.agg p.cs,.int .i64 n,.ab6 d.cs] (.bool (named p d)):=by
 refine ag3 hE fok181 (nZ rfl) (fun a ha=>by
  simp only[List.mem_cons,List.not_mem_nil,or_false] at ha;rcases ha with rfl|rfl|rfl
  ·exact ap5 p
  ·exact .int _ _
  ·exact bf5 d) ?_
 simp only[ic181,go_sem,av9,aq7,ao7,ar5,an8,am7];refine aa5 fok165 (dn8 p d hp hd) ?_;simp only[go_sem];exact ab9 _
theorem fz6 (nm:Nms)(σ:Store)(k:Str):∃ v,cw8 σ 2 .aa1 false (.al8 (nmV nm)) (.str k)=some v/\(v=.aa3 ((ad6 nm k).map Md.af3)\/v=.aa1/\ad6 nm k=[]):=by
 have h:∀ nm:Nms,∃ r,ax4 2 (.str k) (nmV nm)=some r/\((∃ v,r=some v/\v=.aa3 ((ad6 nm k).map Md.af3))\/r=none/\ad6 nm k=[]):=by
  intro nm
  induction nm with
  | nil=>exact ⟨none,rfl,.inr ⟨rfl,rfl⟩⟩
  | cons t ts ih=>
   obtain ⟨r,h1,h2⟩:=ih;simp only[nmV,List.map_cons,ax4,em1,ad6] at h1 ⊢;by_cases e:k=t.1
   ·simp only[e,decide_true,if_true];exact ⟨_,rfl,.inl ⟨_,rfl,rfl⟩⟩
   ·simp only[e,decide_false,if_false];exact ⟨r,h1,h2⟩
 obtain ⟨r,h1,h2⟩:=h nm;rcases h2 with ⟨v,rfl,rfl⟩|⟨rfl,h3⟩
 ·refine ⟨.aa3 ((ad6 nm k).map Md.af3),?_,.inl rfl⟩;simp only[cw8,cl2,h1];rfl
 ·refine ⟨.aa1,?_,.inr ⟨rfl,h3⟩⟩;simp only[cw8,cl2,h1];rfl
theorem numsOf_at {q:aa2->Bool}{l:List aa2}{n:Int}(h:n∈numsOf q l):∃ m:Nat,n=m/\m<l.length:=by
 obtain ⟨m,h1,h2,_⟩:=bo5.1 h;exact ⟨m,h1,h2⟩
theorem getD_at (l:List aa2)(m:Nat)(h:m<l.length):l.getD m default=l[m]:=by simp[List.getD_eq_getElem?_getD,h]
theorem ct7 (l:List aa2)(d:Dep)(hl:l.length<2^20)(hs:∀ p∈l,Pkg.small p)(hd:Dep.small d):PC Tryz.prog EE 244 [(ai8 l).v,.agg d.cs] (.aa3 ((ap4 l d).map Md.af3)):=by
 have hi:=bi8 l;have hb:=bf4 (ai8 l);refine ag3 hE fok244 (nZ rfl) (am2 hb (aq9 d)) ?_;have hlook:=hi.av4 d.name
 have hsift:∀ v,(v=.aa3 ((ad6 (ai8 l).av4 d.name).map Md.af3)\/v=.aa1/\ad6 (ai8 l).av4 d.name=[])->PC Tryz.prog EE 116 [(ai8 l).v,v,.func (.func 256) [] [.ab6 d.cs]] (.aa3 ((ap4 l d).map Md.af3)):=by
  intro v hv
  have h:=fx1 (ai8 l) (ad6 (ai8 l).av4 d.name) (by rw[hlook]; have:=ay4 (fun p=>decide (d.name∈cs4 p)) l; omega) 256 [.ab6 d.cs] (fun n=>provides (l.getD n.toNat default) d) (ae4 (bf5 d)) fok256.1 (fun n hn=>by
   rw[hlook] at hn;obtain ⟨m,rfl,hm⟩:=numsOf_at hn;refine ⟨m,rfl,by rw[hi.all]; exact hm,?_⟩;have e:(ai8 l).all[m]'(by rw[hi.all]; exact hm)=l[m]:=by simp only[hi.all]
   rw[e,Int.toNat_natCast,getD_at l m hm];exact fi5 l[m] m d (hs _ (List.getElem_mem hm)) hd)
  rw[dv2] at h;rcases hv with rfl|⟨rfl,h0⟩
  ·exact h
  ·rw[h0] at h;have hw:∀ {v:IV} {σ:Store},Bnd 0 v->Frz σ (fun _=>true=true) v v:=fun h=>.keep _ (h.weak fun _ _=>rfl)
   refine dk5 (args':=[(ai8 l).v,.aa3 [],.func (.func 256) [] [.ab6 d.cs]]) rfl (fun σ i hi=>?_) h
   match i,hi with
   | 0,_=>exact hw hb
   | 1,_=>exact .bg7
   | 2,_=>exact hw (.func _ _ _ (fun c hc=>by cases hc) (ae4 (bf5 d)))
 have hx:(ai8 l).v=.ab6 [.aa3 ((ai8 l).all.map aa2.cs),.al8 (nmV (ai8 l).av4),.al8 (nmV (ai8 l).names),.al8 (nmV (ai8 l).over)]:=rfl;have d0:d.cs.head? = some (.str d.name):=rfl;have hres:=an9 (ap4 l d)
 have hk0:∀ σ:Store,∃ v,cw8 σ 2 .aa1 false (.al8 (nmV (ai8 l).av4)) (.str d.name)=some v/\PC Tryz.prog EE 116 [(ai8 l).v,v,.func (.func 256) [] [.ab6 d.cs]] (.aa3 ((ap4 l d).map Md.af3)):=fun σ=>
  let ⟨v,h1,h2⟩:=fz6 (ai8 l).av4 σ d.name
  ⟨v,h1,hsift v h2⟩
 clear hsift hlook;rw[hx] at hk0 ⊢;generalize (ai8 l).all.map aa2.cs=a0 at *;simp only[ic244,go_sem,ar5,an8,am7,d0];obtain ⟨v,hk,hsv⟩:=hk0 ⟨11,emp.obj⟩;simp only[go_sem,hk];refine aa5 fok116 hsv ?_;simp only[go_sem];exact .keep _ hres
theorem eh9 (l:List aa2)(d:Dep)(hl:l.length<2^20)(hs:∀ p∈l,Pkg.small p)(hd:Dep.small d):PC Tryz.prog EE 112 [(ai8 l).v,.agg d.cs] (.aa3 ((bi9 l d).map Md.af3)):=by
 have hi:=bi8 l;have hb:=bf4 (ai8 l);refine ag3 hE fok112 (nZ rfl) (am2 hb (aq9 d)) ?_;have hlook:=hi.names d.name
 have hsift:∀ v,(v=.aa3 ((ad6 (ai8 l).names d.name).map Md.af3)\/v=.aa1/\ad6 (ai8 l).names d.name=[])->PC Tryz.prog EE 116 [(ai8 l).v,v,.func (.func 181) [] [.ab6 d.cs]] (.aa3 ((bi9 l d).map Md.af3)):=by
  intro v hv
  have h:=fx1 (ai8 l) (ad6 (ai8 l).names d.name) (by rw[hlook]; have:=ay4 (fun p=>decide (p.name=d.name)) l; omega) 181 [.ab6 d.cs] (fun n=>named (l.getD n.toNat default) d) (ae4 (bf5 d)) fok181.1 (fun n hn=>by
   rw[hlook] at hn;obtain ⟨m,rfl,hm⟩:=numsOf_at hn;refine ⟨m,rfl,by rw[hi.all]; exact hm,?_⟩;have e:(ai8 l).all[m]'(by rw[hi.all]; exact hm)=l[m]:=by simp only[hi.all]
   rw[e,Int.toNat_natCast,getD_at l m hm];exact eh8 l[m] m d (hs _ (List.getElem_mem hm)) hd)
  rw[gn2] at h;rcases hv with rfl|⟨rfl,h0⟩
  ·exact h
  ·rw[h0] at h;have hw:∀ {v:IV} {σ:Store},Bnd 0 v->Frz σ (fun _=>true=true) v v:=fun h=>.keep _ (h.weak fun _ _=>rfl)
   refine dk5 (args':=[(ai8 l).v,.aa3 [],.func (.func 181) [] [.ab6 d.cs]]) rfl (fun σ i hi=>?_) h
   match i,hi with
   | 0,_=>exact hw hb
   | 1,_=>exact .bg7
   | 2,_=>exact hw (.func _ _ _ (fun c hc=>by cases hc) (ae4 (bf5 d)))
 have hx:(ai8 l).v=.ab6 [.aa3 ((ai8 l).all.map aa2.cs),.al8 (nmV (ai8 l).av4),.al8 (nmV (ai8 l).names),.al8 (nmV (ai8 l).over)]:=rfl;have d0:d.cs.head? = some (.str d.name):=rfl;have hres:=an9 (bi9 l d)
 have hk0:∀ σ:Store,∃ v,cw8 σ 2 .aa1 false (.al8 (nmV (ai8 l).names)) (.str d.name)=some v/\PC Tryz.prog EE 116 [(ai8 l).v,v,.func (.func 181) [] [.ab6 d.cs]] (.aa3 ((bi9 l d).map Md.af3)):=fun σ=>
  let ⟨v,h1,h2⟩:=fz6 (ai8 l).names σ d.name
  ⟨v,h1,hsift v h2⟩
 clear hsift hlook;rw[hx] at hk0 ⊢;generalize (ai8 l).all.map aa2.cs=a0 at *;simp only[ic112,go_sem,ar5,an8,am7,d0];obtain ⟨v,hk,hsv⟩:=hk0 ⟨11,emp.obj⟩;simp only[go_sem,hk];refine aa5 fok116 hsv ?_;simp only[go_sem];exact .keep _ hres
abbrev wr (n:Int):Int:=IntKind.i64.wrap n
mutual
def ptR:aa8->Int->Int
 | .mk _ _ xs,n=>ptL xs n 0
def ptL:List aa8->Int->Int->Int
 | [],_,w=>w
 | r::rs,n,w=>if w<n then ptL rs n (wr (wr (w+1)+ptR r (wr (n-w)))) else w
end
theorem in2 (r:aa8)(n:Int):ptR r n=ptL r.args n 0:=by cases r with|mk k d xs=>simp only[ptR,aa8.args]
theorem gr6 (r:aa8):(r.cs.drop 6).head? = some (ae8 r.args):=by rw[aa8.aq5]; rfl
def lR (l:List aa8):List IV:=[ae8 l]
def hr9:List (List aa8)->Int->Int->Int
 | [],_,w=>w
 | l::ls,n,w=>hr9 ls n (wr (w+ptL l n 0))
def szP (p:aa2)(n w:Int):Int:=hr9 (ay9 p) n (wr (wr (wr (wr (w+1)+p.provides.length)+p.ab2.length)+p.files.length))
def szL:List aa2->Int->Int->Int
 | [],_,w=>w
 | p::ps,n,w=>if w<n then szL ps n (szP p n w) else w
theorem fz7 {p:aa2}(h:p.Ok):∀ l∈ay9 p,l.length<2^62/\∀ r∈l,r.ok:=by
 intro l hl;simp only[ay9,List.mem_cons,List.not_mem_nil,or_false] at hl;have:=h.rich;simp only[aa2.rows,List.mem_cons,List.not_mem_nil,or_false,forall_eq_or_imp,forall_eq] at this;obtain ⟨a1,a2,a3,a4,a5,a6⟩:=this;rcases hl with rfl|rfl|rfl|rfl|rfl|rfl
 ·exact a1
 ·exact a2
 ·exact a3
 ·exact a4
 ·exact a5
 ·exact a6
structure gy5 (ab5:List al1) (inst:List aa2):Prop where
 r1:ab5.length<2^20
 i1:inst.length<2^20
 s1:ag4 ab5<2^40
 rf:∀ r∈ab5,al1.Fit r
 pf:∀ p∈inst,p.Fit
 ro:∀ r∈ab5,al1.Ok r
 po:∀ p∈inst,p.Ok
theorem fi6 {p:aa2}(h:p.Tiny):Pkg.small p:=by
 have e:∀ v:EVR,v.tiny->EVR.small v:=fun v hv=>⟨by have:=hv.1; omega,by have:=hv.2; omega⟩
 refine ⟨e _ h.evr,fun d hd=>?_,fun d hd=>?_,?_,?_,?_⟩
 ·obtain ⟨a,b,c,_⟩:=h.av4.2 d hd; exact ⟨a,b,e _ c⟩
 ·obtain ⟨a,b,c,_⟩:=h.obs.2 d hd; exact ⟨a,b,e _ c⟩
 ·have:=h.av4.1; omega
 ·have:=h.obs.1; omega
 ·have:=h.files; omega
theorem fz8 {ab5:List al1}{inst:List aa2}{p:Pool}(hI:gy5 ab5 inst)(h:bq7 ab5 inst=.inl p):∀ x∈ac8 p,x.Fit/\Pkg.small x/\x.Tiny:=by
 intro x hx;obtain ⟨h1,h2⟩:=en6 h x hx;refine ⟨?_,fi6 (en9 h1),en9 h1⟩;rcases h2 with h2|⟨r,hr,h2⟩
 ·exact hI.pf x h2
 ·exact (hI.rf r hr).2 x h2
theorem hs8 (x:Index)(n:Int):PC Tryz.prog EE 115 [x.v,.int .i64 n] (.bool (decide (0<=n)&&decide (n<x.all.length))):=by
 refine ag3 hE fok115 (nZ rfl) (am2 (bf4 x) (.int _ _)) ?_;have hx:x.v=.ab6 [.aa3 (x.all.map aa2.cs),.al8 (nmV x.av4),.al8 (nmV x.names),.al8 (nmV x.over)]:=rfl;have hnil:∀ (d:TypeId) (cs:List IV) (c:IV),cl1 (.pointer d) (.ab6 (c::cs))=some false:=fun _ _ _=>rfl
 rw[hx];have hlen:(x.all.map aa2.cs).length=x.all.length:=List.length_map ..;generalize x.all.map aa2.cs=es at *;generalize x.all.length=k at *;by_cases h1:0<=n
 ·by_cases h2:n<(k:Nat)
  ·have h2':n<(es.length:Nat):=by omega
   simp only[ic115,go_sem,hnil,h1,h2,h2',hlen,Bool.and_self];exact ab9 _
  ·have h2':¬ n<(es.length:Nat):=by omega
   simp only[ic115,go_sem,hnil,h1,h2,h2',hlen,Bool.and_false];exact ab9 _
 ·simp only[ic115,go_sem,hnil,h1,Bool.false_and];exact ab9 _
theorem fz9 (l:List aa2)(m n:Nat)(hm:m<l.length)(hn:n<l.length)(hs:∀ p∈l,Pkg.small p) :
  PC Tryz.prog EE 117 [.agg l[m].cs,.int .i64 m,.ab6 [.int .i64 n],.ab6 [(ai8 l).v]] (.bool (decide (m≠n)&&ab2 l[m] l[n])):=by
 refine ag3 hE fok117 (nZ rfl) (fun a ha=>by
  simp only[List.mem_cons,List.not_mem_nil,or_false] at ha;rcases ha with rfl|rfl|rfl|rfl
  ·exact ap5 _
  ·exact .int _ _
  ·exact .ab6 _ (ae4 (.int _ _))
  ·exact .ab6 _ (ae4 (bf4 _))) ?_
 have hx:(ai8 l).v=.ab6 [.aa3 (l.map aa2.cs),.al8 (nmV (ai8 l).av4),.al8 (nmV (ai8 l).names),.al8 (nmV (ai8 l).over)]:=by
  show IV.ab6 [.aa3 ((ai8 l).all.map aa2.cs),_,_,_]=_;rw[(bi8 l).all]
 have ho:=dx6 l[m] l[n] (hs _ (List.getElem_mem hm)) (hs _ (List.getElem_mem hn));have hg:(l.map aa2.cs).getD n []=l[n].cs:=by simp[List.getD_eq_getElem?_getD,hn]
 have hl:(l.map aa2.cs).length=l.length:=List.length_map ..;rw[hx];generalize l.map aa2.cs=es at *;by_cases e:m=n
 ·have e':(m:Int)=n:=by omega
  simp only[ic117,go_sem,av9,aq7,ao7,e',e,ne_eq,not_true_eq_false,decide_false,Bool.false_and];exact ab9 _
 ·have e':¬ (m:Int)=n:=by omega
  have c1:(0:Int)<=n:=by omega
  have c2:(n:Int)<es.length:=by omega
  simp only[ic117,go_sem,av9,aq7,ao7,e',e,c1,c2,hg,ne_eq,not_false_eq_true,decide_true,Bool.true_and];refine aa5 fok118 ho ?_;simp only[go_sem];exact ab9 _
def aj9 (l:List aa2)(n:Nat):List Int:=(ad6 (ai8 l).over (l.getD n default).name).filter fun k=>decide (k.toNat≠n)&&ab2 (l.getD k.toNat default) (l.getD n default)
theorem ct8 {l:List aa2}{n:Nat}{k:Int}:k∈aj9 l n↔∃ m:Nat,k=m/\m<l.length/\m≠n/\ab2 (l.getD m default) (l.getD n default)=true:=by
 unfold aj9;rw[(bi8 l).over,List.mem_filter];constructor
 ·rintro ⟨h1,h2⟩;obtain ⟨m,rfl,h3,_⟩:=bo5.1 h1;simp only[Int.toNat_natCast,Bool.and_eq_true,decide_eq_true_eq] at h2;exact ⟨m,rfl,h3,h2.1,h2.2⟩
 ·rintro ⟨m,rfl,h1,h2,h3⟩;refine ⟨bo5.2 ⟨m,rfl,h1,?_⟩,?_⟩
  ·obtain ⟨d,h4,h5⟩:=List.any_eq_true.1 h3;refine decide_eq_true ⟨d,h4,?_⟩;simp only[named,meets,Bool.and_eq_true,decide_eq_true_eq] at h5;exact h5.1.symm
  ·simp only[Int.toNat_natCast,Bool.and_eq_true,decide_eq_true_eq];exact ⟨h2,h3⟩
theorem ct9 (l:List aa2)(n:Nat):(aj9 l n).length<=l.length:=by
 unfold aj9;rw[(bi8 l).over];exact Nat.le_trans (List.length_filter_le _ _) (ay4 _ _)
abbrev iv (n:Int):IV:=.int .i64 n
theorem ga1 {id n k:Nat}(h:k<=n):cu8 1 (some (.int .i64 (k:Int))) none (.slice id 0 n 1)=some (.slice id k (n-k) 1):=by
 have e:(0:Int)<=k:=by omega
 simp[cu8,co9,es5,e,h]
theorem gy6 {id n k:Nat}(h:k<=n):cu8 1 none (some (.int .i64 (k:Int))) (.slice id 0 n 1)=some (.slice id 0 k 1):=by
 have e:(0:Int)<=k:=by omega
 simp[cu8,co9,es5,e,h]
theorem ck5 {zs:List Int}{p:Nat}(h:p+1<zs.length)(x:Int):x∈zs.take (p+1+1)↔x∈zs.take (p+1)\/x=zs[p+1]:=by
 rw[List.take_add_one (i:=p+1),List.getElem?_eq_getElem h,List.mem_append];simp[Option.toList]
theorem ck6 {zs:List Int}{p:Nat}(h:p+1<zs.length)(e:zs[p+1]=zs[p])(x:Int):x∈zs.take (p+1)↔x∈zs.take (p+1+1):=by
 rw[ck5 h];refine ⟨.inl,fun q=>q.elim (fun q=>q) fun q=>?_⟩;rw[q,e];exact List.mem_iff_getElem.2 ⟨p,by rw[List.length_take]; omega,by rw[List.getElem_take]⟩
theorem dx7 {cs vs:List IV}{k:Nat}(h:k<=cs.length):(as6 cs k vs).take k=cs.take k:=by
 unfold as6;rw[List.append_assoc,List.take_append_of_le_length (by rw[List.length_take]; omega),List.take_take,Nat.min_self]
theorem dg2 {cs:List IV}{v:IV}{k:Nat}(h:k<=cs.length):(as6 cs k [v]).take (k+1)=cs.take k++[v]:=by
 unfold as6;have e:(cs.take k++[v]).length=k+1:=by rw[List.length_append,List.length_take,List.length_singleton]; omega
 rw[List.take_append_of_le_length (by omega),List.take_of_length_le (by omega)]
theorem dg3 {cs:List IV}{v:IV}{k q:Nat}(h:k<q)(hk:k<=cs.length):(as6 cs k [v]).drop q=cs.drop q:=by
 unfold as6;have e:(cs.take k++[v]).length=k+1:=by rw[List.length_append,List.length_take,List.length_singleton]; omega
 rw[List.drop_append,e,List.drop_of_length_le (by omega),List.nil_append,List.drop_drop,List.length_singleton];congr 1; omega
theorem in3 {pt:PT}{ct:CT}{P:Program}{E:Nat->IV}{e id:Nat}{z:List IV}{x:IX}{fr:Frm}{σ:Store}{K:IV->Store->Prop}:opT pt ct P E (.clr e z x) id fr σ K=br9 (fp1 σ e z (x.ev E fr)) fun σ'=>σ'.next=σ.next/\K .undef σ':=rfl
theorem ga2 {σ:Store}{id k n:Nat}{cs:List IV}(ho:σ.obj id=some (.row cs))(h1:k<n)(h2:n<=cs.length):fp1 σ 1 [.int .i64 0] (.slice id k (n-k) 1)=some (σ.put id (.row (as6 cs k (rep [.int .i64 0] (n-k))))):=by
 have e1:¬ n-k=0:=by omega
 have e2:k+(n-k)*1<=cs.length:=by omega
 unfold fp1;simp only[e1,if_false,ho,e2,true_and];rfl
structure jb6 (R:Int->Int->Prop) (σ:Store) (id:Nat) (zs:List Int) (v:IV) (s:Store):Prop where
 out:∃ (D:List Int) (cs:List IV),D.Pairwise R/\(∀ x,x∈D↔x∈zs)/\v=.slice id 0 D.length 1/\s.obj id=some (.row cs)/\cs.take D.length=D.map iv/\D.length<=cs.length
 next:σ.next<=s.next
 other:∀ i,i≠id->s.obj i=σ.obj i
theorem dg4 {R:Int->Int->Prop}{σ:Store}{id:Nat}{zs:List Int}{tl:List IV}(hT:∀ a∈zs,∀ b∈zs,∀ c∈zs,R a b->R b c->R a c)(hz:zs.length<2^40)(ho:σ.obj id=some (.row (zs.map iv++tl)))(hs:zs.Pairwise fun a b=>a=b\/R a b) :
  C Tryz.prog EE 51 [.slice id 0 zs.length 1] σ (jb6 R σ id zs):=by
 refine C_f fok51 (nZ rfl) ?_;by_cases h2:(zs.length:Int)<2
 ·simp only[ic51,go_sem,h2];refine ⟨⟨zs,zs.map iv++tl,?_,fun _=>Iff.rfl,rfl,ho,by rw[List.take_append_of_le_length (by simp),List.take_of_length_le (by simp)],by simp⟩,Nat.le_refl _,fun _ _=>rfl⟩
  match zs,h2 with
  | [],_=>exact .nil
  | [a],_=>simp
  | a::b::l,h2=>simp only[List.length_cons] at h2; omega
 simp only[ic51,go_sem,h2];refine ab4 noT (fun i fr t=>(t.obj=σ.obj/\σ.next<=t.next)/\fr=[(0,.slice id 0 zs.length 1),(3,.int .i64 ((i+1:Nat):Int))]/\i+1<=zs.length/\(zs.take (i+1)).Pairwise R) zs.length ⟨⟨rfl,Nat.le_refl _⟩,rfl,by omega,?_⟩ ?_
 ·cases zs with
  | nil=>exact .nil
  | cons a l=>simp
 rintro i fr t hi ⟨⟨hob,hnx⟩,rfl,hle,hpw⟩;have hot:t.obj id=some (.row (zs.map iv++tl)):=by rw[hob]; exact ho
 have hh:∀ (j:Nat) (h:j<zs.length),((zs.map iv++tl).drop j).head? = some (.int .i64 zs[j]):=fun j h=>by simp[List.head?_drop,List.getElem?_append_left,h]
 have hml:zs.length<=(zs.map iv++tl).length:=by rw[List.length_append,List.length_map]; omega
 by_cases hlt:i+1<zs.length
 ·have c1:((i+1:Nat):Int)<zs.length:=by omega
  have c2:(0:Int)<=((i+1:Nat):Int):=by omega
  have c3:IntKind.i64.wrap (((i+1:Nat):Int)-1)=(i:Int):=by rw[wrap64 (by omega) (by omega)]; omega
  have c4:(0:Int)<=(i:Int):=by omega
  have c5:(i:Int)<zs.length:=by omega
  have w1:=ad4 (i:=i+1) (by omega);have g1:=hh (i+1) hlt;have g2:=hh i (by omega);have hle2:zs[i]=zs[i+1]\/R zs[i] zs[i+1]:=List.pairwise_iff_getElem.1 hs i (i+1) (by omega) hlt (by omega);by_cases e:zs[i+1]=zs[i]'(by omega)
  ·simp only[go_sem,c1,c2,c3,c4,c5,hot,g1,g2,e,Int.toNat_natCast,Nat.zero_add,Nat.mul_one,w1,ga1 (show i+1<=zs.length by omega)]
   refine ab4 noT (fun j fr t=>∃ (k:Nat) (cs:List IV) (D:List Int),fr=[(0,.slice id 0 zs.length 1),(3,.int .i64 (k:Int)),(4,.slice id (i+1) (zs.length-(i+1)) 1),(5,.int .i64 ((j+1:Nat):Int))] /\
    (σ.next<=t.next/\∀ q,q≠id->t.obj q=σ.obj q)/\t.obj id=some (.row cs)/\zs.length<=cs.length/\k<=i+1+j/\i+1+j<zs.length/\D.length=k/\cs.take k=D.map iv/\D.Pairwise R/\(∀ x,x∈D↔x∈zs.take (i+1+j+1)) /\
    ∀ (q:Nat) (h:q<zs.length),k<=q->(cs.drop q).head? = some (.int .i64 zs[q])) (zs.length-(i+1)) ?_ ?_
   ·refine ⟨i+1,zs.map iv++tl,zs.take (i+1),rfl,⟨by show σ.next<=t.next+10; omega,fun q _=>by rw[hob]⟩,hot,hml,by omega,by omega,by rw[List.length_take]; omega,by rw[List.take_append_of_le_length (by rw[List.length_map]; omega),List.map_take],hpw,fun x=>?_,fun q h _=>hh q h⟩;exact ck6 (p:=i) hlt e x
   rintro j fr u hj ⟨k,cs,D,rfl,⟨un,uo⟩,hoc,hcl,hk1,hk2,hDl,hDt,hDp,hDm,hcs⟩;by_cases hl2:j+1<zs.length-(i+1)
   ·have d1:((j+1:Nat):Int)<(zs.length-(i+1):Nat):=by omega
    have d2:(0:Int)<=((j+1:Nat):Int):=by omega
    have d3:IntKind.i64.wrap (((j+1:Nat):Int)-1)=(j:Int):=by rw[wrap64 (by omega) (by omega)]; omega
    have d4:(0:Int)<=(j:Int):=by omega
    have d5:(j:Int)<(zs.length-(i+1):Nat):=by omega
    have d6:(0:Int)<=(k:Int):=by omega
    have d7:(k:Int)<zs.length:=by omega
    have d8:k+1<=cs.length:=by omega
    have w2:=ad4 (i:=j+1) (by omega);have w3:=ad4 (i:=k) (by omega);have f1:=hcs (i+1+(j+1)) (by omega) (by omega);have f2:=hcs (i+1+j) (by omega) (by omega);by_cases e2:zs[i+1+(j+1)]=zs[i+1+j]
    ·simp only[go_sem,d1,d2,d3,d4,d5,hoc,f1,f2,e2,Int.toNat_natCast,Nat.zero_add,Nat.mul_one,w2];exact ⟨by omega,k,cs,D,rfl,⟨by omega,uo⟩,rfl,hcl,by omega,by omega,hDl,hDt,hDp,fun x=>(hDm x).trans (ck6 (p:=i+1+j) (by omega) e2 x),hcs⟩
    ·simp only[go_sem,d1,d2,d3,d4,d5,d6,d7,d8,hoc,f1,f2,e2,Int.toNat_natCast,Nat.zero_add,Nat.mul_one,w2,w3];have hle3:zs[i+1+j]=zs[i+1+(j+1)]\/R zs[i+1+j] zs[i+1+(j+1)]:=List.pairwise_iff_getElem.1 hs (i+1+j) (i+1+(j+1)) (by omega) (by omega) (by omega);have hn:=ck5 (zs:=zs) (p:=i+1+j) (by omega);have hR3:R zs[i+1+j] zs[i+1+(j+1)]:=hle3.elim (fun q=>absurd q.symm e2) fun q=>q
     have hlt3:∀ x∈D,R x zs[i+1+(j+1)]:=by
      intro x hx;obtain ⟨q,hq,rfl⟩:=List.mem_iff_getElem.1 ((hDm x).1 hx);rw[List.length_take] at hq;rw[List.getElem_take];by_cases hqe:q=i+1+j
      ·subst hqe; exact hR3
      ·rcases List.pairwise_iff_getElem.1 hs q (i+1+j) (by omega) (by omega) (by omega) with h|h
       ·rw[h]; exact hR3
       ·exact hT _ (List.getElem_mem _) _ (List.getElem_mem _) _ (List.getElem_mem _) h hR3
     have hb1:σ.next<=u.next+10:=by omega
     refine ⟨by omega,k+1,as6 cs k [.int .i64 zs[i+1+(j+1)]],D++[zs[i+1+(j+1)]],rfl,⟨hb1,fun q hq=>by rw[if_neg hq]; exact uo q hq⟩,rfl,?_,by omega,by omega,by rw[List.length_append,hDl]; rfl,?_,?_,fun x=>?_,fun q h hq=>?_⟩
     ·rw[af8 (by rw[List.length_singleton]; omega)]; exact hcl
     ·rw[dg2 (by omega),hDt,List.map_append]; rfl
     ·exact List.pairwise_append.2 ⟨hDp,by simp,fun a ha b hb=>by
       simp only[List.mem_cons,List.not_mem_nil,or_false] at hb;subst hb; exact hlt3 a ha⟩
     ·rw[List.mem_append,hDm x];refine Iff.trans ?_ (hn x).symm;simp only[List.mem_cons,List.not_mem_nil,or_false];exact Iff.rfl
     ·rw[dg3 (by omega) (by omega)];exact hcs q h (by omega)
   ·have d1:¬ ((j+1:Nat):Int)<(zs.length-(i+1):Nat):=by omega
    have hkn:k<zs.length:=by omega
    have hj':i+1+j+1=zs.length:=by omega
    rw[hj',List.take_length] at hDm;simp only[go_sem,d1,ga1 (show k<=zs.length by omega),gy6 (show k<=zs.length by omega),hoc,in3,ga2 hoc hkn (by omega)];have hrl:(rep [IV.int .i64 0] (zs.length-k)).length=zs.length-k:=by rw[ar7]; simp
    refine ⟨⟨D,as6 cs k (rep [IV.int .i64 0] (zs.length-k)),hDp,hDm,by rw[hDl],by simp only[aa4,if_true],by rw[hDl,dx7 (by omega)]; exact hDt,?_⟩,un,fun q hq=>?_⟩
    ·rw[af8 (by rw[hrl]; omega),hDl]; omega
    ·simp only[aa4,if_neg hq];exact uo q hq
  ·simp only[go_sem,c1,c2,c3,c4,c5,hot,g1,g2,e,Int.toNat_natCast,Nat.zero_add,Nat.mul_one,w1];refine ⟨by omega,⟨hob,by show σ.next<=_; omega⟩,by omega,?_⟩;rw[List.take_add_one,List.getElem?_eq_getElem hlt,List.pairwise_append];refine ⟨hpw,by simp,fun a ha b hb=>?_⟩;simp only[Option.toList,List.mem_cons,List.not_mem_nil,or_false] at hb;subst hb;obtain ⟨j,hj,rfl⟩:=List.mem_iff_getElem.1 ha;rw[List.length_take] at hj;rw[List.getElem_take];have hR2:R zs[i] zs[i+1]:=hle2.elim (fun q=>absurd q.symm e) fun q=>q
   by_cases hji:j=i
   ·subst hji; exact hR2
   ·rcases List.pairwise_iff_getElem.1 hs j i (by omega) (by omega) (by omega) with h|h
    ·rw[h]; exact hR2
    ·exact hT _ (List.getElem_mem _) _ (List.getElem_mem _) _ (List.getElem_mem _) h hR2
 ·have hi':i+1=zs.length:=by omega
  have c1:¬ ((i+1:Nat):Int)<zs.length:=by omega
  simp only[go_sem,c1];rw[hi',List.take_length] at hpw;exact ⟨⟨zs,zs.map iv++tl,hpw,fun _=>Iff.rfl,rfl,hot,by rw[List.take_append_of_le_length (by simp),List.take_of_length_le (by simp)],by simp⟩,hnx,fun j _=>by rw[hob]⟩
abbrev Cmp:=jb6 (· < ·)
theorem ga3 {σ:Store}{id:Nat}{zs:List Int}(hz:zs.length<2^40)(ho:σ.obj id=some (.row (zs.map iv)))(hs:zs.Pairwise (·<=·)) :
  C Tryz.prog EE 51 [.slice id 0 zs.length 1] σ (Cmp σ id zs):=
 dg4 (tl:=[]) (fun _ _ _ _ _ _ h h2=>Int.lt_trans h h2) hz (by rw[List.append_nil]; exact ho) (hs.imp fun h=>by omega)
end Go.Id.Tryz
set_option linter.all false
namespace Go.Id.Tryz
open Go Go.Id Go.Proofs Go.Shelf
set_option maxRecDepth 100000
def jh1:Go.Shelf.Ren where
 f:=fun n=>(List.lookup n [(0,0),(1,1),(2,2),(99,199),(107,111),(108,180),(109,220),(110,168),(119,262),(122,32),(125,72),(128,158),(129,159),(137,198),(151,259),(152,261),(161,235),(189,50),(197,258),(206,239),(215,73),(216,189),(217,238),(224,263),(225,264),(227,252),(228,257),(231,251),(233,253),(235,254),(257,119),(260,260),(266,255),(294,183),(295,184),(296,185),(297,186),(298,187),(299,188),(300,190),(301,191),(328,230),(329,211),(330,212),(331,231),(332,232),(336,237),(343,250),(347,265),(348,266),(349,267),(350,268),(351,269),(352,270),(353,271),(354,272),(355,273),(356,274),(357,275),(358,276),(359,277),(360,278),(361,279),(366,283),(367,291)]).getD 0
 t:=fun n=>(List.lookup n [(0,0),(1,1),(2,2),(3,3),(4,4),(5,5),(7,7),(8,8),(9,9),(10,10),(11,11),(12,12),(13,13),(14,14),(15,15),(16,16),(17,17),(18,18),(20,20),(21,21),(22,239),(23,268),(27,115),(28,49),(29,163),(30,224),(31,56),(32,258),(33,211),(34,141),(35,105),(40,298),(41,143),(43,85),(46,127),(47,126),(48,35),(51,203),(52,202),(53,87),(54,204),(55,237),(63,292),(64,293),(80,299),(81,79),(102,172),(104,184),(105,290),(106,291),(111,90),(112,39),(114,62),(115,283),(116,284),(117,285),(118,286),(119,294),(122,282),(123,287),(124,288),(127,308),(131,200),(134,169),(137,295),(139,297),(164,314),(181,225),(182,195),(183,196),(184,226),(185,227),(186,228),(187,229),(211,107),(214,267),(218,248),(219,249),(220,250),(221,264),(222,252),(223,265),(228,271),(229,272),(230,281),(238,300),(239,301),(240,302),(241,303),(242,304),(245,307),(248,311)]).getD 0
 g:=fun n=>n
theorem in4:Lays.n189 Tryz.prog jh1 where
 mixed:=by kernel_rfl
 f125:=Tryz.func72.trans (congrArg some (by kernel_rfl))
 f128:=Tryz.func158.trans (congrArg some (by kernel_rfl))
 f129:=Tryz.func159.trans (congrArg some (by kernel_rfl))
 f189:=Tryz.func50.trans (congrArg some (by kernel_rfl))
 f215:=Tryz.func73.trans (congrArg some (by kernel_rfl))
 f216:=Tryz.func189.trans (congrArg some (by kernel_rfl))
 f257:=Tryz.func119.trans (congrArg some (by kernel_rfl))
 f294:=Tryz.func183.trans (congrArg some (by kernel_rfl))
 f295:=Tryz.func184.trans (congrArg some (by kernel_rfl))
 f296:=Tryz.func185.trans (congrArg some (by kernel_rfl))
 f297:=Tryz.func186.trans (congrArg some (by kernel_rfl))
 f298:=Tryz.func187.trans (congrArg some (by kernel_rfl))
 f299:=Tryz.func188.trans (congrArg some (by kernel_rfl))
 f300:=Tryz.func190.trans (congrArg some (by kernel_rfl))
 f301:=Tryz.func191.trans (congrArg some (by kernel_rfl))
 f328:=Tryz.func230.trans (congrArg some (by kernel_rfl))
 f329:=Tryz.func211.trans (congrArg some (by kernel_rfl))
 f330:=Tryz.func212.trans (congrArg some (by kernel_rfl))
 f331:=Tryz.func231.trans (congrArg some (by kernel_rfl))
 f332:=Tryz.func232.trans (congrArg some (by kernel_rfl))
 f343:=Tryz.func250.trans (congrArg some (by kernel_rfl))
 t0:=by kernel_rfl
 a0:=Tryz.isAgg0
 z0:=fun _=>by kernel_rfl
 v0:=fun _=>by kernel_rfl
 t3:=by kernel_rfl
 a3:=Tryz.isAgg3
 z3:=fun _=>by kernel_rfl
 v3:=fun _=>by kernel_rfl
 t4:=by kernel_rfl
 a4:=Tryz.isAgg4
 z4:=fun _=>by kernel_rfl
 v4:=fun _=>by kernel_rfl
 t5:=by kernel_rfl
 a5:=Tryz.isAgg5
 z5:=fun _=>by kernel_rfl
 v5:=fun _=>by kernel_rfl
 t9:=by kernel_rfl
 a9:=Tryz.isAgg9
 z9:=fun _=>by kernel_rfl
 v9:=fun _=>by kernel_rfl
 t28:=by kernel_rfl
 a28:=Tryz.isAgg49
 z28:=fun _=>by kernel_rfl
 v28:=fun _=>by kernel_rfl
 t46:=by kernel_rfl
 a46:=Tryz.isAgg127
 z46:=fun _=>by kernel_rfl
 v46:=fun _=>by kernel_rfl
 t51:=by kernel_rfl
 a51:=Tryz.isAgg203
 z51:=fun _=>by kernel_rfl
 v51:=fun _=>by kernel_rfl
 t53:=by kernel_rfl
 a53:=Tryz.isAgg87
 z53:=fun _=>by kernel_rfl
 v53:=fun _=>by kernel_rfl
 t131:=by kernel_rfl
 a131:=Tryz.isAgg200
 z131:=fun _=>by kernel_rfl
 v131:=fun _=>by kernel_rfl
 t182:=by kernel_rfl
 a182:=Tryz.isAgg195
 z182:=fun _=>by kernel_rfl
 v182:=fun _=>by kernel_rfl
 t183:=by kernel_rfl
 a183:=Tryz.isAgg196
 z183:=fun _=>by kernel_rfl
 v183:=fun _=>by kernel_rfl
 t218:=by kernel_rfl
 a218:=Tryz.isAgg248
 z218:=fun _=>by kernel_rfl
 v218:=fun _=>by kernel_rfl
 t222:=by kernel_rfl
 a222:=Tryz.isAgg252
 z222:=fun _=>by kernel_rfl
 v222:=fun _=>by kernel_rfl
 t228:=by kernel_rfl
 a228:=Tryz.isAgg271
 z228:=fun _=>by kernel_rfl
 v228:=fun _=>by kernel_rfl
 t229:=by kernel_rfl
 a229:=Tryz.isAgg272
 z229:=fun _=>by kernel_rfl
 v229:=fun _=>by kernel_rfl
def hs9 (l:List Int):List Int:=l.mergeSort fun x y=>decide (x<=y)
theorem fi7 {σ:Store}{id:Nat}{zs:List Int}(hz:zs.length<4611686018427387904)(ho:σ.obj id=some (.row (zs.map (IV.int .i64)))) :
  C Tryz.prog EE 50 [.slice id 0 zs.length 1] σ fun v s=>v=.tuple []/\s=σ.put id (.row ((hs9 zs).map (IV.int .i64))):=
 hh4 (enc:=Value.int .i64) (en:=IV.int .i64) (srt:=hs9) (fun _ _ x=>.int _ _) (fun _ _ x r h=>by cases h; rfl) (fun l=>List.length_mergeSort l) (by unfold hs9; rw[List.mergeSort_nil])
  (fun blk off cap zs w h1 h2 h3=>Any.slices_Sort_int in4 blk off cap zs w h1 h2 h3) (fun p cap w=>Any.slices_Sort_int_none in4 p cap w) hz ho
open Go Go.Id Go.Proofs Go.Shelf Go.Id.Md
theorem ga4:∀ {a b:List Int},a.Pairwise (· < ·)->b.Pairwise (· < ·)->(∀ x,x∈a↔x∈b)->a=b:=by
 intro a
 induction a with
 | nil=>
  intro b _ _ h
  cases b with
  | nil=>rfl
  | cons y b=>exact absurd ((h y).2 (List.mem_cons_self ..)) (by simp)
 | cons x a ih=>
  intro b ha hb h
  cases b with
  | nil=>exact absurd ((h x).1 (List.mem_cons_self ..)) (by simp)
  | cons y b=>
   obtain ⟨a1,a2⟩:=List.pairwise_cons.1 ha;obtain ⟨b1,b2⟩:=List.pairwise_cons.1 hb
   have e:x=y:=by
    rcases List.mem_cons.1 ((h x).1 (List.mem_cons_self ..)) with e|e
    ·exact e
    ·have l1:=b1 x e;rcases List.mem_cons.1 ((h y).2 (List.mem_cons_self ..)) with e2|e2
     ·exact e2.symm
     ·have l2:=a1 y e2; omega
   subst e;rw[ih a2 b2 fun z=>?_];constructor
   ·intro hz;have l1:=a1 z hz;rcases List.mem_cons.1 ((h z).1 (List.mem_cons_of_mem _ hz)) with e|e
    ·omega
    ·exact e
   ·intro hz;have l1:=b1 z hz;rcases List.mem_cons.1 ((h z).2 (List.mem_cons_of_mem _ hz)) with e|e
    ·omega
    ·exact e
end Go.Id.Tryz
/- Whom a package ab2: the function walked. Conditions: sizes that fit. -/
namespace Go.Id
open Go Go.Id
end Go.Id
namespace Go.Id.Tryz
open Go Go.Id Go.Proofs Go.Shelf Go.Id.Md
end Go.Id.Tryz
set_option linter.all false
namespace Go.Id.Tryz
open Go Go.Id Go.Proofs Go.Id.Md
set_option maxRecDepth 100000
def mP (name:Str)(av4 obs:List Dep)(files:List Str):aa2:={ name:=name,evr:=⟨0,[49],[49]⟩,an1:=1,vendor:=[],provides:=av4,requires:=[],conflicts:=[],ab2:=obs,ac3:=[],ac1:=[],suggests:=[],ac5:=[],files:=files }
def dP (name:Str)(op:Int)(ver:Str):Dep:=⟨name,op,⟨0,ver,[]⟩⟩
def cP (name:Str)(av4 obs files:IV):List IV:=[.str name,.int .i64 0,.str [49],.str [49],.int .u8 1,.str [],av4,.aa1,.aa1,obs,.aa1,.aa1,.aa1,.aa1,files]
def mA:aa2:=mP [97] [] [] []
def mB:aa2:=mP [98] [dP [97] 2 [50]] [dP [97] 1 [50]] []
def mC:aa2:=mP [99] [] [] [[47,102]]
def mT:aa2:=mP [97] [dP [97] 2 [51],dP [97] 2 [52],dP [97] 0 []] [dP [97] 0 [],dP [98] 0 [],dP [98] 1 [57]] []
def mD:aa2:=mP [98] [] [] []
def cA:List IV:=cP [97] .aa1 .aa1 .aa1
def cB:List IV:=cP [98] (deps [dP [97] 2 [50]]) (deps [dP [97] 1 [50]]) .aa1
def cC:List IV:=cP [99] .aa1 .aa1 (strs [[47,102]])
def cT:List IV:=cP [97] (deps [dP [97] 2 [51],dP [97] 2 [52],dP [97] 0 []]) (deps [dP [97] 0 [],dP [98] 0 [],dP [98] 1 [57]]) .aa1
def cD:List IV:=cP [98] .aa1 .aa1 .aa1
theorem in5 {name:Str}{av4 obs:List Dep}{files:List Str}(h1:name.length<100)(h2:av4.length<100)(h3:obs.length<100)(h4:files.length<100)(h5:(av4++obs).all (fun d=>decide (d.name.length<100)&&decide (d.evr.ver.length<100)&&decide (d.evr.rel.length<100))=true)(h6:files.all (fun s=>decide (s.length<100))=true):(mP name av4 obs files).Fit:=by
 have hd:∀ d∈av4++obs,d.fit:=fun d hd=>by
  have:=List.all_eq_true.1 h5 d hd;simp only[Bool.and_eq_true,decide_eq_true_eq] at this;exact ⟨by omega,by show d.evr.ver.length<_; omega,by show d.evr.rel.length<_; omega⟩
 refine ⟨by show name.length<_; omega,⟨by show ([49]:Str).length<2^62; decide,by show ([49]:Str).length<2^62; decide⟩,⟨by show av4.length<_; omega,fun d h=>hd d (List.mem_append_left _ h)⟩,⟨by show obs.length<_; omega,fun d h=>hd d (List.mem_append_right _ h)⟩,⟨by show files.length<_; omega,fun s h=>by have:=List.all_eq_true.1 h6 s h; simp only[decide_eq_true_eq] at this; omega⟩,fun x hx=>?_⟩;simp only[aa2.rows,mP,List.mem_cons,List.not_mem_nil,or_false] at hx;rcases hx with rfl|rfl|rfl|rfl|rfl|rfl<;>exact ⟨by decide,fun r h=>by cases h⟩
theorem cu1:∀ p∈[mA,mB,mC,mT,mD],p.Fit:=by
 intro p hp;simp only[List.mem_cons,List.not_mem_nil,or_false] at hp;rcases hp with rfl|rfl|rfl|rfl|rfl<;>exact in5 (by decide) (by decide) (by decide) (by decide) (by decide) (by decide)
def p1M:Pool:=⟨rowsOf [mA,mB,mC] (-1) 1025,3,[([97],[0]),([98],[1]),([99],[2])]⟩
def p2M:Pool:=⟨rowsOf [mB,mC] (-1) 1025++rowsOf [mA] 0 0++rowsOf [mT,mD] 1 0,2,[([98],[0,4]),([99],[1]),([97],[2,3])]⟩
theorem jh2:ik3 (bq7 [] [mA,mB,mC])=.tuple [p1M.v,.int .i64 0]:=by kernel_rfl
theorem jh3:ik3 (bq7 [⟨0,[mA]⟩,⟨0,[mT,mD]⟩] [mB,mC])=.tuple [p2M.v,.int .i64 0]:=by kernel_rfl
def a1:List IV:=[.aa1,.aa3 [cA,cB,cC]]
def a2:List IV:=[.aa3 [[.int .i64 0,.aa3 [cA]],[.int .i64 0,.aa3 [cT,cD]]],.aa3 [cB,cC]]
theorem e1:PC Tryz.prog EE 7 a1 (.tuple [p1M.v,.int .i64 0]):=by
 rw[<- jh2];refine ii4 (args':=[az6 [],bg8 [mA,mB,mC]]) (by kernel_rfl) (ci5 [] [mA,mB,mC] (by decide) (by decide) (by decide) (fun r h=>by cases h) fun p hp=>cu1 p ?_);simp only[List.mem_cons,List.not_mem_nil,or_false] at hp ⊢;rcases hp with h|h|h<;>simp[h]
theorem e2:PC Tryz.prog EE 7 a2 (.tuple [p2M.v,.int .i64 0]):=by
 rw[<- jh3];refine ii4 (args':=[az6 [⟨0,[mA]⟩,⟨0,[mT,mD]⟩],bg8 [mB,mC]]) (by kernel_rfl) (ci5 _ _ (by decide) (by decide) (by decide) (fun r hr=>?_) fun p hp=>cu1 p ?_)
 ·simp only[List.mem_cons,List.not_mem_nil,or_false] at hr;rcases hr with rfl|rfl
  ·exact ⟨by decide,fun p hp=>cu1 p (by simp only[List.mem_cons,List.not_mem_nil,or_false] at hp ⊢; simp[hp])⟩
  ·exact ⟨by decide,fun p hp=>cu1 p (by simp only[List.mem_cons,List.not_mem_nil,or_false] at hp ⊢; rcases hp with h|h<;>simp[h])⟩
 ·simp only[List.mem_cons,List.not_mem_nil,or_false] at hp ⊢;rcases hp with h|h<;>simp[h]
theorem eq2 {p:Pool}{l:List aa2}(h:p.rows.map (·.pkg)=l)(hl:∀ x∈l,x∈[mA,mB,mC,mT,mD]):(∀ r∈p.rows,r.pkg.Fit)/\∀ r∈p.rows,r.pkg.provides.length+r.pkg.files.length+r.pkg.ab2.length+3<=2^15:=by
 have hm:∀ r∈p.rows,r.pkg∈[mA,mB,mC,mT,mD]:=fun r hr=>hl _ (by rw[<- h]; exact List.mem_map_of_mem hr)
 refine ⟨fun r hr=>cu1 _ (hm r hr),fun r hr=>?_⟩;have:=hm r hr;generalize r.pkg=x at this;simp only[List.mem_cons,List.not_mem_nil,or_false] at this;rcases this with rfl|rfl|rfl|rfl|rfl<;>decide
theorem e3:PC Tryz.prog EE 100 [p1M.v] (.tuple [(ai8 [mA,mB,mC]).v,.int .i64 0]):=by
 obtain ⟨h1,h2⟩:=eq2 (p:=p1M) (l:=[mA,mB,mC]) rfl (fun x hx=>by simp only[List.mem_cons,List.not_mem_nil,or_false] at hx ⊢; rcases hx with h|h|h<;>simp[h]);exact bf3 p1M h1 (by decide) h2
theorem e4:PC Tryz.prog EE 100 [p2M.v] (.tuple [(ai8 [mB,mC,mA,mT,mD]).v,.int .i64 0]):=by
 obtain ⟨h1,h2⟩:=eq2 (p:=p2M) (l:=[mB,mC,mA,mT,mD]) rfl (fun x hx=>by simp only[List.mem_cons,List.not_mem_nil,or_false] at hx ⊢; rcases hx with h|h|h|h|h<;>simp[h]);exact bf3 p2M h1 (by decide) h2
end Go.Id.Tryz
