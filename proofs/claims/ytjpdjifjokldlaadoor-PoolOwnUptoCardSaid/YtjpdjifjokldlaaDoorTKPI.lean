/- Packages in a row of one's own,put into a pool that shares nothing with the row. Conditions: sizes that fit. -/
import Derived.Test.YtjpdjifjokldlaaDoorTKTA
import Derived.Test.YtjpdjifjokldlaaDoorFwTf
import Derived.Test.YtjpdjifjokldlaaDoorTKHA
import Derived.Test.YtjpdjifjokldlaaDoorMq
import Derived.Test.YtjpdjifjokldlaaDoorTKPB
set_option linter.all false
namespace Go.Id.Tryd
open Go Go.Id Go.Proofs Go.Id.Md
set_option maxRecDepth 100000
set_option maxHeartbeats 1000000
def gd6:IC :=
 (.seq
 (.reg 0 [oM 8 (cI 0)] [0,1,2,3])
 (.seq
 (.seq
 (.reg 1 [oM 11 (.t 1),oQ 12 (.len 0 (.t 11)),oM 13 (cI 0)] [0,2,3,11,12,13])
 (.block 0
 (.loop
 (.seq
 (.reg 2 [oQ 14 (.bin .lss (.t 13) (.t 12))] [0,2,3,11,12,13,14])
 (.seq
 (.cond (.t 14)
 .skip
 (.exit 0))
 (.seq
 (.block 1
 (.seq
 (.reg 3 [oQ 15 (.ab5 15 (.t 11) (.t 13)),oQ 16 (.load (some 15) (.t 15)),oK 10 (.alloc [(.str []),(zI 0),(.str []),(.str []),(zU 0),(.str []),.aa1,.aa1,.aa1,.aa1,.aa1,.aa1,.aa1,.aa1,.aa1]),oN (.store 15 (.t 10) (.t 16))] [0,2,3,10,11,12,13])
 (.seq
 (.seq
 (.reg 4 [oQ 17 (.load (some 15) (.t 10)),oK 18 (.call 31 [(.t 17)]),oQ 19 (.not (.t 18))] [0,2,3,10,11,12,13,19])
 (.cond (.t 19)
 (.seq
 (.reg 5 [oM 8 (cI 4)] [8])
 .ret)
 .skip))
 (.seq
 (.dreg 6 [oM 20 (.t 0),oQ 21 (.au1 (.t 20)),oQ 22 (.aa9 2 (.t 21)),oQ 23 (.load none (.t 22)),oQ 24 (.aa9 0 (.t 10)),oQ 25 (.load none (.t 24)),oM 26 (.t 0),oQ 27 (.au1 (.t 26)),oQ 28 (.aa9 2 (.t 27)),oQ 29 (.load none (.t 28)),oQ 30 (.aa9 0 (.t 10)),oQ 31 (.load none (.t 30)),oQ 32 (.lkp 2 .aa1 false (.t 29) (.t 31)),oM 33 (.t 0),oQ 34 (.au1 (.t 33)),oQ 35 (.aa9 0 (.t 34)),oQ 36 (.load none (.t 35)),oQ 37 (.len 0 (.t 36)),oK 38 (.av2 1 1 [(zI 0)] [⟨0,⟨1,(.t 37)⟩⟩]),oK 39 (.app 1 (.t 32) (.t 38)),oN (.de4 2 (.t 23) (.t 25) (.t 39))] true [0,2,3,10,11,12,13])
 (.oreg 7 [(0,oM 40 (.t 0),0),(1,oM 41 (.t 0),0),(2,oQ 42 (.au1 (.t 41)),0),(3,oQ 43 (.aa9 0 (.t 42)),0),(4,oQ 44 (.load none (.t 43)),0),(5,oQ 45 (.load (some 15) (.t 10)),0),(7,oM 47 (.t 2),0),(8,oM 48 (.t 3),0),(6,oK 46 (.call 22 [(.t 45)]),16),(9,oQ 49 (.bld [(.str []),(zI 0),(.str []),(.str []),(zU 0),(.str []),.aa1,.aa1,.aa1,.aa1,.aa1,.aa1,.aa1,.aa1,.aa1,(zI 0),(zI 0)] [⟨0,⟨15,(.t 46)⟩⟩,⟨15,⟨1,(.t 47)⟩⟩,⟨16,⟨1,(.t 48)⟩⟩]),0),(10,oK 50 (.av2 17 1 [(.str []),(zI 0),(.str []),(.str []),(zU 0),(.str []),.aa1,.aa1,.aa1,.aa1,.aa1,.aa1,.aa1,.aa1,.aa1,(zI 0),(zI 0)] [⟨0,⟨17,(.t 49)⟩⟩]),0),(11,oK 51 (.app 17 (.t 44) (.t 50)),0),(12,oQ 52 (.au1 (.t 40)),0),(13,oQ 53 (.aa9 0 (.t 52)),0),(14,oN (.store 1 (.t 53) (.t 51)),0)] [0,2,3,11,12,13])))))
 (.reg 8 [oQ 54 (.bin .add (.t 13) (cI 1)),oM 13 (.t 54)] [0,2,3,11,12,13])))))))
 (.seq
 (.reg 9 [oM 8 (cI 0)] [8])
 .ret)))
theorem gp1:FOK Tryd.prog 20 (55,gd6,[(.t 8)]):=bk2 [1000038,1000050] Tryd.func20 (by kernel_rfl) (by kernel_rfl) (by kernel_rfl) (by kernel_rfl)
abbrev EP:=aa3×IV×IV
def cellsE (e:EP):List IV:=an6 e.1 e.2.1 e.2.2 (ab7 e.1.conflicts) (deps e.1.ab9) (ab7 e.1.aa7) (ab7 e.1.aa5) (ab7 e.1.suggests) (ab7 e.1.ab2) (strs e.1.files)
structure InV (s:Store) (iv:IV) (es:List EP):Prop where
 row:Grow s iv 15 (es.map cellsE)
 aw3:∀ e∈es,au4 s e.2.1 5 (e.1.provides.map Dep.cs)
 gd7:∀ e∈es,Grow s e.2.2 7 (e.1.requires.map aa8.cs)
theorem InV.kept {s t:Store}{iv:IV}{es:List EP}(h:InV s iv es)(hk:Kept s t):InV t iv es :=
 ⟨h.row.mono hk.next fun i _ hi=>hk.obj i hi,fun e he=>(h.aw3 e he).kept hk,fun e he=>(h.gd7 e he).mono hk.next fun i _ hi=>hk.obj i hi⟩
theorem bg4 {s:Store}{iv:IV}{es:List EP}(h:InV s iv es):∀ x∈es.map cellsE,x.length=15∧x.all IV.leaf=true:=fun x hx=>by
 obtain ⟨e,he,rfl⟩:=List.mem_map.1 hx;have l1:=(av7 (h.aw3 e he)).1;have l2:=(ad8 (h.gd7 e he)).1;refine ⟨rfl,?_⟩;simp only[cellsE,an6,List.all_cons,l1,l2,List.all_nil,Bool.and_true,Bool.and_self];rfl
theorem bg5 (l:List Dep):∀ x∈l.map Dep.cs,x.length=5:=fun x hx=>by obtain ⟨d,_,rfl⟩:=List.mem_map.1 hx; rfl
theorem fh2 (l:List Str):∀ x∈l.map ap4,x.length=1:=fun x hx=>by obtain ⟨d,_,rfl⟩:=List.mem_map.1 hx; rfl
theorem fh3 {s:Store}{e:EP}(h1:au4 s e.2.1 5 (e.1.provides.map Dep.cs))(h2:Grow s e.2.2 7 (e.1.requires.map aa8.cs)):bm9 s 0 (.agg (cellsE e)) (.agg e.1.cs):=by
 have fD:bm9 s 0 e.2.1 (deps e.1.provides):=by
  rcases h1 with h1|⟨h1,h3⟩
  ·exact h1.frz (S:=fun i=>i<0) (bg5 _) (fun _ _=>Nat.not_lt_zero _) (ac7 (ak3 _))
  ·rw[h1];show Frz s _ .ab4 (.aa4 (e.1.provides.map Dep.cs));rw[h3]; exact .zs
 have fR:=h2.frz (S:=fun i=>i<0) (fun x hx=>(af5 _ x hx).1) (fun _ _=>Nat.not_lt_zero _) (ac7 (ad2 _));have b1:=fun v hv=>Frz.keep (σ:=s) (S:=fun i=>i<0) v hv
 exact .gk2 (.cons (ag7 _) (.cons (ac8 _ _) (.cons (ag7 _) (.cons (ag7 _) (.cons (ac8 _ _) (.cons (ag7 _) (.cons fD (.cons fR (.cons (b1 _ (ad2 _)) (.cons (b1 _ (ak3 _)) (.cons (b1 _ (ad2 _)) (.cons (b1 _ (ad2 _)) (.cons (b1 _ (ad2 _)) (.cons (b1 _ (ad2 _)) (.cons (b1 _ (an5 _)) .nil)))))))))))))))
theorem fv9 (e:EP)(hf:e.1.Fit){s:Store}(h1:au4 s e.2.1 5 (e.1.provides.map Dep.cs))(h2:Grow s e.2.2 7 (e.1.requires.map aa8.cs)):C Tryd.prog EE 31 [.agg (cellsE e)] s (gb6 (.bool (ah9 e.1)) s):=
 cw3 (args':=[.agg e.1.cs]) hE rfl (fun i hi=>by
  have:i=0:=by simp only[List.length_singleton] at hi; omega
  subst this;exact fh3 h1 h2) (by simp[IV.plain]) (cf5 e.1 hf)
theorem fh4 (e:EP)(hf:e.1.Fit){s:Store}(h1:au4 s e.2.1 5 (e.1.provides.map Dep.cs))(h2:Grow s e.2.2 7 (e.1.requires.map aa8.cs)):C Tryd.prog EE 22 [.agg (cellsE e)] s (gb6 (.agg e.1.cs) s):=by
 refine gl3 fun _=>(dh5 e.1 hf s e.2.1 e.2.2 (.inr h1) (.inr (.inl h2))).mono ?_
 rintro v t ⟨v6,v7,v8,v9,v10,v11,v12,v13,v14,rfl,h⟩;refine ⟨h.kept.obj,h.kept.next,?_⟩;have wk:∀ {c:IV},Bnd 0 c→Nm (fun i=>i<s.next) c:=fun h=>h.weak fun i h=>absurd h (Nat.not_lt_zero _)
 have fD:∀ {v:IV} {l:List Dep},Grow t v 5 (l.map Dep.cs)∧an1 s.next v→bm9 t s.next v (deps l):=fun {v l} h=>h.1.frz (bg5 _) (fun i hv=>Nat.not_lt.2 (h.2 i _ _ hv)) fun e he c hc=>wk (ac7 (ak3 l) e he c hc)
 have fR:∀ {v:IV} {l:List aa8},Grow t v 7 (l.map aa8.cs)∧an1 s.next v→bm9 t s.next v (ab7 l):=fun {v l} h=>h.1.frz (fun x hx=>(af5 _ x hx).1) (fun i hv=>Nat.not_lt.2 (h.2 i _ _ hv)) fun e he c hc=>wk (ac7 (ad2 l) e he c hc)
 have fS:∀ {v:IV} {l:List Str},Grow t v 1 (l.map ap4)∧an1 s.next v→bm9 t s.next v (strs l):=fun {v l} h=>h.1.frz (fh2 _) (fun i hv=>Nat.not_lt.2 (h.2 i _ _ hv)) fun e he c hc=>wk (ac7 (an5 l) e he c hc)
 exact .gk2 (.cons (ag7 _) (.cons (ac8 _ _) (.cons (ag7 _) (.cons (ag7 _) (.cons (ac8 _ _) (.cons (ag7 _) (.cons (fD h.g6) (.cons (fR h.g7) (.cons (fR h.g8) (.cons (fD h.g9) (.cons (fR h.g10) (.cons (fR h.g11) (.cons (fR h.g12) (.cons (fR h.g13) (.cons (fS h.g14) .nil)))))))))))))))
theorem hh7 {s:Store}{iv:IV}{es:List EP}(h:InV s iv es){i:Nat}(hi:i<es.length):∃ id,iv=.slice id 0 es.length 15∧s.obj id=some (.row (es.map cellsE).flatten)∧((es.map cellsE).flatten.drop (i*15)).take 15=cellsE es[i]∧15≤((es.map cellsE).flatten.drop (i*15)).length:=by
 have hall:=fun x hx=>(bg4 h x hx).1
 have h1:=aj1 hall i (by rw[List.length_map]; exact hi);have h2:=ah3 hall;rcases h.row with ⟨_,h0⟩|⟨id,h3,h4,h5⟩
 ·have:es=[]:=List.map_eq_nil_iff.1 h0;subst this; exact absurd hi (Nat.not_lt_zero _)
 ·rw[List.length_map] at h3 h2;refine ⟨id,h3,h4,by rw[h1]; simp[List.getD_eq_getElem?_getD,hi],?_⟩;rw[List.length_drop,h2]; omega
theorem fh5 {s:Store}{iv:IV}{es:List EP}(h:InV s iv es)(σ:Store):bh7 0 σ iv=some (.int .i64 (es.length:Nat)):=by
 rcases h.row with ⟨rfl,h0⟩|⟨id,rfl,_,_⟩
 ·have:es=[]:=List.map_eq_nil_iff.1 h0;subst this; rfl
 ·rw[al8,List.length_map]
theorem hh8 {E:Nat→IV}{fr:Frm}{i:Nat}{x:IX}{v:IV}{L:List LE}:ap1 E fr i (.q (.au1 x)) v L=L:=hm9 rfl
theorem hh9 {E:Nat→IV}{fr:Frm}{i:Nat}{z:List IV}{ps:List (Nat×Nat×IX)}{v:IV}{L:List LE}:ap1 E fr i (.q (.bld z ps)) v L=L:=hm9 rfl
theorem hi6 {E:Nat→IV}{fr:Frm}{i e n:Nat}{z:List IV}{ps:List (Nat×Nat×IX)}{v:IV}{L:List LE}:ap1 E fr i (.av2 e n z ps) v L=L:=rfl
theorem hi8 {E:Nat→IV}{fr:Frm}{i e:Nat}{x y:IX}{v:IV}{L:List LE}:ap1 E fr i (.app e x y) v L=L:=rfl
theorem gp2 (es:List EP)(hl:es.length<2^20)(hf:∀ e∈es,e.1.Fit)(iv:IV)(bg3 prio:Int)(σ:Store)(pp mid:Nat)(inst:Int)(hp:PS σ pp mid [] inst [] .aa1 0)(n0:Nat)(h0:n0≤σ.next)(h1:n0≤pp)(h2:n0≤mid)(hin:InV ⟨n0,σ.obj⟩ iv es) :
  C Tryd.prog EE 20 [.ptr pp 0,iv,.int .i64 bg3,.int .i64 prio] σ (ik2 n0 σ pp mid [] inst [] (es.map (·.1)) bg3 prio):=by
 refine ey5 gp1 (nZ rfl) ?_;simp only[gd6];refine ab1 (ab3 ?_);have hln:=fh5 hin;simp only[go_sem];refine ab1 (ab1 (ab3 ?_));simp only[go_sem,hln]
 refine af3 (an2 (fun i fr s=>fr=[(0,.ptr pp 0),(2,.int .i64 bg3),(3,.int .i64 prio),(11,iv),(12,.int .i64 es.length),(13,.int .i64 (i:Int))]∧σ.next≤s.next∧aj8 n0 σ s∧((es.map (·.1)).take i).all ah9=true ∧
  ∃ L' rv',Low n0 L' rv'∧ax8 (ax9 L') i ((es.map (·.1)).drop i)=ax8 [] 0 (es.map (·.1))∧PS s pp mid (rowsOf ((es.map (·.1)).take i) bg3 prio) inst L' rv' i) es.length ⟨rfl,Nat.le_refl _,.refl _ _,rfl,[],.aa1,⟨(fun t ht=>by cases ht),.inl rfl⟩,rfl,by simpa [rowsOf] using hp⟩ ?_)
 rintro i fr s hle ⟨rfl,hn,hke,hall,L',rv',hlw,hnm,h⟩;have hins:InV s iv es:=hin.kept ⟨by show n0≤s.next; omega,hke⟩;by_cases hlt:i<es.length
 ·refine ab1 (ab3 ?_);have c1:(i:Int)<es.length:=by omega
  have c2:(0:Int)≤i:=by omega
  have w1:=ag4 (i:=i) (by omega);simp only[go_sem,c1];obtain ⟨iid,rfl,ho,e1,e2⟩:=hh7 hins hlt;refine ab1 (ab3 ?_);simp only[go_sem];refine ab1 (af3 ?_);have hlf:(cellsE es[i]).all IV.leaf=true:=(bg4 hins _ (List.mem_map.2 ⟨_,List.getElem_mem hlt,rfl⟩)).2;have hcl:(cellsE es[i]).length=15:=rfl;have hct:(cellsE es[i]).take 15=cellsE es[i]:=rfl;refine ab1 (ab3 ?_);simp only[go_sem,c1,c2,ho,Nat.zero_add,e1,e2,Int.toNat_natCast,hlf,hcl,hct];generalize hS:Store.put (Store.put (Store.mk (s.next+1) s.obj) s.next _) s.next _=S1;have hS1:S1.next=s.next+1:=by rw[← hS]; rfl
  have hk1:aj8 n0 σ S1:=by
   rw[← hS];exact aj8.put (aj8.put (b:=⟨s.next+1,s.obj⟩) hke (by omega) _) (by omega) _
  have hbx:S1.obj s.next=some (.cells (cellsE es[i])):=by
   rw[← hS]; simp only[aa2,if_true]
  have hiS:InV S1 (.slice iid 0 es.length 15) es:=hin.kept ⟨by show n0≤S1.next; omega,hk1⟩
  have g1:PS S1 pp mid (rowsOf ((es.map (·.1)).take i) bg3 prio) inst L' rv' i:=h.mono (by omega) fun j hj=>by
   have e:¬ j=s.next:=by omega
   rw[← hS]; simp only[aa2,e,if_false]
  have hfx:=hf _ (List.getElem_mem hlt);have hmay:=fv9 es[i] hfx (hiS.aw3 _ (List.getElem_mem hlt)) (hiS.gd7 _ (List.getElem_mem hlt));refine ab1 (ab3 ?_);simp only[go_sem,hbx,hlf,hcl,hct];refine ae3 fok31 hmay ?_;rintro r s' ⟨rfl,rfl⟩;refine ⟨Nat.le_refl _,?_⟩;have hdr:(es.map (·.1)).drop i=es[i].1::(es.map (·.1)).drop (i+1):=by rw[List.drop_eq_getElem_cons (by rw[List.length_map]; exact hlt),List.getElem_map]
  have htk:(es.map (·.1)).take (i+1)=(es.map (·.1)).take i++[es[i].1]:=by rw[List.take_succ_eq_append_getElem (by rw[List.length_map]; exact hlt),List.getElem_map]
  have hx:es[i].1∈es.map (·.1):=List.mem_map.2 ⟨_,List.getElem_mem hlt,rfl⟩
  cases hm:ah9 es[i].1 with
  | false=>
   have:(es.map (·.1)).all ah9=false:=by rw[List.all_eq_false]; exact ⟨_,hx,by simp[hm]⟩
   simp only[go_sem]
   exact ⟨by omega,hk1,.inr ⟨this,rfl⟩⟩
  | true=>
   have hlen:=cz2 (s':=⟨s'.next+21,s'.obj⟩) g1.grow
   have hrl:((rowsOf ((es.map (·.1)).take i) bg3 prio).map av6.cs).length=i:=by
    rw[List.length_map,rowsOf,List.length_map,List.length_take,List.length_map]; omega
   rw[hrl] at hlen;obtain ⟨s2,ha1,ha2,ha3,ha4,hps⟩:=g1.name es[i].1.name ((i:Nat):Int) (s'.next+21) (s'.next+19) (by omega) (by omega) (by omega);have hlk:=go9 (σ:=⟨s'.next+21,s'.obj⟩) g1.map es[i].1.name;have hhd:(cellsE es[i]).head? = some (.str es[i].1.name):=rfl;simp only[go_sem];refine ab1 (ab3 ?_);simp only[go_sem,Nat.add_assoc,g1.cell,hbx,hlen,hhd,hlk];rw[ha1];simp only[go_sem,Nat.add_assoc];rw[fg9 ha3 es[i].1.name ((i:Nat):Int)];have g2:=hps (s'.next+21) (by omega);have hmb:¬ s.next=mid:=by have:=h.lt.2; omega
   have hb2:(s2.put mid (ah2.map (mEs (ba1 L' es[i].1.name ((i:Nat):Int) (s'.next+19))))).obj s.next=some (.cells (cellsE es[i])):=by
    simp only[aa2,hmb,if_false];exact ha4 _ _ (by omega) hbx
   have hn3:(s2.put mid (ah2.map (mEs (ba1 L' es[i].1.name ((i:Nat):Int) (s'.next+19))))).next=s'.next+21:=ha2;have hk3:=(aj8.app (b:=⟨s'.next+21,s'.obj⟩) hk1 ha1 (hlw.cur _) (by omega)).put h2 (ah2.map (mEs (ba1 L' es[i].1.name ((i:Nat):Int) (s'.next+19))));generalize s2.put mid (ah2.map (mEs (ba1 L' es[i].1.name ((i:Nat):Int) (s'.next+19))))=S3 at *;obtain ⟨s4,hb3,hb4,hb5,hps2⟩:=g2.push ⟨es[i].1,bg3,prio⟩ (S3.next+15) (S3.next+11) (by show s'.next+21≤_; omega) (by show s'.next+21≤_; omega) (by rw[rowsOf,List.length_map,List.length_take,List.length_map]; omega);have hc3:=g2.cell;simp only at hc3 hb3;have hi3:InV ⟨S3.next+15,S3.obj⟩ (.slice iid 0 es.length 15) es:=hin.kept ⟨by show n0≤S3.next+15; omega,hk3⟩;have hcp:=fh4 es[i] hfx (hi3.aw3 _ (List.getElem_mem hlt)) (hi3.gd7 _ (List.getElem_mem hlt));have tb4:Nat.testBit 16 4=true:=by decide
   have tb5:Nat.testBit 16 5=false:=by decide
   simp only[go_sem];refine du1 ?_;simp only[go_sem,Nat.add_assoc,hc3,hb2,hlf,hcl,hct];refine ae3 fok22 hcp ?_;rintro r s5 ⟨rfl,rfl⟩;refine ⟨Nat.le_refl _,?_⟩;simp only[fe9,gn2,hh8,hh9,hi6,hi8,fo9 tb4,fo8 tb5,go_sem,hc3,Nat.add_assoc,ak2,ak4,ad9,bl1,bl2,bl3,az6,bb8,cf8,List.append_nil,List.drop_nil,hb3];have hc4:s4.obj pp=some (.cells [rv',.int .i64 inst,.map mid]):=by rw[hb5]; exact hc3
   simp only[fe9,gn2,hh8,hh9,hi6,hi8,go_sem,Nat.add_assoc,hc4];have hk4:=aj8.app (b:=⟨S3.next+15,S3.obj⟩) hk3 hb3 hlw.rv (by omega);have h5:=hps2 s4.next (by rw[hb4]; omega);refine ab3 ?_;simp only[go_sem,w1];refine ⟨hlt,by omega,hk4.put h1 _,?_,ba1 L' es[i].1.name ((i:Nat):Int) (s'.next+19),.slice (S3.next+11) 0 ((rowsOf ((es.map (·.1)).take i) bg3 prio).length+1) 17,hlw.upd h.keys _ _ (by omega) (.inr ⟨_,_,_,_,rfl,by omega⟩),?_,?_⟩
   ·rw[htk,List.all_append,hall]; simp[hm]
   rotate_left
   ·rw[htk,bj6];exact h5
   ·rw[← hnm,hdr,ax8,cx5]
 ·have hi':i=es.length:=by omega
  subst hi';have c1:¬ (es.length:Int)<es.length:=by omega
  have hel:(es.map (·.1)).take es.length=es.map (·.1):=List.take_of_length_le (by simp);have hed:(es.map (·.1)).drop es.length=[]:=List.drop_eq_nil_of_le (by simp);rw[hel] at hall h;rw[hed] at hnm;refine ab1 (ab3 ?_);simp only[go_sem,c1];refine ab1 (ab3 ?_);simp only[go_sem];refine ab3 ?_;simp only[go_sem];refine ⟨hn,hke,.inl ⟨hall,rfl,L',rv',hnm,hlw,?_⟩⟩;have e0:([]:List av6).length+(es.map (·.1)).length=es.length:=by simp
  rw[e0]; exact h
set_option maxHeartbeats 1000000
theorem eo3 (repos:List aj7)(es:List EP)(h1:repos.length<2^20)(h2:es.length<2^20)(h3:ai3 repos<2^40)(hr:∀ r∈repos,aj7.Fit r)(hi:∀ e∈es,e.1.Fit)(σ:Store)(iv:IV)(hin:InV σ iv es) :
  C Tryd.prog EE 7 [aq4 repos,iv] σ (gb6 (gr7 (bz7 repos (es.map (·.1)))) σ):=by
 have hln:=fh5 hin;obtain ⟨inst,hinst⟩:∃ inst,inst=es.map (·.1):=⟨_,rfl⟩;have hil:es.length=inst.length:=by rw[hinst,List.length_map]
 rw[hil] at hln h2;rw[← hinst];refine gl3 fun _=>C_f fok7 (nZ rfl) ?_
 simp only[ic7,go_sem,hln];refine ac9 noT (fun i fr s=>∃ n:Nat,fr=[(0,aq4 repos),(1,iv),(6,.int .i64 n),(16,aq4 repos),(17,.int .i64 repos.length),(18,.int .i64 i)]∧n+ai3 (repos.drop i)=inst.length+ai3 repos∧σ.next≤s.next∧aj8 σ.next σ s) repos.length ⟨inst.length,rfl,rfl,Nat.le_refl _,.refl _ _⟩ ?_;rintro i fr s hle ⟨n,rfl,hn,hx,hk⟩;by_cases hlt:i<repos.length
 ·obtain ⟨a,ha,_,hdr,hget,htk⟩:=ae9 repos i hlt;have c1:(i:Int)<repos.length:=by omega
  have c2:(0:Int)≤i:=by omega
  have w1:=ag4 (i:=i) (by omega);rw[cb6 repos i a hdr] at hn
  have w2:IntKind.i64.wrap ((n:Int)+a.packages.length)=((n+a.packages.length:Nat):Int):=by
   rw[wrap64 (by omega) (by omega)]; omega
  simp only[go_sem,c1,c2,hget,av8,bo9,bo8];simp only[go_sem,aj7.cs,w1,w2];exact ⟨hlt,n+a.packages.length,rfl,by omega,by omega,hk.box hx _ _⟩
 have hi':i=repos.length:=by omega
 subst hi';have c1:¬ (repos.length:Int)<repos.length:=by omega
 have hn0:n=inst.length+ai3 repos:=by rw[List.drop_length] at hn; simpa [ai3] using hn
 subst hn0;by_cases b1:16<repos.length
 ·have b1':(16:Int)<repos.length:=by omega
  simp only[go_sem,c1,b1',bz7,b1,true_or];exact ⟨hk,hx,.bm2 (.cons (.keep _ .ad3) (.cons (ac8 _ _) .nil))⟩
 have b1':¬ (16:Int)<repos.length:=by omega
 by_cases b2:256<inst.length+ai3 repos
 ·have b2':(256:Int)<((inst.length+ai3 repos:Nat):Int):=by omega
  simp only[go_sem,c1,b1',b2',bz7,b1,b2,or_true];exact ⟨hk,hx,.bm2 (.cons (.keep _ .ad3) (.cons (ac8 _ _) .nil))⟩
 have b2':¬ (256:Int)<((inst.length+ai3 repos:Nat):Int):=by omega
 simp only[go_sem,c1,b1',b2',hln]
 have hp0:PS ⟨s.next+2,((Store.put ⟨s.next+2,s.obj⟩ s.next (ah2.map [])).put (s.next+1) (ah2.cells [.aa1,.int .i64 inst.length,.map s.next])).obj⟩ (s.next+1) s.next [] inst.length [] .aa1 0 :=
  {cell:=by simp only[aa2,if_true]
   grow:=.inl ⟨rfl,rfl⟩
   map:=by
    have e:¬ s.next=s.next+1:=by omega
    simp only[aa2,e,if_false,if_true]; rfl
   row:=fun t ht=>by cases ht
   ids:=List.nodup_nil
   keys:=List.nodup_nil
   ne:=fun _ _ h=>by cases h
   lt:=⟨by show s.next+1<s.next+2; omega,by show s.next<s.next+2; omega⟩ }
 have hk2:aj8 σ.next σ ⟨s.next+2,((Store.put ⟨s.next+2,s.obj⟩ s.next (ah2.map [])).put (s.next+1) (ah2.cells [.aa1,.int .i64 inst.length,.map s.next])).obj⟩:=aj8.put (b:=Store.put ⟨s.next+2,s.obj⟩ s.next (ah2.map [])) (aj8.put (b:=⟨s.next+2,s.obj⟩) hk hx _) (by omega) _;have hin2:InV ⟨σ.next,((Store.put ⟨s.next+2,s.obj⟩ s.next (ah2.map [])).put (s.next+1) (ah2.cells [.aa1,.int .i64 inst.length,.map s.next])).obj⟩ iv es:=hin.kept ⟨Nat.le_refl _,hk2⟩;have hadd:=gp2 es (by omega) hi iv (-1) 1025 ⟨s.next+2,((Store.put ⟨s.next+2,s.obj⟩ s.next (ah2.map [])).put (s.next+1) (ah2.cells [.aa1,.int .i64 inst.length,.map s.next])).obj⟩ (s.next+1) s.next inst.length hp0 σ.next (by show σ.next≤s.next+2; omega) (by omega) hx hin2;rw[← hinst] at hadd;refine ae3 fok20 hadd ?_;rintro v s2 ⟨n2,k2,⟨g1,rfl,L1,rv1,g2,low1,g3⟩|⟨g1,rfl⟩⟩
 all_goals replace k2:=hk2.trans k2
 all_goals have n3:σ.next≤s2.next:=by (have n4:s.next+2≤s2.next:=n2; omega)
 case inr=>
  refine ⟨n2,?_⟩;simp only[go_sem,bz7,b1,b2,or_self,g1];exact ⟨k2,n3,cb8 _⟩
 refine ⟨n2,?_⟩
 have hres:bz7 repos inst=match ad5 0 repos (rowsOf inst (-1) 1025,ax8 [] 0 inst) with
  | some (rows,nm)=>.inl ⟨rows,inst.length,nm⟩
  | none=>.inr 4:=by
  simp only[bz7,b1,b2,or_self,if_false,g1,Bool.true_eq_false];rfl
 rw[hres];simp only[go_sem]
 refine ac9 noT (fun i fr t=>fr=[(9,.ptr (s.next+1) 0),(46,aq4 repos),(47,.int .i64 repos.length),(48,.int .i64 i)]∧σ.next≤t.next∧aj8 σ.next σ t∧∃ rows L rv,Low σ.next L rv∧PS t (s.next+1) s.next rows inst.length L rv rows.length ∧
  ad5 0 repos (rowsOf inst (-1) 1025,ax8 [] 0 inst)=ad5 i (repos.drop i) (rows,ax9 L)∧rows.length+ai3 (repos.drop i)=inst.length+ai3 repos) repos.length ⟨rfl,n3,k2,rowsOf inst (-1) 1025,L1,rv1,low1,?_,?_,?_⟩ ?_
 ·have e:(rowsOf inst (-1) 1025).length=0+inst.length:=by rw[am6]; omega
  rw[e]; exact g3
 ·rw[g2]; rfl
 ·rw[am6]; rfl
 rintro i fr t hle ⟨rfl,hx3,k3,rows,L,rv,lw3,hp,hrf,hsum⟩;by_cases hlt:i<repos.length
 ·obtain ⟨a,ha,_,hdr,hget,htk⟩:=ae9 repos i hlt;have c1:(i:Int)<repos.length:=by omega
  have c2:(0:Int)≤i:=by omega
  have w1:=ag4 (i:=i) (by omega);rw[cb6 repos i a hdr] at hsum;rw[hdr] at hrf;simp only[go_sem,c1,c2,hget,av8,bo9,bo8];by_cases p1:a.priority<0
  ·simp only[go_sem,aj7.cs,p1];rw[hrf,ad5,if_pos (.inl p1)];exact ⟨k3.box hx3 _ _,Nat.le_succ_of_le hx3,cb8 _⟩
  by_cases p2:1024<a.priority
  ·simp only[go_sem,aj7.cs,p1,p2];rw[hrf,ad5,if_pos (.inr (.inl p2))];exact ⟨k3.box hx3 _ _,Nat.le_succ_of_le hx3,cb8 _⟩
  simp only[go_sem,aj7.cs,p1,p2]
  have hp1:PS ⟨t.next+1,((Store.put ⟨t.next+1,t.obj⟩ t.next (ah2.cells [.int .i64 0,.aa1])).put t.next (ah2.cells [.int .i64 a.priority,aw4 a.packages])).obj⟩ (s.next+1) s.next rows inst.length L rv rows.length:=hp.mono (Nat.le_succ _) fun j hj=>by
   have e:¬ j=t.next:=by omega
   simp only[aa2,e,if_false]
  refine ae3 fok20 (gp9 a.packages (hr a ha).1 (hr a ha).2 i a.priority _ (s.next+1) s.next rows (by omega) inst.length L rv hp1 σ.next (by show σ.next≤t.next+1; omega) (by omega) hx lw3) ?_;rintro v s3 ⟨n5,k5,⟨k1,rfl,L2,rv2,kk2,lw5,kk3⟩|⟨k1,rfl⟩⟩
  all_goals replace k5:=(k3.box hx3 _ _).trans k5
  all_goals have n6:σ.next≤s3.next:=by (have n4:t.next+1≤s3.next:=n5; omega)
  ·refine ⟨n5,?_⟩;simp only[go_sem,w1];refine ⟨hlt,n6,k5,rows++rowsOf a.packages i a.priority,L2,rv2,lw5,?_,?_,?_⟩
   ·rw[List.length_append,am6]; exact kk3
   ·rw[hrf,ad5,if_neg (by simp[p1,p2,k1]),kk2]
   ·rw[List.length_append,am6]; omega
  ·refine ⟨n5,?_⟩;simp only[go_sem];rw[hrf,ad5,if_pos (.inr (.inr k1))];exact ⟨k5,n6,cb8 _⟩
 have hi':i=repos.length:=by omega
 subst hi';have c1:¬ (repos.length:Int)<repos.length:=by omega
 rw[List.drop_length] at hrf;simp only[go_sem,c1];rw[hrf,ad5];exact ⟨k3,hx3,.bm2 (.cons (hp.iq8 lw3 (by omega) hx) (.cons (ac8 _ _) .nil))⟩
end Go.Id.Tryd
/- The document's copies,in rows of one's own. Conditions: sizes that fit. -/
namespace Go.Id
open Go
theorem hj4 {P:Program}{E:Nat→IV}{σ:Store}{f:Nat}{args:List IV}{Q Q':IV→Store→Prop}(h:C P E f args σ Q)(hq:∀ v s,Q v s→∃ (S:Nat→Bool) (v':IV),Frz s (fun i=>S i=true) v v'∧Q' v' (s.kills S)):C P E f args σ Q':=by
 intro ρ w rargs hs ha;refine CallsIn.mono (h ρ w rargs hs ha) ?_;rintro e w' ⟨v,r,ρ',σ',rfl,q,hs',hv',hx⟩;obtain ⟨S,v',hf,q'⟩:=hq v σ' q;obtain ⟨ρd,hsd,hxd,hvd⟩:=at1 (S:=S) hs';exact ⟨v',r,ρd,σ'.kills S,rfl,q',hsd,hvd _ _ _ hf hv',hx.trans ((hxd _).weak (Nat.le_refl _))⟩
end Go.Id
namespace Go.Id.Tryd
open Go Go.Id Go.Proofs Go.Id.Md
set_option maxHeartbeats 1000000
def ct2:IC :=
 (.seq
 (.reg 0 [oK 1 (.ar7 (.t 0)),oK 2 (.alloc [(.str []),(zI 0),(.str []),(.str []),(zU 0),(.str []),.aa1,.aa1,.aa1,.aa1,.aa1,.aa1,.aa1,.aa1,.aa1])] [1,2])
 (.seq
 (.oreg 1 [(0,oQ 3 (.aa9 0 (.t 1)),0),(1,oQ 4 (.ldt none (.t 3)),0),(2,oQ 5 (.aa9 1 (.t 1)),0),(3,oQ 6 (.ldt (some 3) (.t 5)),0),(4,oQ 7 (.aa9 4 (.t 1)),0),(5,oQ 8 (.ldt none (.t 7)),0),(6,oQ 9 (.aa9 5 (.t 1)),0),(7,oQ 10 (.ldt none (.t 9)),0),(8,oM 11 (.c .ab4),0),(9,oQ 12 (.aa9 6 (.t 1)),0),(10,oQ 13 (.ldt none (.t 12)),0),(12,oQ 15 (.aa9 7 (.t 1)),0),(13,oQ 16 (.ldt none (.t 15)),0),(15,oQ 18 (.aa9 8 (.t 1)),0),(16,oQ 19 (.ldt none (.t 18)),0),(18,oM 21 (.c .ab4),0),(19,oQ 22 (.aa9 9 (.t 1)),0),(20,oQ 23 (.ldt none (.t 22)),0),(22,oQ 25 (.aa9 10 (.t 1)),0),(23,oQ 26 (.ldt none (.t 25)),0),(25,oQ 28 (.aa9 11 (.t 1)),0),(26,oQ 29 (.ldt none (.t 28)),0),(28,oQ 31 (.aa9 12 (.t 1)),0),(29,oQ 32 (.ldt none (.t 31)),0),(31,oQ 34 (.aa9 13 (.t 1)),0),(32,oQ 35 (.ldt none (.t 34)),0),(34,oM 37 (.c .ab4),0),(35,oQ 38 (.aa9 14 (.t 1)),0),(36,oQ 39 (.ldt none (.t 38)),0),(11,oK 14 (.app 5 (.t 11) (.t 13)),0),(14,oK 17 (.call 19 [(.t 16)]),0),(17,oK 20 (.call 19 [(.t 19)]),0),(21,oK 24 (.app 5 (.t 21) (.t 23)),0),(24,oK 27 (.call 19 [(.t 26)]),0),(27,oK 30 (.call 19 [(.t 29)]),0),(30,oK 33 (.call 19 [(.t 32)]),0),(33,oK 36 (.call 19 [(.t 35)]),0),(37,oK 40 (.app 1 (.t 37) (.t 39)),0),(38,oQ 41 (.bld [(.str []),(zI 0),(.str []),(.str []),(zU 0),(.str []),.aa1,.aa1,.aa1,.aa1,.aa1,.aa1,.aa1,.aa1,.aa1] [⟨0,⟨1,(.t 4)⟩⟩,⟨1,⟨3,(.t 6)⟩⟩,⟨4,⟨1,(.t 8)⟩⟩,⟨5,⟨1,(.t 10)⟩⟩,⟨6,⟨1,(.t 14)⟩⟩,⟨7,⟨1,(.t 17)⟩⟩,⟨8,⟨1,(.t 20)⟩⟩,⟨9,⟨1,(.t 24)⟩⟩,⟨10,⟨1,(.t 27)⟩⟩,⟨11,⟨1,(.t 30)⟩⟩,⟨12,⟨1,(.t 33)⟩⟩,⟨13,⟨1,(.t 36)⟩⟩,⟨14,⟨1,(.t 40)⟩⟩]),0),(39,oN (.store 15 (.t 2) (.t 41)),0)] [2])
 .ret))
theorem dr2:FOK Tryd.prog 6 (42,ct2,[(.cell (some 15) 2)]):=bk2 [1000001,1000011,1000021,1000037,1000004,1000006,1000008,1000010,1000013,1000016,1000019,1000023,1000026,1000029,1000032,1000035,1000039,4000000,2000000] Tryd.func6 (by kernel_rfl) (by kernel_rfl) (by kernel_rfl) (by kernel_rfl)
theorem fw1 (r:aa8):r.fit→PC Tryd.prog EE 30 [.agg r.cs] (.agg r.cs):=by
 induction r using aa8.ind with
 | h k d xs ih=>
  intro hf;obtain ⟨f1,f2,f3,f4,f5⟩:=aa8.bn3.1 hf;have hbA:=at7 (.mk k d xs);rw[aa8.aq1] at hbA ⊢;simp only[aa8.kind,aa8.args,aa8.dep] at *;refine bz1 hE fok30 (nZ rfl) (id6 hbA) ?_;simp only[ic30,go_sem]
  refine ac9 noT (fun i fr s=>∃ gv,fr=[(1,.af4 [.int .u8 k,.str d.name,.int .u8 d.op,.int .i64 d.evr.aq5,.str d.evr.ver,.str d.evr.rel,.aa4 (xs.map aa8.cs)]),(2,.ptr 0 0),(3,.ptr 1 0),(4,.int .i64 (i:Int))]∧2≤s.next ∧
   s.obj 0=some (.cells [.int .u8 0,.str [],.int .u8 0,.int .i64 0,.str [],.str [],.aa1])∧s.obj 1=some (.cells [.int .u8 k,.str d.name,.int .u8 d.op,.int .i64 d.evr.aq5,.str d.evr.ver,.str d.evr.rel,gv])∧Grow s gv 7 ((xs.take i).map aa8.cs)) xs.length
   ⟨.aa1,rfl,Nat.le_refl _,rfl,rfl,.inl ⟨rfl,rfl⟩⟩ ?_
  rintro i fr s hi ⟨gv,rfl,hnx,h0,h1,hg⟩;by_cases hlt:i<xs.length
  ·obtain ⟨a,ha,_,hdr,hget,htk⟩:=ae9 xs i hlt;have c1:(i:Int)<xs.length:=by omega
   have c2:(0:Int)≤i:=by omega
   have w1:=ag4 (i:=i) (by omega);have hA:=ih a ha (f5 a ha);have hl0:((xs.take i).map aa8.cs).length=i:=by rw[List.length_map,List.length_take]; omega
   have hg1:Grow (⟨s.next+12,s.obj⟩:Store) gv 7 ((xs.take i).map aa8.cs):=hg.mono (by show s.next≤s.next+12; omega) fun _ _ _=>rfl
   have hap:=ap2 (nid:=s.next+9) (e:=a.cs) hg1 (af5 _) ⟨ac1 a,ac3 a⟩ (by rw[hl0]; omega);rw[hl0] at hap;have k0:=ai5 hg1 0 _ h0 (fun _ e=>by cases e);have k1:=ai5 hg1 1 _ h1 (fun _ e=>by cases e);have kn:(an4 gv (⟨s.next+12,s.obj⟩:Store)).next=s.next+12:=ai9 gv;have m0:¬ 0=s.next+9:=by omega
   have m1:¬ 1=s.next+9:=by omega
   simp only[go_sem,c1,c2,hget,ac1,ae5,ac3,h1,b_o,b_p,b_t];refine af2 hA ?_;simp only[go_sem,ac1,ae5,ac3];generalize an4 gv (⟨s.next+12,s.obj⟩:Store)=K at *;simp only[show s.next+1+1+1+1+1+1+1+1+1=s.next+9 from rfl,hap,go_sem,m0,m1,k0,k1,w1];refine ⟨hlt,_,by rw[kn]; omega,rfl,?_⟩;rw[htk,List.map_append,List.map_cons,List.map_nil];refine .inr ⟨s.next+9,by rw[List.length_append,hl0]; rfl,?_,by show s.next+9<K.next; rw[kn]; omega⟩;simp only[aa2];rw[if_neg (fun e=>m1 e.symm),if_pos trivial]
  ·have c1:¬ (i:Int)<xs.length:=by omega
   have e:i=xs.length:=by omega
   subst e;rw[List.take_length] at hg;have hvl:gv.leaf=true:=by rcases hg with ⟨rfl,_⟩|⟨id,rfl,_⟩<;>rfl
   simp only[go_sem,c1,h0,h1];refine ⟨hvl,.gk2 (.cons (ac8 _ _) (.cons (.keep _ (.str _)) (.cons (ac8 _ _) (.cons (ac8 _ _) (.cons (.keep _ (.str _)) (.cons (.keep _ (.str _)) (.cons ?_ .nil)))))))⟩;have hne:∀ id,gv=.slice id 0 (xs.map aa8.cs).length 7→id≠0:=fun id hv=>hg.ne hv h0 (fun _ h=>by cases h)
   refine Grow.frz (hg.mono (Nat.le_refl _) fun id hv _=>?_) (fun x hx=>(af5 xs x hx).1) (fun _ _=>Nat.not_lt_zero _) (ac7 (ad2 xs));rw[aa2,if_neg (hne id hv)]
theorem fw2 (xs:List aa8)(hl:xs.length<2^31)(hf:∀ r∈xs,r.fit)(σ:Store):C Tryd.prog EE 19 [ab7 xs] σ fun v s=>Kept σ s∧Grow s v 7 (xs.map aa8.cs)∧an1 σ.next v:=by
 refine C_f fok19 (nZ rfl) ?_;simp only[ic19,go_sem];refine ac9 noT (fun i fr s=>∃ gv,fr=[(0,ab7 xs),(3,gv),(4,.int .i64 (i:Int))]∧Kept σ s∧Grow s gv 7 ((xs.take i).map aa8.cs)∧an1 σ.next gv) xs.length ⟨.aa1,rfl,Kept.refl σ,.inl ⟨rfl,rfl⟩,fun i k e h=>by cases h⟩ ?_;rintro i fr s hi ⟨gv,rfl,hk,hg,hlo⟩;by_cases hlt:i<xs.length
 ·obtain ⟨a,ha,_,hdr,hget,htk⟩:=ae9 xs i hlt;have c1:(i:Int)<xs.length:=by omega
  have c2:(0:Int)≤i:=by omega
  have w1:=ag4 (i:=i) (by omega);have hA:=fw1 a (hf a ha);have hl0:((xs.take i).map aa8.cs).length=i:=by rw[List.length_map,List.length_take]; omega
  simp only[go_sem,c1,c2,hget,ac1,ae5,ac3]
  first|refine ac2 fok30 (hA) ?_|refine af2 (hA) ?_
  simp only[go_sem,ac1,ae5,ac3];have hap:=ap2 (nid:=s.next) (e:=a.cs) (hg.mono (σ':=⟨s.next+1,s.obj⟩) (Nat.le_succ _) fun _ _ _=>rfl) (af5 _) ⟨ac1 a,ac3 a⟩ (by rw[hl0]; omega);rw[hl0] at hap;simp only[go_sem,hap,w1];have hkn:=hk.next;refine ⟨hlt,_,rfl,⟨?_,fun j hj=>?_⟩,?_,fun j k e h=>by cases h; exact hkn⟩
  ·show σ.next≤(an4 gv _).next;rw[ai9]; show σ.next≤s.next+1; omega
  ·rw[aa2,if_neg (by omega)];rcases hg with ⟨rfl,_⟩|⟨id,rfl,_,_⟩
   ·exact hk.obj j hj
   ·have:=hlo _ _ _ rfl;show (if j=id then none else s.obj j)=_;rw[if_neg (by omega)]; exact hk.obj j hj
  ·rw[htk,List.map_append,List.map_cons,List.map_nil];exact .inr ⟨s.next,by rw[List.length_append,hl0]; rfl,by rw[aa2,if_pos rfl],by show s.next<(an4 gv _).next; rw[ai9]; exact Nat.lt_succ_self _⟩
 ·have c1:¬ (i:Int)<xs.length:=by omega
  have e:i=xs.length:=by omega
  subst e;rw[List.take_length] at hg;simp only[go_sem,c1];exact ⟨hk,hg,hlo⟩
theorem gp3 {S:Store}{nid esz:Nat}{es:List (List IV)}(hall:∀ x∈es,x.length=esz∧x.all IV.leaf=true)(hn:es.length≤2147483648)(hnid:nid<S.next) :
  ∃ v' S',aw1 S nid esz .ab4 (.aa4 es)=some (v',S')∧S'.next=S.next∧au4 S' v' esz es∧(∀ i,i≠nid→S'.obj i=S.obj i)∧(v'=.ab4∨∃ k,v'=.slice nid 0 k esz):=by
 have h1:es.all (fun e=>e.length==esz)=true:=List.all_eq_true.2 fun x hx=>by simp[(hall x hx).1]
 have hsrc:av9 S esz (.aa4 es)=some (es.length,es.flatten):=by simp only[av9,h1,if_true]
 have hlf:es.flatten.all IV.leaf=true:=aw9 fun x hx=>(hall x hx).2
 by_cases h0:es.length=0
 ·refine ⟨.ab4,S,?_,rfl,.inr ⟨rfl,List.length_eq_zero_iff.1 h0⟩,fun _ _=>rfl,.inl rfl⟩;unfold aw1;rw[hsrc];simp[hlf,h0]
 ·refine ⟨.slice nid 0 es.length esz,S.put nid (.row es.flatten),?_,rfl,.inl (.inr ⟨nid,rfl,by rw[aa2,if_pos rfl],hnid⟩),fun i hi=>by rw[aa2,if_neg hi],.inr ⟨_,rfl⟩⟩;unfold aw1;rw[hsrc];simp[hlf,h0,hn]
theorem ao7 {s t:Store}{v:IV}{e:Nat}{es:List (List IV)}(h:au4 s v e es)(hn:s.next≤t.next)(ho:∀ i k,v=.slice i 0 k e→i<s.next→t.obj i=s.obj i):au4 t v e es:=by
 rcases h with h|h
 ·exact .inl (h.mono hn fun i hv hi=>ho i _ hv hi)
 ·exact .inr h
theorem dx3 (l:List Dep):∀ x∈l.map Dep.cs,x.length=5∧x.all IV.leaf=true:=fun x hx=>by
 obtain ⟨d,_,rfl⟩:=List.mem_map.1 hx; exact ⟨rfl,rfl⟩
theorem fw3 (l:List Str):∀ x∈l.map ap4,x.length=1∧x.all IV.leaf=true:=fun x hx=>by
 obtain ⟨d,_,rfl⟩:=List.mem_map.1 hx; exact ⟨rfl,rfl⟩
structure ie6 (σ s:Store) (p:aa3) (v6 v7 v8 v9 v10 v11 v12 v13 v14:IV):Prop where
 kept:Kept σ s
 g6:au4 s v6 5 (p.provides.map Dep.cs)∧an1 σ.next v6
 g7:Grow s v7 7 (p.requires.map aa8.cs)∧an1 σ.next v7
 g8:Grow s v8 7 (p.conflicts.map aa8.cs)∧an1 σ.next v8
 g9:au4 s v9 5 (p.ab9.map Dep.cs)∧an1 σ.next v9
 g10:Grow s v10 7 (p.aa7.map aa8.cs)∧an1 σ.next v10
 g11:Grow s v11 7 (p.aa5.map aa8.cs)∧an1 σ.next v11
 g12:Grow s v12 7 (p.suggests.map aa8.cs)∧an1 σ.next v12
 g13:Grow s v13 7 (p.ab2.map aa8.cs)∧an1 σ.next v13
 g14:au4 s v14 1 (p.files.map ap4)∧an1 σ.next v14
 sep:∀ v∈[v8,v9,v10,v11,v12,v13,v14],∀ i k e,v=.slice i 0 k e→(∀ k' e',v6≠.slice i 0 k' e')∧∀ k' e',v7≠.slice i 0 k' e'
theorem fw4 (p:aa3)(hf:p.Fit)(σ:Store):C Tryd.prog EE 6 [.agg p.cs] σ fun v s=>∃ v6 v7 v8 v9 v10 v11 v12 v13 v14,v=.agg (an6 p v6 v7 v8 v9 v10 v11 v12 v13 v14)∧ie6 σ s p v6 v7 v8 v9 v10 v11 v12 v13 v14:=by
 have gr:=fun (l:List aa8) (wh:Int) (h:(wh,l)∈p.rows)=>fw2 l (hf.au3 _ h).1 fun r hr=>((hf.au3 _ h).2 r hr).1
 have r1:=gr p.requires 1 (by simp[aa3.rows]);have r2:=gr p.conflicts 2 (by simp[aa3.rows]);have r3:=gr p.aa7 1 (by simp[aa3.rows]);have r4:=gr p.aa5 3 (by simp[aa3.rows]);have r5:=gr p.suggests 1 (by simp[aa3.rows]);have r6:=gr p.ab2 3 (by simp[aa3.rows]);clear gr;refine ey5 dr2 (nZ rfl) ?_;simp only[ct2];refine ab1 (ab3 ?_);simp only[go_sem,ad9];refine ab1 (fo7 ?_);simp only[go_sem,aa3.cs];generalize hU:Store.mk (σ.next+1+40) _=U;have un:U.next=σ.next+41:=by rw[← hU]
 have ub:U.obj σ.next=some (.cells ag8):=by rw[← hU]; simp only[aa2,if_true]; rfl
 have kU:Kept σ U:=⟨by omega,fun j hj=>by
  have:¬ j=σ.next:=by omega
  rw[← hU]; simp only[aa2,this,if_false]⟩
 clear hU
 have lz:∀ {v:IV} {m e:Nat},(v=.ab4∨∃ k,v=.slice m 0 k e)→σ.next≤m→an1 σ.next v:=fun {v m e} hv hm i k e2 h=>by
  rcases hv with hv|⟨k2,hv⟩
  ·rw[hv] at h; cases h
  ·rw[hv] at h; cases h; exact hm
 have lw:∀ {v:IV} {m m2:Nat},an1 m v→m2≤m→an1 m2 v:=fun h hm i k e hv=>Nat.le_trans hm (h i k e hv)
 obtain ⟨v6,S1,a1,n1,g6,o1,z6⟩:=gp3 (S:=U) (nid:=σ.next+1+11) (dx3 p.provides) (by rw[List.length_map]; have:=hf.aw3.1; omega) (by omega);simp only[go_sem,a1];refine ae3 fok19 (r1 _) ?_;rintro v7 s1 ⟨k1,g7,l7⟩;refine ⟨k1.next,?_⟩;simp only[go_sem];refine ae3 fok19 (r2 _) ?_;rintro v8 s2 ⟨k2,g8,l8⟩;refine ⟨k2.next,?_⟩;have m1:=k1.next;have m2:=k2.next;obtain ⟨v9,S3,a3,n3,g9,o3,z9⟩:=gp3 (S:=s2) (nid:=σ.next+1+21) (dx3 p.ab9) (by rw[List.length_map]; have:=hf.obs.1; omega) (by omega);simp only[go_sem,a3];refine ae3 fok19 (r3 _) ?_;rintro v10 s4 ⟨k4,g10,l10⟩;refine ⟨k4.next,?_⟩;simp only[go_sem];refine ae3 fok19 (r4 _) ?_;rintro v11 s5 ⟨k5,g11,l11⟩;refine ⟨k5.next,?_⟩;simp only[go_sem];refine ae3 fok19 (r5 _) ?_;rintro v12 s6 ⟨k6,g12,l12⟩;refine ⟨k6.next,?_⟩;simp only[go_sem];refine ae3 fok19 (r6 _) ?_;rintro v13 s7 ⟨k7,g13,l13⟩;refine ⟨k7.next,?_⟩;have m4:=k4.next;have m5:=k5.next;have m6:=k6.next;have m7:=k7.next;obtain ⟨v14,S8,a8,n8,g14,o8,z14⟩:=gp3 (S:=s7) (nid:=σ.next+1+37) (fw3 p.files) (by rw[List.length_map]; have:=hf.files.1; omega) (by omega)
 have hb8:S8.obj σ.next=some (.cells ag8):=by
  rw[o8 _ (by omega),k7.obj _ (by omega),k6.obj _ (by omega),k5.obj _ (by omega),k4.obj _ (by omega),o3 _ (by omega),k2.obj _ (by omega),k1.obj _ (by omega),o1 _ (by omega)]; exact ub
 have c6:=av7 g6;have c7:=ad8 g7;have c8:=ad8 g8;have c9:=av7 g9;have c10:=ad8 g10;have c11:=ad8 g11;have c12:=ad8 g12;have c13:=ad8 g13;have c14:=av7 g14;simp only[go_sem,a8,hb8,ag8,c6.1,c6.2,c7.1,c7.2,c8.1,c8.2,c9.1,c9.2,c10.1,c10.2,c11.1,c11.2,c12.1,c12.2,c13.1,c13.2,c14.1,c14.2];refine ab3 ?_;simp only[go_sem];generalize hc:ah2.cells _=c;clear hc;have f8:∀ i,i≠σ.next→(S8.put σ.next c).obj i=S8.obj i:=fun i hi=>by rw[aa2,if_neg hi]
 have nT:(S8.put σ.next c).next=S8.next:=rfl;generalize S8.put σ.next c=T at *;have f7:∀ i,i≠σ.next→i≠σ.next+1+37→T.obj i=s7.obj i:=fun i h1 h2=>by rw[f8 i h1,o8 i h2]
 have f6:∀ i,i<s6.next→i≠σ.next→i≠σ.next+1+37→T.obj i=s6.obj i:=fun i h h1 h2=>by rw[f7 i h1 h2,k7.obj i h]
 have f5:∀ i,i<s5.next→i≠σ.next→i≠σ.next+1+37→T.obj i=s5.obj i:=fun i h h1 h2=>by rw[f6 i (by omega) h1 h2,k6.obj i h]
 have f4:∀ i,i<s4.next→i≠σ.next→i≠σ.next+1+37→T.obj i=s4.obj i:=fun i h h1 h2=>by rw[f5 i (by omega) h1 h2,k5.obj i h]
 have f3:∀ i,i<S3.next→i≠σ.next→i≠σ.next+1+37→T.obj i=S3.obj i:=fun i h h1 h2=>by rw[f4 i (by omega) h1 h2,k4.obj i h]
 have f2:∀ i,i<s2.next→i≠σ.next→i≠σ.next+1+37→i≠σ.next+1+21→T.obj i=s2.obj i:=fun i h h1 h2 h3=>by rw[f3 i (by omega) h1 h2,o3 i h3]
 have f1:∀ i,i<s1.next→i≠σ.next→i≠σ.next+1+37→i≠σ.next+1+21→T.obj i=s1.obj i:=fun i h h1 h2 h3=>by rw[f2 i (by omega) h1 h2 h3,k2.obj i h]
 have f0:∀ i,i<S1.next→i≠σ.next→i≠σ.next+1+37→i≠σ.next+1+21→T.obj i=S1.obj i:=fun i h h1 h2 h3=>by rw[f1 i (by omega) h1 h2 h3,k1.obj i h]
 refine ⟨v6,v7,v8,v9,v10,v11,v12,v13,v14,rfl,⟨⟨by omega,fun i hi=>?_⟩,⟨?_,lz z6 (by omega)⟩,⟨g7.mono (by omega) fun i hv hi=>?_,lw l7 (by omega)⟩,⟨g8.mono (by omega) fun i hv hi=>?_,lw l8 (by omega)⟩,⟨?_,lz z9 (by omega)⟩,⟨g10.mono (by omega) fun i hv hi=>?_,lw l10 (by omega)⟩,⟨g11.mono (by omega) fun i hv hi=>?_,lw l11 (by omega)⟩,⟨g12.mono (by omega) fun i hv hi=>?_,lw l12 (by omega)⟩,⟨g13.mono (by omega) fun i hv hi=>?_,lw l13 (by omega)⟩,⟨?_,lz z14 (by omega)⟩,?_⟩⟩
 ·rw[f0 i (by omega) (by omega) (by omega) (by omega),o1 i (by omega),kU.obj i hi]
 ·exact ao7 g6 (by omega) fun i k hv hi=>by
   rcases z6 with z|⟨k2,z⟩
   ·rw[z] at hv; cases hv
   ·rw[z] at hv; cases hv;exact f0 _ hi (by omega) (by omega) (by omega)
 ·have:=l7 i _ _ hv;exact f1 i hi (by omega) (by omega) (by omega)
 ·have:=l8 i _ _ hv;exact f2 i hi (by omega) (by omega) (by omega)
 ·exact ao7 g9 (by omega) fun i k hv hi=>by
   rcases z9 with z|⟨k2,z⟩
   ·rw[z] at hv; cases hv
   ·rw[z] at hv; cases hv;exact f3 _ hi (by omega) (by omega)
 ·have:=l10 i _ _ hv;exact f4 i hi (by omega) (by omega)
 ·have:=l11 i _ _ hv;exact f5 i hi (by omega) (by omega)
 ·have:=l12 i _ _ hv;exact f6 i hi (by omega) (by omega)
 ·have:=l13 i _ _ hv;exact f7 i (by omega) (by omega)
 ·exact ao7 g14 (by omega) fun i k hv hi=>by
   rcases z14 with z|⟨k2,z⟩
   ·rw[z] at hv; cases hv
   ·rw[z] at hv; cases hv;exact f8 _ (by omega)
 ·have hz:∀ {v:IV} {m e0 i k e:Nat},(v=.ab4∨∃ k,v=.slice m 0 k e0)→v=.slice i 0 k e→i=m:=fun {v m e0 i k e} hv h=>by
   rcases hv with hv|⟨k2,hv⟩
   ·rw[hv] at h; cases h
   ·rw[hv] at h; cases h; rfl
  have hb7:∀ i k e,v7=.slice i 0 k e→i<s1.next:=fun i k e h=>by
   rcases g7 with ⟨h0,_⟩|⟨id,h0,_,hid⟩
   ·rw[h0] at h; cases h
   ·rw[h0] at h; cases h; exact hid
  intro v hv i k e he
  have hi:s1.next≤i∨i=σ.next+1+21∨i=σ.next+1+37:=by
   simp only[List.mem_cons,List.not_mem_nil,or_false] at hv;rcases hv with rfl|rfl|rfl|rfl|rfl|rfl|rfl
   ·exact .inl (l8 _ _ _ he)
   ·exact .inr (.inl (hz z9 he))
   ·have:=l10 _ _ _ he; omega
   ·have:=l11 _ _ _ he; omega
   ·have:=l12 _ _ _ he; omega
   ·have:=l13 _ _ _ he; omega
   ·exact .inr (.inr (hz z14 he))
  exact ⟨fun k' e' h=>by have:=hz z6 h; omega,fun k' e' h=>by have:=hb7 _ _ _ h; have:=l7 _ _ _ h; omega⟩
set_option maxHeartbeats 1000000
theorem cz7 {s:Store}{v:IV}{e:Nat}{es:List (List IV)}(h:Grow s v e es):∀ i k e',v=.slice i 0 k e'→i<s.next:=fun i k e' hv=>by
 rcases h with ⟨h0,_⟩|⟨id,h0,_,hid⟩
 ·rw[h0] at hv; cases hv
 ·rw[h0] at hv; cases hv; exact hid
theorem fw5 {s:Store}{v:IV}{e:Nat}{es:List (List IV)}(h:au4 s v e es):∀ i k e',v=.slice i 0 k e'→i<s.next:=fun i k e' hv=>by
 rcases h with h|⟨h0,_⟩
 ·exact cz7 h i k e' hv
 ·rw[h0] at hv; cases hv
def isI (v:IV)(i:Nat):Bool:=match v with
 | .slice j _ _ _=>decide (i=j)
 | _=>false
theorem fh6 {v:IV}{i:Nat}(hv:∀ k e,v≠.slice i 0 k e)(h0:v.leaf=true)(h:(∃ s es e,au4 s v e es)):isI v i=false:=by
 obtain ⟨s,es,e,(⟨rfl,_⟩|⟨id,rfl,_,_⟩)|⟨rfl,_⟩⟩:=h
 ·rfl
 ·show decide (i=id)=false;exact decide_eq_false fun e2=>hv _ _ (by rw[e2])
 ·rfl
theorem dx4 (p:aa3)(hf:p.Fit)(σ:Store):C Tryd.prog EE 6 [.agg p.cs] σ fun v s=>∃ v6 v7,v=.agg (cellsE (p,v6,v7))∧Kept σ s∧(au4 s v6 5 (p.provides.map Dep.cs)∧an1 σ.next v6)∧(Grow s v7 7 (p.requires.map aa8.cs)∧an1 σ.next v7):=by
 refine hj4 (fw4 p hf σ) ?_;rintro v s ⟨v6,v7,v8,v9,v10,v11,v12,v13,v14,rfl,h⟩;have lf6:=(av7 h.g6.1).1;have lf7:=(ad8 h.g7.1).1;refine ⟨fun i=>decide (i<σ.next)||(isI v6 i||isI v7 i),.agg (cellsE (p,v6,v7)),?_,v6,v7,rfl,⟨h.kept.next,fun i hi=>?_⟩,⟨ao7 h.g6.1 (Nat.le_refl _) fun i k hv _=>?_,h.g6.2⟩,⟨h.g7.1.mono (Nat.le_refl _) fun i hv _=>?_,h.g7.2⟩⟩
 ·have nk:∀ {v:IV},v∈[v8,v9,v10,v11,v12,v13,v14]→an1 σ.next v→∀ i k e,v=.slice i 0 k e→¬ (decide (i<σ.next)||(isI v6 i||isI v7 i))=true:=fun {v} hv hl i k e he=>by
   have h1:¬ i<σ.next:=Nat.not_lt.2 (hl i k e he);have h2:=h.sep v hv i k e he;have h3:=fh6 h2.1 lf6 ⟨_,_,_,h.g6.1⟩;have h4:=fh6 h2.2 lf7 ⟨_,_,_,.inl h.g7.1⟩;simp[h1,h3,h4]
  have wk:∀ {c:IV},Bnd 0 c→Nm (fun i=>(decide (i<σ.next)||(isI v6 i||isI v7 i))=true) c:=fun h=>h.weak fun i h=>absurd h (Nat.not_lt_zero _)
  have fR:∀ {v:IV} {l:List aa8},Grow s v 7 (l.map aa8.cs)∧an1 σ.next v→v∈[v8,v9,v10,v11,v12,v13,v14]→Frz s (fun i=>(decide (i<σ.next)||(isI v6 i||isI v7 i))=true) v (ab7 l):=fun {v l} h hm=>h.1.frz (fun x hx=>(af5 _ x hx).1) (fun i hv=>nk hm h.2 i _ _ hv) fun e he c hc=>wk (ac7 (ad2 l) e he c hc)
  have fD:∀ {v:IV} {l:List Dep},au4 s v 5 (l.map Dep.cs)∧an1 σ.next v→v∈[v8,v9,v10,v11,v12,v13,v14]→Frz s (fun i=>(decide (i<σ.next)||(isI v6 i||isI v7 i))=true) v (deps l):=fun {v l} h hm=>by
   rcases h.1 with h1|⟨h1,h3⟩
   ·exact h1.frz (bg5 _) (fun i hv=>nk hm h.2 i _ _ hv) fun e he c hc=>wk (ac7 (ak3 l) e he c hc)
   ·rw[h1];show Frz s _ .ab4 (.aa4 (l.map Dep.cs));rw[h3]; exact .zs
  have fS:∀ {v:IV} {l:List Str},au4 s v 1 (l.map ap4)∧an1 σ.next v→v∈[v8,v9,v10,v11,v12,v13,v14]→Frz s (fun i=>(decide (i<σ.next)||(isI v6 i||isI v7 i))=true) v (strs l):=fun {v l} h hm=>by
   rcases h.1 with h1|⟨h1,h3⟩
   ·exact h1.frz (fh2 _) (fun i hv=>nk hm h.2 i _ _ hv) fun e he c hc=>wk (ac7 (an5 l) e he c hc)
   ·rw[h1];show Frz s _ .ab4 (.aa4 (l.map ap4));rw[h3]; exact .zs
  have k6:Frz s (fun i=>(decide (i<σ.next)||(isI v6 i||isI v7 i))=true) v6 v6:=by
   rcases h.g6.1 with (⟨rfl,_⟩|⟨id,rfl,_,_⟩)|⟨rfl,_⟩
   ·exact .keep _ .aa1
   ·exact .keep _ (.slice _ _ _ _ (by simp[isI]))
   ·exact .keep _ .ab4
  have k7:Frz s (fun i=>(decide (i<σ.next)||(isI v6 i||isI v7 i))=true) v7 v7:=by
   rcases h.g7.1 with ⟨rfl,_⟩|⟨id,rfl,_,_⟩
   ·exact .keep _ .aa1
   ·exact .keep _ (.slice _ _ _ _ (by simp[isI]))
  have bi:∀ k n,Frz s (fun i=>(decide (i<σ.next)||(isI v6 i||isI v7 i))=true) (.int k n) (.int k n):=fun _ _=>.keep _ (.int _ _)
  have bs:∀ n,Frz s (fun i=>(decide (i<σ.next)||(isI v6 i||isI v7 i))=true) (.str n) (.str n):=fun _=>.keep _ (.str _)
  exact .gk2 (.cons (bs _) (.cons (bi _ _) (.cons (bs _) (.cons (bs _) (.cons (bi _ _) (.cons (bs _) (.cons k6 (.cons k7 (.cons (fR h.g8 (by simp)) (.cons (fD h.g9 (by simp)) (.cons (fR h.g10 (by simp)) (.cons (fR h.g11 (by simp)) (.cons (fR h.g12 (by simp)) (.cons (fR h.g13 (by simp)) (.cons (fS h.g14 (by simp)) .nil)))))))))))))))
 ·show (if (decide (i<σ.next)||_)=true then s.obj i else none)=_;rw[decide_eq_true hi,Bool.true_or,if_pos rfl,h.kept.obj i hi]
 ·show (if (decide (i<σ.next)||(isI v6 i||isI v7 i))=true then s.obj i else none)=_;rw[if_pos (by rw[hv]; simp[isI])]
 ·show (if (decide (i<σ.next)||(isI v6 i||isI v7 i))=true then s.obj i else none)=_;rw[if_pos (by rw[hv]; simp[isI])]
theorem di5 (p:aa3)(hf:p.Fit):PC Tryd.prog EE 6 [.agg p.cs] (.agg p.cs):=by
 refine gc1 fun σ _=>(dx4 p hf σ).mono ?_
 rintro v t ⟨v6,v7,rfl,hk,⟨g6,l6⟩,g7,l7⟩;refine ⟨hk.obj,hk.next,?_⟩;have wk:∀ {c:IV},Bnd 0 c→Nm (fun i=>i<σ.next) c:=fun h=>h.weak fun i h=>absurd h (Nat.not_lt_zero _)
 have f6:bm9 t σ.next v6 (deps p.provides):=by
  rcases g6 with h1|⟨h1,h3⟩
  ·exact h1.frz (bg5 _) (fun i hv=>Nat.not_lt.2 (l6 i _ _ hv)) fun e he c hc=>wk (ac7 (ak3 _) e he c hc)
  ·rw[h1];show Frz t _ .ab4 (.aa4 (p.provides.map Dep.cs));rw[h3]; exact .zs
 have f7:bm9 t σ.next v7 (ab7 p.requires):=g7.frz (fun x hx=>(af5 _ x hx).1) (fun i hv=>Nat.not_lt.2 (l7 i _ _ hv)) fun e he c hc=>wk (ac7 (ad2 _) e he c hc)
 have b1:=fun v hv=>Frz.keep (σ:=t) (S:=fun i=>i<σ.next) v (wk hv)
 exact .gk2 (.cons (ag7 _) (.cons (ac8 _ _) (.cons (ag7 _) (.cons (ag7 _) (.cons (ac8 _ _) (.cons (ag7 _) (.cons f6 (.cons f7 (.cons (b1 _ (ad2 _)) (.cons (b1 _ (ak3 _)) (.cons (b1 _ (ad2 _)) (.cons (b1 _ (ad2 _)) (.cons (b1 _ (ad2 _)) (.cons (b1 _ (ad2 _)) (.cons (b1 _ (an5 _)) .nil)))))))))))))))
structure fw6 (lo:Nat) (s:Store) (p:aa3) (v6 v7 v8 v9 v10 v11 v12 v13 v14:IV):Prop where
 g6:Grow s v6 5 (p.provides.map Dep.cs)∧an1 lo v6
 g7:Grow s v7 7 (p.requires.map aa8.cs)∧an1 lo v7
 g8:Grow s v8 7 (p.conflicts.map aa8.cs)∧an1 lo v8
 g9:Grow s v9 5 (p.ab9.map Dep.cs)∧an1 lo v9
 g10:Grow s v10 7 (p.aa7.map aa8.cs)∧an1 lo v10
 g11:Grow s v11 7 (p.aa5.map aa8.cs)∧an1 lo v11
 g12:Grow s v12 7 (p.suggests.map aa8.cs)∧an1 lo v12
 g13:Grow s v13 7 (p.ab2.map aa8.cs)∧an1 lo v13
 g14:Grow s v14 1 (p.files.map ap4)∧an1 lo v14
theorem fw6.mono {lo lo':Nat}{s t:Store}{p:aa3}{v6 v7 v8 v9 v10 v11 v12 v13 v14:IV}(h:fw6 lo s p v6 v7 v8 v9 v10 v11 v12 v13 v14)(hn:s.next≤t.next)(ho:∀ i,lo≤i→t.obj i=s.obj i)(hl:lo'≤lo):fw6 lo' t p v6 v7 v8 v9 v10 v11 v12 v13 v14:=by
 have lw:∀ {v:IV},an1 lo v→an1 lo' v:=fun h i k e hv=>Nat.le_trans hl (h i k e hv)
 exact ⟨⟨h.g6.1.mono hn fun i hv _=>ho i (h.g6.2 i _ _ hv),lw h.g6.2⟩,⟨h.g7.1.mono hn fun i hv _=>ho i (h.g7.2 i _ _ hv),lw h.g7.2⟩,⟨h.g8.1.mono hn fun i hv _=>ho i (h.g8.2 i _ _ hv),lw h.g8.2⟩,⟨h.g9.1.mono hn fun i hv _=>ho i (h.g9.2 i _ _ hv),lw h.g9.2⟩,⟨h.g10.1.mono hn fun i hv _=>ho i (h.g10.2 i _ _ hv),lw h.g10.2⟩,⟨h.g11.1.mono hn fun i hv _=>ho i (h.g11.2 i _ _ hv),lw h.g11.2⟩,⟨h.g12.1.mono hn fun i hv _=>ho i (h.g12.2 i _ _ hv),lw h.g12.2⟩,⟨h.g13.1.mono hn fun i hv _=>ho i (h.g13.2 i _ _ hv),lw h.g13.2⟩,⟨h.g14.1.mono hn fun i hv _=>ho i (h.g14.2 i _ _ hv),lw h.g14.2⟩⟩
theorem cz8 (p:Pool)(n:Nat)(h:n<p.rows.length)(hf:p.rows[n].pkg.Fit)(σ:Store):C Tryd.prog EE 8 [p.v,.int .i64 n] σ fun v s=>∃ v6 v7 v8 v9 v10 v11 v12 v13 v14,v=.tuple [.agg (an6 p.rows[n].pkg v6 v7 v8 v9 v10 v11 v12 v13 v14),.int .i64 0]∧σ.next≤s.next∧fw6 σ.next s p.rows[n].pkg v6 v7 v8 v9 v10 v11 v12 v13 v14:=by
 refine C_f fok8 (nZ rfl) ?_;have c1:(n:Int)<p.rows.length:=by omega
 have c2:(0:Int)≤n:=by omega
 have hg:(p.rows.map av6.cs).getD n []=p.rows[n].cs:=by simp[List.getD_eq_getElem?_getD,h]
 simp only[ic8,go_sem,Pool.v];refine ac2 fok21 (fh1 p.rows n) ?_;simp only[go_sem,c1,c2,hg,az6,fv8];have hcp:=fun σ=>dh5 p.rows[n].pkg hf σ _ _ (.inl rfl) (.inl rfl)
 refine ae3 fok22 (hcp _) ?_;rintro v s ⟨v6,v7,v8,v9,v10,v11,v12,v13,v14,rfl,hc⟩;have c6:=ad8 hc.g6.1;have c7:=ad8 hc.g7.1;have c8:=ad8 hc.g8.1;have c9:=ad8 hc.g9.1;have c10:=ad8 hc.g10.1;have c11:=ad8 hc.g11.1;have c12:=ad8 hc.g12.1;have c13:=ad8 hc.g13.1;have c14:=ad8 hc.g14.1;refine ⟨hc.kept.next,?_⟩
 have hb:s.obj σ.next=some (.cells ag8):=by
  rw[hc.kept.obj _ (Nat.lt_succ_self _)]; simp only[aa2,if_true]; rfl
 simp only[go_sem,hb,an6,c6.1,c7.1,c8.1,c9.1,c10.1,c11.1,c12.1,c13.1,c14.1,ag8];refine ⟨v6,v7,v8,v9,v10,v11,v12,v13,v14,rfl,Nat.le_trans (Nat.le_succ _) hc.kept.next,?_⟩;exact fw6.mono (lo:=σ.next+1) (s:=s) ⟨hc.g6,hc.g7,hc.g8,hc.g9,hc.g10,hc.g11,hc.g12,hc.g13,hc.g14⟩ (Nat.le_refl _) (fun i hi=>by rw[aa2,if_neg (by omega)]) (Nat.le_succ _)
/-! ### A set of names -/
structure MS (s:Store) (tag:Nat→Nat) (c mid:Nat) (L:NmL) (B:Nat):Prop where
 map:s.obj mid=some (.map (mEs L))
 row:∀ t∈L,s.obj t.2.2=some (.row (t.2.1.map Md.ar1).flatten)∧t.2.2<s.next∧t.2.1.length≤B
 fh8:∀ t∈L,tag t.2.2=c
 ids:(L.map (·.2.2)).Nodup
 keys:(L.map (·.1)).Nodup
 lt:mid<s.next
 gs2:tag mid=c
theorem MS.keep {s s':Store}{tag tag':Nat→Nat}{c mid:Nat}{L:NmL}{B B':Nat}(h:MS s tag c mid L B)(hB:B≤B')(hn:s.next≤s'.next)(ho:∀ i,i<s.next→tag i=c→s'.obj i=s.obj i)(ht:∀ i,i<s.next→tag' i=tag i):MS s' tag' c mid L B' where
 map:=by rw[ho _ h.lt h.gs2]; exact h.map
 row:=fun t m=>⟨by rw[ho _ (h.row t m).2.1 (h.fh8 t m)]; exact (h.row t m).1,by have:=(h.row t m).2.1; omega,by have:=(h.row t m).2.2; omega⟩
 fh8:=fun t m=>by rw[ht _ (h.row t m).2.1]; exact h.fh8 t m
 ids:=h.ids
 keys:=h.keys
 lt:=by have:=h.lt; omega
 gs2:=by rw[ht _ h.lt]; exact h.gs2
def gr9 (tag:Nat→Nat)(c nid:Nat):Nat→Nat:=fun i=>if i=nid then c else tag i
theorem by2 {tag:Nat→Nat}{c nid n:Nat}(h:n≤nid):∀ i,i<n→gr9 tag c nid i=tag i:=fun i hi=>by
 unfold gr9; rw[if_neg (by omega)]
theorem MS.cur {s:Store}{tag:Nat→Nat}{c mid:Nat}{L:NmL}{B:Nat}(h:MS s tag c mid L B)(k:Str)(m:Nat)(hm:s.next≤m):Grow ⟨m,s.obj⟩ (ch4 L k) 1 ((cr5 L k).map Md.ar1)∧(cr5 L k).length≤B:=by
 rcases bg1 L k with ⟨h1,h2⟩|⟨t,ht,_,h1,h2⟩
 ·rw[h1,h2]; exact ⟨.inl ⟨rfl,rfl⟩,Nat.zero_le _⟩
 ·rw[h1,h2]; exact ⟨.inr ⟨t.2.2,by rw[List.length_map],(h.row t ht).1,by have:=(h.row t ht).2.1; show t.2.2<m; omega⟩,(h.row t ht).2.2⟩
theorem MS.upd {s:Store}{tag:Nat→Nat}{c mid:Nat}{L:NmL}{B:Nat}(h:MS s tag c mid L B)(k:Str)(n:Int)(m nid:Nat)(hm:s.next≤m)(hnew:s.next≤nid)(hb:B<2^30) :
  ∃ s1,aw1 ⟨m,s.obj⟩ nid 1 (ch4 L k) (.aa4 [[.int .i64 n]])=some (.slice nid 0 ((cr5 L k).length+1) 1,s1)∧s1.next=m∧s1.obj mid=some (.map (mEs L))∧(∀ i o,i<s.next→s.obj i=some o→(∀ cs,o≠.row cs)→s1.obj i=some o) ∧
   ∀ nx,nid<nx→MS ⟨nx,(s1.put mid (.map (mEs (ba1 L k n nid)))).obj⟩ (gr9 tag c nid) c mid (ba1 L k n nid) (B+1)∧∀ i,i<s.next→tag i≠c→(s1.put mid (.map (mEs (ba1 L k n nid)))).obj i=s.obj i:=by
 obtain ⟨hg,hlen⟩:=h.cur k m hm;have hap:=ap2 (nid:=nid) (e:=[.int .i64 n]) hg (cf7 _) ⟨rfl,rfl⟩ (by rw[List.length_map]; omega);rw[List.length_map] at hap;have hlt:=h.lt;have hmid:¬ mid=nid:=by omega
 have kother:∀ i,(∀ t∈L,t.1=k→t.2.2≠i)→(an4 (ch4 L k) ⟨m,s.obj⟩).obj i=s.obj i:=by
  intro i hne;rcases bg1 L k with ⟨h1,_⟩|⟨t,ht,hk,h1,_⟩
  ·rw[h1]; rfl
  ·rw[h1];show (if i=t.2.2 then none else s.obj i)=_;rw[if_neg (fun e=>hne t ht hk e.symm)]
 have hrow_ne_mid:∀ i cs,s.obj i=some (.row cs)→¬ i=mid:=fun i cs hi e=>by subst e; rw[h.map] at hi; cases hi
 refine ⟨_,hap,by rw[ac4,ai9],?_,?_,fun nx hnx=>⟨?_,?_⟩⟩
 ·rw[aa2,if_neg hmid]; exact ai5 hg mid _ h.map (fun _ e=>by cases e)
 ·intro i o hi ho hr;rw[aa2,if_neg (by omega)]; exact ai5 hg i _ ho hr
 ·exact {
   map:=by
    show (if mid=mid then _ else _)=_;rw[if_pos rfl]
   row:=by
    intro t ht;rcases cf3 h.keys t ht with ⟨h1,h2⟩|rfl
    ·obtain ⟨r1,r2,r3⟩:=h.row t h1;refine ⟨?_,by show t.2.2<nx; omega,by omega⟩;show (if t.2.2=mid then _ else if t.2.2=nid then _ else (an4 (ch4 L k) ⟨m,s.obj⟩).obj t.2.2)=_;rw[if_neg (hrow_ne_mid _ _ r1),if_neg (by omega),kother _ fun u hu hk e=>h2 (by rw[← fe2 h.keys h.ids u hu t h1 e]; exact hk)];exact r1
    ·refine ⟨?_,hnx,?_⟩
     ·show (if nid=mid then _ else if nid=nid then _ else _)=_;rw[if_neg (fun e=>hmid e.symm),if_pos rfl,List.map_append];rfl
     ·show (cr5 L k++[n]).length≤B+1;rw[List.length_append]; simp; exact hlen
   fh8:=by
    intro t ht;rcases cf3 h.keys t ht with ⟨h1,h2⟩|rfl
    ·rw[by2 hnew _ (h.row t h1).2.1]; exact h.fh8 t h1
    ·unfold gr9; rw[if_pos rfl]
   ids:=(fe1 L h.ids (fun hm=>by
    obtain ⟨t,ht,e⟩:=List.mem_map.1 hm;have:=(h.row t ht).2.1;have e':t.2.2=nid:=e;omega)).1
   keys:=(dv4 L h.keys).1
   lt:=by show mid<nx; omega
   gs2:=by rw[by2 hnew _ h.lt]; exact h.gs2 }
 ·intro i hi hc;show (if i=mid then _ else if i=nid then _ else (an4 (ch4 L k) ⟨m,s.obj⟩).obj i)=_;rw[if_neg (fun e=>hc (by rw[e]; exact h.gs2)),if_neg (by omega),kother _ fun t ht _ e=>hc (by rw[← e]; exact h.fh8 t ht)]
theorem MS.frz {s:Store}{tag:Nat→Nat}{c mid:Nat}{L:NmL}{B:Nat}(h:MS s tag c mid L B){nm:Nms}(hp:(ax9 L).Perm nm):bm9 s 0 (.map mid) (.al5 (nmV nm)):=by
 have hat:∀ i,i<(mEs L).length→∃ t∈L,(mEs L).getD i (.undef,.undef)=(.str t.1,.slice t.2.2 0 t.2.1.length 1)∧(nmV (ax9 L)).getD i (.undef,.undef)=(.str t.1,.aa4 (t.2.1.map Md.ar1)):=by
  intro i hi;have hi':i<L.length:=by simpa [mEs] using hi
  exact ⟨L[i],List.getElem_mem hi',by simp[mEs,List.getD_eq_getElem?_getD,hi'],by simp[nmV,ax9,List.getD_eq_getElem?_getD,hi']⟩
 have hkn:KN nm:=KN.perm (nm:=ax9 L) (by show ((ax9 L).map (·.1)).Nodup; unfold ax9; rw[List.map_map]; exact h.keys) hp;refine .map mid (mEs L) (nmV (ax9 L)) (nmV nm) (Nat.not_lt_zero _) h.map (by simp[nmV,ax9,mEs]) (hp.map _) ⟨?_,.str,fun e he=>?_⟩ (fun i hi=>?_) (fun i hi=>?_)
 ·have:(nmV nm).map (·.1)=(nm.map (·.1)).map IV.str:=by simp[nmV]
  rw[this];exact List.Pairwise.map _ (fun a b hab e=>hab (by cases e; rfl)) hkn
 ·simp only[nmV,List.mem_map] at he;obtain ⟨t,_,rfl⟩:=he;trivial
 ·obtain ⟨t,ht,e1,e2⟩:=hat i hi;rw[e1,e2]; exact ag7 _
 ·obtain ⟨t,ht,e1,e2⟩:=hat i hi;rw[e1,e2];obtain ⟨r1,r2,_⟩:=h.row t ht;have hg:Grow s (.slice t.2.2 0 t.2.1.length 1) 1 (t.2.1.map Md.ar1):=.inr ⟨t.2.2,by rw[List.length_map],r1,r2⟩;refine hg.frz (fun x hx=>(cf7 _ x hx).1) (fun _ _=>Nat.not_lt_zero _) fun e he c hc=>?_
  obtain ⟨n,_,rfl⟩:=List.mem_map.1 he
  cases hc with
  | head=>exact .int _ _
  | tail _ h=>cases h
structure IS (s:Store) (pp m1 m2 m3:Nat) (all:List aa3) (rv:IV) (L1 L2 L3:NmL) (tag:Nat→Nat) (B:Nat):Prop where
 cell:s.obj pp=some (.cells [rv,.map m1,.map m2,.map m3])
 ltp:pp<s.next
 grow:Grow s rv 15 (all.map aa3.cs)
 fh8:∀ id n,rv=.slice id 0 n 15→tag id=0
 m1:MS s tag 1 m1 L1 B
 m2:MS s tag 2 m2 L2 B
 m3:MS s tag 3 m3 L3 B
 hj7:tag pp=4
theorem IS.mono {s s':Store}{pp m1 m2 m3:Nat}{all:List aa3}{rv:IV}{L1 L2 L3:NmL}{tag:Nat→Nat}{B B':Nat}(h:IS s pp m1 m2 m3 all rv L1 L2 L3 tag B)(hB:B≤B')(hn:s.next≤s'.next)(ho:∀ i,i<s.next→s'.obj i=s.obj i):IS s' pp m1 m2 m3 all rv L1 L2 L3 tag B' where
 cell:=by rw[ho _ h.ltp]; exact h.cell
 ltp:=by have:=h.ltp; omega
 grow:=h.grow.mono hn fun id _ hid=>ho id hid
 fh8:=h.fh8
 m1:=h.m1.keep hB hn (fun i hi _=>ho i hi) fun _ _=>rfl
 m2:=h.m2.keep hB hn (fun i hi _=>ho i hi) fun _ _=>rfl
 m3:=h.m3.keep hB hn (fun i hi _=>ho i hi) fun _ _=>rfl
 hj7:=h.hj7
theorem fh7 (l:List aa3):∀ e∈l.map aa3.cs,e.length=15∧e.all IV.leaf=true:=fun e he=>by
 obtain ⟨x,_,rfl⟩:=List.mem_map.1 he;exact ⟨ak2 x,ad9 x⟩
theorem IS.push {s:Store}{pp m1 m2 m3:Nat}{all:List aa3}{rv:IV}{L1 L2 L3:NmL}{tag:Nat→Nat}{B:Nat}(h:IS s pp m1 m2 m3 all rv L1 L2 L3 tag B)(x:aa3)(m nid:Nat)(hm:s.next≤m)(hnew:s.next≤nid)(hb:all.length<2^30) :
  ∃ s1,aw1 ⟨m,s.obj⟩ nid 15 rv (.aa4 [x.cs])=some (.slice nid 0 (all.length+1) 15,s1)∧s1.next=m∧s1.obj pp=s.obj pp∧(∀ i o,i<s.next→s.obj i=some o→(∀ cs,o≠.row cs)→s1.obj i=some o) ∧
   ∀ nx,nid<nx→IS ⟨nx,(s1.put pp (.cells [.slice nid 0 (all.length+1) 15,.map m1,.map m2,.map m3])).obj⟩ pp m1 m2 m3 (all++[x]) (.slice nid 0 (all.length+1) 15) L1 L2 L3 (gr9 tag 0 nid) B:=by
 have hg:Grow ⟨m,s.obj⟩ rv 15 (all.map aa3.cs):=Grow.mono (σ:=s) h.grow hm fun _ _ _=>rfl
 have hap:=ap2 (nid:=nid) (e:=x.cs) hg (fh7 all) ⟨ak2 x,ad9 x⟩ (by rw[List.length_map]; omega);rw[List.length_map] at hap;have hlt:=h.ltp;have hpp:¬ pp=nid:=by omega
 have kp:=ai5 hg pp _ h.cell (fun _ e=>by cases e)
 have kk:∀ i,i<s.next→tag i≠0→tag i≠4→((an4 rv ⟨m,s.obj⟩).put nid (.row (all.map aa3.cs++[x.cs]).flatten) |>.put pp (.cells [.slice nid 0 (all.length+1) 15,.map m1,.map m2,.map m3])).obj i=s.obj i:=by
  intro i hi h0 h4;show (if i=pp then _ else if i=nid then _ else (an4 rv ⟨m,s.obj⟩).obj i)=_;rw[if_neg (fun e=>h4 (by rw[e]; exact h.hj7)),if_neg (by omega)];rcases h.grow with ⟨hv,_⟩|⟨id,hv,ho,hl⟩
  ·rw[hv]; rfl
  ·have ht:=h.fh8 id _ hv;rw[hv];show (if i=id then none else s.obj i)=_;rw[if_neg (fun e=>h0 (by rw[e]; exact ht))]
 refine ⟨_,hap,by rw[ac4,ai9],by rw[aa2,if_neg hpp,kp,h.cell],?_,fun nx hnx=>?_⟩
 ·intro i o hi ho hr;rw[aa2,if_neg (by omega)]; exact ai5 hg i _ ho hr
 ·exact {
   cell:=by
    show (if pp=pp then _ else _)=_;rw[if_pos rfl]
   ltp:=by show pp<nx; omega
   grow:=by
    refine .inr ⟨nid,by rw[List.map_append,List.length_append,List.length_map]; rfl,?_,hnx⟩;show (if nid=pp then _ else if nid=nid then _ else _)=_;rw[if_neg (fun e=>hpp e.symm),if_pos rfl,List.map_append]; rfl
   fh8:=fun id n hv=>by cases hv; unfold gr9; rw[if_pos rfl]
   m1:=h.m1.keep (Nat.le_refl _) (by show s.next≤nx; omega) (fun i hi e=>kk i hi (by rw[e]; decide) (by rw[e]; decide)) (by2 hnew)
   m2:=h.m2.keep (Nat.le_refl _) (by show s.next≤nx; omega) (fun i hi e=>kk i hi (by rw[e]; decide) (by rw[e]; decide)) (by2 hnew)
   m3:=h.m3.keep (Nat.le_refl _) (by show s.next≤nx; omega) (fun i hi e=>kk i hi (by rw[e]; decide) (by rw[e]; decide)) (by2 hnew)
   hj7:=by rw[by2 hnew _ h.ltp]; exact h.hj7 }
theorem IS.frz {s:Store}{pp m1 m2 m3:Nat}{all:List aa3}{rv:IV}{L1 L2 L3:NmL}{tag:Nat→Nat}{B:Nat}(h:IS s pp m1 m2 m3 all rv L1 L2 L3 tag B){x:Index}(h0:x.all=all)(h1:(ax9 L1).Perm x.aw3)(h2:(ax9 L2).Perm x.names)(h3:(ax9 L3).Perm x.over):bm9 s 0 (.ptr pp 0) x.v:=by
 subst h0;refine .ptr pp 0 _ _ (Nat.not_lt_zero _) (.inl h.cell) (Nat.le_refl _) fun j hj=>?_
 have hj3:j=0∨j=1∨j=2∨j=3:=by simp only[List.length_cons,List.length_nil] at hj; omega
 rcases hj3 with rfl|rfl|rfl|rfl
 ·refine h.grow.frz (fun x hx=>(fh7 _ x hx).1) (fun _ _=>Nat.not_lt_zero _) fun e he c hc=>?_
  obtain ⟨r,_,rfl⟩:=List.mem_map.1 he;exact bx8 r c hc
 ·exact h.m1.frz h1
 ·exact h.m2.frz h2
 ·exact h.m3.frz h3
theorem ct3 {α:Type}:∀ (l:List α) (k:Nat) (h:k<l.length),l.Perm (l[k]::l.eraseIdx k)
 | [],k,h=>by simp at h
 | a::l,0,_=>.refl _
 | a::l,k+1,h=>((ct3 l k (by simpa using h)).cons a).trans (.swap _ _ _)
theorem ie7 {s:Store}{id:Nat}{l:List (IV×IV)}{c:Option (IV×IV)}(h:s.obj id=some (.ai8 l c)):aq8 s (.ptr id 0)=some (id,l):=by simp only[aq8,h]
theorem hj5 {s:Store}{id:Nat}{l:List (IV×IV)}{c:IV×IV}(h:s.obj id=some (.ai8 l (some c))):ba5 s (.ptr id 0)=some (.tuple [c.1,c.2]):=by simp only[ba5,h]
def fzN:Nat→Nat→List Nat:=fun _ _=>[]
noncomputable abbrev ie8 (M:du3)(d k:Nat)(az:List IV):Option IV:=(eb2 (tabOf tabT (fun _=>true) (fq2 85 M) fzN) EE 100000 d 0 k az ⟨0,.e⟩).map (·.1)
abbrev MK:=MOK Tryd.prog EE
theorem ie9 {k:Nat}{M:du3}{az:List IV}{v:IV}(d:Nat)(hM:MK M)(hk:okF Tryd.prog k=true)(h:ie8 M d k az=some v):MK ((k,az,v)::M):=by
 unfold ie8 at h;rw[gh6] at h;exact fq3 tabT_ok fok85 rfl hE hk hM h
theorem hj6 {k:Nat}{M:du3}{az:List IV}{v:IV}(d:Nat)(hM:MK M)(hk:okF Tryd.prog k=true)(h:ie8 M d k az=some v):PC Tryd.prog EE k az v :=
 (ie9 d hM hk h _ (List.mem_cons_self ..)).2
theorem cb7:PC Tryd.prog EE 5 [] (.bool true):=hj6 60 .nil (by kernel_rfl) (by kernel_rfl)
end Go.Id.Tryd
