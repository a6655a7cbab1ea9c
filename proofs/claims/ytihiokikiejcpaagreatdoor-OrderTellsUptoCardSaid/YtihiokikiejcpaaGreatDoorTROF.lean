/- Who needs whom,at once and by some way: walked. Conditions: packages that may be,and fit; numbers that there are,each once. -/
import Derived.Test.YtihiokikiejcpaaGreatDoorTROD
import Derived.Test.YtihiokikiejcpaaGreatDoorTRUE
import Derived.Test.YtihiokikiejcpaaGreatDoorMv
import Derived.Test.YtihiokikiejcpaaGreatDoorFwZb
import Derived.Test.YtihiokikiejcpaaGreatDoorTRTS
set_option linter.all false
namespace Go.Id.Tryz
open Go Go.Id Go.Proofs Go.Shelf Go.Id.Md
set_option maxRecDepth 100000
set_option maxHeartbeats 1000000
def gt7:IC :=
 (.seq
 (.reg 0 [oK 4 (.alloc [.ae1,.ae1])] [0,1,4])
 (.seq
 (.reg 1 [oK 17 .bg3,oK 18 .bg3,oQ 19 (.bld [.ae1,.ae1] [⟨0,⟨1,(.t 17)⟩⟩,⟨1,⟨1,(.t 18)⟩⟩]),oK 5 (.alloc [.ae1,.ae1]),oN (.store 2 (.t 5) (.t 19))] [0,1,4,5])
 (.seq
 (.seq
 (.reg 2 [oM 20 (.t 1),oQ 21 (.len 0 (.t 20)),oM 22 (cI 0)] [0,1,4,5,20,21,22])
 (.block 0
 (.loop
 (.seq
 (.reg 3 [oQ 23 (.bin .lss (.t 22) (.t 21))] [0,1,4,5,20,21,22,23])
 (.seq
 (.cond (.t 23)
 .skip
 (.exit 0))
 (.seq
 (.block 1
 (.seq
 (.reg 4 [oQ 24 (.ab6 1 (.t 20) (.t 22)),oQ 25 (.load none (.t 24)),oM 7 (.t 25)] [0,1,4,5,7,20,21,22])
 (.seq
 (.reg 5 [oK 8 (.alloc [(.int .u64 0),(.int .u64 0),(.int .u64 0),(.int .u64 0)])] [0,1,4,5,7,8,20,21,22])
 (.seq
 (.seq
 (.reg 6 [oM 26 (.t 1),oQ 27 (.len 0 (.t 26)),oM 28 (cI 0)] [0,1,4,5,7,8,20,21,22,26,27,28])
 (.block 2
 (.loop
 (.seq
 (.reg 7 [oQ 29 (.bin .lss (.t 28) (.t 27))] [0,1,4,5,7,8,20,21,22,26,27,28,29])
 (.seq
 (.cond (.t 29)
 .skip
 (.exit 2))
 (.seq
 (.block 3
 (.seq
 (.reg 8 [oQ 30 (.ab6 1 (.t 26) (.t 28)),oQ 31 (.load none (.t 30)),oM 10 (.t 31)] [0,1,4,5,7,8,10,20,21,22,26,27,28])
 (.seq
 (.reg 9 [oM 32 (.t 0),oM 33 (.t 7),oM 34 (.t 10),oK 35 (.call 10 [(.t 32),(.t 33),(.t 34)])] [0,1,4,5,7,8,10,20,21,22,26,27,28,35])
 (.cond (.t 35)
 (.reg 10 [oQ 36 (.load (some 4) (.t 8)),oM 37 (.t 10),oK 38 (.call 31 [(.t 36),(.t 37)]),oN (.store 4 (.t 8) (.t 38))] [0,1,4,5,7,8,20,21,22,26,27,28])
 .skip))))
 (.reg 11 [oQ 39 (.bin .add (.t 28) (cI 1)),oM 28 (.t 39)] [0,1,4,5,7,8,20,21,22,26,27,28])))))))
 (.en3 12 [(0,oQ 40 (.ab1 0 (.t 5)),0),(1,oQ 41 (.load none (.t 40)),0),(2,oM 42 (.t 7),0),(3,oQ 43 (.ab1 1 (.t 5)),0),(4,oQ 44 (.load none (.t 43)),0),(5,oM 45 (.t 7),0),(6,oQ 46 (.load (some 4) (.t 8)),0),(7,oQ 47 (.load (some 4) (.t 8)),0),(8,oN (.cr3 1 (.t 41) (.t 42) (.t 46)),144),(9,oN (.cr3 1 (.t 44) (.t 45) (.t 47)),0)] [0,1,4,5,20,21,22])))))
 (.reg 13 [oQ 48 (.bin .add (.t 22) (cI 1)),oM 22 (.t 48)] [0,1,4,5,20,21,22])))))))
 (.seq
 (.seq
 (.reg 14 [oM 11 (.c (.bool true))] [1,4,5,11])
 (.block 4
 (.loop
 (.seq
 (.seq
 (.reg 15 [oM 49 (.t 11)] [1,4,5,49])
 (.cond (.t 49)
 .skip
 (.exit 4)))
 (.block 5
 (.seq
 (.reg 16 [oM 11 (.c (.bool false))] [1,4,5,11])
 (.seq
 (.reg 17 [oM 50 (.t 1),oQ 51 (.len 0 (.t 50)),oM 52 (cI 0)] [1,4,5,11,50,51,52])
 (.block 6
 (.loop
 (.seq
 (.reg 18 [oQ 53 (.bin .lss (.t 52) (.t 51))] [1,4,5,11,50,51,52,53])
 (.seq
 (.cond (.t 53)
 .skip
 (.exit 6))
 (.seq
 (.block 7
 (.seq
 (.reg 19 [oQ 54 (.ab6 1 (.t 50) (.t 52)),oQ 55 (.load none (.t 54)),oM 13 (.t 55)] [1,4,5,11,13,50,51,52])
 (.seq
 (.reg 20 [oQ 56 (.ab1 1 (.t 5)),oQ 57 (.load none (.t 56)),oM 58 (.t 13),oQ 59 (.lkp 1 (.agg [(.int .u64 0),(.int .u64 0),(.int .u64 0),(.int .u64 0)]) false (.t 57) (.t 58)),oK 14 (.alloc [(.int .u64 0),(.int .u64 0),(.int .u64 0),(.int .u64 0)]),oN (.store 4 (.t 14) (.t 59))] [1,4,5,11,13,14,50,51,52])
 (.seq
 (.seq
 (.reg 21 [oM 60 (.t 1),oQ 61 (.len 0 (.t 60)),oM 62 (cI 0)] [1,4,5,11,13,14,50,51,52,60,61,62])
 (.block 8
 (.loop
 (.seq
 (.reg 22 [oQ 63 (.bin .lss (.t 62) (.t 61))] [1,4,5,11,13,14,50,51,52,60,61,62,63])
 (.seq
 (.cond (.t 63)
 .skip
 (.exit 8))
 (.seq
 (.block 9
 (.seq
 (.reg 23 [oQ 64 (.ab6 1 (.t 60) (.t 62)),oQ 65 (.load none (.t 64)),oM 16 (.t 65)] [1,4,5,11,13,14,16,50,51,52,60,61,62])
 (.seq
 (.reg 24 [oQ 66 (.load (some 4) (.t 14)),oM 67 (.t 16),oK 68 (.call 21 [(.t 66),(.t 67)])] [1,4,5,11,13,14,16,50,51,52,60,61,62,68])
 (.cond (.t 68)
 (.reg 25 [oQ 69 (.load (some 4) (.t 14)),oQ 70 (.ab1 1 (.t 5)),oQ 71 (.load none (.t 70)),oM 72 (.t 16),oQ 73 (.lkp 1 (.agg [(.int .u64 0),(.int .u64 0),(.int .u64 0),(.int .u64 0)]) false (.t 71) (.t 72)),oK 74 (.call 32 [(.t 69),(.t 73)]),oN (.store 4 (.t 14) (.t 74))] [1,4,5,11,13,14,50,51,52,60,61,62])
 .skip))))
 (.reg 26 [oQ 75 (.bin .add (.t 62) (cI 1)),oM 62 (.t 75)] [1,4,5,11,13,14,50,51,52,60,61,62])))))))
 (.seq
 (.reg 27 [oQ 76 (.load (some 4) (.t 14)),oQ 77 (.ab1 1 (.t 5)),oQ 78 (.load none (.t 77)),oM 79 (.t 13),oQ 80 (.lkp 1 (.agg [(.int .u64 0),(.int .u64 0),(.int .u64 0),(.int .u64 0)]) false (.t 78) (.t 79)),oQ 81 (.eqs [1,1,1,1] true true (.t 76) (.t 80))] [1,4,5,11,13,14,50,51,52,81])
 (.cond (.t 81)
 (.seq
 (.reg 28 [oQ 82 (.ab1 1 (.t 5)),oQ 83 (.load none (.t 82)),oM 84 (.t 13),oQ 85 (.load (some 4) (.t 14)),oN (.cr3 1 (.t 83) (.t 84) (.t 85))] [1,4,5,50,51,52])
 (.reg 29 [oM 11 (.c (.bool true))] [1,4,5,11,50,51,52]))
 .skip))))))
 (.reg 30 [oQ 86 (.bin .add (.t 52) (cI 1)),oM 52 (.t 86)] [1,4,5,11,50,51,52])))))))))))))
 (.seq
 (.reg 31 [oQ 87 (.load (some 2) (.t 5)),oN (.store 2 (.t 4) (.t 87))] [4])
 .ret)))))
theorem hi6:FOK Tryz.prog 16 (88,gt7,[(.cell (some 2) 4)]):=ai3 [2000000] Tryz.func16 (by kernel_rfl) (by kernel_rfl) (by kernel_rfl) (by kernel_rfl)
theorem fr5 (s:Nat):aq3 s=[wdV s 0,wdV s 1,wdV s 2,wdV s 3]:=rfl
theorem set0:([.int .u64 0,.int .u64 0,.int .u64 0,.int .u64 0]:List IV)=aq3 0:=by simp[aq3,wdV,wd]
structure Maps (s:Store) (l:List Int) (g1 g2:Int->Nat):Prop where
 box:s.obj 3=some (.cells [.map 1,.map 2])
 nil:s.obj 0=some (.cells [.ae1,.ae1])
 m1:s.obj 1=some (.map (au7 g1 l))
 m2:s.obj 2=some (.map (au7 g2 l))
 next:4<=s.next
theorem Maps.keep {s t:Store}{l:List Int}{g1 g2:Int->Nat}(h:Maps s l g1 g2)(hn:s.next<=t.next)(ho:∀ i,i<4->t.obj i=s.obj i):Maps t l g1 g2 :=
 ⟨by rw[ho 3 (by omega)]; exact h.box,by rw[ho 0 (by omega)]; exact h.nil,by rw[ho 1 (by omega)]; exact h.m1,by rw[ho 2 (by omega)]; exact h.m2,Nat.le_trans h.next hn⟩
theorem fr6 (s t:Nat):ap5 (aq3 s) 0 (aq3 t)=aq3 t:=rfl
theorem fr7 {s t:Nat}(hs:s<2^256)(ht:t<2^256):allEq [1,1,1,1] (aq3 s) (aq3 t)=some (decide (s=t)):=by
 have h:decide (s=t)=(decide ((wd s 0:Int)=wd t 0)&&(decide ((wd s 1:Int)=wd t 1)&&(decide ((wd s 2:Int)=wd t 2)&&decide ((wd s 3:Int)=wd t 3)))):=by
  rw[Bool.eq_iff_iff];simp only[Bool.and_eq_true,decide_eq_true_eq];constructor
  ·intro e; subst e; exact ⟨rfl,rfl,rfl,rfl⟩
  ·rintro ⟨h0,h1,h2,h3⟩;exact gh1 hs ht (by rw[fr5,fr5]; unfold wdV; rw[h0,h1,h2,h3])
 rw[h];simp only[fr5,wdV,fl3,fl2,go_sem,ah4,ij5,Bool.and_true]
theorem fr8 {g:Int->Nat}{l:List Int}(hd:l.Nodup):cs4 (au7 g l):=by
 refine ⟨?_,.int .i64,fun e he=>?_⟩
 ·unfold au7;rw[List.map_map];exact List.Pairwise.map _ (fun a b hab e=>hab (by cases e; rfl)) hd
 ·obtain ⟨n,_,rfl⟩:=List.mem_map.1 he;rfl
theorem eh9 {s:Store}{S:Nat->Prop}{id:Nat}{g:Int->Nat}{l:List Int}(hd:l.Nodup)(hS:¬ S id)(ho:s.obj id=some (.map (au7 g l))):Frz s S (.map id) (.al4 (au7 g l)):=by
 have hat:∀ i,i<(au7 g l).length->∃ n:Int,(au7 g l).getD i (.undef,.undef)=(.int .i64 n,.agg (aq3 (g n))):=fun i hi=>by
  have hi':i<l.length:=by simpa [au7] using hi
  exact ⟨l[i],by simp[au7,List.getD_eq_getElem?_getD,hi']⟩
 refine .map id _ _ _ hS ho rfl (List.Perm.refl _) (fr8 hd) (fun i hi=>?_) fun i hi=>?_
 ·obtain ⟨n,e⟩:=hat i hi; rw[e]; exact .keep _ (.int _ _)
 ·obtain ⟨n,e⟩:=hat i hi; rw[e]; exact .keep _ (.agg _ fun c hc=>(bq3 _ c hc).weak fun i h=>absurd h (Nat.not_lt_zero _))
theorem ez7 (g:Int->Nat)(l:List Int)(m:Int)(s:Nat):al8 g (l++[m]) s=if (al8 g l s).testBit m.toNat then al8 g l s ||| g m else al8 g l s:=by
 unfold al8; rw[List.foldl_append]; rfl
theorem fr9 (p:Pool) (hp:bm8 p) (l:List Int) (hd:l.Nodup) (hl:l.length<2^30) (hpos:∀ n∈l,0<=n/\n<256) :
  PC Tryz.prog EE 16 [p.v,.aa3 (l.map Md.af9)] (.agg [.al4 (au7 (ar1 (ai1 p) l) l),.al4 (au7 (dg4 (ai1 p) l) l)]):=by
 refine ib1 hE hi6 (nZ rfl) (au8 (bv4 p) (ay7 _)) ?_;simp only[gt7];refine ab2 (ab8 ?_);simp only[go_sem];refine ab2 (ab8 ?_);simp only[go_sem];refine ab2 (ab2 (ab8 ?_));simp only[go_sem];generalize hT:Store.mk _ _=T
 have hM0:Maps T ([]:List Int) (ar1 (ai1 p) l) (ar1 (ai1 p) l):=by
  rw[<- hT];refine ⟨?_,?_,?_,?_,?_⟩
  ·simp only[aa2,if_true]
  ·simp only[aa2,reduceCtorEq,Int.reduceLT,Int.reduceLE,Int.reduceToNat,Int.reduceAdd,Nat.reduceEqDiff,Nat.reduceAdd,Nat.reduceMul,Nat.reduceLT,Nat.reduceLeDiff,decide_true,decide_false,↓reduceIte]
  ·simp only[aa2,reduceCtorEq,Int.reduceLT,Int.reduceLE,Int.reduceToNat,Int.reduceAdd,Nat.reduceEqDiff,Nat.reduceAdd,Nat.reduceMul,Nat.reduceLT,Nat.reduceLeDiff,decide_true,decide_false,↓reduceIte]; rfl
  ·simp only[aa2,reduceCtorEq,Int.reduceLT,Int.reduceLE,Int.reduceToNat,Int.reduceAdd,Nat.reduceEqDiff,Nat.reduceAdd,Nat.reduceMul,Nat.reduceLT,Nat.reduceLeDiff,decide_true,decide_false,↓reduceIte]; rfl
  ·decide
 clear hT;obtain ⟨g1,hg1⟩:∃ g1,g1=ar1 (ai1 p) l:=⟨_,rfl⟩;rw[<- hg1] at hM0;refine ai8 (ak6 (fun e f s=>e=.exit 0/\(∃ rst:Frm,f=(0,p.v)::(1,.aa3 (l.map Md.af9))::(4,.ptr 0 0)::(5,.ptr 3 0)::rst)/\Maps s l g1 g1) (bn6 (fun k fr t=>fr=[(0,p.v),(1,.aa3 (l.map Md.af9)),(4,.ptr 0 0),(5,.ptr 3 0),(20,.aa3 (l.map Md.af9)),(21,.int .i64 l.length),(22,.int .i64 (k:Int))]/\Maps t (l.take k) g1 g1) l.length ⟨rfl,hM0⟩ ?_) ?_)
 ·rintro k fr t hk ⟨rfl,hM⟩;refine ab2 (ab8 ?_);by_cases hlt:k<l.length
  ·have c1:(k:Int)<l.length:=by omega
   have c2:(0:Int)<=(k:Int):=by omega
   have hgk:(l.map Md.af9).getD k []=Md.af9 l[k]:=by simp[List.getD_eq_getElem?_getD,hlt]
   have w1:=ad2 (i:=k) (by omega);simp only[go_sem,c1];refine ab2 (ab8 ?_);simp only[go_sem];refine ab2 (ai8 (ab2 (ab8 ?_)));simp only[go_sem,c1,c2,hgk,Md.af9];refine ab2 (ab8 ?_);simp only[go_sem];refine ab2 (ab2 (ab8 ?_));simp only[go_sem];have hnx:=hM.next;obtain ⟨b,hb⟩:∃ b,b=t.next:=⟨_,rfl⟩;rw[<- hb];generalize hU:Store.mk (b+1) _=U;have hUn:U.next=b+1:=by rw[<- hU]
   have hUb:U.obj b=some (.cells (aq3 (bt6 (ai1 p) l[k] (l.take 0) 0))):=by rw[<- hU,List.take_zero]; simp only[aa2,if_true]; rw[set0]; rfl
   have hMU:Maps U (l.take k) g1 g1:=hM.keep (by omega) fun i hi=>by
    have e:¬ i=b:=by omega
    rw[<- hU]; simp only[aa2,e,if_false]
   clear hU;refine ai8 (ak6 (fun e f s=>e=.exit 2/\(∃ rst:Frm,f=(0,p.v)::(1,.aa3 (l.map Md.af9))::(4,.ptr 0 0)::(5,.ptr 3 0)::(7,.int .i64 l[k])::(8,.ptr b 0)::(20,.aa3 (l.map Md.af9))::(21,.int .i64 l.length)::(22,.int .i64 (k:Int))::rst)/\Maps s (l.take k) g1 g1/\b<s.next/\s.obj b=some (.cells (aq3 (bt6 (ai1 p) l[k] l 0)))) (ab3 noT (fun j fr u=>fr=[(0,p.v),(1,.aa3 (l.map Md.af9)),(4,.ptr 0 0),(5,.ptr 3 0),(7,.int .i64 l[k]),(8,.ptr b 0),(20,.aa3 (l.map Md.af9)),(21,.int .i64 l.length),(22,.int .i64 (k:Int)),(26,.aa3 (l.map Md.af9)),(27,.int .i64 l.length),(28,.int .i64 (j:Int))]/\Maps u (l.take k) g1 g1/\b<u.next/\u.obj b=some (.cells (aq3 (bt6 (ai1 p) l[k] (l.take j) 0)))) l.length ⟨rfl,hMU,by omega,hUb⟩ ?_) ?_)
   ·clear hMU hUb hUn;rintro j fr u hj ⟨rfl,hMu,hbu,hub⟩;by_cases hjl:j<l.length
    ·have d1:(j:Int)<l.length:=by omega
     have d2:(0:Int)<=(j:Int):=by omega
     have hgj:(l.map Md.af9).getD j []=Md.af9 l[j]:=by simp[List.getD_eq_getElem?_getD,hjl]
     have htj:l.take (j+1)=l.take j++[l[j]]:=by rw[List.take_add_one,List.getElem?_eq_getElem hjl]; rfl
     have w2:=ad2 (i:=j) (by omega);have hnd:=dr2 p hp l[k] l[j];have hpj:=hpos l[j] (List.getElem_mem hjl);obtain ⟨m,hm⟩:∃ m:Nat,l[j]=(m:Int):=⟨l[j].toNat,by omega⟩;have hwi:=ez4 (bt6 (ai1 p) l[k] (l.take j) 0) m (by omega);have hF:=ex3 (R:=ai1 p) l[k] (l.take j) l[j] 0;rw[<- htj] at hF;rw[hm] at hnd hgj hF;rw[Int.toNat_natCast] at hF
     cases hnn:ai1 p l[k] m with
     | true=>
      rw[hnn] at hnd hF;simp only[if_true] at hF;simp only[go_sem,d1,d2,hgj,Md.af9]
      first|refine aa5 fok10 (hnd) ?_|refine aa8 (hnd) ?_
      simp only[go_sem,hub,ar9,an6,am2]
      first|refine aa5 fok31 (hwi) ?_|refine aa8 (hwi) ?_
      simp only[go_sem,hub,ar9,an6,am2,w2,fr6]
      exact ⟨hjl,hMu.keep (Nat.le_refl _) fun i hi=>by
       have e:¬ i=b:=by omega
       simp only[aa2,e,if_false],hbu,by rw[hF]⟩
     | false=>
      rw[hnn] at hnd hF;simp only[Bool.false_eq_true,if_false] at hF;simp only[go_sem,d1,d2,hgj,Md.af9]
      first|refine aa5 fok10 (hnd) ?_|refine aa8 (hnd) ?_
      simp only[go_sem,w2];exact ⟨hjl,hMu,hbu,by rw[hF]; exact hub⟩
    ·have d1:¬ (j:Int)<l.length:=by omega
     rw[List.take_of_length_le (by omega)] at hub;simp only[go_sem,d1];exact ⟨⟨_,rfl⟩,hMu,hbu,hub⟩
   rintro e f u ⟨rfl,⟨rst,rfl⟩,hMu,hbu,hub⟩;have hgk1:bt6 (ai1 p) l[k] l 0=g1 l[k]:=by rw[hg1]; rfl
   have hnew:l[k] ∉ l.take k:=fun h=>by
    obtain ⟨j,hj,e⟩:=List.mem_iff_getElem.1 h;rw[List.getElem_take] at e;rw[List.length_take] at hj;have:=List.pairwise_iff_getElem.1 hd j k (by omega) hlt (by omega);exact this e
   rw[hgk1] at hub;have hup:=he6 g1 l[k] (.agg (aq3 (g1 l[k]))) (l.take k) hnew
   have htk:au7 g1 (l.take k)++[(.int .i64 l[k],.agg (aq3 (g1 l[k])))]=au7 g1 (l.take (k+1)):=by
    rw[List.take_add_one,List.getElem?_eq_getElem hlt]; unfold au7; rw[List.map_append]; rfl
   rw[htk] at hup;have tb1:Nat.testBit 144 1=false:=by decide
   have tb4:Nat.testBit 144 4=true:=by decide
   have tb6:Nat.testBit 144 6=false:=by decide
   have tb7:Nat.testBit 144 7=true:=by decide
   have hbx:=hMu.box;have h1:=hMu.m1;have h2:=hMu.m2;have m1:∀ (τ:Store) (v:IV) (es:List (IV×IV)),τ.obj 1=some (.map (au7 g1 (l.take k)))->al7 τ 1 (.map 1) (.int .i64 l[k]) (.agg (aq3 (g1 l[k])))=some (τ.put 1 (.map (au7 g1 (l.take (k+1))))):=fun τ _ _ h=>by simp only[al7,h,hup,Option.map_some]
   have m2:∀ (τ:Store) (v:IV) (es:List (IV×IV)),τ.obj 2=some (.map (au7 g1 (l.take k)))->al7 τ 1 (.map 2) (.int .i64 l[k]) (.agg (aq3 (g1 l[k])))=some (τ.put 2 (.map (au7 g1 (l.take (k+1))))):=fun τ _ _ h=>by simp only[al7,h,hup,Option.map_some]
   refine gc6 ?_;simp only[go_sem,hbx,hub,h1,h2,ar9,an6,am2,al7,hup];have e1:¬ b=1:=by have:=hM.next; omega
   have e31:¬ (3=1):=by decide
   simp only[hu8 tb7,hu7 tb6,hu8 tb4,hu7 tb1,go_sem,hbx,hub,e1,e31,ar9,an6,am2];refine ab8 ?_;simp only[go_sem,w1];refine ⟨hlt,?_⟩;refine ⟨?_,?_,?_,?_,?_⟩
   ·simp only[aa2,reduceCtorEq,Int.reduceLT,Int.reduceLE,Int.reduceToNat,Int.reduceAdd,Nat.reduceEqDiff,Nat.reduceAdd,Nat.reduceMul,Nat.reduceLT,Nat.reduceLeDiff,decide_true,decide_false,↓reduceIte]; exact hbx
   ·simp only[aa2,reduceCtorEq,Int.reduceLT,Int.reduceLE,Int.reduceToNat,Int.reduceAdd,Nat.reduceEqDiff,Nat.reduceAdd,Nat.reduceMul,Nat.reduceLT,Nat.reduceLeDiff,decide_true,decide_false,↓reduceIte]; exact hMu.nil
   ·simp only[aa2,reduceCtorEq,Int.reduceLT,Int.reduceLE,Int.reduceToNat,Int.reduceAdd,Nat.reduceEqDiff,Nat.reduceAdd,Nat.reduceMul,Nat.reduceLT,Nat.reduceLeDiff,decide_true,decide_false,↓reduceIte]
   ·simp only[aa2,if_true]
   ·have:=hMu.next; simp only[aa6]; omega
  ·have c1:¬ (k:Int)<l.length:=by omega
   rw[List.take_of_length_le (by omega)] at hM;simp only[go_sem,c1];refine ab2 (ab8 ?_);simp only[go_sem];exact ⟨⟨_,rfl⟩,hM⟩
 rintro e f t ⟨rfl,⟨rst,rfl⟩,hM⟩;simp only[go_sem];have hR0:=gs3 (R:=ai1 p) (L:=l) hpos;rw[<- hg1] at hR0;have hsm:∀ (g:Int->Nat) (i:Nat) (ag:Bool),ex5 (ai1 p) l g1 i g ag->∀ n∈l,g n<2^256:=fun g i ag h n hn=>h.reach.small (h.reach.way n hn)
 refine ab2 (ab2 (ab8 ?_));simp only[go_sem];refine ai8 (ak6 (fun e f s=>e=.exit 4/\(∃ rst:Frm,f=(1,.aa3 (l.map Md.af9))::(4,.ptr 0 0)::(5,.ptr 3 0)::rst)/\Maps s l g1 (dg4 (ai1 p) l)) (bn6 (fun i fr t=>∃ (g:Int->Nat) (again:Bool),(∃ rst:Frm,fr=(1,.aa3 (l.map Md.af9))::(4,.ptr 0 0)::(5,.ptr 3 0)::(11,.bool again)::rst)/\Maps t l g1 g/\ex5 (ai1 p) l g1 i g again) (ax2 l g1 l+1) ⟨g1,true,⟨[],rfl⟩,hM,.init hR0⟩ ?_) ?_)
 ·clear hM;rintro i fr t hi ⟨g,again,⟨rst0,rfl⟩,hM,hOut⟩;refine ab2 (ab8 ?_)
  cases again with
  | false=>
   simp only[go_sem];have hlim:g=dg4 (ai1 p) l:=by rw[hg1] at hOut hi; exact hOut.lim hi
   exact ⟨⟨_,rfl⟩,by rw[<- hlim]; exact hM⟩
  | true=>
  simp only[go_sem];have hnb:=hOut.yes rfl;refine ai8 (ab2 (ab8 ?_));simp only[go_sem];refine ab2 (ab8 ?_);simp only[go_sem];refine ai8 (ak6 (fun e f s=>e=.exit 6/\∃ g' again',(∃ rst:Frm,f=(1,.aa3 (l.map Md.af9))::(4,.ptr 0 0)::(5,.ptr 3 0)::(11,.bool again')::rst)/\Maps s l g1 g'/\ci2 (ai1 p) l g g' l again') (bn6 (fun k fr u=>∃ g' again',fr=[(1,.aa3 (l.map Md.af9)),(4,.ptr 0 0),(5,.ptr 3 0),(11,.bool again'),(50,.aa3 (l.map Md.af9)),(51,.int .i64 l.length),(52,.int .i64 (k:Int))]/\Maps u l g1 g'/\ci2 (ai1 p) l g g' (l.take k) again') l.length ⟨g,false,rfl,hM,.init hOut.reach⟩ ?_) ?_)
  ·clear hM;rintro k fr u hk ⟨g',again',rfl,hM,hP⟩;refine ab2 (ab8 ?_);by_cases hlt:k<l.length
   ·have c1:(k:Int)<l.length:=by omega
    have c2:(0:Int)<=(k:Int):=by omega
    have hgk:(l.map Md.af9).getD k []=Md.af9 l[k]:=by simp[List.getD_eq_getElem?_getD,hlt]
    have w1:=ad2 (i:=k) (by omega);have hkm:=List.getElem_mem hlt;have htk:l.take (k+1)=l.take k++[l[k]]:=by rw[List.take_add_one,List.getElem?_eq_getElem hlt]; rfl
    have hlk:=bm5 g' l[k] l;rw[if_pos hkm] at hlk;have hbx:=hM.box;have h2:=hM.m2;simp only[go_sem,c1];refine ab2 (ab8 ?_);simp only[go_sem];refine ab2 (ai8 (ab2 (ab8 ?_)));simp only[go_sem,c1,c2,hgk,Md.af9];refine ab2 (ab8 ?_);simp only[go_sem,hbx,cl2,ax7,h2,hlk,Option.getD_some,ar9,an6,am2];have hnx:=hM.next;obtain ⟨b,hb⟩:∃ b,b=u.next:=⟨_,rfl⟩;rw[<- hb];generalize hU:Store.put _ b (ak4.cells (aq3 (g' l[k])))=U;have hUn:U.next=b+1:=by rw[<- hU]; rfl
    have hUb:U.obj b=some (.cells (aq3 (al8 g' (l.take 0) (g' l[k])))):=by rw[<- hU,List.take_zero]; simp only[aa2,if_true]; rfl
    have hMU:Maps U l g1 g':=hM.keep (by omega) fun i hi=>by
     have e:¬ i=b:=by omega
     rw[<- hU]; simp only[aa2,e,if_false]
    clear hU;refine ab2 (ab2 (ab8 ?_));simp only[go_sem];refine ai8 (ak6 (fun e f s=>e=.exit 8/\(∃ rst:Frm,f=(1,.aa3 (l.map Md.af9))::(4,.ptr 0 0)::(5,.ptr 3 0)::(11,.bool again')::(13,.int .i64 l[k])::(14,.ptr b 0)::(50,.aa3 (l.map Md.af9))::(51,.int .i64 l.length)::(52,.int .i64 (k:Int))::rst)/\Maps s l g1 g'/\b<s.next/\s.obj b=some (.cells (aq3 (al8 g' l (g' l[k]))))) (ab3 noT (fun j fr x=>fr=[(1,.aa3 (l.map Md.af9)),(4,.ptr 0 0),(5,.ptr 3 0),(11,.bool again'),(13,.int .i64 l[k]),(14,.ptr b 0),(50,.aa3 (l.map Md.af9)),(51,.int .i64 l.length),(52,.int .i64 (k:Int)),(60,.aa3 (l.map Md.af9)),(61,.int .i64 l.length),(62,.int .i64 (j:Int))]/\Maps x l g1 g'/\b<x.next/\x.obj b=some (.cells (aq3 (al8 g' (l.take j) (g' l[k]))))) l.length ⟨rfl,hMU,by omega,hUb⟩ ?_) ?_)
    ·clear hMU hUb hUn;rintro j fr x hj ⟨rfl,hMx,hbx',hxb⟩;by_cases hjl:j<l.length
     ·have d1:(j:Int)<l.length:=by omega
      have d2:(0:Int)<=(j:Int):=by omega
      have hgj:(l.map Md.af9).getD j []=Md.af9 l[j]:=by simp[List.getD_eq_getElem?_getD,hjl]
      have htj:l.take (j+1)=l.take j++[l[j]]:=by rw[List.take_add_one,List.getElem?_eq_getElem hjl]; rfl
      have w2:=ad2 (i:=j) (by omega);have hpj:=hpos l[j] (List.getElem_mem hjl);obtain ⟨m,hm⟩:∃ m:Nat,l[j]=(m:Int):=⟨l[j].toNat,by omega⟩;have hF:=ez7 g' (l.take j) l[j] (g' l[k]);rw[<- htj] at hF;have hlm:=bm5 g' l[j] l;rw[if_pos (List.getElem_mem hjl)] at hlm;rw[hm] at hgj hF hlm;rw[Int.toNat_natCast] at hF;have hh:=bh8 (al8 g' (l.take j) (g' l[k])) m (by omega);have ho:=gk1 (al8 g' (l.take j) (g' l[k])) (g' m);have hbx2:=hMx.box;have h22:=hMx.m2
      cases hbt:(al8 g' (l.take j) (g' l[k])).testBit m with
      | true=>
       rw[hbt] at hh hF;simp only[if_true] at hF;simp only[go_sem,d1,d2,hgj,Md.af9,hxb,ar9,an6,am2]
       first|refine aa5 fok21 (hh) ?_|refine aa8 (hh) ?_
       simp only[go_sem,hxb,hbx2,cl2,ax7,h22,hlm,Option.getD_some,ar9,an6,am2]
       first|refine aa5 fok32 (ho) ?_|refine aa8 (ho) ?_
       simp only[go_sem,hxb,ar9,an6,am2,w2,fr6]
       exact ⟨hjl,hMx.keep (Nat.le_refl _) fun i hi=>by
        have e:¬ i=b:=by omega
        simp only[aa2,e,if_false],hbx',by rw[hF]⟩
      | false=>
       rw[hbt] at hh hF;simp only[Bool.false_eq_true,if_false] at hF;simp only[go_sem,d1,d2,hgj,Md.af9,hxb,ar9,an6,am2]
       first|refine aa5 fok21 (hh) ?_|refine aa8 (hh) ?_
       simp only[go_sem,w2];exact ⟨hjl,hMx,hbx',by rw[hF]; exact hxb⟩
     ·have d1:¬ (j:Int)<l.length:=by omega
      rw[List.take_of_length_le (by omega)] at hxb;simp only[go_sem,d1];exact ⟨⟨_,rfl⟩,hMx,hbx',hxb⟩
    rintro e f x ⟨rfl,⟨rst,rfl⟩,hMx,hbx',hxb⟩;have hbx2:=hMx.box;have h22:=hMx.m2;have s1:al8 g' l (g' l[k])<2^256:=hP.reach.small (co3 hP.reach l _ (fun _ h=>h) (hP.reach.way _ hkm));have s2:g' l[k]<2^256:=hP.reach.small (hP.reach.way _ hkm);have heq:=fr7 s1 s2;have hup:=he7 g' l[k] (al8 g' l (g' l[k])) l hd hkm;simp only[go_sem];refine ab2 (ab8 ?_);by_cases hne:al8 g' l (g' l[k])=g' l[k]
    ·rw[hne] at heq hxb;have heq:allEq [1,1,1,1] (aq3 (g' l[k])) (aq3 (g' l[k]))=some true:=by rw[heq]; simp
     simp only[go_sem,hxb,hbx2,cl2,ax7,h22,hlk,Option.getD_some,ar9,an6,am2,heq,Option.map_some,Bool.not_true];refine ab8 ?_;simp only[go_sem];refine ab8 ?_;simp only[go_sem,w1];exact ⟨hlt,g',again',rfl,hMx,by rw[htk]; exact hP.eq hne⟩
    ·have heq:allEq [1,1,1,1] (aq3 (al8 g' l (g' l[k]))) (aq3 (g' l[k]))=some false:=by rw[heq]; simp[hne]
     simp only[go_sem,hxb,hbx2,cl2,ax7,h22,hlk,Option.getD_some,ar9,an6,am2,heq,Option.map_some,Bool.not_false];refine ab8 ?_;simp only[go_sem,hxb,hbx2,al7,h22,hup,Option.map_some,ar9,an6,am2];refine ab8 ?_;simp only[go_sem,w1];refine ⟨hlt,cg7 g' l[k] (al8 g' l (g' l[k])),true,rfl,⟨?_,?_,?_,?_,?_⟩,by rw[htk]; exact hP.ne hd hkm hne⟩
     ·simp only[aa2,reduceCtorEq,Int.reduceLT,Int.reduceLE,Int.reduceToNat,Int.reduceAdd,Nat.reduceEqDiff,Nat.reduceAdd,Nat.reduceMul,Nat.reduceLT,Nat.reduceLeDiff,decide_true,decide_false,↓reduceIte]; exact hbx2
     ·simp only[aa2,reduceCtorEq,Int.reduceLT,Int.reduceLE,Int.reduceToNat,Int.reduceAdd,Nat.reduceEqDiff,Nat.reduceAdd,Nat.reduceMul,Nat.reduceLT,Nat.reduceLeDiff,decide_true,decide_false,↓reduceIte]; exact hMx.nil
     ·simp only[aa2,reduceCtorEq,Int.reduceLT,Int.reduceLE,Int.reduceToNat,Int.reduceAdd,Nat.reduceEqDiff,Nat.reduceAdd,Nat.reduceMul,Nat.reduceLT,Nat.reduceLeDiff,decide_true,decide_false,↓reduceIte]; exact hMx.m1
     ·simp only[aa2,if_true]
     ·have:=hMx.next; simp only[aa6]; omega
   ·have c1:¬ (k:Int)<l.length:=by omega
    rw[List.take_of_length_le (by omega)] at hP;simp only[go_sem,c1];refine ab2 (ab8 ?_);simp only[go_sem];exact ⟨g',again',⟨_,rfl⟩,hM,hP⟩
  rintro e f u ⟨rfl,g',again',⟨rst,rfl⟩,hM',hP⟩;simp only[go_sem];exact ⟨by omega,g',again',⟨_,rfl⟩,hM',hOut.next hP⟩
 rintro e f u ⟨rfl,⟨rst,rfl⟩,hM'⟩;simp only[go_sem];have hbx:=hM'.box;have hnl:=hM'.nil;refine ab2 (ab8 ?_);simp only[go_sem,hbx,hnl];refine ab8 ?_;simp only[go_sem];have m1:=hM'.m1;have m2:=hM'.m2;rw[hg1] at m1;exact .io6 (.cons (eh9 hd (Nat.not_lt_zero _) (by simp only[aa2,reduceCtorEq,Int.reduceLT,Int.reduceLE,Int.reduceToNat,Int.reduceAdd,Nat.reduceEqDiff,Nat.reduceAdd,Nat.reduceMul,Nat.reduceLT,Nat.reduceLeDiff,decide_true,decide_false,↓reduceIte]; exact m1)) (.cons (eh9 hd (Nat.not_lt_zero _) (by simp only[aa2,reduceCtorEq,Int.reduceLT,Int.reduceLE,Int.reduceToNat,Int.reduceAdd,Nat.reduceEqDiff,Nat.reduceAdd,Nat.reduceMul,Nat.reduceLT,Nat.reduceLeDiff,decide_true,decide_false,↓reduceIte]; exact m2)) .nil))
end Go.Id.Tryz
/- Steps in their row: walked. Conditions: packages that may be,and fit; few steps. -/
namespace Go.Id.Md
open Go Go.Id
def bu5 (l:List Step):List (IV×IV):=l.map fun s=>(.int .i64 s.p,.int .u8 s.kind)
theorem dr5 (n:Int):∀ l:List Step,at6 1 (.int .i64 n) (bu5 l)=some ((l.find? fun s=>decide (s.p=n)).map fun s=>.int .u8 s.kind):=by
 intro l
 induction l with
 | nil=>rfl
 | cons a l ih=>
  show (match ai4 1 (.int .i64 n) (.int .i64 a.p) with|some true=>some (some (IV.int .u8 a.kind))|some false=>at6 1 (.int .i64 n) (bu5 l)|none=>none)=_;rw[ce1];by_cases h:n=a.p
  ·rw[decide_eq_true h,List.find?_cons,decide_eq_true h.symm]; rfl
  ·rw[decide_eq_false h,List.find?_cons,decide_eq_false fun e=>h e.symm];exact ih
theorem ei1 (n:Int)(l:List Step):((l.find? fun s=>decide (s.p=n)).map fun s=>IV.int .u8 s.kind).getD (.int .u8 0)=.int .u8 (df7 l n):=by
 unfold df7;cases l.find? fun s=>decide (s.p=n)<;>rfl
theorem fs1 (n:Int)(l:List Step):((l.find? fun s=>decide (s.p=n)).map fun s=>IV.int .u8 s.kind).isSome=decide (n∈l.map (·.p)):=by
 rw[Option.isSome_map];refine Bool.eq_iff_iff.2 ?_;rw[List.find?_isSome,decide_eq_true_iff,List.mem_map];exact ⟨fun ⟨s,h1,h2⟩=>⟨s,h1,of_decide_eq_true h2⟩,fun ⟨s,h1,h2⟩=>⟨s,h1,decide_eq_true h2⟩⟩
theorem gk7 (s:Step):∀ l:List Step,s.p ∉ l.map (·.p)->ct1 1 (.int .i64 s.p) (.int .u8 s.kind) (bu5 l)=some (bu5 (l++[s])):=by
 intro l
 induction l with
 | nil=>intro _; rfl
 | cons a l ih=>
  intro h;rw[List.map_cons,List.mem_cons,not_or] at h;have hk:=ce1 s.p a.p;rw[decide_eq_false h.1] at hk;show ct1 1 (.int .i64 s.p) (.int .u8 s.kind) ((.int .i64 a.p,.int .u8 a.kind)::bu5 l)=_;simp only[ct1,hk,ih h.2];rfl
def ao2 (N:Nat)(s:Step):Bool:=decide (1<=s.kind)&&decide (s.kind<=8)&&decide (0<=s.p)&&decide (s.p<N)
def okS (N:Nat)(l:List Step):Bool:=decide ((l.map (·.p)).Nodup)&&l.all (ao2 N)
theorem dh6 (N:Nat)(l:List Step)(s:Step):okS N (l++[s])=(okS N l&&(!decide (s.p∈l.map (·.p))&&ao2 N s)):=by
 unfold okS;rw[List.all_append,List.map_append,Bool.eq_iff_iff];simp only[Bool.and_eq_true,decide_eq_true_eq,Bool.not_eq_true',decide_eq_false_iff_not,List.all_cons,List.all_nil,Bool.and_true,List.map_cons,List.map_nil];rw[List.nodup_append];constructor
 ·rintro ⟨⟨h1,_,h3⟩,h4,h5⟩;exact ⟨⟨h1,h4⟩,fun h=>h3 _ h _ (by simp) rfl,h5⟩
 ·rintro ⟨⟨h1,h4⟩,h3,h5⟩;refine ⟨⟨h1,by simp,fun a ha b hb e=>?_⟩,h4,h5⟩;rw[List.mem_singleton] at hb;exact h3 (by rw[<- hb,<- e]; exact ha)
theorem fs2 {N:Nat}{l:List Step}{k:Nat}(hk:k<l.length)(h:okS N (l.take k++[l[k]])=false):okS N l=false:=by
 have e:l=(l.take k++[l[k]])++l.drop (k+1):=by
  have:l.take (k+1)=l.take k++[l[k]]:=by rw[List.take_add_one,List.getElem?_eq_getElem hk]; rfl
  rw[<- this,List.take_append_drop]
 cases hb:okS N l with
 | false=>rfl
 | true=>
  rw[e] at hb;unfold okS at hb h;rw[List.map_append,List.all_append] at hb;simp only[Bool.and_eq_true,decide_eq_true_eq] at hb;have h1:=(List.nodup_append.1 hb.1).1;rw[decide_eq_true h1,hb.2.1] at h;cases h
theorem db8 (l:List Step)(s:Step)(k:Int):ab7 (l++[s]) k=ab7 l k++if bf1 s.kind=k then [s.p] else []:=by
 unfold ab7;rw[List.filter_append,List.map_append];congr 1;simp only[List.filter_cons,List.filter_nil];by_cases h:bf1 s.kind=k<;>simp[h]
end Go.Id.Md
namespace Go.Id.Tryz
open Go Go.Id Go.Proofs Go.Shelf Go.Id.Md
set_option maxHeartbeats 1000000
theorem hi8 (k:Int):PC Tryz.prog EE 15 [.int .u8 k] (.int .i64 (bf1 k)):=by
 refine av1 fok15 (nZ rfl) fun σ=>?_
 unfold bf1;have n87:¬ (8:Int)=7:=by decide
 have n67:¬ (6:Int)=7:=by decide
 have n68:¬ (6:Int)=8:=by decide
 by_cases h7:k=7
 ·subst h7;simp only[ic15,go_sem,true_or,and_self]
 by_cases h8:k=8
 ·subst h8;simp only[ic15,go_sem,n87,or_true,and_self]
 by_cases h6:k=6
 ·subst h6;simp only[ic15,go_sem,n67,n68,or_self,and_self]
 have e:(if k=7\/k=8 then (1:Int) else if k=6 then 2 else 0)=0:=by simp[h7,h8,h6]
 rw[e];simp only[ic15,go_sem,h7,h8,h6,and_self]
theorem ez8 (R:Int->Int->Bool)(L:List Int)(hpos:∀ n∈L,0<=n/\n<256)(hd:L.Nodup){n m:Int}(hn:n∈L)(hm:m∈L) :
  PC Tryz.prog EE 20 ([.int .i64 n,.int .i64 m]++[.ad4 [.al4 (au7 (ar1 R L) L),.al4 (au7 (dg4 R L) L)]]) (.bool (az6 R L n m)):=by
 have hb:∀ g:Int->Nat,Bnd 0 (.al4 (au7 g L)):=fun g=>.al4 _ (fun e he=>by obtain ⟨x,_,rfl⟩:=List.mem_map.1 he; exact .int _ _) fun e he=>by obtain ⟨x,_,rfl⟩:=List.mem_map.1 he; exact .agg _ (bq3 _)
 refine ao4 hE fok20 (nZ rfl) (dy4 (.int _ _) (.int _ _) (.ad4 _ (au8 (hb _) (hb _)))) ?_;have l1:=bm5 (ar1 R L) n L;have l2:=bm5 (dg4 R L) m L;rw[if_pos hn] at l1;rw[if_pos hm] at l2;have e1:=fo7 (R:=R) hpos n hm;have e2:=ef5 (R:=R) hpos hd hm hn;have pn:=hpos n hn;have pm:=hpos m hm;obtain ⟨a,ha⟩:∃ a:Nat,n=(a:Int):=⟨n.toNat,by omega⟩;obtain ⟨b,hb⟩:∃ b:Nat,m=(b:Int):=⟨m.toNat,by omega⟩;have h1:=bh8 (ar1 R L n) b (by omega);have h2:=bh8 (dg4 R L m) a (by omega);have t1:(ar1 R L n).testBit b=R n m:=by rw[<- e1,hb,Int.toNat_natCast]
 have t2:(dg4 R L m).testBit a=da8 R L m n:=by rw[<- e2,ha,Int.toNat_natCast]
 rw[t1,<- hb] at h1;rw[t2,<- ha] at h2
 have hw:az6 R L n m=(R n m&&!da8 R L m n):=by
  unfold az6
  first|rfl|rw[co1]
 rw[hw]
 cases hR:R n m with
 | true=>
  rw[hR] at h1;simp only[ic20,go_sem,List.cons_append,List.nil_append,cl2,ax7,l1,l2,Option.getD_some]
  first|refine aa5 fok21 (h1) ?_|refine aa8 (h1) ?_
  simp only[go_sem,cl2,ax7,l1,l2,Option.getD_some]
  first|refine aa5 fok21 (h2) ?_|refine aa8 (h2) ?_
  simp only[go_sem]
  exact ah8 (by simp)
 | false=>
  rw[hR] at h1;simp only[ic20,go_sem,List.cons_append,List.nil_append,cl2,ax7,l1,l2,Option.getD_some]
  first|refine aa5 fok21 (h1) ?_|refine aa8 (h1) ?_
  simp only[go_sem];exact ah8 (by simp)
theorem ez9 (R:Int->Int->Bool)(L:List Int)(hpos:∀ n∈L,0<=n/\n<256)(hd:L.Nodup){n m:Int}(hn:n∈L)(hm:m∈L) :
  PC Tryz.prog EE 22 ([.int .i64 m,.int .i64 n]++[.ad4 [.al4 (au7 (ar1 R L) L),.al4 (au7 (dg4 R L) L)]]) (.bool (az6 (fun a b=>R b a) L m n)):=by
 have hb:∀ g:Int->Nat,Bnd 0 (.al4 (au7 g L)):=fun g=>.al4 _ (fun e he=>by obtain ⟨x,_,rfl⟩:=List.mem_map.1 he; exact .int _ _) fun e he=>by obtain ⟨x,_,rfl⟩:=List.mem_map.1 he; exact .agg _ (bq3 _)
 refine ao4 hE fok22 (nZ rfl) (dy4 (.int _ _) (.int _ _) (.ad4 _ (au8 (hb _) (hb _)))) ?_;have l1:=bm5 (ar1 R L) n L;have l2:=bm5 (dg4 R L) m L;rw[if_pos hn] at l1;rw[if_pos hm] at l2;have e1:=fo7 (R:=R) hpos n hm;have e2:=ef5 (R:=R) hpos hd hm hn;have pn:=hpos n hn;have pm:=hpos m hm;obtain ⟨a,ha⟩:∃ a:Nat,n=(a:Int):=⟨n.toNat,by omega⟩;obtain ⟨b,hb⟩:∃ b:Nat,m=(b:Int):=⟨m.toNat,by omega⟩;have h1:=bh8 (ar1 R L n) b (by omega);have h2:=bh8 (dg4 R L m) a (by omega);have t1:(ar1 R L n).testBit b=R n m:=by rw[<- e1,hb,Int.toNat_natCast]
 have t2:(dg4 R L m).testBit a=da8 R L m n:=by rw[<- e2,ha,Int.toNat_natCast]
 rw[t1,<- hb] at h1;rw[t2,<- ha] at h2
 have hw:az6 (fun a b=>R b a) L m n=(R n m&&!da8 R L m n):=by
  unfold az6
  first|rfl|rw[co1]
 rw[hw]
 cases hR:R n m with
 | true=>
  rw[hR] at h1;simp only[ic22,go_sem,List.cons_append,List.nil_append,cl2,ax7,l1,l2,Option.getD_some]
  first|refine aa5 fok21 (h1) ?_|refine aa8 (h1) ?_
  simp only[go_sem,cl2,ax7,l1,l2,Option.getD_some]
  first|refine aa5 fok21 (h2) ?_|refine aa8 (h2) ?_
  simp only[go_sem]
  exact ah8 (by simp)
 | false=>
  rw[hR] at h1;simp only[ic22,go_sem,List.cons_append,List.nil_append,cl2,ax7,l1,l2,Option.getD_some]
  first|refine aa5 fok21 (h1) ?_|refine aa8 (h1) ?_
  simp only[go_sem];exact ah8 (by simp)
end Go.Id.Tryz
