/- Whom an altered pool likes: the law walked. Conditions: sizes that fit. -/
import Derived.Test.YtiallonafbejaaaGreatDoorTVTS
import Derived.Test.YtiallonafbejaaaGreatDoorTVQM
import Derived.Test.YtiallonafbejaaaGreatDoorTVSC
import Derived.Test.YtiallonafbejaaaGreatDoorT6
import Derived.SizedLaws
import Derived.Test.YtiallonafbejaaaGreatDoorTVPA
import Derived.Test.YtiallonafbejaaaGreatDoorMm
import Derived.Test.YtiallonafbejaaaGreatDoorRows
set_option linter.all false
namespace Go.Id.Tryz
open Go Go.Id Go.Proofs Go.Shelf Go.Id.Md
set_option maxRecDepth 100000
set_option maxHeartbeats 1000000
structure Twin (t:Store) (gv xv:IV) (A B:List (List IV)):Prop where
 g:Grow t gv 2 A
 x:Grow t xv 2 B
 ne:∀ id k id' k',gv=.slice id 0 k 2→xv=.slice id' 0 k' 2→id≠id'
theorem bp8 (l:List Repo):∀ x∈l.map Repo.cs,x.length=2∧x.all IV.leaf=true:=fun x hx=>by
 obtain ⟨y,_,rfl⟩:=List.mem_map.1 hx
 exact ⟨rfl,rfl⟩
theorem eb5 {gv xv:IV}{t:Store}{A B:List (List IV)}(h:Twin t gv xv A B){id k:Nat}(hx:xv=.slice id 0 k 2):(ah4 gv t).obj id=t.obj id:=by
 rcases h.g with ⟨rfl,_⟩|⟨id',rfl,_,_⟩
 ·rfl
 ·show (if id=id' then none else t.obj id)=_
  rw[if_neg fun e=>h.ne _ _ _ _ rfl hx e.symm]
theorem eb6 (b:Bool):gf3 [0] false true (.bool b) (.bool b)=some (.bool false):=by cases b<;>rfl
theorem ci8 (p:Pool)(r:Req)(k:Nat)(n:Int):∃ (x:Package) (e:Int),ce4 p n=.tuple [.agg x.cs,.int .i64 e]∧(e=0→(ak1 p r k).a.is n=true∧(ak1 p r k).a.pk n=x):=by
 unfold ce4
 by_cases h:0≤n∧n<p.rows.length
 ·rw[if_pos h]
  refine ⟨_,_,rfl,fun _=>⟨?_,?_⟩⟩
  ·show (decide (0≤n)&&decide (n<(ab2 p).length))=true
   simp only[ab2,List.length_map,Bool.and_eq_true,decide_eq_true_eq]
   exact h
  ·show (ab2 p).getD n.toNat default=_
   have hk:n.toNat<p.rows.length:=by omega
   simp[ab2,List.getD_eq_getElem?_getD,hk]
 ·rw[if_neg h]
  exact ⟨_,_,rfl,fun h=>by cases h⟩
theorem preferLiked_pc (repos:List Repo)(inst:List Package)(r:Req)(n m:Int)(hI:InOK repos inst)(hR:ReqOK r) :
  PC Tryz.prog EE 10 [am5 repos,ak6 inst,.agg r.cs,.int .i64 n,.int .i64 m] (.bool true):=by
 refine hz6 hE fok10 (Nat.le_of_ble_eq_true rfl) (ho9 (bc3 repos) (ap3 inst) (.agg _ (bc9 r)) (.int _ _) (.int _ _)) ?_
 have hL:=ev5 repos inst r (by have:=hI.r1; omega) (by have:=hI.i1; omega) hI.ro hI.po
 have hO:=dc8 repos inst r hI hR
 unfold fo7 at hO
 simp only[ic10]
 refine ae5 (af3 ?_)
 simp only[go_sem,al1]
 refine ae5 (af3 ?_)
 simp only[go_sem]
 first|refine aa1 fok47 (bi1) ?_|refine aa3 (bi1) ?_
 cases hlg:dc7 repos inst r with
 | true=>
  rw[hlg] at hL
  simp only[go_sem,as6,ar3]
  first|refine aa1 fok48 (hL) ?_|refine aa3 (hL) ?_
  simp only[go_sem]
  first|refine aa1 fok47 (bi1) ?_|refine aa3 (bi1) ?_
  simp only[go_sem]
  exact ac8 rfl
 | false=>
 rw[hlg] at hL
 simp only[go_sem,as6,ar3]
 first|refine aa1 fok48 (hL) ?_|refine aa3 (hL) ?_
 simp only[go_sem]
 refine ae5 (af3 ?_)
 simp only[go_sem,as6,ar3]
 first|refine aa1 fok49 (hO) ?_|refine aa3 (hO) ?_
 cases hn:az9 repos inst with
 | inr e=>
  simp only[go_sem]
  refine ae5 (af3 ?_)
  simp only[go_sem]
  exact ac8 rfl
 | inl p=>
 by_cases he:¬ aj6 r p.inst=0
 ·simp only[go_sem,he]
  refine ae5 (af3 ?_)
  simp only[go_sem]
  exact ac8 rfl
 have he:=Decidable.not_not.1 he
 simp only[go_sem,he]
 refine ae5 (af3 ?_)
 simp only[go_sem]
 have hrl:repos.length≤16:=(bh8 hn).1
 have hOv:∀ d:Nat,(ak1 p r inst.length).v=(ak1 p r inst.length).v:=fun _=>rfl
 clear hL hO
 refine ae5 (af3 ?_)
 simp only[go_sem]
 refine ae5 (af3 ?_)
 simp only[go_sem]
 refine ae5 (ae5 (af3 ?_))
 simp only[go_sem]
 generalize hOO:(ak1 p r inst.length).v=O
 generalize hPP:p.v=V
 refine cz8 (eb9 (fun i fr t=>∃ gv xv,fr=[(0,am5 repos),(1,ak6 inst),(3,.int .i64 n),(4,.int .i64 m),(7,.tptr r.cs),(11,O),(13,V),(15,.func (.func 53) [] []),(16,gv),(17,xv),(18,.int .i64 i)] ∧
  Twin t gv xv (((ba1 af6 repos).take i).map Repo.cs) (((ba1 ak2 repos).take i).map Repo.cs)) repos.length ⟨_,_,rfl,.inl ⟨rfl,rfl⟩,.inl ⟨rfl,rfl⟩,fun _ _ _ _ h=>by cases h⟩ ?_)
 rintro i fr t hle ⟨gv,xv,rfl,htw⟩
 by_cases hlt:i<repos.length
 ·obtain ⟨x,hx,hat,hdr,hget,htk⟩:=ad1 repos i hlt
  have c1:(i:Int)<repos.length:=by omega
  have c2:(0:Int)≤i:=by omega
  have w1:=ad5 (i:=i) (by omega)
  have f0:x.cs.head? = some (.int .i64 x.priority):=rfl
  have f1:(x.cs.drop 1).head? = some (ak6 x.packages):=rfl
  have hxl:x.packages.length<2^20:=(hI.rf x hx).1
  have hb:=dn4 x.packages hxl
  have e1:∀ f:Package→Package,(ba1 f repos).take (i+1)=(ba1 f repos).take i++[⟨x.priority,x.packages.map f⟩]:=fun f=>by
   unfold ba1
   rw[← List.map_take,htk,List.map_append,← List.map_take]; rfl
  have e2:∀ f:Package→Package,(((ba1 f repos).take i).map Repo.cs).length=i:=fun f=>by
   rw[List.length_map,List.length_take,bi2]; omega
  have tl:=(bi2 af6 repos)
  refine ae5 (af3 ?_)
  simp only[go_sem,c1]
  refine ae5 (cz8 (ae5 (ee9 ?_)))
  have hag:=ai2 (σ:=⟨t.next+17,t.obj⟩) (nid:=t.next+15) (e:=(⟨x.priority,x.packages.map af6⟩:Repo).cs) (htw.g.mono (by show t.next≤t.next+17; omega) fun _ _ _=>rfl) (bp8 _) ⟨rfl,rfl⟩ (by rw[e2]; omega)
  simp only[go_sem,c1,c2,hget,ay4,f0,f1]
  refine aa1 fok53 hb ?_
  have hag:ax4 ⟨t.next+17,t.obj⟩ (t.next+15) 2 gv (.tslice [[.int .i64 x.priority,ak6 (x.packages.map af6)]])=_:=hag
  simp only[go_sem,ak6]
  rw[hag]
  simp only[go_sem]
  generalize hS1:Store.put _ _ _=S1
  generalize hgv:IV.slice (t.next+15) 0 _ 2=gv'
  have s1n:S1.next=t.next+17:=by rw[← hS1]; exact ad7 _
  have g1:Grow S1 gv' 2 (((ba1 af6 repos).take (i+1)).map Repo.cs):=by
   rw[e1,List.map_append,← hgv]
   have hh:=Grow.new (σ':=S1) (v:=gv) (esz:=2) (nid:=t.next+15) (es:=((ba1 af6 repos).take i).map Repo.cs) (e:=(⟨x.priority,x.packages.map af6⟩:Repo).cs) (by omega) (by rw[← hS1,aa2,if_pos rfl])
   rw[List.length_map] at hh
   exact hh
  have x1:Grow S1 xv 2 (((ba1 ak2 repos).take i).map Repo.cs):=htw.x.mono (by omega) fun id hv hid=>by
   have e:¬ id=t.next+15:=by omega
   rw[← hS1,aa2,if_neg e]
   exact eb5 (t:=⟨t.next+17,t.obj⟩) ⟨htw.g.mono (by show t.next≤t.next+17; omega) fun _ _ _=>rfl,htw.x.mono (by show t.next≤t.next+17; omega) fun _ _ _=>rfl,htw.ne⟩ hv
  have gid:∀ id k,gv'=.slice id 0 k 2→id<S1.next:=fun id k h=>by
   rw[← hgv] at h; cases h; omega
  have n1:∀ id k id' k',gv'=.slice id 0 k 2→xv=.slice id' 0 k' 2→id≠id':=fun id k id' k' h h'=>by
   rw[← hgv] at h; cases h
   rcases htw.x with ⟨e,_⟩|⟨j,e,_,hj⟩
   ·rw[e] at h'; cases h'
   ·rw[e] at h'; cases h'; omega
  clear hS1 hgv hag htw
  obtain ⟨w,S2,ha,n2,o2,hw,k2⟩:=bb9 (σ:=(Store.mk (S1.next+1+1) S1.obj).put S1.next (.row [])) (id:=S1.next) (nid:=S1.next+1) x.packages (by simp only[aa2,if_true]) (by omega)
  refine ae5 (af3 ?_)
  simp only[go_sem,c1,c2,hget,ay4,f0,f1]
  rw[ha]
  simp only[go_sem]
  have n2:S2.next=S1.next+2:=n2
  have k3:∀ j,j<S1.next→S2.obj j=S1.obj j:=fun j hj=>by
   rw[k2 j (by omega) (by omega),aa2,if_neg (by omega)]
  have g2:Grow S2 gv' 2 (((ba1 af6 repos).take (i+1)).map Repo.cs):=g1.mono (by omega) fun id _ hid=>k3 id hid
  have x2:Grow S2 xv 2 (((ba1 ak2 repos).take i).map Repo.cs):=x1.mono (by omega) fun id _ hid=>k3 id hid
  have xid:∀ id k,xv=.slice id 0 k 2→id<S1.next:=fun id k h=>by
   rcases x1 with ⟨e,_⟩|⟨j,e,_,hj⟩
   ·rw[e] at h; cases h
   ·rw[e] at h; cases h; exact hj
  have hwn:S1.next≤w∧w<S2.next:=by omega
  clear ha k2 k3 g1 x1 hw
  refine ae5 (ae5 (af3 ?_))
  simp only[go_sem]
  refine cz8 (eb9 (fun k fr s=>fr=[(0,am5 repos),(1,ak6 inst),(3,.int .i64 n),(4,.int .i64 m),(7,.tptr r.cs),(11,O),(13,V),(15,.func (.func 53) [] []),(16,gv'),(17,xv),(18,.int .i64 i),(19,.slice w 0 x.packages.length 15),(20,.int .i64 k)] ∧
   s.next=S2.next∧(∀ j,j≠w→s.obj j=S2.obj j)∧s.obj w=some (.row ((x.packages.take k).map (fun q=>(ak2 q).cs)++(x.packages.drop k).map Package.cs).flatten)) x.packages.length ⟨rfl,rfl,fun _ _=>rfl,by simpa using o2⟩ ?_)
  rintro k fr s hkle ⟨rfl,hsn,hso,hsw⟩
  by_cases hkl:k<x.packages.length
  ·obtain ⟨y,hy,_,kdr,kget,ktk⟩:=ad1 x.packages k hkl
   have d1:(k:Int)<x.packages.length:=by omega
   have d2:(0:Int)≤k:=by omega
   have w2:=ad5 (i:=k) (by omega)
   obtain ⟨p1,p2⟩:=cx3 (f:=Package.cs) (g:=fun q=>(ak2 q).cs) (fun q=>rfl) (fun q=>rfl) x.packages k
   have p3:=dn3 Package.cs (fun q=>(ak2 q).cs) x.packages k hkl y kdr
   have p4:=dn2 Package.cs (fun q=>(ak2 q).cs) x.packages k hkl y kdr
   generalize (x.packages.take k).map (fun q=>(ak2 q).cs)++(x.packages.drop k).map Package.cs=L at *
   have q1:=bq8 (v:=.str [111,116,104,101,114]) (k:=5) p1 (by omega:k<L.length) (by decide)
   rw[p3,ge8] at q1
   have f0:L.flatten.length=x.packages.length*15:=by rw[ah5 p1,p2]
   have b0:k*15+5+1≤L.flatten.length:=by omega
   have p4:L.set k (ak2 y).cs=_:=p4
   rw[p4] at q1
   clear p4
   generalize L.flatten=L0 at *
   refine ae5 (af3 ?_)
   simp only[go_sem,d1]
   refine ae5 (af3 ?_)
   simp only[go_sem,d1,d2,hsw,Int.toNat_natCast,Nat.zero_add,q1,b0,List.length_cons,List.length_nil,List.all_cons,List.all_nil]
   refine af3 ?_
   simp only[go_sem,w2]
   exact ⟨hkl,hsn,fun j hj=>by rw[if_neg hj]; exact hso j hj⟩
  ·have hk':k=x.packages.length:=by omega
   subst hk'
   have d1:¬ (x.packages.length:Int)<x.packages.length:=by omega
   refine ae5 (af3 ?_)
   simp only[go_sem,d1]
   rw[List.take_length,List.drop_length,List.map_nil,List.append_nil] at hsw
   refine gh8 (S:=fun j=>decide (j≠w)) (fr':=[(0,am5 repos),(1,ak6 inst),(3,.int .i64 n),(4,.int .i64 m),(7,.tptr r.cs),(11,O),(13,V),(15,.func (.func 53) [] []),(16,gv'),(17,xv),(18,.int .i64 i),(19,ak6 (x.packages.map ak2)),(20,.int .i64 x.packages.length),(88,.bool false)]) (fun k=>?_) (af3 ?_)
   ·by_cases hk:k=19
    ·subst hk
     exact .inr (ge9 x.packages hsw (by simp))
    ·left
     have e:(k==19)=false:=by simpa using hk
     simp only[Frm.get,List.lookup,e]
     try rfl
   generalize hu:Store.kills _ _=u
   have hun:u.next=S2.next:=by rw[← hu]; exact hsn
   have huo:∀ j,j<S1.next→u.obj j=S2.obj j:=fun j hj=>by
    have e:¬ j=w:=by omega
    rw[← hu,dh1,if_pos (by simpa using e)]; exact hso j e
   have g3:Grow u gv' 2 (((ba1 af6 repos).take (i+1)).map Repo.cs):=g2.mono (by omega) fun id hv _=>huo id (gid _ _ hv)
   have x3:Grow u xv 2 (((ba1 ak2 repos).take i).map Repo.cs):=x2.mono (by omega) fun id hv _=>huo id (xid _ _ hv)
   clear hu huo g2 x2 hso hsw hsn
   have hag:=ai2 (σ:=⟨u.next+1,u.obj⟩) (nid:=u.next) (e:=(⟨x.priority,x.packages.map ak2⟩:Repo).cs) (x3.mono (by show u.next≤u.next+1; omega) fun _ _ _=>rfl) (bp8 _) ⟨rfl,rfl⟩ (by rw[e2]; omega)
   have hag:ax4 ⟨u.next+1,u.obj⟩ u.next 2 xv (.tslice [[.int .i64 x.priority,ak6 (x.packages.map ak2)]])=_:=hag
   simp only[go_sem,c1,c2,hget,ay4,f0,f1,ak6]
   rw[hag]
   simp only[go_sem]
   generalize hS3:Store.put _ _ _=S3
   generalize hxv:IV.slice u.next 0 _ 2=xv'
   have s3n:S3.next=u.next+1:=by rw[← hS3]; exact ad7 _
   have x4:Grow S3 xv' 2 (((ba1 ak2 repos).take (i+1)).map Repo.cs):=by
    rw[e1,List.map_append,← hxv]
    have hh:=Grow.new (σ':=S3) (v:=xv) (esz:=2) (nid:=u.next) (es:=((ba1 ak2 repos).take i).map Repo.cs) (e:=(⟨x.priority,x.packages.map ak2⟩:Repo).cs) (by omega) (by rw[← hS3,aa2,if_pos rfl])
    rw[List.length_map] at hh
    exact hh
   have g4:Grow S3 gv' 2 (((ba1 af6 repos).take (i+1)).map Repo.cs):=g3.mono (by omega) fun id hv hid=>by
    have e:¬ id=u.next:=by omega
    rw[← hS3,aa2,if_neg e]
    refine eb5 (gv:=xv) (xv:=gv') (t:=⟨u.next+1,u.obj⟩) ⟨x3.mono (by show u.next≤u.next+1; omega) fun _ _ _=>rfl,g3.mono (by show u.next≤u.next+1; omega) fun _ _ _=>rfl,fun a k b k' h h'=>(n1 b k' a k h' h).symm⟩ hv
   have n4:∀ id k id' k',gv'=.slice id 0 k 2→xv'=.slice id' 0 k' 2→id≠id':=fun id k id' k' h h'=>by
    have:=gid _ _ h
    rw[← hxv] at h'; cases h'; omega
   clear hS3 hxv hag
   refine af3 ?_
   simp only[go_sem,w1]
   exact ⟨hlt,gv',xv',rfl,g4,x4,n4⟩
 have hi':i=repos.length:=by omega
 subst hi'
 have c1:¬ (repos.length:Int)<repos.length:=by omega
 refine ae5 (af3 ?_)
 simp only[go_sem,c1]
 have t1:(ba1 af6 repos).take repos.length=ba1 af6 repos:=List.take_of_length_le (by rw[bi2]; omega)
 have t2:(ba1 ak2 repos).take repos.length=ba1 ak2 repos:=List.take_of_length_le (by rw[bi2]; omega)
 rw[t1,t2] at htw
 have rh:r.cs.head? = some (.int .u8 r.arch):=rfl
 refine ae5 (af3 ?_)
 simp only[go_sem,as6,rh]
 generalize hT:Store.put _ _ _=T
 have hTc:T.obj t.next=some (.cells [.int .u8 r.arch,.bool false,.nilslice,.nilslice,.int .i64 0]):=by rw[← hT,aa2,if_pos rfl]
 have hTn:T.next=t.next+1:=by rw[← hT]; rfl
 have hTo:∀ j,j<t.next→T.obj j=t.obj j:=fun j hj=>by
  have e:¬ j=t.next:=by omega
  rw[← hT]; simp only[aa2,e,if_false]
 have g5:Grow T gv 2 ((ba1 af6 repos).map Repo.cs):=htw.g.mono (by omega) fun id _ hid=>hTo id hid
 have x5:Grow T xv 2 ((ba1 ak2 repos).map Repo.cs):=htw.x.mono (by omega) fun id _ hid=>hTo id hid
 clear hT hTo htw
 have hbr:∀ (S:Nat→Prop) (l:List Repo),∀ e∈l.map Repo.cs,∀ c∈e,Nm S c:=fun S l e he c hc=>by
  obtain ⟨y,_,rfl⟩:=List.mem_map.1 he
  exact (eb3 y c hc).weak fun _ h=>absurd h (Nat.not_lt_zero _)
 refine gh8 (S:=fun _=>false) (fr':=[(1,ak6 inst),(3,.int .i64 n),(4,.int .i64 m),(11,O),(13,V),(15,.func (.func 53) [] []),(16,am5 (ba1 af6 repos)),(17,am5 (ba1 ak2 repos)),(21,.tptr (aq7 r).cs)]) (fun k=>?_) ?_
 ·by_cases h16:k=16
  ·subst h16
   exact .inr (g5.frz (fun x hx=>(bp8 _ x hx).1) (fun _ _=>by simp) (hbr _ _))
  by_cases h17:k=17
  ·subst h17
   exact .inr (x5.frz (fun x hx=>(bp8 _ x hx).1) (fun _ _=>by simp) (hbr _ _))
  by_cases h21:k=21
  ·subst h21
   refine .inr (.ptr t.next 0 _ _ (by simp) (.inl hTc) (Nat.le_refl _) fun j hj=>?_)
   match j,hj with
   | 0,_=>exact .keep _ (.int _ _)
   | 1,_=>exact .keep _ (.bool _)
   | 2,_=>exact .nils
   | 3,_=>exact .nils
   | 4,_=>exact .keep _ (.int _ _)
  ·left
   have d1:(k==16)=false:=by simpa using h16
   have d2:(k==17)=false:=by simpa using h17
   have d3:(k==21)=false:=by simpa using h21
   simp only[Frm.get,List.lookup,d1,d2,d3]
   try rfl
 generalize Store.kills _ _=U
 clear g5 x5 hTc hTn hbr
 subst hOO
 subst hPP
 have hIa:=gj9 (f:=af6) (g:=af6) hI (fun q=>ef2) (fun q=>fq2) (fun q=>ef2) (fun q=>fq2)
 have hIb:=gj9 (f:=ak2) (g:=id) hI (fun q=>ge7) (fun q=>gw1) (fun q h=>h) (fun q h=>h)
 obtain ⟨pa,na,ia,ii,ra,ra'⟩:=fp3 (f:=af6) (g:=af6) hn (fun q=>ee7) (fun q=>ee7)
 obtain ⟨pb,nb,ib,_,rb,rb'⟩:=fp3 (f:=ak2) (g:=id) hn (fun q=>ge3) (fun q h=>h)
 rw[List.map_id] at nb hIb
 have hA:=dc8 (ba1 af6 repos) (inst.map af6) (aq7 r) hIa (bq9 r)
 have hB:=dc8 (ba1 ak2 repos) inst (aq7 r) hIb (bq9 r)
 unfold fo7 at hA hB
 rw[na] at hA
 rw[nb] at hB
 simp only[ca1 he,if_true,List.length_map] at hA hB
 have oa:=ook hIa na (bq9 r) (ca1 he) inst.length
 have ob:=ook hIb nb (bq9 r) (ca1 he) inst.length
 have oo:=ook hI hn hR he inst.length
 have pka:=fp4 ra ra'
 obtain ⟨pkb,prb⟩:=ge4 rb rb'
 have lka:∀ k,(ak1 pa (aq7 r) inst.length).likes k=false:=fun k=>by
  have h1:∀ b∈(ak1 pa (aq7 r) inst.length).liked,b=false:=by
   show ∀ b∈(ab2 pa).map (bi9 (ab2 pa) inst.length),b=false
   rw[pka]
   exact ev8 _ _
  unfold OrdM.likes OrdM.lk
  by_cases hk:k.toNat<(ak1 pa (aq7 r) inst.length).liked.length
  ·rw[h1 _ (aa7 false hk),Bool.and_false]
  ·rw[List.getD_eq_getElem?_getD,List.getElem?_eq_none (by omega)]
   exact Bool.and_false _
 have lkb:(ak1 pb (aq7 r) inst.length).liked=(ak1 p r inst.length).liked:=ev7 pkb inst.length
 have bb:=dw6 (o:=ak1 p r inst.length) (o':=ak1 pb (aq7 r) inst.length) pkb prb rfl lkb n m
 have lb:=fp7 (o:=ak1 p r inst.length) (o':=ak1 pb (aq7 r) inst.length) (by have:=congrArg List.length pkb; exact (by simpa using this:(ab2 pb).length=(ab2 p).length)) lkb n
 have hfit:∀ q∈ab2 p,q.Fit:=(aok hI hn hR he).fit
 have cA1:=ce3 _ oa n
 have cA2:=ce3 _ oa m
 rw[lka] at cA1 cA2
 have cB1:=ax3 _ ob n m
 have cO1:=ax3 _ oo n m
 have cB2:=ce3 _ ob n
 have cO2:=ce3 _ oo n
 rw[bb] at cB1
 rw[lb] at cB2
 have cR1:=cb2 p n
 have cR2:=cb2 p m
 have cP1:=cx4 p n hfit
 have cP2:=cx4 p m hfit
 have hbi:=dn4 inst hI.i1
 have hib:(ak1 p r inst.length).a.is n=true→(ak1 p r inst.length).a.is m=true→p.repoOf n<0→0≤p.repoOf m→((ak1 p r inst.length).a.pk n).arch=((ak1 p r inst.length).a.pk m).arch→(ak1 p r inst.length).better n m=true:=fun h1 h2 h3 h4 h5=>dw7 (o:=ak1 p r inst.length) hn h1 h2 h3 h4 h5
 generalize (ak1 p r inst.length).better n m=bt at *
 generalize (ak1 p r inst.length).likes n=lt at *
 clear bb lb lkb lka
 generalize hOO:(ak1 p r inst.length).v=O at *
 generalize (ak1 pa (aq7 r) inst.length).v=OA at *
 generalize (ak1 pb (aq7 r) inst.length).v=OB at *
 generalize (AskM.mk pa (aq7 r)).v=A1 at *
 generalize (AskM.mk pb (aq7 r)).v=B1 at *
 generalize pa.v=A2 at *
 generalize pb.v=B2 at *
 refine ae5 (ee9 ?_)
 simp only[go_sem,as6,ar3]
 refine aa1 fok53 hbi ?_
 simp only[go_sem,as6,ar3]
 first|refine aa1 fok49 (hA) ?_|refine aa3 (hA) ?_
 simp only[go_sem]
 refine ae5 (af3 ?_)
 simp only[go_sem,as6,ar3]
 first|refine aa1 fok49 (hB) ?_|refine aa3 (hB) ?_
 simp only[go_sem]
 refine ae5 (af3 ?_)
 simp only[go_sem]
 first|refine aa1 fok54 (cA1) ?_|refine aa3 (cA1) ?_
 simp only[go_sem]
 first|refine aa1 fok54 (cA2) ?_|refine aa3 (cA2) ?_
 simp only[go_sem]
 first|refine aa1 fok51 (cB1) ?_|refine aa3 (cB1) ?_
 simp only[go_sem]
 first|refine aa1 fok51 (cO1) ?_|refine aa3 (cO1) ?_
 simp only[go_sem,eb6]
 first|refine aa1 fok54 (cB2) ?_|refine aa3 (cB2) ?_
 simp only[go_sem]
 first|refine aa1 fok54 (cO2) ?_|refine aa3 (cO2) ?_
 simp only[go_sem,eb6]
 obtain ⟨x,e,hx,hx2⟩:=ci8 p r inst.length n
 obtain ⟨y,f,hy,hy2⟩:=ci8 p r inst.length m
 rw[hx] at cP1
 rw[hy] at cP2
 have x4:(x.cs.drop 4).head? = some (.int .u8 x.arch):=rfl
 have y4:(y.cs.drop 4).head? = some (.int .u8 y.arch):=rfl
 clear hA hB cA1 cA2 cB1 cB2 cO2
 refine ae5 (af3 ?_)
 simp only[go_sem]
 first|refine aa1 fok19 (cP1) ?_|refine aa3 (cP1) ?_
 simp only[go_sem,ag2,ah6,ae6]
 refine ae5 (af3 ?_)
 simp only[go_sem]
 first|refine aa1 fok19 (cP2) ?_|refine aa3 (cP2) ?_
 simp only[go_sem,ag2,ah6,ae6]
 refine ae5 (af3 ?_)
 by_cases he1:e=0
 case neg => 
  simp only[go_sem,he1]
  refine af3 ?_
  simp only[go_sem]
  exact ac8 rfl
 by_cases hf1:f=0
 case neg => 
  simp only[go_sem,he1,hf1]
  refine af3 ?_
  simp only[go_sem]
  exact ac8 rfl
 obtain ⟨i1,k1⟩:=hx2 he1
 obtain ⟨i2,k2⟩:=hy2 hf1
 have hib:=hib i1 i2
 rw[k1,k2] at hib
 simp only[go_sem,he1,hf1]
 generalize hZ:Store.mk (U.next+17) _=Z
 have z1:Z.obj (U.next+15)=some (.cells x.cs):=by
  have e:¬ U.next+15=U.next+15+1:=by omega
  rw[← hZ]; simp only[aa2,e,if_false,if_true]
 have z2:Z.obj (U.next+15+1)=some (.cells y.cs):=by rw[← hZ]; simp only[aa2,if_true]
 clear hZ
 first|refine aa1 fok55 (cR1) ?_|refine aa3 (cR1) ?_
 by_cases hr1:0≤p.repoOf n
 case pos=>
  simp only[go_sem,hr1]
  refine af3 ?_
  simp only[go_sem]
  exact ac8 rfl
 simp only[go_sem,hr1]
 first|refine aa1 fok55 (cR2) ?_|refine aa3 (cR2) ?_
 by_cases hr2:p.repoOf m<0
 case pos=>
  simp only[go_sem,hr2]
  refine af3 ?_
  simp only[go_sem]
  exact ac8 rfl
 simp only[go_sem,hr2,z1,z2,x4,y4]
 by_cases ha:x.arch=y.arch
 case neg=>
  simp only[go_sem,ha]
  refine af3 ?_
  simp only[go_sem]
  exact ac8 rfl
 rw[hib (by omega) (by omega) ha] at cO1
 simp only[go_sem,ha]
 first|refine aa1 fok51 (cO1) ?_|refine aa3 (cO1) ?_
 simp only[go_sem]
 refine af3 ?_
 simp only[go_sem]
 exact ac8 rfl
end Go.Id.Tryz
/- MatchEach. Conditions: sizes that fit. -/
namespace Go.Id.Tryz
open Go Go.Id Go.Proofs Go.Id.Md
set_option maxRecDepth 100000
end Go.Id.Tryz
/- Data of a type,read: what they are. Conditions: none; over any program. -/
namespace Go.Id
open Go
variable {H:Type} {enc:TypeId×Value→H} {P:Program} {w:World} {base:Nat} {sp:Nat→Bool} {held:Bool}
def Rdg (enc:TypeId×Value→H)(P:Program)(w:World)(base:Nat)(sp:Nat→Bool)(held:Bool)(n:Nat)(t:TypeId)(d:DataW H):Prop :=
 ∃ cs ps,DataW.trod enc P w base sp held n t cs=some (d,ps)
def WT (P:Program)(t:TypeId)(d:DataW H):Prop:=∀ k∈d.weights P t,k≤reachBytes
theorem az4 {n:Nat}{t:TypeId}{d:DataW H}{k:IntKind}(hu:P.underlying t=some (.int k))(h:Rdg enc P w base sp held n t d):∃ z,d=.lit (.int k z)∧(Lit.int k z).wf=true∧∀ m,n≤m→dv P m t d=some [.int k z]:=by
 obtain ⟨cs,ps,h⟩:=h
 have hn:n≠0:=fun e=>by subst e; simp[DataW.trod] at h
 obtain ⟨z,rfl,hx,hw⟩:=DataW.trod_int hu h
 cases hx
 refine ⟨z,rfl,hw,fun m hm=>?_⟩
 cases m with
 | zero=>omega
 | succ m=>simp only[dv,hu]
theorem ci9 {n:Nat}{t:TypeId}{d:DataW H}(hu:P.underlying t=some .string)(h:Rdg enc P w base sp held n t d)(hw:WT P t d):∃ s:List UInt8,s.length<2^62∧∀ m,n≤m→dv P m t d=some [.str s]:=by
 obtain ⟨cs,ps,h⟩:=h
 have hn:n≠0:=fun e=>by subst e; simp[DataW.trod] at h
 obtain ⟨s,rfl,hx,_⟩:=DataW.trod_string hu h
 cases hx
 refine ⟨s.data.toList,?_,fun m hm=>?_⟩
 ·have:=hw s.data.toList.length (by simp[DataW.weights])
  have:=reachBytes_lt
  omega
 ·cases m with
  | zero=>omega
  | succ m=>simp only[dv,hu]
theorem an2 {n:Nat}{t:TypeId}{d:DataW H}{fs:Array Field}(hu:P.underlying t=some (.struct fs))(h:Rdg enc P w base sp held n t d)(hw:WT P t d) :
  ∃ n' ds,n=n'+1∧d=.agg ds∧ds.length=fs.size∧∀ (i:Nat) (f:Field) (d':DataW H),fs[i]? = some f→ds[i]? = some d'→Rdg enc P w base sp held n' f.type d'∧WT P f.type d':=by
 obtain ⟨cs,ps,h⟩:=h
 obtain ⟨xs,n',rfl,hx,_,hl,hf⟩:=DataW.trod_struct hu h
 cases hx
 refine ⟨n',xs.map (·.1),rfl,rfl,by rw[List.length_map,hl],fun i f d' h1 h2=>⟨?_,fun k hk=>?_⟩⟩
 ·rw[List.getElem?_map] at h2
  cases hxi:xs[i]? with
  | none=>rw[hxi] at h2; cases h2
  | some x=>
   rw[hxi] at h2
   cases h2
   exact ⟨_,x.2,by rw[hf i f h1,hxi]⟩
 ·refine hw k ?_
  simp only[DataW.weights,hu]
  exact DataW.weights_mem_each (j:=i) (t:=f.type) (d:=d') (by rw[List.getElem?_map]; simp[h1]) h2 k hk
theorem cl8 {e:TypeId}{k:Nat}:∀ {l:List (DataW H)} {d:DataW H},d∈l→k∈d.weights P e→k∈DataW.weightsAll P e l:=by
 intro l
 induction l with
 | nil=>intro d h; cases h
 | cons x xs ih=>
  intro d h hk
  simp only[DataW.weightsAll,List.mem_append]
  rcases List.mem_cons.1 h with rfl|h
  ·exact .inl hk
  ·exact .inr (ih h hk)
theorem au4 {α:Type}{n:Nat}{t e:TypeId}{d:DataW H}{c:Nat}(f:α→List IV)(ok:α→Prop)(hu:P.underlying t=some (.slice e))(hc:P.cellsOf e=c)(hc0:c≠0)(hb:1≤P.bytesOf e)(hl:∀ a,(f a).length=c)
  (ih:∀ n' d',n'<n→Rdg enc P w base sp held n' e d'→WT P e d'→∃ a,ok a∧∀ m,n'≤m→dv P m e d'=some (f a))
  (h:Rdg enc P w base sp held n t d) (hw:WT P t d):∃ l:List α,l.length<2^62∧(∀ a∈l,ok a)∧∀ m,n≤m→dv P m t d=some [.tslice (l.map f)]:=by
 obtain ⟨cs,ps,h⟩:=h
 have hn:n≠0:=fun e=>by subst e; simp[DataW.trod] at h
 rcases DataW.trod_slice hu h with ⟨rfl,hx⟩|⟨a,len,cap,elems,rest,n',rfl,rfl,hx,_,_,_,hlen,hel,_,_⟩
 ·cases hx
  refine ⟨[],by simp,fun a ha=>(by cases ha),fun m hm=>?_⟩
  cases m with
  | zero=>omega
  | succ m=>simp only[dv,hu]; rfl
 ·cases hx
  have hsz:elems.length<2^62:=by
   have h1:=hw ((elems.length+rest.length)*P.bytesOf e) (by simp[DataW.weights,hu])
   have h2:(elems.length+rest.length)*1≤(elems.length+rest.length)*P.bytesOf e:=Nat.mul_le_mul_left _ hb
   have:=reachBytes_lt
   omega
  have hel':∀ x∈elems,Rdg enc P w base sp held n' e x.1:=by
   intro x hx
   obtain ⟨i,hi,he⟩:=List.mem_iff_getElem.1 hx
   have h1:=hel i (by omega)
   rw[List.getElem?_eq_getElem hi,he] at h1
   obtain ⟨ci,_,h2⟩:=Option.bind_eq_some_iff.1 h1
   exact ⟨ci,x.2,h2⟩
  have hwe:∀ x∈elems,WT P e x.1:=by
   intro x hx k hk
   refine hw k ?_
   simp only[DataW.weights,hu,List.mem_cons,List.mem_append]
   exact .inr (.inl (cl8 (List.mem_map_of_mem (f:=fun x:DataW H×List MemPlace=>x.1) hx) hk))
  have key:∀ ys:List (DataW H×List MemPlace),(∀ x∈ys,x∈elems)→∃ l:List α,l.length=ys.length∧(∀ a∈l,ok a)∧∀ m,n'≤m→dvS (dv P m e) c (ys.map (·.1))=some (l.map f):=by
   intro ys
   induction ys with
   | nil=>intro _; exact ⟨[],rfl,fun a ha=>(by cases ha),fun m _=>rfl⟩
   | cons y ys ih2=>
    intro hin
    obtain ⟨l,l1,l2,l3⟩:=ih2 fun x hx=>hin x (List.mem_cons_of_mem _ hx)
    have hy:=hin y (List.mem_cons_self ..)
    obtain ⟨a,a1,a2⟩:=ih n' y.1 (Nat.lt_succ_self _) (hel' y hy) (hwe y hy)
    refine ⟨a::l,by simp[l1],fun b hb=>?_,fun m hm=>?_⟩
    ·rcases List.mem_cons.1 hb with rfl|hb
     ·exact a1
     ·exact l2 b hb
    ·simp only[List.map_cons,dvS,a2 m hm,hl a,if_true,l3 m hm]
  obtain ⟨l,l1,l2,l3⟩:=key elems fun x hx=>hx
  refine ⟨l,by omega,l2,fun m hm=>?_⟩
  cases m with
  | zero=>omega
  | succ m=>
   subst hc
   simp only[dv,hu,if_neg hc0,l3 m (by omega)]
end Go.Id
/- The document's data,read. Conditions: none. -/
namespace Go.Id.Tryz
open Go Go.Id Go.Proofs Go.Id.Md
set_option maxRecDepth 100000
variable {H:Type} {enc:TypeId×Value→H} {w:World} {base:Nat} {sp:Nat→Bool} {held:Bool}
abbrev Rd (enc:TypeId×Value→H)(w:World)(base:Nat)(sp:Nat→Bool)(held:Bool):=Rdg enc Tryz.prog w base sp held
theorem fk3 {n:Nat}{d:DataW H}(h:Rd enc w base sp held n 36 d)(hw:WT Tryz.prog 36 d):∃ e:EVR,e.fit∧∀ m,n≤m→dv Tryz.prog m 36 d=some e.cs:=by
 obtain ⟨n',ds,rfl,rfl,hl,hf⟩:=an2 Tryz.underlying36 h hw
 match ds,hl with
 | [d0,d1,d2],_=>
  obtain ⟨r0,w0⟩:=hf 0 _ d0 rfl rfl
  obtain ⟨r1,w1⟩:=hf 1 _ d1 rfl rfl
  obtain ⟨r2,w2⟩:=hf 2 _ d2 rfl rfl
  obtain ⟨z,_,_,e0⟩:=az4 Tryz.underlying3 r0
  obtain ⟨s1,l1,e1⟩:=ci9 Tryz.underlying9 r1 w1
  obtain ⟨s2,l2,e2⟩:=ci9 Tryz.underlying9 r2 w2
  refine ⟨⟨z,s1,s2⟩,⟨l1,l2⟩,fun m hm=>?_⟩
  cases m with
  | zero=>omega
  | succ m=>
   have c3:Tryz.prog.cellsOf 3=1:=by kernel_rfl
   have c9:Tryz.prog.cellsOf 9=1:=by kernel_rfl
   have ct:Tryz.prog.cellsOf 36=3:=by kernel_rfl
   simp only[dv,Tryz.underlying36,List.map_cons,List.map_nil,dvF,e0 m (by omega),e1 m (by omega),e2 m (by omega),List.length_cons,List.length_nil,c3,c9,ct,List.cons_append,List.nil_append,List.append_nil,Nat.reduceAdd,↓reduceIte]
   rfl
theorem hk7 {z:Int}(h:(Lit.int .u8 z).wf=true):0≤z∧z<256:=by
 simp only[Lit.wf,Bool.and_eq_true,decide_eq_true_eq] at h
 have e1:IntKind.u8.min=0:=rfl
 have e2:IntKind.u8.max=255:=rfl
 omega
theorem gq6:Tryz.prog.cellsOf 3=1:=by kernel_rfl
theorem gq7:Tryz.prog.cellsOf 5=1:=by kernel_rfl
theorem ga3:Tryz.prog.cellsOf 9=1:=by kernel_rfl
theorem gq8:Tryz.prog.cellsOf 36=3:=by kernel_rfl
theorem fk4:Tryz.prog.cellsOf 51=5:=by kernel_rfl
theorem fk5:Tryz.prog.cellsOf 89=7:=by kernel_rfl
theorem hk8:Tryz.prog.cellsOf 40=15:=by kernel_rfl
theorem gi7:Tryz.prog.cellsOf 80=2:=by kernel_rfl
theorem hk9:Tryz.prog.cellsOf 37=1:=by kernel_rfl
theorem eb7:Tryz.prog.cellsOf 38=1:=by kernel_rfl
theorem hl7:Tryz.prog.cellsOf 30=1:=by kernel_rfl
theorem hl8:Tryz.prog.cellsOf 23=1:=by kernel_rfl
theorem gi8 {n:Nat}{d:DataW H}(h:Rd enc w base sp held n 51 d)(hw:WT Tryz.prog 51 d):∃ e:Dep,e.fit∧∀ m,n≤m→dv Tryz.prog m 51 d=some e.cs:=by
 obtain ⟨n',ds,rfl,rfl,hl,hf⟩:=an2 Tryz.underlying51 h hw
 match ds,hl with
 | [d0,d1,d2],_=>
  obtain ⟨r0,w0⟩:=hf 0 _ d0 rfl rfl
  obtain ⟨r1,w1⟩:=hf 1 _ d1 rfl rfl
  obtain ⟨r2,w2⟩:=hf 2 _ d2 rfl rfl
  obtain ⟨s0,l0,e0⟩:=ci9 Tryz.underlying9 r0 w0
  obtain ⟨z,_,_,e1⟩:=az4 Tryz.underlying5 r1
  obtain ⟨e,l2,e2⟩:=fk3 r2 w2
  refine ⟨⟨s0,z,e⟩,⟨l0,l2⟩,fun m hm=>?_⟩
  cases m with
  | zero=>omega
  | succ m=>
   simp only[dv,Tryz.underlying51,List.map_cons,List.map_nil,dvF,e0 m (by omega),e1 m (by omega),e2 m (by omega),EVR.cs,List.length_cons,List.length_nil,ga3,gq7,gq8,fk4,List.cons_append,List.nil_append,List.append_nil,Nat.reduceAdd,↓reduceIte]
   rfl
theorem gq9:∀ (n:Nat) (d:DataW H),Rd enc w base sp held n 89 d→WT Tryz.prog 89 d→∃ r:Rich,r.ok∧∀ m,n≤m→dv Tryz.prog m 89 d=some r.cs:=by
 intro n
 induction n using Nat.strongRecOn with
 | ind n ih=>
  intro d h hw
  obtain ⟨n',ds,rfl,rfl,hl,hf⟩:=an2 Tryz.underlying89 h hw
  match ds,hl with
  | [d0,d1,d2],_=>
   obtain ⟨r0,w0⟩:=hf 0 _ d0 rfl rfl
   obtain ⟨r1,w1⟩:=hf 1 _ d1 rfl rfl
   obtain ⟨r2,w2⟩:=hf 2 _ d2 rfl rfl
   obtain ⟨z,_,hz,e0⟩:=az4 Tryz.underlying5 r0
   obtain ⟨e,l1,e1⟩:=gi8 r1 w1
   obtain ⟨l,k1,k2,e2⟩:=au4 Rich.cs Rich.ok Tryz.underlying38 fk5 (by decide) (by decide +kernel) (fun r=>by rw[Rich.cs_eq]; rfl) (fun m d' hm hr hw'=>ih m (by omega) d' hr hw') r2 w2
   have hz':=hk7 hz
   refine ⟨.mk z e l,Rich.ok_mk.2 ⟨hz'.1,hz'.2,l1,k1,k2⟩,fun m hm=>?_⟩
   cases m with
   | zero=>omega
   | succ m=>
    simp only[dv,Tryz.underlying89,List.map_cons,List.map_nil,dvF,e0 m (by omega),e1 m (by omega),e2 m (by omega),Dep.cs,List.length_cons,List.length_nil,eb7,gq7,fk4,fk5,List.cons_append,List.nil_append,List.append_nil,Nat.reduceAdd,↓reduceIte]
    rw[Rich.cs_eq]
    rfl
theorem fk6 {n:Nat}{d:DataW H}(h:Rd enc w base sp held n 37 d)(hw:WT Tryz.prog 37 d):∃ l:List Dep,l.length<2^62∧(∀ a∈l,a.fit)∧∀ m,n≤m→dv Tryz.prog m 37 d=some [deps l]:=
 au4 Dep.cs Dep.fit Tryz.underlying37 fk4 (by decide) (by decide +kernel) (fun _=>rfl) (fun _ _ _ hr hw'=>gi8 hr hw') h hw
theorem aw8 {n:Nat}{d:DataW H}(h:Rd enc w base sp held n 38 d)(hw:WT Tryz.prog 38 d):∃ l:List Rich,l.length<2^62∧(∀ a∈l,a.ok)∧∀ m,n≤m→dv Tryz.prog m 38 d=some [ac5 l]:=
 au4 Rich.cs Rich.ok Tryz.underlying38 fk5 (by decide) (by decide +kernel) (fun r=>by rw[Rich.cs_eq]; rfl) (fun m d' _ hr hw'=>gq9 m d' hr hw') h hw
theorem gr1 {n:Nat}{d:DataW H}(h:Rd enc w base sp held n 30 d)(hw:WT Tryz.prog 30 d):∃ l:List Str,l.length<2^62∧(∀ a∈l,a.length<2^62)∧∀ m,n≤m→dv Tryz.prog m 30 d=some [strs l]:=
 au4 bl6 (fun s:Str=>s.length<2^62) Tryz.underlying30 ga3 (by decide) (by decide +kernel) (fun _=>rfl) (fun _ _ _ hr hw'=>ci9 Tryz.underlying9 hr hw') h hw
theorem hl9 {n:Nat}{d:DataW H}(h:Rd enc w base sp held n 40 d)(hw:WT Tryz.prog 40 d):∃ p:Package,p.Ok∧∀ m,n≤m→dv Tryz.prog m 40 d=some p.cs:=by
 obtain ⟨n',ds,rfl,rfl,hl,hf⟩:=an2 Tryz.underlying40 h hw
 match ds,hl with
 | [d0,d1,d2,d3,d4,d5,d6,d7,d8,d9,d10,d11,d12],_=>
  obtain ⟨r0,w0⟩:=hf 0 _ d0 rfl rfl
  obtain ⟨r1,w1⟩:=hf 1 _ d1 rfl rfl
  obtain ⟨r2,w2⟩:=hf 2 _ d2 rfl rfl
  obtain ⟨r3,w3⟩:=hf 3 _ d3 rfl rfl
  obtain ⟨r4,w4⟩:=hf 4 _ d4 rfl rfl
  obtain ⟨r5,w5⟩:=hf 5 _ d5 rfl rfl
  obtain ⟨r6,w6⟩:=hf 6 _ d6 rfl rfl
  obtain ⟨r7,w7⟩:=hf 7 _ d7 rfl rfl
  obtain ⟨r8,w8⟩:=hf 8 _ d8 rfl rfl
  obtain ⟨r9,w9⟩:=hf 9 _ d9 rfl rfl
  obtain ⟨r10,w10⟩:=hf 10 _ d10 rfl rfl
  obtain ⟨r11,w11⟩:=hf 11 _ d11 rfl rfl
  obtain ⟨r12,w12⟩:=hf 12 _ d12 rfl rfl
  obtain ⟨x0,l0,e0⟩:=ci9 Tryz.underlying9 r0 w0
  obtain ⟨x1,l1,e1⟩:=fk3 r1 w1
  obtain ⟨x2,_,_,e2⟩:=az4 Tryz.underlying5 r2
  obtain ⟨x3,l3,e3⟩:=ci9 Tryz.underlying9 r3 w3
  obtain ⟨x4,l4,k4,e4⟩:=fk6 r4 w4
  obtain ⟨x5,l5,k5,e5⟩:=aw8 r5 w5
  obtain ⟨x6,l6,k6,e6⟩:=aw8 r6 w6
  obtain ⟨x7,l7,k7,e7⟩:=fk6 r7 w7
  obtain ⟨x8,l8,k8,e8⟩:=aw8 r8 w8
  obtain ⟨x9,l9,k9,e9⟩:=aw8 r9 w9
  obtain ⟨x10,l10,k10,e10⟩:=aw8 r10 w10
  obtain ⟨x11,l11,k11,e11⟩:=aw8 r11 w11
  obtain ⟨x12,l12,k12,e12⟩:=gr1 r12 w12
  refine ⟨⟨x0,x1,x2,x3,x4,x5,x6,x7,x8,x9,x10,x11,x12⟩,⟨l0,l3,l1,⟨l4,k4⟩,⟨l7,k7⟩,⟨l12,k12⟩,?_⟩,fun m hm=>?_⟩
  ·intro x hx
   simp only[Package.rows,List.mem_cons,List.not_mem_nil,or_false] at hx
   rcases hx with rfl|rfl|rfl|rfl|rfl|rfl
   ·exact ⟨l5,k5⟩
   ·exact ⟨l6,k6⟩
   ·exact ⟨l8,k8⟩
   ·exact ⟨l9,k9⟩
   ·exact ⟨l10,k10⟩
   ·exact ⟨l11,k11⟩
  cases m with
  | zero=>omega
  | succ m=>
   simp only[dv,Tryz.underlying40,List.map_cons,List.map_nil,dvF,e0 m (by omega),e1 m (by omega),e2 m (by omega),e3 m (by omega),e4 m (by omega),e5 m (by omega),e6 m (by omega),e7 m (by omega),e8 m (by omega),e9 m (by omega),e10 m (by omega),e11 m (by omega),e12 m (by omega),EVR.cs,List.length_cons,List.length_nil,ga3,gq7,gq8,hk9,eb7,hl7,hk8,List.cons_append,List.nil_append,List.append_nil,Nat.reduceAdd,↓reduceIte]
   rfl
theorem rd_pkgs {n:Nat}{d:DataW H}(h:Rd enc w base sp held n 23 d)(hw:WT Tryz.prog 23 d):∃ l:List Package,l.length<2^62∧(∀ a∈l,a.Ok)∧∀ m,n≤m→dv Tryz.prog m 23 d=some [.tslice (l.map Package.cs)]:=
 au4 Package.cs Package.Ok Tryz.underlying23 hk8 (by decide) (by decide +kernel) (fun _=>rfl) (fun _ _ _ hr hw'=>hl9 hr hw') h hw
theorem gr2 {n:Nat}{d:DataW H}(h:Rd enc w base sp held n 80 d)(hw:WT Tryz.prog 80 d):∃ r:Repo,Repo.Ok r∧∀ m,n≤m→dv Tryz.prog m 80 d=some r.cs:=by
 obtain ⟨n',ds,rfl,rfl,hl,hf⟩:=an2 Tryz.underlying80 h hw
 match ds,hl with
 | [d0,d1],_=>
  obtain ⟨r0,w0⟩:=hf 0 _ d0 rfl rfl
  obtain ⟨r1,w1⟩:=hf 1 _ d1 rfl rfl
  obtain ⟨z,_,_,e0⟩:=az4 Tryz.underlying3 r0
  obtain ⟨l,k1,k2,e1⟩:=rd_pkgs r1 w1
  refine ⟨⟨z,l⟩,⟨k1,k2⟩,fun m hm=>?_⟩
  cases m with
  | zero=>omega
  | succ m=>
   simp only[dv,Tryz.underlying80,List.map_cons,List.map_nil,dvF,e0 m (by omega),e1 m (by omega),List.length_cons,List.length_nil,gq6,hl8,gi7,List.cons_append,List.nil_append,List.append_nil,Nat.reduceAdd,↓reduceIte]
   rfl
theorem rd_repos {n:Nat}{d:DataW H}(h:Rd enc w base sp held n 22 d)(hw:WT Tryz.prog 22 d):∃ l:List Repo,l.length<2^62∧(∀ a∈l,Repo.Ok a)∧∀ m,n≤m→dv Tryz.prog m 22 d=some [.tslice (l.map Repo.cs)]:=
 au4 Repo.cs Repo.Ok Tryz.underlying22 gi7 (by decide) (by decide +kernel) (fun _=>rfl) (fun _ _ _ hr hw'=>gr2 hr hw') h hw
end Go.Id.Tryz
/- How much an ideal value counts; what a bound gives for the document's data. Conditions: none; over any program. -/
namespace Go.Id
open Go Go.Id
mutual
def isz:IV→Nat
 | .str s=>s.length+1
 | .tslice es=>ca7 es+1
 | _=>1
def au7:List IV→Nat
 | []=>0
 | c::cs=>isz c+au7 cs
def ca7:List (List IV)→Nat
 | []=>0
 | e::es=>au7 e+ca7 es
end
theorem du6 (a b:List IV):au7 (a++b)=au7 a+au7 b:=by
 induction a with
 | nil=>simp[au7]
 | cons x a ih=>simp only[List.cons_append,au7,ih]; omega
theorem bh6 {α:Type}(f:α→List IV):∀ (l:List α),∀ a∈l,au7 (f a)≤ca7 (l.map f):=by
 intro l
 induction l with
 | nil=>intro a h; cases h
 | cons x l ih=>
  intro a h
  simp only[List.map_cons,ca7]
  rcases List.mem_cons.1 h with rfl|h
  ·omega
  ·have:=ih a h; omega
theorem an3 {α:Type}(f:α→List IV)(hf:∀ a,1≤au7 (f a)):∀ (l:List α),l.length≤ca7 (l.map f):=by
 intro l
 induction l with
 | nil=>simp
 | cons x l ih=>
  simp only[List.map_cons,ca7,List.length_cons]
  have:=hf x
  omega
namespace Md
theorem Dep.szs (d:Dep):au7 d.cs=d.name.length+d.evr.ver.length+d.evr.rel.length+5:=by
 simp only[Dep.cs,au7,isz]; omega
theorem Rich.szs (r:Rich):au7 r.cs=r.dep.name.length+r.dep.evr.ver.length+r.dep.evr.rel.length+ca7 (r.args.map Rich.cs)+7:=by
 rw[Rich.cs_eq]; simp only[au7,isz]; omega
theorem Package.szs (p:Package):au7 p.cs=p.name.length+p.evr.ver.length+p.evr.rel.length+p.vendor.length+ca7 (p.provides.map Dep.cs)+ca7 (p.requires.map Rich.cs)+ca7 (p.conflicts.map Rich.cs)+ca7 (p.obsoletes.map Dep.cs)+ca7 (p.recommends.map Rich.cs)+ca7 (p.supplements.map Rich.cs)+ca7 (p.suggests.map Rich.cs)+ca7 (p.enhances.map Rich.cs)+ca7 (p.files.map bl6)+15:=by
 simp only[Package.cs,au7,isz]; omega
theorem Repo.szs (r:Repo):au7 r.cs=ca7 (r.packages.map Package.cs)+2:=by
 simp only[Repo.cs,au7,isz]; omega
theorem et4 (r:Rich):r.count≤au7 r.cs:=by
 induction r using Rich.ind with
 | h k d xs ih=>
  rw[Rich.szs]
  have:∀ ys:List Rich,(∀ y∈ys,y∈xs)→Rich.counts ys≤ca7 (ys.map Rich.cs):=by
   intro ys
   induction ys with
   | nil=>intro _; simp[Rich.counts]
   | cons y ys ih2=>
    intro h
    have h1:=ih y (h y (List.mem_cons_self ..))
    have h2:=ih2 fun z hz=>h z (List.mem_cons_of_mem _ hz)
    simp only[Rich.counts,List.map_cons,ca7]
    omega
  have:=this xs fun y h=>h
  simp only[Rich.count,Rich.args]
  omega
theorem ga4 (r:Rich):r.ok→au7 r.cs<2^31→r.fit:=by
 induction r using Rich.ind with
 | h k d xs ih=>
  intro ho hs
  obtain ⟨a,b,c,e,f⟩:=Rich.ok_mk.1 ho
  rw[Rich.szs] at hs
  simp only[Rich.args] at hs
  have hl:=an3 Rich.cs (fun r=>by rw[Rich.szs]; omega) xs
  refine Rich.fit_mk.2 ⟨a,b,c,by omega,fun r hr=>ih r hr (f r hr) ?_⟩
  have:=bh6 Rich.cs xs r hr
  omega
theorem fk7 {p:Package}(h:p.Ok)(hs:au7 p.cs<2^31):p.Fit:=by
 rw[Package.szs] at hs
 have l1:=an3 Dep.cs (fun r=>by rw[Dep.szs]; omega) p.provides
 have l2:=an3 Dep.cs (fun r=>by rw[Dep.szs]; omega) p.obsoletes
 have l3:=an3 bl6 (fun r=>by simp only[bl6,au7,isz]; omega) p.files
 have hr:∀ x∈p.rows,ca7 (x.2.map Rich.cs)<2^31:=by
  intro x hx
  simp only[Package.rows,List.mem_cons,List.not_mem_nil,or_false] at hx
  rcases hx with rfl|rfl|rfl|rfl|rfl|rfl<;>simp only[]<;>omega
 exact {
  name:=h.name
  evr:=h.evr
  prov:=⟨by omega,h.prov.2⟩
  obs:=⟨by omega,h.obs.2⟩
  files:=⟨by omega,h.files.2⟩
  rich:=fun x hx=>by
   have h1:=hr x hx
   have h2:=an3 Rich.cs (fun r=>by rw[Rich.szs]; omega) x.2
   refine ⟨by omega,fun r hr'=>?_⟩
   have h3:=bh6 Rich.cs x.2 r hr'
   have h4:=et4 r
   exact ⟨ga4 r ((h.rich x hx).2 r hr') (by omega),by omega⟩ }
theorem fk8 (repos:List Repo):af1 repos≤ca7 (repos.map Repo.cs):=by
 induction repos with
 | nil=>simp[af1]
 | cons r rs ih=>
  have h2:=an3 Package.cs (fun r=>by rw[Package.szs]; omega) r.packages
  have h3:=Repo.szs r
  simp only[af1,List.map_cons,List.sum_cons,ca7] at ih ⊢
  omega
end Md
end Go.Id
/- What a bulk within the bound gives: data whose sizes fit. Conditions: none. -/
namespace Go.Id.Tryz
open Go Go.Id Go.Proofs Go.Id.Md
open Go.Proofs.YtiallonafbejaaaGreatDoor
set_option maxRecDepth 100000
variable {H:Type} {enc:TypeId×Value→H} {w:World} {base:Nat} {sp:Nat→Bool} {held:Bool}
theorem ga5 (d:DataW H):1≤Rows.uptoBulk d:=by
 cases d with
 | lit l=>cases l<;>simp[Rows.uptoBulk]
 | _=>simp[Rows.uptoBulk]
theorem ga6 {r:DataW H→Option (List IV)}{c:Nat}(hr:∀ d cs,r d=some cs→au7 cs≤Rows.uptoBulk d):∀ (ds:List (DataW H)) es,dvS r c ds=some es→ca7 es≤Rows.uptoBulkAll ds:=by
 intro ds
 induction ds with
 | nil=>intro es h; cases h; simp[ca7]
 | cons d ds ih=>
  intro es h
  simp only[dvS] at h
  split at h
  ·rename_i a ha
   split at h
   ·split at h
    ·rename_i b hb
     cases h
     have h1:=hr d a ha
     have h2:=ih b hb
     simp only[ca7,Rows.uptoBulkAll]
     omega
    ·cases h
   ·cases h
  ·cases h
theorem eb8 {r:TypeId→DataW H→Option (List IV)}{P:Program}(hr:∀ t d cs,r t d=some cs→au7 cs≤Rows.uptoBulk d):∀ (fs:List (TypeId×Nat)) (ds:List (DataW H)) (off:Nat) es,dvF r P fs ds off=some es→au7 es≤Rows.uptoBulkAll ds:=by
 intro fs
 induction fs with
 | nil=>
  intro ds off es h
  cases ds with
  | nil=>cases h; simp[au7]
  | cons d ds=>simp[dvF] at h
 | cons f fs ih=>
  intro ds off es h
  cases ds with
  | nil=>simp[dvF] at h
  | cons d ds=>
   simp only[dvF] at h
   split at h
   ·split at h
    ·rename_i a ha
     split at h
     ·split at h
      ·rename_i b hb
       cases h
       have h1:=hr _ d a ha
       have h2:=ih ds _ b hb
       simp only[du6,Rows.uptoBulkAll]
       omega
      ·cases h
     ·cases h
    ·cases h
   ·cases h
theorem bulk_dv {P:Program}:∀ (m:Nat) (t:TypeId) (d:DataW H) cs,dv P m t d=some cs→au7 cs≤Rows.uptoBulk d:=by
 intro m
 induction m with
 | zero=>intro t d cs h; simp[dv] at h
 | succ m ih=>
  intro t d cs h
  have h1:=ga5 d
  simp only[dv] at h
  split at h
  ·cases h; simpa [au7,isz] using h1
  ·cases h; simpa [au7,isz] using h1
  ·cases h; simp[au7,isz,Rows.uptoBulk]
  ·cases h; simpa [au7,isz] using h1
  ·split at h
   ·cases h; simpa [au7,isz] using h1
   ·cases h
  ·cases h; simpa [au7,isz,ca7] using h1
  ·split at h
   ·cases h
   ·split at h
    ·rename_i es he
     cases h
     have:=ga6 (ih _) _ _ he
     simp only[au7,isz,Rows.uptoBulk]
     omega
    ·cases h
  ·split at h
   ·rename_i ivs he
    split at h
    ·cases h
     have:=eb8 (fun t d cs=>ih t d cs) _ _ _ _ he
     simp only[Rows.uptoBulk]
     omega
    ·cases h
   ·cases h
  ·split at h
   ·rename_i ivs he
    split at h
    ·cases h
     have:=eb8 (fun t d cs=>ih t d cs) _ _ _ _ he
     simp only[Rows.uptoBulk]
     omega
    ·cases h
   ·cases h
  ·split at h
   ·split at h
    ·cases h; simpa [au7,isz] using h1
    ·cases h
   ·cases h
  ·cases h
theorem in_ok {repos:List Repo}{inst:List Package}(h1:∀ r∈repos,Repo.Ok r)(h2:∀ p∈inst,p.Ok)(b1:au7 [IV.tslice (repos.map Repo.cs)]≤1048576)(b2:au7 [IV.tslice (inst.map Package.cs)]≤1048576):InOK repos inst:=by
 simp only[au7,isz] at b1 b2
 have l1:=an3 Repo.cs (fun r=>by rw[Repo.szs]; omega) repos
 have l2:=an3 Package.cs (fun r=>by rw[Package.szs]; omega) inst
 have l3:=fk8 repos
 refine ⟨by omega,by omega,by omega,fun r hr=>?_,fun p hp=>?_,h1,h2⟩
 ·have m1:=bh6 Repo.cs repos r hr
  rw[Repo.szs] at m1
  have l4:=an3 Package.cs (fun r=>by rw[Package.szs]; omega) r.packages
  refine ⟨by omega,fun p hp=>fk7 ((h1 r hr).2 p hp) ?_⟩
  have:=bh6 Package.cs r.packages p hp
  omega
 ·have:=bh6 Package.cs inst p hp
  exact fk7 (h2 p hp) (by omega)
end Go.Id.Tryz
