/- match.New: what it makes. Conditions: sizes that fit. -/
import Derived.Test.YtiallonafbejaaaGreatDoorTUPX
set_option linter.all false
namespace Go.Id.Tryz
open Go Go.Id Go.Proofs Go.Id.Md
theorem offFold_len : ∀ (ks l : List Str),(ks.foldl offAdd l).length≤l.length+ks.length
 | [],l => Nat.le_refl _
 | k :: ks,l => by
  refine Nat.le_trans (offFold_len ks _) ?_
  have : (offAdd l k).length≤l.length+1:=by
   unfold offAdd; split
   ·omega
   ·simp
  simp only [List.length_cons]; omega
theorem offK_len (p : Package) : (offK p).length≤p.provides.length+p.files.length+1:=by
 refine Nat.le_trans (offFold_len _ _) ?_
 have:=offFold_len (p.provides.map (·.name)) [p.name]
 simp only [List.length_map,List.length_cons,List.length_nil] at this
 omega
theorem matchNew_pc (p : Pool) (hf : ∀ r∈p.rows,r.pkg.Fit) (hlen : p.rows.length≤2 ^ 14) (hs : ∀ r∈p.rows,r.pkg.provides.length+r.pkg.files.length+r.pkg.obsoletes.length+3≤2 ^ 15) :
  PC Tryz.prog EE 80 [p.v] (.tuple [(idxM (p.rows.map (·.pkg))).v,.int .i64 0]):=by
 obtain ⟨pk,hpk0⟩ : ∃ pk,p.rows.map (·.pkg)=pk:=⟨_,rfl⟩
 have hpl : pk.length=p.rows.length:=by rw [← hpk0,List.length_map]
 rw [hpk0]
 obtain ⟨W,hW⟩ : ∃ W : Nat,W=2 ^ 15:=⟨_,rfl⟩
 have hC:=poolCount_pc p
 have hP:=fun (n : Nat) (h : n < p.rows.length) => poolPackage_pc p n h (hf _ (List.getElem_mem h))
 have hb:=bnd_pool p
 obtain ⟨cs,hcs⟩ : ∃ cs,p.v=.tptr cs:=⟨_,rfl⟩
 rw [hcs] at hC hP hb ⊢
 refine PC_e hE fok80 (Nat.le_of_ble_eq_true rfl) (fun a ha => by cases List.mem_singleton.1 ha; exact hb) ?_
 simp only [ic80,go_sem]
 refine call_pc fok17 hC ?_
 simp only [go_sem]
 refine loop_up noT (fun i fr s => fr=[(0,.tptr cs),(4,.ptr 3 0),(19,.int .i64 p.rows.length),(20,.int .i64 i)]∧∃ rv L1 L2 L3 tag,IS s 3 0 1 2 (pk.take i) rv L1 L2 L3 tag (i * W) ∧
  (nmOf L1).Perm (idxM (pk.take i)).prov∧(nmOf L2).Perm (idxM (pk.take i)).names∧(nmOf L3).Perm (idxM (pk.take i)).over) p.rows.length ⟨rfl,.nilslice,[],[],[],(fun i => if i=0 then 1 else if i=1 then 2 else if i=2 then 3 else 4),?_,.refl _,.refl _,.refl _⟩ ?_
 ·have e0 : ∀ (c mid : Nat) (L : NmL) (st : Store) (tag : Nat→Nat),L=[]→st.obj mid=some (.map [])→mid < st.next→tag mid=c→MS st tag c mid L (0 * W):=fun c mid L st tag h1 h2 h3 h4 => by
   subst h1
   exact { map:=h2,row:=fun t ht => (by cases ht),tagr:=fun t ht => (by cases ht),ids:=List.nodup_nil,keys:=List.nodup_nil,lt:=h3,tagm:=h4 }
  refine { cell:=rfl,ltp:=Nat.lt_succ_self 3,grow:=.inl ⟨rfl,rfl⟩,tagr:=fun id n h => (by cases h),m1:=e0 1 0 [] _ _ rfl rfl ?_ rfl,m2:=e0 2 1 [] _ _ rfl rfl ?_ rfl,m3:=e0 3 2 [] _ _ rfl rfl ?_ rfl,tagp:=rfl }
  ·show 0 < 4; decide
  ·show 1 < 4; decide
  ·show 2 < 4; decide
 rintro i fr s hle ⟨rfl,rv,L1,L2,L3,tag,hI,p1,p2,p3⟩
 by_cases hlt : i < p.rows.length
 ·have c1 : (i : Int) < p.rows.length:=by omega
  have c2 : (0 : Int)≤i:=by omega
  have w1:=wrapS (i:=i) (by omega)
  have hQ:=hP i hlt
  have hx : p.rows[i]∈p.rows:=List.getElem_mem hlt
  have hfx:=hf _ hx
  have hsx:=hs _ hx
  have htk : pk.take (i+1)=pk.take i ++ [p.rows[i].pkg]:=by
   rw [← hpk0,List.take_add_one,List.getElem?_map,List.getElem?_eq_getElem hlt]; rfl
  generalize hpk : p.rows[i].pkg=x at *
  simp only [go_sem,c1,c2]
  refine call_pc fok19 hQ ?_
  have e3 : ¬ 3=s.next:=by have:=hI.ltp; omega
  have hiW : i * W+W≤2 ^ 29:=by
   have h1 : i * W+W=(i+1) * W:=(Nat.succ_mul i W).symm
   rw [h1,hW]; omega
  have hWx : x.provides.length+x.files.length+x.obsoletes.length+3≤W:=by rw [hW]; exact hsx
  have e3' : ¬ s.next=3:=fun e => e3 e.symm
  simp only [go_sem,pkg_len,pkg_take,pkg_leaf,e3,hI.cell,Nat.add_assoc]
  generalize hS : Store.put (Store.put _ s.next _) s.next (IObj.cells x.cs)=S1
  have hS1 : S1.next=s.next+1:=by rw [← hS]; rfl
  have hbx : S1.obj s.next=some (.cells x.cs):=by rw [← hS]; simp only [put_obj,if_true]
  have h1 : IS S1 3 0 1 2 (pk.take i) rv L1 L2 L3 tag (i * W):=hI.mono (Nat.le_refl _) (by omega) fun j hj => by
   have e : ¬ j=s.next:=by omega
   rw [← hS]; simp only [put_obj,e,if_false]
  clear hS
  have hal : (pk.take i).length=i:=by rw [List.length_take]; omega
  obtain ⟨t1,ha1,ha2,ha3,ha4,hps⟩:=h1.push x (s.next+12) (s.next+8) (by omega) (by omega) (by rw [hal]; omega)
  rw [hal] at ha1 hps
  rw [ha1]
  have hc1 : t1.obj 3=some (.cells [rv,.map 0,.map 1,.map 2]):=by rw [ha3]; exact h1.cell
  have hb1 : t1.obj s.next=some (.cells x.cs):=ha4 _ _ (by omega) hbx (fun _ e => by cases e)
  have h2:=hps t1.next (by omega)
  generalize hX : (IObj.cells [.slice (s.next+8) 0 (i+1) 15,.map 0,.map 1,.map 2])=X at hps h2
  have hlk2 : ∀ m,lkpI ⟨m,(t1.put 3 X).obj⟩ 2 .nilslice false (.map 1) (.str x.name)=some (curV L2 x.name):=fun m => lkp_m (σ:=⟨m,(t1.put 3 X).obj⟩) h2.m2.map x.name
  obtain ⟨t2,ib1,ib2,ib3,ib4,hpt⟩:=h2.m2.upd x.name (i : Int) (t1.next+17) (t1.next+15) (by show t1.next≤_; omega) (by show t1.next≤_; omega) (by omega)
  simp only at ib1 ib3
  subst hX
  simp only [go_sem,e3',hc1,hb1,pkg_head,hlk2,ib1,Nat.add_assoc]
  rw [mupd_m ib3 x.name (i : Int) (t1.next+15)]
  have g3 : 3 < s.next:=hI.ltp
  have hb2 : (t2.put 1 (IObj.map (mEs (updM L2 x.name (i : Int) (t1.next+15))))).obj s.next=some (.cells x.cs):=by
   have e : ¬ s.next=1:=by omega
   simp only [put_obj,e,if_false]
   refine ib4 _ _ (by show s.next < t1.next; omega) ?_ (fun _ e => by cases e)
   simp only [put_obj,e3',if_false]; exact hb1
  have hn2 : (t2.put 1 (IObj.map (mEs (updM L2 x.name (i : Int) (t1.next+15))))).next=t1.next+17:=ib2
  have hpt':=hpt (t2.put 1 (IObj.map (mEs (updM L2 x.name (i : Int) (t1.next+15))))).next (by rw [hn2]; omega)
  have h3:=h2.of2 (s':=t2.put 1 (IObj.map (mEs (updM L2 x.name (i : Int) (t1.next+15))))) (nid:=t1.next+15) (by rw [hn2]; show t1.next≤_; omega) (by show t1.next≤_; omega) hpt'.1 hpt'.2
  clear hpt'
  have q2 : (nmOf (updM L2 x.name (i : Int) (t1.next+15))).Perm (nmAdd (idxM (pk.take i)).names x.name i):=by
   rw [nmOf_upd]; exact nmAdd_perm (by show ((nmOf L2).map (·.1)).Nodup; unfold nmOf; rw [List.map_map]; exact hI.m2.keys) p2
  generalize updM L2 x.name (i : Int) (t1.next+15)=L2' at *
  generalize t2.put 1 (IObj.map (mEs L2'))=S2 at *
  generalize tagU (tagU tag 0 (s.next+8)) 2 (t1.next+15)=tag2 at *
  clear hpt hps ib1 ib2 ib3 ib4 hlk2
  simp only [go_sem,hb2,pkg_len,pkg_take,pkg_leaf]
  refine call_pc fok146 (offered_pc x hfx) ?_
  simp only [go_sem,Nat.add_assoc]
  clear h1 h2 ha4 ha3 hc1 hb1 ha1 p2
  have hkn1 : KN (idxM (pk.take i)).prov:=KN.perm (nm:=nmOf L1) (by show ((nmOf L1).map (·.1)).Nodup; unfold nmOf; rw [List.map_map]; exact hI.m1.keys) p1
  have hol : (offK x).length≤x.provides.length+x.files.length+1:=offK_len x
  have hidx : idxM (pk.take (i+1))=idxAdd (idxM (pk.take i)) i x:=by
   rw [htk]; unfold idxM; rw [idxFrom_snoc,hal,Nat.zero_add]
  generalize pk.take i ++ [x]=allI at *
  generalize IV.slice (s.next+8) 0 (i+1) 15=rv2 at *
  have hsm : ¬ s.next=S2.next:=by omega
  refine loop_up noT (fun j fr t => fr=[(0,.tptr cs),(4,.ptr 3 0),(5,.int .i64 i),(6,.ptr s.next 0),(19,.int .i64 p.rows.length),(20,.int .i64 i),(60,.ptr S2.next 0)]∧S2.next+1≤t.next∧t.obj s.next=some (.cells x.cs) ∧
   ∃ done left cur L tg,(done ++ left).Perm (offK x)∧done.length=j∧t.obj S2.next=some (.miter (left.map sE) cur)∧IS t 3 0 1 2 allI rv2 L L2' L3 tg (i * W+1+j)∧(nmOf L).Perm (addAll (idxM (pk.take i)).prov done i)) (offK x).length
   ⟨rfl,Nat.le_refl _,?_,[],offK x,none,L1,tag2,.refl _,rfl,?_,?_,p1⟩ ?_
  ·simp only [put_obj,hsm,if_false]; exact hb2
  ·simp only [put_obj,if_true]
  ·refine h3.mono (Nat.le_refl _) (by show S2.next≤S2.next+1; omega) fun j hj => ?_
   have e : ¬ j=S2.next:=by omega
   simp only [put_obj,e,if_false]
  rintro j fr t hjle ⟨rfl,hnt,hbt,done,left,cur,L,tg,hpm,hdl,hmi,hIt,hpL⟩
  have hll : done.length+left.length=(offK x).length:=by rw [← hpm.length_eq,List.length_append]
  simp only [go_sem,mn_at hmi]
  refine ⟨fun hnil => ?_,fun k hk => ?_⟩
  ·have hl0 : left=[]:=by simpa using hnil
   subst hl0
   rw [List.append_nil] at hpm
   have q1:=hpL.trans (addAll_order hpm hkn1)
   simp only [go_sem,hbt,Package.cs,e_lO1]
   have hjl : j=(offK x).length:=by rw [← hdl]; simpa using hll
   subst hjl
   clear hmi hbt hpL hpm hll hdl
   refine loop_up noT (fun j fr u => fr=[(0,.tptr cs),(4,.ptr 3 0),(5,.int .i64 i),(19,.int .i64 p.rows.length),(20,.int .i64 i),(80,deps x.obsoletes),(81,.int .i64 x.obsoletes.length),(82,.int .i64 j)] ∧
    ∃ L3' tg',IS u 3 0 1 2 allI rv2 L L2' L3' tg' (i * W+1+(offK x).length+j)∧(nmOf L3').Perm (overAll (idxM (pk.take i)).over ((x.obsoletes.take j).map (·.name)) i)) x.obsoletes.length ⟨rfl,L3,tg,hIt,p3⟩ ?_
   rintro j fr u hjo ⟨rfl,L3',tg',hIu,r3⟩
   have hkn3 : KN (nmOf L3'):=by show ((nmOf L3').map (·.1)).Nodup; unfold nmOf; rw [List.map_map]; exact hIu.m3.keys
   by_cases hjlt : j < x.obsoletes.length
   ·obtain ⟨d,hd,_,hdr,hget,htk2⟩:=at_nth x.obsoletes j hjlt
    have d1 : (j : Int) < x.obsoletes.length:=by omega
    have d2 : (0 : Int)≤j:=by omega
    have w2:=wrapS (i:=j) (by omega)
    have g3u:=hIu.ltp
    have f3 : ¬ 3=u.next:=by omega
    simp only [go_sem,d1,d2,hget,Dep.cs,f3,hIu.cell,Nat.add_assoc]
    generalize hU : Store.put (Store.put _ u.next _) u.next _=U
    have hUn : U.next=u.next+1:=by rw [← hU]; rfl
    have hUd : U.obj u.next=some (.cells [.str d.name,.int .u8 d.op,.int .i64 d.evr.epoch,.str d.evr.ver,.str d.evr.rel]):=by rw [← hU]; simp only [put_obj,if_true]
    have hIU : IS U 3 0 1 2 allI rv2 L L2' L3' tg' (i * W+1+(offK x).length+j):=hIu.mono (Nat.le_refl _) (by omega) fun a ha => by
     have e : ¬ a=u.next:=by omega
     rw [← hU]; simp only [put_obj,e,if_false]
    clear hU
    have hlk : ∀ m,lkpI ⟨m,U.obj⟩ 2 .nilslice false (.map 2) (.str d.name)=some (curV L3' d.name):=fun m => lkp_m (σ:=⟨m,U.obj⟩) hIU.m3.map d.name
    simp only [go_sem,hlk]
    obtain ⟨hcg,hcl⟩:=hIU.m3.cur d.name (u.next+11) (by omega)
    have hfz : FrzN (⟨u.next+11,U.obj⟩ : Store) 0 (curV L3' d.name) (.tslice ((curL L3' d.name).map Md.intC)):=hcg.frz (fun y hy => (int_all _ y hy).1) (fun _ _ => Nat.not_lt_zero _) fun e he c hc => by
     obtain ⟨n,_,rfl⟩:=List.mem_map.1 he
     cases hc with
     | head => exact .int _ _
     | tail _ h => cases h
    have hat:=(FrzL.cons hfz (FrzL.cons (frz_int .i64 (i : Int)) .nil)).at
    refine call_c fok147 (C_still hE hat.1 hat.2 (by simp [IV.plain]) (hasInt_pc (curL L3' d.name) i (by omega))) ?_
    rintro v' s' ⟨rfl,rfl⟩
    refine ⟨Nat.le_refl _,?_⟩
    have hin : (i : Int)∈nmLook (overAll (idxM (pk.take i)).over ((x.obsoletes.take j).map (·.name)) i) d.name ↔ (i : Int)∈curL L3' d.name:=by
     rw [← nmLook_perm hkn3 r3,nmLook_cur]
    cases hc : decide ((i : Int)∈curL L3' d.name) with
    | true =>
     have hc' : (i : Int)∈curL L3' d.name:=of_decide_eq_true hc
     simp only [go_sem,w2]
     refine ⟨hjlt,L3',tg',?_,?_⟩
     ·have:=hIU.mono (s':=⟨u.next+11,U.obj⟩) (Nat.le_succ _) (by show U.next≤u.next+11; omega) fun _ _ => rfl
      simpa only [Nat.add_assoc,Nat.succ_eq_add_one] using this
     ·rw [htk2,List.map_append,List.map_cons,List.map_nil,overAll_snoc,if_pos (hin.2 hc')]; exact r3
    | false =>
     have hc' : ¬ (i : Int)∈curL L3' d.name:=of_decide_eq_false hc
     obtain ⟨t5,jb1,jb2,jb3,jb4,jpt⟩:=hIU.m3.upd d.name (i : Int) (u.next+28) (u.next+26) (by omega) (by omega) (by omega)
     simp only [go_sem,hIU.cell,hUd,hlk,jb1,Nat.add_assoc]
     rw [mupd_m jb3 d.name (i : Int) (u.next+26)]
     have hn5 : (t5.put 2 (IObj.map (mEs (updM L3' d.name (i : Int) (u.next+26))))).next=u.next+28:=jb2
     have jpt':=jpt (t5.put 2 (IObj.map (mEs (updM L3' d.name (i : Int) (u.next+26))))).next (by rw [hn5]; omega)
     have hI5:=hIU.of3 (s':=t5.put 2 (IObj.map (mEs (updM L3' d.name (i : Int) (u.next+26))))) (nid:=u.next+26) (by rw [hn5]; omega) (by omega) jpt'.1 jpt'.2
     have hq : (nmOf (updM L3' d.name (i : Int) (u.next+26))).Perm (nmAdd (overAll (idxM (pk.take i)).over ((x.obsoletes.take j).map (·.name)) i) d.name i):=by
      rw [nmOf_upd]
      exact nmAdd_perm hkn3 r3
     clear jpt jpt' jb1 jb3 jb4
     generalize t5.put 2 (IObj.map (mEs (updM L3' d.name (i : Int) (u.next+26))))=T5 at *
     simp only [go_sem,w2]
     refine ⟨hjlt,updM L3' d.name (i : Int) (u.next+26),_,by simpa only [Nat.add_assoc] using hI5,?_⟩
     rw [htk2,List.map_append,List.map_cons,List.map_nil,overAll_snoc,if_neg (fun e => hc' (hin.1 e))]; exact hq
   ·have hj' : j=x.obsoletes.length:=by omega
    subst hj'
    have d1 : ¬ (x.obsoletes.length : Int) < x.obsoletes.length:=by omega
    rw [List.take_length] at r3
    simp only [go_sem,d1,w1]
    refine ⟨hlt,rv2,L,L2',L3',tg',?_,?_,?_,?_⟩
    ·rw [htk]
     have hle2 : i * W+1+(offK x).length+x.obsoletes.length≤(i+1) * W:=by rw [Nat.succ_mul]; omega
     exact hIu.mono hle2 (Nat.le_refl _) fun _ _ => rfl
    ·rw [hidx]; exact q1
    ·rw [hidx]; exact q2
    ·rw [hidx]; exact r3
  ·have hge : (left.map sE).getD k (.undef,.undef)=sE left[k]:=by simp [List.getD_eq_getElem?_getD,hk]
   rw [hge,map_erase]
   generalize hT : Store.put t S2.next (IObj.miter ((left.eraseIdx k).map sE) (some (sE left[k])))=T
   have hTn : T.next=t.next:=by rw [← hT]; rfl
   have hTm : T.obj S2.next=some (.miter ((left.eraseIdx k).map sE) (some (sE left[k]))):=by rw [← hT]; simp only [put_obj,if_true]
   have hTb : T.obj s.next=some (.cells x.cs):=by rw [← hT]; simp only [put_obj,hsm,if_false]; exact hbt
   have hIT : IS T 3 0 1 2 allI rv2 L L2' L3 tg (i * W+1+j):=hIt.keep2 (Nat.le_refl _) (by omega) fun a o ha hao hne => by
    rw [← hT]
    have e : ¬ a=S2.next:=fun e => by subst e; rw [hmi] at hao; cases hao; exact hne _ _ rfl
    simp only [put_obj,e,if_false]; exact hao
   clear hT
   generalize hkey : left[k]=key at *
   obtain ⟨t3,ib1,ib2,ib3,ib4,hpt⟩:=hIT.m1.upd key (i : Int) (t.next+15) (t.next+13) (by omega) (by omega) (by omega)
   have hlk : ∀ m,lkpI ⟨m,T.obj⟩ 2 .nilslice false (.map 0) (.str key)=some (curV L key):=fun m => lkp_m (σ:=⟨m,T.obj⟩) hIT.m1.map key
   have hme : ∀ m,mentI ⟨m,T.obj⟩ (.ptr S2.next 0)=some (.tuple [.str key,.agg []]):=fun m => me_at (s:=⟨m,T.obj⟩) hTm
   simp only [go_sem,hme,hIT.cell,hlk,ib1,Nat.add_assoc]
   rw [mupd_m ib3 key (i : Int) (t.next+13)]
   have hn4 : (t3.put 0 (IObj.map (mEs (updM L key (i : Int) (t.next+13))))).next=t.next+15:=ib2
   have hpt':=hpt (t3.put 0 (IObj.map (mEs (updM L key (i : Int) (t.next+13))))).next (by rw [hn4]; omega)
   have hI4:=hIT.of1 (s':=t3.put 0 (IObj.map (mEs (updM L key (i : Int) (t.next+13))))) (nid:=t.next+13) (by rw [hn4]; omega) (by omega) hpt'.1 hpt'.2
   have hmi4 : (t3.put 0 (IObj.map (mEs (updM L key (i : Int) (t.next+13))))).obj S2.next=some (.miter ((left.eraseIdx k).map sE) (some (sE key))):=by
    have e : ¬ S2.next=0:=by omega
    simp only [put_obj,e,if_false]
    exact ib4 _ _ (by omega) hTm (fun _ e => by cases e)
   have hb4 : (t3.put 0 (IObj.map (mEs (updM L key (i : Int) (t.next+13))))).obj s.next=some (.cells x.cs):=by
    have e : ¬ s.next=0:=by omega
    simp only [put_obj,e,if_false]
    exact ib4 _ _ (by omega) hTb (fun _ e => by cases e)
   have hq : (nmOf (updM L key (i : Int) (t.next+13))).Perm (addAll (idxM (pk.take i)).prov (done ++ [key]) i):=by
    rw [nmOf_upd,addAll_snoc]
    exact nmAdd_perm (by show ((nmOf L).map (·.1)).Nodup; unfold nmOf; rw [List.map_map]; exact hIT.m1.keys) hpL
   clear hpt hpt' ib1 ib3 ib4
   generalize t3.put 0 (IObj.map (mEs (updM L key (i : Int) (t.next+13))))=T4 at *
   simp only [go_sem]
   refine ⟨by omega,by omega,hb4,done ++ [key],left.eraseIdx k,some (sE key),updM L key (i : Int) (t.next+13),_,?_,by rw [List.length_append,hdl]; rfl,hmi4,by simpa only [Nat.add_assoc] using hI4,hq⟩
   rw [List.append_assoc]
   refine List.Perm.trans (List.Perm.append_left done ?_) hpm
   rw [← hkey]
   exact (perm_erase left k hk).symm
 ·have hi' : i=p.rows.length:=by omega
  subst hi'
  have c1 : ¬ (p.rows.length : Int) < p.rows.length:=by omega
  rw [← hpl,List.take_length] at hI p1 p2 p3
  simp only [go_sem,c1]
  refine .tuple2 (.cons ?_ (.cons (frz_int _ _) .nil))
  have hall : ∀ (l : List Package) (y : Index) (n : Nat),(idxFrom y n l).all=y.all ++ l:=by
   intro l
   induction l with
   | nil => intro y n; simp [idxFrom]
   | cons a l ih => intro y n; simp only [idxFrom,ih,idxAdd]; simp
  exact hI.frz (by unfold idxM; rw [hall]; rfl) p1 p2 p3
end Go.Id.Tryz
