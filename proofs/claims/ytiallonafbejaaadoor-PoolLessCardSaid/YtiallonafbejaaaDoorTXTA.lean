/- Pools of repositories in a row of one's own. Conditions: none. -/
import Derived.Test.YtiallonafbejaaaDoorTXPG2
set_option linter.all false
namespace Go.Id.Tryd
open Go Go.Id Go.Proofs Go.Id.Md
def Keep0 (n0 : Nat) (σ s : Store) : Prop:=∀ i,i < n0→s.obj i=σ.obj i
theorem Keep0.refl (n0 : Nat) (σ : Store) : Keep0 n0 σ σ:=fun _ _ => rfl
theorem Keep0.trans {n0 : Nat} {a b c : Store} (h : Keep0 n0 a b) (g : Keep0 n0 b c) : Keep0 n0 a c:=fun i hi => by rw [g i hi,h i hi]
theorem Keep0.put {n0 : Nat} {a b : Store} (h : Keep0 n0 a b) {i : Nat} (hi : n0≤i) (o : IObj) : Keep0 n0 a (b.put i o):=fun j hj => by
 have e : ¬ j=i:=by omega
 rw [put_obj,if_neg e]; exact h j hj
theorem Keep0.box {n0 : Nat} {a s : Store} (h : Keep0 n0 a s) (hn : n0≤s.next) (A B : IObj) : Keep0 n0 a ⟨s.next+1,((Store.put ⟨s.next+1,s.obj⟩ s.next A).put s.next B).obj⟩ :=
 Keep0.put (b:=Store.put ⟨s.next+1,s.obj⟩ s.next A) (Keep0.put (b:=⟨s.next+1,s.obj⟩) h hn A) hn B
theorem Keep0.app {n0 : Nat} {a b s1 : Store} {nid esz : Nat} {v x v' : IV} (h : Keep0 n0 a b) (ha : appI b nid esz v x=some (v',s1)) (hv : v=.nilslice ∨ ∃ id o n e,v=.slice id o n e∧n0≤id) (hn : n0≤nid) : Keep0 n0 a s1:=by
 unfold appI at ha
 cases hs : srcI b esz x with
 | none => rw [hs] at ha; cases ha
 | some p =>
  obtain ⟨k,xs⟩:=p
  rw [hs] at ha
  simp only at ha
  split at ha
  ·cases ha
  rcases hv with rfl | ⟨id,o,n,e,rfl,hid⟩
  ·simp only at ha
   split at ha
   ·cases ha; exact h
   split at ha
   ·cases ha; exact h.put hn _
   ·cases ha
  ·simp only at ha
   split at ha
   ·split at ha
    ·cases ha; exact h
    split at ha
    ·cases ha
     refine Keep0.put (fun j hj => ?_) hn _
     show (if j=id then none else b.obj j)=_
     rw [if_neg (by omega)]; exact h j hj
    ·cases ha
   ·cases ha
structure Low (n0 : Nat) (L : NmL) (rv : IV) : Prop where
 row : ∀ t∈L,n0≤t.2.2
 rv : rv=.nilslice ∨ ∃ id o n e,rv=.slice id o n e∧n0≤id
theorem Low.cur {n0 : Nat} {L : NmL} {rv : IV} (h : Low n0 L rv) (k : Str) : curV L k=.nilslice ∨ ∃ id o n e,curV L k=.slice id o n e∧n0≤id:=by
 rcases cur_spec L k with ⟨h1,_⟩ | ⟨t,ht,_,h1,_⟩
 ·exact .inl h1
 ·exact .inr ⟨_,_,_,_,h1,h.row t ht⟩
theorem Low.upd {n0 : Nat} {L : NmL} {rv rv' : IV} (h : Low n0 L rv) (hk : (L.map (·.1)).Nodup) (k : Str) (n : Int) {nid : Nat} (hn : n0≤nid) (hr : rv'=.nilslice ∨ ∃ id o n e,rv'=.slice id o n e∧n0≤id) : Low n0 (updM L k n nid) rv' where
 row:=fun t ht => by
  rcases upd_mem hk t ht with ⟨h1,_⟩ | rfl
  ·exact h.row t h1
  ·exact hn
 rv:=hr
def addR (n0 : Nat) (σ : Store) (pp mid : Nat) (rows : List PRow) (inst : Int) (nm : Nms) (l : List Package) (repo prio : Int) : IV→Store→Prop:=fun v s =>
 σ.next≤s.next∧Keep0 n0 σ s∧((l.all pkgMay=true∧v=.int .i64 0∧∃ L rv,nmOf L=nmAll nm rows.length l∧Low n0 L rv∧PS s pp mid (rows ++ rowsOf l repo prio) inst L rv (rows.length+l.length)) ∨ (l.all pkgMay=false∧v=.int .i64 4))
theorem add_low (l : List Package) (hl : l.length < 2 ^ 20) (hf : ∀ p∈l,p.Fit) (repo prio : Int) (σ : Store) (pp mid : Nat) (rows : List PRow) (hr : rows.length < 2 ^ 20) (inst : Int) (L : NmL) (rv : IV) (hp : PS σ pp mid rows inst L rv rows.length) (n0 : Nat) (h0 : n0≤σ.next) (h1 : n0≤pp) (h2 : n0≤mid) (hlo : Low n0 L rv) :
  C Tryd.prog EE 20 [.ptr pp 0,.tslice (l.map Package.cs),.int .i64 repo,.int .i64 prio] σ (addR n0 σ pp mid rows inst (nmOf L) l repo prio):=by
 refine C_f fok20 (Nat.le_of_ble_eq_true rfl) ?_
 simp only [ic20,go_sem]
 refine loop_up noT (fun i fr s => fr=[(0,.ptr pp 0),(2,.int .i64 repo),(3,.int .i64 prio),(11,.tslice (l.map Package.cs)),(12,.int .i64 l.length),(13,.int .i64 i)]∧σ.next≤s.next∧Keep0 n0 σ s∧(l.take i).all pkgMay=true ∧
  ∃ L' rv',Low n0 L' rv'∧nmAll (nmOf L') (rows.length+i) (l.drop i)=nmAll (nmOf L) rows.length l∧PS s pp mid (rows ++ rowsOf (l.take i) repo prio) inst L' rv' (rows.length+i)) l.length ⟨rfl,Nat.le_refl _,.refl _ _,rfl,L,rv,hlo,rfl,by simpa [rowsOf] using hp⟩ ?_
 rintro i fr s hle ⟨rfl,hn,hke,hall,L',rv',hlw,hnm,h⟩
 by_cases hlt : i < l.length
 ·obtain ⟨x,hx,_,hdr,hget,htk⟩:=at_nth l i hlt
  have c1 : (i : Int) < l.length:=by omega
  have c2 : (0 : Int)≤i:=by omega
  have w1:=wrapS (i:=i) (by omega)
  simp only [go_sem,c1,c2,hget,pkg_len,pkg_take,pkg_leaf]
  refine callP_of (pkgMay_pc x (hf x hx)) ?_
  cases hm : pkgMay x with
  | false =>
   have : l.all pkgMay=false:=by rw [List.all_eq_false]; exact ⟨x,hx,by simp [hm]⟩
   simp only [go_sem]
   exact ⟨by simp only [put_next]; omega,Keep0.put (b:=Store.put ⟨s.next+1,s.obj⟩ s.next _) (Keep0.put (b:=⟨s.next+1,s.obj⟩) hke (by omega) _) (by omega) _,.inr ⟨this,rfl⟩⟩
  | true =>
   generalize hS : Store.mk (s.next+1) _=S1
   have hS1 : S1.next=s.next+1:=by rw [← hS]
   have hk1 : Keep0 n0 σ S1:=by
    rw [← hS]
    exact Keep0.put (b:=Store.put ⟨s.next+1,s.obj⟩ s.next _) (Keep0.put (b:=⟨s.next+1,s.obj⟩) hke (by omega) _) (by omega) _
   have hbx : S1.obj s.next=some (.cells x.cs):=by
    rw [← hS]; simp only [put_obj,if_true]
   have g1 : PS S1 pp mid (rows ++ rowsOf (l.take i) repo prio) inst L' rv' (rows.length+i):=h.mono (by omega) fun j hj => by
    have e : ¬ j=s.next:=by omega
    rw [← hS]; simp only [put_obj,e,if_false]
   have hlen:=grow_len (s':=⟨S1.next+21,S1.obj⟩) g1.grow
   have hrl : ((rows ++ rowsOf (l.take i) repo prio).map PRow.cs).length=rows.length+i:=by
    rw [List.length_map,List.length_append,rowsOf,List.length_map,List.length_take]; omega
   rw [hrl] at hlen
   obtain ⟨s2,ha1,ha2,ha3,ha4,hps⟩:=g1.name x.name ((rows.length+i : Nat) : Int) (S1.next+21) (S1.next+19) (by omega) (by omega) (by omega)
   have hlk:=lkp_m (σ:=⟨S1.next+21,S1.obj⟩) g1.map x.name
   simp only [go_sem,Nat.add_assoc,g1.cell,hbx,hlen,pkg_head,hlk]
   rw [ha1]
   simp only [go_sem,Nat.add_assoc]
   rw [mupd_m ha3 x.name ((rows.length+i : Nat) : Int)]
   have g2:=hps (S1.next+21) (by omega)
   have hmb : ¬ s.next=mid:=by have:=h.lt.2; omega
   have hb2 : (s2.put mid (IObj.map (mEs (updM L' x.name ((rows.length+i : Nat) : Int) (S1.next+19))))).obj s.next=some (.cells x.cs):=by
    simp only [put_obj,hmb,if_false]
    exact ha4 _ _ (by omega) hbx
   have hn3 : (s2.put mid (IObj.map (mEs (updM L' x.name ((rows.length+i : Nat) : Int) (S1.next+19))))).next=S1.next+21:=ha2
   have hk3:=(Keep0.app (b:=⟨S1.next+21,S1.obj⟩) hk1 ha1 (hlw.cur _) (by omega)).put h2 (IObj.map (mEs (updM L' x.name ((rows.length+i : Nat) : Int) (S1.next+19))))
   generalize s2.put mid (IObj.map (mEs (updM L' x.name ((rows.length+i : Nat) : Int) (S1.next+19))))=S3 at *
   obtain ⟨s4,hb3,hb4,hb5,hps2⟩:=g2.push ⟨x,repo,prio⟩ (S3.next+15) (S3.next+11) (by show S1.next+21≤_; omega) (by show S1.next+21≤_; omega) (by rw [List.length_append,rowsOf,List.length_map,List.length_take]; omega)
   have hc3:=g2.cell
   simp only at hc3 hb3
   simp only [go_sem,Nat.add_assoc,hc3,hb2,pkg_len,pkg_take,pkg_leaf]
   refine callP_of (pkgCopy_pc x (hf x hx)) ?_
   simp only [go_sem,Nat.add_assoc,pkg_len,pkg_take,pkg_leaf,bl1,bl2,bl3,prow_len,prow_leaf,prow_take,List.append_nil,List.drop_nil]
   rw [hb3]
   have hc4 : s4.obj pp=some (.cells [rv',.int .i64 inst,.map mid]):=by rw [hb5]; exact hc3
   simp only [go_sem,Nat.add_assoc,hc4,w1]
   have hk4:=Keep0.app (b:=⟨S3.next+15,S3.obj⟩) hk3 hb3 hlw.rv (by omega)
   have h5:=hps2 s4.next (by rw [hb4]; omega)
   refine ⟨hlt,by omega,hk4.put h1 _,?_,updM L' x.name ((rows.length+i : Nat) : Int) (S1.next+19),.slice (S3.next+11) 0 ((rows ++ rowsOf (l.take i) repo prio).length+1) 17,hlw.upd h.keys _ _ (by omega) (.inr ⟨_,_,_,_,rfl,by omega⟩),?_,?_⟩
   ·rw [htk,List.all_append,hall]; simp [hm]
   rotate_left
   ·rw [htk,rowsOf_snoc,← List.append_assoc]
    exact h5
   ·rw [← hnm,hdr,nmAll,nmOf_upd,← Nat.add_assoc]
 ·have hi' : i=l.length:=by omega
  subst hi'
  have c1 : ¬ (l.length : Int) < l.length:=by omega
  simp only [go_sem,c1]
  rw [List.take_length] at hall h
  rw [List.drop_length] at hnm
  exact ⟨hn,hke,.inl ⟨hall,rfl,L',rv',hnm,hlw,h⟩⟩
theorem own_at (repos : List Repo) (i : Nat) (a : Repo) (h : i < repos.length) (e : repos.drop i=a :: repos.drop (i+1)) : ((repos.map Repo.cs).flatten.drop (i * 2)).take 2=a.cs∧2≤((repos.map Repo.cs).flatten.drop (i * 2)).length:=by
 have hl : ∀ e∈repos.map Repo.cs,e.length=2:=fun e he => by
  obtain ⟨x,_,rfl⟩:=List.mem_map.1 he; rfl
 have h1:=flat_part hl i (by rw [List.length_map]; exact h)
 have h2:=flat_len hl
 have h3 : repos[i]=a:=by
  have:=List.drop_eq_getElem_cons h
  rw [this] at e; exact (List.cons.inj e).1
 refine ⟨by rw [h1]; simp [List.getD_eq_getElem?_getD,h,h3],?_⟩
 rw [List.length_drop,h2,List.length_map]; omega
theorem PS.frzN {s : Store} {pp mid : Nat} {rows : List PRow} {inst : Int} {L : NmL} {rv : IV} {B : Nat} (h : PS s pp mid rows inst L rv B) {n0 : Nat} (lw : Low n0 L rv) (hpp : n0≤pp) (hmid : n0≤mid) : FrzN s n0 (.ptr pp 0) (Pool.v ⟨rows,inst,nmOf L⟩):=by
 refine .ptr pp 0 _ _ (Nat.not_lt.2 hpp) (.inl h.cell) (Nat.le_refl _) fun j hj => ?_
 have hj3 : j=0 ∨ j=1 ∨ j=2:=by simp only [List.length_cons,List.length_nil] at hj; omega
 rcases hj3 with rfl | rfl | rfl
 ·refine h.grow.frz (fun x hx => (prow_all rows x hx).1) (fun id hv => (by rcases lw.rv with h1 | ⟨_,_,_,_,h1,h2⟩ <;> (rw [h1] at hv; cases hv); exact Nat.not_lt.2 h2)) fun e he c hc => ?_
  obtain ⟨r,_,rfl⟩:=List.mem_map.1 he
  exact (bnd_prow r c hc).weak fun _ h => absurd h (Nat.not_lt_zero _)
 ·exact frz_int _ _
 ·have hat : ∀ i,i < (mEs L).length→∃ t∈L,(mEs L).getD i (.undef,.undef)=(.str t.1,.slice t.2.2 0 t.2.1.length 1)∧(nmV (nmOf L)).getD i (.undef,.undef)=(.str t.1,.tslice (t.2.1.map Md.intC)):=by
   intro i hi
   have hi' : i < L.length:=by simpa [mEs] using hi
   exact ⟨L[i],List.getElem_mem hi',by simp [mEs,List.getD_eq_getElem?_getD,hi'],by simp [nmV,nmOf,List.getD_eq_getElem?_getD,hi']⟩
  refine .map mid (mEs L) (nmV (nmOf L)) (nmV (nmOf L)) (Nat.not_lt.2 hmid) h.map (by simp [nmV,nmOf,mEs]) (List.Perm.refl _) ⟨?_,.str,fun e he => ?_⟩ (fun i hi => ?_) (fun i hi => ?_)
  ·have : (nmV (nmOf L)).map (·.1)=(L.map (·.1)).map IV.str:=by simp [nmV,nmOf]
   rw [this]
   exact List.Pairwise.map _ (fun a b hab e => hab (by cases e; rfl)) h.keys
  ·simp only [nmV,List.mem_map] at he
   obtain ⟨t,_,rfl⟩:=he
   trivial
  ·obtain ⟨t,ht,e1,e2⟩:=hat i hi
   rw [e1,e2]; exact frz_str _
  ·obtain ⟨t,ht,e1,e2⟩:=hat i hi
   rw [e1,e2]
   obtain ⟨r1,r2,_⟩:=h.row t ht
   have hg : Grow s (.slice t.2.2 0 t.2.1.length 1) 1 (t.2.1.map Md.intC):=.inr ⟨t.2.2,by rw [List.length_map],r1,r2⟩
   refine hg.frz (fun x hx => (int_all _ x hx).1) (fun id hv => (IV.slice.inj hv).1 ▸ Nat.not_lt.2 (lw.row t ht)) fun e he c hc => ?_
   obtain ⟨n,_,rfl⟩:=List.mem_map.1 he
   cases hc with
   | head => exact .int _ _
   | tail _ h => cases h
theorem frz_errN {s : Store} {n0 : Nat} (n : Int) : FrzN s n0 (.tuple [.nilptr,.int .i64 n]) (.tuple [.nilptr,.int .i64 n]):=.tuple2 (.cons (.keep _ .nilptr) (.cons (frz_int _ _) .nil))
theorem poolNew_own (repos : List Repo) (inst : List Package) (h1 : repos.length < 2 ^ 20) (h2 : inst.length < 2 ^ 20) (h3 : sumLen repos < 2 ^ 40) (hr : ∀ r∈repos,Repo.Fit r) (hi : ∀ p∈inst,p.Fit) (σ : Store) (rid : Nat) (ho : σ.obj rid=some (.row (repos.map Repo.cs).flatten)) (hr0 : rid < σ.next) :
  C Tryd.prog EE 7 [.slice rid 0 repos.length 2,pkgsV inst] σ (oneQ (newV (newM repos inst)) σ):=by
 have hrow:=fun i (a : Repo) (h : i < repos.length) (e : repos.drop i=a :: repos.drop (i+1)) => own_at repos i a h e
 generalize (repos.map Repo.cs).flatten=F at ho hrow
 refine C_frz fun _ => C_f fok7 (Nat.le_of_ble_eq_true rfl) ?_
 simp only [ic7,go_sem]
 refine loop_up noT (fun i fr s => ∃ n : Nat,fr=[(0,.slice rid 0 repos.length 2),(1,pkgsV inst),(6,.int .i64 n),(16,.slice rid 0 repos.length 2),(17,.int .i64 repos.length),(18,.int .i64 i)]∧n+sumLen (repos.drop i)=inst.length+sumLen repos∧σ.next≤s.next∧Keep0 σ.next σ s) repos.length ⟨inst.length,rfl,rfl,Nat.le_refl _,.refl _ _⟩ ?_
 rintro i fr s hle ⟨n,rfl,hn,hx,hk⟩
 have hos : s.obj rid=some (.row F):=by rw [hk rid hr0]; exact ho
 by_cases hlt : i < repos.length
 ·obtain ⟨a,ha,_,hdr,hget,htk⟩:=at_nth repos i hlt
  have c1 : (i : Int) < repos.length:=by omega
  have c2 : (0 : Int)≤i:=by omega
  have w1:=wrapS (i:=i) (by omega)
  rw [sum_drop repos i a hdr] at hn
  have w2 : IntKind.i64.wrap ((n : Int)+a.packages.length)=((n+a.packages.length : Nat) : Int):=by
   rw [wrap64 (by omega) (by omega)]; omega
  obtain ⟨e1,e2⟩:=hrow i a hlt hdr
  simp only [go_sem,c1,c2,hos,Nat.zero_add,e1,e2,Int.toNat_natCast,repo_len,repo_take,repo_leaf]
  simp only [go_sem,Repo.cs,w1,w2]
  exact ⟨hlt,n+a.packages.length,rfl,by omega,by omega,hk.box hx _ _⟩
 have hi' : i=repos.length:=by omega
 subst hi'
 have c1 : ¬ (repos.length : Int) < repos.length:=by omega
 have hn0 : n=inst.length+sumLen repos:=by rw [List.drop_length] at hn; simpa [sumLen] using hn
 subst hn0
 by_cases b1 : 16 < repos.length
 ·have b1' : (16 : Int) < repos.length:=by omega
  simp only [go_sem,c1,b1',newM,b1,true_or]
  exact ⟨hk,hx,.tuple2 (.cons (.keep _ .nilptr) (.cons (frz_int _ _) .nil))⟩
 have b1' : ¬ (16 : Int) < repos.length:=by omega
 by_cases b2 : 256 < inst.length+sumLen repos
 ·have b2' : (256 : Int) < ((inst.length+sumLen repos : Nat) : Int):=by omega
  simp only [go_sem,c1,b1',b2',newM,b1,b2,or_true]
  exact ⟨hk,hx,.tuple2 (.cons (.keep _ .nilptr) (.cons (frz_int _ _) .nil))⟩
 have b2' : ¬ (256 : Int) < ((inst.length+sumLen repos : Nat) : Int):=by omega
 simp only [go_sem,c1,b1',b2']
 have hp0 : PS ⟨s.next+2,((Store.put ⟨s.next+2,s.obj⟩ s.next (IObj.map [])).put (s.next+1) (IObj.cells [.nilslice,.int .i64 inst.length,.map s.next])).obj⟩ (s.next+1) s.next [] inst.length [] .nilslice 0 :=
  {cell:=by simp only [put_obj,if_true]
   grow:=.inl ⟨rfl,rfl⟩
   map:=by
    have e : ¬ s.next=s.next+1:=by omega
    simp only [put_obj,e,if_false,if_true]; rfl
   row:=fun t ht => by cases ht
   ids:=List.nodup_nil
   keys:=List.nodup_nil
   ne:=fun _ _ h => by cases h
   lt:=⟨by show s.next+1 < s.next+2; omega,by show s.next < s.next+2; omega⟩ }
 have hk2 : Keep0 σ.next σ ⟨s.next+2,((Store.put ⟨s.next+2,s.obj⟩ s.next (IObj.map [])).put (s.next+1) (IObj.cells [.nilslice,.int .i64 inst.length,.map s.next])).obj⟩:=Keep0.put (b:=Store.put ⟨s.next+2,s.obj⟩ s.next (IObj.map [])) (Keep0.put (b:=⟨s.next+2,s.obj⟩) hk hx _) (by omega) _
 refine call_c fok20 (add_low inst h2 hi (-1) 1025 _ (s.next+1) s.next [] (by decide) inst.length [] .nilslice hp0 σ.next (by show σ.next≤s.next+2; omega) (by omega) hx ⟨(fun t ht => by cases ht),.inl rfl⟩) ?_
 rintro v s2 ⟨n2,k2,⟨g1,rfl,L1,rv1,g2,low1,g3⟩ | ⟨g1,rfl⟩⟩
 all_goals replace k2:=hk2.trans k2
 all_goals have n3 : σ.next≤s2.next:=by (have n4 : s.next+2≤s2.next:=n2; omega)
 case inr =>
  refine ⟨n2,?_⟩
  simp only [go_sem,newM,b1,b2,or_self,g1]
  exact ⟨k2,n3,frz_errN _⟩
 refine ⟨n2,?_⟩
 have hres : newM repos inst=match reposFrom 0 repos (rowsOf inst (-1) 1025,nmAll [] 0 inst) with
  | some (rows,nm) => .inl ⟨rows,inst.length,nm⟩
  | none => .inr 4:=by
  simp only [newM,b1,b2,or_self,if_false,g1,Bool.true_eq_false]
  rfl
 rw [hres]
 simp only [go_sem]
 refine loop_up noT (fun i fr t => fr=[(9,.ptr (s.next+1) 0),(46,.slice rid 0 repos.length 2),(47,.int .i64 repos.length),(48,.int .i64 i)]∧σ.next≤t.next∧Keep0 σ.next σ t∧∃ rows L rv,Low σ.next L rv∧PS t (s.next+1) s.next rows inst.length L rv rows.length ∧
  reposFrom 0 repos (rowsOf inst (-1) 1025,nmAll [] 0 inst)=reposFrom i (repos.drop i) (rows,nmOf L)∧rows.length+sumLen (repos.drop i)=inst.length+sumLen repos) repos.length ⟨rfl,n3,k2,rowsOf inst (-1) 1025,L1,rv1,low1,?_,?_,?_⟩ ?_
 ·have e : (rowsOf inst (-1) 1025).length=0+inst.length:=by rw [rowsOf_len]; omega
  rw [e]; exact g3
 ·rw [g2]; rfl
 ·rw [rowsOf_len]; rfl
 rintro i fr t hle ⟨rfl,hx3,k3,rows,L,rv,lw3,hp,hrf,hsum⟩
 have hos3 : t.obj rid=some (.row F):=by rw [k3 rid hr0]; exact ho
 by_cases hlt : i < repos.length
 ·obtain ⟨a,ha,_,hdr,hget,htk⟩:=at_nth repos i hlt
  have c1 : (i : Int) < repos.length:=by omega
  have c2 : (0 : Int)≤i:=by omega
  have w1:=wrapS (i:=i) (by omega)
  rw [sum_drop repos i a hdr] at hsum
  rw [hdr] at hrf
  obtain ⟨e1,e2⟩:=hrow i a hlt hdr
  simp only [go_sem,c1,c2,hos3,Nat.zero_add,e1,e2,Int.toNat_natCast,repo_len,repo_take,repo_leaf]
  by_cases p1 : a.priority < 0
  ·simp only [go_sem,Repo.cs,p1]
   rw [hrf,reposFrom,if_pos (.inl p1)]
   exact ⟨k3.box hx3 _ _,Nat.le_succ_of_le hx3,frz_errN _⟩
  by_cases p2 : 1024 < a.priority
  ·simp only [go_sem,Repo.cs,p1,p2]
   rw [hrf,reposFrom,if_pos (.inr (.inl p2))]
   exact ⟨k3.box hx3 _ _,Nat.le_succ_of_le hx3,frz_errN _⟩
  simp only [go_sem,Repo.cs,p1,p2]
  have hp1 : PS ⟨t.next+1,((Store.put ⟨t.next+1,t.obj⟩ t.next (IObj.cells [.int .i64 0,.nilslice])).put t.next (IObj.cells [.int .i64 a.priority,pkgsV a.packages])).obj⟩ (s.next+1) s.next rows inst.length L rv rows.length:=hp.mono (Nat.le_succ _) fun j hj => by
   have e : ¬ j=t.next:=by omega
   simp only [put_obj,e,if_false]
  refine call_c fok20 (add_low a.packages (hr a ha).1 (hr a ha).2 i a.priority _ (s.next+1) s.next rows (by omega) inst.length L rv hp1 σ.next (by show σ.next≤t.next+1; omega) (by omega) hx lw3) ?_
  rintro v s3 ⟨n5,k5,⟨k1,rfl,L2,rv2,kk2,lw5,kk3⟩ | ⟨k1,rfl⟩⟩
  all_goals replace k5:=(k3.box hx3 _ _).trans k5
  all_goals have n6 : σ.next≤s3.next:=by (have n4 : t.next+1≤s3.next:=n5; omega)
  ·refine ⟨n5,?_⟩
   simp only [go_sem,w1]
   refine ⟨hlt,n6,k5,rows ++ rowsOf a.packages i a.priority,L2,rv2,lw5,?_,?_,?_⟩
   ·rw [List.length_append,rowsOf_len]; exact kk3
   ·rw [hrf,reposFrom,if_neg (by simp [p1,p2,k1]),kk2]
   ·rw [List.length_append,rowsOf_len]; omega
  ·refine ⟨n5,?_⟩
   simp only [go_sem]
   rw [hrf,reposFrom,if_pos (.inr (.inr k1))]
   exact ⟨k5,n6,frz_errN _⟩
 have hi' : i=repos.length:=by omega
 subst hi'
 have c1 : ¬ (repos.length : Int) < repos.length:=by omega
 rw [List.drop_length] at hrf
 simp only [go_sem,c1]
 rw [hrf,reposFrom]
 exact ⟨k3,hx3,.tuple2 (.cons (hp.frzN lw3 (by omega) hx) (.cons (frz_int _ _) .nil))⟩
end Go.Id.Tryd
