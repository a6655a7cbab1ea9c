/- The ideal values,the ideal store,how they stand for the model's values and world; what a step of the world keeps. Conditions: none; over any program. -/
import Derived.RangeFuncLeaves
import Derived.OrdersIn
import Derived.LoopNIn
import Derived.TacticsIn
import Derived.WalkKit
set_option linter.all false
namespace Go.Id
inductive IV where
 | undef
 | bool (b:Bool)
 | int (k:IntKind) (n:Int)
 | str (s:List UInt8)
 | af2
 | ptr (id off:Nat)
 | ad4 (cs:List IV)
 | aa1
 | ac2
 | ae5
 | slice (id off len esz:Nat)
 | aa3 (es:List (List IV))
 | ae1
 | map (id:Nat)
 | al4 (es:List (IV×IV))
 | func (fn:Fn) (first cap:List IV)
 | yield (id:Nat)
 | af3
 | iface (t:Nat) (v:IV)
 | af5
 | agg (cs:List IV)
 | tuple (vs:List IV)
 | af1 (id off len esz:Nat)
 | ae2 (id off len room esz:Nat)
 deriving Inhabited
inductive ak4 where
 | cells (cs:List IV)
 | row (cs:List IV)
 | map (es:List (IV×IV))
 | az2 (s:List UInt8) (pos:Nat)
 | loop (N:Nat) (tmps:List (Nat×IV)) (params:Array Tmp) (assign body:Code) (st:LoopState) (pend:Option Code)
 | av4 (left:List (IV×IV)) (cur:Option (IV×IV))
 deriving Inhabited
inductive dj8 where
 | no
 | dead
 | at (B d:Nat)
structure Store where
 next:Nat
 obj:Nat->Option ak4
structure Rho where
 map:Nat->dj8
 X:Nat->Prop
instance:CoeFun Rho (fun _=>Nat->dj8):=⟨Rho.map⟩
structure UB (ρ:Rho) (w:World) (b:Nat):Prop where
 lt:b<w.heap.size
 no:∀ i d,ρ i≠.at b d
structure FB (ρ:Rho) (w:World) (b:Nat):Prop where
 lt:b<w.heap.size
 no:∀ i d,ρ i≠.at b d
 x:¬ ρ.X b
theorem FB.ub {ρ:Rho}{w:World}{b:Nat}(h:FB ρ w b):UB ρ w b:=⟨h.1,h.2⟩
inductive KK where
 | str
 | int (k:IntKind)
 | agg (ks:List IntKind)
def dc7:KK->IV->Prop
 | .str,.str _=>True
 | .int k,.int k' _=>k'=k
 | .agg ks,.agg cs=>cs.length=ks.length/\∀ i,i<cs.length->∃ n,cs.getD i .undef=.int (ks.getD i .i64) n
 | _,_=>False
def cs4 (es:List (IV×IV)):Prop:=(es.map (·.1)).Nodup/\∃ K,∀ e∈es,dc7 K e.1
inductive VR (ρ:Rho) (w:World):IV->Value->Prop
 | undef (r:Value):VR ρ w .undef r
 | bool (b:Bool):VR ρ w (.bool b) (.bool b)
 | int (k:IntKind) (n:Int):VR ρ w (.int k n) (.int k n)
 | str (s:List UInt8):VR ρ w (.str s) (.string ⟨s.toArray⟩)
 | af2:VR ρ w .af2 (.pointer none)
 | ptr (id off B d:Nat) (h:ρ id=.at B d):VR ρ w (.ptr id off) (.pointer (some ⟨B,d+off,none⟩))
 | ci9 (id off:Nat) (ad:Addr) (h:ρ id=.dead):VR ρ w (.ptr id off) (.pointer (some ad))
 | ad4 (cs:List IV) (b o:Nat) (vs:Nat->Value) (hf:FB ρ w b)
   (hc:∀ j,j<cs.length->w.cell? ⟨b,o+j,none⟩=some (vs j)) (hv:∀ j,j<cs.length->VR ρ w (cs.getD j .undef) (vs j)) :
   VR ρ w (.ad4 cs) (.pointer (some ⟨b,o,none⟩))
 | aa1:VR ρ w .aa1 (.slice none 0 0)
 | ac2 (a:Addr):VR ρ w .ac2 (.slice (some a) 0 0)
 | ae5 (a:Addr) (cap:Nat):VR ρ w .ae5 (.slice (some a) 0 cap)
 | slice (id off len esz B d cap:Nat) (rcs:Array Value) (el:TypeId) (fz:Nat×Nat) (h:ρ id=.at B d)
   (hb:w.heap[B]? = some (.cells rcs el fz)) (hsz:d+off+cap*esz<=rcs.size) (hle:len<=cap) :
   VR ρ w (.slice id off len esz) (.slice (some ⟨B,d+off,none⟩) len cap)
 | ag3 (id off esz B d:Nat) (a:Addr) (h:ρ id=.at B d):VR ρ w (.slice id off 0 esz) (.slice (some a) 0 0)
 | ag4 (id off len esz cap:Nat) (ad:Addr) (h:ρ id=.dead) (hle:len<=cap):VR ρ w (.slice id off len esz) (.slice (some ad) len cap)
 | aa3 (es:List (List IV)) (b o cap esz:Nat) (sp:Option Nat) (vs:Nat->Nat->Value) (hf:es≠[]->FB ρ w b/\sp=none)
   (hsz:∀ i,i<es.length->(es.getD i []).length=esz)
   (hc:∀ i,i<es.length->∀ j,j<esz->w.cell? ⟨b,o+(i*esz+j),none⟩=some (vs i j))
   (hv:∀ i,i<es.length->∀ j,j<esz->VR ρ w ((es.getD i []).getD j .undef) (vs i j)) (hle:es.length<=cap) :
   VR ρ w (.aa3 es) (.slice (some ⟨b,o,sp⟩) es.length cap)
 | bw1:VR ρ w (.aa3 []) (.slice none 0 0)
 | ae1:VR ρ w .ae1 (.map none)
 | map (id B d:Nat) (h:ρ id=.at B d):VR ρ w (.map id) (.map (some B))
 | mapD (id B:Nat) (h:ρ id=.dead):VR ρ w (.map id) (.map (some B))
 | al4 (es es':List (IV×IV)) (b:Nat) (mes:Array MapEntry) (clock:Nat) (hp:es'.Perm es) (hd:cs4 es) (hf:FB ρ w b) (hb:w.heap[b]? = some (.map mes clock)) (hl:es'.length=mes.size)
   (hk:∀ i,i<es'.length->VR ρ w (es'.getD i (.undef,.undef)).1 (mes.getD i default).key) (hv:∀ i,i<es'.length->VR ρ w (es'.getD i (.undef,.undef)).2 (mes.getD i default).val)
   (h4:∀ i,i<mes.size->(mes.getD i default).born<clock) (h5:∀ i j,i<j->j<mes.size->(mes.getD i default).born≠(mes.getD j default).born):VR ρ w (.al4 es) (.map (some b))
 | func (fn:Fn) (first cap:List IV) (rf rc:Array Value) (hy:∀ l,fn≠.yield l) (h1:first.length=rf.size) (h2:cap.length=rc.size)
   (hf:∀ i,i<first.length->VR ρ w (first.getD i .undef) (rf.getD i undef)) (hc:∀ i,i<cap.length->VR ρ w (cap.getD i .undef) (rc.getD i undef)) :
   VR ρ w (.func fn first cap) (.func fn rf rc)
 | yield (id B d:Nat) (h:ρ id=.at B d):VR ρ w (.yield id) (.func (.yield B) #[] #[])
 | aw6 (id B:Nat) (h:ρ id=.dead):VR ρ w (.yield id) (.func (.yield B) #[] #[])
 | af3:VR ρ w .af3 .nilFunc
 | iface (t:Nat) (v:IV) (r:Value) (h:VR ρ w v r):VR ρ w (.iface t v) (.iface t r)
 | af5:VR ρ w .af5 .nilIface
 | agg (cs:List IV) (rs:Array Value) (h:cs.length=rs.size) (hv:∀ i,i<cs.length->VR ρ w (cs.getD i .undef) (rs.getD i undef)):VR ρ w (.agg cs) (.agg rs)
 | tuple (cs:List IV) (rs:Array Value) (h:cs.length=rs.size) (hv:∀ i,i<cs.length->VR ρ w (cs.getD i .undef) (rs.getD i undef)):VR ρ w (.tuple cs) (.tuple rs)
 | af1 (id off len esz B d:Nat) (rcs:Array Value) (el:TypeId) (fz:Nat×Nat) (h:ρ id=.at B d)
   (hb:w.heap[B]? = some (.cells rcs el fz)) (hsz:d+off+len*esz<=rcs.size):VR ρ w (.af1 id off len esz) (.slice (some ⟨B,d+off,none⟩) len len)
 | al6 (id off len esz:Nat) (ad:Addr) (h:ρ id=.dead):VR ρ w (.af1 id off len esz) (.slice (some ad) len len)
 | ae2 (id off len room esz B d cap:Nat) (rcs:Array Value) (el:TypeId) (fz:Nat×Nat) (h:ρ id=.at B d)
   (hb:w.heap[B]? = some (.cells rcs el fz)) (hsz:d+off+cap*esz<=rcs.size) (hle:len<=room) (hr:room<=cap):VR ρ w (.ae2 id off len room esz) (.slice (some ⟨B,d+off,none⟩) len cap)
 | am9 (id off len room esz cap:Nat) (ad:Addr) (h:ρ id=.dead) (hle:len<=room) (hr:room<=cap):VR ρ w (.ae2 id off len room esz) (.slice (some ad) len cap)
structure Ext (n:Nat) (ρ:Rho) (w:World) (ρ':Rho) (w':World):Prop where
 size:w.heap.size<=w'.heap.size
 keep:∀ b,UB ρ w b->w'.heap[b]? = w.heap[b]?
 shape:∀ (b:Nat) (rcs:Array Value) (el:TypeId) (fz:Nat×Nat),w.heap[b]? = some (.cells rcs el fz)->∃ rcs':Array Value,w'.heap[b]? = some (.cells rcs' el fz)/\rcs'.size=rcs.size
 img:∀ i B d,ρ' i=.at B d->(∃ j d',ρ j=.at B d')\/w.heap.size<=B
 at_:∀ i B d,ρ i=.at B d->ρ' i=.at B d\/ρ' i=.dead
 dead:∀ i,ρ i=.dead->ρ' i=.dead
 no:∀ i,i<n->ρ i=.no->ρ' i=.no
 output:w'.output=w.output
 os:w'.os=w.os
 tape:w'.tape=w.tape/\w.drawn<=w'.drawn
 loops:∀ (l:Nat) (L:Loop),w.heap[l]? = some (Obj.loop L)->∃ L':Loop,w'.heap[l]? = some (Obj.loop L')
 X:ρ'.X=ρ.X
theorem Ext.refl (n:Nat)(ρ:Rho)(w:World):Ext n ρ w ρ w :=
 ⟨Nat.le_refl _,fun _ _=>rfl,fun _ r _ _ h=>⟨r,h,rfl⟩,fun i B d h=>.inl ⟨i,d,h⟩,fun _ _ _ h=>.inl h,fun _ h=>h,fun _ _ h=>h,rfl,rfl,⟨rfl,Nat.le_refl _⟩,fun _ L h=>⟨L,h⟩,rfl⟩
theorem Ext.ub {n:Nat}{ρ ρ':Rho}{w w':World}(h:Ext n ρ w ρ' w'){b:Nat}(hb:UB ρ w b):UB ρ' w' b:=by
 refine ⟨Nat.lt_of_lt_of_le hb.1 h.size,fun i d hi=>?_⟩;rcases h.img i b d hi with ⟨j,d',hj⟩|hlt
 ·exact hb.2 j d' hj
 ·exact absurd hb.1 (Nat.not_lt.2 hlt)
theorem Ext.fb {n:Nat}{ρ ρ':Rho}{w w':World}(h:Ext n ρ w ρ' w'){b:Nat}(hb:FB ρ w b):FB ρ' w' b :=
 ⟨(h.ub hb.ub).1,(h.ub hb.ub).2,by rw[h.X]; exact hb.3⟩
theorem Ext.trans {n n':Nat}{ρ ρ' ρ'':Rho}{w w' w'':World}(h:Ext n ρ w ρ' w')(h':Ext n' ρ' w' ρ'' w'')(hn:n<=n'):Ext n ρ w ρ'' w'' where
 size:=Nat.le_trans h.size h'.size
 keep:=fun b hb=>by rw[h'.keep b (h.ub hb),h.keep b hb]
 shape:=fun b rcs el fz hb=>by
  obtain ⟨r1,h1,s1⟩:=h.shape b rcs el fz hb;obtain ⟨r2,h2,s2⟩:=h'.shape b r1 el fz h1;exact ⟨r2,h2,by rw[s2,s1]⟩
 img:=fun i B d hi=>by
  rcases h'.img i B d hi with ⟨j,d',hj⟩|hlt
  ·exact h.img j B d' hj
  ·exact .inr (Nat.le_trans h.size hlt)
 at_:=fun i B d hi=>by
  rcases h.at_ i B d hi with h1|h1
  ·exact h'.at_ i B d h1
  ·exact .inr (h'.dead i h1)
 dead:=fun i hi=>h'.dead i (h.dead i hi)
 no:=fun i hi h0=>h'.no i (Nat.lt_of_lt_of_le hi hn) (h.no i hi h0)
 output:=by rw[h'.output,h.output]
 os:=by rw[h'.os,h.os]
 tape:=⟨by rw[h'.tape.1,h.tape.1],Nat.le_trans h.tape.2 h'.tape.2⟩
 loops:=fun l L hl=>let ⟨L',h1⟩:=h.loops l L hl; h'.loops l L' h1
 X:=by rw[h'.X,h.X]
theorem Ext.cell {n:Nat}{ρ ρ':Rho}{w w':World}(h:Ext n ρ w ρ' w'){b o:Nat}(hb:FB ρ w b):w'.cell? ⟨b,o,none⟩=w.cell? ⟨b,o,none⟩:=by
 unfold World.cell?;rw[h.keep b hb.ub]
theorem VR.mono {n:Nat}{ρ ρ':Rho}{w w':World}(h:Ext n ρ w ρ' w'){v:IV}{r:Value}(hv:VR ρ w v r):VR ρ' w' v r:=by
 induction hv with
 | undef r=>exact .undef r
 | bool b=>exact .bool b
 | int k n=>exact .int k n
 | str s=>exact .str s
 | af2=>exact .af2
 | ptr id off B d hi=>
  rcases h.at_ id B d hi with h1|h1
  ·exact .ptr id off B d h1
  ·exact .ci9 id off _ h1
 | ci9 id off ad hi=>exact .ci9 id off ad (h.dead id hi)
 | ad4 cs b o vs hf hc _ ih=>exact .ad4 cs b o vs (h.fb hf) (fun j hj=>by rw[h.cell hf]; exact hc j hj) ih
 | aa1=>exact .aa1
 | ac2 a=>exact .ac2 a
 | ae5 a cap=>exact .ae5 a cap
 | slice id off len esz B d cap rcs el fz hi hb hsz hle=>
  rcases h.at_ id B d hi with h1|h1
  ·obtain ⟨rcs',hb',hs'⟩:=h.shape B rcs el fz hb;exact .slice id off len esz B d cap rcs' el fz h1 hb' (by rw[hs']; exact hsz) hle
  ·exact .ag4 id off len esz cap _ h1 hle
 | ag3 id off esz B d a hi=>
  rcases h.at_ id B d hi with h1|h1
  ·exact .ag3 id off esz B d a h1
  ·exact .ag4 id off 0 esz 0 _ h1 (Nat.le_refl _)
 | ag4 id off len esz cap ad hi hle=>exact .ag4 id off len esz cap ad (h.dead id hi) hle
 | af1 id off len esz B d rcs el fz hi hb hsz=>
  rcases h.at_ id B d hi with h1|h1
  ·obtain ⟨rcs',hb',hs'⟩:=h.shape B rcs el fz hb;exact .af1 id off len esz B d rcs' el fz h1 hb' (by rw[hs']; exact hsz)
  ·exact .al6 id off len esz _ h1
 | al6 id off len esz ad hi=>exact .al6 id off len esz ad (h.dead id hi)
 | ae2 id off len room esz B d cap rcs el fz hi hb hsz hle hr=>
  rcases h.at_ id B d hi with h1|h1
  ·obtain ⟨rcs',hb',hs'⟩:=h.shape B rcs el fz hb;exact .ae2 id off len room esz B d cap rcs' el fz h1 hb' (by rw[hs']; exact hsz) hle hr
  ·exact .am9 id off len room esz cap _ h1 hle hr
 | am9 id off len room esz cap ad hi hle hr=>exact .am9 id off len room esz cap ad (h.dead id hi) hle hr
 | aa3 es b o cap esz sp vs hf hsz hc _ hle ih=>
  refine .aa3 es b o cap esz sp vs (fun hne=>⟨h.fb (hf hne).1,(hf hne).2⟩) hsz (fun i hi j hj=>?_) ih hle;rw[h.cell (hf (by intro h0; subst h0; simp at hi)).1]
  exact hc i hi j hj
 | bw1=>exact .bw1
 | ae1=>exact .ae1
 | map id B d hi=>
  rcases h.at_ id B d hi with h1|h1
  ·exact .map id B d h1
  ·exact .mapD id _ h1
 | mapD id B hi=>exact .mapD id B (h.dead id hi)
 | al4 es es' b mes clock hp hd hf hb hl _ _ h4 h5 ihk ihv=>exact .al4 es es' b mes clock hp hd (h.fb hf) (by rw[h.keep b hf.ub]; exact hb) hl ihk ihv h4 h5
 | func fn first cap rf rc hy h1 h2 _ _ ihf ihc=>exact .func fn first cap rf rc hy h1 h2 ihf ihc
 | yield id B d hi=>
  rcases h.at_ id B d hi with h1|h1
  ·exact .yield id B d h1
  ·exact .aw6 id _ h1
 | aw6 id B hi=>exact .aw6 id B (h.dead id hi)
 | af3=>exact .af3
 | iface t v r _ ih=>exact .iface t v r ih
 | af5=>exact .af5
 | agg cs rs h1 _ ih=>exact .agg cs rs h1 ih
 | tuple cs rs h1 _ ih=>exact .tuple cs rs h1 ih
def am7 (ρ:Rho)(w:World)(B d:Nat)(cs:List IV):Prop :=
 ∃ (rcs:Array Value) (el:TypeId),w.heap[B]? = some (.cells rcs el (0,0))/\d+cs.length<=rcs.size/\∀ i,i<cs.length->VR ρ w (cs.getD i .undef) (rcs.getD (d+i) undef)
def OR (ρ:Rho) (w:World) (B d:Nat):ak4->Prop
 | .cells cs|.row cs=>am7 ρ w B d cs
 | .map es=>∃ (mes:Array MapEntry) (clock:Nat),w.heap[B]? = some (.map mes clock)/\d=0/\es.length=mes.size /\
   (∀ i,i<es.length->VR ρ w (es.getD i (.undef,.undef)).1 (mes.getD i default).key/\VR ρ w (es.getD i (.undef,.undef)).2 (mes.getD i default).val) /\
   (∀ i,i<mes.size->(mes.getD i default).born<clock)/\(∀ i j,i<j->j<mes.size->(mes.getD i default).born≠(mes.getD j default).born)
 | .az2 s pos=>w.heap[B]? = some (.stringIter ⟨s.toArray⟩ pos)/\d=0
 | .loop N tmps params assign body st pend=>d=0/\∃ l:Loop,w.heap[B]? = some (.loop l)/\l.params=params/\l.assign=assign/\l.body=body/\l.pending=pend/\l.state=st/\l.tmps.size=N /\
   (∀ t,VR ρ w ((tmps.lookup t).getD .undef) (l.tmps.getD t undef))
 | .av4 left cur=>d=0/\∃ (mb last:Nat) (seen:Array Nat) (mes:Array MapEntry) (clock:Nat) (lft:List (IV×IV)),w.heap[B]? = some (.mapIter (some mb) clock seen last)/\FB ρ w mb/\w.heap[mb]? = some (.map mes clock) /\
   (∀ i,i<mes.size->(mes.getD i default).born<clock)/\(∀ i j,i<j->j<mes.size->(mes.getD i default).born≠(mes.getD j default).born)/\last=clock /\
   lft.length=(mes.toList.filter fun e=>!seen.contains e.born).length/\lft.Perm left /\
   (∀ c,cur=some c->∃ i,i<mes.size/\seen.back? = some (mes.getD i default).born/\VR ρ w c.1 (mes.getD i default).key/\VR ρ w c.2 (mes.getD i default).val) /\
    ∀ i,i<lft.length->VR ρ w (lft.getD i (.undef,.undef)).1 ((mes.toList.filter fun e=>!seen.contains e.born).getD i default).key/\VR ρ w (lft.getD i (.undef,.undef)).2 ((mes.toList.filter fun e=>!seen.contains e.born).getD i default).val
structure Sim (E:Nat->IV) (ρ:Rho) (w:World) (σ:Store):Prop where
 inj:∀ i j B d d',ρ i=.at B d->ρ j=.at B d'->i=j
 lt:∀ i B d,ρ i=.at B d->B<w.heap.size
 obj:∀ i B d,ρ i=.at B d->∃ o,σ.obj i=some o/\OR ρ w B d o
 dead:∀ i,ρ i=.dead->σ.obj i=none
 fresh:∀ i,σ.next<=i->ρ i=.no
 ao5:∀ i,ρ i=.no->σ.obj i=none
 env:∀ g,VR ρ w (E g) (.pointer (some ⟨g,0,none⟩))
 nx:∀ i B d,ρ i=.at B d->¬ ρ.X B
 xlt:∀ b,ρ.X b->b<w.heap.size
abbrev Frm:=List (Nat×IV)
def Frm.get (fr:Frm)(t:Nat):IV:=(fr.lookup t).getD .undef
def Frm.keep (fr:Frm)(ks:List Nat):Frm:=ks.map fun k=>(k,fr.get k)
def Frm.set (fr:Frm)(t:Nat)(v:IV):Frm:=(t,v)::fr
structure FR (ρ:Rho) (w:World) (N:Nat) (fr:Frm) (tmps:Array Value):Prop where
 size:tmps.size=N
 get:∀ t,VR ρ w (fr.get t) (tmps.getD t undef)
theorem FR.mono {n N:Nat}{ρ ρ':Rho}{w w':World}{fr:Frm}{tmps:Array Value}(h:Ext n ρ w ρ' w')(hf:FR ρ w N fr tmps):FR ρ' w' N fr tmps :=
 ⟨hf.size,fun t=>(hf.get t).mono h⟩
theorem Frm.bw2 (fr:Frm)(t s:Nat)(v:IV):(fr.set t v).get s=if s=t then v else fr.get s:=by
 unfold Frm.get Frm.set;by_cases h:s=t
 ·subst h; simp
 ·have:(s==t)=false:=by simpa using h
  simp[List.lookup_cons,this,h]
theorem FR.set {N:Nat}{ρ:Rho}{w:World}{fr:Frm}{tmps:Array Value}{t:Nat}{v:IV}{r:Value}(hf:FR ρ w N fr tmps)(ht:t<N)(hv:VR ρ w v r) :
  FR ρ w N (fr.set t v) (tmps.setIfInBounds t r):=by
 refine ⟨by simp[hf.size],fun s=>?_⟩;rw[Frm.bw2];by_cases h:s=t
 ·subst h;have:s<tmps.size:=by rw[hf.size]; exact ht
  simp[Array.getD_eq_getD_getElem?,this,hv]
 ·have h':¬ t=s:=fun e=>h e.symm
  have:=hf.get s;simp only[Array.getD_eq_getD_getElem?] at this ⊢
  simpa [h,Array.getElem?_setIfInBounds,h'] using this
theorem Frm.fx9 (fr:Frm)(ks:List Nat)(t:Nat):(fr.keep ks).get t=if t∈ks then fr.get t else .undef:=by
 unfold Frm.get Frm.keep
 induction ks with
 | nil=>simp
 | cons k ks ih=>
  by_cases h:t=k
  ·subst h; simp[Frm.get]
  ·have:(t==k)=false:=by simpa using h
   simp[List.lookup_cons,this,h,ih]
theorem FR.keep {N:Nat}{ρ:Rho}{w:World}{fr:Frm}{tmps:Array Value}(ks:List Nat)(hf:FR ρ w N fr tmps):FR ρ w N (fr.keep ks) tmps:=by
 refine ⟨hf.size,fun t=>?_⟩;rw[Frm.fx9];split
 ·exact hf.get t
 ·exact .undef _
end Go.Id
/- The quiet operations (they read,they change nothing) on ideal values,each with its proof against the model. Conditions: none; over any program. -/
namespace Go.Id
open Go
theorem ac7 {α:Type}(a:Array α)(i:Nat)(d:α)(h:i<a.size):a.getD i d=a[i]:=by
 simp[Array.getD_eq_getD_getElem?,h]
def ec5 (P:Program)(t:TypeId):Option Bool :=
 match P.underlying t with
 | some (.struct _)|some (.array _ _)=>some true
 | some _=>some false
 | none=>none
def szT (P:Program)(t:TypeId):Option Nat:=(P.info? t).map (·.size)
theorem bq6 {P:Program}{t:TypeId}{b:Bool}(h:ec5 P t=some b)(w:World):(isAgg t).run P w=.ok b w:=by
 unfold ec5 at h
 cases hu:P.underlying t with
 | none=>simp[hu] at h
 | some d=>
  simp only[isAgg,Sem.run_bind,run_underlying hu,Result.andThen_ok];rw[hu] at h;cases d<;>simp_all
theorem run_sizeOf {P:Program}{t:TypeId}{n:Nat}(h:szT P t=some n)(w:World):(sizeOf t).run P w=.ok n w:=by
 unfold szT at h
 cases hi:P.info? t with
 | none=>simp[hi] at h
 | some i=>
  rw[hi] at h;simp at h;simp[sizeOf,typeInfo,hi,h]
def dc8 (op:BinOp)(k:IntKind)(a b:Int):Option IV :=
 match op with
 | .add=>some (.int k (k.wrap (a+b)))
 | .sub=>some (.int k (k.wrap (a-b)))
 | .mul=>some (.int k (k.wrap (a*b)))
 | .quo=>if b=0 then none else some (.int k (k.wrap (a.tdiv b)))
 | .rem=>if b=0 then none else some (.int k (a.tmod b))
 | .and=>some (.int k (k.wrap ((BitVec.ofInt k.bits a &&& BitVec.ofInt k.bits b).toNat:Int)))
 | .or=>some (.int k (k.wrap ((BitVec.ofInt k.bits a ||| BitVec.ofInt k.bits b).toNat:Int)))
 | .xor=>some (.int k (k.wrap ((BitVec.ofInt k.bits a ^^^ BitVec.ofInt k.bits b).toNat:Int)))
 | .andNot=>some (.int k (k.wrap ((BitVec.ofInt k.bits a &&& ~~~BitVec.ofInt k.bits b).toNat:Int)))
 | .eql=>some (.bool (decide (a=b)))
 | .neq=>some (.bool (!decide (a=b)))
 | .lss=>some (.bool (decide (a<b)))
 | .leq=>some (.bool (decide (a<=b)))
 | .gtr=>some (.bool (decide (b<a)))
 | .geq=>some (.bool (decide (b<=a)))
 | .shl|.shr=>none
def fy1 (op:BinOp)(a b:List UInt8):Option IV :=
 match op with
 | .add=>if a.length+b.length<2^62 then some (.str (a++b)) else none
 | .eql=>some (.bool (decide (a=b)))
 | .neq=>some (.bool (!decide (a=b)))
 | .lss=>some (.bool (Op.bytesLess a b))
 | .leq=>some (.bool (Op.bytesLess a b||decide (a=b)))
 | .gtr=>some (.bool (!(Op.bytesLess a b||decide (a=b))))
 | .geq=>some (.bool (!Op.bytesLess a b))
 | _=>none
def ap9 (op:BinOp):IV->IV->Option IV
 | .int k a,.int k' b=>
  match op with
  | .shl=>if 0<=b then some (.int k (k.wrap (a*2^(min b.toNat k.bits)))) else none
  | .shr=>if 0<=b then some (.int k (a.fdiv (2^(min b.toNat k.bits)))) else none
  | _=>if k=k' then dc8 op k a b else none
 | .str a,.str b=>fy1 op a b
 | _,_=>none
theorem toList_mk (l:List UInt8):(ByteArray.mk l.toArray).toList=l:=by simp
theorem size_mk (l:List UInt8):(ByteArray.mk l.toArray).size=l.length:=by simp[ByteArray.size]
theorem ck7 (a b:Int):(a==b)=decide (a=b):=by
 by_cases h:a=b<;>simp[h]
theorem ec6 (a b:List UInt8):(a==b)=decide (a=b):=by
 by_cases h:a=b<;>simp[h]
variable {P:Program} {w:World} {ρ:Rho}
theorem ek4 {op:BinOp}{t:TypeId}{k:IntKind}{a b:Int}{v:IV}(h:dc8 op k a b=some v) :
  ∃ r,(binOp op t (.int k a) (.int k b)).run P w=.ok r w/\VR ρ w v r:=by
 cases op<;>simp only[dc8] at h
 case add=>cases h; exact ⟨_,by simp[binOp,Op.intArith],.int _ _⟩
 case sub=>cases h; exact ⟨_,by simp[binOp,Op.intArith],.int _ _⟩
 case mul=>cases h; exact ⟨_,by simp[binOp,Op.intArith],.int _ _⟩
 case quo=>
  split at h
  ·cases h
  ·rename_i h0; cases h; exact ⟨_,by simp[binOp,Op.intDiv,h0],.int _ _⟩
 case rem=>
  split at h
  ·cases h
  ·rename_i h0; cases h; exact ⟨_,by simp[binOp,Op.intDiv,h0],.int _ _⟩
 case and=>cases h; exact ⟨_,by simp only[binOp,ne_eq,not_true_eq_false,if_false,Op.intBits]; rfl,.int _ _⟩
 case or=>cases h; exact ⟨_,by simp only[binOp,ne_eq,not_true_eq_false,if_false,Op.intBits]; rfl,.int _ _⟩
 case xor=>cases h; exact ⟨_,by simp only[binOp,ne_eq,not_true_eq_false,if_false,Op.intBits]; rfl,.int _ _⟩
 case andNot=>cases h; exact ⟨_,by simp only[binOp,ne_eq,not_true_eq_false,if_false,Op.intBits]; rfl,.int _ _⟩
 case eql=>cases h; exact ⟨_,by simp only[binOp,ne_eq,not_true_eq_false,if_false,Op.intCmp,ck7]; rfl,.bool _⟩
 case neq=>cases h; exact ⟨_,by simp only[binOp,ne_eq,not_true_eq_false,if_false,Op.intCmp,bne,ck7]; rfl,.bool _⟩
 case lss=>cases h; exact ⟨_,by simp only[binOp,ne_eq,not_true_eq_false,if_false,Op.intCmp]; rfl,.bool _⟩
 case leq=>cases h; exact ⟨_,by simp only[binOp,ne_eq,not_true_eq_false,if_false,Op.intCmp]; rfl,.bool _⟩
 case gtr=>cases h; exact ⟨_,by simp only[binOp,ne_eq,not_true_eq_false,if_false,Op.intCmp]; rfl,.bool _⟩
 case geq=>cases h; exact ⟨_,by simp only[binOp,ne_eq,not_true_eq_false,if_false,Op.intCmp]; rfl,.bool _⟩
 all_goals cases h
theorem fd7 {op:BinOp}{t:TypeId}{x y:Operand}{a b v:IV}{ra rb:Value}(h:ap9 op a b=some v)(ha:VR ρ w a ra)(hb:VR ρ w b rb) :
  ∃ r,(do eqGuard op t x y ra rb; binOp op t ra rb:Sem Value).run P w=.ok r w/\VR ρ w v r:=by
 cases ha with
 | int k a=>
  cases hb with
  | int k' b=>
   have hg:(eqGuard op t x y (.int k a) (.int k' b)).run P w=.ok () w:=by
    unfold eqGuard; cases op<;>rfl
   simp only[Sem.run_bind,hg,Result.andThen_ok];by_cases h1:op=.shl
   ·subst h1;simp only[ap9] at h;split at h
    ·rename_i h0;cases h;exact ⟨_,by simp[binOp,Op.shift,Int.not_lt.2 h0],.int _ _⟩
    ·cases h
   by_cases h2:op=.shr
   ·subst h2;simp only[ap9] at h;split at h
    ·rename_i h0;cases h;exact ⟨_,by simp[binOp,Op.shift,Int.not_lt.2 h0],.int _ _⟩
    ·cases h
   have h':(if k=k' then dc8 op k a b else none)=some v:=by
    cases op<;>first|exact absurd rfl h1|exact absurd rfl h2|exact h
   split at h'
   ·rename_i hk;subst hk;exact ek4 h'
   ·cases h'
  | _=>simp[ap9] at h
 | str a=>
  cases hb with
  | str b=>
   have hg:(eqGuard op t x y (.string ⟨a.toArray⟩) (.string ⟨b.toArray⟩)).run P w=.ok () w:=by
    unfold eqGuard; cases op<;>rfl
   simp only[Sem.run_bind,hg,Result.andThen_ok];simp only[ap9] at h;cases op<;>simp only[binOp,fy1] at h ⊢<;>try (cases h; done)
   case add=>
    split at h
    ·rename_i h0;cases h;refine ⟨_,?_,.str _⟩
     have hm:¬ (((a.length+b.length:Nat)):Int)>IntKind.i64.max:=by
      have:IntKind.i64.max=9223372036854775807:=by decide
      omega
     have e:(ByteArray.mk a.toArray++ByteArray.mk b.toArray)=ByteArray.mk (a++b).toArray:=by
      apply ByteArray.ext; simp[ByteArray.data_append]
     simp[Op.stringOp,size_mk,e] at hm ⊢;omega
    ·cases h
   all_goals
    cases h
    exact ⟨_,by simp only[Op.stringOp,toList_mk,ec6]; rfl,.bool _⟩
  | _=>simp[ap9] at h
 | _=>simp[ap9] at h
def am8 (σ:Store):IV->Option (List IV)
 | .ad4 cs=>some cs
 | .ptr id off=>match σ.obj id with
  | some (.cells cs)=>some (cs.drop off)
  | some (.row cs)=>some (cs.drop off)
  | _=>none
 | _=>none
theorem aj8 {α:Type}(l:List α)(n i:Nat)(d:α):(l.drop n).getD i d=l.getD (n+i) d:=by
 simp[List.getD_eq_getElem?_getD,List.getElem?_drop]
theorem getD_take' {α:Type}(l:List α)(n i:Nat)(d:α)(h:i<n):(l.take n).getD i d=l.getD i d:=by
 simp[List.getD_eq_getElem?_getD,h]
theorem bq7 {E:Nat->IV}{σ:Store}{v:IV}{r:Value}{cs:List IV}(hs:Sim E ρ w σ)(hv:VR ρ w v r)(h:am8 σ v=some cs) :
  ∃ b o,r=.pointer (some ⟨b,o,none⟩)/\∃ vs:Nat->Value,(∀ j,j<cs.length->w.cell? ⟨b,o+j,none⟩=some (vs j))/\∀ j,j<cs.length->VR ρ w (cs.getD j .undef) (vs j):=by
 cases hv with
 | ad4 cs' b o vs hf hc hv=>
  simp[am8] at h; subst h
  exact ⟨b,o,rfl,vs,hc,hv⟩
 | ptr id off B d hi=>
  simp only[am8] at h;obtain ⟨ob,ho,hor⟩:=hs.obj id B d hi;rw[ho] at h
  have key:∀ cs',am7 ρ w B d cs'->cs'.drop off=cs->∃ b o,Value.pointer (some ⟨B,d+off,none⟩)=.pointer (some ⟨b,o,none⟩)/\∃ vs:Nat->Value,(∀ j,j<cs.length->w.cell? ⟨b,o+j,none⟩=some (vs j))/\∀ j,j<cs.length->VR ρ w (cs.getD j .undef) (vs j):=by
   intro cs' hor h;subst h;obtain ⟨rcs,el,hb,hsz,hvs⟩:=hor;refine ⟨B,d+off,rfl,fun j=>rcs.getD (d+(off+j)) undef,fun j hj=>?_,fun j hj=>?_⟩
   ·simp at hj;have hlt:d+off+j<rcs.size:=by omega
    simp only[World.cell?,hb];rw[ac7 _ _ _ (by omega)];simp only[Option.isSome_none,Bool.false_eq_true,if_false];rw[Array.getElem?_eq_getElem hlt];congr 2;omega
   ·simp at hj;rw[aj8];exact hvs (off+j) (by omega)
  cases ob with
  | cells cs'=>exact key cs' hor (by simpa using h)
  | row cs'=>exact key cs' hor (by simpa using h)
  | _=>simp at h
 | ci9 id off ad hi=>
  simp only[am8,hs.dead id hi] at h
  cases h
 | _=>simp[am8] at h
def at5 (σ:Store)(agg:Option Nat)(a:IV):Option IV :=
 match am8 σ a with
 | none=>none
 | some cs=>match agg with
  | none=>cs.head?
  | some n=>if n<=cs.length then some (.agg (cs.take n)) else none
def al5 (P:Program)(t:TypeId):Option (Option Nat):=
 match ec5 P t with
 | some false=>some none
 | some true=>(szT P t).map some
 | none=>none
theorem aq1 (b o n:Nat):(⟨b,o,none⟩:Addr).add n=⟨b,o+n,none⟩:=by
 unfold Addr.add; split<;>simp_all
theorem cs5 {E:Nat->IV}{σ:Store}{t:TypeId}{agg:Option Nat}{a v:IV}{r:Value}(hs:Sim E ρ w σ)(ht:al5 P t=some agg)
  (h:at5 σ agg a=some v) (ha:VR ρ w a r):∃ x,(Instr.loadAt t r).run P w=.ok x w/\VR ρ w v x:=by
 unfold at5 at h
 cases hc:am8 σ a with
 | none=>rw[hc] at h; cases h
 | some cs=>
  rw[hc] at h;obtain ⟨b,o,rfl,vs,hcell,hvs⟩:=bq7 hs ha hc;unfold al5 at ht
  cases hg:ec5 P t with
  | none=>rw[hg] at ht; cases ht
  | some g=>
   rw[hg] at ht
   cases g with
   | false=>
    cases ht;simp only at h
    cases cs with
    | nil=>simp at h
    | cons c cs=>
     simp at h; subst h;refine ⟨vs 0,?_,by simpa using hvs 0 (by simp)⟩;have:=hcell 0 (by simp);simp only[Nat.add_zero] at this
     simp[Instr.loadAt,Instr.sureAddr,loadVar,bq6 hg,this]
   | true=>
    cases hz:szT P t with
    | none=>rw[hz] at ht; cases ht
    | some n=>
     rw[hz] at ht;cases ht;simp only at h;split at h
     ·rename_i hn;cases h;refine ⟨.agg ((List.range n).map vs).toArray,?_,.agg _ _ (by simp; omega) (fun i hi=>?_)⟩
      ·have hl:=run_loadCells (P:=P) (w:=w) ⟨b,o,none⟩ n vs (fun j hj=>by rw[aq1]; exact hcell j (by omega));simp[Instr.loadAt,Instr.sureAddr,loadVar,bq6 hg,run_sizeOf hz,hl]
      ·simp at hi;have hi':i<n:=by omega
       rw[getD_take' _ _ _ _ hi'];have:=hvs i (by omega)
       simpa [Array.getD_eq_getD_getElem?,hi'] using this
     ·cases h
def ck8 (n:Nat):IV->Option IV
 | .ad4 cs=>some (.ad4 (cs.drop n))
 | .ptr id off=>some (.ptr id (off+n))
 | _=>none
theorem dt8 {s:TypeId}{fields:Array Field}{i:Nat}{f:Field}{ad:Addr}{m:Nat}(hu:P.underlying s=some (.struct fields))(hf:fields[i]? = some f)
  (hz:szT P f.type=some (m+1)):(Instr.fieldAt s (.pointer (some ad)) i).run P w=.ok (.pointer (some (ad.add f.offset))) w:=by
 simp[Instr.fieldAt,run_underlying hu,hf,Instr.sureAddr,fieldPlace,run_sizeOf hz]
theorem cs6 {n:Nat}{a v:IV}{r:Value}(h:ck8 n a=some v)(ha:VR ρ w a r) :
  ∃ ad:Addr,r=.pointer (some ad)/\VR ρ w v (.pointer (some (ad.add n))):=by
 cases ha with
 | ad4 cs b o vs hf hc hv=>
  simp[ck8] at h; subst h;refine ⟨⟨b,o,none⟩,rfl,?_⟩;rw[aq1];refine .ad4 _ b (o+n) (fun j=>vs (n+j)) hf (fun j hj=>?_) (fun j hj=>?_)
  ·simp at hj;rw[Nat.add_assoc];exact hc (n+j) (by omega)
  ·simp at hj;rw[aj8]
   exact hv (n+j) (by omega)
 | ptr id off B d hi=>
  simp[ck8] at h; subst h
  exact ⟨⟨B,d+off,none⟩,rfl,by rw[aq1,Nat.add_assoc]; exact .ptr id (off+n) B d hi⟩
 | ci9 id off ad hi=>
  simp[ck8] at h; subst h
  exact ⟨ad,rfl,.ci9 id (off+n) _ hi⟩
 | _=>simp[ck8] at h
def ba2 (agg:Option Nat)(off:Nat)(cs:List IV):Option IV :=
 match agg with
 | none=>cs[off]?
 | some n=>if off+n<=cs.length then some (.agg ((cs.drop off).take n)) else none
theorem ar2 {t:TypeId}{agg:Option Nat}{off:Nat}{cs:List IV}{rs:Array Value}{v:IV}(ht:al5 P t=some agg)(h:ba2 agg off cs=some v)
  (hl:cs.length=rs.size) (hv:∀ i,i<cs.length->VR ρ w (cs.getD i .undef) (rs.getD i undef)):∃ x,(part t rs off).run P w=.ok x w/\VR ρ w v x:=by
 unfold al5 at ht
 cases hg:ec5 P t with
 | none=>rw[hg] at ht; cases ht
 | some g=>
  rw[hg] at ht
  cases g with
  | false=>
   cases ht;simp only[ba2] at h;obtain ⟨hlt,hc⟩:=List.getElem?_eq_some_iff.1 h;have h1:=hv off hlt;have hlt':off<rs.size:=by omega
   rw[ac7 _ _ _ hlt',List.getD_eq_getElem?_getD,h] at h1
   exact ⟨rs[off],by simp[part,bq6 hg,Array.getElem?_eq_getElem hlt'],h1⟩
  | true=>
   cases hz:szT P t with
   | none=>rw[hz] at ht; cases ht
   | some n=>
    rw[hz] at ht;cases ht;simp only[ba2] at h;split at h
    ·rename_i hn;cases h;refine ⟨_,by simp[part,bq6 hg,run_sizeOf hz]; rfl,.agg _ _ (by simp; omega) (fun i hi=>?_)⟩;simp at hi;rw[getD_take' _ _ _ _ (by omega),aj8];have:=hv (off+i) (by omega);rw[ac7 _ _ _ (by omega)] at this;rw[ac7 _ _ _ (by simp; omega)]
     simpa using this
    ·cases h
def hn5 (agg:Option Nat)(off:Nat):IV->Option IV
 | .agg cs=>ba2 agg off cs
 | _=>none
theorem fd8 {s:TypeId}{fields:Array Field}{i:Nat}{f:Field}{agg:Option Nat}{a v:IV}{r:Value}(hu:P.underlying s=some (.struct fields))(hf:fields[i]? = some f)
  (ht:al5 P f.type=some agg) (h:hn5 agg f.offset a=some v) (ha:VR ρ w a r):∃ x,(Instr.field s r i).run P w=.ok x w/\VR ρ w v x:=by
 cases ha with
 | agg cs rs hl hv=>
  simp only[hn5] at h;obtain ⟨x,hx,hvx⟩:=ar2 ht h hl hv
  exact ⟨x,by simp[Instr.field,run_underlying hu,hf,asAgg,hx],hvx⟩
 | _=>simp[hn5] at h
def aq2 (esz:Nat):IV->IV->Option IV
 | .aa3 es,.int _ i=>if 0<=i/\i<es.length/\(es.getD i.toNat []).length=esz then some (.ad4 (es.getD i.toNat [])) else none
 | .slice id off len e,.int _ i=>if 0<=i/\i<len/\e=esz then some (.ptr id (off+i.toNat*esz)) else none
 | .af1 id off len e,.int _ i=>if 0<=i/\i<len/\e=esz then some (.ptr id (off+i.toNat*esz)) else none
 | _,_=>none
theorem dt9 {t elem:TypeId}{esz:Nat}{a i v:IV}{ra ri:Value}(hu:P.underlying t=some (.slice elem))
  (hz:szT P elem=some esz) (h:aq2 esz a i=some v) (ha:VR ρ w a ra) (hi:VR ρ w i ri):∃ x,(Instr.indexAt t ra ri).run P w=.ok x w/\VR ρ w v x:=by
 cases ha with
 | bw1=>
  cases hi with
  | int k n => simp only[aq2,List.length_nil] at h; split at h<;>rename_i hc
               ·omega
               ·cases h
  | _=>simp[aq2] at h
 | aa3 es b o cap esz' sp vs hf hsz hc hv hle=>
  cases hi with
  | int k n=>
   simp only[aq2] at h;split at h
   ·rename_i hh;obtain ⟨h0,h1,h2⟩:=hh;cases h;have hlt:n.toNat<es.length:=by omega
    have hne:es≠[]:=by intro h0; subst h0; simp at hlt
    obtain ⟨hf1,hsp⟩:=hf hne;subst hsp;have he:esz'=esz:=by rw[<- h2,hsz _ hlt]
    subst he;refine ⟨.pointer (some ⟨b,o+n.toNat*esz',none⟩),?_,.ad4 _ b _ (fun j=>vs n.toNat j) hf1 (fun j hj=>?_) (fun j hj=>?_)⟩
    ·simp[Instr.indexAt,asIntOf,run_underlying hu,run_sizeOf hz,h0,h1,aq1]
    ·rw[Nat.add_assoc]; exact hc _ hlt j (by omega)
    ·exact hv _ hlt j (by omega)
   ·cases h
  | _=>simp[aq2] at h
 | slice id off len e B d cap rcs el fz hid hb hsz hle=>
  cases hi with
  | int k n=>
   simp only[aq2] at h;split at h
   ·rename_i hh;obtain ⟨h0,h1,rfl⟩:=hh;cases h;refine ⟨.pointer (some ⟨B,d+off+n.toNat*e,none⟩),?_,?_⟩
    ·simp[Instr.indexAt,asIntOf,run_underlying hu,run_sizeOf hz,h0,h1,aq1]
    ·rw[Nat.add_assoc]; exact .ptr id _ B d hid
   ·cases h
  | _=>simp[aq2] at h
 | ag3 id off e B d a hid=>
  cases hi with
  | int k n=>
   simp only[aq2] at h;split at h
   ·rename_i hh; omega
   ·cases h
  | _=>simp[aq2] at h
 | ag4 id off len e cap ad hid hle=>
  cases hi with
  | int k n=>
   simp only[aq2] at h;split at h
   ·rename_i hh;obtain ⟨h0,h1,rfl⟩:=hh;cases h;refine ⟨.pointer (some (ad.add (n.toNat*e))),?_,.ci9 id _ _ hid⟩;simp[Instr.indexAt,asIntOf,run_underlying hu,run_sizeOf hz,h0,h1]
   ·cases h
  | _=>simp[aq2] at h
 | al6 id off len e ad hid=>
  cases hi with
  | int k n=>
   simp only[aq2] at h;split at h
   ·rename_i hh;obtain ⟨h0,h1,rfl⟩:=hh;cases h;refine ⟨.pointer (some (ad.add (n.toNat*e))),?_,.ci9 id _ _ hid⟩;simp[Instr.indexAt,asIntOf,run_underlying hu,run_sizeOf hz,h0,h1]
   ·cases h
  | _=>simp[aq2] at h
 | af1 id off len e B d rcs el fz hid hb hsz=>
  cases hi with
  | int k n=>
   simp only[aq2] at h;split at h
   ·rename_i hh;obtain ⟨h0,h1,rfl⟩:=hh;cases h;refine ⟨.pointer (some ⟨B,d+off+n.toNat*e,none⟩),?_,?_⟩
    ·simp[Instr.indexAt,asIntOf,run_underlying hu,run_sizeOf hz,h0,h1,aq1]
    ·rw[Nat.add_assoc]; exact .ptr id _ B d hid
   ·cases h
  | _=>simp[aq2] at h
 | _=>simp[aq2] at h
def cs7 (n esz:Nat):IV->IV->Option IV
 | a,.int _ i=>if 0<=i/\i<n then ck8 (i.toNat*esz) a else none
 | _,_=>none
theorem du1 {t elem:TypeId}{n esz:Nat}{a i v:IV}{ra ri:Value}(hu:P.underlying t=some (.array n elem))
  (hz:szT P elem=some esz) (h:cs7 n esz a i=some v) (ha:VR ρ w a ra) (hi:VR ρ w i ri):∃ x,(Instr.indexAt t ra ri).run P w=.ok x w/\VR ρ w v x:=by
 cases hi with
 | int k m=>
  simp only[cs7] at h;split at h
  ·rename_i hh;obtain ⟨h0,h1⟩:=hh;obtain ⟨ad,rfl,hv⟩:=cs6 h ha;refine ⟨_,?_,hv⟩;simp[Instr.indexAt,asIntOf,run_underlying hu,Instr.sureAddr,run_sizeOf hz,h0,h1]
  ·cases h
 | _=>simp[cs7] at h
def gv1 (agg:Option Nat)(n esz:Nat):IV->IV->Option IV
 | .agg cs,.int _ i=>if 0<=i/\i<n then ba2 agg (i.toNat*esz) cs else none
 | _,_=>none
theorem fd9 {t elem:TypeId}{agg:Option Nat}{n esz:Nat}{a i v:IV}{ra ri:Value}(hu:P.underlying t=some (.array n elem))
  (hz:szT P elem=some esz) (ht:al5 P elem=some agg) (h:gv1 agg n esz a i=some v) (ha:VR ρ w a ra) (hi:VR ρ w i ri) :
  ∃ x,(Instr.index t ra ri).run P w=.ok x w/\VR ρ w v x:=by
 cases ha with
 | agg cs rs hl hv=>
  cases hi with
  | int k m=>
   simp only[gv1] at h;split at h
   ·rename_i hh;obtain ⟨x,hx,hvx⟩:=ar2 ht h hl hv;exact ⟨x,by simp[Instr.index,asIntOf,run_underlying hu,run_sizeOf hz,hh.1,hh.2,hx],hvx⟩
   ·cases h
  | _=>simp[gv1] at h
 | _=>simp[gv1] at h
def dc9:IV->IV->Option IV
 | .str s,.int _ i=>if 0<=i then (s[i.toNat]?).map fun b=>.int .u8 b.toNat else none
 | _,_=>none
theorem ek5 {t:TypeId}{a i v:IV}{ra ri:Value}(hu:P.underlying t=some .string)
  (h:dc9 a i=some v) (ha:VR ρ w a ra) (hi:VR ρ w i ri):∃ x,(Instr.index t ra ri).run P w=.ok x w/\VR ρ w v x:=by
 cases ha with
 | str s=>
  cases hi with
  | int k m=>
   simp only[dc9] at h;split at h
   ·rename_i h0
    cases hb:s[m.toNat]? with
    | none=>rw[hb] at h; cases h
    | some b=>
     rw[hb] at h;cases h
     have e:(ByteArray.mk s.toArray)[m.toNat]? = some b:=by
      have hlt:=(List.getElem?_eq_some_iff.1 hb).1;rw[getElem?_pos _ _ (by simpa [size_mk] using hlt)];have:=(List.getElem?_eq_some_iff.1 hb).2;change some (s.toArray[m.toNat]'(by simpa using hlt))=some b
      simpa using this
     exact ⟨_,by simp[Instr.index,asIntOf,run_underlying hu,h0,e],.int _ _⟩
   ·cases h
  | _=>simp[dc9] at h
 | _=>simp[dc9] at h
def gv3 (i:Nat):IV->Option IV
 | .tuple vs=>vs[i]?
 | _=>none
theorem fe1 {i:Nat}{a v:IV}{ra:Value}(h:gv3 i a=some v)(ha:VR ρ w a ra):∃ x,(Instr.extract ra i).run P w=.ok x w/\VR ρ w v x:=by
 cases ha with
 | tuple cs rs hl hv=>
  simp only[gv3] at h;obtain ⟨hlt,hc⟩:=List.getElem?_eq_some_iff.1 h;have h1:=hv i hlt;have hlt':i<rs.size:=by omega
  rw[ac7 _ _ _ hlt',List.getD_eq_getElem?_getD,h] at h1
  exact ⟨rs[i],by simp[Instr.extract,Array.getElem?_eq_getElem hlt'],h1⟩
 | _=>simp[gv3] at h
def fx4 (σ:Store):IV->Option IV
 | .aa1|.ac2|.ae5|.ae1=>some (.int .i64 0)
 | .aa3 es=>some (.int .i64 es.length)
 | .slice _ _ len _=>some (.int .i64 len)
 | .af1 _ _ len _=>some (.int .i64 len)
 | .ae2 _ _ len _ _=>some (.int .i64 len)
 | .str s=>some (.int .i64 s.length)
 | .map id=>match σ.obj id with
  | some (.map es)=>some (.int .i64 es.length)
  | _=>none
 | _=>none
def ik8 (P:Program)(t:TypeId):Bool :=
 match P.underlying t with
 | some (.slice _)|some .string|some (.map _ _)=>true
 | _=>false
theorem fe2 {E:Nat->IV}{σ:Store}{t ty:TypeId}{a v:IV}{ra:Value}(hs:Sim E ρ w σ)(ht:ik8 P t=true) (hk:∀ u,P.underlying t=some u ->
   (match u,a with|.slice _,.aa1|.slice _,.ac2|.slice _,.ae5|.slice _,.aa3 _|.slice _,.slice _ _ _ _|.slice _,.af1 _ _ _ _|.slice _,.ae2 _ _ _ _ _|.string,.str _|.map _ _,.ae1|.map _ _,.map _=>true|_,_=>false)=true)
  (h:fx4 σ a=some v) (ha:VR ρ w a ra):∃ x,(Builtin.len_ #[t] ty #[ra]).run P w=.ok x w/\VR ρ w v x:=by
 unfold ik8 at ht
 cases hu:P.underlying t with
 | none=>rw[hu] at ht; cases ht
 | some u=>
  have hk:=hk u hu
  cases ha with
  | aa1=>cases u<;>simp at hk; cases h; exact ⟨_,by simp[Builtin.len_,run_underlying hu,goInt],.int _ _⟩
  | ac2 c=>cases u<;>simp at hk; cases h; exact ⟨_,by simp[Builtin.len_,run_underlying hu,goInt],.int _ _⟩
  | ae5 c _=>cases u<;>simp at hk; cases h; exact ⟨_,by simp[Builtin.len_,run_underlying hu,goInt],.int _ _⟩
  | ae1=>cases u<;>simp at hk; cases h; exact ⟨_,by simp[Builtin.len_,run_underlying hu,goInt],.int _ _⟩
  | str s=>cases u<;>simp at hk; cases h; exact ⟨_,by simp[Builtin.len_,run_underlying hu,goInt,size_mk],.int _ _⟩
  | aa3 es b o cap esz sp vs hf hsz hc hv hle=>cases u<;>simp at hk; cases h; exact ⟨_,by simp[Builtin.len_,run_underlying hu,goInt],.int _ _⟩
  | bw1=>cases u<;>simp at hk; cases h; exact ⟨_,by simp[Builtin.len_,run_underlying hu,goInt],.int _ _⟩
  | slice id off len esz B d cap rcs el fz hid hb hsz hle=>cases u<;>simp at hk; cases h; exact ⟨_,by simp[Builtin.len_,run_underlying hu,goInt],.int _ _⟩
  | ag3 id off esz B d a hid=>cases u<;>simp at hk; cases h; exact ⟨_,by simp[Builtin.len_,run_underlying hu,goInt],.int _ _⟩
  | ag4 id off len esz cap ad hid hle=>cases u<;>simp at hk; cases h; exact ⟨_,by simp[Builtin.len_,run_underlying hu,goInt],.int _ _⟩
  | af1 id off len esz B d rcs el fz hid hb hsz=>cases u<;>simp at hk; cases h; exact ⟨_,by simp[Builtin.len_,run_underlying hu,goInt],.int _ _⟩
  | al6 id off len esz ad hid=>cases u<;>simp at hk; cases h; exact ⟨_,by simp[Builtin.len_,run_underlying hu,goInt],.int _ _⟩
  | ae2 id off len room esz B d cap rcs el fz hid hb hsz hle hr=>cases u<;>simp at hk; cases h; exact ⟨_,by simp[Builtin.len_,run_underlying hu,goInt],.int _ _⟩
  | am9 id off len room esz cap ad hid hle hr=>cases u<;>simp at hk; cases h; exact ⟨_,by simp[Builtin.len_,run_underlying hu,goInt],.int _ _⟩
  | map id B d hid=>
   cases u<;>simp at hk;simp only[fx4] at h;obtain ⟨ob,ho,hor⟩:=hs.obj id B d hid;rw[ho] at h
   cases ob with
   | map es=>
    cases h;obtain ⟨mes,clock,hb,_,hl,_⟩:=hor
    exact ⟨_,by simp[Builtin.len_,run_underlying hu,getObj,Sem.run,hb,goInt,hl],.int _ _⟩
   | _=>simp at h
  | mapD id B hid=>simp[fx4,hs.dead id hid] at h
  | _=>simp[fx4] at h
def cq2:IV->Option Nat
 | .int _ i=>if 0<=i then some i.toNat else none
 | _=>none
def bq4 (d:Nat):Option IV->Option Nat
 | none=>some d
 | some v=>cq2 v
theorem ar3 {v:IV}{n:Nat}{r:Value}(h:cq2 v=some n)(hv:VR ρ w v r):∃ k,r=.int k (n:Int):=by
 cases hv with
 | int k i=>
  simp only[cq2] at h;split at h
  ·cases h; exact ⟨k,by congr 1; omega⟩
  ·cases h
 | _=>simp[cq2] at h
def ch4 (lo hi:Option IV):IV->Option IV
 | .str s=>match bq4 0 lo,bq4 s.length hi with
  | some l,some h=>if l<=h/\h<=s.length then some (.str ((s.take h).drop l)) else none
  | _,_=>none
 | _=>none
def OVR (ρ:Rho)(w:World):Option IV->Option Value->Prop
 | none,none=>True
 | some v,some r=>VR ρ w v r
 | _,_=>False
theorem dk7 {v:Option IV}{r:Option Value}{n d y:Nat}{c:BoundsCode}(h:bq4 d v=some n)(hv:OVR ρ w v r)(hle:n<=y) :
  (match r with|some x=>Instr.sliceBound x y c|none=>pure d:Sem Nat).run P w=.ok n w:=by
 cases v with
 | none=>
  cases r with
  | none=>simp_all [bq4]
  | some r=>exact hv.elim
 | some v=>
  cases r with
  | none=>simp[OVR] at hv
  | some r=>
   simp only[bq4] at h;obtain ⟨k,rfl⟩:=ar3 h hv;have:((n:Int)<=(y:Int)):=by omega
   simp[Instr.sliceBound,asIntOf,this]
theorem aj2 {isSlice:Bool}{len cap l h:Nat}{lo hi:Option IV}{rlo rhi:Option Value}(hlo:bq4 0 lo=some l)(hhi:bq4 len hi=some h)
  (h1:OVR ρ w lo rlo) (h2:OVR ρ w hi rhi) (hlh:l<=h) (hc:h<=cap) :
  (Instr.sliceBounds isSlice len cap rlo rhi none).run P w=.ok (l,h,cap) w:=by
 have e2:=dk7 (P:=P) (w:=w) (ρ:=ρ) (c:=if isSlice then .sliceAcap else .sliceAlen) hhi h2 hc;have e1:=dk7 (P:=P) (w:=w) (ρ:=ρ) (c:=.sliceB) hlo h1 hlh;cases rlo<;>cases rhi<;>simp_all [Instr.sliceBounds]
theorem ek6 {t:TypeId}{a v:IV}{ra:Value}{lo hi:Option IV}{rlo rhi:Option Value}(hu:P.underlying t=some .string)(h:ch4 lo hi a=some v)
  (ha:VR ρ w a ra) (h1:OVR ρ w lo rlo) (h2:OVR ρ w hi rhi):∃ x,(Instr.sliceAt t ra rlo rhi none).run P w=.ok x w/\VR ρ w v x:=by
 cases ha with
 | str s=>
  simp only[ch4] at h;split at h
  ·rename_i l h' hl hh;split at h
   ·rename_i hc;cases h;have hb:=aj2 (P:=P) (w:=w) (ρ:=ρ) (isSlice:=false) (cap:=s.length) hl hh h1 h2 hc.1 hc.2;refine ⟨_,?_,.str _⟩
    have e:(ByteArray.mk s.toArray).extract l h'=ByteArray.mk ((s.take h').drop l).toArray:=by
     apply ByteArray.ext;simp[List.drop_take]
    simp[Instr.sliceAt,Instr.slice,run_underlying hu,size_mk,hb,e]
   ·cases h
  ·cases h
 | _=>simp[ch4] at h
def bh9 (esz:Nat)(lo hi:Option IV):IV->Option IV
 | .aa1=>match bq4 0 lo,bq4 0 hi with
  | some l,some h=>if l=0/\h=0 then some .aa1 else none
  | _,_=>none
 | .aa3 es=>match bq4 0 lo,bq4 es.length hi with
  | some l,some h=>if l<=h/\h<=es.length/\es.all (fun e=>e.length==esz) then some (.aa3 ((es.take h).drop l)) else none
  | _,_=>none
 | .slice id off len e=>match bq4 0 lo,bq4 len hi with
  | some l,some h=>if l<=h/\h<=len/\e=esz then some (.slice id (off+l*esz) (h-l) esz) else none
  | _,_=>none
 | .af1 id off len e=>match bq4 0 lo,bq4 len hi with
  | some l,some h=>if l<=h/\h<=len/\e=esz then some (.slice id (off+l*esz) (h-l) esz) else none
  | _,_=>none
 | .ae2 id off len room e=>match bq4 0 lo,bq4 len hi with
  | some l,some h=>if l<=h/\h<=room/\e=esz then some (.slice id (off+l*esz) (h-l) esz) else none
  | _,_=>none
 | _=>none
theorem ek7 {es:List (List IV)}{r:Value}{l h:Nat}(hv:VR ρ w (.aa3 es) r)(h1:l<=h)(h2:h<=es.length)(esz:Nat)(hall:∀ e∈es,e.length=esz)(hnn:r≠.slice none 0 0) :
  ∃ b o cap sp,r=.slice (some ⟨b,o,sp⟩) es.length cap/\es.length<=cap /\
   VR ρ w (.aa3 ((es.take h).drop l)) (.slice (if cap=l then some ⟨b,o,sp⟩ else (some (⟨b,o,sp⟩:Addr)).map (·.add (l*esz))) (h-l) (cap-l)):=by
 cases hv with
 | bw1=>exact absurd rfl hnn
 | aa3 es b o cap esz' sp vs hf hsz hc hv hle=>
  refine ⟨b,o,cap,sp,rfl,hle,?_⟩;have hlen:((es.take h).drop l).length=h-l:=by simp; omega
  by_cases hcl:cap=l
  ·have h0:(es.take h).drop l=[]:=List.drop_of_length_le (by simp; omega);have hz:h-l=0:=by omega
   rw[h0,hz];simp only[hcl,if_true,Nat.sub_self];exact VR.aa3 [] b o 0 0 sp (fun _ _=>.nilIface) (fun hn=>absurd rfl hn) (fun i hi=>by simp at hi) (fun i hi=>by simp at hi) (fun i hi=>by simp at hi) (by simp)
  ·simp only[hcl,if_false,Option.map_some];by_cases he:(es.take h).drop l=[]
   ·rw[he];have hz:h-l=0:=by rw[<- hlen,he]; rfl
    rw[hz]
    have:(⟨b,o,sp⟩:Addr).add (l*esz)=⟨b,((⟨b,o,sp⟩:Addr).add (l*esz)).off,((⟨b,o,sp⟩:Addr).add (l*esz)).spot⟩:=by
     unfold Addr.add; split<;>rfl
    rw[this];exact VR.aa3 [] b _ _ 0 _ (fun _ _=>.nilIface) (fun hn=>absurd rfl hn) (fun i hi=>by simp at hi) (fun i hi=>by simp at hi) (fun i hi=>by simp at hi) (by simp)
   ·have hpos:l<h:=by
     rcases Nat.lt_or_ge l h with h'|h'
     ·exact h'
     ·exact absurd (List.eq_nil_of_length_eq_zero (by rw[hlen]; omega)) he
    have hne:es≠[]:=by intro h0; subst h0; simp at h2; omega
    obtain ⟨hf1,rfl⟩:=hf hne
    have hee:esz'=esz:=by
     have h0:0<es.length:=by omega
     rw[<- hsz 0 h0];refine hall _ ?_;rw[List.getD_eq_getElem?_getD,List.getElem?_eq_getElem h0];exact List.getElem_mem _
    subst hee;rw[aq1]
    have hg:∀ i,i<h-l->((es.take h).drop l).getD i []=es.getD (l+i) []:=fun i hi=>by
     rw[aj8,getD_take' _ _ _ _ (by omega)]
    have hx:h-l=((es.take h).drop l).length:=hlen.symm;rw[hx];refine VR.aa3 _ b _ _ esz' none (fun i j=>vs (l+i) j) (fun _=>⟨hf1,rfl⟩) (fun i hi=>?_) (fun i hi j hj=>?_) (fun i hi j hj=>?_) (by rw[hlen]; omega)
    ·rw[hlen] at hi; rw[hg i hi]; exact hsz _ (by omega)
    ·rw[hlen] at hi;have:=hc (l+i) (by omega) j hj;rw[Nat.add_mul] at this;rw[<- this];congr 2;omega
    ·rw[hlen] at hi; rw[hg i hi]; exact hv _ (by omega) j hj
theorem fe3 {t elem:TypeId}{esz:Nat}{a v:IV}{ra:Value}{lo hi:Option IV}{rlo rhi:Option Value}
  (hu:P.underlying t=some (.slice elem)) (hz:szT P elem=some esz) (h:bh9 esz lo hi a=some v)
  (ha:VR ρ w a ra) (h1:OVR ρ w lo rlo) (h2:OVR ρ w hi rhi):∃ x,(Instr.sliceAt t ra rlo rhi none).run P w=.ok x w/\VR ρ w v x:=by
 cases ha with
 | aa1=>
  simp only[bh9] at h;split at h
  ·rename_i l h' hl hh;split at h
   ·rename_i hc;obtain ⟨rfl,rfl⟩:=hc;cases h;have hb:=aj2 (P:=P) (w:=w) (ρ:=ρ) (isSlice:=true) (len:=0) (cap:=0) hl hh h1 h2 (Nat.le_refl _) (Nat.zero_le _);refine ⟨.slice none 0 0,?_,.aa1⟩;simp[Instr.sliceAt,Instr.slice,run_underlying hu,hb,run_sizeOf hz]
   ·cases h
  ·cases h
 | bw1=>
  simp only[bh9] at h;split at h
  ·rename_i l h' hl hh;split at h
   ·rename_i hc;obtain ⟨c1,c2,_⟩:=hc;simp only[List.length_nil,Nat.le_zero] at c2;subst c2;have c1':l=0:=by omega
    subst c1';cases h;have hb:=aj2 (P:=P) (w:=w) (ρ:=ρ) (isSlice:=true) (len:=0) (cap:=0) hl hh h1 h2 (Nat.le_refl _) (Nat.zero_le _);refine ⟨.slice none 0 0,?_,.bw1⟩;simp[Instr.sliceAt,Instr.slice,run_underlying hu,hb,run_sizeOf hz]
   ·cases h
  ·cases h
 | aa3 es b o cap esz' sp vs hf hsz hc hv hle=>
  simp only[bh9] at h;split at h
  ·rename_i l h' hl hh;split at h
   ·rename_i hcc;obtain ⟨c1,c2,c3⟩:=hcc;cases h;have hb:=aj2 (P:=P) (w:=w) (ρ:=ρ) (isSlice:=true) (cap:=cap) hl hh h1 h2 c1 (by omega)
    obtain ⟨b',o',cap',sp',heq,hle',hvr⟩:=ek7 (.aa3 es b o cap esz' sp vs hf hsz hc hv hle) c1 c2 esz (fun e he=>by
     have:=List.all_eq_true.1 c3 e he; simpa using this) (fun e=>by cases e)
    simp only[Value.slice.injEq,Option.some.injEq,Addr.mk.injEq,true_and] at heq;obtain ⟨⟨rfl,rfl,rfl⟩,rfl⟩:=heq;refine ⟨_,?_,hvr⟩;simp[Instr.sliceAt,Instr.slice,run_underlying hu,hb,run_sizeOf hz]
   ·cases h
  ·cases h
 | slice id off len e B d cap rcs el fz hid hbk hsz hle=>
  simp only[bh9] at h;split at h
  ·rename_i l h' hl hh;split at h
   ·rename_i hcc;obtain ⟨c1,c2,rfl⟩:=hcc;cases h;have hb:=aj2 (P:=P) (w:=w) (ρ:=ρ) (isSlice:=true) (cap:=cap) hl hh h1 h2 c1 (by omega);refine ⟨.slice (some (if cap=l then ⟨B,d+off,none⟩ else ⟨B,d+off+l*e,none⟩)) (h'-l) (cap-l),?_,?_⟩
    ·simp[Instr.sliceAt,Instr.slice,run_underlying hu,hb,run_sizeOf hz,aq1,apply_ite]
    ·by_cases hcl:cap=l
     ·have e1:h'-l=0:=by omega
      have e2:cap-l=0:=by omega
      rw[e1,e2];exact .ag3 id _ e B d _ hid
     ·simp only[hcl,if_false];rw[Nat.add_assoc];refine .slice id _ _ e B d _ rcs el fz hid hbk ?_ (by omega);have:(cap-l)*e+l*e=cap*e:=by rw[<- Nat.add_mul]; congr 1; omega
      omega
   ·cases h
  ·cases h
 | ag3 id off e B d a hid=>
  simp only[bh9] at h;split at h
  ·rename_i l h' hl hh;split at h
   ·rename_i hcc;obtain ⟨c1,c2,rfl⟩:=hcc;cases h;have hb:=aj2 (P:=P) (w:=w) (ρ:=ρ) (isSlice:=true) (cap:=0) hl hh h1 h2 c1 c2;have e1:l=0:=by omega
    have e2:h'=0:=by omega
    subst e1; subst e2;refine ⟨.slice (some a) 0 0,?_,.ag3 id _ e B d a hid⟩;simp[Instr.sliceAt,Instr.slice,run_underlying hu,hb,run_sizeOf hz]
   ·cases h
  ·cases h
 | ag4 id off len e cap ad hid hle=>
  simp only[bh9] at h;split at h
  ·rename_i l h' hl hh;split at h
   ·rename_i hcc;obtain ⟨c1,c2,rfl⟩:=hcc;cases h;have hb:=aj2 (P:=P) (w:=w) (ρ:=ρ) (isSlice:=true) (cap:=cap) hl hh h1 h2 c1 (by omega);refine ⟨.slice (some (if cap=l then ad else ad.add (l*e))) (h'-l) (cap-l),?_,.ag4 id _ _ e _ _ hid (by omega)⟩;simp[Instr.sliceAt,Instr.slice,run_underlying hu,hb,run_sizeOf hz,apply_ite]
   ·cases h
  ·cases h
 | al6 id off len e ad hid=>
  simp only[bh9] at h;split at h
  ·rename_i l h' hl hh;split at h
   ·rename_i hcc;obtain ⟨c1,c2,rfl⟩:=hcc;cases h;have hb:=aj2 (P:=P) (w:=w) (ρ:=ρ) (isSlice:=true) (cap:=len) hl hh h1 h2 c1 (by omega);refine ⟨.slice (some (if len=l then ad else ad.add (l*e))) (h'-l) (len-l),?_,.ag4 id _ _ e _ _ hid (by omega)⟩;simp[Instr.sliceAt,Instr.slice,run_underlying hu,hb,run_sizeOf hz,apply_ite]
   ·cases h
  ·cases h
 | af1 id off len e B d rcs el fz hid hbk hsz=>
  simp only[bh9] at h;split at h
  ·rename_i l h' hl hh;split at h
   ·rename_i hcc;obtain ⟨c1,c2,rfl⟩:=hcc;cases h;have hb:=aj2 (P:=P) (w:=w) (ρ:=ρ) (isSlice:=true) (cap:=len) hl hh h1 h2 c1 (by omega);refine ⟨.slice (some (if len=l then ⟨B,d+off,none⟩ else ⟨B,d+off+l*e,none⟩)) (h'-l) (len-l),?_,?_⟩
    ·simp[Instr.sliceAt,Instr.slice,run_underlying hu,hb,run_sizeOf hz,aq1,apply_ite]
    ·by_cases hcl:len=l
     ·have e1:h'-l=0:=by omega
      have e2:len-l=0:=by omega
      rw[e1,e2];exact .ag3 id _ e B d _ hid
     ·simp only[hcl,if_false];rw[Nat.add_assoc];refine .slice id _ _ e B d _ rcs el fz hid hbk ?_ (by omega);have:(len-l)*e+l*e=len*e:=by rw[<- Nat.add_mul]; congr 1; omega
      omega
   ·cases h
  ·cases h
 | am9 id off len room e cap ad hid hle hr=>
  simp only[bh9] at h;split at h
  ·rename_i l h' hl hh;split at h
   ·rename_i hcc;obtain ⟨c1,c2,rfl⟩:=hcc;cases h;have hb:=aj2 (P:=P) (w:=w) (ρ:=ρ) (isSlice:=true) (cap:=cap) hl hh h1 h2 c1 (by omega);refine ⟨.slice (some (if cap=l then ad else ad.add (l*e))) (h'-l) (cap-l),?_,.ag4 id _ _ e _ _ hid (by omega)⟩;simp[Instr.sliceAt,Instr.slice,run_underlying hu,hb,run_sizeOf hz,apply_ite]
   ·cases h
  ·cases h
 | ae2 id off len room e B d cap rcs el fz hid hbk hsz hle hr=>
  simp only[bh9] at h;split at h
  ·rename_i l h' hl hh;split at h
   ·rename_i hcc;obtain ⟨c1,c2,rfl⟩:=hcc;cases h;have hb:=aj2 (P:=P) (w:=w) (ρ:=ρ) (isSlice:=true) (cap:=cap) hl hh h1 h2 c1 (by omega);refine ⟨.slice (some (if cap=l then ⟨B,d+off,none⟩ else ⟨B,d+off+l*e,none⟩)) (h'-l) (cap-l),?_,?_⟩
    ·simp[Instr.sliceAt,Instr.slice,run_underlying hu,hb,run_sizeOf hz,aq1,apply_ite]
    ·by_cases hcl:cap=l
     ·have e1:h'-l=0:=by omega
      have e2:cap-l=0:=by omega
      rw[e1,e2];exact .ag3 id _ e B d _ hid
     ·simp only[hcl,if_false];rw[Nat.add_assoc];refine .slice id _ _ e B d _ rcs el fz hid hbk ?_ (by omega);have:(cap-l)*e+l*e=cap*e:=by rw[<- Nat.add_mul]; congr 1; omega
      omega
   ·cases h
  ·cases h
 | _=>simp[bh9] at h
end Go.Id
/- More quiet operations on ideal values: nil,equality of structs,conversions,building,closures,maps that are read. Conditions: none; over any program. -/
namespace Go.Id
open Go
variable {P:Program} {w:World} {ρ:Rho}
def fx5:IV->Option IV
 | .aa1=>some .aa1
 | .ac2=>some .ac2
 | .ae5=>some .ac2
 | .aa3 es=>if es=[] then some (.aa3 []) else some .ac2
 | .slice _ _ _ _=>some .ac2
 | .af1 _ _ _ _=>some .ac2
 | _=>none
theorem fe4 {t elem:TypeId}{esz:Nat}{a v:IV}{ra:Value}{k1 k2:IntKind}
  (hu:P.underlying t=some (.slice elem)) (hz:szT P elem=some esz) (h:fx5 a=some v) (ha:VR ρ w a ra) :
  ∃ x,(Instr.sliceAt t ra none (some (.int k1 0)) (some (.int k2 0))).run P w=.ok x w/\VR ρ w v x:=by
 have hb:∀ len cap:Nat,(Instr.sliceBounds true len cap none (some (.int k1 0)) (some (.int k2 0))).run P w=.ok (0,0,0) w:=fun len cap=>by
  simp[Instr.sliceBounds,Instr.sliceBound,asIntOf]
 cases ha with
 | aa1=>cases h; exact ⟨_,by simp[Instr.sliceAt,Instr.slice,run_underlying hu,hb,run_sizeOf hz],.aa1⟩
 | ac2 c=>cases h; exact ⟨_,by simp[Instr.sliceAt,Instr.slice,run_underlying hu,hb,run_sizeOf hz]; rfl,.ac2 _⟩
 | ae5 c _=>cases h; exact ⟨_,by simp[Instr.sliceAt,Instr.slice,run_underlying hu,hb,run_sizeOf hz]; rfl,.ac2 _⟩
 | bw1=>cases h; exact ⟨_,by simp[Instr.sliceAt,Instr.slice,run_underlying hu,hb,run_sizeOf hz],.bw1⟩
 | aa3 es b o cap esz sp vs hf hsz hc hv hle=>
  simp only[fx5] at h;split at h
  ·cases h; exact ⟨_,by simp[Instr.sliceAt,Instr.slice,run_underlying hu,hb,run_sizeOf hz]; rfl,by
    have:=VR.aa3 (ρ:=ρ) (w:=w) [] b o 0 0 sp (fun _ _=>.nilIface) (fun hn=>absurd rfl hn) (fun i hi=>by simp at hi) (fun i hi=>by simp at hi) (fun i hi=>by simp at hi) (by simp);exact this⟩
  ·cases h; exact ⟨_,by simp[Instr.sliceAt,Instr.slice,run_underlying hu,hb,run_sizeOf hz]; rfl,.ac2 _⟩
 | slice id off len e B d cap rcs el fz hid hbk hsz hle=>cases h; exact ⟨_,by simp[Instr.sliceAt,Instr.slice,run_underlying hu,hb,run_sizeOf hz]; rfl,.ac2 _⟩
 | ag3 id off e B d a hid=>cases h; exact ⟨_,by simp[Instr.sliceAt,Instr.slice,run_underlying hu,hb,run_sizeOf hz]; rfl,.ac2 _⟩
 | ag4 id off len e cap ad hid hle=>cases h; exact ⟨_,by simp[Instr.sliceAt,Instr.slice,run_underlying hu,hb,run_sizeOf hz]; rfl,.ac2 _⟩
 | af1 id off len e B d rcs el fz hid hbk hsz=>cases h; exact ⟨_,by simp[Instr.sliceAt,Instr.slice,run_underlying hu,hb,run_sizeOf hz]; rfl,.ac2 _⟩
 | al6 id off len e ad hid=>cases h; exact ⟨_,by simp[Instr.sliceAt,Instr.slice,run_underlying hu,hb,run_sizeOf hz]; rfl,.ac2 _⟩
 | _=>simp[fx5] at h
def fy2 (d:TypeDesc):IV->Option Bool
 | .af2=>match d with|.pointer _=>some true|_=>none
 | .ad4 _=>match d with|.pointer _=>some false|_=>none
 | .ptr _ _=>match d with|.pointer _=>some false|_=>none
 | .aa1=>match d with|.slice _=>some true|_=>none
 | .ac2=>match d with|.slice _=>some false|_=>none
 | .ae5=>match d with|.slice _=>some false|_=>none
 | .aa3 es=>if es=[] then none else match d with|.slice _=>some false|_=>none
 | .slice _ _ _ _=>match d with|.slice _=>some false|_=>none
 | .ae1=>match d with|.map _ _=>some true|_=>none
 | .map _=>match d with|.map _ _=>some false|_=>none
 | .af3=>match d with|.func _ _ _=>some true|_=>none
 | .func _ _ _=>match d with|.func _ _ _=>some false|_=>none
 | _=>none
def gp2:IV->IV
 | .af1 i o l e=>.slice i o l e
 | .ae2 i o l _ e=>.slice i o l e
 | v=>v
theorem dk8 {v:IV}{r:Value}(h:VR ρ w v r):VR ρ w (gp2 v) r:=by
 cases h with
 | af1 id off len esz B d rcs el fz hi hb hsz=>exact .slice id off len esz B d len rcs el fz hi hb hsz (Nat.le_refl _)
 | al6 id off len esz ad hi=>exact .ag4 id off len esz len ad hi (Nat.le_refl _)
 | ae2 id off len room esz B d cap rcs el fz hi hb hsz hle hr=>exact .slice id off len esz B d cap rcs el fz hi hb hsz (Nat.le_trans hle hr)
 | am9 id off len room esz cap ad hi hle hr=>exact .ag4 id off len esz cap ad hi (Nat.le_trans hle hr)
 | undef r=>exact .undef r
 | bool b=>exact .bool b
 | int k n=>exact .int k n
 | str s=>exact .str s
 | af2=>exact .af2
 | ptr id off B d h=>exact .ptr id off B d h
 | ci9 id off ad h=>exact .ci9 id off ad h
 | ad4 cs b o vs hf hc hv=>exact .ad4 cs b o vs hf hc hv
 | aa1=>exact .aa1
 | ac2 a=>exact .ac2 a
 | ae5 a c=>exact .ae5 a c
 | slice id off len esz B d cap rcs el fz h hb hsz hle=>exact .slice id off len esz B d cap rcs el fz h hb hsz hle
 | ag3 id off esz B d a h=>exact .ag3 id off esz B d a h
 | ag4 id off len esz cap ad h hle=>exact .ag4 id off len esz cap ad h hle
 | aa3 es b o cap esz sp vs hf hsz hc hv hle=>exact .aa3 es b o cap esz sp vs hf hsz hc hv hle
 | bw1=>exact .bw1
 | ae1=>exact .ae1
 | map id B d h=>exact .map id B d h
 | mapD id B h=>exact .mapD id B h
 | al4 es es' b mes clock hp hd hf hb hl hk hv h4 h5=>exact .al4 es es' b mes clock hp hd hf hb hl hk hv h4 h5
 | func fn first cap rf rc hy h1 h2 hf hc=>exact .func fn first cap rf rc hy h1 h2 hf hc
 | yield id B d h=>exact .yield id B d h
 | aw6 id B h=>exact .aw6 id B h
 | af3=>exact .af3
 | iface t v r h=>exact .iface t v r h
 | af5=>exact .af5
 | agg cs rs h hv=>exact .agg cs rs h hv
 | tuple cs rs h hv=>exact .tuple cs rs h hv
def dj9 (d:TypeDesc)(v:IV):Option Bool:=fy2 d (gp2 v)
def ek8:TypeDesc->Option Value
 | .pointer _=>some (.pointer none)
 | .slice _=>some (.slice none 0 0)
 | .map _ _=>some (.map none)
 | .func _ _ _=>some .nilFunc
 | _=>none
theorem ek9 {t:TypeId}{d:TypeDesc}{op:BinOp}{x y:Operand}{a:IV}{ra rn:Value}{b:Bool}
  (hu:P.underlying t=some d) (hn:ek8 d=some rn) (hop:op=.eql\/op=.neq) (h:fy2 d a=some b) (ha:VR ρ w a ra) :
  (do eqGuard op t x y ra rn; binOp op t ra rn:Sem Value).run P w=.ok (.bool (if op=.eql then b else !b)) w:=by
 have hg:(eqGuard op t x y ra rn).run P w=.ok () w:=by
  unfold eqGuard;rcases hop with rfl|rfl<;>cases d<;>simp[ek8] at hn<;>subst hn<;>cases ra<;>rfl
 simp only[Sem.run_bind,hg,Result.andThen_ok]
 have key:(Op.equal t ra rn).run P w=.ok b w:=by
  unfold Op.equal Op.maxDepth Op.equalIn;cases ha<;>cases d<;>simp[ek8] at hn<;>(try subst hn)<;>simp[fy2] at h<;>simp[run_underlying hu,h]
 rcases hop with rfl|rfl<;>cases d<;>simp[ek8] at hn<;>subst hn<;>cases ha<;>simp[fy2] at h<;>simp[binOp,key]
theorem fe5 {t:TypeId}{d:TypeDesc}{op:BinOp}{x y:Operand}{a:IV}{ra rn:Value}{b:Bool}
  (hu:P.underlying t=some d) (hn:ek8 d=some rn) (hop:op=.eql\/op=.neq) (h:dj9 d a=some b) (ha:VR ρ w a ra) :
  (do eqGuard op t x y ra rn; binOp op t ra rn:Sem Value).run P w=.ok (.bool (if op=.eql then b else !b)) w :=
 ek9 hu hn hop h (dk8 ha)
def ah4:Nat->IV->IV->Option Bool
 | 0,.bool a,.bool b=>some (a==b)
 | 1,.int k a,.int k' b=>if k=k' then some (decide (a=b)) else none
 | 2,.str a,.str b=>some (decide (a=b))
 | _,_,_=>none
def allEq:List Nat->List IV->List IV->Option Bool
 | [],[],[]=>some true
 | t::ts,x::xs,y::ys=>match ah4 t x y,allEq ts xs ys with
  | some a,some b=>some (a&&b)
  | _,_=>none
 | _,_,_=>none
def dk9 (P:Program)(g:TypeId->Option (List Nat)):List Field->Nat->Option (List Nat)
 | [],_=>some []
 | f::fs,off=>
  if f.name ≠ "_" ∧ f.offset = off then
   match g f.type,al5 P f.type with
   | some l,some none=>if l.length=1 then (dk9 P g fs (off+1)).map (l++·) else none
   | some l,some (some n)=>if n=l.length/\l.length≠0 then (dk9 P g fs (off+l.length)).map (l++·) else none
   | _,_=>none
  else none
def cq4 (P:Program):Nat->TypeId->Option (List Nat)
 | 0,_=>none
 | d+1,t=>match P.underlying t with
  | some .bool=>some [0]
  | some (.int _)=>some [1]
  | some .string=>some [2]
  | some (.struct fs)=>if P.stoodInHeld t then none else dk9 P (cq4 P d) fs.toList 0
  | some (.array n e)=>match P.underlying e with
   | some (.int _)=>if szT P e=some 1/\0<d then some (List.replicate n 1) else none
   | _=>none
  | _=>none
theorem dl1 {t1 t2:List Nat}{xs ys:List IV}{b:Bool}(h:allEq (t1++t2) xs ys=some b) :
  ∃ b1 b2,allEq t1 (xs.take t1.length) (ys.take t1.length)=some b1/\allEq t2 (xs.drop t1.length) (ys.drop t1.length)=some b2/\b=(b1&&b2):=by
 induction t1 generalizing xs ys b with
 | nil=>exact ⟨true,b,by simp[allEq],by simpa using h,by simp⟩
 | cons t ts ih=>
  cases xs with
  | nil=>simp[allEq] at h
  | cons x xs=>
   cases ys with
   | nil=>simp[allEq] at h
   | cons y ys=>
    simp only[List.cons_append,allEq] at h;split at h
    ·rename_i a b' h1 h2;cases h;obtain ⟨b1,b2,e1,e2,rfl⟩:=ih h2;refine ⟨a&&b1,b2,?_,by simpa using e2,by rw[Bool.and_assoc]⟩;simp[allEq,h1,e1]
    ·cases h
theorem allEq_len {ts:List Nat}{xs ys:List IV}{b:Bool}(h:allEq ts xs ys=some b):xs.length=ts.length/\ys.length=ts.length:=by
 induction ts generalizing xs ys b with
 | nil=>cases xs<;>cases ys<;>simp[allEq] at h ⊢
 | cons t ts ih=>
  cases xs with
  | nil=>simp[allEq] at h
  | cons x xs=>
   cases ys with
   | nil=>simp[allEq] at h
   | cons y ys=>
    simp only[allEq] at h;split at h
    ·rename_i a b' h1 h2;have:=ih h2;simp[this]
    ·cases h
def IV.cs:IV->List IV
 | .agg xs=>xs
 | v=>[v]
theorem IV.bn8 {v:IV}(h:∀ zs,v≠.agg zs):v.cs=[v]:=by
 cases v<;>first|rfl|exact absurd rfl (h _)
theorem du2 (t:Nat)(zs:List IV)(y:IV):ah4 t (.agg zs) y=none:=by
 unfold ah4; split<;>first|rfl|contradiction
theorem du3 (t:Nat)(zs:List IV)(x:IV):ah4 t x (.agg zs)=none:=by
 unfold ah4; split<;>first|rfl|contradiction
theorem ck9 {t:Nat}{x y:IV}{b:Bool}(h:allEq [t] [x] [y]=some b):ah4 t x y=some b:=by
 simp only[allEq] at h;split at h
 ·rename_i a c h1 h2; cases h2; simpa [h1] using h
 ·cases h
theorem fy3 {x y:IV}{b:Bool}(h:ah4 0 x y=some b):∃ a c,x=.bool a/\y=.bool c/\b=(a==c):=by
 unfold ah4 at h; split at h<;>simp_all
theorem dd2 {x y:IV}{b:Bool}(h:ah4 1 x y=some b):∃ k a c,x=.int k a/\y=.int k c/\b=decide (a=c):=by
 unfold ah4 at h;split at h
 case h_2 k a k' c=>
  split at h
  ·rename_i hk; subst hk; cases h; exact ⟨_,_,_,rfl,rfl,rfl⟩
  ·cases h
 all_goals first|contradiction|(exfalso; simp_all; done)
theorem fy4 {x y:IV}{b:Bool}(h:ah4 2 x y=some b):∃ a c,x=.str a/\y=.str c/\b=decide (a=c):=by
 unfold ah4 at h; split at h<;>simp_all
theorem hq7 {t e:TypeId}{k:IntKind}{n:Nat}(hut:P.underlying t=some (.array n e))(hu:P.underlying e=some (.int k))(hsz:szT P e=some 1){d:Nat}{xs ys:List IV}{rxs rys:Array Value}{b:Bool}(hd:0<d)
  (hx:xs.length=rxs.size) (hy:ys.length=rys.size) (vx:∀ i,i<xs.length->VR ρ w (xs.getD i .undef) (rxs.getD i undef)) (vy:∀ i,i<ys.length->VR ρ w (ys.getD i .undef) (rys.getD i undef))
  (hb:allEq (List.replicate n 1) xs ys=some b) :
  (Op.equalIn (d+1) t (.agg rxs) (.agg rys)).run P w=.ok b w:=by
 have hlk:al5 P e=some none:=by simp[al5,ec5,hu]
 simp only[Op.equalIn,Sem.run_bind,run_underlying hut,Result.andThen_ok,run_sizeOf hsz,_root_.Std.Legacy.Range.forIn_eq_forIn_range',_root_.Std.Legacy.Range.size,Nat.sub_zero,Nat.add_sub_cancel,Nat.div_one,Nat.mul_one]
 have key:∀ (m off:Nat) (b:Bool),allEq (List.replicate m 1) (xs.drop off) (ys.drop off)=some b ->
   (forIn (m:=Sem) (List.range' off m) ((none,()):Option Bool×Unit) fun i __s=>do
      let __do_lift <- part e rxs i;let __do_lift_1 <- part e rys i;let __do_lift <- Op.equalIn d e __do_lift __do_lift_1
      if (!__do_lift)=true then pure (ForInStep.done (some false,())) else pure (ForInStep.yield (none,()))).run P w=.ok (if b then none else some false,()) w:=by
  intro m
  induction m with
  | zero=>
   intro off b h;rw[List.replicate_zero] at h;cases hxs:xs.drop off<;>cases hys:ys.drop off<;>rw[hxs,hys] at h<;>simp[allEq] at h;subst h
   simp
  | succ m ih=>
   intro off b h;rw[List.replicate_succ] at h;obtain ⟨l1,l2⟩:=allEq_len h;simp only[List.length_drop,List.length_cons,List.length_replicate] at l1 l2;have g1:off<xs.length:=by omega
   have g2:off<ys.length:=by omega
   rw[List.drop_eq_getElem_cons g1,List.drop_eq_getElem_cons g2] at h;simp only[allEq] at h;split at h
   ·rename_i b1 b2 h1 h2;cases h;obtain ⟨x,hpx,hvx⟩:=ar2 (P:=P) hlk (show ba2 none off xs=some xs[off] by simp[ba2,g1]) hx vx;obtain ⟨y,hpy,hvy⟩:=ar2 (P:=P) hlk (show ba2 none off ys=some ys[off] by simp[ba2,g2]) hy vy;obtain ⟨k1,a,c,ea,ec,rfl⟩:=dd2 h1;rw[ea] at hvx;rw[ec] at hvy;cases hvx; cases hvy
    have hq:(Op.equalIn d e (.int k1 a) (.int k1 c)).run P w=.ok (decide (a=c)) w:=by
     obtain ⟨d,rfl⟩:∃ m,d=m+1:=⟨d-1,by omega⟩;simp[Op.equalIn,run_underlying hu,ck7]
    simp only[List.range'_succ,List.forIn_cons,Sem.run_bind,hpx,hpy,hq,Result.andThen_ok];by_cases hac:a=c
    ·have:=ih (off+1) b2 h2;simp only[hac,decide_true,Bool.not_true,Bool.false_eq_true,if_false,Sem.run_pure,Result.andThen_ok,Bool.true_and];exact this
    ·simp[hac]
   ·cases h
 rw[key n 0 b (by simpa using hb)];cases b<;>simp
def it4 (P:Program)(d:Nat)(t:TypeId)(tags:List Nat):Prop :=
 ∀ (ρ:Rho) (w:World) (e:Nat) (x y:IV) (rx ry:Value) (b:Bool),VR ρ w x rx->VR ρ w y ry->(match al5 P t with|some none=>(∀ zs,x≠.agg zs)/\(∀ zs,y≠.agg zs)|some (some _)=>(∃ xs,x=.agg xs)/\∃ ys,y=.agg ys|none=>False) ->
  allEq tags x.cs y.cs=some b->(Op.equalIn (e+d) t rx ry).run P w=.ok b w
theorem cq5 {d e:Nat}{g:TypeId->Option (List Nat)}(hg:∀ t tags,g t=some tags->it4 P d t tags){xs ys:List IV}{rxs rys:Array Value}
  (hx:xs.length=rxs.size) (hy:ys.length=rys.size) (vx:∀ i,i<xs.length->VR ρ w (xs.getD i .undef) (rxs.getD i undef)) (vy:∀ i,i<ys.length->VR ρ w (ys.getD i .undef) (rys.getD i undef)) :
  ∀ (fs:List Field) (off:Nat) (tags:List Nat) (b:Bool),dk9 P g fs off=some tags->allEq tags (xs.drop off) (ys.drop off)=some b ->
   (Op.eqFields (e+d) rxs rys fs).run P w=.ok b w:=by
 intro fs
 induction fs with
 | nil=>
  intro off tags b hf h;cases hf;cases hxs:xs.drop off<;>cases hys:ys.drop off<;>rw[hxs,hys] at h<;>simp[allEq] at h;subst h
  simp[Op.eqFields]
 | cons f fs ih=>
  intro off tags b hf h;simp only[dk9] at hf;split at hf
  case isFalse=>cases hf
  rename_i hn;obtain ⟨hn,rfl⟩:=hn
  have step:∀ (l ts:List Nat) (agg:Option Nat),g f.type=some l->al5 P f.type=some agg->(agg.getD 1=l.length)->(∀ n,agg=some n->l.length≠0)->dk9 P g fs (f.offset+l.length)=some ts->tags=l++ts ->
    (Op.eqFields (e+d) rxs rys (f::fs)).run P w=.ok b w:=by
   intro l ts agg hl hk hsz hnz hrest htags;subst htags;obtain ⟨b1,b2,e1,e2,rfl⟩:=dl1 h;have len1:=allEq_len e1;simp only[List.length_take,List.length_drop] at len1;have hxl:f.offset+l.length<=xs.length\/l.length=0:=by omega
   have hyl:f.offset+l.length<=ys.length\/l.length=0:=by omega
   -- the parts
   have parts:∃ px py,ba2 agg f.offset xs=some px/\ba2 agg f.offset ys=some py /\
     (match al5 P f.type with|some none=>(∀ zs,px≠.agg zs)/\(∀ zs,py≠.agg zs)|some (some _)=>(∃ xs,px=.agg xs)/\∃ ys,py=.agg ys|none=>False) /\
     allEq l px.cs py.cs=some b1:=by
    cases agg with
    | none=>
     simp at hsz;have h1:f.offset<xs.length:=by omega
     have h2:f.offset<ys.length:=by omega
     have t1:(xs.drop f.offset).take l.length=[xs[f.offset]]:=by
      rw[<- hsz,List.drop_eq_getElem_cons h1]; rfl
     have t2:(ys.drop f.offset).take l.length=[ys[f.offset]]:=by
      rw[<- hsz,List.drop_eq_getElem_cons h2]; rfl
     rw[t1,t2] at e1
     have nx:∀ zs,xs[f.offset]≠.agg zs:=by
      intro zs hz;rw[hz] at e1
      match l,hsz,e1 with
      | [tag],_,e1=>simp only[allEq,du2] at e1; cases e1
     have ny:∀ zs,ys[f.offset]≠.agg zs:=by
      intro zs hz;rw[hz] at e1
      match l,hsz,e1 with
      | [tag],_,e1=>simp only[allEq,du3] at e1; cases e1
     refine ⟨xs[f.offset],ys[f.offset],by simp[ba2,h1],by simp[ba2,h2],by rw[hk]; exact ⟨nx,ny⟩,?_⟩;rw[IV.bn8 nx,IV.bn8 ny]
     exact e1
    | some n=>
     simp at hsz;have h0:=hnz n rfl;subst hsz;have h1:f.offset+l.length<=xs.length:=by omega
     have h2:f.offset+l.length<=ys.length:=by omega
     rw[hk];exact ⟨.agg ((xs.drop f.offset).take l.length),.agg ((ys.drop f.offset).take l.length),by simp[ba2,h1],by simp[ba2,h2],⟨⟨_,rfl⟩,⟨_,rfl⟩⟩,e1⟩
   obtain ⟨px,py,p1,p2,p3,p4⟩:=parts;obtain ⟨qx,r1,v1⟩:=ar2 hk p1 hx vx;obtain ⟨qy,r2,v2⟩:=ar2 hk p2 hy vy;have heq:=hg f.type l hl ρ w e px py qx qy b1 v1 v2 p3 p4;simp only[Op.eqFields,hn,ne_eq,not_false_eq_true,if_true,Sem.run_bind,r1,r2,heq,Result.andThen_ok]
   cases b1 with
   | false=>simp
   | true=>
    simp only[Bool.not_true,Bool.false_eq_true,if_false,Bool.true_and];exact ih (f.offset+l.length) ts b2 hrest (by simpa [List.drop_drop] using e2)
  split at hf
  ·rename_i l hl hk;split at hf
   ·rename_i h1
    cases hr:dk9 P g fs (f.offset+1) with
    | none=>rw[hr] at hf; cases hf
    | some ts=>rw[hr] at hf; cases hf; exact step l ts none hl hk (by simp[h1]) (fun n hn=>by cases hn) (by rw[h1]; exact hr) rfl
   ·cases hf
  ·rename_i l n hl hk;split at hf
   ·rename_i h1
    cases hr:dk9 P g fs (f.offset+l.length) with
    | none=>rw[hr] at hf; cases hf
    | some ts=>rw[hr] at hf; cases hf; exact step l ts (some n) hl hk (by simp[h1.1]) (fun _ _=>h1.2) hr rfl
   ·cases hf
  ·cases hf
end Go.Id
