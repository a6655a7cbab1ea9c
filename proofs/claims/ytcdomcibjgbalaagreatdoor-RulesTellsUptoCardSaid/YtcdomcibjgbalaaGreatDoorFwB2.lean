/- The ideal values,the ideal store,how they stand for the model's values and world; what a step of the world keeps. Conditions: none; over any program. -/
import Derived.RangeFuncLeaves
import Derived.OrdersIn
import Derived.LoopNIn
import Derived.TacticsIn
import Derived.WalkKit
open Option renaming some→za,none→zb
open List renaming getD_eq_getElem?_getD→zc,getElem?_eq_some_iff→zg,drop_eq_getElem_cons→zh,replicate→zn
open Nat renaming add_assoc→zd,le_refl→zi,le_trans→zk,add_mul→zm,lt_of_lt_of_le→zp
open Array renaming getD_eq_getD_getElem?→ze,getElem?_eq_getElem→zj
open ByteArray renaming mk→zf,ext→zo
open Bool renaming false_eq_true→zl
set_option linter.all false
private theorem om{P:Prop}(h:P:=by omega):P:=h
namespace Go.Id
inductive IV where
 | undef
 | bool (b:Bool)
 | int (k:IntKind) (n:Int)
 | str (s:List UInt8)
 | ae3
 | ptr (id off:Nat)
 | ab8 (cs:List IV)
 | aa1
 | ac6
 | af6
 | slice (id off len esz:Nat)
 | aa3 (es:List (List IV))
 | ah7
 | map (id:Nat)
 | al4 (es:List (IV×IV))
 | func (fn:Fn) (first cap:List IV)
 | yield (id:Nat)
 | ad7
 | iface (t:Nat) (v:IV)
 | ah2
 | agg (cs:List IV)
 | tuple (vs:List IV)
 | ag6 (id off len esz:Nat)
 | ak5 (id off len room esz:Nat)
 deriving Inhabited
inductive aj2 where
 | cells (cs:List IV)
 | row (cs:List IV)
 | map (es:List (IV×IV))
 | bg3 (s:List UInt8) (pos:Nat)
 | loop (N:Nat) (tmps:List (Nat×IV)) (params:Array Tmp) (assign body:Code) (st:LoopState) (pend:Option Code)
 | as1 (left:List (IV×IV)) (cur:Option (IV×IV))
 deriving Inhabited
inductive eg5 where
 | no
 | dead
 | at (B d:Nat)
structure Store where
 next:Nat
 obj:Nat->Option aj2
structure Rho where
 map:Nat->eg5
 X:Nat->Prop
instance:CoeFun Rho (λ_=>Nat->eg5):=⟨Rho.map⟩
structure UB (ρ:Rho) (w:World) (b:Nat):Prop where
 lt:b<w.heap.size
 no:∀i d,ρ i≠.at b d
structure FB (ρ:Rho) (w:World) (b:Nat):Prop where
 lt:b<w.heap.size
 no:∀i d,ρ i≠.at b d
 x:¬ρ.X b
theorem FB.ub {ρ:Rho}{w:World}{b:Nat}(h:FB ρ w b):UB ρ w b:=⟨h.1,h.2⟩
inductive KK where
 | str
 | int (k:IntKind)
 | agg (ks:List IntKind)
def dx2:KK->IV->Prop
 | .str,.str _=>True
 | .int k,.int k' _=>k'=k
 | .agg ks,.agg cs=>cs.length=ks.length/\∀i,i<cs.length->∃n,cs.getD i .undef=.int (ks.getD i .i64) n
 | _,_=>False
def da2 (es:List (IV×IV)):Prop:=(es.map (·.1)).Nodup/\∃K,∀e∈es,dx2 K e.1
inductive VR (ρ:Rho) (w:World):IV->Value->Prop
 | undef (r:Value):VR ρ w .undef r
 | bool (b:Bool):VR ρ w (.bool b) (.bool b)
 | int (k:IntKind) (n:Int):VR ρ w (.int k n) (.int k n)
 | str (s:List UInt8):VR ρ w (.str s) (.string ⟨s.toArray⟩)
 | ae3:VR ρ w .ae3 (.pointer zb)
 | ptr (id off B d:Nat) (h:ρ id=.at B d):VR ρ w (.ptr id off) (.pointer (za ⟨B,d+off,zb⟩))
 | cx8 (id off:Nat) (ad:Addr) (h:ρ id=.dead):VR ρ w (.ptr id off) (.pointer (za ad))
 | ab8 (cs:List IV) (b o:Nat) (vs:Nat->Value) (hf:FB ρ w b)
   (hc:∀j,j<cs.length->w.cell? ⟨b,o+j,zb⟩=za (vs j)) (hv:∀j,j<cs.length->VR ρ w (cs.getD j .undef) (vs j)) :
   VR ρ w (.ab8 cs) (.pointer (za ⟨b,o,zb⟩))
 | aa1:VR ρ w .aa1 (.slice zb 0 0)
 | ac6 (a:Addr):VR ρ w .ac6 (.slice (za a) 0 0)
 | af6 (a:Addr) (cap:Nat):VR ρ w .af6 (.slice (za a) 0 cap)
 | slice (id off len esz B d cap:Nat) (rcs:Array Value) (el:TypeId) (fz:Nat×Nat) (h:ρ id=.at B d)
   (hb:w.heap[B]? = za (.cells rcs el fz)) (hsz:d+off+cap*esz<=rcs.size) (hle:len<=cap) :
   VR ρ w (.slice id off len esz) (.slice (za ⟨B,d+off,zb⟩) len cap)
 | am6 (id off esz B d:Nat) (a:Addr) (h:ρ id=.at B d):VR ρ w (.slice id off 0 esz) (.slice (za a) 0 0)
 | al5 (id off len esz cap:Nat) (ad:Addr) (h:ρ id=.dead) (hle:len<=cap):VR ρ w (.slice id off len esz) (.slice (za ad) len cap)
 | aa3 (es:List (List IV)) (b o cap esz:Nat) (sp:Option Nat) (vs:Nat->Nat->Value) (hf:es≠[]->FB ρ w b/\sp=zb)
   (hsz:∀i,i<es.length->(es.getD i []).length=esz)
   (hc:∀i,i<es.length->∀j,j<esz->w.cell? ⟨b,o+(i*esz+j),zb⟩=za (vs i j))
   (hv:∀i,i<es.length->∀j,j<esz->VR ρ w ((es.getD i []).getD j .undef) (vs i j)) (hle:es.length<=cap) :
   VR ρ w (.aa3 es) (.slice (za ⟨b,o,sp⟩) es.length cap)
 | ci3:VR ρ w (.aa3 []) (.slice zb 0 0)
 | ah7:VR ρ w .ah7 (.map zb)
 | map (id B d:Nat) (h:ρ id=.at B d):VR ρ w (.map id) (.map (za B))
 | mapD (id B:Nat) (h:ρ id=.dead):VR ρ w (.map id) (.map (za B))
 | al4 (es es':List (IV×IV)) (b:Nat) (mes:Array MapEntry) (clock:Nat) (hp:es'.Perm es) (hd:da2 es) (hf:FB ρ w b) (hb:w.heap[b]? = za (.map mes clock)) (hl:es'.length=mes.size)
   (hk:∀i,i<es'.length->VR ρ w (es'.getD i (.undef,.undef)).1 (mes.getD i default).key) (hv:∀i,i<es'.length->VR ρ w (es'.getD i (.undef,.undef)).2 (mes.getD i default).val)
   (h4:∀i,i<mes.size->(mes.getD i default).born<clock) (h5:∀i j,i<j->j<mes.size->(mes.getD i default).born≠(mes.getD j default).born):VR ρ w (.al4 es) (.map (za b))
 | func (fn:Fn) (first cap:List IV) (rf rc:Array Value) (hy:∀l,fn≠.yield l) (h1:first.length=rf.size) (h2:cap.length=rc.size)
   (hf:∀i,i<first.length->VR ρ w (first.getD i .undef) (rf.getD i undef)) (hc:∀i,i<cap.length->VR ρ w (cap.getD i .undef) (rc.getD i undef)) :
   VR ρ w (.func fn first cap) (.func fn rf rc)
 | yield (id B d:Nat) (h:ρ id=.at B d):VR ρ w (.yield id) (.func (.yield B) #[] #[])
 | bc4 (id B:Nat) (h:ρ id=.dead):VR ρ w (.yield id) (.func (.yield B) #[] #[])
 | ad7:VR ρ w .ad7 .nilFunc
 | iface (t:Nat) (v:IV) (r:Value) (h:VR ρ w v r):VR ρ w (.iface t v) (.iface t r)
 | ah2:VR ρ w .ah2 .nilIface
 | agg (cs:List IV) (rs:Array Value) (h:cs.length=rs.size) (hv:∀i,i<cs.length->VR ρ w (cs.getD i .undef) (rs.getD i undef)):VR ρ w (.agg cs) (.agg rs)
 | tuple (cs:List IV) (rs:Array Value) (h:cs.length=rs.size) (hv:∀i,i<cs.length->VR ρ w (cs.getD i .undef) (rs.getD i undef)):VR ρ w (.tuple cs) (.tuple rs)
 | ag6 (id off len esz B d:Nat) (rcs:Array Value) (el:TypeId) (fz:Nat×Nat) (h:ρ id=.at B d)
   (hb:w.heap[B]? = za (.cells rcs el fz)) (hsz:d+off+len*esz<=rcs.size):VR ρ w (.ag6 id off len esz) (.slice (za ⟨B,d+off,zb⟩) len len)
 | aq3 (id off len esz:Nat) (ad:Addr) (h:ρ id=.dead):VR ρ w (.ag6 id off len esz) (.slice (za ad) len len)
 | ak5 (id off len room esz B d cap:Nat) (rcs:Array Value) (el:TypeId) (fz:Nat×Nat) (h:ρ id=.at B d)
   (hb:w.heap[B]? = za (.cells rcs el fz)) (hsz:d+off+cap*esz<=rcs.size) (hle:len<=room) (hr:room<=cap):VR ρ w (.ak5 id off len room esz) (.slice (za ⟨B,d+off,zb⟩) len cap)
 | aw9 (id off len room esz cap:Nat) (ad:Addr) (h:ρ id=.dead) (hle:len<=room) (hr:room<=cap):VR ρ w (.ak5 id off len room esz) (.slice (za ad) len cap)
structure Ext (n:Nat) (ρ:Rho) (w:World) (ρ':Rho) (w':World):Prop where
 size:w.heap.size<=w'.heap.size
 keep:∀b,UB ρ w b->w'.heap[b]? = w.heap[b]?
 shape:∀(b:Nat) (rcs:Array Value) (el:TypeId) (fz:Nat×Nat),w.heap[b]? = za (.cells rcs el fz)->∃rcs':Array Value,w'.heap[b]? = za (.cells rcs' el fz)/\rcs'.size=rcs.size
 img:∀i B d,ρ' i=.at B d->(∃j d',ρ j=.at B d')\/w.heap.size<=B
 at_:∀i B d,ρ i=.at B d->ρ' i=.at B d\/ρ' i=.dead
 dead:∀i,ρ i=.dead->ρ' i=.dead
 no:∀i,i<n->ρ i=.no->ρ' i=.no
 output:w'.output=w.output
 os:w'.os=w.os
 tape:w'.tape=w.tape/\w.drawn<=w'.drawn
 loops:∀(l:Nat) (L:Loop),w.heap[l]? = za (Obj.loop L)->∃L':Loop,w'.heap[l]? = za (Obj.loop L')
 X:ρ'.X=ρ.X
theorem Ext.refl (n:Nat)(ρ:Rho)(w:World):Ext n ρ w ρ w :=
 ⟨zi _,λ_ _=>rfl,λ_ r _ _ h=>⟨r,h,rfl⟩,λi B d h=>.inl ⟨i,d,h⟩,λ_ _ _ h=>.inl h,λ_ h=>h,λ_ _ h=>h,rfl,rfl,⟨rfl,zi _⟩,λ_ L h=>⟨L,h⟩,rfl⟩
theorem Ext.ub {n:Nat}{ρ ρ':Rho}{w w':World}(h:Ext n ρ w ρ' w'){b:Nat}(hb:UB ρ w b):UB ρ' w' b:=by
 refine ⟨zp hb.1 h.size,λi d hi=>?_⟩;rcases h.img i b d hi with ⟨j,d',hj⟩|hlt
 ·exact hb.2 j d' hj
 ·exact absurd hb.1 (Nat.not_lt.2 hlt)
theorem Ext.fb {n:Nat}{ρ ρ':Rho}{w w':World}(h:Ext n ρ w ρ' w'){b:Nat}(hb:FB ρ w b):FB ρ' w' b :=
 ⟨(h.ub hb.ub).1,(h.ub hb.ub).2,by rw[h.X];exact hb.3⟩
theorem Ext.trans {n n':Nat}{ρ ρ' ρ'':Rho}{w w' w'':World}(h:Ext n ρ w ρ' w')(h':Ext n' ρ' w' ρ'' w'')(hn:n<=n'):Ext n ρ w ρ'' w'' where
 size:=zk h.size h'.size
 keep:=λb hb=>by rw[h'.keep b (h.ub hb),h.keep b hb]
 shape:=λb rcs el fz hb=>by
  obtain ⟨r1,h1,s1⟩:=h.shape b rcs el fz hb;obtain ⟨r2,h2,s2⟩:=h'.shape b r1 el fz h1;exact ⟨r2,h2,by rw[s2,s1]⟩
 img:=λi B d hi=>by
  rcases h'.img i B d hi with ⟨j,d',hj⟩|hlt
  ·exact h.img j B d' hj
  ·exact .inr (zk h.size hlt)
 at_:=λi B d hi=>by
  rcases h.at_ i B d hi with h1|h1
  ·exact h'.at_ i B d h1
  ·exact .inr (h'.dead i h1)
 dead:=λi hi=>h'.dead i (h.dead i hi)
 no:=λi hi h0=>h'.no i (zp hi hn) (h.no i hi h0)
 output:=by rw[h'.output,h.output]
 os:=by rw[h'.os,h.os]
 tape:=⟨by rw[h'.tape.1,h.tape.1],zk h.tape.2 h'.tape.2⟩
 loops:=λl L hl=>let ⟨L',h1⟩:=h.loops l L hl;h'.loops l L' h1
 X:=by rw[h'.X,h.X]
theorem Ext.cell {n:Nat}{ρ ρ':Rho}{w w':World}(h:Ext n ρ w ρ' w'){b o:Nat}(hb:FB ρ w b):w'.cell? ⟨b,o,zb⟩=w.cell? ⟨b,o,zb⟩:=by
 unfold World.cell?;rw[h.keep b hb.ub]
theorem VR.mono {n:Nat}{ρ ρ':Rho}{w w':World}(h:Ext n ρ w ρ' w'){v:IV}{r:Value}(hv:VR ρ w v r):VR ρ' w' v r:=by
 induction hv with
 | undef r=>exact .undef r
 | bool b=>exact .bool b
 | int k n=>exact .int k n
 | str s=>exact .str s
 | ae3=>exact .ae3
 | ptr id off B d hi=>
  rcases h.at_ id B d hi with h1|h1
  ·exact .ptr id off B d h1
  ·exact .cx8 id off _ h1
 | cx8 id off ad hi=>exact .cx8 id off ad (h.dead id hi)
 | ab8 cs b o vs hf hc _ ih=>exact .ab8 cs b o vs (h.fb hf) (λj hj=>by rw[h.cell hf];exact hc j hj) ih
 | aa1=>exact .aa1
 | ac6 a=>exact .ac6 a
 | af6 a cap=>exact .af6 a cap
 | slice id off len esz B d cap rcs el fz hi hb hsz hle=>
  rcases h.at_ id B d hi with h1|h1
  ·obtain ⟨rcs',hb',hs'⟩:=h.shape B rcs el fz hb;exact .slice id off len esz B d cap rcs' el fz h1 hb' (by rw[hs'];exact hsz) hle
  ·exact .al5 id off len esz cap _ h1 hle
 | am6 id off esz B d a hi=>
  rcases h.at_ id B d hi with h1|h1
  ·exact .am6 id off esz B d a h1
  ·exact .al5 id off 0 esz 0 _ h1 (zi _)
 | al5 id off len esz cap ad hi hle=>exact .al5 id off len esz cap ad (h.dead id hi) hle
 | ag6 id off len esz B d rcs el fz hi hb hsz=>
  rcases h.at_ id B d hi with h1|h1
  ·obtain ⟨rcs',hb',hs'⟩:=h.shape B rcs el fz hb;exact .ag6 id off len esz B d rcs' el fz h1 hb' (by rw[hs'];exact hsz)
  ·exact .aq3 id off len esz _ h1
 | aq3 id off len esz ad hi=>exact .aq3 id off len esz ad (h.dead id hi)
 | ak5 id off len room esz B d cap rcs el fz hi hb hsz hle hr=>
  rcases h.at_ id B d hi with h1|h1
  ·obtain ⟨rcs',hb',hs'⟩:=h.shape B rcs el fz hb;exact .ak5 id off len room esz B d cap rcs' el fz h1 hb' (by rw[hs'];exact hsz) hle hr
  ·exact .aw9 id off len room esz cap _ h1 hle hr
 | aw9 id off len room esz cap ad hi hle hr=>exact .aw9 id off len room esz cap ad (h.dead id hi) hle hr
 | aa3 es b o cap esz sp vs hf hsz hc _ hle ih=>
  refine .aa3 es b o cap esz sp vs (λhne=>⟨h.fb (hf hne).1,(hf hne).2⟩) hsz (λi hi j hj=>?_) ih hle;rw[h.cell (hf (by intro h0;subst h0;simp at hi)).1]
  exact hc i hi j hj
 | ci3=>exact .ci3
 | ah7=>exact .ah7
 | map id B d hi=>
  rcases h.at_ id B d hi with h1|h1
  ·exact .map id B d h1
  ·exact .mapD id _ h1
 | mapD id B hi=>exact .mapD id B (h.dead id hi)
 | al4 es es' b mes clock hp hd hf hb hl _ _ h4 h5 ihk ihv=>exact .al4 es es' b mes clock hp hd (h.fb hf) (by rw[h.keep b hf.ub];exact hb) hl ihk ihv h4 h5
 | func fn first cap rf rc hy h1 h2 _ _ ihf ihc=>exact .func fn first cap rf rc hy h1 h2 ihf ihc
 | yield id B d hi=>
  rcases h.at_ id B d hi with h1|h1
  ·exact .yield id B d h1
  ·exact .bc4 id _ h1
 | bc4 id B hi=>exact .bc4 id B (h.dead id hi)
 | ad7=>exact .ad7
 | iface t v r _ ih=>exact .iface t v r ih
 | ah2=>exact .ah2
 | agg cs rs h1 _ ih=>exact .agg cs rs h1 ih
 | tuple cs rs h1 _ ih=>exact .tuple cs rs h1 ih
def aq6 (ρ:Rho)(w:World)(B d:Nat)(cs:List IV):Prop :=
 ∃(rcs:Array Value) (el:TypeId),w.heap[B]? = za (.cells rcs el (0,0))/\d+cs.length<=rcs.size/\∀i,i<cs.length->VR ρ w (cs.getD i .undef) (rcs.getD (d+i) undef)
def OR (ρ:Rho) (w:World) (B d:Nat):aj2->Prop
 | .cells cs|.row cs=>aq6 ρ w B d cs
 | .map es=>∃(mes:Array MapEntry) (clock:Nat),w.heap[B]? = za (.map mes clock)/\d=0/\es.length=mes.size /\
   (∀i,i<es.length->VR ρ w (es.getD i (.undef,.undef)).1 (mes.getD i default).key/\VR ρ w (es.getD i (.undef,.undef)).2 (mes.getD i default).val) /\
   (∀i,i<mes.size->(mes.getD i default).born<clock)/\(∀i j,i<j->j<mes.size->(mes.getD i default).born≠(mes.getD j default).born)
 | .bg3 s pos=>w.heap[B]? = za (.stringIter ⟨s.toArray⟩ pos)/\d=0
 | .loop N tmps params assign body st pend=>d=0/\∃l:Loop,w.heap[B]? = za (.loop l)/\l.params=params/\l.assign=assign/\l.body=body/\l.pending=pend/\l.state=st/\l.tmps.size=N /\
   (∀t,VR ρ w ((tmps.lookup t).getD .undef) (l.tmps.getD t undef))
 | .as1 left cur=>d=0/\∃(mb last:Nat) (seen:Array Nat) (mes:Array MapEntry) (clock:Nat) (lft:List (IV×IV)),w.heap[B]? = za (.mapIter (za mb) clock seen last)/\FB ρ w mb/\w.heap[mb]? = za (.map mes clock) /\
   (∀i,i<mes.size->(mes.getD i default).born<clock)/\(∀i j,i<j->j<mes.size->(mes.getD i default).born≠(mes.getD j default).born)/\last=clock /\
   lft.length=(mes.toList.filter λe=>!seen.contains e.born).length/\lft.Perm left /\
   (∀c,cur=za c->∃i,i<mes.size/\seen.back? = za (mes.getD i default).born/\VR ρ w c.1 (mes.getD i default).key/\VR ρ w c.2 (mes.getD i default).val) /\
    ∀i,i<lft.length->VR ρ w (lft.getD i (.undef,.undef)).1 ((mes.toList.filter λe=>!seen.contains e.born).getD i default).key/\VR ρ w (lft.getD i (.undef,.undef)).2 ((mes.toList.filter λe=>!seen.contains e.born).getD i default).val
structure Sim (E:Nat->IV) (ρ:Rho) (w:World) (σ:Store):Prop where
 inj:∀i j B d d',ρ i=.at B d->ρ j=.at B d'->i=j
 lt:∀i B d,ρ i=.at B d->B<w.heap.size
 obj:∀i B d,ρ i=.at B d->∃o,σ.obj i=za o/\OR ρ w B d o
 dead:∀i,ρ i=.dead->σ.obj i=zb
 fresh:∀i,σ.next<=i->ρ i=.no
 av3:∀i,ρ i=.no->σ.obj i=zb
 env:∀g,VR ρ w (E g) (.pointer (za ⟨g,0,zb⟩))
 nx:∀i B d,ρ i=.at B d->¬ρ.X B
 xlt:∀b,ρ.X b->b<w.heap.size
abbrev Frm:=List (Nat×IV)
def Frm.get (fr:Frm)(t:Nat):IV:=(fr.lookup t).getD .undef
def Frm.keep (fr:Frm)(ks:List Nat):Frm:=ks.map λk=>(k,fr.get k)
def Frm.set (fr:Frm)(t:Nat)(v:IV):Frm:=(t,v)::fr
structure FR (ρ:Rho) (w:World) (N:Nat) (fr:Frm) (tmps:Array Value):Prop where
 size:tmps.size=N
 get:∀t,VR ρ w (fr.get t) (tmps.getD t undef)
theorem FR.mono {n N:Nat}{ρ ρ':Rho}{w w':World}{fr:Frm}{tmps:Array Value}(h:Ext n ρ w ρ' w')(hf:FR ρ w N fr tmps):FR ρ' w' N fr tmps :=
 ⟨hf.size,λt=>(hf.get t).mono h⟩
theorem Frm.ci8 (fr:Frm)(t s:Nat)(v:IV):(fr.set t v).get s=if s=t then v else fr.get s:=by
 unfold Frm.get Frm.set;by_cases h:s=t
 ·subst h;simp
 ·have:(s==t)=false:=by simpa using h
  simp[List.lookup_cons,this,h]
theorem FR.set {N:Nat}{ρ:Rho}{w:World}{fr:Frm}{tmps:Array Value}{t:Nat}{v:IV}{r:Value}(hf:FR ρ w N fr tmps)(ht:t<N)(hv:VR ρ w v r) :
  FR ρ w N (fr.set t v) (tmps.setIfInBounds t r):=by
 refine ⟨by simp[hf.size],λs=>?_⟩;rw[Frm.ci8];by_cases h:s=t
 ·subst h;have:s<tmps.size:=by rw[hf.size];exact ht
  simp[ze,this,hv]
 ·have h':¬t=s:=λe=>h e.symm
  have:=hf.get s;simp only[ze] at this ⊢
  simpa [h,Array.getElem?_setIfInBounds,h'] using this
theorem Frm.hq7 (fr:Frm)(ks:List Nat)(t:Nat):(fr.keep ks).get t=if t∈ks then fr.get t else .undef:=by
 unfold Frm.get Frm.keep
 induction ks with
 | nil=>simp
 | cons k ks ih=>
  by_cases h:t=k
  ·subst h;simp[Frm.get]
  ·have:(t==k)=false:=by simpa using h
   simp[List.lookup_cons,this,h,ih]
theorem FR.keep {N:Nat}{ρ:Rho}{w:World}{fr:Frm}{tmps:Array Value}(ks:List Nat)(hf:FR ρ w N fr tmps):FR ρ w N (fr.keep ks) tmps:=by
 refine ⟨hf.size,λt=>?_⟩;rw[Frm.hq7];split
 ·exact hf.get t
 ·exact .undef _
open Go
theorem ae4 {α:Type}(a:Array α)(i:Nat)(d:α)(h:i<a.size):a.getD i d=a[i]:=by
 simp[ze,h]
def fe1 (P:Program)(t:TypeId):Option Bool :=
 match P.underlying t with
 | some (.struct _)|some (.array _ _)=>za true
 | some _=>za false
 | none=>zb
def szT (P:Program)(t:TypeId):Option Nat:=(P.info? t).map (·.size)
theorem cb6 {P:Program}{t:TypeId}{b:Bool}(h:fe1 P t=za b)(w:World):(isAgg t).run P w=.ok b w:=by
 unfold fe1 at h
 cases hu:P.underlying t with
 | none=>simp[hu] at h
 | some d=>
  simp only[isAgg,Sem.run_bind,run_underlying hu,Result.andThen_ok];rw[hu] at h;cases d<;>simp_all
theorem run_sizeOf {P:Program}{t:TypeId}{n:Nat}(h:szT P t=za n)(w:World):(sizeOf t).run P w=.ok n w:=by
 unfold szT at h
 cases hi:P.info? t with
 | none=>simp[hi] at h
 | some i=>
  rw[hi] at h;simp at h;simp[sizeOf,typeInfo,hi,h]
def es3 (op:BinOp)(k:IntKind)(a b:Int):Option IV :=
 match op with
 | .add=>za (.int k (k.wrap (a+b)))
 | .sub=>za (.int k (k.wrap (a-b)))
 | .mul=>za (.int k (k.wrap (a*b)))
 | .quo=>if b=0 then zb else za (.int k (k.wrap (a.tdiv b)))
 | .rem=>if b=0 then zb else za (.int k (a.tmod b))
 | .and=>za (.int k (k.wrap ((BitVec.ofInt k.bits a &&& BitVec.ofInt k.bits b).toNat:Int)))
 | .or=>za (.int k (k.wrap ((BitVec.ofInt k.bits a ||| BitVec.ofInt k.bits b).toNat:Int)))
 | .xor=>za (.int k (k.wrap ((BitVec.ofInt k.bits a ^^^ BitVec.ofInt k.bits b).toNat:Int)))
 | .andNot=>za (.int k (k.wrap ((BitVec.ofInt k.bits a &&& ~~~BitVec.ofInt k.bits b).toNat:Int)))
 | .eql=>za (.bool (decide (a=b)))
 | .neq=>za (.bool (!decide (a=b)))
 | .lss=>za (.bool (decide (a<b)))
 | .leq=>za (.bool (decide (a<=b)))
 | .gtr=>za (.bool (decide (b<a)))
 | .geq=>za (.bool (decide (b<=a)))
 | .shl|.shr=>zb
def hq9 (op:BinOp)(a b:List UInt8):Option IV :=
 match op with
 | .add=>if a.length+b.length<2^62 then za (.str (a++b)) else zb
 | .eql=>za (.bool (decide (a=b)))
 | .neq=>za (.bool (!decide (a=b)))
 | .lss=>za (.bool (Op.bytesLess a b))
 | .leq=>za (.bool (Op.bytesLess a b||decide (a=b)))
 | .gtr=>za (.bool (!(Op.bytesLess a b||decide (a=b))))
 | .geq=>za (.bool (!Op.bytesLess a b))
 | _=>zb
def ba3 (op:BinOp):IV->IV->Option IV
 | .int k a,.int k' b=>
  match op with
  | .shl=>if 0<=b then za (.int k (k.wrap (a*2^(min b.toNat k.bits)))) else zb
  | .shr=>if 0<=b then za (.int k (a.fdiv (2^(min b.toNat k.bits)))) else zb
  | _=>if k=k' then es3 op k a b else zb
 | .str a,.str b=>hq9 op a b
 | _,_=>zb
theorem toList_mk (l:List UInt8):(zf l.toArray).toList=l:=by simp
theorem size_mk (l:List UInt8):(zf l.toArray).size=l.length:=by simp[ByteArray.size]
theorem da3 (a b:Int):(a==b)=decide (a=b):=by
 by_cases h:a=b<;>simp[h]
theorem fe2 (a b:List UInt8):(a==b)=decide (a=b):=by
 by_cases h:a=b<;>simp[h]
variable {P:Program} {w:World} {ρ:Rho}
theorem fq1 {op:BinOp}{t:TypeId}{k:IntKind}{a b:Int}{v:IV}(h:es3 op k a b=za v) :
  ∃r,(binOp op t (.int k a) (.int k b)).run P w=.ok r w/\VR ρ w v r:=by
 cases op<;>simp only[es3] at h
 case add=>cases h;exact ⟨_,by simp[binOp,Op.intArith],.int _ _⟩
 case sub=>cases h;exact ⟨_,by simp[binOp,Op.intArith],.int _ _⟩
 case mul=>cases h;exact ⟨_,by simp[binOp,Op.intArith],.int _ _⟩
 case quo=>
  split at h
  ·cases h
  ·rename_i h0;cases h;exact ⟨_,by simp[binOp,Op.intDiv,h0],.int _ _⟩
 case rem=>
  split at h
  ·cases h
  ·rename_i h0;cases h;exact ⟨_,by simp[binOp,Op.intDiv,h0],.int _ _⟩
 case and=>cases h;exact ⟨_,by simp only[binOp,ne_eq,not_true_eq_false,if_false,Op.intBits];rfl,.int _ _⟩
 case or=>cases h;exact ⟨_,by simp only[binOp,ne_eq,not_true_eq_false,if_false,Op.intBits];rfl,.int _ _⟩
 case xor=>cases h;exact ⟨_,by simp only[binOp,ne_eq,not_true_eq_false,if_false,Op.intBits];rfl,.int _ _⟩
 case andNot=>cases h;exact ⟨_,by simp only[binOp,ne_eq,not_true_eq_false,if_false,Op.intBits];rfl,.int _ _⟩
 case eql=>cases h;exact ⟨_,by simp only[binOp,ne_eq,not_true_eq_false,if_false,Op.intCmp,da3];rfl,.bool _⟩
 case neq=>cases h;exact ⟨_,by simp only[binOp,ne_eq,not_true_eq_false,if_false,Op.intCmp,bne,da3];rfl,.bool _⟩
 case lss=>cases h;exact ⟨_,by simp only[binOp,ne_eq,not_true_eq_false,if_false,Op.intCmp];rfl,.bool _⟩
 case leq=>cases h;exact ⟨_,by simp only[binOp,ne_eq,not_true_eq_false,if_false,Op.intCmp];rfl,.bool _⟩
 case gtr=>cases h;exact ⟨_,by simp only[binOp,ne_eq,not_true_eq_false,if_false,Op.intCmp];rfl,.bool _⟩
 case geq=>cases h;exact ⟨_,by simp only[binOp,ne_eq,not_true_eq_false,if_false,Op.intCmp];rfl,.bool _⟩
 all_goals cases h
theorem gi5 {op:BinOp}{t:TypeId}{x y:Operand}{a b v:IV}{ra rb:Value}(h:ba3 op a b=za v)(ha:VR ρ w a ra)(hb:VR ρ w b rb) :
  ∃r,(do eqGuard op t x y ra rb;binOp op t ra rb:Sem Value).run P w=.ok r w/\VR ρ w v r:=by
 cases ha with
 | int k a=>
  cases hb with
  | int k' b=>
   have hg:(eqGuard op t x y (.int k a) (.int k' b)).run P w=.ok () w:=by
    unfold eqGuard;cases op<;>rfl
   simp only[Sem.run_bind,hg,Result.andThen_ok];by_cases h1:op=.shl
   ·subst h1;simp only[ba3] at h;split at h
    ·rename_i h0;cases h;exact ⟨_,by simp[binOp,Op.shift,Int.not_lt.2 h0],.int _ _⟩
    ·cases h
   by_cases h2:op=.shr
   ·subst h2;simp only[ba3] at h;split at h
    ·rename_i h0;cases h;exact ⟨_,by simp[binOp,Op.shift,Int.not_lt.2 h0],.int _ _⟩
    ·cases h
   have h':(if k=k' then es3 op k a b else zb)=za v:=by
    cases op<;>first|exact absurd rfl h1|exact absurd rfl h2|exact h
   split at h'
   ·rename_i hk;subst hk;exact fq1 h'
   ·cases h'
  | _=>simp[ba3] at h
 | str a=>
  cases hb with
  | str b=>
   have hg:(eqGuard op t x y (.string ⟨a.toArray⟩) (.string ⟨b.toArray⟩)).run P w=.ok () w:=by
    unfold eqGuard;cases op<;>rfl
   simp only[Sem.run_bind,hg,Result.andThen_ok];simp only[ba3] at h;cases op<;>simp only[binOp,hq9] at h ⊢<;>try (cases h;done)
   case add=>
    split at h
    ·rename_i h0;cases h;refine ⟨_,?_,.str _⟩
     have hm:¬(((a.length+b.length:Nat)):Int)>IntKind.i64.max:=by
      have:IntKind.i64.max=9223372036854775807:=by decide
      omega
     have e:(zf a.toArray++zf b.toArray)=zf (a++b).toArray:=by
      apply zo;simp[ByteArray.data_append]
     simp[Op.stringOp,size_mk,e] at hm ⊢;omega
    ·cases h
   all_goals
    cases h
    exact ⟨_,by simp only[Op.stringOp,toList_mk,fe2];rfl,.bool _⟩
  | _=>simp[ba3] at h
 | _=>simp[ba3] at h
def aq7 (σ:Store):IV->Option (List IV)
 | .ab8 cs=>za cs
 | .ptr id off=>match σ.obj id with
  | some (.cells cs)=>za (cs.drop off)
  | some (.row cs)=>za (cs.drop off)
  | _=>zb
 | _=>zb
theorem an8 {α:Type}(l:List α)(n i:Nat)(d:α):(l.drop n).getD i d=l.getD (n+i) d:=by
 simp[zc,List.getElem?_drop]
theorem getD_take' {α:Type}(l:List α)(n i:Nat)(d:α)(h:i<n):(l.take n).getD i d=l.getD i d:=by
 simp[zc,h]
theorem cb7 {E:Nat->IV}{σ:Store}{v:IV}{r:Value}{cs:List IV}(hs:Sim E ρ w σ)(hv:VR ρ w v r)(h:aq7 σ v=za cs) :
  ∃b o,r=.pointer (za ⟨b,o,zb⟩)/\∃vs:Nat->Value,(∀j,j<cs.length->w.cell? ⟨b,o+j,zb⟩=za (vs j))/\∀j,j<cs.length->VR ρ w (cs.getD j .undef) (vs j):=by
 cases hv with
 | ab8 cs' b o vs hf hc hv=>
  simp[aq7] at h;subst h
  exact ⟨b,o,rfl,vs,hc,hv⟩
 | ptr id off B d hi=>
  simp only[aq7] at h;obtain ⟨ob,ho,hor⟩:=hs.obj id B d hi;rw[ho] at h
  have key:∀cs',aq6 ρ w B d cs'->cs'.drop off=cs->∃b o,Value.pointer (za ⟨B,d+off,zb⟩)=.pointer (za ⟨b,o,zb⟩)/\∃vs:Nat->Value,(∀j,j<cs.length->w.cell? ⟨b,o+j,zb⟩=za (vs j))/\∀j,j<cs.length->VR ρ w (cs.getD j .undef) (vs j):=by
   intro cs' hor h;subst h;obtain ⟨rcs,el,hb,hsz,hvs⟩:=hor;refine ⟨B,d+off,rfl,λj=>rcs.getD (d+(off+j)) undef,λj hj=>?_,λj hj=>?_⟩
   ·simp at hj;have hlt:d+off+j<rcs.size:=om;simp only[World.cell?,hb];rw[ae4 _ _ _ om];simp only[Option.isSome_none,zl,if_false];rw[zj hlt];congr 2;omega
   ·simp at hj;rw[an8];exact hvs (off+j) om
  cases ob with
  | cells cs'=>exact key cs' hor (by simpa using h)
  | row cs'=>exact key cs' hor (by simpa using h)
  | _=>simp at h
 | cx8 id off ad hi=>
  simp only[aq7,hs.dead id hi] at h
  cases h
 | _=>simp[aq7] at h
def ay7 (σ:Store)(agg:Option Nat)(a:IV):Option IV :=
 match aq7 σ a with
 | none=>zb
 | some cs=>match agg with
  | none=>cs.head?
  | some n=>if n<=cs.length then za (.agg (cs.take n)) else zb
def aq2 (P:Program)(t:TypeId):Option (Option Nat):=
 match fe1 P t with
 | some false=>za zb
 | some true=>(szT P t).map za
 | none=>zb
theorem ay8 (b o n:Nat):(⟨b,o,zb⟩:Addr).add n=⟨b,o+n,zb⟩:=by
 unfold Addr.add;split<;>simp_all
theorem dk6 {E:Nat->IV}{σ:Store}{t:TypeId}{agg:Option Nat}{a v:IV}{r:Value}(hs:Sim E ρ w σ)(ht:aq2 P t=za agg)
  (h:ay7 σ agg a=za v) (ha:VR ρ w a r):∃x,(Instr.loadAt t r).run P w=.ok x w/\VR ρ w v x:=by
 unfold ay7 at h
 cases hc:aq7 σ a with
 | none=>rw[hc] at h;cases h
 | some cs=>
  rw[hc] at h;obtain ⟨b,o,rfl,vs,hcell,hvs⟩:=cb7 hs ha hc;unfold aq2 at ht
  cases hg:fe1 P t with
  | none=>rw[hg] at ht;cases ht
  | some g=>
   rw[hg] at ht
   cases g with
   | false=>
    cases ht;simp only at h
    cases cs with
    | nil=>simp at h
    | cons c cs=>
     simp at h;subst h;refine ⟨vs 0,?_,by simpa using hvs 0 (by simp)⟩;have:=hcell 0 (by simp);simp only[Nat.add_zero] at this
     simp[Instr.loadAt,Instr.sureAddr,loadVar,cb6 hg,this]
   | true=>
    cases hz:szT P t with
    | none=>rw[hz] at ht;cases ht
    | some n=>
     rw[hz] at ht;cases ht;simp only at h;split at h
     ·rename_i hn;cases h;refine ⟨.agg ((List.range n).map vs).toArray,?_,.agg _ _ (by simp;omega) (λi hi=>?_)⟩
      ·have hl:=run_loadCells (P:=P) (w:=w) ⟨b,o,zb⟩ n vs (λj hj=>by rw[ay8];exact hcell j om);simp[Instr.loadAt,Instr.sureAddr,loadVar,cb6 hg,run_sizeOf hz,hl]
      ·simp at hi;have hi':i<n:=om;rw[getD_take' _ _ _ _ hi'];have:=hvs i om
       simpa [ze,hi'] using this
     ·cases h
def da4 (n:Nat):IV->Option IV
 | .ab8 cs=>za (.ab8 (cs.drop n))
 | .ptr id off=>za (.ptr id (off+n))
 | _=>zb
theorem es4 {s:TypeId}{fields:Array Field}{i:Nat}{f:Field}{ad:Addr}{m:Nat}(hu:P.underlying s=za (.struct fields))(hf:fields[i]? = za f)
  (hz:szT P f.type=za (m+1)):(Instr.fieldAt s (.pointer (za ad)) i).run P w=.ok (.pointer (za (ad.add f.offset))) w:=by
 simp[Instr.fieldAt,run_underlying hu,hf,Instr.sureAddr,fieldPlace,run_sizeOf hz]
theorem dk7 {n:Nat}{a v:IV}{r:Value}(h:da4 n a=za v)(ha:VR ρ w a r) :
  ∃ad:Addr,r=.pointer (za ad)/\VR ρ w v (.pointer (za (ad.add n))):=by
 cases ha with
 | ab8 cs b o vs hf hc hv=>
  simp[da4] at h;subst h;refine ⟨⟨b,o,zb⟩,rfl,?_⟩;rw[ay8];refine .ab8 _ b (o+n) (λj=>vs (n+j)) hf (λj hj=>?_) (λj hj=>?_)
  ·simp at hj;rw[zd];exact hc (n+j) om
  ·simp at hj;rw[an8]
   exact hv (n+j) om
 | ptr id off B d hi=>
  simp[da4] at h;subst h
  exact ⟨⟨B,d+off,zb⟩,rfl,by rw[ay8,zd];exact .ptr id (off+n) B d hi⟩
 | cx8 id off ad hi=>
  simp[da4] at h;subst h
  exact ⟨ad,rfl,.cx8 id (off+n) _ hi⟩
 | _=>simp[da4] at h
def bh5 (agg:Option Nat)(off:Nat)(cs:List IV):Option IV :=
 match agg with
 | none=>cs[off]?
 | some n=>if off+n<=cs.length then za (.agg ((cs.drop off).take n)) else zb
theorem aw8 {t:TypeId}{agg:Option Nat}{off:Nat}{cs:List IV}{rs:Array Value}{v:IV}(ht:aq2 P t=za agg)(h:bh5 agg off cs=za v)
  (hl:cs.length=rs.size) (hv:∀i,i<cs.length->VR ρ w (cs.getD i .undef) (rs.getD i undef)):∃x,(part t rs off).run P w=.ok x w/\VR ρ w v x:=by
 unfold aq2 at ht
 cases hg:fe1 P t with
 | none=>rw[hg] at ht;cases ht
 | some g=>
  rw[hg] at ht
  cases g with
  | false=>
   cases ht;simp only[bh5] at h;obtain ⟨hlt,hc⟩:=zg.1 h;have h1:=hv off hlt;have hlt':off<rs.size:=om;rw[ae4 _ _ _ hlt',zc,h] at h1
   exact ⟨rs[off],by simp[part,cb6 hg,zj hlt'],h1⟩
  | true=>
   cases hz:szT P t with
   | none=>rw[hz] at ht;cases ht
   | some n=>
    rw[hz] at ht;cases ht;simp only[bh5] at h;split at h
    ·rename_i hn;cases h;refine ⟨_,by simp[part,cb6 hg,run_sizeOf hz];rfl,.agg _ _ (by simp;omega) (λi hi=>?_)⟩;simp at hi;rw[getD_take' _ _ _ _ om,an8];have:=hv (off+i) om;rw[ae4 _ _ _ om] at this;rw[ae4 _ _ _ (by simp;omega)]
     simpa using this
    ·cases h
def jj5 (agg:Option Nat)(off:Nat):IV->Option IV
 | .agg cs=>bh5 agg off cs
 | _=>zb
theorem gi6 {s:TypeId}{fields:Array Field}{i:Nat}{f:Field}{agg:Option Nat}{a v:IV}{r:Value}(hu:P.underlying s=za (.struct fields))(hf:fields[i]? = za f)
  (ht:aq2 P f.type=za agg) (h:jj5 agg f.offset a=za v) (ha:VR ρ w a r):∃x,(Instr.field s r i).run P w=.ok x w/\VR ρ w v x:=by
 cases ha with
 | agg cs rs hl hv=>
  simp only[jj5] at h;obtain ⟨x,hx,hvx⟩:=aw8 ht h hl hv
  exact ⟨x,by simp[Instr.field,run_underlying hu,hf,asAgg,hx],hvx⟩
 | _=>simp[jj5] at h
def au7 (esz:Nat):IV->IV->Option IV
 | .aa3 es,.int _ i=>if 0<=i/\i<es.length/\(es.getD i.toNat []).length=esz then za (.ab8 (es.getD i.toNat [])) else zb
 | .slice id off len e,.int _ i=>if 0<=i/\i<len/\e=esz then za (.ptr id (off+i.toNat*esz)) else zb
 | .ag6 id off len e,.int _ i=>if 0<=i/\i<len/\e=esz then za (.ptr id (off+i.toNat*esz)) else zb
 | _,_=>zb
theorem es5 {t elem:TypeId}{esz:Nat}{a i v:IV}{ra ri:Value}(hu:P.underlying t=za (.slice elem))
  (hz:szT P elem=za esz) (h:au7 esz a i=za v) (ha:VR ρ w a ra) (hi:VR ρ w i ri):∃x,(Instr.indexAt t ra ri).run P w=.ok x w/\VR ρ w v x:=by
 cases ha with
 | ci3=>
  cases hi with
  | int k n => simp only[au7,List.length_nil] at h;split at h<;>rename_i hc
               ·omega
               ·cases h
  | _=>simp[au7] at h
 | aa3 es b o cap esz' sp vs hf hsz hc hv hle=>
  cases hi with
  | int k n=>
   simp only[au7] at h;split at h
   ·rename_i hh;obtain ⟨h0,h1,h2⟩:=hh;cases h;have hlt:n.toNat<es.length:=om;have hne:es≠[]:=by intro h0;subst h0;simp at hlt
    obtain ⟨hf1,hsp⟩:=hf hne;subst hsp;have he:esz'=esz:=by rw[<- h2,hsz _ hlt]
    subst he;refine ⟨.pointer (za ⟨b,o+n.toNat*esz',zb⟩),?_,.ab8 _ b _ (λj=>vs n.toNat j) hf1 (λj hj=>?_) (λj hj=>?_)⟩
    ·simp[Instr.indexAt,asIntOf,run_underlying hu,run_sizeOf hz,h0,h1,ay8]
    ·rw[zd];exact hc _ hlt j om
    ·exact hv _ hlt j om
   ·cases h
  | _=>simp[au7] at h
 | slice id off len e B d cap rcs el fz hid hb hsz hle=>
  cases hi with
  | int k n=>
   simp only[au7] at h;split at h
   ·rename_i hh;obtain ⟨h0,h1,rfl⟩:=hh;cases h;refine ⟨.pointer (za ⟨B,d+off+n.toNat*e,zb⟩),?_,?_⟩
    ·simp[Instr.indexAt,asIntOf,run_underlying hu,run_sizeOf hz,h0,h1,ay8]
    ·rw[zd];exact .ptr id _ B d hid
   ·cases h
  | _=>simp[au7] at h
 | am6 id off e B d a hid=>
  cases hi with
  | int k n=>
   simp only[au7] at h;split at h
   ·rename_i hh;omega
   ·cases h
  | _=>simp[au7] at h
 | al5 id off len e cap ad hid hle=>
  cases hi with
  | int k n=>
   simp only[au7] at h;split at h
   ·rename_i hh;obtain ⟨h0,h1,rfl⟩:=hh;cases h;refine ⟨.pointer (za (ad.add (n.toNat*e))),?_,.cx8 id _ _ hid⟩;simp[Instr.indexAt,asIntOf,run_underlying hu,run_sizeOf hz,h0,h1]
   ·cases h
  | _=>simp[au7] at h
 | aq3 id off len e ad hid=>
  cases hi with
  | int k n=>
   simp only[au7] at h;split at h
   ·rename_i hh;obtain ⟨h0,h1,rfl⟩:=hh;cases h;refine ⟨.pointer (za (ad.add (n.toNat*e))),?_,.cx8 id _ _ hid⟩;simp[Instr.indexAt,asIntOf,run_underlying hu,run_sizeOf hz,h0,h1]
   ·cases h
  | _=>simp[au7] at h
 | ag6 id off len e B d rcs el fz hid hb hsz=>
  cases hi with
  | int k n=>
   simp only[au7] at h;split at h
   ·rename_i hh;obtain ⟨h0,h1,rfl⟩:=hh;cases h;refine ⟨.pointer (za ⟨B,d+off+n.toNat*e,zb⟩),?_,?_⟩
    ·simp[Instr.indexAt,asIntOf,run_underlying hu,run_sizeOf hz,h0,h1,ay8]
    ·rw[zd];exact .ptr id _ B d hid
   ·cases h
  | _=>simp[au7] at h
 | _=>simp[au7] at h
def dk8 (n esz:Nat):IV->IV->Option IV
 | a,.int _ i=>if 0<=i/\i<n then da4 (i.toNat*esz) a else zb
 | _,_=>zb
theorem es6 {t elem:TypeId}{n esz:Nat}{a i v:IV}{ra ri:Value}(hu:P.underlying t=za (.array n elem))
  (hz:szT P elem=za esz) (h:dk8 n esz a i=za v) (ha:VR ρ w a ra) (hi:VR ρ w i ri):∃x,(Instr.indexAt t ra ri).run P w=.ok x w/\VR ρ w v x:=by
 cases hi with
 | int k m=>
  simp only[dk8] at h;split at h
  ·rename_i hh;obtain ⟨h0,h1⟩:=hh;obtain ⟨ad,rfl,hv⟩:=dk7 h ha;refine ⟨_,?_,hv⟩;simp[Instr.indexAt,asIntOf,run_underlying hu,Instr.sureAddr,run_sizeOf hz,h0,h1]
  ·cases h
 | _=>simp[dk8] at h
def iw5 (agg:Option Nat)(n esz:Nat):IV->IV->Option IV
 | .agg cs,.int _ i=>if 0<=i/\i<n then bh5 agg (i.toNat*esz) cs else zb
 | _,_=>zb
theorem gi7 {t elem:TypeId}{agg:Option Nat}{n esz:Nat}{a i v:IV}{ra ri:Value}(hu:P.underlying t=za (.array n elem))
  (hz:szT P elem=za esz) (ht:aq2 P elem=za agg) (h:iw5 agg n esz a i=za v) (ha:VR ρ w a ra) (hi:VR ρ w i ri) :
  ∃x,(Instr.index t ra ri).run P w=.ok x w/\VR ρ w v x:=by
 cases ha with
 | agg cs rs hl hv=>
  cases hi with
  | int k m=>
   simp only[iw5] at h;split at h
   ·rename_i hh;obtain ⟨x,hx,hvx⟩:=aw8 ht h hl hv;exact ⟨x,by simp[Instr.index,asIntOf,run_underlying hu,run_sizeOf hz,hh.1,hh.2,hx],hvx⟩
   ·cases h
  | _=>simp[iw5] at h
 | _=>simp[iw5] at h
def eg8:IV->IV->Option IV
 | .str s,.int _ i=>if 0<=i then (s[i.toNat]?).map λb=>.int .u8 b.toNat else zb
 | _,_=>zb
theorem fq2 {t:TypeId}{a i v:IV}{ra ri:Value}(hu:P.underlying t=za .string)
  (h:eg8 a i=za v) (ha:VR ρ w a ra) (hi:VR ρ w i ri):∃x,(Instr.index t ra ri).run P w=.ok x w/\VR ρ w v x:=by
 cases ha with
 | str s=>
  cases hi with
  | int k m=>
   simp only[eg8] at h;split at h
   ·rename_i h0
    cases hb:s[m.toNat]? with
    | none=>rw[hb] at h;cases h
    | some b=>
     rw[hb] at h;cases h
     have e:(zf s.toArray)[m.toNat]? = za b:=by
      have hlt:=(zg.1 hb).1;rw[getElem?_pos _ _ (by simpa [size_mk] using hlt)];have:=(zg.1 hb).2;change za (s.toArray[m.toNat]'(by simpa using hlt))=za b
      simpa using this
     exact ⟨_,by simp[Instr.index,asIntOf,run_underlying hu,h0,e],.int _ _⟩
   ·cases h
  | _=>simp[eg8] at h
 | _=>simp[eg8] at h
def iw6 (i:Nat):IV->Option IV
 | .tuple vs=>vs[i]?
 | _=>zb
theorem gi8 {i:Nat}{a v:IV}{ra:Value}(h:iw6 i a=za v)(ha:VR ρ w a ra):∃x,(Instr.extract ra i).run P w=.ok x w/\VR ρ w v x:=by
 cases ha with
 | tuple cs rs hl hv=>
  simp only[iw6] at h;obtain ⟨hlt,hc⟩:=zg.1 h;have h1:=hv i hlt;have hlt':i<rs.size:=om;rw[ae4 _ _ _ hlt',zc,h] at h1
  exact ⟨rs[i],by simp[Instr.extract,zj hlt'],h1⟩
 | _=>simp[iw6] at h
def ho7 (σ:Store):IV->Option IV
 | .aa1|.ac6|.af6|.ah7=>za (.int .i64 0)
 | .aa3 es=>za (.int .i64 es.length)
 | .slice _ _ len _=>za (.int .i64 len)
 | .ag6 _ _ len _=>za (.int .i64 len)
 | .ak5 _ _ len _ _=>za (.int .i64 len)
 | .str s=>za (.int .i64 s.length)
 | .map id=>match σ.obj id with
  | some (.map es)=>za (.int .i64 es.length)
  | _=>zb
 | _=>zb
def ka9 (P:Program)(t:TypeId):Bool :=
 match P.underlying t with
 | some (.slice _)|some .string|some (.map _ _)=>true
 | _=>false
theorem gi9 {E:Nat->IV}{σ:Store}{t ty:TypeId}{a v:IV}{ra:Value}(hs:Sim E ρ w σ)(ht:ka9 P t=true) (hk:∀u,P.underlying t=za u ->
   (match u,a with|.slice _,.aa1|.slice _,.ac6|.slice _,.af6|.slice _,.aa3 _|.slice _,.slice _ _ _ _|.slice _,.ag6 _ _ _ _|.slice _,.ak5 _ _ _ _ _|.string,.str _|.map _ _,.ah7|.map _ _,.map _=>true|_,_=>false)=true)
  (h:ho7 σ a=za v) (ha:VR ρ w a ra):∃x,(Builtin.len_ #[t] ty #[ra]).run P w=.ok x w/\VR ρ w v x:=by
 unfold ka9 at ht
 cases hu:P.underlying t with
 | none=>rw[hu] at ht;cases ht
 | some u=>
  have hk:=hk u hu
  cases ha with
  | aa1=>cases u<;>simp at hk;cases h;exact ⟨_,by simp[Builtin.len_,run_underlying hu,goInt],.int _ _⟩
  | ac6 c=>cases u<;>simp at hk;cases h;exact ⟨_,by simp[Builtin.len_,run_underlying hu,goInt],.int _ _⟩
  | af6 c _=>cases u<;>simp at hk;cases h;exact ⟨_,by simp[Builtin.len_,run_underlying hu,goInt],.int _ _⟩
  | ah7=>cases u<;>simp at hk;cases h;exact ⟨_,by simp[Builtin.len_,run_underlying hu,goInt],.int _ _⟩
  | str s=>cases u<;>simp at hk;cases h;exact ⟨_,by simp[Builtin.len_,run_underlying hu,goInt,size_mk],.int _ _⟩
  | aa3 es b o cap esz sp vs hf hsz hc hv hle=>cases u<;>simp at hk;cases h;exact ⟨_,by simp[Builtin.len_,run_underlying hu,goInt],.int _ _⟩
  | ci3=>cases u<;>simp at hk;cases h;exact ⟨_,by simp[Builtin.len_,run_underlying hu,goInt],.int _ _⟩
  | slice id off len esz B d cap rcs el fz hid hb hsz hle=>cases u<;>simp at hk;cases h;exact ⟨_,by simp[Builtin.len_,run_underlying hu,goInt],.int _ _⟩
  | am6 id off esz B d a hid=>cases u<;>simp at hk;cases h;exact ⟨_,by simp[Builtin.len_,run_underlying hu,goInt],.int _ _⟩
  | al5 id off len esz cap ad hid hle=>cases u<;>simp at hk;cases h;exact ⟨_,by simp[Builtin.len_,run_underlying hu,goInt],.int _ _⟩
  | ag6 id off len esz B d rcs el fz hid hb hsz=>cases u<;>simp at hk;cases h;exact ⟨_,by simp[Builtin.len_,run_underlying hu,goInt],.int _ _⟩
  | aq3 id off len esz ad hid=>cases u<;>simp at hk;cases h;exact ⟨_,by simp[Builtin.len_,run_underlying hu,goInt],.int _ _⟩
  | ak5 id off len room esz B d cap rcs el fz hid hb hsz hle hr=>cases u<;>simp at hk;cases h;exact ⟨_,by simp[Builtin.len_,run_underlying hu,goInt],.int _ _⟩
  | aw9 id off len room esz cap ad hid hle hr=>cases u<;>simp at hk;cases h;exact ⟨_,by simp[Builtin.len_,run_underlying hu,goInt],.int _ _⟩
  | map id B d hid=>
   cases u<;>simp at hk;simp only[ho7] at h;obtain ⟨ob,ho,hor⟩:=hs.obj id B d hid;rw[ho] at h
   cases ob with
   | map es=>
    cases h;obtain ⟨mes,clock,hb,_,hl,_⟩:=hor
    exact ⟨_,by simp[Builtin.len_,run_underlying hu,getObj,Sem.run,hb,goInt,hl],.int _ _⟩
   | _=>simp at h
  | mapD id B hid=>simp[ho7,hs.dead id hid] at h
  | _=>simp[ho7] at h
def es7:IV->Option Nat
 | .int _ i=>if 0<=i then za i.toNat else zb
 | _=>zb
def cw3 (d:Nat):Option IV->Option Nat
 | none=>za d
 | some v=>es7 v
theorem br8 {v:IV}{n:Nat}{r:Value}(h:es7 v=za n)(hv:VR ρ w v r):∃k,r=.int k (n:Int):=by
 cases hv with
 | int k i=>
  simp only[es7] at h;split at h
  ·cases h;exact ⟨k,by congr 1;omega⟩
  ·cases h
 | _=>simp[es7] at h
def cb8 (lo hi:Option IV):IV->Option IV
 | .str s=>match cw3 0 lo,cw3 s.length hi with
  | some l,za h=>if l<=h/\h<=s.length then za (.str ((s.take h).drop l)) else zb
  | _,_=>zb
 | _=>zb
def OVR (ρ:Rho)(w:World):Option IV->Option Value->Prop
 | none,zb=>True
 | some v,za r=>VR ρ w v r
 | _,_=>False
theorem eg9 {v:Option IV}{r:Option Value}{n d y:Nat}{c:BoundsCode}(h:cw3 d v=za n)(hv:OVR ρ w v r)(hle:n<=y) :
  (match r with|some x=>Instr.sliceBound x y c|none=>pure d:Sem Nat).run P w=.ok n w:=by
 cases v with
 | none=>
  cases r with
  | none=>simp_all [cw3]
  | some r=>exact hv.elim
 | some v=>
  cases r with
  | none=>simp[OVR] at hv
  | some r=>
   simp only[cw3] at h;obtain ⟨k,rfl⟩:=br8 h hv;have:((n:Int)<=(y:Int)):=om;simp[Instr.sliceBound,asIntOf,this]
theorem an9 {isSlice:Bool}{len cap l h:Nat}{lo hi:Option IV}{rlo rhi:Option Value}(hlo:cw3 0 lo=za l)(hhi:cw3 len hi=za h)
  (h1:OVR ρ w lo rlo) (h2:OVR ρ w hi rhi) (hlh:l<=h) (hc:h<=cap) :
  (Instr.sliceBounds isSlice len cap rlo rhi zb).run P w=.ok (l,h,cap) w:=by
 have e2:=eg9 (P:=P) (w:=w) (ρ:=ρ) (c:=if isSlice then .sliceAcap else .sliceAlen) hhi h2 hc;have e1:=eg9 (P:=P) (w:=w) (ρ:=ρ) (c:=.sliceB) hlo h1 hlh;cases rlo<;>cases rhi<;>simp_all [Instr.sliceBounds]
theorem fq3 {t:TypeId}{a v:IV}{ra:Value}{lo hi:Option IV}{rlo rhi:Option Value}(hu:P.underlying t=za .string)(h:cb8 lo hi a=za v)
  (ha:VR ρ w a ra) (h1:OVR ρ w lo rlo) (h2:OVR ρ w hi rhi):∃x,(Instr.sliceAt t ra rlo rhi zb).run P w=.ok x w/\VR ρ w v x:=by
 cases ha with
 | str s=>
  simp only[cb8] at h;split at h
  ·rename_i l h' hl hh;split at h
   ·rename_i hc;cases h;have hb:=an9 (P:=P) (w:=w) (ρ:=ρ) (isSlice:=false) (cap:=s.length) hl hh h1 h2 hc.1 hc.2;refine ⟨_,?_,.str _⟩
    have e:(zf s.toArray).extract l h'=zf ((s.take h').drop l).toArray:=by
     apply zo;simp[List.drop_take]
    simp[Instr.sliceAt,Instr.slice,run_underlying hu,size_mk,hb,e]
   ·cases h
  ·cases h
 | _=>simp[cb8] at h
def dk9 (esz:Nat)(lo hi:Option IV):IV->Option IV
 | .aa1=>match cw3 0 lo,cw3 0 hi with
  | some l,za h=>if l=0/\h=0 then za .aa1 else zb
  | _,_=>zb
 | .aa3 es=>match cw3 0 lo,cw3 es.length hi with
  | some l,za h=>if l<=h/\h<=es.length/\es.all (λe=>e.length==esz) then za (.aa3 ((es.take h).drop l)) else zb
  | _,_=>zb
 | .slice id off len e=>match cw3 0 lo,cw3 len hi with
  | some l,za h=>if l<=h/\h<=len/\e=esz then za (.slice id (off+l*esz) (h-l) esz) else zb
  | _,_=>zb
 | .ag6 id off len e=>match cw3 0 lo,cw3 len hi with
  | some l,za h=>if l<=h/\h<=len/\e=esz then za (.slice id (off+l*esz) (h-l) esz) else zb
  | _,_=>zb
 | .ak5 id off len room e=>match cw3 0 lo,cw3 len hi with
  | some l,za h=>if l<=h/\h<=room/\e=esz then za (.slice id (off+l*esz) (h-l) esz) else zb
  | _,_=>zb
 | _=>zb
theorem fq4 {es:List (List IV)}{r:Value}{l h:Nat}(hv:VR ρ w (.aa3 es) r)(h1:l<=h)(h2:h<=es.length)(esz:Nat)(hall:∀e∈es,e.length=esz)(hnn:r≠.slice zb 0 0) :
  ∃b o cap sp,r=.slice (za ⟨b,o,sp⟩) es.length cap/\es.length<=cap /\
   VR ρ w (.aa3 ((es.take h).drop l)) (.slice (if cap=l then za ⟨b,o,sp⟩ else (za (⟨b,o,sp⟩:Addr)).map (·.add (l*esz))) (h-l) (cap-l)):=by
 cases hv with
 | ci3=>exact absurd rfl hnn
 | aa3 es b o cap esz' sp vs hf hsz hc hv hle=>
  refine ⟨b,o,cap,sp,rfl,hle,?_⟩;have hlen:((es.take h).drop l).length=h-l:=by simp;omega
  by_cases hcl:cap=l
  ·have h0:(es.take h).drop l=[]:=List.drop_of_length_le (by simp;omega);have hz:h-l=0:=om;rw[h0,hz];simp only[hcl,if_true,Nat.sub_self];exact VR.aa3 [] b o 0 0 sp (λ_ _=>.nilIface) (λhn=>absurd rfl hn) (λi hi=>by simp at hi) (λi hi=>by simp at hi) (λi hi=>by simp at hi) (by simp)
  ·simp only[hcl,if_false,Option.map_some];by_cases he:(es.take h).drop l=[]
   ·rw[he];have hz:h-l=0:=by rw[<- hlen,he];rfl
    rw[hz]
    have:(⟨b,o,sp⟩:Addr).add (l*esz)=⟨b,((⟨b,o,sp⟩:Addr).add (l*esz)).off,((⟨b,o,sp⟩:Addr).add (l*esz)).spot⟩:=by
     unfold Addr.add;split<;>rfl
    rw[this];exact VR.aa3 [] b _ _ 0 _ (λ_ _=>.nilIface) (λhn=>absurd rfl hn) (λi hi=>by simp at hi) (λi hi=>by simp at hi) (λi hi=>by simp at hi) (by simp)
   ·have hpos:l<h:=by
     rcases Nat.lt_or_ge l h with h'|h'
     ·exact h'
     ·exact absurd (List.eq_nil_of_length_eq_zero (by rw[hlen];omega)) he
    have hne:es≠[]:=by intro h0;subst h0;simp at h2;omega
    obtain ⟨hf1,rfl⟩:=hf hne
    have hee:esz'=esz:=by
     have h0:0<es.length:=om;rw[<- hsz 0 h0];refine hall _ ?_;rw[zc,List.getElem?_eq_getElem h0];exact List.getElem_mem _
    subst hee;rw[ay8]
    have hg:∀i,i<h-l->((es.take h).drop l).getD i []=es.getD (l+i) []:=λi hi=>by
     rw[an8,getD_take' _ _ _ _ om]
    have hx:h-l=((es.take h).drop l).length:=hlen.symm;rw[hx];refine VR.aa3 _ b _ _ esz' zb (λi j=>vs (l+i) j) (λ_=>⟨hf1,rfl⟩) (λi hi=>?_) (λi hi j hj=>?_) (λi hi j hj=>?_) (by rw[hlen];omega)
    ·rw[hlen] at hi;rw[hg i hi];exact hsz _ om
    ·rw[hlen] at hi;have:=hc (l+i) om j hj;rw[zm] at this;rw[<- this];congr 2;omega
    ·rw[hlen] at hi;rw[hg i hi];exact hv _ om j hj
theorem gj1 {t elem:TypeId}{esz:Nat}{a v:IV}{ra:Value}{lo hi:Option IV}{rlo rhi:Option Value}
  (hu:P.underlying t=za (.slice elem)) (hz:szT P elem=za esz) (h:dk9 esz lo hi a=za v)
  (ha:VR ρ w a ra) (h1:OVR ρ w lo rlo) (h2:OVR ρ w hi rhi):∃x,(Instr.sliceAt t ra rlo rhi zb).run P w=.ok x w/\VR ρ w v x:=by
 cases ha with
 | aa1=>
  simp only[dk9] at h;split at h
  ·rename_i l h' hl hh;split at h
   ·rename_i hc;obtain ⟨rfl,rfl⟩:=hc;cases h;have hb:=an9 (P:=P) (w:=w) (ρ:=ρ) (isSlice:=true) (len:=0) (cap:=0) hl hh h1 h2 (zi _) (Nat.zero_le _);refine ⟨.slice zb 0 0,?_,.aa1⟩;simp[Instr.sliceAt,Instr.slice,run_underlying hu,hb,run_sizeOf hz]
   ·cases h
  ·cases h
 | ci3=>
  simp only[dk9] at h;split at h
  ·rename_i l h' hl hh;split at h
   ·rename_i hc;obtain ⟨c1,c2,_⟩:=hc;simp only[List.length_nil,Nat.le_zero] at c2;subst c2;have c1':l=0:=om;subst c1';cases h;have hb:=an9 (P:=P) (w:=w) (ρ:=ρ) (isSlice:=true) (len:=0) (cap:=0) hl hh h1 h2 (zi _) (Nat.zero_le _);refine ⟨.slice zb 0 0,?_,.ci3⟩;simp[Instr.sliceAt,Instr.slice,run_underlying hu,hb,run_sizeOf hz]
   ·cases h
  ·cases h
 | aa3 es b o cap esz' sp vs hf hsz hc hv hle=>
  simp only[dk9] at h;split at h
  ·rename_i l h' hl hh;split at h
   ·rename_i hcc;obtain ⟨c1,c2,c3⟩:=hcc;cases h;have hb:=an9 (P:=P) (w:=w) (ρ:=ρ) (isSlice:=true) (cap:=cap) hl hh h1 h2 c1 om
    obtain ⟨b',o',cap',sp',heq,hle',hvr⟩:=fq4 (.aa3 es b o cap esz' sp vs hf hsz hc hv hle) c1 c2 esz (λe he=>by
     have:=List.all_eq_true.1 c3 e he;simpa using this) (λe=>by cases e)
    simp only[Value.slice.injEq,za.injEq,Addr.mk.injEq,true_and] at heq;obtain ⟨⟨rfl,rfl,rfl⟩,rfl⟩:=heq;refine ⟨_,?_,hvr⟩;simp[Instr.sliceAt,Instr.slice,run_underlying hu,hb,run_sizeOf hz]
   ·cases h
  ·cases h
 | slice id off len e B d cap rcs el fz hid hbk hsz hle=>
  simp only[dk9] at h;split at h
  ·rename_i l h' hl hh;split at h
   ·rename_i hcc;obtain ⟨c1,c2,rfl⟩:=hcc;cases h;have hb:=an9 (P:=P) (w:=w) (ρ:=ρ) (isSlice:=true) (cap:=cap) hl hh h1 h2 c1 om;refine ⟨.slice (za (if cap=l then ⟨B,d+off,zb⟩ else ⟨B,d+off+l*e,zb⟩)) (h'-l) (cap-l),?_,?_⟩
    ·simp[Instr.sliceAt,Instr.slice,run_underlying hu,hb,run_sizeOf hz,ay8,apply_ite]
    ·by_cases hcl:cap=l
     ·have e1:h'-l=0:=om;have e2:cap-l=0:=om;rw[e1,e2];exact .am6 id _ e B d _ hid
     ·simp only[hcl,if_false];rw[zd];refine .slice id _ _ e B d _ rcs el fz hid hbk ?_ om;have:(cap-l)*e+l*e=cap*e:=by rw[<- zm];congr 1;omega
      omega
   ·cases h
  ·cases h
 | am6 id off e B d a hid=>
  simp only[dk9] at h;split at h
  ·rename_i l h' hl hh;split at h
   ·rename_i hcc;obtain ⟨c1,c2,rfl⟩:=hcc;cases h;have hb:=an9 (P:=P) (w:=w) (ρ:=ρ) (isSlice:=true) (cap:=0) hl hh h1 h2 c1 c2;have e1:l=0:=om;have e2:h'=0:=om;subst e1;subst e2;refine ⟨.slice (za a) 0 0,?_,.am6 id _ e B d a hid⟩;simp[Instr.sliceAt,Instr.slice,run_underlying hu,hb,run_sizeOf hz]
   ·cases h
  ·cases h
 | al5 id off len e cap ad hid hle=>
  simp only[dk9] at h;split at h
  ·rename_i l h' hl hh;split at h
   ·rename_i hcc;obtain ⟨c1,c2,rfl⟩:=hcc;cases h;have hb:=an9 (P:=P) (w:=w) (ρ:=ρ) (isSlice:=true) (cap:=cap) hl hh h1 h2 c1 om;refine ⟨.slice (za (if cap=l then ad else ad.add (l*e))) (h'-l) (cap-l),?_,.al5 id _ _ e _ _ hid om⟩;simp[Instr.sliceAt,Instr.slice,run_underlying hu,hb,run_sizeOf hz,apply_ite]
   ·cases h
  ·cases h
 | aq3 id off len e ad hid=>
  simp only[dk9] at h;split at h
  ·rename_i l h' hl hh;split at h
   ·rename_i hcc;obtain ⟨c1,c2,rfl⟩:=hcc;cases h;have hb:=an9 (P:=P) (w:=w) (ρ:=ρ) (isSlice:=true) (cap:=len) hl hh h1 h2 c1 om;refine ⟨.slice (za (if len=l then ad else ad.add (l*e))) (h'-l) (len-l),?_,.al5 id _ _ e _ _ hid om⟩;simp[Instr.sliceAt,Instr.slice,run_underlying hu,hb,run_sizeOf hz,apply_ite]
   ·cases h
  ·cases h
 | ag6 id off len e B d rcs el fz hid hbk hsz=>
  simp only[dk9] at h;split at h
  ·rename_i l h' hl hh;split at h
   ·rename_i hcc;obtain ⟨c1,c2,rfl⟩:=hcc;cases h;have hb:=an9 (P:=P) (w:=w) (ρ:=ρ) (isSlice:=true) (cap:=len) hl hh h1 h2 c1 om;refine ⟨.slice (za (if len=l then ⟨B,d+off,zb⟩ else ⟨B,d+off+l*e,zb⟩)) (h'-l) (len-l),?_,?_⟩
    ·simp[Instr.sliceAt,Instr.slice,run_underlying hu,hb,run_sizeOf hz,ay8,apply_ite]
    ·by_cases hcl:len=l
     ·have e1:h'-l=0:=om;have e2:len-l=0:=om;rw[e1,e2];exact .am6 id _ e B d _ hid
     ·simp only[hcl,if_false];rw[zd];refine .slice id _ _ e B d _ rcs el fz hid hbk ?_ om;have:(len-l)*e+l*e=len*e:=by rw[<- zm];congr 1;omega
      omega
   ·cases h
  ·cases h
 | aw9 id off len room e cap ad hid hle hr=>
  simp only[dk9] at h;split at h
  ·rename_i l h' hl hh;split at h
   ·rename_i hcc;obtain ⟨c1,c2,rfl⟩:=hcc;cases h;have hb:=an9 (P:=P) (w:=w) (ρ:=ρ) (isSlice:=true) (cap:=cap) hl hh h1 h2 c1 om;refine ⟨.slice (za (if cap=l then ad else ad.add (l*e))) (h'-l) (cap-l),?_,.al5 id _ _ e _ _ hid om⟩;simp[Instr.sliceAt,Instr.slice,run_underlying hu,hb,run_sizeOf hz,apply_ite]
   ·cases h
  ·cases h
 | ak5 id off len room e B d cap rcs el fz hid hbk hsz hle hr=>
  simp only[dk9] at h;split at h
  ·rename_i l h' hl hh;split at h
   ·rename_i hcc;obtain ⟨c1,c2,rfl⟩:=hcc;cases h;have hb:=an9 (P:=P) (w:=w) (ρ:=ρ) (isSlice:=true) (cap:=cap) hl hh h1 h2 c1 om;refine ⟨.slice (za (if cap=l then ⟨B,d+off,zb⟩ else ⟨B,d+off+l*e,zb⟩)) (h'-l) (cap-l),?_,?_⟩
    ·simp[Instr.sliceAt,Instr.slice,run_underlying hu,hb,run_sizeOf hz,ay8,apply_ite]
    ·by_cases hcl:cap=l
     ·have e1:h'-l=0:=om;have e2:cap-l=0:=om;rw[e1,e2];exact .am6 id _ e B d _ hid
     ·simp only[hcl,if_false];rw[zd];refine .slice id _ _ e B d _ rcs el fz hid hbk ?_ om;have:(cap-l)*e+l*e=cap*e:=by rw[<- zm];congr 1;omega
      omega
   ·cases h
  ·cases h
 | _=>simp[dk9] at h
end Go.Id
namespace Go.Id
open Go
variable {P:Program} {w:World} {ρ:Rho}
def ho8:IV->Option IV
 | .aa1=>za .aa1
 | .ac6=>za .ac6
 | .af6=>za .ac6
 | .aa3 es=>if es=[] then za (.aa3 []) else za .ac6
 | .slice _ _ _ _=>za .ac6
 | .ag6 _ _ _ _=>za .ac6
 | _=>zb
theorem gj2 {t elem:TypeId}{esz:Nat}{a v:IV}{ra:Value}{k1 k2:IntKind}
  (hu:P.underlying t=za (.slice elem)) (hz:szT P elem=za esz) (h:ho8 a=za v) (ha:VR ρ w a ra) :
  ∃x,(Instr.sliceAt t ra zb (za (.int k1 0)) (za (.int k2 0))).run P w=.ok x w/\VR ρ w v x:=by
 have hb:∀len cap:Nat,(Instr.sliceBounds true len cap zb (za (.int k1 0)) (za (.int k2 0))).run P w=.ok (0,0,0) w:=λlen cap=>by
  simp[Instr.sliceBounds,Instr.sliceBound,asIntOf]
 cases ha with
 | aa1=>cases h;exact ⟨_,by simp[Instr.sliceAt,Instr.slice,run_underlying hu,hb,run_sizeOf hz],.aa1⟩
 | ac6 c=>cases h;exact ⟨_,by simp[Instr.sliceAt,Instr.slice,run_underlying hu,hb,run_sizeOf hz];rfl,.ac6 _⟩
 | af6 c _=>cases h;exact ⟨_,by simp[Instr.sliceAt,Instr.slice,run_underlying hu,hb,run_sizeOf hz];rfl,.ac6 _⟩
 | ci3=>cases h;exact ⟨_,by simp[Instr.sliceAt,Instr.slice,run_underlying hu,hb,run_sizeOf hz],.ci3⟩
 | aa3 es b o cap esz sp vs hf hsz hc hv hle=>
  simp only[ho8] at h;split at h
  ·cases h;exact ⟨_,by simp[Instr.sliceAt,Instr.slice,run_underlying hu,hb,run_sizeOf hz];rfl,by
    have:=VR.aa3 (ρ:=ρ) (w:=w) [] b o 0 0 sp (λ_ _=>.nilIface) (λhn=>absurd rfl hn) (λi hi=>by simp at hi) (λi hi=>by simp at hi) (λi hi=>by simp at hi) (by simp);exact this⟩
  ·cases h;exact ⟨_,by simp[Instr.sliceAt,Instr.slice,run_underlying hu,hb,run_sizeOf hz];rfl,.ac6 _⟩
 | slice id off len e B d cap rcs el fz hid hbk hsz hle=>cases h;exact ⟨_,by simp[Instr.sliceAt,Instr.slice,run_underlying hu,hb,run_sizeOf hz];rfl,.ac6 _⟩
 | am6 id off e B d a hid=>cases h;exact ⟨_,by simp[Instr.sliceAt,Instr.slice,run_underlying hu,hb,run_sizeOf hz];rfl,.ac6 _⟩
 | al5 id off len e cap ad hid hle=>cases h;exact ⟨_,by simp[Instr.sliceAt,Instr.slice,run_underlying hu,hb,run_sizeOf hz];rfl,.ac6 _⟩
 | ag6 id off len e B d rcs el fz hid hbk hsz=>cases h;exact ⟨_,by simp[Instr.sliceAt,Instr.slice,run_underlying hu,hb,run_sizeOf hz];rfl,.ac6 _⟩
 | aq3 id off len e ad hid=>cases h;exact ⟨_,by simp[Instr.sliceAt,Instr.slice,run_underlying hu,hb,run_sizeOf hz];rfl,.ac6 _⟩
 | _=>simp[ho8] at h
def hr5 (d:TypeDesc):IV->Option Bool
 | .ae3=>match d with|.pointer _=>za true|_=>zb
 | .ab8 _=>match d with|.pointer _=>za false|_=>zb
 | .ptr _ _=>match d with|.pointer _=>za false|_=>zb
 | .aa1=>match d with|.slice _=>za true|_=>zb
 | .ac6=>match d with|.slice _=>za false|_=>zb
 | .af6=>match d with|.slice _=>za false|_=>zb
 | .aa3 es=>if es=[] then zb else match d with|.slice _=>za false|_=>zb
 | .slice _ _ _ _=>match d with|.slice _=>za false|_=>zb
 | .ah7=>match d with|.map _ _=>za true|_=>zb
 | .map _=>match d with|.map _ _=>za false|_=>zb
 | .ad7=>match d with|.func _ _ _=>za true|_=>zb
 | .func _ _ _=>match d with|.func _ _ _=>za false|_=>zb
 | _=>zb
def ip2:IV->IV
 | .ag6 i o l e=>.slice i o l e
 | .ak5 i o l _ e=>.slice i o l e
 | v=>v
theorem gj3 {v:IV}{r:Value}(h:VR ρ w v r):VR ρ w (ip2 v) r:=by
 cases h with
 | ag6 id off len esz B d rcs el fz hi hb hsz=>exact .slice id off len esz B d len rcs el fz hi hb hsz (zi _)
 | aq3 id off len esz ad hi=>exact .al5 id off len esz len ad hi (zi _)
 | ak5 id off len room esz B d cap rcs el fz hi hb hsz hle hr=>exact .slice id off len esz B d cap rcs el fz hi hb hsz (zk hle hr)
 | aw9 id off len room esz cap ad hi hle hr=>exact .al5 id off len esz cap ad hi (zk hle hr)
 | undef r=>exact .undef r
 | bool b=>exact .bool b
 | int k n=>exact .int k n
 | str s=>exact .str s
 | ae3=>exact .ae3
 | ptr id off B d h=>exact .ptr id off B d h
 | cx8 id off ad h=>exact .cx8 id off ad h
 | ab8 cs b o vs hf hc hv=>exact .ab8 cs b o vs hf hc hv
 | aa1=>exact .aa1
 | ac6 a=>exact .ac6 a
 | af6 a c=>exact .af6 a c
 | slice id off len esz B d cap rcs el fz h hb hsz hle=>exact .slice id off len esz B d cap rcs el fz h hb hsz hle
 | am6 id off esz B d a h=>exact .am6 id off esz B d a h
 | al5 id off len esz cap ad h hle=>exact .al5 id off len esz cap ad h hle
 | aa3 es b o cap esz sp vs hf hsz hc hv hle=>exact .aa3 es b o cap esz sp vs hf hsz hc hv hle
 | ci3=>exact .ci3
 | ah7=>exact .ah7
 | map id B d h=>exact .map id B d h
 | mapD id B h=>exact .mapD id B h
 | al4 es es' b mes clock hp hd hf hb hl hk hv h4 h5=>exact .al4 es es' b mes clock hp hd hf hb hl hk hv h4 h5
 | func fn first cap rf rc hy h1 h2 hf hc=>exact .func fn first cap rf rc hy h1 h2 hf hc
 | yield id B d h=>exact .yield id B d h
 | bc4 id B h=>exact .bc4 id B h
 | ad7=>exact .ad7
 | iface t v r h=>exact .iface t v r h
 | ah2=>exact .ah2
 | agg cs rs h hv=>exact .agg cs rs h hv
 | tuple cs rs h hv=>exact .tuple cs rs h hv
def ct9 (d:TypeDesc)(v:IV):Option Bool:=hr5 d (ip2 v)
def fq5:TypeDesc->Option Value
 | .pointer _=>za (.pointer zb)
 | .slice _=>za (.slice zb 0 0)
 | .map _ _=>za (.map zb)
 | .func _ _ _=>za .nilFunc
 | _=>zb
theorem fq6 {t:TypeId}{d:TypeDesc}{op:BinOp}{x y:Operand}{a:IV}{ra rn:Value}{b:Bool}
  (hu:P.underlying t=za d) (hn:fq5 d=za rn) (hop:op=.eql\/op=.neq) (h:hr5 d a=za b) (ha:VR ρ w a ra) :
  (do eqGuard op t x y ra rn;binOp op t ra rn:Sem Value).run P w=.ok (.bool (if op=.eql then b else !b)) w:=by
 have hg:(eqGuard op t x y ra rn).run P w=.ok () w:=by
  unfold eqGuard;rcases hop with rfl|rfl<;>cases d<;>simp[fq5] at hn<;>subst hn<;>cases ra<;>rfl
 simp only[Sem.run_bind,hg,Result.andThen_ok]
 have key:(Op.equal t ra rn).run P w=.ok b w:=by
  unfold Op.equal Op.maxDepth Op.equalIn;cases ha<;>cases d<;>simp[fq5] at hn<;>(try subst hn)<;>simp[hr5] at h<;>simp[run_underlying hu,h]
 rcases hop with rfl|rfl<;>cases d<;>simp[fq5] at hn<;>subst hn<;>cases ha<;>simp[hr5] at h<;>simp[binOp,key]
theorem gj4 {t:TypeId}{d:TypeDesc}{op:BinOp}{x y:Operand}{a:IV}{ra rn:Value}{b:Bool}
  (hu:P.underlying t=za d) (hn:fq5 d=za rn) (hop:op=.eql\/op=.neq) (h:ct9 d a=za b) (ha:VR ρ w a ra) :
  (do eqGuard op t x y ra rn;binOp op t ra rn:Sem Value).run P w=.ok (.bool (if op=.eql then b else !b)) w :=
 fq6 hu hn hop h (gj3 ha)
def ak4:Nat->IV->IV->Option Bool
 | 0,.bool a,.bool b=>za (a==b)
 | 1,.int k a,.int k' b=>if k=k' then za (decide (a=b)) else zb
 | 2,.str a,.str b=>za (decide (a=b))
 | _,_,_=>zb
def allEq:List Nat->List IV->List IV->Option Bool
 | [],[],[]=>za true
 | t::ts,x::xs,y::ys=>match ak4 t x y,allEq ts xs ys with
  | some a,za b=>za (a&&b)
  | _,_=>zb
 | _,_,_=>zb
def eh1 (P:Program)(g:TypeId->Option (List Nat)):List Field->Nat->Option (List Nat)
 | [],_=>za []
 | f::fs,off=>
  if f.name ≠ "_" ∧ f.offset = off then
   match g f.type,aq2 P f.type with
   | some l,za zb=>if l.length=1 then (eh1 P g fs (off+1)).map (l++·) else zb
   | some l,za (za n)=>if n=l.length/\l.length≠0 then (eh1 P g fs (off+l.length)).map (l++·) else zb
   | _,_=>zb
  else zb
def di5 (P:Program):Nat->TypeId->Option (List Nat)
 | 0,_=>zb
 | d+1,t=>match P.underlying t with
  | some .bool=>za [0]
  | some (.int _)=>za [1]
  | some .string=>za [2]
  | some (.struct fs)=>if P.stoodInHeld t then zb else eh1 P (di5 P d) fs.toList 0
  | some (.array n e)=>match P.underlying e with
   | some (.int _)=>if szT P e=za 1/\0<d then za (zn n 1) else zb
   | _=>zb
  | _=>zb
theorem eh2 {t1 t2:List Nat}{xs ys:List IV}{b:Bool}(h:allEq (t1++t2) xs ys=za b) :
  ∃b1 b2,allEq t1 (xs.take t1.length) (ys.take t1.length)=za b1/\allEq t2 (xs.drop t1.length) (ys.drop t1.length)=za b2/\b=(b1&&b2):=by
 induction t1 generalizing xs ys b with
 | nil=>exact ⟨true,b,by simp[allEq],by simpa using h,by simp⟩
 | cons t ts ih=>
  cases xs with
  | nil=>simp[allEq] at h
  | cons x xs=>
   cases ys with
   | nil=>simp[allEq] at h
   | cons y ys=>
    simp only[List.cons_append,allEq] at h;split at h
    ·rename_i a b' h1 h2;cases h;obtain ⟨b1,b2,e1,e2,rfl⟩:=ih h2;refine ⟨a&&b1,b2,?_,by simpa using e2,by rw[Bool.and_assoc]⟩;simp[allEq,h1,e1]
    ·cases h
theorem allEq_len {ts:List Nat}{xs ys:List IV}{b:Bool}(h:allEq ts xs ys=za b):xs.length=ts.length/\ys.length=ts.length:=by
 induction ts generalizing xs ys b with
 | nil=>cases xs<;>cases ys<;>simp[allEq] at h ⊢
 | cons t ts ih=>
  cases xs with
  | nil=>simp[allEq] at h
  | cons x xs=>
   cases ys with
   | nil=>simp[allEq] at h
   | cons y ys=>
    simp only[allEq] at h;split at h
    ·rename_i a b' h1 h2;have:=ih h2;simp[this]
    ·cases h
def IV.cs:IV->List IV
 | .agg xs=>xs
 | v=>[v]
theorem IV.by2 {v:IV}(h:∀zs,v≠.agg zs):v.cs=[v]:=by
 cases v<;>first|rfl|exact absurd rfl (h _)
theorem es8 (t:Nat)(zs:List IV)(y:IV):ak4 t (.agg zs) y=zb:=by
 unfold ak4;split<;>first|rfl|contradiction
theorem es9 (t:Nat)(zs:List IV)(x:IV):ak4 t x (.agg zs)=zb:=by
 unfold ak4;split<;>first|rfl|contradiction
theorem da5 {t:Nat}{x y:IV}{b:Bool}(h:allEq [t] [x] [y]=za b):ak4 t x y=za b:=by
 simp only[allEq] at h;split at h
 ·rename_i a c h1 h2;cases h2;simpa [h1] using h
 ·cases h
theorem hr6 {x y:IV}{b:Bool}(h:ak4 0 x y=za b):∃a c,x=.bool a/\y=.bool c/\b=(a==c):=by
 unfold ak4 at h;split at h<;>simp_all
theorem dx3 {x y:IV}{b:Bool}(h:ak4 1 x y=za b):∃k a c,x=.int k a/\y=.int k c/\b=decide (a=c):=by
 unfold ak4 at h;split at h
 case h_2 k a k' c=>
  split at h
  ·rename_i hk;subst hk;cases h;exact ⟨_,_,_,rfl,rfl,rfl⟩
  ·cases h
 all_goals first|contradiction|(exfalso;simp_all;done)
theorem hr7 {x y:IV}{b:Bool}(h:ak4 2 x y=za b):∃a c,x=.str a/\y=.str c/\b=decide (a=c):=by
 unfold ak4 at h;split at h<;>simp_all
theorem jl2 {t e:TypeId}{k:IntKind}{n:Nat}(hut:P.underlying t=za (.array n e))(hu:P.underlying e=za (.int k))(hsz:szT P e=za 1){d:Nat}{xs ys:List IV}{rxs rys:Array Value}{b:Bool}(hd:0<d)
  (hx:xs.length=rxs.size) (hy:ys.length=rys.size) (vx:∀i,i<xs.length->VR ρ w (xs.getD i .undef) (rxs.getD i undef)) (vy:∀i,i<ys.length->VR ρ w (ys.getD i .undef) (rys.getD i undef))
  (hb:allEq (zn n 1) xs ys=za b) :
  (Op.equalIn (d+1) t (.agg rxs) (.agg rys)).run P w=.ok b w:=by
 have hlk:aq2 P e=za zb:=by simp[aq2,fe1,hu]
 simp only[Op.equalIn,Sem.run_bind,run_underlying hut,Result.andThen_ok,run_sizeOf hsz,_root_.Std.Legacy.Range.forIn_eq_forIn_range',_root_.Std.Legacy.Range.size,Nat.sub_zero,Nat.add_sub_cancel,Nat.div_one,Nat.mul_one]
 have key:∀(m off:Nat) (b:Bool),allEq (zn m 1) (xs.drop off) (ys.drop off)=za b ->
   (forIn (m:=Sem) (List.range' off m) ((zb,()):Option Bool×Unit) λi __s=>do
      let __do_lift <- part e rxs i;let __do_lift_1 <- part e rys i;let __do_lift <- Op.equalIn d e __do_lift __do_lift_1
      if (!__do_lift)=true then pure (ForInStep.done (za false,())) else pure (ForInStep.yield (zb,()))).run P w=.ok (if b then zb else za false,()) w:=by
  intro m
  induction m with
  | zero=>
   intro off b h;rw[List.replicate_zero] at h;cases hxs:xs.drop off<;>cases hys:ys.drop off<;>rw[hxs,hys] at h<;>simp[allEq] at h;subst h
   simp
  | succ m ih=>
   intro off b h;rw[List.replicate_succ] at h;obtain ⟨l1,l2⟩:=allEq_len h;simp only[List.length_drop,List.length_cons,List.length_replicate] at l1 l2;have g1:off<xs.length:=om;have g2:off<ys.length:=om;rw[zh g1,zh g2] at h;simp only[allEq] at h;split at h
   ·rename_i b1 b2 h1 h2;cases h;obtain ⟨x,hpx,hvx⟩:=aw8 (P:=P) hlk (show bh5 zb off xs=za xs[off] by simp[bh5,g1]) hx vx;obtain ⟨y,hpy,hvy⟩:=aw8 (P:=P) hlk (show bh5 zb off ys=za ys[off] by simp[bh5,g2]) hy vy;obtain ⟨k1,a,c,ea,ec,rfl⟩:=dx3 h1;rw[ea] at hvx;rw[ec] at hvy;cases hvx;cases hvy
    have hq:(Op.equalIn d e (.int k1 a) (.int k1 c)).run P w=.ok (decide (a=c)) w:=by
     obtain ⟨d,rfl⟩:∃m,d=m+1:=⟨d-1,om⟩;simp[Op.equalIn,run_underlying hu,da3]
    simp only[List.range'_succ,List.forIn_cons,Sem.run_bind,hpx,hpy,hq,Result.andThen_ok];by_cases hac:a=c
    ·have:=ih (off+1) b2 h2;simp only[hac,decide_true,Bool.not_true,zl,if_false,Sem.run_pure,Result.andThen_ok,Bool.true_and];exact this
    ·simp[hac]
   ·cases h
 rw[key n 0 b (by simpa using hb)];cases b<;>simp
def kj8 (P:Program)(d:Nat)(t:TypeId)(tags:List Nat):Prop :=
 ∀(ρ:Rho) (w:World) (e:Nat) (x y:IV) (rx ry:Value) (b:Bool),VR ρ w x rx->VR ρ w y ry->(match aq2 P t with|some zb=>(∀zs,x≠.agg zs)/\(∀zs,y≠.agg zs)|some (za _)=>(∃xs,x=.agg xs)/\∃ys,y=.agg ys|none=>False) ->
  allEq tags x.cs y.cs=za b->(Op.equalIn (e+d) t rx ry).run P w=.ok b w
theorem di6 {d e:Nat}{g:TypeId->Option (List Nat)}(hg:∀t tags,g t=za tags->kj8 P d t tags){xs ys:List IV}{rxs rys:Array Value}
  (hx:xs.length=rxs.size) (hy:ys.length=rys.size) (vx:∀i,i<xs.length->VR ρ w (xs.getD i .undef) (rxs.getD i undef)) (vy:∀i,i<ys.length->VR ρ w (ys.getD i .undef) (rys.getD i undef)) :
  ∀(fs:List Field) (off:Nat) (tags:List Nat) (b:Bool),eh1 P g fs off=za tags->allEq tags (xs.drop off) (ys.drop off)=za b ->
   (Op.eqFields (e+d) rxs rys fs).run P w=.ok b w:=by
 intro fs
 induction fs with
 | nil=>
  intro off tags b hf h;cases hf;cases hxs:xs.drop off<;>cases hys:ys.drop off<;>rw[hxs,hys] at h<;>simp[allEq] at h;subst h
  simp[Op.eqFields]
 | cons f fs ih=>
  intro off tags b hf h;simp only[eh1] at hf;split at hf
  case isFalse=>cases hf
  rename_i hn;obtain ⟨hn,rfl⟩:=hn
  have step:∀(l ts:List Nat) (agg:Option Nat),g f.type=za l->aq2 P f.type=za agg->(agg.getD 1=l.length)->(∀n,agg=za n->l.length≠0)->eh1 P g fs (f.offset+l.length)=za ts->tags=l++ts ->
    (Op.eqFields (e+d) rxs rys (f::fs)).run P w=.ok b w:=by
   intro l ts agg hl hk hsz hnz hrest htags;subst htags;obtain ⟨b1,b2,e1,e2,rfl⟩:=eh2 h;have len1:=allEq_len e1;simp only[List.length_take,List.length_drop] at len1;have hxl:f.offset+l.length<=xs.length\/l.length=0:=om;have hyl:f.offset+l.length<=ys.length\/l.length=0:=om
   -- the parts
   have parts:∃px py,bh5 agg f.offset xs=za px/\bh5 agg f.offset ys=za py /\
     (match aq2 P f.type with|some zb=>(∀zs,px≠.agg zs)/\(∀zs,py≠.agg zs)|some (za _)=>(∃xs,px=.agg xs)/\∃ys,py=.agg ys|none=>False) /\
     allEq l px.cs py.cs=za b1:=by
    cases agg with
    | none=>
     simp at hsz;have h1:f.offset<xs.length:=om;have h2:f.offset<ys.length:=om
     have t1:(xs.drop f.offset).take l.length=[xs[f.offset]]:=by
      rw[<- hsz,zh h1];rfl
     have t2:(ys.drop f.offset).take l.length=[ys[f.offset]]:=by
      rw[<- hsz,zh h2];rfl
     rw[t1,t2] at e1
     have nx:∀zs,xs[f.offset]≠.agg zs:=by
      intro zs hz;rw[hz] at e1
      match l,hsz,e1 with
      | [tag],_,e1=>simp only[allEq,es8] at e1;cases e1
     have ny:∀zs,ys[f.offset]≠.agg zs:=by
      intro zs hz;rw[hz] at e1
      match l,hsz,e1 with
      | [tag],_,e1=>simp only[allEq,es9] at e1;cases e1
     refine ⟨xs[f.offset],ys[f.offset],by simp[bh5,h1],by simp[bh5,h2],by rw[hk];exact ⟨nx,ny⟩,?_⟩;rw[IV.by2 nx,IV.by2 ny]
     exact e1
    | some n=>
     simp at hsz;have h0:=hnz n rfl;subst hsz;have h1:f.offset+l.length<=xs.length:=om;have h2:f.offset+l.length<=ys.length:=om;rw[hk];exact ⟨.agg ((xs.drop f.offset).take l.length),.agg ((ys.drop f.offset).take l.length),by simp[bh5,h1],by simp[bh5,h2],⟨⟨_,rfl⟩,⟨_,rfl⟩⟩,e1⟩
   obtain ⟨px,py,p1,p2,p3,p4⟩:=parts;obtain ⟨qx,r1,v1⟩:=aw8 hk p1 hx vx;obtain ⟨qy,r2,v2⟩:=aw8 hk p2 hy vy;have heq:=hg f.type l hl ρ w e px py qx qy b1 v1 v2 p3 p4;simp only[Op.eqFields,hn,ne_eq,not_false_eq_true,if_true,Sem.run_bind,r1,r2,heq,Result.andThen_ok]
   cases b1 with
   | false=>simp
   | true=>
    simp only[Bool.not_true,zl,if_false,Bool.true_and];exact ih (f.offset+l.length) ts b2 hrest (by simpa [List.drop_drop] using e2)
  split at hf
  ·rename_i l hl hk;split at hf
   ·rename_i h1
    cases hr:eh1 P g fs (f.offset+1) with
    | none=>rw[hr] at hf;cases hf
    | some ts=>rw[hr] at hf;cases hf;exact step l ts zb hl hk (by simp[h1]) (λn hn=>by cases hn) (by rw[h1];exact hr) rfl
   ·cases hf
  ·rename_i l n hl hk;split at hf
   ·rename_i h1
    cases hr:eh1 P g fs (f.offset+l.length) with
    | none=>rw[hr] at hf;cases hf
    | some ts=>rw[hr] at hf;cases hf;exact step l ts (za n) hl hk (by simp[h1.1]) (λ_ _=>h1.2) hr rfl
   ·cases hf
  ·cases hf
end Go.Id
