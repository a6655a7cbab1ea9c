/- The ideal values,the ideal store,how they stand for the model's values and world; what a step of the world keeps. Conditions: none; over any program. -/
import Derived.RangeFuncLeaves
import Derived.OrdersIn
import Derived.LoopNIn
import Derived.TacticsIn
import Derived.WalkKit
import Derived.Lib.Bytealg
open Option renaming some→za,none→zb,map_eq_some_iff→zx
open Array renaming getD_eq_getD_getElem?→zc,getElem?_eq_getElem→zn,getElem?_setIfInBounds→zu
open List renaming getD_eq_getElem?_getD→zd,replicate→zf,getElem?_eq_some_iff→zh,drop_eq_getElem_cons→zi,mem_cons_self→zj,length_eq_zero_iff→zk,mem_cons_of_mem→zl,mem_cons→zp,replicate_succ→zq,all_eq_true→zt,mem_of_find?_eq_some→zw,map_cons→zy,zip_cons_cons→z1,getElem?_drop→z2,find?_eq_none→z3
open Nat renaming add_assoc→ze,le_refl→zo,le_trans→zr,add_mul→zv,ble→zz,le_of_ble_eq_true→z0,lt_of_lt_of_le→z5,add_sub_cancel→z6
open ByteArray renaming mk→zg,ext→z4
open Bool renaming false_eq_true→zm
set_option linter.all false
private theorem om{P:Prop}(h:P:=by omega):P:=h
private theorem sm{P:Prop}(h:P:=by simp):P:=h
namespace Go.Id
inductive IV where
 | undef
 | bool (b:Bool)
 | int (k:IntKind) (n:Int)
 | str (s:List UInt8)
 | ag2
 | ptr (id off:Nat)
 | ab5 (cs:List IV)
 | aa5
 | ad2
 | af7
 | slice (id off len esz:Nat)
 | aa2 (es:List (List IV))
 | am1
 | map (id:Nat)
 | am2 (es:List (IV×IV))
 | func (fn:Fn) (first cap:List IV)
 | yield (id:Nat)
 | ai8
 | iface (t:Nat) (v:IV)
 | ah6
 | agg (cs:List IV)
 | tuple (vs:List IV)
 | ag6 (id off len esz:Nat)
 | al2 (id off len room esz:Nat)
 deriving Inhabited
inductive aj8 where
 | cells (cs:List IV)
 | row (cs:List IV)
 | map (es:List (IV×IV))
 | bh7 (s:List UInt8) (pos:Nat)
 | loop (N:Nat) (tmps:List (Nat×IV)) (params:Array Tmp) (assign body:Code) (st:LoopState) (pend:Option Code)
 | as9 (left:List (IV×IV)) (cur:Option (IV×IV))
 deriving Inhabited
inductive eh4 where
 | no
 | dead
 | at (B d:Nat)
structure Store where
 next:Nat
 obj:Nat->Option aj8
structure Rho where
 map:Nat->eh4
 X:Nat->Prop
instance:CoeFun Rho (λ_=>Nat->eh4):=⟨Rho.map⟩
structure UB (ρ:Rho) (w:World) (b:Nat):Prop where
 lt:b<w.heap.size
 no:∀i d,ρ i≠.at b d
structure FB (ρ:Rho) (w:World) (b:Nat):Prop where
 lt:b<w.heap.size
 no:∀i d,ρ i≠.at b d
 x:¬ρ.X b
def FB.ub {ρ:Rho}{w:World}{b:Nat}(h:FB ρ w b):UB ρ w b:=⟨h.1,h.2⟩
inductive KK where
 | str
 | int (k:IntKind)
 | agg (ks:List IntKind)
def dy6:KK->IV->Prop
 | .str,.str _=>True
 | .int k,.int k' _=>k'=k
 | .agg ks,.agg cs=>cs.length=ks.length/\∀i,i<cs.length->∃n,cs.getD i .undef=.int (ks.getD i .i64) n
 | _,_=>False
def da5 (es:List (IV×IV)):Prop:=(es.map (·.1)).Nodup/\∃K,∀e∈es,dy6 K e.1
inductive VR (ρ:Rho) (w:World):IV->Value->Prop
 | undef (r:Value):VR ρ w .undef r
 | bool (b:Bool):VR ρ w (.bool b) (.bool b)
 | int (k:IntKind) (n:Int):VR ρ w (.int k n) (.int k n)
 | str (s:List UInt8):VR ρ w (.str s) (.string ⟨s.toArray⟩)
 | ag2:VR ρ w .ag2 (.pointer zb)
 | ptr (id off B d:Nat) (h:ρ id=.at B d):VR ρ w (.ptr id off) (.pointer (za ⟨B,d+off,zb⟩))
 | cx4 (id off:Nat) (ad:Addr) (h:ρ id=.dead):VR ρ w (.ptr id off) (.pointer (za ad))
 | ab5 (cs:List IV) (b o:Nat) (vs:Nat->Value) (hf:FB ρ w b)
   (hc:∀j,j<cs.length->w.cell? ⟨b,o+j,zb⟩=za (vs j)) (hv:∀j,j<cs.length->VR ρ w (cs.getD j .undef) (vs j)) :
   VR ρ w (.ab5 cs) (.pointer (za ⟨b,o,zb⟩))
 | aa5:VR ρ w .aa5 (.slice zb 0 0)
 | ad2 (a:Addr):VR ρ w .ad2 (.slice (za a) 0 0)
 | af7 (a:Addr) (cap:Nat):VR ρ w .af7 (.slice (za a) 0 cap)
 | slice (id off len esz B d cap:Nat) (rcs:Array Value) (el:TypeId) (fz:Nat×Nat) (h:ρ id=.at B d)
   (hb:w.heap[B]? = za (.cells rcs el fz)) (hsz:d+off+cap*esz<=rcs.size) (hle:len<=cap) :
   VR ρ w (.slice id off len esz) (.slice (za ⟨B,d+off,zb⟩) len cap)
 | am9 (id off esz B d:Nat) (a:Addr) (h:ρ id=.at B d):VR ρ w (.slice id off 0 esz) (.slice (za a) 0 0)
 | am3 (id off len esz cap:Nat) (ad:Addr) (h:ρ id=.dead) (hle:len<=cap):VR ρ w (.slice id off len esz) (.slice (za ad) len cap)
 | aa2 (es:List (List IV)) (b o cap esz:Nat) (sp:Option Nat) (vs:Nat->Nat->Value) (hf:es≠[]->FB ρ w b/\sp=zb)
   (hsz:∀i,i<es.length->(es.getD i []).length=esz)
   (hc:∀i,i<es.length->∀j,j<esz->w.cell? ⟨b,o+(i*esz+j),zb⟩=za (vs i j))
   (hv:∀i,i<es.length->∀j,j<esz->VR ρ w ((es.getD i []).getD j .undef) (vs i j)) (hle:es.length<=cap) :
   VR ρ w (.aa2 es) (.slice (za ⟨b,o,sp⟩) es.length cap)
 | ci6:VR ρ w (.aa2 []) (.slice zb 0 0)
 | am1:VR ρ w .am1 (.map zb)
 | map (id B d:Nat) (h:ρ id=.at B d):VR ρ w (.map id) (.map (za B))
 | mapD (id B:Nat) (h:ρ id=.dead):VR ρ w (.map id) (.map (za B))
 | am2 (es es':List (IV×IV)) (b:Nat) (mes:Array MapEntry) (clock:Nat) (hp:es'.Perm es) (hd:da5 es) (hf:FB ρ w b) (hb:w.heap[b]? = za (.map mes clock)) (hl:es'.length=mes.size)
   (hk:∀i,i<es'.length->VR ρ w (es'.getD i (.undef,.undef)).1 (mes.getD i default).key) (hv:∀i,i<es'.length->VR ρ w (es'.getD i (.undef,.undef)).2 (mes.getD i default).val)
   (h4:∀i,i<mes.size->(mes.getD i default).born<clock) (h5:∀i j,i<j->j<mes.size->(mes.getD i default).born≠(mes.getD j default).born):VR ρ w (.am2 es) (.map (za b))
 | func (fn:Fn) (first cap:List IV) (rf rc:Array Value) (hy:∀l,fn≠.yield l) (h1:first.length=rf.size) (h2:cap.length=rc.size)
   (hf:∀i,i<first.length->VR ρ w (first.getD i .undef) (rf.getD i undef)) (hc:∀i,i<cap.length->VR ρ w (cap.getD i .undef) (rc.getD i undef)) :
   VR ρ w (.func fn first cap) (.func fn rf rc)
 | yield (id B d:Nat) (h:ρ id=.at B d):VR ρ w (.yield id) (.func (.yield B) #[] #[])
 | bd9 (id B:Nat) (h:ρ id=.dead):VR ρ w (.yield id) (.func (.yield B) #[] #[])
 | ai8:VR ρ w .ai8 .nilFunc
 | iface (t:Nat) (v:IV) (r:Value) (h:VR ρ w v r):VR ρ w (.iface t v) (.iface t r)
 | ah6:VR ρ w .ah6 .nilIface
 | agg (cs:List IV) (rs:Array Value) (h:cs.length=rs.size) (hv:∀i,i<cs.length->VR ρ w (cs.getD i .undef) (rs.getD i undef)):VR ρ w (.agg cs) (.agg rs)
 | tuple (cs:List IV) (rs:Array Value) (h:cs.length=rs.size) (hv:∀i,i<cs.length->VR ρ w (cs.getD i .undef) (rs.getD i undef)):VR ρ w (.tuple cs) (.tuple rs)
 | ag6 (id off len esz B d:Nat) (rcs:Array Value) (el:TypeId) (fz:Nat×Nat) (h:ρ id=.at B d)
   (hb:w.heap[B]? = za (.cells rcs el fz)) (hsz:d+off+len*esz<=rcs.size):VR ρ w (.ag6 id off len esz) (.slice (za ⟨B,d+off,zb⟩) len len)
 | aq6 (id off len esz:Nat) (ad:Addr) (h:ρ id=.dead):VR ρ w (.ag6 id off len esz) (.slice (za ad) len len)
 | al2 (id off len room esz B d cap:Nat) (rcs:Array Value) (el:TypeId) (fz:Nat×Nat) (h:ρ id=.at B d)
   (hb:w.heap[B]? = za (.cells rcs el fz)) (hsz:d+off+cap*esz<=rcs.size) (hle:len<=room) (hr:room<=cap):VR ρ w (.al2 id off len room esz) (.slice (za ⟨B,d+off,zb⟩) len cap)
 | az1 (id off len room esz cap:Nat) (ad:Addr) (h:ρ id=.dead) (hle:len<=room) (hr:room<=cap):VR ρ w (.al2 id off len room esz) (.slice (za ad) len cap)
structure Ext (n:Nat) (ρ:Rho) (w:World) (ρ':Rho) (w':World):Prop where
 size:w.heap.size<=w'.heap.size
 keep:∀b,UB ρ w b->w'.heap[b]? = w.heap[b]?
 shape:∀(b:Nat) (rcs:Array Value) (el:TypeId) (fz:Nat×Nat),w.heap[b]? = za (.cells rcs el fz)->∃rcs':Array Value,w'.heap[b]? = za (.cells rcs' el fz)/\rcs'.size=rcs.size
 img:∀i B d,ρ' i=.at B d->(∃j d',ρ j=.at B d')\/w.heap.size<=B
 at_:∀i B d,ρ i=.at B d->ρ' i=.at B d\/ρ' i=.dead
 dead:∀i,ρ i=.dead->ρ' i=.dead
 no:∀i,i<n->ρ i=.no->ρ' i=.no
 output:w'.output=w.output
 os:w'.os=w.os
 tape:w'.tape=w.tape
 loops:∀(l:Nat) (L:Loop),w.heap[l]? = za (Obj.loop L)->∃L':Loop,w'.heap[l]? = za (Obj.loop L')
 X:ρ'.X=ρ.X
def Ext.refl (n:Nat)(ρ:Rho)(w:World):Ext n ρ w ρ w :=
 ⟨zo _,λ_ _=>rfl,λ_ r _ _ h=>⟨r,h,rfl⟩,λi B d h=>.inl ⟨i,d,h⟩,λ_ _ _ h=>.inl h,λ_ h=>h,λ_ _ h=>h,rfl,rfl,rfl,λ_ L h=>⟨L,h⟩,rfl⟩
def Ext.ub {n:Nat}{ρ a:Rho}{w f:World}(h:Ext n ρ w a f){b:Nat}(e:UB ρ w b):UB a f b:=by
 refine ⟨z5 e.1 h.size,λi d hi=>?_⟩;rcases h.img i b d hi with ⟨j,k,g⟩|c
 .exact e.2 j k g
 .exact absurd e.1 (Nat.not_lt.2 c)
def Ext.fb {n:Nat}{ρ a:Rho}{w d:World}(h:Ext n ρ w a d){b:Nat}(c:FB ρ w b):FB a d b :=
 ⟨(h.ub c.ub).1,(h.ub c.ub).2,by rw[h.X];exact c.3⟩
def Ext.trans {n n':Nat}{ρ f c:Rho}{w p g:World}(h:Ext n ρ w f p)(a:Ext n' f p c g)(x:n<=n'):Ext n ρ w c g where
 size:=zr h.size a.size
 keep:=λb k=>by rw[a.keep b (h.ub k),h.keep b k]
 shape:=λb m el q k=>by
  have⟨u,e,s⟩:=h.shape b m el q k;have⟨t,A,r⟩:=a.shape b u el q e;exact ⟨t,A,by rw[r,s]⟩
 img:=λi B d hi=>by
  rcases a.img i B d hi with ⟨j,D,z⟩|o
  .exact h.img j B D z
  .exact .inr (zr h.size o)
 at_:=λi B d hi=>by
  rcases h.at_ i B d hi with e|e
  .exact a.at_ i B d e
  .exact .inr (a.dead i e)
 dead:=λi hi=>a.dead i (h.dead i hi)
 no:=λi hi h0=>a.no i (z5 hi x) (h.no i hi h0)
 output:=by rw[a.output,h.output]
 os:=by rw[a.os,h.os]
 tape:=by rw[a.tape,h.tape]
 loops:=λl L y=>let ⟨L',e⟩:=h.loops l L y;a.loops l L' e
 X:=by rw[a.X,h.X]
def Ext.cell {n:Nat}{ρ a:Rho}{w c:World}(h:Ext n ρ w a c){b o:Nat}(d:FB ρ w b):c.cell? ⟨b,o,zb⟩=w.cell? ⟨b,o,zb⟩:=by
 unfold World.cell?;rw[h.keep b d.ub]
def VR.mono {n:Nat}{ρ ρ':Rho}{w w':World}(h:Ext n ρ w ρ' w'){v:IV}{r:Value}(hv:VR ρ w v r):VR ρ' w' v r:=by
 induction hv with
 | undef r=>exact .undef r
 | bool b=>exact .bool b
 | int k n=>exact .int k n
 | str s=>exact .str s
 | ag2=>exact .ag2
 | ptr id off B d hi=>
  rcases h.at_ id B d hi with h1|h1
  .exact .ptr id off B d h1
  .exact .cx4 id off _ h1
 | cx4 id off ad hi=>exact .cx4 id off ad (h.dead id hi)
 | ab5 cs b o vs hf hc _ ih=>exact .ab5 cs b o vs (h.fb hf) (λj hj=>by rw[h.cell hf];exact hc j hj) ih
 | aa5=>exact .aa5
 | ad2 a=>exact .ad2 a
 | af7 a cap=>exact .af7 a cap
 | slice id off len esz B d cap rcs el fz hi hb hsz hle=>
  rcases h.at_ id B d hi with h1|h1
  .have⟨rcs',hb',hs'⟩:=h.shape B rcs el fz hb;exact .slice id off len esz B d cap rcs' el fz h1 hb' (by rw[hs'];exact hsz) hle
  .exact .am3 id off len esz cap _ h1 hle
 | am9 id off esz B d a hi=>
  rcases h.at_ id B d hi with h1|h1
  .exact .am9 id off esz B d a h1
  .exact .am3 id off 0 esz 0 _ h1 (zo _)
 | am3 id off len esz cap ad hi hle=>exact .am3 id off len esz cap ad (h.dead id hi) hle
 | ag6 id off len esz B d rcs el fz hi hb hsz=>
  rcases h.at_ id B d hi with h1|h1
  .have⟨rcs',hb',hs'⟩:=h.shape B rcs el fz hb;exact .ag6 id off len esz B d rcs' el fz h1 hb' (by rw[hs'];exact hsz)
  .exact .aq6 id off len esz _ h1
 | aq6 id off len esz ad hi=>exact .aq6 id off len esz ad (h.dead id hi)
 | al2 id off len room esz B d cap rcs el fz hi hb hsz hle hr=>
  rcases h.at_ id B d hi with h1|h1
  .have⟨rcs',hb',hs'⟩:=h.shape B rcs el fz hb;exact .al2 id off len room esz B d cap rcs' el fz h1 hb' (by rw[hs'];exact hsz) hle hr
  .exact .az1 id off len room esz cap _ h1 hle hr
 | az1 id off len room esz cap ad hi hle hr=>exact .az1 id off len room esz cap ad (h.dead id hi) hle hr
 | aa2 es b o cap esz sp vs hf hsz hc _ hle ih=>
  refine .aa2 es b o cap esz sp vs (λhne=>⟨h.fb (hf hne).1,(hf hne).2⟩) hsz (λi hi j hj=>?_) ih hle;rw[h.cell (hf (by intro h0;subst h0;simp at hi)).1]
  exact hc i hi j hj
 | ci6=>exact .ci6
 | am1=>exact .am1
 | map id B d hi=>
  rcases h.at_ id B d hi with h1|h1
  .exact .map id B d h1
  .exact .mapD id _ h1
 | mapD id B hi=>exact .mapD id B (h.dead id hi)
 | am2 es es' b mes clock hp hd hf hb hl _ _ h4 h5 ihk ihv=>exact .am2 es es' b mes clock hp hd (h.fb hf) (by rw[h.keep b hf.ub];exact hb) hl ihk ihv h4 h5
 | func fn first cap rf rc hy h1 h2 _ _ ihf ihc=>exact .func fn first cap rf rc hy h1 h2 ihf ihc
 | yield id B d hi=>
  rcases h.at_ id B d hi with h1|h1
  .exact .yield id B d h1
  .exact .bd9 id _ h1
 | bd9 id B hi=>exact .bd9 id B (h.dead id hi)
 | ai8=>exact .ai8
 | iface t v r _ ih=>exact .iface t v r ih
 | ah6=>exact .ah6
 | agg cs rs h1 _ ih=>exact .agg cs rs h1 ih
 | tuple cs rs h1 _ ih=>exact .tuple cs rs h1 ih
def ar2 (ρ:Rho)(w:World)(B d:Nat)(cs:List IV):Prop :=
 ∃(rcs:Array Value) (el:TypeId),w.heap[B]? = za (.cells rcs el (0,0))/\d+cs.length<=rcs.size/\∀i,i<cs.length->VR ρ w (cs.getD i .undef) (rcs.getD (d+i) undef)
def OR (ρ:Rho) (w:World) (B d:Nat):aj8->Prop
 | .cells cs|.row cs=>ar2 ρ w B d cs
 | .map es=>∃(mes:Array MapEntry) (clock:Nat),w.heap[B]? = za (.map mes clock)/\d=0/\es.length=mes.size /\
   (∀i,i<es.length->VR ρ w (es.getD i (.undef,.undef)).1 (mes.getD i default).key/\VR ρ w (es.getD i (.undef,.undef)).2 (mes.getD i default).val) /\
   (∀i,i<mes.size->(mes.getD i default).born<clock)/\(∀i j,i<j->j<mes.size->(mes.getD i default).born≠(mes.getD j default).born)
 | .bh7 s pos=>w.heap[B]? = za (.stringIter ⟨s.toArray⟩ pos)/\d=0
 | .loop N tmps params assign body st pend=>d=0/\∃l:Loop,w.heap[B]? = za (.loop l)/\l.params=params/\l.assign=assign/\l.body=body/\l.pending=pend/\l.state=st/\l.tmps.size=N /\
   (∀t,VR ρ w ((tmps.lookup t).getD .undef) (l.tmps.getD t undef))
 | .as9 left cur=>d=0/\∃(mb last:Nat) (seen:Array Nat) (mes:Array MapEntry) (clock:Nat) (lft:List (IV×IV)),w.heap[B]? = za (.mapIter (za mb) clock seen last)/\FB ρ w mb/\w.heap[mb]? = za (.map mes clock) /\
   (∀i,i<mes.size->(mes.getD i default).born<clock)/\(∀i j,i<j->j<mes.size->(mes.getD i default).born≠(mes.getD j default).born)/\last=clock /\
   lft.length=(mes.toList.filter λe=>!seen.contains e.born).length/\lft.Perm left /\
   (∀c,cur=za c->∃i,i<mes.size/\seen.back? = za (mes.getD i default).born/\VR ρ w c.1 (mes.getD i default).key/\VR ρ w c.2 (mes.getD i default).val) /\
    ∀i,i<lft.length->VR ρ w (lft.getD i (.undef,.undef)).1 ((mes.toList.filter λe=>!seen.contains e.born).getD i default).key/\VR ρ w (lft.getD i (.undef,.undef)).2 ((mes.toList.filter λe=>!seen.contains e.born).getD i default).val
structure Sim (E:Nat->IV) (ρ:Rho) (w:World) (σ:Store):Prop where
 inj:∀i j B d d',ρ i=.at B d->ρ j=.at B d'->i=j
 lt:∀i B d,ρ i=.at B d->B<w.heap.size
 obj:∀i B d,ρ i=.at B d->∃o,σ.obj i=za o/\OR ρ w B d o
 dead:∀i,ρ i=.dead->σ.obj i=zb
 fresh:∀i,σ.next<=i->ρ i=.no
 aw6:∀i,ρ i=.no->σ.obj i=zb
 env:∀g,VR ρ w (E g) (.pointer (za ⟨g,0,zb⟩))
 nx:∀i B d,ρ i=.at B d->¬ρ.X B
 xlt:∀b,ρ.X b->b<w.heap.size
abbrev Frm:=List (Nat×IV)
def Frm.get (fr:Frm)(t:Nat):IV:=(fr.lookup t).getD .undef
def Frm.keep (fr:Frm)(ks:List Nat):Frm:=ks.map λk=>(k,fr.get k)
def Frm.set (fr:Frm)(t:Nat)(v:IV):Frm:=(t,v)::fr
structure FR (ρ:Rho) (w:World) (N:Nat) (fr:Frm) (tmps:Array Value):Prop where
 size:tmps.size=N
 get:∀t,VR ρ w (fr.get t) (tmps.getD t undef)
def FR.mono {n N:Nat}{ρ a:Rho}{w b:World}{fr:Frm}{tmps:Array Value}(h:Ext n ρ w a b)(hf:FR ρ w N fr tmps):FR a b N fr tmps :=
 ⟨hf.size,λt=>(hf.get t).mono h⟩
def Frm.ci8 (fr:Frm)(t s:Nat)(v:IV):(fr.set t v).get s=if s=t then v else fr.get s:=by
 unfold Frm.get Frm.set;by_cases h:s=t
 .subst h;simp
 .have:(s==t)=false:=by simpa using h
  simp[List.lookup_cons,this,h]
def FR.set {N:Nat}{ρ:Rho}{w:World}{fr:Frm}{tmps:Array Value}{t:Nat}{v:IV}{r:Value}(hf:FR ρ w N fr tmps)(b:t<N)(a:VR ρ w v r) :
  FR ρ w N (fr.set t v) (tmps.setIfInBounds t r):=by
 refine ⟨by simp[hf.size],λs=>?_⟩;rw[Frm.ci8];by_cases h:s=t
 .subst h;have:s<tmps.size:=by rw[hf.size];exact b
  simp[zc,this,a]
 .have c:¬t=s:=λe=>h e.symm
  have:=hf.get s;simp only[zc] at this ⊢
  simpa [h,zu,c] using this
def Frm.id7 (fr:Frm)(ks:List Nat)(t:Nat):(fr.keep ks).get t=if t∈ks then fr.get t else .undef:=by
 unfold Frm.get Frm.keep
 induction ks with
 | nil=>simp
 | cons k ks ih=>
  by_cases h:t=k
  .subst h;simp[Frm.get]
  .have:(t==k)=false:=by simpa using h
   simp[List.lookup_cons,this,h,ih]
def FR.keep {N:Nat}{ρ:Rho}{w:World}{fr:Frm}{tmps:Array Value}(ks:List Nat)(hf:FR ρ w N fr tmps):FR ρ w N (fr.keep ks) tmps:=by
 refine ⟨hf.size,λt=>?_⟩;rw[Frm.id7];split
 .exact hf.get t
 .exact .undef _
open Go
def ae3 {b:Type}(a:Array b)(i:Nat)(d:b)(h:i<a.size):a.getD i d=a[i]:=by
 simp[zc,h]
def fg6 (P:Program)(t:TypeId):Option Bool :=
 match P.underlying t with
 | some (.struct _)|some (.array _ _)=>za true
 | some _=>za false
 | none=>zb
def szT (P:Program)(t:TypeId):Option Nat:=(P.info? t).map (·.size)
def cc5 {P:Program}{t:TypeId}{b:Bool}(h:fg6 P t=za b)(w:World):(isAgg t).run P w=.ok b w:=by
 unfold fg6 at h
 cases a:P.underlying t with
 | none=>simp[a] at h
 | some d=>
  simp only[isAgg,Sem.run_bind,run_underlying a,Result.andThen_ok];rw[a] at h;cases d<;>simp_all
def run_sizeOf {P:Program}{t:TypeId}{n:Nat}(h:szT P t=za n)(w:World):(sizeOf t).run P w=.ok n w:=by
 unfold szT at h
 cases hi:P.info? t with
 | none=>simp[hi] at h
 | some i=>
  rw[hi] at h;simp at h;simp[sizeOf,typeInfo,hi,h]
def eh6 (op:BinOp)(k:IntKind)(a b:Int):Option IV :=
 match op with
 | .add=>za (.int k (k.wrap (a+b)))
 | .sub=>za (.int k (k.wrap (a-b)))
 | .mul=>za (.int k (k.wrap (a*b)))
 | .quo=>if b=0 then zb else za (.int k (k.wrap (a.tdiv b)))
 | .rem=>if b=0 then zb else za (.int k (a.tmod b))
 | .and=>za (.int k (k.wrap ((BitVec.ofInt k.bits a &&& BitVec.ofInt k.bits b).toNat:Int)))
 | .or=>za (.int k (k.wrap ((BitVec.ofInt k.bits a ||| BitVec.ofInt k.bits b).toNat:Int)))
 | .xor=>za (.int k (k.wrap ((BitVec.ofInt k.bits a ^^^ BitVec.ofInt k.bits b).toNat:Int)))
 | .andNot=>za (.int k (k.wrap ((BitVec.ofInt k.bits a &&& ~~~BitVec.ofInt k.bits b).toNat:Int)))
 | .eql=>za (.bool (decide (a=b)))
 | .neq=>za (.bool (!decide (a=b)))
 | .lss=>za (.bool (decide (a<b)))
 | .leq=>za (.bool (decide (a<=b)))
 | .gtr=>za (.bool (decide (b<a)))
 | .geq=>za (.bool (decide (b<=a)))
 | .shl|.shr=>zb
def id8 (op:BinOp)(a b:List UInt8):Option IV :=
 match op with
 | .add=>if a.length+b.length<2^62 then za (.str (a++b)) else zb
 | .eql=>za (.bool (decide (a=b)))
 | .neq=>za (.bool (!decide (a=b)))
 | .lss=>za (.bool (Op.bytesLess a b))
 | .leq=>za (.bool (Op.bytesLess a b||decide (a=b)))
 | .gtr=>za (.bool (!(Op.bytesLess a b||decide (a=b))))
 | .geq=>za (.bool (!Op.bytesLess a b))
 | _=>zb
def aw5 (op:BinOp):IV->IV->Option IV
 | .int k a,.int k' b=>
  match op with
  | .shl=>if 0<=b then za (.int k (k.wrap (a*2^(min b.toNat k.bits)))) else zb
  | .shr=>if 0<=b then za (.int k (a.fdiv (2^(min b.toNat k.bits)))) else zb
  | _=>if k=k' then eh6 op k a b else zb
 | .str a,.str b=>id8 op a b
 | _,_=>zb
def toList_mk (l:List UInt8):(zg l.toArray).toList=l:=sm
def size_mk (l:List UInt8):(zg l.toArray).size=l.length:=by simp[ByteArray.size]
def da6 (a b:Int):(a==b)=decide (a=b):=by
 by_cases h:a=b<;>simp[h]
def fg7 (a b:List UInt8):(a==b)=decide (a=b):=by
 by_cases h:a=b<;>simp[h]
variable {P:Program} {w:World} {ρ:Rho}
def ft2 {op:BinOp}{t:TypeId}{k:IntKind}{a b:Int}{v:IV}(h:eh6 op k a b=za v) :
  ∃r,(binOp op t (.int k a) (.int k b)).run P w=.ok r w/\VR ρ w v r:=by
 cases op<;>simp only[eh6] at h
 case add=>cases h;exact ⟨_,by simp[binOp,Op.intArith],.int _ _⟩
 case sub=>cases h;exact ⟨_,by simp[binOp,Op.intArith],.int _ _⟩
 case mul=>cases h;exact ⟨_,by simp[binOp,Op.intArith],.int _ _⟩
 case quo=>
  split at h
  .cases h
  .rename_i h0;cases h;exact ⟨_,by simp[binOp,Op.intDiv,h0],.int _ _⟩
 case rem=>
  split at h
  .cases h
  .rename_i h0;cases h;exact ⟨_,by simp[binOp,Op.intDiv,h0],.int _ _⟩
 case and=>cases h;exact ⟨_,by simp only[binOp,ne_eq,not_true_eq_false,if_false,Op.intBits];rfl,.int _ _⟩
 case or=>cases h;exact ⟨_,by simp only[binOp,ne_eq,not_true_eq_false,if_false,Op.intBits];rfl,.int _ _⟩
 case xor=>cases h;exact ⟨_,by simp only[binOp,ne_eq,not_true_eq_false,if_false,Op.intBits];rfl,.int _ _⟩
 case andNot=>cases h;exact ⟨_,by simp only[binOp,ne_eq,not_true_eq_false,if_false,Op.intBits];rfl,.int _ _⟩
 case eql=>cases h;exact ⟨_,by simp only[binOp,ne_eq,not_true_eq_false,if_false,Op.intCmp,da6];rfl,.bool _⟩
 case neq=>cases h;exact ⟨_,by simp only[binOp,ne_eq,not_true_eq_false,if_false,Op.intCmp,bne,da6];rfl,.bool _⟩
 case lss=>cases h;exact ⟨_,by simp only[binOp,ne_eq,not_true_eq_false,if_false,Op.intCmp];rfl,.bool _⟩
 case leq=>cases h;exact ⟨_,by simp only[binOp,ne_eq,not_true_eq_false,if_false,Op.intCmp];rfl,.bool _⟩
 case gtr=>cases h;exact ⟨_,by simp only[binOp,ne_eq,not_true_eq_false,if_false,Op.intCmp];rfl,.bool _⟩
 case geq=>cases h;exact ⟨_,by simp only[binOp,ne_eq,not_true_eq_false,if_false,Op.intCmp];rfl,.bool _⟩
 all_goals cases h
def gm8 {op:BinOp}{t:TypeId}{x y:Operand}{a b v:IV}{d c:Value}(h:aw5 op a b=za v)(p:VR ρ w a d)(i:VR ρ w b c) :
  ∃r,(do eqGuard op t x y d c;binOp op t d c:Sem Value).run P w=.ok r w/\VR ρ w v r:=by
 cases p with
 | int k a=>
  cases i with
  | int k' b=>
   have f:(eqGuard op t x y (.int k a) (.int k' b)).run P w=.ok () w:=by
    unfold eqGuard;cases op<;>rfl
   simp only[Sem.run_bind,f,Result.andThen_ok];by_cases m:op=.shl
   .subst m;simp only[aw5] at h;split at h
    .rename_i h0;cases h;exact ⟨_,by simp[binOp,Op.shift,Int.not_lt.2 h0],.int _ _⟩
    .cases h
   by_cases j:op=.shr
   .subst j;simp only[aw5] at h;split at h
    .rename_i h0;cases h;exact ⟨_,by simp[binOp,Op.shift,Int.not_lt.2 h0],.int _ _⟩
    .cases h
   have g:(if k=k' then eh6 op k a b else zb)=za v:=by
    cases op<;>first|exact absurd rfl m|exact absurd rfl j|exact h
   split at g
   .rename_i o;subst o;exact ft2 g
   .cases g
  | _=>simp[aw5] at h
 | str a=>
  cases i with
  | str b=>
   have f:(eqGuard op t x y (.string ⟨a.toArray⟩) (.string ⟨b.toArray⟩)).run P w=.ok () w:=by
    unfold eqGuard;cases op<;>rfl
   simp only[Sem.run_bind,f,Result.andThen_ok];simp only[aw5] at h;cases op<;>simp only[binOp,id8] at h ⊢<;>try (cases h;done)
   case add=>
    split at h
    .rename_i h0;cases h;refine ⟨_,?_,.str _⟩
     have n:¬(((a.length+b.length:Nat)):Int)>IntKind.i64.max:=by
      have:IntKind.i64.max=9223372036854775807:=by decide
      omega
     have e:(zg a.toArray++zg b.toArray)=zg (a++b).toArray:=by
      apply z4;simp[ByteArray.data_append]
     simp[Op.stringOp,size_mk,e] at n ⊢;omega
    .cases h
   all_goals
    cases h
    exact ⟨_,by simp only[Op.stringOp,toList_mk,fg7];rfl,.bool _⟩
  | _=>simp[aw5] at h
 | _=>simp[aw5] at h
def ar3 (σ:Store):IV->Option (List IV)
 | .ab5 cs=>za cs
 | .ptr id off=>match σ.obj id with
  | some (.cells cs)=>za (cs.drop off)
  | some (.row cs)=>za (cs.drop off)
  | _=>zb
 | _=>zb
def an9 {a:Type}(l:List a)(n i:Nat)(d:a):(l.drop n).getD i d=l.getD (n+i) d:=by
 simp[zd,z2]
def getD_take' {a:Type}(l:List a)(n i:Nat)(d:a)(h:i<n):(l.take n).getD i d=l.getD i d:=by
 simp[zd,h]
def cc6 {E:Nat->IV}{σ:Store}{v:IV}{r:Value}{cs:List IV}(hs:Sim E ρ w σ)(g:VR ρ w v r)(h:ar3 σ v=za cs) :
  ∃b o,r=.pointer (za ⟨b,o,zb⟩)/\∃vs:Nat->Value,(∀j,j<cs.length->w.cell? ⟨b,o+j,zb⟩=za (vs j))/\∀j,j<cs.length->VR ρ w (cs.getD j .undef) (vs j):=by
 cases g with
 | ab5 cs' b o vs hf hc g=>
  simp[ar3] at h;subst h
  exact ⟨b,o,rfl,vs,hc,g⟩
 | ptr id off B d hi=>
  simp only[ar3] at h;have⟨m,p,a⟩:=hs.obj id B d hi;rw[p] at h
  have e:∀cs',ar2 ρ w B d cs'->cs'.drop off=cs->∃b o,Value.pointer (za ⟨B,d+off,zb⟩)=.pointer (za ⟨b,o,zb⟩)/\∃vs:Nat->Value,(∀j,j<cs.length->w.cell? ⟨b,o+j,zb⟩=za (vs j))/\∀j,j<cs.length->VR ρ w (cs.getD j .undef) (vs j):=by
   intro cs' a h;subst h;have⟨c,el,q,n,f⟩:=a;refine ⟨B,d+off,rfl,λj=>c.getD (d+(off+j)) undef,λj k=>?_,λj k=>?_⟩
   .simp at k;have i:d+off+j<c.size:=om;simp only[World.cell?,q];rw[ae3 _ _ _ om];simp only[Option.isSome_none,zm,if_false];rw[zn i];congr 2;omega
   .simp at k;rw[an9];exact f (off+j) om
  cases m with
  | cells cs'=>exact e cs' a (by simpa using h)
  | row cs'=>exact e cs' a (by simpa using h)
  | _=>simp at h
 | cx4 id off ad hi=>
  simp only[ar3,hs.dead id hi] at h
  cases h
 | _=>simp[ar3] at h
def ay8 (σ:Store)(agg:Option Nat)(a:IV):Option IV :=
 match ar3 σ a with
 | none=>zb
 | some cs=>match agg with
  | none=>cs.head?
  | some n=>if n<=cs.length then za (.agg (cs.take n)) else zb
def aq5 (P:Program)(t:TypeId):Option (Option Nat):=
 match fg6 P t with
 | some false=>za zb
 | some true=>(szT P t).map za
 | none=>zb
def ba6 (b o n:Nat):(⟨b,o,zb⟩:Addr).add n=⟨b,o+n,zb⟩:=by
 unfold Addr.add;split<;>simp_all
def dm1 {E:Nat->IV}{σ:Store}{t:TypeId}{m:Option Nat}{a v:IV}{r:Value}(hs:Sim E ρ w σ)(e:aq5 P t=za m)
  (h:ay8 σ m a=za v) (u:VR ρ w a r):∃x,(Instr.loadAt t r).run P w=.ok x w/\VR ρ w v x:=by
 unfold ay8 at h
 cases hc:ar3 σ a with
 | none=>rw[hc] at h;cases h
 | some cs=>
  rw[hc] at h;obtain ⟨b,o,rfl,vs,d,f⟩:=cc6 hs u hc;unfold aq5 at e
  cases p:fg6 P t with
  | none=>rw[p] at e;cases e
  | some g=>
   rw[p] at e
   cases g with
   | false=>
    cases e;simp only at h
    cases cs with
    | nil=>simp at h
    | cons c cs=>
     simp at h;subst h;refine ⟨vs 0,?_,by simpa using f 0 sm⟩;have:=d 0 sm;simp only[Nat.add_zero] at this
     simp[Instr.loadAt,Instr.sureAddr,loadVar,cc5 p,this]
   | true=>
    cases q:szT P t with
    | none=>rw[q] at e;cases e
    | some n=>
     rw[q] at e;cases e;simp only at h;split at h
     .rename_i y;cases h;refine ⟨.agg ((List.range n).map vs).toArray,?_,.agg _ _ (by simp;omega) (λi hi=>?_)⟩
      .have s:=run_loadCells (P:=P) (w:=w) ⟨b,o,zb⟩ n vs (λj z=>by rw[ba6];exact d j om);simp[Instr.loadAt,Instr.sureAddr,loadVar,cc5 p,run_sizeOf q,s]
      .simp at hi;have k:i<n:=om;rw[getD_take' _ _ _ _ k];have:=f i om
       simpa [zc,k] using this
     .cases h
def ci9 (n:Nat):IV->Option IV
 | .ab5 cs=>za (.ab5 (cs.drop n))
 | .ptr id off=>za (.ptr id (off+n))
 | _=>zb
def eu3 {s:TypeId}{a:Array Field}{i:Nat}{f:Field}{b:Addr}{m:Nat}(d:P.underlying s=za (.struct a))(hf:a[i]? = za f)
  (c:szT P f.type=za (m+1)):(Instr.fieldAt s (.pointer (za b)) i).run P w=.ok (.pointer (za (b.add f.offset))) w:=by
 simp[Instr.fieldAt,run_underlying d,hf,Instr.sureAddr,fieldPlace,run_sizeOf c]
def dm2 {n:Nat}{a v:IV}{r:Value}(h:ci9 n a=za v)(f:VR ρ w a r) :
  ∃c:Addr,r=.pointer (za c)/\VR ρ w v (.pointer (za (c.add n))):=by
 cases f with
 | ab5 cs b o vs hf hc hv=>
  simp[ci9] at h;subst h;refine ⟨⟨b,o,zb⟩,rfl,?_⟩;rw[ba6];refine .ab5 _ b (o+n) (λj=>vs (n+j)) hf (λj e=>?_) (λj e=>?_)
  .simp at e;rw[ze];exact hc (n+j) om
  .simp at e;rw[an9]
   exact hv (n+j) om
 | ptr id off B d hi=>
  simp[ci9] at h;subst h
  exact ⟨⟨B,d+off,zb⟩,rfl,by rw[ba6,ze];exact .ptr id (off+n) B d hi⟩
 | cx4 id off c hi=>
  simp[ci9] at h;subst h
  exact ⟨c,rfl,.cx4 id (off+n) _ hi⟩
 | _=>simp[ci9] at h
def bi7 (agg:Option Nat)(off:Nat)(cs:List IV):Option IV :=
 match agg with
 | none=>cs[off]?
 | some n=>if off+n<=cs.length then za (.agg ((cs.drop off).take n)) else zb
def ay9 {t:TypeId}{d:Option Nat}{off:Nat}{cs:List IV}{c:Array Value}{v:IV}(a:aq5 P t=za d)(h:bi7 d off cs=za v)
  (p:cs.length=c.size) (k:∀i,i<cs.length->VR ρ w (cs.getD i .undef) (c.getD i undef)):∃x,(part t c off).run P w=.ok x w/\VR ρ w v x:=by
 unfold aq5 at a
 cases e:fg6 P t with
 | none=>rw[e] at a;cases a
 | some g=>
  rw[e] at a
  cases g with
  | false=>
   cases a;simp only[bi7] at h;have⟨j,hc⟩:=zh.1 h;have m:=k off j;have b:off<c.size:=om;rw[ae3 _ _ _ b,zd,h] at m
   exact ⟨c[off],by simp[part,cc5 e,zn b],m⟩
  | true=>
   cases f:szT P t with
   | none=>rw[f] at a;cases a
   | some n=>
    rw[f] at a;cases a;simp only[bi7] at h;split at h
    .rename_i o;cases h;refine ⟨_,by simp[part,cc5 e,run_sizeOf f];rfl,.agg _ _ (by simp;omega) (λi hi=>?_)⟩;simp at hi;rw[getD_take' _ _ _ _ om,an9];have:=k (off+i) om;rw[ae3 _ _ _ om] at this;rw[ae3 _ _ _ (by simp;omega)]
     simpa using this
    .cases h
def jt3 (agg:Option Nat)(off:Nat):IV->Option IV
 | .agg cs=>bi7 agg off cs
 | _=>zb
def gm9 {s:TypeId}{b:Array Field}{i:Nat}{f:Field}{agg:Option Nat}{a v:IV}{r:Value}(e:P.underlying s=za (.struct b))(hf:b[i]? = za f)
  (g:aq5 P f.type=za agg) (h:jt3 agg f.offset a=za v) (j:VR ρ w a r):∃x,(Instr.field s r i).run P w=.ok x w/\VR ρ w v x:=by
 cases j with
 | agg cs rs hl hv=>
  simp only[jt3] at h;have⟨x,d,c⟩:=ay9 g h hl hv
  exact ⟨x,by simp[Instr.field,run_underlying e,hf,asAgg,d],c⟩
 | _=>simp[jt3] at h
def av5 (esz:Nat):IV->IV->Option IV
 | .aa2 es,.int _ i=>if 0<=i/\i<es.length/\(es.getD i.toNat []).length=esz then za (.ab5 (es.getD i.toNat [])) else zb
 | .slice id off len e,.int _ i=>if 0<=i/\i<len/\e=esz then za (.ptr id (off+i.toNat*esz)) else zb
 | .ag6 id off len e,.int _ i=>if 0<=i/\i<len/\e=esz then za (.ptr id (off+i.toNat*esz)) else zb
 | _,_=>zb
def eu4 {t m:TypeId}{esz:Nat}{a i v:IV}{z y:Value}(q:P.underlying t=za (.slice m))
  (p:szT P m=za esz) (h:av5 esz a i=za v) (E:VR ρ w a z) (hi:VR ρ w i y):∃x,(Instr.indexAt t z y).run P w=.ok x w/\VR ρ w v x:=by
 cases E with
 | ci6=>
  cases hi with
  | int k n => simp only[av5,List.length_nil] at h;split at h<;>rename_i hc
               .omega
               .cases h
  | _=>simp[av5] at h
 | aa2 es b o cap esz' sp vs hf hsz hc hv hle=>
  cases hi with
  | int k n=>
   simp only[av5] at h;split at h
   .rename_i c;have⟨h0,g,F⟩:=c;cases h;have f:n.toNat<es.length:=om;have s:es≠[]:=by intro h0;subst h0;simp at f
    have⟨u,r⟩:=hf s;subst r;have D:esz'=esz:=by rw[<- F,hsz _ f]
    subst D;refine ⟨.pointer (za ⟨b,o+n.toNat*esz',zb⟩),?_,.ab5 _ b _ (λj=>vs n.toNat j) u (λj A=>?_) (λj A=>?_)⟩
    .simp[Instr.indexAt,asIntOf,run_underlying q,run_sizeOf p,h0,g,ba6]
    .rw[ze];exact hc _ f j om
    .exact hv _ f j om
   .cases h
  | _=>simp[av5] at h
 | slice id off len e B d cap rcs el fz hid hb hsz hle=>
  cases hi with
  | int k n=>
   simp only[av5] at h;split at h
   .rename_i c;obtain ⟨h0,g,rfl⟩:=c;cases h;refine ⟨.pointer (za ⟨B,d+off+n.toNat*e,zb⟩),?_,?_⟩
    .simp[Instr.indexAt,asIntOf,run_underlying q,run_sizeOf p,h0,g,ba6]
    .rw[ze];exact .ptr id _ B d hid
   .cases h
  | _=>simp[av5] at h
 | am9 id off e B d a hid=>
  cases hi with
  | int k n=>
   simp only[av5] at h;split at h
   .rename_i c;omega
   .cases h
  | _=>simp[av5] at h
 | am3 id off len e cap ad hid hle=>
  cases hi with
  | int k n=>
   simp only[av5] at h;split at h
   .rename_i c;obtain ⟨h0,g,rfl⟩:=c;cases h;refine ⟨.pointer (za (ad.add (n.toNat*e))),?_,.cx4 id _ _ hid⟩;simp[Instr.indexAt,asIntOf,run_underlying q,run_sizeOf p,h0,g]
   .cases h
  | _=>simp[av5] at h
 | aq6 id off len e ad hid=>
  cases hi with
  | int k n=>
   simp only[av5] at h;split at h
   .rename_i c;obtain ⟨h0,g,rfl⟩:=c;cases h;refine ⟨.pointer (za (ad.add (n.toNat*e))),?_,.cx4 id _ _ hid⟩;simp[Instr.indexAt,asIntOf,run_underlying q,run_sizeOf p,h0,g]
   .cases h
  | _=>simp[av5] at h
 | ag6 id off len e B d rcs el fz hid hb hsz=>
  cases hi with
  | int k n=>
   simp only[av5] at h;split at h
   .rename_i c;obtain ⟨h0,g,rfl⟩:=c;cases h;refine ⟨.pointer (za ⟨B,d+off+n.toNat*e,zb⟩),?_,?_⟩
    .simp[Instr.indexAt,asIntOf,run_underlying q,run_sizeOf p,h0,g,ba6]
    .rw[ze];exact .ptr id _ B d hid
   .cases h
  | _=>simp[av5] at h
 | _=>simp[av5] at h
def dm3 (n esz:Nat):IV->IV->Option IV
 | a,.int _ i=>if 0<=i/\i<n then ci9 (i.toNat*esz) a else zb
 | _,_=>zb
def eu5 {t b:TypeId}{n esz:Nat}{a i v:IV}{d c:Value}(g:P.underlying t=za (.array n b))
  (e:szT P b=za esz) (h:dm3 n esz a i=za v) (o:VR ρ w a d) (hi:VR ρ w i c):∃x,(Instr.indexAt t d c).run P w=.ok x w/\VR ρ w v x:=by
 cases hi with
 | int k m=>
  simp only[dm3] at h;split at h
  .rename_i j;have⟨h0,p⟩:=j;obtain ⟨q,rfl,f⟩:=dm2 h o;refine ⟨_,?_,f⟩;simp[Instr.indexAt,asIntOf,run_underlying g,Instr.sureAddr,run_sizeOf e,h0,p]
  .cases h
 | _=>simp[dm3] at h
def je2 (agg:Option Nat)(n esz:Nat):IV->IV->Option IV
 | .agg cs,.int _ i=>if 0<=i/\i<n then bi7 agg (i.toNat*esz) cs else zb
 | _,_=>zb
def gn1 {t b:TypeId}{agg:Option Nat}{n esz:Nat}{a i v:IV}{e d:Value}(o:P.underlying t=za (.array n b))
  (g:szT P b=za esz) (p:aq5 P b=za agg) (h:je2 agg n esz a i=za v) (q:VR ρ w a e) (hi:VR ρ w i d) :
  ∃x,(Instr.index t e d).run P w=.ok x w/\VR ρ w v x:=by
 cases q with
 | agg cs rs hl hv=>
  cases hi with
  | int k m=>
   simp only[je2] at h;split at h
   .rename_i f;have⟨x,j,c⟩:=ay9 p h hl hv;exact ⟨x,by simp[Instr.index,asIntOf,run_underlying o,run_sizeOf g,f.1,f.2,j],c⟩
   .cases h
  | _=>simp[je2] at h
 | _=>simp[je2] at h
def dy7:IV->IV->Option IV
 | .str s,.int _ i=>if 0<=i then (s[i.toNat]?).map λb=>.int .u8 b.toNat else zb
 | _,_=>zb
def ft3 {t:TypeId}{a i v:IV}{g f:Value}(j:P.underlying t=za .string)
  (h:dy7 a i=za v) (n:VR ρ w a g) (hi:VR ρ w i f):∃x,(Instr.index t g f).run P w=.ok x w/\VR ρ w v x:=by
 cases n with
 | str s=>
  cases hi with
  | int k m=>
   simp only[dy7] at h;split at h
   .rename_i h0
    cases d:s[m.toNat]? with
    | none=>rw[d] at h;cases h
    | some b=>
     rw[d] at h;cases h
     have e:(zg s.toArray)[m.toNat]? = za b:=by
      have c:=(zh.1 d).1;rw[getElem?_pos _ _ (by simpa [size_mk] using c)];have:=(zh.1 d).2;change za (s.toArray[m.toNat]'(by simpa using c))=za b
      simpa using this
     exact ⟨_,by simp[Instr.index,asIntOf,run_underlying j,h0,e],.int _ _⟩
   .cases h
  | _=>simp[dy7] at h
 | _=>simp[dy7] at h
def je3 (i:Nat):IV->Option IV
 | .tuple vs=>vs[i]?
 | _=>zb
def gn2 {i:Nat}{a v:IV}{d:Value}(h:je3 i a=za v)(f:VR ρ w a d):∃x,(Instr.extract d i).run P w=.ok x w/\VR ρ w v x:=by
 cases f with
 | tuple cs rs hl hv=>
  simp only[je3] at h;have⟨c,hc⟩:=zh.1 h;have e:=hv i c;have b:i<rs.size:=om;rw[ae3 _ _ _ b,zd,h] at e
  exact ⟨rs[i],by simp[Instr.extract,zn b],e⟩
 | _=>simp[je3] at h
def ib5 (σ:Store):IV->Option IV
 | .aa5|.ad2|.af7|.am1=>za (.int .i64 0)
 | .aa2 es=>za (.int .i64 es.length)
 | .slice _ _ len _=>za (.int .i64 len)
 | .ag6 _ _ len _=>za (.int .i64 len)
 | .al2 _ _ len _ _=>za (.int .i64 len)
 | .str s=>za (.int .i64 s.length)
 | .map id=>match σ.obj id with
  | some (.map es)=>za (.int .i64 es.length)
  | _=>zb
 | _=>zb
def km4 (P:Program)(t:TypeId):Bool :=
 match P.underlying t with
 | some (.slice _)|some .string|some (.map _ _)=>true
 | _=>false
def gn3 {E:Nat->IV}{σ:Store}{t ty:TypeId}{a v:IV}{m:Value}(hs:Sim E ρ w σ)(i:km4 P t=true) (f:∀u,P.underlying t=za u ->
   (match u,a with|.slice _,.aa5|.slice _,.ad2|.slice _,.af7|.slice _,.aa2 _|.slice _,.slice _ _ _ _|.slice _,.ag6 _ _ _ _|.slice _,.al2 _ _ _ _ _|.string,.str _|.map _ _,.am1|.map _ _,.map _=>true|_,_=>false)=true)
  (h:ib5 σ a=za v) (y:VR ρ w a m):∃x,(Builtin.len_ #[t] ty #[m]).run P w=.ok x w/\VR ρ w v x:=by
 unfold km4 at i
 cases e:P.underlying t with
 | none=>rw[e] at i;cases i
 | some u=>
  have f:=f u e
  cases y with
  | aa5=>cases u<;>simp at f;cases h;exact ⟨_,by simp[Builtin.len_,run_underlying e,goInt],.int _ _⟩
  | ad2 c=>cases u<;>simp at f;cases h;exact ⟨_,by simp[Builtin.len_,run_underlying e,goInt],.int _ _⟩
  | af7 c _=>cases u<;>simp at f;cases h;exact ⟨_,by simp[Builtin.len_,run_underlying e,goInt],.int _ _⟩
  | am1=>cases u<;>simp at f;cases h;exact ⟨_,by simp[Builtin.len_,run_underlying e,goInt],.int _ _⟩
  | str s=>cases u<;>simp at f;cases h;exact ⟨_,by simp[Builtin.len_,run_underlying e,goInt,size_mk],.int _ _⟩
  | aa2 es b o cap esz sp vs hf hsz hc hv hle=>cases u<;>simp at f;cases h;exact ⟨_,by simp[Builtin.len_,run_underlying e,goInt],.int _ _⟩
  | ci6=>cases u<;>simp at f;cases h;exact ⟨_,by simp[Builtin.len_,run_underlying e,goInt],.int _ _⟩
  | slice id off len esz B d cap rcs el fz hid g hsz hle=>cases u<;>simp at f;cases h;exact ⟨_,by simp[Builtin.len_,run_underlying e,goInt],.int _ _⟩
  | am9 id off esz B d a hid=>cases u<;>simp at f;cases h;exact ⟨_,by simp[Builtin.len_,run_underlying e,goInt],.int _ _⟩
  | am3 id off len esz cap ad hid hle=>cases u<;>simp at f;cases h;exact ⟨_,by simp[Builtin.len_,run_underlying e,goInt],.int _ _⟩
  | ag6 id off len esz B d rcs el fz hid g hsz=>cases u<;>simp at f;cases h;exact ⟨_,by simp[Builtin.len_,run_underlying e,goInt],.int _ _⟩
  | aq6 id off len esz ad hid=>cases u<;>simp at f;cases h;exact ⟨_,by simp[Builtin.len_,run_underlying e,goInt],.int _ _⟩
  | al2 id off len room esz B d cap rcs el fz hid g hsz hle hr=>cases u<;>simp at f;cases h;exact ⟨_,by simp[Builtin.len_,run_underlying e,goInt],.int _ _⟩
  | az1 id off len room esz cap ad hid hle hr=>cases u<;>simp at f;cases h;exact ⟨_,by simp[Builtin.len_,run_underlying e,goInt],.int _ _⟩
  | map id B d hid=>
   cases u<;>simp at f;simp only[ib5] at h;have⟨n,q,j⟩:=hs.obj id B d hid;rw[q] at h
   cases n with
   | map es=>
    cases h;have⟨p,k,g,_,r,_⟩:=j
    exact ⟨_,by simp[Builtin.len_,run_underlying e,getObj,Sem.run,g,goInt,r],.int _ _⟩
   | _=>simp at h
  | mapD id B hid=>simp[ib5,hs.dead id hid] at h
  | _=>simp[ib5] at h
def fg8:IV->Option Nat
 | .int _ i=>if 0<=i then za i.toNat else zb
 | _=>zb
def cx3 (d:Nat):Option IV->Option Nat
 | none=>za d
 | some v=>fg8 v
def bs4 {v:IV}{n:Nat}{r:Value}(h:fg8 v=za n)(a:VR ρ w v r):∃k,r=.int k (n:Int):=by
 cases a with
 | int k i=>
  simp only[fg8] at h;split at h
  .cases h;exact ⟨k,by congr 1;omega⟩
  .cases h
 | _=>simp[fg8] at h
def cw2 (lo hi:Option IV):IV->Option IV
 | .str s=>match cx3 0 lo,cx3 s.length hi with
  | some l,za h=>if l<=h/\h<=s.length then za (.str ((s.take h).drop l)) else zb
  | _,_=>zb
 | _=>zb
def OVR (ρ:Rho)(w:World):Option IV->Option Value->Prop
 | none,zb=>True
 | some v,za r=>VR ρ w v r
 | _,_=>False
def eh7 {v:Option IV}{r:Option Value}{n d y:Nat}{c:BoundsCode}(h:cx3 d v=za n)(a:OVR ρ w v r)(b:n<=y) :
  (match r with|some x=>Instr.sliceBound x y c|none=>pure d:Sem Nat).run P w=.ok n w:=by
 cases v with
 | none=>
  cases r with
  | none=>simp_all [cx3]
  | some r=>exact a.elim
 | some v=>
  cases r with
  | none=>simp[OVR] at a
  | some r=>
   simp only[cx3] at h;obtain ⟨k,rfl⟩:=bs4 h a;have:((n:Int)<=(y:Int)):=om;simp[Instr.sliceBound,asIntOf,this]
def ao1 {isSlice:Bool}{len cap l h:Nat}{lo hi:Option IV}{a b:Option Value}(d:cx3 0 lo=za l)(f:cx3 len hi=za h)
  (i:OVR ρ w lo a) (g:OVR ρ w hi b) (e:l<=h) (hc:h<=cap) :
  (Instr.sliceBounds isSlice len cap a b zb).run P w=.ok (l,h,cap) w:=by
 have e2:=eh7 (P:=P) (w:=w) (ρ:=ρ) (c:=if isSlice then .sliceAcap else .sliceAlen) f g hc;have e1:=eh7 (P:=P) (w:=w) (ρ:=ρ) (c:=.sliceB) d i e;cases a<;>cases b<;>simp_all [Instr.sliceBounds]
def ft4 {t:TypeId}{a v:IV}{d:Value}{lo hi:Option IV}{b c:Option Value}(g:P.underlying t=za .string)(h:cw2 lo hi a=za v)
  (m:VR ρ w a d) (o:OVR ρ w lo b) (n:OVR ρ w hi c):∃x,(Instr.sliceAt t d b c zb).run P w=.ok x w/\VR ρ w v x:=by
 cases m with
 | str s=>
  simp only[cw2] at h;split at h
  .rename_i l f i j;split at h
   .rename_i hc;cases h;have k:=ao1 (P:=P) (w:=w) (ρ:=ρ) (isSlice:=false) (cap:=s.length) i j o n hc.1 hc.2;refine ⟨_,?_,.str _⟩
    have e:(zg s.toArray).extract l f=zg ((s.take f).drop l).toArray:=by
     apply z4;simp[List.drop_take]
    simp[Instr.sliceAt,Instr.slice,run_underlying g,size_mk,k,e]
   .cases h
  .cases h
 | _=>simp[cw2] at h
def dj2 (esz:Nat)(lo hi:Option IV):IV->Option IV
 | .aa5=>match cx3 0 lo,cx3 0 hi with
  | some l,za h=>if l=0/\h=0 then za .aa5 else zb
  | _,_=>zb
 | .aa2 es=>match cx3 0 lo,cx3 es.length hi with
  | some l,za h=>if l<=h/\h<=es.length/\es.all (λe=>e.length==esz) then za (.aa2 ((es.take h).drop l)) else zb
  | _,_=>zb
 | .slice id off len e=>match cx3 0 lo,cx3 len hi with
  | some l,za h=>if l<=h/\h<=len/\e=esz then za (.slice id (off+l*esz) (h-l) esz) else zb
  | _,_=>zb
 | .ag6 id off len e=>match cx3 0 lo,cx3 len hi with
  | some l,za h=>if l<=h/\h<=len/\e=esz then za (.slice id (off+l*esz) (h-l) esz) else zb
  | _,_=>zb
 | .al2 id off len room e=>match cx3 0 lo,cx3 len hi with
  | some l,za h=>if l<=h/\h<=room/\e=esz then za (.slice id (off+l*esz) (h-l) esz) else zb
  | _,_=>zb
 | _=>zb
def ft5 {es:List (List IV)}{r:Value}{l h:Nat}(hv:VR ρ w (.aa2 es) r)(h1:l<=h)(h2:h<=es.length)(esz:Nat)(hall:∀e∈es,e.length=esz)(hnn:r≠.slice zb 0 0) :
  ∃b o cap sp,r=.slice (za ⟨b,o,sp⟩) es.length cap/\es.length<=cap /\
   VR ρ w (.aa2 ((es.take h).drop l)) (.slice (if cap=l then za ⟨b,o,sp⟩ else (za (⟨b,o,sp⟩:Addr)).map (·.add (l*esz))) (h-l) (cap-l)):=by
 cases hv with
 | ci6=>exact absurd rfl hnn
 | aa2 es b o cap esz' sp vs hf hsz hc hv hle=>
  refine ⟨b,o,cap,sp,rfl,hle,?_⟩;have hlen:((es.take h).drop l).length=h-l:=by simp;omega
  by_cases hcl:cap=l
  .have h0:(es.take h).drop l=[]:=List.drop_of_length_le (by simp;omega);have hz:h-l=0:=om;rw[h0,hz];simp only[hcl,if_true,Nat.sub_self];exact VR.aa2 [] b o 0 0 sp (λ_ _=>.nilIface) (λhn=>absurd rfl hn) (λi hi=>by simp at hi) (λi hi=>by simp at hi) (λi hi=>by simp at hi) (by simp)
  .simp only[hcl,if_false,Option.map_some];by_cases he:(es.take h).drop l=[]
   .rw[he];have hz:h-l=0:=by rw[<- hlen,he];rfl
    rw[hz]
    have:(⟨b,o,sp⟩:Addr).add (l*esz)=⟨b,((⟨b,o,sp⟩:Addr).add (l*esz)).off,((⟨b,o,sp⟩:Addr).add (l*esz)).spot⟩:=by
     unfold Addr.add;split<;>rfl
    rw[this];exact VR.aa2 [] b _ _ 0 _ (λ_ _=>.nilIface) (λhn=>absurd rfl hn) (λi hi=>by simp at hi) (λi hi=>by simp at hi) (λi hi=>by simp at hi) (by simp)
   .have hpos:l<h:=by
     rcases Nat.lt_or_ge l h with h'|h'
     .exact h'
     .exact absurd (List.eq_nil_of_length_eq_zero (by rw[hlen];omega)) he
    have hne:es≠[]:=by intro h0;subst h0;simp at h2;omega
    obtain ⟨hf1,rfl⟩:=hf hne
    have hee:esz'=esz:=by
     have h0:0<es.length:=om;rw[<- hsz 0 h0];refine hall _ ?_;rw[zd,List.getElem?_eq_getElem h0];exact List.getElem_mem _
    subst hee;rw[ba6]
    have hg:∀i,i<h-l->((es.take h).drop l).getD i []=es.getD (l+i) []:=λi hi=>by
     rw[an9,getD_take' _ _ _ _ om]
    have hx:h-l=((es.take h).drop l).length:=hlen.symm;rw[hx];refine VR.aa2 _ b _ _ esz' zb (λi j=>vs (l+i) j) (λ_=>⟨hf1,rfl⟩) (λi hi=>?_) (λi hi j hj=>?_) (λi hi j hj=>?_) (by rw[hlen];omega)
    .rw[hlen] at hi;rw[hg i hi];exact hsz _ om
    .rw[hlen] at hi;have:=hc (l+i) om j hj;rw[zv] at this;rw[<- this];congr 2;omega
    .rw[hlen] at hi;rw[hg i hi];exact hv _ om j hj
def gn4 {t u:TypeId}{esz:Nat}{a v:IV}{F:Value}{lo hi:Option IV}{y z:Option Value}
  (q:P.underlying t=za (.slice u)) (p:szT P u=za esz) (h:dj2 esz lo hi a=za v)
  (L:VR ρ w a F) (s:OVR ρ w lo y) (r:OVR ρ w hi z):∃x,(Instr.sliceAt t F y z zb).run P w=.ok x w/\VR ρ w v x:=by
 cases L with
 | aa5=>
  simp only[dj2] at h;split at h
  .rename_i l j f g;split at h
   .rename_i hc;obtain ⟨rfl,rfl⟩:=hc;cases h;have i:=ao1 (P:=P) (w:=w) (ρ:=ρ) (isSlice:=true) (len:=0) (cap:=0) f g s r (zo _) (Nat.zero_le _);refine ⟨.slice zb 0 0,?_,.aa5⟩;simp[Instr.sliceAt,Instr.slice,run_underlying q,i,run_sizeOf p]
   .cases h
  .cases h
 | ci6=>
  simp only[dj2] at h;split at h
  .rename_i l j f g;split at h
   .rename_i hc;have⟨k,m,_⟩:=hc;simp only[List.length_nil,Nat.le_zero] at m;subst m;have E:l=0:=om;subst E;cases h;have i:=ao1 (P:=P) (w:=w) (ρ:=ρ) (isSlice:=true) (len:=0) (cap:=0) f g s r (zo _) (Nat.zero_le _);refine ⟨.slice zb 0 0,?_,.ci6⟩;simp[Instr.sliceAt,Instr.slice,run_underlying q,i,run_sizeOf p]
   .cases h
  .cases h
 | aa2 es b o cap esz' sp vs hf hsz hc hv hle=>
  simp only[dj2] at h;split at h
  .rename_i l j f g;split at h
   .rename_i c;have⟨k,m,M⟩:=c;cases h;have i:=ao1 (P:=P) (w:=w) (ρ:=ρ) (isSlice:=true) (cap:=cap) f g s r k om
    have⟨Q,N,I,J,A,H,D⟩:=ft5 (.aa2 es b o cap esz' sp vs hf hsz hc hv hle) k m esz (λe K=>by
     have:=zt.1 M e K;simpa using this) (λe=>by cases e)
    simp only[Value.slice.injEq,za.injEq,Addr.mk.injEq,true_and] at A;obtain ⟨⟨rfl,rfl,rfl⟩,rfl⟩:=A;refine ⟨_,?_,D⟩;simp[Instr.sliceAt,Instr.slice,run_underlying q,i,run_sizeOf p]
   .cases h
  .cases h
 | slice id off len e B d cap rcs el fz hid hbk hsz hle=>
  simp only[dj2] at h;split at h
  .rename_i l j f g;split at h
   .rename_i c;obtain ⟨k,m,rfl⟩:=c;cases h;have i:=ao1 (P:=P) (w:=w) (ρ:=ρ) (isSlice:=true) (cap:=cap) f g s r k om;refine ⟨.slice (za (if cap=l then ⟨B,d+off,zb⟩ else ⟨B,d+off+l*e,zb⟩)) (j-l) (cap-l),?_,?_⟩
    .simp[Instr.sliceAt,Instr.slice,run_underlying q,i,run_sizeOf p,ba6,apply_ite]
    .by_cases n:cap=l
     .have e1:j-l=0:=om;have e2:cap-l=0:=om;rw[e1,e2];exact .am9 id _ e B d _ hid
     .simp only[n,if_false];rw[ze];refine .slice id _ _ e B d _ rcs el fz hid hbk ?_ om;have:(cap-l)*e+l*e=cap*e:=by rw[<- zv];congr 1;omega
      omega
   .cases h
  .cases h
 | am9 id off e B d a hid=>
  simp only[dj2] at h;split at h
  .rename_i l j f g;split at h
   .rename_i c;obtain ⟨k,m,rfl⟩:=c;cases h;have i:=ao1 (P:=P) (w:=w) (ρ:=ρ) (isSlice:=true) (cap:=0) f g s r k m;have e1:l=0:=om;have e2:j=0:=om;subst e1;subst e2;refine ⟨.slice (za a) 0 0,?_,.am9 id _ e B d a hid⟩;simp[Instr.sliceAt,Instr.slice,run_underlying q,i,run_sizeOf p]
   .cases h
  .cases h
 | am3 id off len e cap ad hid hle=>
  simp only[dj2] at h;split at h
  .rename_i l j f g;split at h
   .rename_i c;obtain ⟨k,m,rfl⟩:=c;cases h;have i:=ao1 (P:=P) (w:=w) (ρ:=ρ) (isSlice:=true) (cap:=cap) f g s r k om;refine ⟨.slice (za (if cap=l then ad else ad.add (l*e))) (j-l) (cap-l),?_,.am3 id _ _ e _ _ hid om⟩;simp[Instr.sliceAt,Instr.slice,run_underlying q,i,run_sizeOf p,apply_ite]
   .cases h
  .cases h
 | aq6 id off len e ad hid=>
  simp only[dj2] at h;split at h
  .rename_i l j f g;split at h
   .rename_i c;obtain ⟨k,m,rfl⟩:=c;cases h;have i:=ao1 (P:=P) (w:=w) (ρ:=ρ) (isSlice:=true) (cap:=len) f g s r k om;refine ⟨.slice (za (if len=l then ad else ad.add (l*e))) (j-l) (len-l),?_,.am3 id _ _ e _ _ hid om⟩;simp[Instr.sliceAt,Instr.slice,run_underlying q,i,run_sizeOf p,apply_ite]
   .cases h
  .cases h
 | ag6 id off len e B d rcs el fz hid hbk hsz=>
  simp only[dj2] at h;split at h
  .rename_i l j f g;split at h
   .rename_i c;obtain ⟨k,m,rfl⟩:=c;cases h;have i:=ao1 (P:=P) (w:=w) (ρ:=ρ) (isSlice:=true) (cap:=len) f g s r k om;refine ⟨.slice (za (if len=l then ⟨B,d+off,zb⟩ else ⟨B,d+off+l*e,zb⟩)) (j-l) (len-l),?_,?_⟩
    .simp[Instr.sliceAt,Instr.slice,run_underlying q,i,run_sizeOf p,ba6,apply_ite]
    .by_cases n:len=l
     .have e1:j-l=0:=om;have e2:len-l=0:=om;rw[e1,e2];exact .am9 id _ e B d _ hid
     .simp only[n,if_false];rw[ze];refine .slice id _ _ e B d _ rcs el fz hid hbk ?_ om;have:(len-l)*e+l*e=len*e:=by rw[<- zv];congr 1;omega
      omega
   .cases h
  .cases h
 | az1 id off len room e cap ad hid hle hr=>
  simp only[dj2] at h;split at h
  .rename_i l j f g;split at h
   .rename_i c;obtain ⟨k,m,rfl⟩:=c;cases h;have i:=ao1 (P:=P) (w:=w) (ρ:=ρ) (isSlice:=true) (cap:=cap) f g s r k om;refine ⟨.slice (za (if cap=l then ad else ad.add (l*e))) (j-l) (cap-l),?_,.am3 id _ _ e _ _ hid om⟩;simp[Instr.sliceAt,Instr.slice,run_underlying q,i,run_sizeOf p,apply_ite]
   .cases h
  .cases h
 | al2 id off len room e B d cap rcs el fz hid hbk hsz hle hr=>
  simp only[dj2] at h;split at h
  .rename_i l j f g;split at h
   .rename_i c;obtain ⟨k,m,rfl⟩:=c;cases h;have i:=ao1 (P:=P) (w:=w) (ρ:=ρ) (isSlice:=true) (cap:=cap) f g s r k om;refine ⟨.slice (za (if cap=l then ⟨B,d+off,zb⟩ else ⟨B,d+off+l*e,zb⟩)) (j-l) (cap-l),?_,?_⟩
    .simp[Instr.sliceAt,Instr.slice,run_underlying q,i,run_sizeOf p,ba6,apply_ite]
    .by_cases n:cap=l
     .have e1:j-l=0:=om;have e2:cap-l=0:=om;rw[e1,e2];exact .am9 id _ e B d _ hid
     .simp only[n,if_false];rw[ze];refine .slice id _ _ e B d _ rcs el fz hid hbk ?_ om;have:(cap-l)*e+l*e=cap*e:=by rw[<- zv];congr 1;omega
      omega
   .cases h
  .cases h
 | _=>simp[dj2] at h
end Go.Id
namespace Go.Id
open Go
variable {P:Program} {w:World} {ρ:Rho}
def ib6:IV->Option IV
 | .aa5=>za .aa5
 | .ad2=>za .ad2
 | .af7=>za .ad2
 | .aa2 es=>if es=[] then za (.aa2 []) else za .ad2
 | .slice _ _ _ _=>za .ad2
 | .ag6 _ _ _ _=>za .ad2
 | _=>zb
def gn5 {t elem:TypeId}{esz:Nat}{a v:IV}{ra:Value}{k1 k2:IntKind}
  (hu:P.underlying t=za (.slice elem)) (hz:szT P elem=za esz) (h:ib6 a=za v) (ha:VR ρ w a ra) :
  ∃x,(Instr.sliceAt t ra zb (za (.int k1 0)) (za (.int k2 0))).run P w=.ok x w/\VR ρ w v x:=by
 have hb:∀len cap:Nat,(Instr.sliceBounds true len cap zb (za (.int k1 0)) (za (.int k2 0))).run P w=.ok (0,0,0) w:=λlen cap=>by
  simp[Instr.sliceBounds,Instr.sliceBound,asIntOf]
 cases ha with
 | aa5=>cases h;exact ⟨_,by simp[Instr.sliceAt,Instr.slice,run_underlying hu,hb,run_sizeOf hz],.aa5⟩
 | ad2 c=>cases h;exact ⟨_,by simp[Instr.sliceAt,Instr.slice,run_underlying hu,hb,run_sizeOf hz];rfl,.ad2 _⟩
 | af7 c _=>cases h;exact ⟨_,by simp[Instr.sliceAt,Instr.slice,run_underlying hu,hb,run_sizeOf hz];rfl,.ad2 _⟩
 | ci6=>cases h;exact ⟨_,by simp[Instr.sliceAt,Instr.slice,run_underlying hu,hb,run_sizeOf hz],.ci6⟩
 | aa2 es b o cap esz sp vs hf hsz hc hv hle=>
  simp only[ib6] at h;split at h
  .cases h;exact ⟨_,by simp[Instr.sliceAt,Instr.slice,run_underlying hu,hb,run_sizeOf hz];rfl,by
    have:=VR.aa2 (ρ:=ρ) (w:=w) [] b o 0 0 sp (λ_ _=>.nilIface) (λhn=>absurd rfl hn) (λi hi=>by simp at hi) (λi hi=>by simp at hi) (λi hi=>by simp at hi) sm;exact this⟩
  .cases h;exact ⟨_,by simp[Instr.sliceAt,Instr.slice,run_underlying hu,hb,run_sizeOf hz];rfl,.ad2 _⟩
 | slice id off len e B d cap rcs el fz hid hbk hsz hle=>cases h;exact ⟨_,by simp[Instr.sliceAt,Instr.slice,run_underlying hu,hb,run_sizeOf hz];rfl,.ad2 _⟩
 | am9 id off e B d a hid=>cases h;exact ⟨_,by simp[Instr.sliceAt,Instr.slice,run_underlying hu,hb,run_sizeOf hz];rfl,.ad2 _⟩
 | am3 id off len e cap ad hid hle=>cases h;exact ⟨_,by simp[Instr.sliceAt,Instr.slice,run_underlying hu,hb,run_sizeOf hz];rfl,.ad2 _⟩
 | ag6 id off len e B d rcs el fz hid hbk hsz=>cases h;exact ⟨_,by simp[Instr.sliceAt,Instr.slice,run_underlying hu,hb,run_sizeOf hz];rfl,.ad2 _⟩
 | aq6 id off len e ad hid=>cases h;exact ⟨_,by simp[Instr.sliceAt,Instr.slice,run_underlying hu,hb,run_sizeOf hz];rfl,.ad2 _⟩
 | _=>simp[ib6] at h
def id9 (d:TypeDesc):IV->Option Bool
 | .ag2=>match d with|.pointer _=>za true|_=>zb
 | .ab5 _=>match d with|.pointer _=>za false|_=>zb
 | .ptr _ _=>match d with|.pointer _=>za false|_=>zb
 | .aa5=>match d with|.slice _=>za true|_=>zb
 | .ad2=>match d with|.slice _=>za false|_=>zb
 | .af7=>match d with|.slice _=>za false|_=>zb
 | .aa2 es=>if es=[] then zb else match d with|.slice _=>za false|_=>zb
 | .slice _ _ _ _=>match d with|.slice _=>za false|_=>zb
 | .am1=>match d with|.map _ _=>za true|_=>zb
 | .map _=>match d with|.map _ _=>za false|_=>zb
 | .ai8=>match d with|.func _ _ _=>za true|_=>zb
 | .func _ _ _=>match d with|.func _ _ _=>za false|_=>zb
 | _=>zb
def ix8:IV->IV
 | .ag6 i o l e=>.slice i o l e
 | .al2 i o l _ e=>.slice i o l e
 | v=>v
def gn6 {v:IV}{r:Value}(h:VR ρ w v r):VR ρ w (ix8 v) r:=by
 cases h with
 | ag6 id off len esz B d rcs el fz hi hb hsz=>exact .slice id off len esz B d len rcs el fz hi hb hsz (zo _)
 | aq6 id off len esz ad hi=>exact .am3 id off len esz len ad hi (zo _)
 | al2 id off len room esz B d cap rcs el fz hi hb hsz hle hr=>exact .slice id off len esz B d cap rcs el fz hi hb hsz (zr hle hr)
 | az1 id off len room esz cap ad hi hle hr=>exact .am3 id off len esz cap ad hi (zr hle hr)
 | undef r=>exact .undef r
 | bool b=>exact .bool b
 | int k n=>exact .int k n
 | str s=>exact .str s
 | ag2=>exact .ag2
 | ptr id off B d h=>exact .ptr id off B d h
 | cx4 id off ad h=>exact .cx4 id off ad h
 | ab5 cs b o vs hf hc hv=>exact .ab5 cs b o vs hf hc hv
 | aa5=>exact .aa5
 | ad2 a=>exact .ad2 a
 | af7 a c=>exact .af7 a c
 | slice id off len esz B d cap rcs el fz h hb hsz hle=>exact .slice id off len esz B d cap rcs el fz h hb hsz hle
 | am9 id off esz B d a h=>exact .am9 id off esz B d a h
 | am3 id off len esz cap ad h hle=>exact .am3 id off len esz cap ad h hle
 | aa2 es b o cap esz sp vs hf hsz hc hv hle=>exact .aa2 es b o cap esz sp vs hf hsz hc hv hle
 | ci6=>exact .ci6
 | am1=>exact .am1
 | map id B d h=>exact .map id B d h
 | mapD id B h=>exact .mapD id B h
 | am2 es es' b mes clock hp hd hf hb hl hk hv h4 h5=>exact .am2 es es' b mes clock hp hd hf hb hl hk hv h4 h5
 | func fn first cap rf rc hy h1 h2 hf hc=>exact .func fn first cap rf rc hy h1 h2 hf hc
 | yield id B d h=>exact .yield id B d h
 | bd9 id B h=>exact .bd9 id B h
 | ai8=>exact .ai8
 | iface t v r h=>exact .iface t v r h
 | ah6=>exact .ah6
 | agg cs rs h hv=>exact .agg cs rs h hv
 | tuple cs rs h hv=>exact .tuple cs rs h hv
def ci5 (d:TypeDesc)(v:IV):Option Bool:=id9 d (ix8 v)
def ft6:TypeDesc->Option Value
 | .pointer _=>za (.pointer zb)
 | .slice _=>za (.slice zb 0 0)
 | .map _ _=>za (.map zb)
 | .func _ _ _=>za .nilFunc
 | _=>zb
def ft7 {t:TypeId}{d:TypeDesc}{op:BinOp}{x y:Operand}{a:IV}{c f:Value}{b:Bool}
  (k:P.underlying t=za d) (e:ft6 d=za f) (g:op=.eql\/op=.neq) (h:id9 d a=za b) (j:VR ρ w a c) :
  (do eqGuard op t x y c f;binOp op t c f:Sem Value).run P w=.ok (.bool (if op=.eql then b else !b)) w:=by
 have m:(eqGuard op t x y c f).run P w=.ok () w:=by
  unfold eqGuard;rcases g with rfl|rfl<;>cases d<;>simp[ft6] at e<;>subst e<;>cases c<;>rfl
 simp only[Sem.run_bind,m,Result.andThen_ok]
 have i:(Op.equal t c f).run P w=.ok b w:=by
  unfold Op.equal Op.maxDepth Op.equalIn;cases j<;>cases d<;>simp[ft6] at e<;>(try subst e)<;>simp[id9] at h<;>simp[run_underlying k,h]
 rcases g with rfl|rfl<;>cases d<;>simp[ft6] at e<;>subst e<;>cases j<;>simp[id9] at h<;>simp[binOp,i]
def gn7 {t:TypeId}{d:TypeDesc}{op:BinOp}{x y:Operand}{a:IV}{e c:Value}{b:Bool}
  (g:P.underlying t=za d) (i:ft6 d=za c) (f:op=.eql\/op=.neq) (h:ci5 d a=za b) (j:VR ρ w a e) :
  (do eqGuard op t x y e c;binOp op t e c:Sem Value).run P w=.ok (.bool (if op=.eql then b else !b)) w :=
 ft7 g i f h (gn6 j)
def al1:Nat->IV->IV->Option Bool
 | 0,.bool a,.bool b=>za (a==b)
 | 1,.int k a,.int k' b=>if k=k' then za (decide (a=b)) else zb
 | 2,.str a,.str b=>za (decide (a=b))
 | _,_,_=>zb
def allEq:List Nat->List IV->List IV->Option Bool
 | [],[],[]=>za true
 | t::ts,x::xs,y::ys=>match al1 t x y,allEq ts xs ys with
  | some a,za b=>za (a&&b)
  | _,_=>zb
 | _,_,_=>zb
def dj3 (P:Program)(g:TypeId->Option (List Nat)):List Field->Nat->Option (List Nat)
 | [],_=>za []
 | f::fs,off=>
  if f.name ≠ "_" ∧ f.offset = off then
   match g f.type,aq5 P f.type with
   | some l,za zb=>if l.length=1 then (dj3 P g fs (off+1)).map (l++·) else zb
   | some l,za (za n)=>if n=l.length/\l.length≠0 then (dj3 P g fs (off+l.length)).map (l++·) else zb
   | _,_=>zb
  else zb
def cw3 (P:Program):Nat->TypeId->Option (List Nat)
 | 0,_=>zb
 | d+1,t=>match P.underlying t with
  | some .bool=>za [0]
  | some (.int _)=>za [1]
  | some .string=>za [2]
  | some (.struct fs)=>if P.stoodInHeld t then zb else dj3 P (cw3 P d) fs.toList 0
  | some (.array n e)=>match P.underlying e with
   | some (.int _)=>if szT P e=za 1/\0<d then za (zf n 1) else zb
   | _=>zb
  | _=>zb
def eh8 {c g:List Nat}{xs d:List IV}{b:Bool}(h:allEq (c++g) xs d=za b) :
  ∃f e,allEq c (xs.take c.length) (d.take c.length)=za f/\allEq g (xs.drop c.length) (d.drop c.length)=za e/\b=(f&&e):=by
 induction c generalizing xs d b with
 | nil=>exact ⟨true,b,by simp[allEq],by simpa using h,by simp⟩
 | cons t ts ih=>
  cases xs with
  | nil=>simp[allEq] at h
  | cons x xs=>
   cases d with
   | nil=>simp[allEq] at h
   | cons y d=>
    simp only[List.cons_append,allEq] at h;split at h
    .rename_i a k j i;cases h;obtain ⟨f,e,e1,e2,rfl⟩:=ih i;refine ⟨a&&f,e,?_,by simpa using e2,by rw[Bool.and_assoc]⟩;simp[allEq,j,e1]
    .cases h
def allEq_len {ts:List Nat}{xs c:List IV}{b:Bool}(h:allEq ts xs c=za b):xs.length=ts.length/\c.length=ts.length:=by
 induction ts generalizing xs c b with
 | nil=>cases xs<;>cases c<;>simp[allEq] at h ⊢
 | cons t ts ih=>
  cases xs with
  | nil=>simp[allEq] at h
  | cons x xs=>
   cases c with
   | nil=>simp[allEq] at h
   | cons y c=>
    simp only[allEq] at h;split at h
    .rename_i a f e d;have:=ih d;simp[this]
    .cases h
def IV.cs:IV->List IV
 | .agg xs=>xs
 | v=>[v]
def IV.bx9 {v:IV}(h:∀zs,v≠.agg zs):v.cs=[v]:=by
 cases v<;>first|rfl|exact absurd rfl (h _)
def eu6 (t:Nat)(zs:List IV)(y:IV):al1 t (.agg zs) y=zb:=by
 unfold al1;split<;>first|rfl|contradiction
def eu7 (t:Nat)(zs:List IV)(x:IV):al1 t x (.agg zs)=zb:=by
 unfold al1;split<;>first|rfl|contradiction
def da7 {t:Nat}{x y:IV}{b:Bool}(h:allEq [t] [x] [y]=za b):al1 t x y=za b:=by
 simp only[allEq] at h;split at h
 .rename_i a c e d;cases d;simpa [e] using h
 .cases h
def ie1 {x y:IV}{b:Bool}(h:al1 0 x y=za b):∃a c,x=.bool a/\y=.bool c/\b=(a==c):=by
 unfold al1 at h;split at h<;>simp_all
def dy8 {x y:IV}{b:Bool}(h:al1 1 x y=za b):∃k a c,x=.int k a/\y=.int k c/\b=decide (a=c):=by
 unfold al1 at h;split at h
 case h_2 k a k' c=>
  split at h
  .rename_i d;subst d;cases h;exact ⟨_,_,_,rfl,rfl,rfl⟩
  .cases h
 all_goals first|contradiction|(exfalso;simp_all;done)
def ie2 {x y:IV}{b:Bool}(h:al1 2 x y=za b):∃a c,x=.str a/\y=.str c/\b=decide (a=c):=by
 unfold al1 at h;split at h<;>simp_all
def jv4 {t e:TypeId}{k:IntKind}{n:Nat}(A:P.underlying t=za (.array n e))(H:P.underlying e=za (.int k))(B:szT P e=za 1){d:Nat}{xs f:List IV}{j g:Array Value}{b:Bool}(hd:0<d)
  (S:xs.length=j.size) (Q:f.length=g.size) (L:∀i,i<xs.length->VR ρ w (xs.getD i .undef) (j.getD i undef)) (K:∀i,i<f.length->VR ρ w (f.getD i .undef) (g.getD i undef))
  (U:allEq (zf n 1) xs f=za b) :
  (Op.equalIn (d+1) t (.agg j) (.agg g)).run P w=.ok b w:=by
 have q:aq5 P e=za zb:=by simp[aq5,fg6,H]
 simp only[Op.equalIn,Sem.run_bind,run_underlying A,Result.andThen_ok,run_sizeOf B,_root_.Std.Legacy.Range.forIn_eq_forIn_range',_root_.Std.Legacy.Range.size,Nat.sub_zero,z6,Nat.div_one,Nat.mul_one]
 have s:∀(m off:Nat) (b:Bool),allEq (zf m 1) (xs.drop off) (f.drop off)=za b ->
   (forIn (m:=Sem) (List.range' off m) ((zb,()):Option Bool×Unit) λi aa=>do
      let __do_lift <- part e j i;let __do_lift_1 <- part e g i;let __do_lift <- Op.equalIn d e __do_lift __do_lift_1
      if (!__do_lift)=true then pure (ForInStep.done (za false,())) else pure (ForInStep.yield (zb,()))).run P w=.ok (if b then zb else za false,()) w:=by
  intro m
  induction m with
  | zero=>
   intro off b h;rw[List.replicate_zero] at h;cases z:xs.drop off<;>cases u:f.drop off<;>rw[z,u] at h<;>simp[allEq] at h;subst h
   simp
  | succ m ih=>
   intro off b h;rw[zq] at h;have⟨N,M⟩:=allEq_len h;simp only[List.length_drop,List.length_cons,List.length_replicate] at N M;have J:off<xs.length:=om;have I:off<f.length:=om;rw[zi J,zi I] at h;simp only[allEq] at h;split at h
   .rename_i b1 b2 W V;cases h;have⟨x,E,p⟩:=ay9 (P:=P) q (show bi7 zb off xs=za xs[off] by simp[bi7,J]) S L;have⟨y,D,o⟩:=ay9 (P:=P) q (show bi7 zb off f=za f[off] by simp[bi7,I]) Q K;obtain ⟨F,a,c,Y,X,rfl⟩:=dy8 W;rw[Y] at p;rw[X] at o;cases p;cases o
    have T:(Op.equalIn d e (.int F a) (.int F c)).run P w=.ok (decide (a=c)) w:=by
     obtain ⟨d,rfl⟩:∃m,d=m+1:=⟨d-1,om⟩;simp[Op.equalIn,run_underlying H,da6]
    simp only[List.range'_succ,List.forIn_cons,Sem.run_bind,E,D,T,Result.andThen_ok];by_cases r:a=c
    .have:=ih (off+1) b2 V;simp only[r,decide_true,Bool.not_true,zm,if_false,Sem.run_pure,Result.andThen_ok,Bool.true_and];exact this
    .simp[r]
   .cases h
 rw[s n 0 b (by simpa using U)];cases b<;>simp
def kw1 (P:Program)(d:Nat)(t:TypeId)(tags:List Nat):Prop :=
 ∀(ρ:Rho) (w:World) (e:Nat) (x y:IV) (rx ry:Value) (b:Bool),VR ρ w x rx->VR ρ w y ry->(match aq5 P t with|some zb=>(∀zs,x≠.agg zs)/\(∀zs,y≠.agg zs)|some (za _)=>(∃xs,x=.agg xs)/\∃ys,y=.agg ys|none=>False) ->
  allEq tags x.cs y.cs=za b->(Op.equalIn (e+d) t rx ry).run P w=.ok b w
def dj4 {d e:Nat}{g:TypeId->Option (List Nat)}(hg:∀t a,g t=za a->kw1 P d t a){xs c:List IV}{p o:Array Value}
  (hx:xs.length=p.size) (hy:c.length=o.size) (S:∀i,i<xs.length->VR ρ w (xs.getD i .undef) (p.getD i undef)) (Q:∀i,i<c.length->VR ρ w (c.getD i .undef) (o.getD i undef)) :
  ∀(q:List Field) (off:Nat) (a:List Nat) (b:Bool),dj3 P g q off=za a->allEq a (xs.drop off) (c.drop off)=za b ->
   (Op.eqFields (e+d) p o q).run P w=.ok b w:=by
 intro q
 induction q with
 | nil=>
  intro off a b hf h;cases hf;cases I:xs.drop off<;>cases H:c.drop off<;>rw[I,H] at h<;>simp[allEq] at h;subst h
  simp[Op.eqFields]
 | cons f q ih=>
  intro off a b hf h;simp only[dj3] at hf;split at hf
  case isFalse=>cases hf
  rename_i B;obtain ⟨B,rfl⟩:=B
  have r:∀(l ts:List Nat) (k:Option Nat),g f.type=za l->aq5 P f.type=za k->(k.getD 1=l.length)->(∀n,k=za n->l.length≠0)->dj3 P g q (f.offset+l.length)=za ts->a=l++ts ->
    (Op.eqFields (e+d) p o (f::q)).run P w=.ok b w:=by
   intro l ts k D s j J x u;subst u;obtain ⟨L,b2,e1,e2,rfl⟩:=eh8 h;have A:=allEq_len e1;simp only[List.length_take,List.length_drop] at A;have ab:f.offset+l.length<=xs.length\/l.length=0:=om;have aa:f.offset+l.length<=c.length\/l.length=0:=om
   -- the parts
   have parts:∃z y,bi7 k f.offset xs=za z/\bi7 k f.offset c=za y /\
     (match aq5 P f.type with|some zb=>(∀zs,z≠.agg zs)/\(∀zs,y≠.agg zs)|some (za _)=>(∃xs,z=.agg xs)/\∃c,y=.agg c|none=>False) /\
     allEq l z.cs y.cs=za L:=by
    cases k with
    | none=>
     simp at j;have m:f.offset<xs.length:=om;have E:f.offset<c.length:=om
     have W:(xs.drop f.offset).take l.length=[xs[f.offset]]:=by
      rw[<- j,zi m];rfl
     have V:(c.drop f.offset).take l.length=[c[f.offset]]:=by
      rw[<- j,zi E];rfl
     rw[W,V] at e1
     have N:∀zs,xs[f.offset]≠.agg zs:=by
      intro zs F;rw[F] at e1
      match l,j,e1 with
      | [tag],_,e1=>simp only[allEq,eu6] at e1;cases e1
     have M:∀zs,c[f.offset]≠.agg zs:=by
      intro zs F;rw[F] at e1
      match l,j,e1 with
      | [tag],_,e1=>simp only[allEq,eu7] at e1;cases e1
     refine ⟨xs[f.offset],c[f.offset],by simp[bi7,m],by simp[bi7,E],by rw[s];exact ⟨N,M⟩,?_⟩;rw[IV.bx9 N,IV.bx9 M]
     exact e1
    | some n=>
     simp at j;have h0:=J n rfl;subst j;have m:f.offset+l.length<=xs.length:=om;have E:f.offset+l.length<=c.length:=om;rw[s];exact ⟨.agg ((xs.drop f.offset).take l.length),.agg ((c.drop f.offset).take l.length),by simp[bi7,m],by simp[bi7,E],⟨⟨_,rfl⟩,⟨_,rfl⟩⟩,e1⟩
   have⟨z,y,p1,p2,p3,p4⟩:=parts;have⟨qx,Y,U⟩:=ay9 s p1 hx S;have⟨qy,X,T⟩:=ay9 s p2 hy Q;have K:=hg f.type l D ρ w e z y qx qy L U T p3 p4;simp only[Op.eqFields,B,ne_eq,not_false_eq_true,if_true,Sem.run_bind,Y,X,K,Result.andThen_ok]
   cases L with
   | false=>simp
   | true=>
    simp only[Bool.not_true,zm,if_false,Bool.true_and];exact ih (f.offset+l.length) ts b2 x (by simpa [List.drop_drop] using e2)
  split at hf
  .rename_i l D s;split at hf
   .rename_i m
    cases hr:dj3 P g q (f.offset+1) with
    | none=>rw[hr] at hf;cases hf
    | some ts=>rw[hr] at hf;cases hf;exact r l ts zb D s (by simp[m]) (λn B=>by cases B) (by rw[m];exact hr) rfl
   .cases hf
  .rename_i l n D s;split at hf
   .rename_i m
    cases hr:dj3 P g q (f.offset+l.length) with
    | none=>rw[hr] at hf;cases hf
    | some ts=>rw[hr] at hf;cases hf;exact r l ts (za n) D s (by simp[m.1]) (λ_ _=>m.2) hr rfl
   .cases hf
  .cases hf
end Go.Id
namespace Go.Id
open Go
variable {P:Program} {w:World} {ρ:Rho}
def eh9 {t:TypeId}{d:Array Field}(c:P.underlying t=za (.struct d)):∀k,aq5 P t=za k->∃n,k=za n:=by
 intro k a;have:fg6 P t=za true:=by simp[fg6,c]
 unfold aq5 at a;rw[this] at a
 cases b:szT P t with
 | none=>rw[b] at a;cases a
 | some n=>rw[b] at a;cases a;exact ⟨n,rfl⟩
def by9:∀(d:Nat) (t:TypeId) (f:List Nat),cw3 P d t=za f->kw1 P d t f:=by
 intro d
 induction d with
 | zero=>intro t f h;simp[cw3] at h
 | succ d ih=>
  intro t f h ρ w e x y E D b p o g q;simp only[cw3] at h
  cases i:P.underlying t with
  | none=>rw[i] at h;cases h
  | some u=>
   rw[i] at h;cases u<;>simp at h
   case bool=>
    subst h;rw[show aq5 P t=za zb from by simp[aq5,fg6,i]] at g;rw[IV.bx9 g.1,IV.bx9 g.2] at q;obtain ⟨a,c,rfl,rfl,rfl⟩:=ie1 (da7 q);cases p;cases o;rw[<- ze];simp[Op.equalIn,run_underlying i]
   case int k=>
    subst h;rw[show aq5 P t=za zb from by simp[aq5,fg6,i]] at g;rw[IV.bx9 g.1,IV.bx9 g.2] at q;obtain ⟨k,a,c,rfl,rfl,rfl⟩:=dy8 (da7 q);cases p;cases o;rw[<- ze];simp[Op.equalIn,run_underlying i,da6]
   case string=>
    subst h;rw[show aq5 P t=za zb from by simp[aq5,fg6,i]] at g;rw[IV.bx9 g.1,IV.bx9 g.2] at q;obtain ⟨a,c,rfl,rfl,rfl⟩:=ie2 (da7 q);cases p;cases o;rw[<- ze];simp[Op.equalIn,run_underlying i,beq_toListBytes,fg7]
   case struct fs=>
    have⟨A,h⟩:=h;have s:P.fieldsOf t=fs:=by simp[Program.fieldsOf,i]
    cases j:aq5 P t with
    | none=>rw[j] at g;exact g.elim
    | some k=>
     obtain ⟨n,rfl⟩:=eh9 i k j;rw[j] at g;obtain ⟨⟨xs,rfl⟩,⟨B,rfl⟩⟩:=g
     cases p with
     | agg _ rxs hx p=>
      cases o with
      | agg _ rys hy o=>
       simp only[IV.cs] at q;rw[<- ze,run_equalIn_struct w (e+d) t rxs rys (by rw[s];exact i) A,s];exact dj4 (λt f h=>ih t f h) hx hy p o fs.toList 0 f b h (by simpa using q)
   case array n e0=>
    split at h
    .rename_i k z;split at h
     .rename_i hc;cases h;have j:aq5 P t=(szT P t).map za:=by simp[aq5,fg6,i]
      cases r:szT P t with
      | none=>rw[j,r] at g;exact g.elim
      | some m=>
       rw[j,r] at g;obtain ⟨⟨xs,rfl⟩,⟨B,rfl⟩⟩:=g
       cases p with
       | agg _ rxs hx p=>
        cases o with
        | agg _ rys hy o=>
         rw[<- ze];exact jv4 i z hc.1 om hx hy p o q
     .cases h
    .cases h
def jv5 (tags:List Nat)(neg:Bool):IV->IV->Option IV
 | .agg xs,.agg ys=>(allEq tags xs ys).map λb=>.bool (b ^^ neg)
 | _,_=>zb
def gn8 {g:TypeId->Option (List Nat)}:∀(d:List Field) (o:Nat) (b:List Nat),dj3 P g d o=za b->∀f∈d,∃l,g f.type=za l:=by
 intro d
 induction d with
 | nil=>intro _ _ _ f hf;cases hf
 | cons a d ih=>
  intro o b h f hf;simp only[dj3] at h;split at h
  .split at h
   .rename_i l e _;split at h
    .have⟨i,c,_⟩:=zx.1 h;rcases zp.1 hf with rfl|hf
     .exact ⟨_,e⟩
     .exact ih _ _ c f hf
    .cases h
   .rename_i l n e _;split at h
    .have⟨i,c,_⟩:=zx.1 h;rcases zp.1 hf with rfl|hf
     .exact ⟨_,e⟩
     .exact ih _ _ c f hf
    .cases h
   .cases h
  .cases h
def ft8:∀(d:Nat) (t:TypeId) (a:List Nat),cw3 P d t=za a->∀D,d<=D->P.eqGuardType D t=false:=by
 intro d
 induction d with
 | zero=>intro t a h;cases h
 | succ d ih=>
  intro t a h D j;obtain ⟨D,rfl⟩:∃c,D=c+1:=⟨D-1,om⟩;simp only[cw3] at h;simp only[Program.eqGuardType];split at h
  .rename_i b;rw[b]
  .rename_i b;rw[b]
  .rename_i b;rw[b]
  .rename_i m b;rw[b];split at h
   .cases h
   .simp only[Array.any_eq_false',Bool.and_eq_true,not_and,Bool.not_eq_true];intro f hf _;have⟨l,g⟩:=gn8 _ _ _ h f (by simpa using hf);exact ih _ _ g _ om
  .rename_i n e b;rw[b];split at h
   .rename_i k i;split at h
    .rename_i hc;obtain ⟨D,rfl⟩:∃c,D=c+1:=⟨D-1,om⟩;simp only[Program.eqGuardType,i]
    .cases h
   .cases h
  .cases h
def ei1 {d:Nat}(u:d<=10000){t:TypeId}{c:List Nat}{n:Nat}{op:BinOp}{x y:Operand}{a b v:IV}{f e:Value}(k:cw3 P d t=za c)(o:aq5 P t=za (za n))
  (m:d<=P.depth) (i:op=.eql\/op=.neq) (h:jv5 c (decide (op=.neq)) a b=za v) (s:VR ρ w a f) (p:VR ρ w b e) :
  ∃r,(do eqGuard op t x y f e;binOp op t f e:Sem Value).run P w=.ok r w/\VR ρ w v r:=by
 cases s with
 | agg xs rxs hx vx=>
  cases p with
  | agg ys rys hy vy=>
   simp only[jv5] at h
   cases g:allEq c xs ys with
   | none=>rw[g] at h;cases h
   | some q=>
    rw[g] at h;cases h;have j:=by9 d t c k ρ w (10000-d) (.agg xs) (.agg ys) (.agg rxs) (.agg rys) q (.agg xs rxs hx vx) (.agg ys rys hy vy) (by rw[o];exact ⟨⟨_,rfl⟩,⟨_,rfl⟩⟩) g
    rw[show 10000-d+d=10000 from by omega] at j;simp only[Sem.run_bind,run_eqGuard_agg w op t x y rxs rys (ft8 d t c k _ m),Result.andThen_ok];rcases i with rfl|rfl
    .rw[run_eql_struct,j];exact ⟨_,rfl,by simpa using VR.bool q⟩
    .rw[run_neq_struct,j];exact ⟨_,rfl,by simpa using VR.bool (!q)⟩
  | _=>simp[jv5] at h
 | _=>simp[jv5] at h
def jv6:IV->Option IV
 | .bool b=>za (.bool (!b))
 | _=>zb
def gn9 {a v:IV}{b:Value}(h:jv6 a=za v)(c:VR ρ w a b):∃r,(Op.unary .not b).run P w=.ok r w/\VR ρ w v r:=by
 cases c<;>simp[jv6] at h;subst h;exact ⟨_,rfl,.bool _⟩
def jv7:IV->Option IV
 | .int k n=>za (.int k (k.wrap (0-n)))
 | _=>zb
def go2 {a v:IV}{b:Value}(h:jv7 a=za v)(c:VR ρ w a b):∃r,(Op.unary .neg b).run P w=.ok r w/\VR ρ w v r:=by
 cases c<;>simp only[jv7] at h<;>cases h;exact ⟨_,rfl,.int _ _⟩
def go3 (k:IntKind):IV->Option IV
 | .int _ n=>za (.int k (k.wrap n))
 | _=>zb
def ft9 {b c:TypeId}{k:IntKind}{a v:IV}{d:Value}{u:TypeDesc}(hs:P.underlying b=za u)(e:P.underlying c=za (.int k))(h:go3 k a=za v)(f:VR ρ w a d) :
  ∃r,(convert b c d).run P w=.ok r w/\VR ρ w v r:=by
 cases f<;>simp only[go3] at h<;>cases h;exact ⟨_,by simp[convert,run_underlying hs,run_underlying e,Conv.intToInt],.int _ _⟩
def ei2:IV->Option IV
 | .str s=>za (.str s)
 | _=>zb
def eu8 {b c:TypeId}{a v:IV}{d:Value}{u:TypeDesc}(hs:P.underlying b=za u)(e:P.underlying c=za .string)(h:ei2 a=za v)(f:VR ρ w a d) :
  ∃r,(convert b c d).run P w=.ok r w/\VR ρ w v r:=by
 cases f<;>simp only[ei2] at h<;>cases h;exact ⟨_,by simp[convert,run_underlying hs,run_underlying e],.str _⟩
def dy9 (v:IV):Option IV :=
 match v with
 | .ab5 _=>za v
 | .ptr _ _=>za v
 | .func (.func _) _ _=>za v
 | .yield _=>za v
 | _=>zb
def fu1 {a v:IV}{o:Oper}{x:Operand}{ev:Operand->Value}(k:o.op=.nilCheck x)
  (h:dy9 a=za v) (j:VR ρ w a (ev x)):∃r,(execOp ev o).run P w=.ok (.value r) w/\VR ρ w v r:=by
 have i:∀r:Value,(∀q,ev x=q->(match q with|.pointer zb|.nilIface|.nilFunc=>False|.func (.method _) _ _=>False|_=>True))->ev x=r->(execOp ev o).run P w=.ok (.value r) w:=by
  intro r g hr;have:=g _ hr;unfold execOp;rw[k];simp only[hr]
  cases r with
  | pointer p=>cases p<;>simp at this ⊢
  | func fn f c=>cases fn<;>simp at this ⊢
  | _=>first|rfl|simp at this
 generalize e:ev x=r at j
 cases j with
 | ab5 cs b off vs hf hc hv=>
  cases h
  exact ⟨_,i _ (λq g=>by rw[e] at g;subst g;trivial) e,.ab5 cs b off vs hf hc hv⟩
 | ptr id off B d hid=>cases h;exact ⟨_,i _ (λq g=>by rw[e] at g;subst g;trivial) e,.ptr id off B d hid⟩
 | cx4 id off ad hid=>cases h;exact ⟨_,i _ (λq g=>by rw[e] at g;subst g;trivial) e,.cx4 id off ad hid⟩
 | func fn first cap rf rc hy h1 h2 hf hc=>
  cases fn<;>simp[dy9] at h;subst h
  exact ⟨_,i _ (λq g=>by rw[e] at g;subst g;trivial) e,.func _ first cap rf rc hy h1 h2 hf hc⟩
 | yield id B d hid=>cases h;exact ⟨_,i _ (λq g=>by rw[e] at g;subst g;trivial) e,.yield id B d hid⟩
 | bd9 id B hid=>cases h;exact ⟨_,i _ (λq g=>by rw[e] at g;subst g;trivial) e,.bd9 id B hid⟩
 | _=>simp[dy9] at h
end Go.Id
namespace Go.Id
open Go
variable {P:Program} {w:World} {ρ:Rho}
def cv1:Value->Option IV
 | .bool b=>za (.bool b)
 | .int k n=>za (.int k n)
 | .string s=>za (.str s.data.toList)
 | .pointer zb=>za .ag2
 | .slice zb 0 0=>za .aa5
 | .map zb=>za .am1
 | .nilFunc=>za .ai8
 | .nilIface=>za .ah6
 | _=>zb
def cvL:List Value->Option (List IV)
 | []=>za []
 | v::vs=>match cv1 v,cvL vs with
  | some x,za xs=>za (x::xs)
  | _,_=>zb
def cv:Value->Option IV
 | .agg cs=>(cvL cs.toList).map .agg
 | v=>cv1 v
def cvs (v:Value):Option (List IV):=cvL v.cells.toList
def ei3 {v:Value}{x:IV}(h:cv1 v=za x):VR ρ w x v:=by
 unfold cv1 at h;split at h<;>cases h
 .exact .bool _
 .exact .int _ _
 .rename_i s;exact .str _
 .exact .ag2
 .exact .aa5
 .exact .am1
 .exact .ai8
 .exact .ah6
def go4 {vs:List Value}{xs:List IV}(h:cvL vs=za xs):xs.length=vs.length/\∀i,i<xs.length->VR ρ w (xs.getD i .undef) (vs.getD i undef):=by
 induction vs generalizing xs with
 | nil=>cases h;exact ⟨rfl,λi hi=>by simp at hi⟩
 | cons v vs ih=>
  simp only[cvL] at h;split at h
  .rename_i x e d c;cases h;have⟨b,a⟩:=ih c;refine ⟨by simp[b],λi hi=>?_⟩
   cases i with
   | zero=>simpa using ei3 d
   | succ i=>simpa using a i (by simpa using hi)
  .cases h
def da8 {v:Value}{xs:List IV}(h:cvs v=za xs):xs.length=v.cells.size/\∀i,i<xs.length->VR ρ w (xs.getD i .undef) (v.cells.getD i undef):=by
 have⟨b,a⟩:=go4 (ρ:=ρ) (w:=w) h;refine ⟨by simpa using b,λi hi=>?_⟩;have:=a i hi
 simpa [zc,zd] using this
def fg9 {v:Value}{x:IV}(h:cv v=za x):VR ρ w x v:=by
 unfold cv at h;split at h
 .rename_i cs
  cases hc:cvL cs.toList with
  | none=>rw[hc] at h;cases h
  | some xs=>
   rw[hc] at h;cases h;have⟨b,a⟩:=da8 (ρ:=ρ) (w:=w) (v:=.agg cs) (xs:=xs) (by simpa [cvs,Value.cells] using hc);exact .agg _ _ (by simpa [Value.cells] using b) a
 .exact ei3 h
def CR (ρ:Rho)(w:World)(xs:List IV)(rs:Array Value):Prop:=xs.length=rs.size/\∀i,i<xs.length->VR ρ w (xs.getD i .undef) (rs.getD i undef)
def IV.leaf:IV->Bool
 | .undef|.agg _|.tuple _=>false
 | _=>true
def dz1 {r:Value}(h:r.oneCell'=true):r.cells=#[r]:=by
 cases r<;>first|rfl|simp[Value.oneCell'] at h
def cx5 {v:IV}{r:Value}(h:v.leaf=true)(a:VR ρ w v r):r.oneCell'=true/\r.cells=#[r]:=by
 have:r.oneCell'=true:=by
  cases a<;>first|rfl|assumption|(simp[IV.leaf] at h;done)
 exact ⟨this,dz1 this⟩
def bz1 {v:IV}{r:Value}(d:VR ρ w v r)(f:v.cs.all IV.leaf=true):CR ρ w v.cs r.cells/\∀x∈r.cells.toList,x.oneCell'=true:=by
 by_cases j:∃zs,v=.agg zs
 .obtain ⟨zs,rfl⟩:=j
  cases d with
  | agg _ rs g c=>
   refine ⟨⟨g,c⟩,λx b=>?_⟩;obtain ⟨i,hi,rfl⟩:=List.mem_iff_getElem.1 b;simp[Value.cells] at hi;have a:i<zs.length:=om
   have e:(zs.getD i .undef).leaf=true:=by
    have:=zt.1 f zs[i] (List.getElem_mem _)
    simpa [zd,a] using this
   have:=(cx5 e (c i a)).1;rw[ae3 _ _ _ hi] at this
   simpa [Value.cells] using this
 .have k:∀zs,v≠.agg zs:=λzs h=>j ⟨zs,h⟩
  rw[IV.bx9 k] at f ⊢;have e:v.leaf=true:=by simpa using f
  have⟨g,c⟩:=cx5 e d;rw[c];refine ⟨⟨rfl,λi hi=>?_⟩,λx b=>?_⟩
  .simp at hi;subst hi;simpa using d
  .simp at b;subst b;exact g
def ay4 (l:List IV)(off:Nat)(vs:List IV):List IV:=l.take off++vs++l.drop (off+vs.length)
def af8 {l:List IV}{off:Nat}{vs:List IV}(h:off+vs.length<=l.length):(ay4 l off vs).length=l.length:=by
 unfold ay4;simp;omega
def ei4 {l:List IV}{off:Nat}{vs:List IV}(h:off+vs.length<=l.length)(i:Nat)(d:IV) :
  (ay4 l off vs).getD i d=if off<=i/\i<off+vs.length then vs.getD (i-off) d else l.getD i d:=by
 unfold ay4;simp only[zd,List.getElem?_append,List.length_append,List.length_take,List.getElem?_take,z2];have c:min off l.length=off:=om;rw[c];by_cases b:i<off+vs.length
 .by_cases a:i<off
  .simp[b,a,Nat.not_le.2 a]
  .simp[b,a,Nat.not_lt.1 a]
 .have a:¬(i<off):=om;simp only[b,if_false,and_false];congr 2;omega
def go5 (off:Nat):∀(vs:List Value) (k:Nat) (a:Array Value),
  ((vs.zipIdx k).foldl (λcs (c,j)=>cs.setIfInBounds (off+j) c) a).size=a.size /\
  ∀i d,off+k+vs.length<=a.size->((vs.zipIdx k).foldl (λcs (c,j)=>cs.setIfInBounds (off+j) c) a).getD i d =
   if off+k<=i/\i<off+k+vs.length then vs.getD (i-(off+k)) d else a.getD i d:=by
 intro vs
 induction vs with
 | nil=>intro k a;exact ⟨rfl,λi d h=>by simp;intro n m;omega⟩
 | cons v vs ih=>
  intro k a;simp only[List.zipIdx_cons,List.foldl_cons];obtain ⟨n,m⟩:=ih (k+1) (a.setIfInBounds (off+k) v);refine ⟨by rw[n];simp,λi d h=>?_⟩;simp at h;rw[m i d (by simp;omega)];by_cases e:off+k<=i/\i<off+k+(v::vs).length
  .obtain ⟨q,o⟩:=e;simp at o;by_cases g:i=off+k
   .subst g;have f:off+k<a.size:=om;have b:¬(off+(k+1)<=off+k):=om;simp[b,zc,f]
   .have b:off+(k+1)<=i/\i<off+(k+1)+vs.length:=om;have p:off+k<=i/\i<off+k+(v::vs).length:=by simp;omega
    rw[if_pos b,if_pos p];have:i-(off+k)=(i-(off+(k+1)))+1:=om;rw[this];simp
  .have b:¬(off+(k+1)<=i/\i<off+(k+1)+vs.length):=by simp at e;omega
   rw[if_neg b,if_neg e];have g:off+k≠i:=by simp at e;omega
   simp[zc,zu,g]
def au8:List IV->List (Nat×Nat×IV)->Option (List IV)
 | cells,[]=>za cells
 | cells,(off,size,v)::rest=>if v.cs.length=size/\off+size<=cells.length/\v.cs.all IV.leaf=true then au8 (ay4 cells off v.cs) rest else zb
def cj1 {place:Nat->Option (Nat×Nat)}:∀(e:List (Nat×Nat×IV)) (d:List (Nat×Value)) (b f:List IV) (a:Array Value),CR ρ w b a ->
  e.length=d.length->(∀j,j<e.length->place (d.getD j (0,undef)).1=za ((e.getD j (0,0,.undef)).1,(e.getD j (0,0,.undef)).2.1)/\VR ρ w (e.getD j (0,0,.undef)).2.2 (d.getD j (0,undef)).2) ->
  au8 b e=za f->∃k,Instr.fill place a d=za k/\CR ρ w f k:=by
 intro e
 induction e with
 | nil=>
  intro d b f a hc o hp h
  cases d with
  | nil=>cases h;exact ⟨a,rfl,hc⟩
  | cons _ _=>simp at o
 | cons ip e ih=>
  intro d b f a hc o hp h;have⟨off,size,v⟩:=ip
  cases d with
  | nil=>simp at o
  | cons rp d=>
   have⟨i,r⟩:=rp;simp only[au8] at h;split at h
   case isFalse=>cases h
   rename_i t;have⟨y,D,x⟩:=t;have⟨n,m⟩:=hp 0 sm;simp at n m;have⟨⟨F,B⟩,E⟩:=bz1 m x;have hs:r.cells.size=size:=om;have u:a.size=b.length:=hc.1.symm;have⟨A,z⟩:=go5 off r.cells.toList 0 a
   have g:r.cells.zipIdx.foldl (λcs (c,j)=>cs.setIfInBounds (off+j) c) a=(r.cells.toList.zipIdx 0).foldl (λcs (c,j)=>cs.setIfInBounds (off+j) c) a:=by
    rw[<- Array.foldl_toList];simp
   refine (ih d (ay4 b off v.cs) f (r.cells.zipIdx.foldl (λcs (c,j)=>cs.setIfInBounds (off+j) c) a) ⟨?_,λj p=>?_⟩ (by simpa using o) (λj p=>by simpa using hp (j+1) (by simpa using p)) h).imp λrout q=>⟨?_,q.2⟩
   .rw[g,A,af8 om];exact hc.1
   .rw[af8 om] at p;rw[ei4 om,g,z j undef (by simp;omega)];simp only[Nat.add_zero,Array.length_toList];rw[hs,y];split
    .rename_i s;have:=B (j-off) om
     simpa [zc,zd] using this
    .exact hc.2 j p
   .simp only[Instr.fill,n];rw[if_neg (by simp;omega)];exact q.1
end Go.Id
namespace Go.Id
open Go
variable {P:Program} {w:World} {ρ:Rho} {E:Nat->IV} {σ:Store}
def cc7 (σ:Store):IV->Option (List (IV×IV))
 | .am1=>za []
 | .am2 es=>za es
 | .map id=>match σ.obj id with
  | some (.map es)=>za es
  | _=>zb
 | _=>zb
def ao9 (tag:Nat)(x y:IV):Option Bool :=
 match zz 3 tag with
 | true=>match x with
  | .agg xs=>match y with
   | .agg ys=>allEq (zf (tag-3) 1) xs ys
   | _=>zb
  | _=>zb
 | false=>al1 tag x y
def kOK (tag:Nat)(k:IV):Bool :=
 match zz 3 tag with
 | true=>(ao9 tag k k).isSome
 | false=>true
def ba7 (tag:Nat)(k:IV):List (IV×IV)->Option (Option IV)
 | []=>match kOK tag k with
  | true=>za zb
  | false=>zb
 | e::es=>match ao9 tag k e.1 with
  | some true=>za (za e.2)
  | some false=>ba7 tag k es
  | none=>zb
def cj3 (σ:Store)(tag:Nat)(zero:IV)(ok:Bool)(x k:IV):Option IV :=
 match cc7 σ x with
 | some es=>match ba7 tag k es with
  | some r=>za (if ok then .tuple [r.getD zero,.bool r.isSome] else r.getD zero)
  | none=>zb
 | none=>zb
def eu9:Option TypeDesc->Option Nat
 | some .bool=>za 0
 | some (.int _)=>za 1
 | some .string=>za 2
 | _=>zb
def km5 (P:Program)(t:TypeId):Bool:=match P.underlying t with
 | some (.int _)=>true
 | _=>false
def ib7 (P:Program)(kt:TypeId):Option Nat :=
 match P.underlying kt with
 | some (.struct fs)=>match cw3 P 30 kt,aq5 P kt with
  | some tags, za (za _) => if tags = zf tags.length 1 ∧ fs.toList.all (fun f => f.name != "_" && km5 P f.type && decide (f.offset < tags.length)) = true then za (tags.length + 3) else zb
  | _,_=>zb
 | d=>eu9 d
def dm4 {kt:TypeId}{tag:Nat}(h:ib7 P kt=za tag):∃d,P.underlying kt=za d/\((eu9 (za d)=za tag/\tag<3) \/
  (∃ fs n m, d = .struct fs ∧ tag = n + 3 ∧ cw3 P 30 kt = za (zf n 1) ∧ aq5 P kt = za (za m) ∧ ∀ f ∈ fs.toList, f.name ≠ "_" ∧ km5 P f.type = true ∧ f.offset < n)) := by
 unfold ib7 at h;split at h
 .rename_i fs hu;refine ⟨_,hu,.inr ?_⟩;split at h
  .rename_i tags m hf hl;split at h
   .rename_i hc;cases h;refine ⟨fs,tags.length,m,rfl,rfl,by rw[hf];exact congrArg za hc.1,hl,λf hf=>?_⟩;have:=zt.1 hc.2 f hf;simp only[Bool.and_eq_true,bne_iff_ne,ne_eq,decide_eq_true_eq] at this;exact ⟨this.1.1,this.1.2,this.2⟩
   .cases h
  .cases h
 .cases hu:P.underlying kt with
  | none=>rw[hu] at h;cases h
  | some d=>
   rw[hu] at h;refine ⟨d,rfl,.inl ⟨h,?_⟩⟩;cases d<;>simp only[eu9] at h<;>cases h<;>decide
def km6 {n:Nat}:zz 3 (n+3)=true:=Nat.ble_eq_true_of_le om
def cc8 {a:Nat}(h:a<3)(x y:IV):ao9 a x y=al1 a x y:=by
 unfold ao9
 cases b:zz 3 a with
 | false=>rfl
 | true=>have:=z0 b;omega
def bp4 {n:Nat}{x y:IV}{b:Bool}(h:ao9 (n+3) x y=za b):∃xs a,x=.agg xs/\y=.agg a/\allEq (zf n 1) xs a=za b:=by
 unfold ao9 at h;rw[km6] at h;simp only at h;split at h
 .split at h
  .exact ⟨_,_,rfl,rfl,h⟩
  .cases h
 .cases h
def bs5:∀ {n:Nat} {xs d:List IV} {b:Bool},allEq (zf n 1) xs d=za b ->
  ∃(ks:List IntKind) (f e:List Int),ks.length=n/\f.length=n/\e.length=n/\xs=(ks.zip f).map (λp=>IV.int p.1 p.2)/\d=(ks.zip e).map (λp=>IV.int p.1 p.2)/\b=decide (f=e):=by
 intro n
 induction n with
 | zero=>
  intro xs d b h;have:=allEq_len h;simp at this;obtain ⟨rfl,rfl⟩:=this;simp[allEq] at h
  exact ⟨[],[],[],rfl,rfl,rfl,rfl,rfl,by simp[h]⟩
 | succ n ih=>
  intro xs d b h;rw[zq] at h
  cases xs with
  | nil=>simp[allEq] at h
  | cons x xs=>
   cases d with
   | nil=>simp[allEq] at h
   | cons y d=>
    simp only[allEq] at h;split at h
    .rename_i a c o m;cases h;obtain ⟨k,p,q,rfl,rfl,rfl⟩:=dy8 o;obtain ⟨ks,f,e,j,i,g,rfl,rfl,rfl⟩:=ih m;refine ⟨k::ks,p::f,q::e,by simp[j],by simp[i],by simp[g],rfl,rfl,?_⟩;by_cases e1:p=q<;>by_cases e2:f=e<;>simp[e1,e2]
    .cases h
def dm5:∀(ks:List IntKind) (d c:List Int),d.length=ks.length->c.length=ks.length->allEq (zf ks.length 1) ((ks.zip d).map λp=>IV.int p.1 p.2) ((ks.zip c).map λp=>IV.int p.1 p.2)=za (decide (d=c)):=by
 intro ks
 induction ks with
 | nil=>
  intro d c f e;cases d<;>cases c<;>simp at f e
  simp[allEq]
 | cons k ks ih=>
  intro d c f e
  cases d with
  | nil=>simp at f
  | cons a d=>
   cases c with
   | nil=>simp at e
   | cons b c=>
    simp only[List.length_cons,zq,z1,zy,allEq,al1,if_true];rw[ih d c (by simpa using f) (by simpa using e)];by_cases e1:a=b<;>by_cases e2:d=c<;>simp[e1,e2]
def ix9 {a:Nat}{k e:IV}{b:Bool}(h:ao9 a k e=za b):kOK a k=true:=by
 unfold kOK
 cases c:zz 3 a with
 | false=>rfl
 | true=>
  have o:=z0 c;obtain ⟨n,rfl⟩:∃n,a=n+3:=⟨a-3,om⟩;obtain ⟨xs,i,rfl,rfl,g⟩:=bp4 h;obtain ⟨ks,d,p,f,m,j,rfl,rfl,rfl⟩:=bs5 g;have:=dm5 ks d d om om;rw[f] at this;simp[ao9,this,c]
def fh1 {a:Nat}{k:IV}{es:List (IV×IV)}{r:Option IV}(h:ba7 a k es=za r):kOK a k=true:=by
 cases es with
 | nil=>
  simp only[ba7] at h;split at h
  .assumption
  .cases h
 | cons e es=>
  simp only[ba7] at h
  cases c:ao9 a k e.1 with
  | none=>rw[c] at h;cases h
  | some b=>exact ix9 c
def iy1 (s t:List UInt8):(zg s.toArray==zg t.toArray)=decide (s=t):=by
 show (s.toArray==t.toArray)=_;by_cases h:s=t<;>simp[h]
def EsR (ρ:Rho)(w:World)(es:List (IV×IV))(mes:List MapEntry):Prop :=
 es.length=mes.length/\∀i,i<es.length->VR ρ w (es.getD i (.undef,.undef)).1 (mes.getD i default).key/\VR ρ w (es.getD i (.undef,.undef)).2 (mes.getD i default).val
def cj4 {d:TypeDesc}{a:Nat}{x y:IV}{i g:Value}{b:Bool}(j:eu9 (za d)=za a)(h:al1 a x y=za b)(f:VR ρ w x i)(c:VR ρ w y g):Instr.sameNow d i g=za b:=by
 cases d<;>simp only[eu9] at j<;>cases j<;>cases x<;>cases y<;>simp only[al1] at h<;>first|cases h;done|skip
 .cases f;cases c;cases h;rfl
 .cases f;cases c;simp only[Instr.sameNow];split at h
  .cases h;rename_i e;simp[e,da6]
  .cases h
 .cases f;cases c;cases h;rename_i s t;simp only[Instr.sameNow,iy1]
def dj5 {a:Array Field}{x y:Value}:Instr.sameNow (.struct a) x y=zb:=by unfold Instr.sameNow;split<;>first|rfl|contradiction
def EqK (P:Program)(kt:TypeId)(tag:Nat):Prop:=∀(ρ:Rho) (w:World) (x y:IV) (rx ry:Value) (b:Bool),ao9 tag x y=za b->VR ρ w x rx->VR ρ w y ry->(Op.equal kt rx ry).run P w=.ok b w
def fu2 {a:TypeId}{n m:Nat}(hf:cw3 P 30 a=za (zf n 1))(i:aq5 P a=za (za m)):EqK P a (n+3):=by
 intro ρ w x y e d b h g f;obtain ⟨xs,c,rfl,rfl,k⟩:=bp4 h;have j:=by9 30 a _ hf ρ w (10000-30) (.agg xs) (.agg c) e d b g f (by rw[i];exact ⟨⟨_,rfl⟩,⟨_,rfl⟩⟩) k
 exact j
def dz2 {D:TypeId}{b:Nat}{k:IV}{u:Value}(L:ib7 P D=za b)(z:VR ρ w k u):∀(es:List (IV×IV)) (a:List MapEntry),EsR ρ w es a ->
  ∀(r:Option Nat),(r=zb->∀e∈es,ao9 b k e.1=za false)->(∀j,r=za j->j<es.length/\ao9 b k (es.getD j (.undef,.undef)).1=za true/\∀i,i<j->ao9 b k (es.getD i (.undef,.undef)).1=za false) ->
  (Instr.findKey D u a).run P w=.ok (r.map λj=>(j,(a.getD j default).val)) w:=by
 have⟨d,H,N⟩:=dm4 L
 have F:∀(es:List (IV×IV)) (a:List MapEntry) (g:Nat),b<3->eu9 (za d)=za b->EsR ρ w es a->∀(r:Option Nat),(r=zb->∀e∈es,ao9 b k e.1=za false)->(∀j,r=za j->j<es.length/\ao9 b k (es.getD j (.undef,.undef)).1=za true/\∀i,i<j->ao9 b k (es.getD i (.undef,.undef)).1=za false) ->
   Instr.findNow d u a g=za (r.map λj=>(g+j,(a.getD j default).val)):=by
  intro es
  induction es with
  | nil=>
   intro a g _ _ c r s q;have:a=[]:=zk.1 c.1.symm;subst this
   cases r with
   | none=>rfl
   | some j=>exact absurd (q j rfl).1 sm
  | cons e es ih=>
   intro a g y f c r s q
   cases a with
   | nil=>exact absurd c.1 sm
   | cons m a=>
    have h0:=c.2 0 sm;simp at h0;have p:EsR ρ w es a:=⟨by have:=c.1;simpa using this,λj A=>by have:=c.2 (j+1) (by simp;omega);simpa using this⟩
    cases r with
    | none=>
     have o:=s rfl e (zj ..);rw[cc8 y] at o;simp only[Instr.findNow,cj4 f o z h0.1];have:=ih a (g+1) y f p zb (λ_ e c=>s rfl e (zl _ c)) (λj A=>by cases A)
     simpa using this
    | some j=>
     have⟨J,t,B⟩:=q j rfl
     cases j with
     | zero=>
      simp at t;rw[cc8 y] at t
      simp[Instr.findNow,cj4 f t z h0.1]
     | succ j=>
      have o:=B 0 om;simp at o;rw[cc8 y] at o;simp only[Instr.findNow,cj4 f o z h0.1]
      have:=ih a (g+1) y f p (za j) (λh=>by cases h) (λj' x=>by
       cases x;refine ⟨by simpa using J,by simpa using t,λi hi=>?_⟩;have:=B (i+1) om
       simpa using this)
      rw[this];simp;omega
 have K:∀(es:List (IV×IV)) (a:List MapEntry) (g:Nat),EqK P D b->EsR ρ w es a->∀(r:Option Nat),(r=zb->∀e∈es,ao9 b k e.1=za false)->(∀j,r=za j->j<es.length/\ao9 b k (es.getD j (.undef,.undef)).1=za true/\∀i,i<j->ao9 b k (es.getD i (.undef,.undef)).1=za false) ->
   (Instr.findAsking D u a g).run P w=.ok (r.map λj=>(g+j,(a.getD j default).val)) w:=by
  intro es
  induction es with
  | nil=>
   intro a g _ c r s q;have:a=[]:=zk.1 c.1.symm;subst this
   cases r with
   | none=>simp[Instr.findAsking]
   | some j=>exact absurd (q j rfl).1 sm
  | cons e es ih=>
   intro a g hE c r s q
   cases a with
   | nil=>exact absurd c.1 sm
   | cons m a=>
    have h0:=c.2 0 sm;simp at h0;have p:EsR ρ w es a:=⟨by have:=c.1;simpa using this,λj A=>by have:=c.2 (j+1) (by simp;omega);simpa using this⟩
    cases r with
    | none=>
     have o:=s rfl e (zj ..);have hr:=hE ρ w k e.1 u m.key false o z h0.1;have:=ih a (g+1) hE p zb (λ_ e c=>s rfl e (zl _ c)) (λj A=>by cases A);simp only[Instr.findAsking,Sem.run_bind,hr,Result.andThen_ok]
     simpa using this
    | some j=>
     have⟨J,t,B⟩:=q j rfl
     cases j with
     | zero=>
      simp at t;have hr:=hE ρ w k e.1 u m.key true t z h0.1
      simp[Instr.findAsking,hr]
     | succ j=>
      have o:=B 0 om;simp at o;have hr:=hE ρ w k e.1 u m.key false o z h0.1
      have:=ih a (g+1) hE p (za j) (λh=>by cases h) (λj' x=>by
       cases x;refine ⟨by simpa using J,by simpa using t,λi hi=>?_⟩;have:=B (i+1) om
       simpa using this)
      simp only[Instr.findAsking,Sem.run_bind,hr,Result.andThen_ok];simp only[zm,if_false];rw[this];simp;omega
 intro es a c r s q;rcases N with ⟨f,y⟩|⟨Q,n,m,rfl,rfl,hf,M,_⟩
 .have:=F es a 0 y f c r s q;simp only[Instr.findKey,Sem.run_bind,run_underlying H,Result.andThen_ok,this];simp
 .have hE:=fu2 (P:=P) hf M
  cases a with
  | nil=>
   have I:es=[]:=zk.1 c.1;subst I
   cases r with
   | none=>simp[Instr.findKey,run_underlying H,Instr.findNow]
   | some j=>exact absurd (q j rfl).1 sm
  | cons m a=>
   have:=K es (m::a) 0 hE c r s q;simp only[Instr.findKey,Sem.run_bind,run_underlying H,Result.andThen_ok,Instr.findNow,dj5];rw[this];simp
def ie3 {a:Nat}{k:IV}:∀(es:List (IV×IV)) (r:Option IV),ba7 a k es=za r->∃q:Option Nat,(q=zb->∀e∈es,ao9 a k e.1=za false)/\(∀j,q=za j->j<es.length/\ao9 a k (es.getD j (.undef,.undef)).1=za true/\∀i,i<j->ao9 a k (es.getD i (.undef,.undef)).1=za false) /\
  r=q.map λj=>(es.getD j (.undef,.undef)).2:=by
 intro es
 induction es with
 | nil=>
  intro r h;refine ⟨zb,(λ_ e g=>by cases g),(λj c=>by cases c),?_⟩;simp only[ba7] at h;split at h<;>cases h
  rfl
 | cons e es ih=>
  intro r h;simp only[ba7] at h
  cases d:ao9 a k e.1 with
  | none=>rw[d] at h;cases h
  | some b=>
   rw[d] at h
   cases b with
   | true=>cases h;exact ⟨za 0,(λh=>by cases h),(λj c=>by cases c;exact ⟨by simp,by simpa using d,λi hi=>absurd hi (Nat.not_lt_zero _)⟩),rfl⟩
   | false=>
    have⟨q,o,n,m⟩:=ih r h;refine ⟨q.map (·+1),λh=>?_,λj c=>?_,?_⟩
    .cases q with
     | none=>intro x f;rcases zp.1 f with rfl|f;exact d;exact o rfl x f
     | some j=>cases h
    .cases q with
     | none=>cases c
     | some j0=>
      cases c;have⟨t,s,p⟩:=n j0 rfl;refine ⟨by simpa using t,by simpa using s,λi hi=>?_⟩;have hi:i<j0+1:=hi
      cases i with
      | zero=>simpa using d
      | succ i=>have:=p i om;simpa using this
    .rw[m];cases q<;>simp
def ct9 {t:TypeId}{g:Nat}{b:Bool}{k:IV}{s:Value}(F:ib7 P t=za g)(a:kOK g k=true)(I:VR ρ w k s):(Instr.checkKey b 10000 t s).run P w=.ok () w:=by
 have⟨d,u,J⟩:=dm4 F;rcases J with ⟨i,W⟩|⟨N,n,m,rfl,rfl,hf,V,e⟩
 .unfold Instr.checkKey;cases d<;>simp only[eu9] at i<;>cases i<;>simp[run_underlying u]
 .unfold kOK at a;rw[km6] at a;simp only at a;have⟨Y,K⟩:=Option.isSome_iff_exists.1 a;obtain ⟨xs,Q,rfl,h,M⟩:=bp4 K;cases h;obtain ⟨ks,aZ,X,B,A,T,p,h,rfl⟩:=bs5 M
  cases I with
  | agg _ rxs hx vx=>
   rw[show (10000:Nat)=9999+1 from rfl,Instr.checkKey];simp only[Sem.run_bind,run_underlying u,Result.andThen_ok];rw[<- Array.forIn_toList];have D:xs.length=n:=by rw[p];simp[B,A]
   generalize N.toList=L at e
   induction L with
   | nil=>simp
   | cons f L ih=>
    have⟨H,hi,U⟩:=e f (zj ..)
    have j:∃o,P.underlying f.type=za (.int o):=by
     unfold km5 at hi;split at hi
     .rename_i o c;exact ⟨o,c⟩
     .cases hi
    have⟨o,c⟩:=j;have r:aq5 P f.type=za zb:=by simp[aq5,fg6,c]
    have q:f.offset<xs.length:=om;have⟨y,x,S⟩:=ay9 (P:=P) (off:=f.offset) (v:=xs[f.offset]) r (by simp[bi7,q]) hx vx
    have z:(Instr.checkKey b 9999 f.type y).run P w=.ok () w:=by
     unfold Instr.checkKey;simp[run_underlying c]
    simp only[List.forIn_cons,Sem.run_bind,H,ne_eq,not_false_eq_true,if_true,Result.andThen_ok,x,z,Sem.run_pure];exact ih λf hf=>e f (zl _ hf)
open Classical in
def fu3 {c:Nat}{k a b:IV}{K:KK}{r:Bool}(h:al1 c k a=za r)(d:dy6 K a)(e:dy6 K b):al1 c k b=za (decide (k=b)):=by
 unfold al1 at h;split at h
 .cases K<;>cases d
 .cases K with
  | int K=>
   simp only[dy6] at d;cases b<;>simp only[dy6] at e;split at h
   .rename_i f;subst d;subst e;subst f;simp[al1]
   .cases h
  | _=>cases d
 .cases K with
  | str=>cases b<;>first|(cases e;done)|simp[al1]
  | _=>cases d
 .cases h
def ie4:∀(ks:List IntKind) (cs:List IV),cs.length=ks.length->(∀i,i<cs.length->∃n,cs.getD i .undef=.int (ks.getD i .i64) n)->∃a:List Int,a.length=ks.length/\cs=(ks.zip a).map λp=>IV.int p.1 p.2:=by
 intro ks
 induction ks with
 | nil=>intro cs h _;exact ⟨[],rfl,by simpa using h⟩
 | cons k ks ih=>
  intro cs h hc
  cases cs with
  | nil=>simp at h
  | cons c cs=>
   have⟨n,b⟩:=hc 0 sm;simp at b;have⟨a,e,d⟩:=ih cs (by simpa using h) (λi hi=>by have:=hc (i+1) (by simp;omega);simpa using this);exact ⟨n::a,by simp[e],by rw[b,d];rfl⟩
def je4:∀(ks:List IntKind) (d c:List Int),d.length=ks.length->c.length=ks.length->((ks.zip d).map λp=>IV.int p.1 p.2)=((ks.zip c).map λp=>IV.int p.1 p.2)->d=c:=by
 intro ks
 induction ks with
 | nil=>intro d c f e _;cases d<;>cases c<;>simp at f e ⊢
 | cons k ks ih=>
  intro d c f e h
  cases d with
  | nil=>simp at f
  | cons a d=>
   cases c with
   | nil=>simp at e
   | cons b c=>
    simp only[z1,zy,List.cons.injEq,IV.int.injEq,true_and] at h;rw[h.1,ih d c (by simpa using f) (by simpa using e) h.2]
def go6:∀(ks c:List IntKind) (d e:List Int),d.length=ks.length->e.length=c.length->ks.length=c.length->(∀i,i<ks.length->∃n,((ks.zip d).map λp=>IV.int p.1 p.2).getD i .undef=.int (c.getD i .i64) n)->ks=c:=by
 intro ks
 induction ks with
 | nil=>intro c d e _ _ h _;exact (zk.1 h.symm).symm
 | cons k ks ih=>
  intro c d e j g h hc
  cases c with
  | nil=>simp at h
  | cons k' c=>
   cases d with
   | nil=>simp at j
   | cons a d=>
    cases e with
    | nil=>simp at g
    | cons b e=>
     have⟨n,f⟩:=hc 0 sm;simp at f;rw[f.1,ih c d e (by simpa using j) (by simpa using g) (by simpa using h) (λi hi=>by have:=hc (i+1) (by simp;omega);simpa using this)]
open Classical in
def go7 {c:Nat}{k a b:IV}{K:KK}{r:Bool}(h:ao9 c k a=za r)(f:dy6 K a)(d:dy6 K b):ao9 c k b=za (decide (k=b)):=by
 by_cases o:c<3
 .rw[cc8 o] at h ⊢;exact fu3 h f d
 .obtain ⟨n,rfl⟩:∃n,c=n+3:=⟨c-3,om⟩;obtain ⟨xs,t,rfl,rfl,q⟩:=bp4 h;obtain ⟨ks,g,s,m,x,u,rfl,rfl,rfl⟩:=bs5 q
  cases K with
  | agg ks'=>
   simp only[dy6] at f;have e1:ks=ks':=go6 ks ks' s (zf ks'.length 0) om sm (by have:=f.1;simp at this;omega) (λi hi=>f.2 i (by simp;omega));subst e1
   cases b with
   | agg cs=>
    simp only[dy6] at d;obtain ⟨cs',j,rfl⟩:=ie4 ks cs d.1 d.2;have:=dm5 ks g cs' om j;rw[m] at this;unfold ao9;rw[km6];simp only[z6,this];congr 1;by_cases e:g=cs'
    .subst e;simp
    .have:¬(IV.agg ((ks.zip g).map λp=>IV.int p.1 p.2)=IV.agg ((ks.zip cs').map λp=>IV.int p.1 p.2)):=λh=>e (je4 ks g cs' om j (IV.agg.inj h))
     simp only[e,this,decide_false]
   | _=>cases d
  | _=>cases f
open Classical in
def ei5 {a:Nat}{k:IV}(b:kOK a k=true):∀(es:List (IV×IV)),(∀e∈es,ao9 a k e.1=za (decide (k=e.1)))->ba7 a k es=za ((es.find? λe=>decide (k=e.1)).map (·.2)):=by
 intro es
 induction es with
 | nil=>intro _;simp only[ba7,b];rfl
 | cons e es ih=>
  intro h;simp only[ba7,h e (zj ..),List.find?_cons];by_cases c:k=e.1
  .simp[c]
  .simp only[c,decide_false];exact ih λx d=>h x (zl _ d)
open Classical in
def go8 {k:IV}{es f:List (IV×IV)}(hp:f.Perm es)(g:(es.map (·.1)).Nodup):(f.find? λe=>decide (k=e.1))=es.find? λe=>decide (k=e.1):=by
 cases h:es.find? λe=>decide (k=e.1) with
 | none=>
  rw[z3] at h ⊢
  exact λx i=>h x (hp.subset i)
 | some e=>
  have q:=zw h;have p:k=e.1:=by simpa using List.find?_some h
  cases j:f.find? λe=>decide (k=e.1) with
  | none=>
   rw[z3] at j
   exact absurd p (by simpa using j e (hp.symm.subset q))
  | some e'=>
   have o:=hp.subset (zw j);have n:k=e'.1:=by simpa using List.find?_some j
   congr 1
   have m:∀(l:List (IV×IV)),(l.map (·.1)).Nodup->∀x∈l,∀y∈l,x.1=y.1->x=y:=by
    intro l
    induction l with
    | nil=>intro _ x i;cases i
    | cons a l ih=>
     intro g x i y r d;simp only[zy,List.nodup_cons] at g;rcases zp.1 i with c|c<;>rcases zp.1 r with b|b
     .rw[c,b]
     .exact absurd (List.mem_map.2 ⟨y,b,by rw[<- d,c]⟩) g.1
     .exact absurd (List.mem_map.2 ⟨x,c,by rw[d,b]⟩) g.1
     .exact ih g.2 x c y b d
   exact m es g e' o e q (by rw[<- n,<- p])
open Classical in
def fu4 {c:Nat}{k:IV}{es d:List (IV×IV)}{r:Option IV}(hp:d.Perm es)(o:da5 es)(h:ba7 c k es=za r):ba7 c k d=za r:=by
 have⟨n,K,m⟩:=o;have f:=fh1 h
 have i:∀e∈es,ao9 c k e.1=za (decide (k=e.1)):=by
  cases es with
  | nil=>intro e g;cases g
  | cons a l=>
   simp only[ba7] at h
   cases j:ao9 c k a.1 with
   | none=>rw[j] at h;cases h
   | some b=>exact λe g=>go7 j (m a (zj ..)) (m e g)
 rw[ei5 f es i] at h;rw[ei5 f d λe g=>i e (hp.subset g),go8 hp n];exact h
def ie5 {x:IV}{r:Value}{es:List (IV×IV)}(hs:Sim E ρ w σ)(h:cc7 σ x=za es)(j:VR ρ w x r) :
  (r=.map zb/\es=[])\/∃b c a e,r=.map (za b)/\w.heap[b]? = za (.map c a)/\EsR ρ w e c.toList/\(∀g k o,ba7 g k es=za o->ba7 g k e=za o):=by
 have f:∀(c:Array MapEntry) (i:Nat),c.toList.getD i default=c.getD i default:=λmes i=>by simp[zd,zc]
 cases j with
 | am1=>cases h;exact .inl ⟨rfl,rfl⟩
 | am2 _ e b c a hp hd hf hb hl hk hv h4 h5=>
  cases h
  exact .inr ⟨b,c,a,e,rfl,hb,⟨by simpa using hl,λi hi=>by rw[f];exact ⟨hk i hi,hv i hi⟩⟩,λ_ _ _=>fu4 hp hd⟩
 | map id B d hi=>
  simp only[cc7] at h;have⟨o,n,m⟩:=hs.obj id B d hi;rw[n] at h
  cases o with
  | map e=>
   cases h;have⟨c,a,s,y,q,p,u,t⟩:=m
   exact .inr ⟨B,c,a,_,rfl,s,⟨by simpa using q,λi hi=>by rw[f];exact p i hi⟩,λ_ _ _ h=>h⟩
  | _=>cases h
 | mapD id B hi=>simp only[cc7,hs.dead id hi] at h;cases h
 | _=>cases h
def go9 {K B U:TypeId}{f:Nat}{d x k v:IV}{z:Value}{ok:Bool}{L A:Value}(D:P.underlying K=za (.map B U))(F:ib7 P B=za f)
  (M:(zeroValue U).run P w=.ok z w) (s:VR ρ w d z) (hs:Sim E ρ w σ) (h:cj3 σ f d ok x k=za v) (V:VR ρ w x L) (g:VR ρ w k A) :
  ∃r,(Instr.lookup K L A ok).run P w=.ok r w/\VR ρ w v r:=by
 unfold cj3 at h
 cases H:cc7 σ x with
 | none=>rw[H] at h;cases h
 | some es=>
  rw[H] at h;simp only at h
  cases o:ba7 f k es with
  | none=>rw[o] at h;cases h
  | some r=>
   rw[o] at h;cases h
   have c:∀(a:IV) (y:Value) (b:Bool),VR ρ w a y->VR ρ w (if ok then .tuple [a,.bool b] else a) (if ok then .tuple #[y,.bool b] else y):=by
    intro a y b Q
    cases ok with
    | true=>
     refine .tuple _ _ rfl λi hi=>?_
     match i,hi with
     | 0,_=>exact Q
     | 1,_=>exact .bool b
    | false=>exact Q
   have t:=fh1 o;have m:∀b,(Instr.checkKey b 10000 B A).run P w=.ok () w:=λb=>ct9 F t g
   rcases ie5 hs H V with ⟨rfl,rfl⟩|⟨b,p,n,J,rfl,Y,u,I⟩
   .have hf:=dz2 F g [] [] ⟨rfl,λi hi=>by simp at hi⟩ zb (λ_ e X=>by cases X) (λj W=>by cases W)
    have hr:r=zb:=by
     simp only[ba7,t] at o;cases o;rfl
    subst hr;exact ⟨_,by simp[Instr.lookup,run_underlying D,m,hf,M],c _ _ _ s⟩
   .have⟨q,g1,T,S⟩:=ie3 _ _ (I _ _ _ o);have hf:=dz2 F g J p.toList u q g1 T;have N:(getObj b).run P w=.ok (.map p n) w:=by simp[getObj,Sem.run,Y]
    cases q with
    | none=>
     subst S
     exact ⟨_,by simp[Instr.lookup,run_underlying D,N,m,hf,M],c _ _ _ s⟩
    | some j=>
     subst S;have:=(u.2 j (T j rfl).1).2;exact ⟨_,by simp[Instr.lookup,run_underlying D,N,m,hf],c _ _ _ this⟩
def mmI (mx:Bool):IV->IV->Option IV
 | .int k a,.int _ b=>za (.int k (if mx then (if b>a then b else a) else (if b<a then b else a)))
 | _,_=>zb
def gp1 {x y v:IV}{b a:Value}{ts:Array TypeId}{t:TypeId}(h:mmI true x y=za v)(d:VR ρ w x b)(c:VR ρ w y a):∃r,(Builtin.max_ ts t #[b,a]).run P w=.ok r w/\VR ρ w v r:=by
 cases d<;>simp only[mmI] at h<;>first|(cases h;done)|skip
 cases c<;>simp only[mmI] at h<;>cases h;exact ⟨_,by simp[Builtin.max_,Builtin.max2],.int _ _⟩
def gp2 {x y v:IV}{b a:Value}{ts:Array TypeId}{t:TypeId}(h:mmI false x y=za v)(d:VR ρ w x b)(c:VR ρ w y a):∃r,(Builtin.min_ ts t #[b,a]).run P w=.ok r w/\VR ρ w v r:=by
 cases d<;>simp only[mmI] at h<;>first|(cases h;done)|skip
 cases c<;>simp only[mmI] at h<;>cases h;exact ⟨_,by simp[Builtin.min_,Builtin.min2],.int _ _⟩
end Go.Id
namespace Go.Id
open Go
inductive IX where
 | t (n:Nat)
 | c (v:IV)
 | g (n:Nat)
 | f (n:Nat)
 deriving Inhabited
def IX.ev (E:Nat->IV)(fr:Frm):IX->IV
 | .t n=>fr.get n
 | .c v=>v
 | .g n=>E n
 | .f n=>.func (.func n) [] []
inductive IQ where
 | mov (x:IX)
 | pick (c a b:IX)
 | not (x:IX)
 | neg (x:IX)
 | bin (op:BinOp) (x y:IX)
 | fu6 (d:TypeDesc) (neg:Bool) (x:IX)
 | eqs (tags:List Nat) (agg neg:Bool) (x y:IX)
 | conv (k:IntKind) (x:IX)
 | gp4 (x:IX)
 | len (kind:Nat) (x:IX)
 | ev1 (off:Nat) (x:IX)
 | fld (agg:Option Nat) (off:Nat) (x:IX)
 | ev2 (esz:Nat) (x i:IX)
 | fu7 (n esz:Nat) (x i:IX)
 | idx (agg:Option Nat) (n esz:Nat) (x i:IX)
 | jt6 (x i:IX)
 | slc (esz:Nat) (x:IX) (lo hi:Option IX)
 | jt7 (x:IX) (lo hi:Option IX)
 | slz (x:IX)
 | ext (i:Nat) (x:IX)
 | mkf (fn:Nat) (first cap:List IX)
 | bld (zero:List IV) (parts:List (Nat×Nat×IX))
 | load (agg:Option Nat) (x:IX)
 | jt8 (x:IX)
 | mm (mx:Bool) (x y:IX)
 | lkp (tag:Nat) (zero:IV) (ok:Bool) (x k:IX)
 | ibs (x c:IX)
 | ldt (agg:Option Nat) (x:IX)
 | clp (esz:Nat) (x lo hi mx:IX)
 deriving Inhabited
def km7 (esz:Nat)(x lo hi mx:IV):Option IV :=
 match fg8 lo,fg8 hi,fg8 mx with
 | some 0,za h,za m=>if h=m then match x with
  | .aa5=>if h=0 then za .aa5 else zb
  | .ad2=>if h=0 then za .ad2 else zb
  | .slice did off len e=>if e=esz/\h<=len then (if h=0 then za .ad2 else za (.ag6 did off h e)) else zb
  | _=>zb
  else zb
 | _,_,_=>zb
def cx6 (kind:Nat)(σ:Store)(v:IV):Option IV :=
 match kind,v with
 | 0,.aa5|0,.ad2|0,.af7|0,.aa2 _|0,.slice _ _ _ _|0,.ag6 _ _ _ _|0,.al2 _ _ _ _ _=>ib5 σ v
 | 1,.str _=>ib5 σ v
 | 2,.am1|2,.map _=>ib5 σ v
 | _,_=>zb
def be1:IV->IV->IV->Option IV
 | .bool c,a,b=>za (if c then a else b)
 | _,_,_=>zb
def ib8 (tags:List Nat)(agg neg:Bool)(x y:IV):Option IV :=
 match agg,x,y with
 | true,.agg xs,.agg ys=>(allEq tags xs ys).map λb=>.bool (b ^^ neg)
 | false,.bool a,.bool b=>(allEq tags [.bool a] [.bool b]).map λb=>.bool (b ^^ neg)
 | _,_,_=>zb
def fu5 {a:List Nat}{neg:Bool}{x y v:IV}(h:ib8 a false neg x y=za v) :
  ∃d c b,x=.bool d/\y=.bool c/\allEq a [.bool d] [.bool c]=za b/\v=.bool (b ^^ neg):=by
 unfold ib8 at h;split at h
 .contradiction
 .rename_i d c _
  cases e:allEq a [.bool d] [.bool c] with
  | none=>rw[e] at h;cases h
  | some b=>rw[e] at h;cases h;exact ⟨d,c,b,rfl,rfl,e,rfl⟩
 .cases h
def ei6 {a:List Nat}{neg:Bool}{x y v:IV}(h:ib8 a true neg x y=za v):jv5 a neg x y=za v:=by
 unfold ib8 at h;split at h
 .exact h
 .contradiction
 .cases h
def et9 (c:Nat):List UInt8->Nat->Int
 | [],_=>-1
 | b::l,i=>if b.toNat=c then i else et9 c l (i+1)
def jv8:IV->IV->Option IV
 | .str s,.int .u8 n=>if 0<=n/\n<256 then za (.int .i64 (et9 n.toNat s 0)) else zb
 | _,_=>zb
def jt4 (agg:Option Nat)(v:IV):Option IV:=match v with
 | .ab5 cs=>ay8 ⟨0,λ_=>zb⟩ agg (.ab5 cs)
 | _=>zb
def ie6 {a:Option Nat}{v u:IV}(h:jt4 a v=za u)(σ:Store):ay8 σ a v=za u:=by
 unfold jt4 at h;split at h
 .exact h
 .cases h
def evq (E:Nat->IV)(fr:Frm)(σ:Store):IQ->Option IV
 | .mov x=>za (x.ev E fr)
 | .pick c a b=>be1 (c.ev E fr) (a.ev E fr) (b.ev E fr)
 | .not x=>jv6 (x.ev E fr)
 | .neg x=>jv7 (x.ev E fr)
 | .bin op x y=>aw5 op (x.ev E fr) (y.ev E fr)
 | .fu6 d neg x=>(ci5 d (x.ev E fr)).map λb=>.bool (b ^^ neg)
 | .eqs tags agg neg x y=>ib8 tags agg neg (x.ev E fr) (y.ev E fr)
 | .conv k x=>go3 k (x.ev E fr)
 | .gp4 x=>ei2 (x.ev E fr)
 | .len kind x=>cx6 kind σ (x.ev E fr)
 | .ev1 off x=>ci9 off (x.ev E fr)
 | .fld agg off x=>jt3 agg off (x.ev E fr)
 | .ev2 esz x i=>av5 esz (x.ev E fr) (i.ev E fr)
 | .fu7 n esz x i=>dm3 n esz (x.ev E fr) (i.ev E fr)
 | .idx agg n esz x i=>je2 agg n esz (x.ev E fr) (i.ev E fr)
 | .jt6 x i=>dy7 (x.ev E fr) (i.ev E fr)
 | .slc esz x lo hi=>dj2 esz (lo.map (·.ev E fr)) (hi.map (·.ev E fr)) (x.ev E fr)
 | .jt7 x lo hi=>cw2 (lo.map (·.ev E fr)) (hi.map (·.ev E fr)) (x.ev E fr)
 | .slz x=>ib6 (x.ev E fr)
 | .ext i x=>je3 i (x.ev E fr)
 | .mkf fn first cap=>za (.func (.func fn) (first.map (·.ev E fr)) (cap.map (·.ev E fr)))
 | .bld zero parts=>(au8 zero (parts.map λp=>(p.1,p.2.1,p.2.2.ev E fr))).map .agg
 | .load agg x=>ay8 σ agg (x.ev E fr)
 | .jt8 x=>dy9 (x.ev E fr)
 | .mm mx x y=>mmI mx (x.ev E fr) (y.ev E fr)
 | .lkp tag zero ok x k=>cj3 σ tag zero ok (x.ev E fr) (k.ev E fr)
 | .ibs x c=>jv8 (x.ev E fr) (c.ev E fr)
 | .ldt agg x=>jt4 agg (x.ev E fr)
 | .clp esz x lo hi mx=>km7 esz (x.ev E fr) (lo.ev E fr) (hi.ev E fr) (mx.ev E fr)
def ak1:Operand->Option IX
 | .tmp t=>za (.t t)
 | .const v=>(cv v).map .c
 | .global g=>za (.g g)
 | .func f=>za (.f f)
def ei7:List Operand->Option (List IX)
 | []=>za []
 | x::xs=>match ak1 x,ei7 xs with
  | some y,za ys=>za (y::ys)
  | _,_=>zb
def jt5:Option Operand->Option (Option IX)
 | none=>za zb
 | some x=>(ak1 x).map za
def da9 (P:Program)(t:TypeId)(i:Nat):Option (Nat×Nat):=
 match P.underlying t with
 | some (.struct fs)=>match fs[i]? with
  | some f=>(szT P f.type).map λn=>(f.offset,n)
  | none=>zb
 | some (.array _ e)=>(szT P e).map λn=>(i*n,n)
 | _=>zb
def ba1 (P:Program)(place:Nat->Option (Nat×Nat)):List (Nat×Operand)->Option (List (Nat×Nat×IX))
 | []=>za []
 | (i,x)::ps=>match place i,ak1 x,ba1 P place ps with
  | some (off,n),za y,za ys=>za ((off,n,y)::ys)
  | _,_,_=>zb
def bl9 (P:Program)(t:TypeId):Option (List IV):=
 match P.info? t with
 | some i=>match i.zero with
  | some z=>cvs z
  | none=>zb
 | none=>zb
def zeroV (P:Program)(t:TypeId):Option IV :=
 match P.info? t with
 | some i=>match i.zero with
  | some z=>cv z
  | none=>zb
 | none=>zb
def cu1:Operand->TypeDesc->Bool
 | .const (.pointer zb),.pointer _=>true
 | .const (.slice zb 0 0),.slice _=>true
 | .const (.map zb),.map _ _=>true
 | .const .nilFunc,.func _ _ _=>true
 | _,_=>false
def sized (P:Program)(t:TypeId):Bool :=
 match P.underlying t with
 | some (.struct fs)=>fs.toList.all λf=>(szT P f.type).isSome
 | some (.array _ e)=>(szT P e).isSome
 | _=>false
def gp3 (P:Program)(op:BinOp)(t:TypeId)(x y:Operand):Option IQ :=
 match P.underlying t with
 | some (.int _)|some .string=>match ak1 x,ak1 y with
  | some a,za b=>za (.bin op a b)
  | _,_=>zb
 | some .bool=>match ak1 x,ak1 y,cw3 P 30 t with
  | some a,za b,za tags=>if op=.eql\/op=.neq then za (.eqs tags false (decide (op=.neq)) a b) else zb
  | _,_,_=>zb
 | some (.struct _)|some (.array _ _)=>match ak1 x,ak1 y,cw3 P 30 t,aq5 P t with
  | some a,za b,za tags,za (za _)=>if (op=.eql\/op=.neq)/\30<=P.depth then za (.eqs tags true (decide (op=.neq)) a b) else zb
  | _,_,_,_=>zb
 | some d=>if (op=.eql\/op=.neq)/\cu1 y d=true then (ak1 x).map λa=>.fu6 d (decide (op=.neq)) a else zb
 | none=>zb
def je5 (P : Program) (f : FuncId) : Bool := (P.funcs[f]?).any fun fn => fn.name == "internal/bytealg.IndexByteString" && fn.body.isNone && fn.origin == ""
def ie7 (P:Program) (op:Op):Option IQ :=
 match op with
 | .move x|.assign x=>(ak1 x).map .mov
 | .pick c a b=>match ak1 c,ak1 a,ak1 b with
  | some c,za a,za b=>za (.pick c a b)
  | _,_,_=>zb
 | .unOp .not _ x=>(ak1 x).map .not
 | .unOp .neg _ x=>(ak1 x).map .neg
 | .binOp op t x y _=>gp3 P op t x y
 | .convert s d x=>match P.underlying s,P.underlying d with
  | some (.int _),za (.int k)=>(ak1 x).map (.conv k)
  | some .string,za .string=>(ak1 x).map .gp4
  | _,_=>zb
 | .call { callee:=.builtin .len,args,argTypes }=>match args.toList,argTypes.toList with
  | [x],[t]=>match P.underlying t with
   | some (.slice _)=>(ak1 x).map (.len 0)
   | some .string=>(ak1 x).map (.len 1)
   | some (.map _ _)=>(ak1 x).map (.len 2)
   | _=>zb
  | _,_=>zb
 | .fieldAddr s x i=>match P.underlying s with
  | some (.struct fs)=>match fs[i]? with
   | some f=>match szT P f.type with
    | some (_+1)=>(ak1 x).map (.ev1 f.offset)
    | _=>zb
   | none=>zb
  | _=>zb
 | .field s x i=>match P.underlying s with
  | some (.struct fs)=>match fs[i]? with
   | some f=>match aq5 P f.type with
    | some agg=>(ak1 x).map (.fld agg f.offset)
    | none=>zb
   | none=>zb
  | _=>zb
 | .indexAddr t x i=>match P.underlying t with
  | some (.slice e)=>match szT P e,ak1 x,ak1 i with
   | some n,za a,za b=>za (.ev2 n a b)
   | _,_,_=>zb
  | some (.array m e)=>match szT P e,ak1 x,ak1 i with
   | some n,za a,za b=>za (.fu7 m n a b)
   | _,_,_=>zb
  | _=>zb
 | .index t x i=>match P.underlying t with
  | some .string=>match ak1 x,ak1 i with
   | some a,za b=>za (.jt6 a b)
   | _,_=>zb
  | some (.array m e)=>match szT P e,aq5 P e,ak1 x,ak1 i with
   | some n,za agg,za a,za b=>za (.idx agg m n a b)
   | _,_,_,_=>zb
  | _=>zb
 | .slice t x lo hi zb=>match P.underlying t with
  | some (.slice e)=>match szT P e,ak1 x,jt5 lo,jt5 hi with
   | some n,za a,za l,za h=>za (.slc n a l h)
   | _,_,_,_=>zb
  | some .string=>match ak1 x,jt5 lo,jt5 hi with
   | some a,za l,za h=>za (.jt7 a l h)
   | _,_,_=>zb
  | _=>zb
 | .slice t x zb (za (.const (.int _ 0))) (za (.const (.int _ 0)))=>match P.underlying t with
  | some (.slice e)=>match szT P e,ak1 x with
   | some _,za a=>za (.slz a)
   | _,_=>zb
  | _=>zb
 | .extract x i=>(ak1 x).map (.ext i)
 | .makeFunc (.func fn) first cap=>match ei7 first.toList,ei7 cap.toList with
  | some a,za b=>za (.mkf fn a b)
  | _,_=>zb
 | .build t parts=>match bl9 P t,ba1 P (da9 P t) parts.toList with
  | some z,za ps=>if sized P t then za (.bld z ps) else zb
  | _,_=>zb
 | .load t x=>match aq5 P t,ak1 x with
  | some agg,za a=>za (.load agg a)
  | _,_=>zb
 | .nilCheck x=>(ak1 x).map .jt8
 | .call { callee:=.builtin .max,args,argTypes:=_ }=>match args.toList with
  | [x,y]=>match ak1 x,ak1 y with
   | some a,za b=>za (.mm true a b)
   | _,_=>zb
  | _=>zb
 | .call { callee:=.builtin .min,args,argTypes:=_ }=>match args.toList with
  | [x,y]=>match ak1 x,ak1 y with
   | some a,za b=>za (.mm false a b)
   | _,_=>zb
  | _=>zb
 | .lookup xt x k ok=>match P.underlying xt with
  | some (.map kt et)=>match ib7 P kt,zeroV P et,ak1 x,ak1 k with
   | some tag,za z,za a,za b=>za (.lkp tag z ok a b)
   | _,_,_,_=>zb
  | _=>zb
 | .call { callee:=.value (.func f),args,argTypes:=_ }=>if je5 P f then (match args.toList with
  | [x,y]=>match ak1 x,ak1 y with
   | some a,za b=>za (.ibs a b)
   | _,_=>zb
  | _=>zb) else zb
 | _=>zb
variable {P:Program} {w:World} {ρ:Rho} {E:Nat->IV} {σ:Store} {N:Nat} {fr:Frm} {a:Act}
def ab1 {x:Operand}{y:IX}(h:ak1 x=za y)(hs:Sim E ρ w σ)(hf:FR ρ w N fr a.tmps):VR ρ w (y.ev E fr) (a.eval x):=by
 cases x with
 | tmp t=>cases h;exact hf.get t
 | const v=>
  simp only[ak1] at h
  cases hc:cv v with
  | none=>rw[hc] at h;cases h
  | some z=>rw[hc] at h;cases h;exact fg9 hc
 | global g=>cases h;exact hs.env g
 | func f=>
  cases h;exact .func (.func f) [] [] #[] #[] (λl h=>by cases h) rfl rfl (λi hi=>by simp at hi) (λi hi=>by simp at hi)
def bz2 {xs:List Operand}{b:List IX}(h:ei7 xs=za b)(hs:Sim E ρ w σ)(hf:FR ρ w N fr a.tmps) :
  CR ρ w (b.map (·.ev E fr)) (xs.map a.eval).toArray:=by
 induction xs generalizing b with
 | nil=>cases h;exact ⟨rfl,λi hi=>by simp at hi⟩
 | cons x xs ih=>
  simp only[ei7] at h;split at h
  .rename_i y c g f;cases h;have⟨e,d⟩:=ih f;refine ⟨by simpa using e,λi hi=>?_⟩
   cases i with
   | zero=>simpa using ab1 g hs hf
   | succ i=>
    have:=d i (by simpa using hi)
    simpa [zc] using this
  .cases h
def bs6 {x:Option Operand}{y:Option IX}(h:jt5 x=za y)(hs:Sim E ρ w σ)(hf:FR ρ w N fr a.tmps):OVR ρ w (y.map (·.ev E fr)) (x.map a.eval):=by
 cases x with
 | none=>cases h;trivial
 | some x=>
  simp only[jt5] at h
  cases hc:ak1 x with
  | none=>rw[hc] at h;cases h
  | some z=>rw[hc] at h;cases h;exact ab1 hc hs hf
def map_some {d c:Type}{o:Option d}{f:d->c}{b:c}(h:o.map f=za b):∃x,o=za x/\f x=b:=by
 cases o with
 | none=>cases h
 | some x=>cases h;exact ⟨x,rfl,rfl⟩
end Go.Id
