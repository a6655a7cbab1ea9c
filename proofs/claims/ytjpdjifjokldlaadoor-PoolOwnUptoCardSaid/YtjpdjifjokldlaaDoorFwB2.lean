/- The ideal values,the ideal store,how they stand for the model's values and world; what a step of the world keeps. Conditions: none; over any program. -/
import Derived.RangeFuncLeaves
import Derived.OrdersIn
import Derived.LoopNIn
import Derived.TacticsIn
import Derived.WalkKit
set_option linter.all false
namespace Go.Id
inductive IV where
 | undef
 | bool (b:Bool)
 | int (k:IntKind) (n:Int)
 | str (s:List UInt8)
 | ad3
 | ptr (id off:Nat)
 | af4 (cs:List IV)
 | aa1
 | ab4
 | ad4
 | slice (id off len esz:Nat)
 | aa4 (es:List (List IV))
 | af9
 | map (id:Nat)
 | al5 (es:List (IV×IV))
 | func (fn:Fn) (first cap:List IV)
 | yield (id:Nat)
 | ae6
 | iface (t:Nat) (v:IV)
 | ae1
 | agg (cs:List IV)
 | tuple (vs:List IV)
 | ae2 (id off len esz:Nat)
 | ad7 (id off len room esz:Nat)
 deriving Inhabited
inductive ah2 where
 | cells (cs:List IV)
 | row (cs:List IV)
 | map (es:List (IV×IV))
 | ap5 (s:List UInt8) (pos:Nat)
 | loop (N:Nat) (tmps:List (Nat×IV)) (params:Array Tmp) (assign body:Code) (st:LoopState) (pend:Option Code)
 | ai8 (left:List (IV×IV)) (cur:Option (IV×IV))
 deriving Inhabited
inductive da1 where
 | no
 | dead
 | at (B d:Nat)
structure Store where
 next:Nat
 obj:Nat→Option ah2
structure Rho where
 map:Nat→da1
 X:Nat→Prop
instance:CoeFun Rho (fun _=>Nat→da1):=⟨Rho.map⟩
structure UB (ρ:Rho) (w:World) (b:Nat):Prop where
 lt:b<w.heap.size
 no:∀ i d,ρ i≠.at b d
structure FB (ρ:Rho) (w:World) (b:Nat):Prop where
 lt:b<w.heap.size
 no:∀ i d,ρ i≠.at b d
 x:¬ ρ.X b
theorem FB.ub {ρ:Rho}{w:World}{b:Nat}(h:FB ρ w b):UB ρ w b:=⟨h.1,h.2⟩
inductive KK where
 | str
 | int (k:IntKind)
 | agg (ks:List IntKind)
def bi1:KK→IV→Prop
 | .str,.str _=>True
 | .int k,.int k' _=>k'=k
 | .agg ks,.agg cs=>cs.length=ks.length∧∀ i,i<cs.length→∃ n,cs.getD i .undef=.int (ks.getD i .i64) n
 | _,_=>False
def da4 (es:List (IV×IV)):Prop:=(es.map (·.1)).Nodup∧∃ K,∀ e∈es,bi1 K e.1
inductive VR (ρ:Rho) (w:World):IV→Value→Prop
 | undef (r:Value):VR ρ w .undef r
 | bool (b:Bool):VR ρ w (.bool b) (.bool b)
 | int (k:IntKind) (n:Int):VR ρ w (.int k n) (.int k n)
 | str (s:List UInt8):VR ρ w (.str s) (.string ⟨s.toArray⟩)
 | ad3:VR ρ w .ad3 (.pointer none)
 | ptr (id off B d:Nat) (h:ρ id=.at B d):VR ρ w (.ptr id off) (.pointer (some ⟨B,d+off,none⟩))
 | ca2 (id off:Nat) (ad:Addr) (h:ρ id=.dead):VR ρ w (.ptr id off) (.pointer (some ad))
 | af4 (cs:List IV) (b o:Nat) (vs:Nat→Value) (hf:FB ρ w b)
   (hc:∀ j,j<cs.length→w.cell? ⟨b,o+j,none⟩=some (vs j)) (hv:∀ j,j<cs.length→VR ρ w (cs.getD j .undef) (vs j)) :
   VR ρ w (.af4 cs) (.pointer (some ⟨b,o,none⟩))
 | aa1:VR ρ w .aa1 (.slice none 0 0)
 | ab4 (a:Addr):VR ρ w .ab4 (.slice (some a) 0 0)
 | ad4 (a:Addr) (cap:Nat):VR ρ w .ad4 (.slice (some a) 0 cap)
 | slice (id off len esz B d cap:Nat) (rcs:Array Value) (el:TypeId) (fz:Nat×Nat) (h:ρ id=.at B d)
   (hb:w.heap[B]? = some (.cells rcs el fz)) (hsz:d+off+cap*esz≤rcs.size) (hle:len≤cap) :
   VR ρ w (.slice id off len esz) (.slice (some ⟨B,d+off,none⟩) len cap)
 | ag5 (id off esz B d:Nat) (a:Addr) (h:ρ id=.at B d):VR ρ w (.slice id off 0 esz) (.slice (some a) 0 0)
 | ag6 (id off len esz cap:Nat) (ad:Addr) (h:ρ id=.dead) (hle:len≤cap):VR ρ w (.slice id off len esz) (.slice (some ad) len cap)
 | aa4 (es:List (List IV)) (b o cap esz:Nat) (sp:Option Nat) (vs:Nat→Nat→Value) (hf:es≠[]→FB ρ w b∧sp=none)
   (hsz:∀ i,i<es.length→(es.getD i []).length=esz)
   (hc:∀ i,i<es.length→∀ j,j<esz→w.cell? ⟨b,o+(i*esz+j),none⟩=some (vs i j))
   (hv:∀ i,i<es.length→∀ j,j<esz→VR ρ w ((es.getD i []).getD j .undef) (vs i j)) (hle:es.length≤cap) :
   VR ρ w (.aa4 es) (.slice (some ⟨b,o,sp⟩) es.length cap)
 | bp2:VR ρ w (.aa4 []) (.slice none 0 0)
 | af9:VR ρ w .af9 (.map none)
 | map (id B d:Nat) (h:ρ id=.at B d):VR ρ w (.map id) (.map (some B))
 | mapD (id B:Nat) (h:ρ id=.dead):VR ρ w (.map id) (.map (some B))
 | al5 (es es':List (IV×IV)) (b:Nat) (mes:Array MapEntry) (clock:Nat) (hp:es'.Perm es) (hd:da4 es) (hf:FB ρ w b) (hb:w.heap[b]? = some (.map mes clock)) (hl:es'.length=mes.size)
   (hk:∀ i,i<es'.length→VR ρ w (es'.getD i (.undef,.undef)).1 (mes.getD i default).key) (hv:∀ i,i<es'.length→VR ρ w (es'.getD i (.undef,.undef)).2 (mes.getD i default).val)
   (h4:∀ i,i<mes.size→(mes.getD i default).born<clock) (h5:∀ i j,i<j→j<mes.size→(mes.getD i default).born≠(mes.getD j default).born):VR ρ w (.al5 es) (.map (some b))
 | func (fn:Fn) (first cap:List IV) (rf rc:Array Value) (hy:∀ l,fn≠.yield l) (h1:first.length=rf.size) (h2:cap.length=rc.size)
   (hf:∀ i,i<first.length→VR ρ w (first.getD i .undef) (rf.getD i undef)) (hc:∀ i,i<cap.length→VR ρ w (cap.getD i .undef) (rc.getD i undef)) :
   VR ρ w (.func fn first cap) (.func fn rf rc)
 | yield (id B d:Nat) (h:ρ id=.at B d):VR ρ w (.yield id) (.func (.yield B) #[] #[])
 | as7 (id B:Nat) (h:ρ id=.dead):VR ρ w (.yield id) (.func (.yield B) #[] #[])
 | ae6:VR ρ w .ae6 .nilFunc
 | iface (t:Nat) (v:IV) (r:Value) (h:VR ρ w v r):VR ρ w (.iface t v) (.iface t r)
 | ae1:VR ρ w .ae1 .nilIface
 | agg (cs:List IV) (rs:Array Value) (h:cs.length=rs.size) (hv:∀ i,i<cs.length→VR ρ w (cs.getD i .undef) (rs.getD i undef)):VR ρ w (.agg cs) (.agg rs)
 | tuple (cs:List IV) (rs:Array Value) (h:cs.length=rs.size) (hv:∀ i,i<cs.length→VR ρ w (cs.getD i .undef) (rs.getD i undef)):VR ρ w (.tuple cs) (.tuple rs)
 | ae2 (id off len esz B d:Nat) (rcs:Array Value) (el:TypeId) (fz:Nat×Nat) (h:ρ id=.at B d)
   (hb:w.heap[B]? = some (.cells rcs el fz)) (hsz:d+off+len*esz≤rcs.size):VR ρ w (.ae2 id off len esz) (.slice (some ⟨B,d+off,none⟩) len len)
 | ak1 (id off len esz:Nat) (ad:Addr) (h:ρ id=.dead):VR ρ w (.ae2 id off len esz) (.slice (some ad) len len)
 | ad7 (id off len room esz B d cap:Nat) (rcs:Array Value) (el:TypeId) (fz:Nat×Nat) (h:ρ id=.at B d)
   (hb:w.heap[B]? = some (.cells rcs el fz)) (hsz:d+off+cap*esz≤rcs.size) (hle:len≤room) (hr:room≤cap):VR ρ w (.ad7 id off len room esz) (.slice (some ⟨B,d+off,none⟩) len cap)
 | ak9 (id off len room esz cap:Nat) (ad:Addr) (h:ρ id=.dead) (hle:len≤room) (hr:room≤cap):VR ρ w (.ad7 id off len room esz) (.slice (some ad) len cap)
structure Ext (n:Nat) (ρ:Rho) (w:World) (ρ':Rho) (w':World):Prop where
 size:w.heap.size≤w'.heap.size
 keep:∀ b,UB ρ w b→w'.heap[b]? = w.heap[b]?
 shape:∀ (b:Nat) (rcs:Array Value) (el:TypeId) (fz:Nat×Nat),w.heap[b]? = some (.cells rcs el fz)→∃ rcs':Array Value,w'.heap[b]? = some (.cells rcs' el fz)∧rcs'.size=rcs.size
 img:∀ i B d,ρ' i=.at B d→(∃ j d',ρ j=.at B d')∨w.heap.size≤B
 at_:∀ i B d,ρ i=.at B d→ρ' i=.at B d∨ρ' i=.dead
 dead:∀ i,ρ i=.dead→ρ' i=.dead
 no:∀ i,i<n→ρ i=.no→ρ' i=.no
 output:w'.output=w.output
 os:w'.os=w.os
 tape:w'.tape=w.tape∧w.drawn≤w'.drawn
 loops:∀ (l:Nat) (L:Loop),w.heap[l]? = some (Obj.loop L)→∃ L':Loop,w'.heap[l]? = some (Obj.loop L')
 X:ρ'.X=ρ.X
theorem Ext.refl (n:Nat)(ρ:Rho)(w:World):Ext n ρ w ρ w :=
 ⟨Nat.le_refl _,fun _ _=>rfl,fun _ r _ _ h=>⟨r,h,rfl⟩,fun i B d h=>.inl ⟨i,d,h⟩,fun _ _ _ h=>.inl h,fun _ h=>h,fun _ _ h=>h,rfl,rfl,⟨rfl,Nat.le_refl _⟩,fun _ L h=>⟨L,h⟩,rfl⟩
theorem Ext.ub {n:Nat}{ρ ρ':Rho}{w w':World}(h:Ext n ρ w ρ' w'){b:Nat}(hb:UB ρ w b):UB ρ' w' b:=by
 refine ⟨Nat.lt_of_lt_of_le hb.1 h.size,fun i d hi=>?_⟩;rcases h.img i b d hi with ⟨j,d',hj⟩|hlt
 ·exact hb.2 j d' hj
 ·exact absurd hb.1 (Nat.not_lt.2 hlt)
theorem Ext.fb {n:Nat}{ρ ρ':Rho}{w w':World}(h:Ext n ρ w ρ' w'){b:Nat}(hb:FB ρ w b):FB ρ' w' b :=
 ⟨(h.ub hb.ub).1,(h.ub hb.ub).2,by rw[h.X]; exact hb.3⟩
theorem Ext.trans {n n':Nat}{ρ ρ' ρ'':Rho}{w w' w'':World}(h:Ext n ρ w ρ' w')(h':Ext n' ρ' w' ρ'' w'')(hn:n≤n'):Ext n ρ w ρ'' w'' where
 size:=Nat.le_trans h.size h'.size
 keep:=fun b hb=>by rw[h'.keep b (h.ub hb),h.keep b hb]
 shape:=fun b rcs el fz hb=>by
  obtain ⟨r1,h1,s1⟩:=h.shape b rcs el fz hb;obtain ⟨r2,h2,s2⟩:=h'.shape b r1 el fz h1;exact ⟨r2,h2,by rw[s2,s1]⟩
 img:=fun i B d hi=>by
  rcases h'.img i B d hi with ⟨j,d',hj⟩|hlt
  ·exact h.img j B d' hj
  ·exact .inr (Nat.le_trans h.size hlt)
 at_:=fun i B d hi=>by
  rcases h.at_ i B d hi with h1|h1
  ·exact h'.at_ i B d h1
  ·exact .inr (h'.dead i h1)
 dead:=fun i hi=>h'.dead i (h.dead i hi)
 no:=fun i hi h0=>h'.no i (Nat.lt_of_lt_of_le hi hn) (h.no i hi h0)
 output:=by rw[h'.output,h.output]
 os:=by rw[h'.os,h.os]
 tape:=⟨by rw[h'.tape.1,h.tape.1],Nat.le_trans h.tape.2 h'.tape.2⟩
 loops:=fun l L hl=>let ⟨L',h1⟩:=h.loops l L hl; h'.loops l L' h1
 X:=by rw[h'.X,h.X]
theorem Ext.cell {n:Nat}{ρ ρ':Rho}{w w':World}(h:Ext n ρ w ρ' w'){b o:Nat}(hb:FB ρ w b):w'.cell? ⟨b,o,none⟩=w.cell? ⟨b,o,none⟩:=by
 unfold World.cell?;rw[h.keep b hb.ub]
theorem VR.mono {n:Nat}{ρ ρ':Rho}{w w':World}(h:Ext n ρ w ρ' w'){v:IV}{r:Value}(hv:VR ρ w v r):VR ρ' w' v r:=by
 induction hv with
 | undef r=>exact .undef r
 | bool b=>exact .bool b
 | int k n=>exact .int k n
 | str s=>exact .str s
 | ad3=>exact .ad3
 | ptr id off B d hi=>
  rcases h.at_ id B d hi with h1|h1
  ·exact .ptr id off B d h1
  ·exact .ca2 id off _ h1
 | ca2 id off ad hi=>exact .ca2 id off ad (h.dead id hi)
 | af4 cs b o vs hf hc _ ih=>exact .af4 cs b o vs (h.fb hf) (fun j hj=>by rw[h.cell hf]; exact hc j hj) ih
 | aa1=>exact .aa1
 | ab4 a=>exact .ab4 a
 | ad4 a cap=>exact .ad4 a cap
 | slice id off len esz B d cap rcs el fz hi hb hsz hle=>
  rcases h.at_ id B d hi with h1|h1
  ·obtain ⟨rcs',hb',hs'⟩:=h.shape B rcs el fz hb;exact .slice id off len esz B d cap rcs' el fz h1 hb' (by rw[hs']; exact hsz) hle
  ·exact .ag6 id off len esz cap _ h1 hle
 | ag5 id off esz B d a hi=>
  rcases h.at_ id B d hi with h1|h1
  ·exact .ag5 id off esz B d a h1
  ·exact .ag6 id off 0 esz 0 _ h1 (Nat.le_refl _)
 | ag6 id off len esz cap ad hi hle=>exact .ag6 id off len esz cap ad (h.dead id hi) hle
 | ae2 id off len esz B d rcs el fz hi hb hsz=>
  rcases h.at_ id B d hi with h1|h1
  ·obtain ⟨rcs',hb',hs'⟩:=h.shape B rcs el fz hb;exact .ae2 id off len esz B d rcs' el fz h1 hb' (by rw[hs']; exact hsz)
  ·exact .ak1 id off len esz _ h1
 | ak1 id off len esz ad hi=>exact .ak1 id off len esz ad (h.dead id hi)
 | ad7 id off len room esz B d cap rcs el fz hi hb hsz hle hr=>
  rcases h.at_ id B d hi with h1|h1
  ·obtain ⟨rcs',hb',hs'⟩:=h.shape B rcs el fz hb;exact .ad7 id off len room esz B d cap rcs' el fz h1 hb' (by rw[hs']; exact hsz) hle hr
  ·exact .ak9 id off len room esz cap _ h1 hle hr
 | ak9 id off len room esz cap ad hi hle hr=>exact .ak9 id off len room esz cap ad (h.dead id hi) hle hr
 | aa4 es b o cap esz sp vs hf hsz hc _ hle ih=>
  refine .aa4 es b o cap esz sp vs (fun hne=>⟨h.fb (hf hne).1,(hf hne).2⟩) hsz (fun i hi j hj=>?_) ih hle;rw[h.cell (hf (by intro h0; subst h0; simp at hi)).1]
  exact hc i hi j hj
 | bp2=>exact .bp2
 | af9=>exact .af9
 | map id B d hi=>
  rcases h.at_ id B d hi with h1|h1
  ·exact .map id B d h1
  ·exact .mapD id _ h1
 | mapD id B hi=>exact .mapD id B (h.dead id hi)
 | al5 es es' b mes clock hp hd hf hb hl _ _ h4 h5 ihk ihv=>exact .al5 es es' b mes clock hp hd (h.fb hf) (by rw[h.keep b hf.ub]; exact hb) hl ihk ihv h4 h5
 | func fn first cap rf rc hy h1 h2 _ _ ihf ihc=>exact .func fn first cap rf rc hy h1 h2 ihf ihc
 | yield id B d hi=>
  rcases h.at_ id B d hi with h1|h1
  ·exact .yield id B d h1
  ·exact .as7 id _ h1
 | as7 id B hi=>exact .as7 id B (h.dead id hi)
 | ae6=>exact .ae6
 | iface t v r _ ih=>exact .iface t v r ih
 | ae1=>exact .ae1
 | agg cs rs h1 _ ih=>exact .agg cs rs h1 ih
 | tuple cs rs h1 _ ih=>exact .tuple cs rs h1 ih
def ak8 (ρ:Rho)(w:World)(B d:Nat)(cs:List IV):Prop :=
 ∃ (rcs:Array Value) (el:TypeId),w.heap[B]? = some (.cells rcs el (0,0))∧d+cs.length≤rcs.size∧∀ i,i<cs.length→VR ρ w (cs.getD i .undef) (rcs.getD (d+i) undef)
def OR (ρ:Rho) (w:World) (B d:Nat):ah2→Prop
 | .cells cs|.row cs=>ak8 ρ w B d cs
 | .map es=>∃ (mes:Array MapEntry) (clock:Nat),w.heap[B]? = some (.map mes clock)∧d=0∧es.length=mes.size ∧
   (∀ i,i<es.length→VR ρ w (es.getD i (.undef,.undef)).1 (mes.getD i default).key∧VR ρ w (es.getD i (.undef,.undef)).2 (mes.getD i default).val) ∧
   (∀ i,i<mes.size→(mes.getD i default).born<clock)∧(∀ i j,i<j→j<mes.size→(mes.getD i default).born≠(mes.getD j default).born)
 | .ap5 s pos=>w.heap[B]? = some (.stringIter ⟨s.toArray⟩ pos)∧d=0
 | .loop N tmps params assign body st pend=>d=0∧∃ l:Loop,w.heap[B]? = some (.loop l)∧l.params=params∧l.assign=assign∧l.body=body∧l.pending=pend∧l.state=st∧l.tmps.size=N ∧
   (∀ t,VR ρ w ((tmps.lookup t).getD .undef) (l.tmps.getD t undef))
 | .ai8 left cur=>d=0∧∃ (mb last:Nat) (seen:Array Nat) (mes:Array MapEntry) (clock:Nat) (lft:List (IV×IV)),w.heap[B]? = some (.mapIter (some mb) clock seen last)∧FB ρ w mb∧w.heap[mb]? = some (.map mes clock) ∧
   (∀ i,i<mes.size→(mes.getD i default).born<clock)∧(∀ i j,i<j→j<mes.size→(mes.getD i default).born≠(mes.getD j default).born)∧last=clock ∧
   lft.length=(mes.toList.filter fun e=>!seen.contains e.born).length∧lft.Perm left ∧
   (∀ c,cur=some c→∃ i,i<mes.size∧seen.back? = some (mes.getD i default).born∧VR ρ w c.1 (mes.getD i default).key∧VR ρ w c.2 (mes.getD i default).val) ∧
    ∀ i,i<lft.length→VR ρ w (lft.getD i (.undef,.undef)).1 ((mes.toList.filter fun e=>!seen.contains e.born).getD i default).key∧VR ρ w (lft.getD i (.undef,.undef)).2 ((mes.toList.filter fun e=>!seen.contains e.born).getD i default).val
structure Sim (E:Nat→IV) (ρ:Rho) (w:World) (σ:Store):Prop where
 inj:∀ i j B d d',ρ i=.at B d→ρ j=.at B d'→i=j
 lt:∀ i B d,ρ i=.at B d→B<w.heap.size
 obj:∀ i B d,ρ i=.at B d→∃ o,σ.obj i=some o∧OR ρ w B d o
 dead:∀ i,ρ i=.dead→σ.obj i=none
 fresh:∀ i,σ.next≤i→ρ i=.no
 ak6:∀ i,ρ i=.no→σ.obj i=none
 env:∀ g,VR ρ w (E g) (.pointer (some ⟨g,0,none⟩))
 nx:∀ i B d,ρ i=.at B d→¬ ρ.X B
 xlt:∀ b,ρ.X b→b<w.heap.size
abbrev Frm:=List (Nat×IV)
def Frm.get (fr:Frm)(t:Nat):IV:=(fr.lookup t).getD .undef
def Frm.keep (fr:Frm)(ks:List Nat):Frm:=ks.map fun k=>(k,fr.get k)
def Frm.set (fr:Frm)(t:Nat)(v:IV):Frm:=(t,v)::fr
structure FR (ρ:Rho) (w:World) (N:Nat) (fr:Frm) (tmps:Array Value):Prop where
 size:tmps.size=N
 get:∀ t,VR ρ w (fr.get t) (tmps.getD t undef)
theorem FR.mono {n N:Nat}{ρ ρ':Rho}{w w':World}{fr:Frm}{tmps:Array Value}(h:Ext n ρ w ρ' w')(hf:FR ρ w N fr tmps):FR ρ' w' N fr tmps :=
 ⟨hf.size,fun t=>(hf.get t).mono h⟩
theorem Frm.bi2 (fr:Frm)(t s:Nat)(v:IV):(fr.set t v).get s=if s=t then v else fr.get s:=by
 unfold Frm.get Frm.set;by_cases h:s=t
 ·subst h; simp
 ·have:(s==t)=false:=by simpa using h
  simp[List.lookup_cons,this,h]
theorem FR.set {N:Nat}{ρ:Rho}{w:World}{fr:Frm}{tmps:Array Value}{t:Nat}{v:IV}{r:Value}(hf:FR ρ w N fr tmps)(ht:t<N)(hv:VR ρ w v r) :
  FR ρ w N (fr.set t v) (tmps.setIfInBounds t r):=by
 refine ⟨by simp[hf.size],fun s=>?_⟩;rw[Frm.bi2];by_cases h:s=t
 ·subst h;have:s<tmps.size:=by rw[hf.size]; exact ht
  simp[Array.getD_eq_getD_getElem?,this,hv]
 ·have h':¬ t=s:=fun e=>h e.symm
  have:=hf.get s;simp only[Array.getD_eq_getD_getElem?] at this ⊢
  simpa [h,Array.getElem?_setIfInBounds,h'] using this
theorem Frm.fj5 (fr:Frm)(ks:List Nat)(t:Nat):(fr.keep ks).get t=if t∈ks then fr.get t else .undef:=by
 unfold Frm.get Frm.keep
 induction ks with
 | nil=>simp
 | cons k ks ih=>
  by_cases h:t=k
  ·subst h; simp[Frm.get]
  ·have:(t==k)=false:=by simpa using h
   simp[List.lookup_cons,this,h,ih]
theorem FR.keep {N:Nat}{ρ:Rho}{w:World}{fr:Frm}{tmps:Array Value}(ks:List Nat)(hf:FR ρ w N fr tmps):FR ρ w N (fr.keep ks) tmps:=by
 refine ⟨hf.size,fun t=>?_⟩;rw[Frm.fj5];split
 ·exact hf.get t
 ·exact .undef _
end Go.Id
/- The quiet operations (they read,they change nothing) on ideal values,each with its proof against the model. Conditions: none; over any program. -/
namespace Go.Id
open Go
theorem ac5 {α:Type}(a:Array α)(i:Nat)(d:α)(h:i<a.size):a.getD i d=a[i]:=by
 simp[Array.getD_eq_getD_getElem?,h]
/-! ### Types -/
def dr4 (P:Program)(t:TypeId):Option Bool :=
 match P.underlying t with
 | some (.struct _)|some (.array _ _)=>some true
 | some _=>some false
 | none=>none
def szT (P:Program)(t:TypeId):Option Nat:=(P.info? t).map (·.size)
theorem bk3 {P:Program}{t:TypeId}{b:Bool}(h:dr4 P t=some b)(w:World):(isAgg t).run P w=.ok b w:=by
 unfold dr4 at h
 cases hu:P.underlying t with
 | none=>simp[hu] at h
 | some d=>
  simp only[isAgg,Sem.run_bind,run_underlying hu,Result.andThen_ok];rw[hu] at h;cases d<;>simp_all
theorem run_sizeOf {P:Program}{t:TypeId}{n:Nat}(h:szT P t=some n)(w:World):(sizeOf t).run P w=.ok n w:=by
 unfold szT at h
 cases hi:P.info? t with
 | none=>simp[hi] at h
 | some i=>
  rw[hi] at h;simp at h;simp[sizeOf,typeInfo,hi,h]
/-! ### Two numbers,two strings,two bools -/
def di8 (op:BinOp)(k:IntKind)(a b:Int):Option IV :=
 match op with
 | .add=>some (.int k (k.wrap (a+b)))
 | .sub=>some (.int k (k.wrap (a-b)))
 | .mul=>some (.int k (k.wrap (a*b)))
 | .quo=>if b=0 then none else some (.int k (k.wrap (a.tdiv b)))
 | .rem=>if b=0 then none else some (.int k (a.tmod b))
 | .and=>some (.int k (k.wrap ((BitVec.ofInt k.bits a &&& BitVec.ofInt k.bits b).toNat:Int)))
 | .or=>some (.int k (k.wrap ((BitVec.ofInt k.bits a ||| BitVec.ofInt k.bits b).toNat:Int)))
 | .xor=>some (.int k (k.wrap ((BitVec.ofInt k.bits a ^^^ BitVec.ofInt k.bits b).toNat:Int)))
 | .andNot=>some (.int k (k.wrap ((BitVec.ofInt k.bits a &&& ~~~BitVec.ofInt k.bits b).toNat:Int)))
 | .eql=>some (.bool (decide (a=b)))
 | .neq=>some (.bool (!decide (a=b)))
 | .lss=>some (.bool (decide (a<b)))
 | .leq=>some (.bool (decide (a≤b)))
 | .gtr=>some (.bool (decide (b<a)))
 | .geq=>some (.bool (decide (b≤a)))
 | .shl|.shr=>none
def fj6 (op:BinOp)(a b:List UInt8):Option IV :=
 match op with
 | .add=>if a.length+b.length<2^62 then some (.str (a++b)) else none
 | .eql=>some (.bool (decide (a=b)))
 | .neq=>some (.bool (!decide (a=b)))
 | .lss=>some (.bool (Op.bytesLess a b))
 | .leq=>some (.bool (Op.bytesLess a b||decide (a=b)))
 | .gtr=>some (.bool (!(Op.bytesLess a b||decide (a=b))))
 | .geq=>some (.bool (!Op.bytesLess a b))
 | _=>none
def aq7 (op:BinOp):IV→IV→Option IV
 | .int k a,.int k' b=>
  match op with
  | .shl=>if 0≤b then some (.int k (k.wrap (a*2^(min b.toNat k.bits)))) else none
  | .shr=>if 0≤b then some (.int k (a.fdiv (2^(min b.toNat k.bits)))) else none
  | _=>if k=k' then di8 op k a b else none
 | .str a,.str b=>fj6 op a b
 | _,_=>none
theorem toList_mk (l:List UInt8):(ByteArray.mk l.toArray).toList=l:=by simp
theorem size_mk (l:List UInt8):(ByteArray.mk l.toArray).size=l.length:=by simp[ByteArray.size]
theorem cb9 (a b:Int):(a==b)=decide (a=b):=by
 by_cases h:a=b<;>simp[h]
theorem dr5 (a b:List UInt8):(a==b)=decide (a=b):=by
 by_cases h:a=b<;>simp[h]
variable {P:Program} {w:World} {ρ:Rho}
theorem dx7 {op:BinOp}{t:TypeId}{k:IntKind}{a b:Int}{v:IV}(h:di8 op k a b=some v) :
  ∃ r,(binOp op t (.int k a) (.int k b)).run P w=.ok r w∧VR ρ w v r:=by
 cases op<;>simp only[di8] at h
 case add=>cases h; exact ⟨_,by simp[binOp,Op.intArith],.int _ _⟩
 case sub=>cases h; exact ⟨_,by simp[binOp,Op.intArith],.int _ _⟩
 case mul=>cases h; exact ⟨_,by simp[binOp,Op.intArith],.int _ _⟩
 case quo=>
  split at h
  ·cases h
  ·rename_i h0; cases h; exact ⟨_,by simp[binOp,Op.intDiv,h0],.int _ _⟩
 case rem=>
  split at h
  ·cases h
  ·rename_i h0; cases h; exact ⟨_,by simp[binOp,Op.intDiv,h0],.int _ _⟩
 case and=>cases h; exact ⟨_,by simp only[binOp,ne_eq,not_true_eq_false,if_false,Op.intBits]; rfl,.int _ _⟩
 case or=>cases h; exact ⟨_,by simp only[binOp,ne_eq,not_true_eq_false,if_false,Op.intBits]; rfl,.int _ _⟩
 case xor=>cases h; exact ⟨_,by simp only[binOp,ne_eq,not_true_eq_false,if_false,Op.intBits]; rfl,.int _ _⟩
 case andNot=>cases h; exact ⟨_,by simp only[binOp,ne_eq,not_true_eq_false,if_false,Op.intBits]; rfl,.int _ _⟩
 case eql=>cases h; exact ⟨_,by simp only[binOp,ne_eq,not_true_eq_false,if_false,Op.intCmp,cb9]; rfl,.bool _⟩
 case neq=>cases h; exact ⟨_,by simp only[binOp,ne_eq,not_true_eq_false,if_false,Op.intCmp,bne,cb9]; rfl,.bool _⟩
 case lss=>cases h; exact ⟨_,by simp only[binOp,ne_eq,not_true_eq_false,if_false,Op.intCmp]; rfl,.bool _⟩
 case leq=>cases h; exact ⟨_,by simp only[binOp,ne_eq,not_true_eq_false,if_false,Op.intCmp]; rfl,.bool _⟩
 case gtr=>cases h; exact ⟨_,by simp only[binOp,ne_eq,not_true_eq_false,if_false,Op.intCmp]; rfl,.bool _⟩
 case geq=>cases h; exact ⟨_,by simp only[binOp,ne_eq,not_true_eq_false,if_false,Op.intCmp]; rfl,.bool _⟩
 all_goals cases h
theorem eo9 {op:BinOp}{t:TypeId}{x y:Operand}{a b v:IV}{ra rb:Value}(h:aq7 op a b=some v)(ha:VR ρ w a ra)(hb:VR ρ w b rb) :
  ∃ r,(do eqGuard op t x y ra rb; binOp op t ra rb:Sem Value).run P w=.ok r w∧VR ρ w v r:=by
 cases ha with
 | int k a=>
  cases hb with
  | int k' b=>
   have hg:(eqGuard op t x y (.int k a) (.int k' b)).run P w=.ok () w:=by
    unfold eqGuard; cases op<;>rfl
   simp only[Sem.run_bind,hg,Result.andThen_ok];by_cases h1:op=.shl
   ·subst h1;simp only[aq7] at h;split at h
    ·rename_i h0;cases h;exact ⟨_,by simp[binOp,Op.shift,Int.not_lt.2 h0],.int _ _⟩
    ·cases h
   by_cases h2:op=.shr
   ·subst h2;simp only[aq7] at h;split at h
    ·rename_i h0;cases h;exact ⟨_,by simp[binOp,Op.shift,Int.not_lt.2 h0],.int _ _⟩
    ·cases h
   have h':(if k=k' then di8 op k a b else none)=some v:=by
    cases op<;>first|exact absurd rfl h1|exact absurd rfl h2|exact h
   split at h'
   ·rename_i hk;subst hk;exact dx7 h'
   ·cases h'
  | _=>simp[aq7] at h
 | str a=>
  cases hb with
  | str b=>
   have hg:(eqGuard op t x y (.string ⟨a.toArray⟩) (.string ⟨b.toArray⟩)).run P w=.ok () w:=by
    unfold eqGuard; cases op<;>rfl
   simp only[Sem.run_bind,hg,Result.andThen_ok];simp only[aq7] at h;cases op<;>simp only[binOp,fj6] at h ⊢<;>try (cases h; done)
   case add=>
    split at h
    ·rename_i h0;cases h;refine ⟨_,?_,.str _⟩
     have hm:¬ (((a.length+b.length:Nat)):Int)>IntKind.i64.max:=by
      have:IntKind.i64.max=9223372036854775807:=by decide
      omega
     have e:(ByteArray.mk a.toArray++ByteArray.mk b.toArray)=ByteArray.mk (a++b).toArray:=by
      apply ByteArray.ext; simp[ByteArray.data_append]
     simp[Op.stringOp,size_mk,e] at hm ⊢;omega
    ·cases h
   all_goals
    cases h
    exact ⟨_,by simp only[Op.stringOp,toList_mk,dr5]; rfl,.bool _⟩
  | _=>simp[aq7] at h
 | _=>simp[aq7] at h
/-! ### Memory that is read -/
def ai6 (σ:Store):IV→Option (List IV)
 | .af4 cs=>some cs
 | .ptr id off=>match σ.obj id with
  | some (.cells cs)=>some (cs.drop off)
  | some (.row cs)=>some (cs.drop off)
  | _=>none
 | _=>none
theorem ag9 {α:Type}(l:List α)(n i:Nat)(d:α):(l.drop n).getD i d=l.getD (n+i) d:=by
 simp[List.getD_eq_getElem?_getD,List.getElem?_drop]
theorem getD_take' {α:Type}(l:List α)(n i:Nat)(d:α)(h:i<n):(l.take n).getD i d=l.getD i d:=by
 simp[List.getD_eq_getElem?_getD,h]
theorem bk4 {E:Nat→IV}{σ:Store}{v:IV}{r:Value}{cs:List IV}(hs:Sim E ρ w σ)(hv:VR ρ w v r)(h:ai6 σ v=some cs) :
  ∃ b o,r=.pointer (some ⟨b,o,none⟩)∧∃ vs:Nat→Value,(∀ j,j<cs.length→w.cell? ⟨b,o+j,none⟩=some (vs j))∧∀ j,j<cs.length→VR ρ w (cs.getD j .undef) (vs j):=by
 cases hv with
 | af4 cs' b o vs hf hc hv=>
  simp[ai6] at h; subst h
  exact ⟨b,o,rfl,vs,hc,hv⟩
 | ptr id off B d hi=>
  simp only[ai6] at h;obtain ⟨ob,ho,hor⟩:=hs.obj id B d hi;rw[ho] at h
  have key:∀ cs',ak8 ρ w B d cs'→cs'.drop off=cs→∃ b o,Value.pointer (some ⟨B,d+off,none⟩)=.pointer (some ⟨b,o,none⟩)∧∃ vs:Nat→Value,(∀ j,j<cs.length→w.cell? ⟨b,o+j,none⟩=some (vs j))∧∀ j,j<cs.length→VR ρ w (cs.getD j .undef) (vs j):=by
   intro cs' hor h;subst h;obtain ⟨rcs,el,hb,hsz,hvs⟩:=hor;refine ⟨B,d+off,rfl,fun j=>rcs.getD (d+(off+j)) undef,fun j hj=>?_,fun j hj=>?_⟩
   ·simp at hj;have hlt:d+off+j<rcs.size:=by omega
    simp only[World.cell?,hb];rw[ac5 _ _ _ (by omega)];simp only[Option.isSome_none,Bool.false_eq_true,if_false];rw[Array.getElem?_eq_getElem hlt];congr 2;omega
   ·simp at hj;rw[ag9];exact hvs (off+j) (by omega)
  cases ob with
  | cells cs'=>exact key cs' hor (by simpa using h)
  | row cs'=>exact key cs' hor (by simpa using h)
  | _=>simp at h
 | ca2 id off ad hi=>
  simp only[ai6,hs.dead id hi] at h
  cases h
 | _=>simp[ai6] at h
def am9 (σ:Store)(agg:Option Nat)(a:IV):Option IV :=
 match ai6 σ a with
 | none=>none
 | some cs=>match agg with
  | none=>cs.head?
  | some n=>if n≤cs.length then some (.agg (cs.take n)) else none
def aj9 (P:Program)(t:TypeId):Option (Option Nat):=
 match dr4 P t with
 | some false=>some none
 | some true=>(szT P t).map some
 | none=>none
theorem am3 (b o n:Nat):(⟨b,o,none⟩:Addr).add n=⟨b,o+n,none⟩:=by
 unfold Addr.add; split<;>simp_all
theorem ci1 {E:Nat→IV}{σ:Store}{t:TypeId}{agg:Option Nat}{a v:IV}{r:Value}(hs:Sim E ρ w σ)(ht:aj9 P t=some agg)
  (h:am9 σ agg a=some v) (ha:VR ρ w a r):∃ x,(Instr.loadAt t r).run P w=.ok x w∧VR ρ w v x:=by
 unfold am9 at h
 cases hc:ai6 σ a with
 | none=>rw[hc] at h; cases h
 | some cs=>
  rw[hc] at h;obtain ⟨b,o,rfl,vs,hcell,hvs⟩:=bk4 hs ha hc;unfold aj9 at ht
  cases hg:dr4 P t with
  | none=>rw[hg] at ht; cases ht
  | some g=>
   rw[hg] at ht
   cases g with
   | false=>
    cases ht;simp only at h
    cases cs with
    | nil=>simp at h
    | cons c cs=>
     simp at h; subst h;refine ⟨vs 0,?_,by simpa using hvs 0 (by simp)⟩;have:=hcell 0 (by simp);simp only[Nat.add_zero] at this
     simp[Instr.loadAt,Instr.sureAddr,loadVar,bk3 hg,this]
   | true=>
    cases hz:szT P t with
    | none=>rw[hz] at ht; cases ht
    | some n=>
     rw[hz] at ht;cases ht;simp only at h;split at h
     ·rename_i hn;cases h;refine ⟨.agg ((List.range n).map vs).toArray,?_,.agg _ _ (by simp; omega) (fun i hi=>?_)⟩
      ·have hl:=run_loadCells (P:=P) (w:=w) ⟨b,o,none⟩ n vs (fun j hj=>by rw[am3]; exact hcell j (by omega));simp[Instr.loadAt,Instr.sureAddr,loadVar,bk3 hg,run_sizeOf hz,hl]
      ·simp at hi;have hi':i<n:=by omega
       rw[getD_take' _ _ _ _ hi'];have:=hvs i (by omega)
       simpa [Array.getD_eq_getD_getElem?,hi'] using this
     ·cases h
/-! ### Places within places -/
def by9 (n:Nat):IV→Option IV
 | .af4 cs=>some (.af4 (cs.drop n))
 | .ptr id off=>some (.ptr id (off+n))
 | _=>none
theorem di9 {s:TypeId}{fields:Array Field}{i:Nat}{f:Field}{ad:Addr}{m:Nat}(hu:P.underlying s=some (.struct fields))(hf:fields[i]? = some f)
  (hz:szT P f.type=some (m+1)):(Instr.fieldAt s (.pointer (some ad)) i).run P w=.ok (.pointer (some (ad.add f.offset))) w:=by
 simp[Instr.fieldAt,run_underlying hu,hf,Instr.sureAddr,fieldPlace,run_sizeOf hz]
theorem ci2 {n:Nat}{a v:IV}{r:Value}(h:by9 n a=some v)(ha:VR ρ w a r) :
  ∃ ad:Addr,r=.pointer (some ad)∧VR ρ w v (.pointer (some (ad.add n))):=by
 cases ha with
 | af4 cs b o vs hf hc hv=>
  simp[by9] at h; subst h;refine ⟨⟨b,o,none⟩,rfl,?_⟩;rw[am3];refine .af4 _ b (o+n) (fun j=>vs (n+j)) hf (fun j hj=>?_) (fun j hj=>?_)
  ·simp at hj;rw[Nat.add_assoc];exact hc (n+j) (by omega)
  ·simp at hj;rw[ag9]
   exact hv (n+j) (by omega)
 | ptr id off B d hi=>
  simp[by9] at h; subst h
  exact ⟨⟨B,d+off,none⟩,rfl,by rw[am3,Nat.add_assoc]; exact .ptr id (off+n) B d hi⟩
 | ca2 id off ad hi=>
  simp[by9] at h; subst h
  exact ⟨ad,rfl,.ca2 id (off+n) _ hi⟩
 | _=>simp[by9] at h
def aw5 (agg:Option Nat)(off:Nat)(cs:List IV):Option IV :=
 match agg with
 | none=>cs[off]?
 | some n=>if off+n≤cs.length then some (.agg ((cs.drop off).take n)) else none
theorem an8 {t:TypeId}{agg:Option Nat}{off:Nat}{cs:List IV}{rs:Array Value}{v:IV}(ht:aj9 P t=some agg)(h:aw5 agg off cs=some v)
  (hl:cs.length=rs.size) (hv:∀ i,i<cs.length→VR ρ w (cs.getD i .undef) (rs.getD i undef)):∃ x,(part t rs off).run P w=.ok x w∧VR ρ w v x:=by
 unfold aj9 at ht
 cases hg:dr4 P t with
 | none=>rw[hg] at ht; cases ht
 | some g=>
  rw[hg] at ht
  cases g with
  | false=>
   cases ht;simp only[aw5] at h;obtain ⟨hlt,hc⟩:=List.getElem?_eq_some_iff.1 h;have h1:=hv off hlt;have hlt':off<rs.size:=by omega
   rw[ac5 _ _ _ hlt',List.getD_eq_getElem?_getD,h] at h1
   exact ⟨rs[off],by simp[part,bk3 hg,Array.getElem?_eq_getElem hlt'],h1⟩
  | true=>
   cases hz:szT P t with
   | none=>rw[hz] at ht; cases ht
   | some n=>
    rw[hz] at ht;cases ht;simp only[aw5] at h;split at h
    ·rename_i hn;cases h;refine ⟨_,by simp[part,bk3 hg,run_sizeOf hz]; rfl,.agg _ _ (by simp; omega) (fun i hi=>?_)⟩;simp at hi;rw[getD_take' _ _ _ _ (by omega),ag9];have:=hv (off+i) (by omega);rw[ac5 _ _ _ (by omega)] at this;rw[ac5 _ _ _ (by simp; omega)]
     simpa using this
    ·cases h
def ge2 (agg:Option Nat)(off:Nat):IV→Option IV
 | .agg cs=>aw5 agg off cs
 | _=>none
theorem ep1 {s:TypeId}{fields:Array Field}{i:Nat}{f:Field}{agg:Option Nat}{a v:IV}{r:Value}(hu:P.underlying s=some (.struct fields))(hf:fields[i]? = some f)
  (ht:aj9 P f.type=some agg) (h:ge2 agg f.offset a=some v) (ha:VR ρ w a r):∃ x,(Instr.field s r i).run P w=.ok x w∧VR ρ w v x:=by
 cases ha with
 | agg cs rs hl hv=>
  simp only[ge2] at h;obtain ⟨x,hx,hvx⟩:=an8 ht h hl hv
  exact ⟨x,by simp[Instr.field,run_underlying hu,hf,asAgg,hx],hvx⟩
 | _=>simp[ge2] at h
def al6 (esz:Nat):IV→IV→Option IV
 | .aa4 es,.int _ i=>if 0≤i∧i<es.length∧(es.getD i.toNat []).length=esz then some (.af4 (es.getD i.toNat [])) else none
 | .slice id off len e,.int _ i=>if 0≤i∧i<len∧e=esz then some (.ptr id (off+i.toNat*esz)) else none
 | .ae2 id off len e,.int _ i=>if 0≤i∧i<len∧e=esz then some (.ptr id (off+i.toNat*esz)) else none
 | _,_=>none
theorem dj1 {t elem:TypeId}{esz:Nat}{a i v:IV}{ra ri:Value}(hu:P.underlying t=some (.slice elem))
  (hz:szT P elem=some esz) (h:al6 esz a i=some v) (ha:VR ρ w a ra) (hi:VR ρ w i ri):∃ x,(Instr.indexAt t ra ri).run P w=.ok x w∧VR ρ w v x:=by
 cases ha with
 | bp2=>
  cases hi with
  | int k n => simp only[al6,List.length_nil] at h; split at h<;>rename_i hc
               ·omega
               ·cases h
  | _=>simp[al6] at h
 | aa4 es b o cap esz' sp vs hf hsz hc hv hle=>
  cases hi with
  | int k n=>
   simp only[al6] at h;split at h
   ·rename_i hh;obtain ⟨h0,h1,h2⟩:=hh;cases h;have hlt:n.toNat<es.length:=by omega
    have hne:es≠[]:=by intro h0; subst h0; simp at hlt
    obtain ⟨hf1,hsp⟩:=hf hne;subst hsp;have he:esz'=esz:=by rw[← h2,hsz _ hlt]
    subst he;refine ⟨.pointer (some ⟨b,o+n.toNat*esz',none⟩),?_,.af4 _ b _ (fun j=>vs n.toNat j) hf1 (fun j hj=>?_) (fun j hj=>?_)⟩
    ·simp[Instr.indexAt,asIntOf,run_underlying hu,run_sizeOf hz,h0,h1,am3]
    ·rw[Nat.add_assoc]; exact hc _ hlt j (by omega)
    ·exact hv _ hlt j (by omega)
   ·cases h
  | _=>simp[al6] at h
 | slice id off len e B d cap rcs el fz hid hb hsz hle=>
  cases hi with
  | int k n=>
   simp only[al6] at h;split at h
   ·rename_i hh;obtain ⟨h0,h1,rfl⟩:=hh;cases h;refine ⟨.pointer (some ⟨B,d+off+n.toNat*e,none⟩),?_,?_⟩
    ·simp[Instr.indexAt,asIntOf,run_underlying hu,run_sizeOf hz,h0,h1,am3]
    ·rw[Nat.add_assoc]; exact .ptr id _ B d hid
   ·cases h
  | _=>simp[al6] at h
 | ag5 id off e B d a hid=>
  cases hi with
  | int k n=>
   simp only[al6] at h;split at h
   ·rename_i hh; omega
   ·cases h
  | _=>simp[al6] at h
 | ag6 id off len e cap ad hid hle=>
  cases hi with
  | int k n=>
   simp only[al6] at h;split at h
   ·rename_i hh;obtain ⟨h0,h1,rfl⟩:=hh;cases h;refine ⟨.pointer (some (ad.add (n.toNat*e))),?_,.ca2 id _ _ hid⟩;simp[Instr.indexAt,asIntOf,run_underlying hu,run_sizeOf hz,h0,h1]
   ·cases h
  | _=>simp[al6] at h
 | ak1 id off len e ad hid=>
  cases hi with
  | int k n=>
   simp only[al6] at h;split at h
   ·rename_i hh;obtain ⟨h0,h1,rfl⟩:=hh;cases h;refine ⟨.pointer (some (ad.add (n.toNat*e))),?_,.ca2 id _ _ hid⟩;simp[Instr.indexAt,asIntOf,run_underlying hu,run_sizeOf hz,h0,h1]
   ·cases h
  | _=>simp[al6] at h
 | ae2 id off len e B d rcs el fz hid hb hsz=>
  cases hi with
  | int k n=>
   simp only[al6] at h;split at h
   ·rename_i hh;obtain ⟨h0,h1,rfl⟩:=hh;cases h;refine ⟨.pointer (some ⟨B,d+off+n.toNat*e,none⟩),?_,?_⟩
    ·simp[Instr.indexAt,asIntOf,run_underlying hu,run_sizeOf hz,h0,h1,am3]
    ·rw[Nat.add_assoc]; exact .ptr id _ B d hid
   ·cases h
  | _=>simp[al6] at h
 | _=>simp[al6] at h
def cc1 (n esz:Nat):IV→IV→Option IV
 | a,.int _ i=>if 0≤i∧i<n then by9 (i.toNat*esz) a else none
 | _,_=>none
theorem dj2 {t elem:TypeId}{n esz:Nat}{a i v:IV}{ra ri:Value}(hu:P.underlying t=some (.array n elem))
  (hz:szT P elem=some esz) (h:cc1 n esz a i=some v) (ha:VR ρ w a ra) (hi:VR ρ w i ri):∃ x,(Instr.indexAt t ra ri).run P w=.ok x w∧VR ρ w v x:=by
 cases hi with
 | int k m=>
  simp only[cc1] at h;split at h
  ·rename_i hh;obtain ⟨h0,h1⟩:=hh;obtain ⟨ad,rfl,hv⟩:=ci2 h ha;refine ⟨_,?_,hv⟩;simp[Instr.indexAt,asIntOf,run_underlying hu,Instr.sureAddr,run_sizeOf hz,h0,h1]
  ·cases h
 | _=>simp[cc1] at h
def fx6 (agg:Option Nat)(n esz:Nat):IV→IV→Option IV
 | .agg cs,.int _ i=>if 0≤i∧i<n then aw5 agg (i.toNat*esz) cs else none
 | _,_=>none
theorem ep2 {t elem:TypeId}{agg:Option Nat}{n esz:Nat}{a i v:IV}{ra ri:Value}(hu:P.underlying t=some (.array n elem))
  (hz:szT P elem=some esz) (ht:aj9 P elem=some agg) (h:fx6 agg n esz a i=some v) (ha:VR ρ w a ra) (hi:VR ρ w i ri) :
  ∃ x,(Instr.index t ra ri).run P w=.ok x w∧VR ρ w v x:=by
 cases ha with
 | agg cs rs hl hv=>
  cases hi with
  | int k m=>
   simp only[fx6] at h;split at h
   ·rename_i hh;obtain ⟨x,hx,hvx⟩:=an8 ht h hl hv;exact ⟨x,by simp[Instr.index,asIntOf,run_underlying hu,run_sizeOf hz,hh.1,hh.2,hx],hvx⟩
   ·cases h
  | _=>simp[fx6] at h
 | _=>simp[fx6] at h
def da5:IV→IV→Option IV
 | .str s,.int _ i=>if 0≤i then (s[i.toNat]?).map fun b=>.int .u8 b.toNat else none
 | _,_=>none
theorem dx8 {t:TypeId}{a i v:IV}{ra ri:Value}(hu:P.underlying t=some .string)
  (h:da5 a i=some v) (ha:VR ρ w a ra) (hi:VR ρ w i ri):∃ x,(Instr.index t ra ri).run P w=.ok x w∧VR ρ w v x:=by
 cases ha with
 | str s=>
  cases hi with
  | int k m=>
   simp only[da5] at h;split at h
   ·rename_i h0
    cases hb:s[m.toNat]? with
    | none=>rw[hb] at h; cases h
    | some b=>
     rw[hb] at h;cases h
     have e:(ByteArray.mk s.toArray)[m.toNat]? = some b:=by
      have hlt:=(List.getElem?_eq_some_iff.1 hb).1;rw[getElem?_pos _ _ (by simpa [size_mk] using hlt)];have:=(List.getElem?_eq_some_iff.1 hb).2;change some (s.toArray[m.toNat]'(by simpa using hlt))=some b
      simpa using this
     exact ⟨_,by simp[Instr.index,asIntOf,run_underlying hu,h0,e],.int _ _⟩
   ·cases h
  | _=>simp[da5] at h
 | _=>simp[da5] at h
def fx7 (i:Nat):IV→Option IV
 | .tuple vs=>vs[i]?
 | _=>none
theorem ep3 {i:Nat}{a v:IV}{ra:Value}(h:fx7 i a=some v)(ha:VR ρ w a ra):∃ x,(Instr.extract ra i).run P w=.ok x w∧VR ρ w v x:=by
 cases ha with
 | tuple cs rs hl hv=>
  simp only[fx7] at h;obtain ⟨hlt,hc⟩:=List.getElem?_eq_some_iff.1 h;have h1:=hv i hlt;have hlt':i<rs.size:=by omega
  rw[ac5 _ _ _ hlt',List.getD_eq_getElem?_getD,h] at h1
  exact ⟨rs[i],by simp[Instr.extract,Array.getElem?_eq_getElem hlt'],h1⟩
 | _=>simp[fx7] at h
/-! ### Lengths,slices of slices and strings -/
def dx9 (σ:Store):IV→Option IV
 | .aa1|.ab4|.ad4|.af9=>some (.int .i64 0)
 | .aa4 es=>some (.int .i64 es.length)
 | .slice _ _ len _=>some (.int .i64 len)
 | .ae2 _ _ len _=>some (.int .i64 len)
 | .ad7 _ _ len _ _=>some (.int .i64 len)
 | .str s=>some (.int .i64 s.length)
 | .map id=>match σ.obj id with
  | some (.map es)=>some (.int .i64 es.length)
  | _=>none
 | _=>none
def ho8 (P:Program)(t:TypeId):Bool :=
 match P.underlying t with
 | some (.slice _)|some .string|some (.map _ _)=>true
 | _=>false
theorem ep4 {E:Nat→IV}{σ:Store}{t ty:TypeId}{a v:IV}{ra:Value}(hs:Sim E ρ w σ)(ht:ho8 P t=true) (hk:∀ u,P.underlying t=some u →
   (match u,a with|.slice _,.aa1|.slice _,.ab4|.slice _,.ad4|.slice _,.aa4 _|.slice _,.slice _ _ _ _|.slice _,.ae2 _ _ _ _|.slice _,.ad7 _ _ _ _ _|.string,.str _|.map _ _,.af9|.map _ _,.map _=>true|_,_=>false)=true)
  (h:dx9 σ a=some v) (ha:VR ρ w a ra):∃ x,(Builtin.len_ #[t] ty #[ra]).run P w=.ok x w∧VR ρ w v x:=by
 unfold ho8 at ht
 cases hu:P.underlying t with
 | none=>rw[hu] at ht; cases ht
 | some u=>
  have hk:=hk u hu
  cases ha with
  | aa1=>cases u<;>simp at hk; cases h; exact ⟨_,by simp[Builtin.len_,run_underlying hu,goInt],.int _ _⟩
  | ab4 c=>cases u<;>simp at hk; cases h; exact ⟨_,by simp[Builtin.len_,run_underlying hu,goInt],.int _ _⟩
  | ad4 c _=>cases u<;>simp at hk; cases h; exact ⟨_,by simp[Builtin.len_,run_underlying hu,goInt],.int _ _⟩
  | af9=>cases u<;>simp at hk; cases h; exact ⟨_,by simp[Builtin.len_,run_underlying hu,goInt],.int _ _⟩
  | str s=>cases u<;>simp at hk; cases h; exact ⟨_,by simp[Builtin.len_,run_underlying hu,goInt,size_mk],.int _ _⟩
  | aa4 es b o cap esz sp vs hf hsz hc hv hle=>cases u<;>simp at hk; cases h; exact ⟨_,by simp[Builtin.len_,run_underlying hu,goInt],.int _ _⟩
  | bp2=>cases u<;>simp at hk; cases h; exact ⟨_,by simp[Builtin.len_,run_underlying hu,goInt],.int _ _⟩
  | slice id off len esz B d cap rcs el fz hid hb hsz hle=>cases u<;>simp at hk; cases h; exact ⟨_,by simp[Builtin.len_,run_underlying hu,goInt],.int _ _⟩
  | ag5 id off esz B d a hid=>cases u<;>simp at hk; cases h; exact ⟨_,by simp[Builtin.len_,run_underlying hu,goInt],.int _ _⟩
  | ag6 id off len esz cap ad hid hle=>cases u<;>simp at hk; cases h; exact ⟨_,by simp[Builtin.len_,run_underlying hu,goInt],.int _ _⟩
  | ae2 id off len esz B d rcs el fz hid hb hsz=>cases u<;>simp at hk; cases h; exact ⟨_,by simp[Builtin.len_,run_underlying hu,goInt],.int _ _⟩
  | ak1 id off len esz ad hid=>cases u<;>simp at hk; cases h; exact ⟨_,by simp[Builtin.len_,run_underlying hu,goInt],.int _ _⟩
  | ad7 id off len room esz B d cap rcs el fz hid hb hsz hle hr=>cases u<;>simp at hk; cases h; exact ⟨_,by simp[Builtin.len_,run_underlying hu,goInt],.int _ _⟩
  | ak9 id off len room esz cap ad hid hle hr=>cases u<;>simp at hk; cases h; exact ⟨_,by simp[Builtin.len_,run_underlying hu,goInt],.int _ _⟩
  | map id B d hid=>
   cases u<;>simp at hk;simp only[dx9] at h;obtain ⟨ob,ho,hor⟩:=hs.obj id B d hid;rw[ho] at h
   cases ob with
   | map es=>
    cases h;obtain ⟨mes,clock,hb,_,hl,_⟩:=hor
    exact ⟨_,by simp[Builtin.len_,run_underlying hu,getObj,Sem.run,hb,goInt,hl],.int _ _⟩
   | _=>simp at h
  | mapD id B hid=>simp[dx9,hs.dead id hid] at h
  | _=>simp[dx9] at h
def di6:IV→Option Nat
 | .int _ i=>if 0≤i then some i.toNat else none
 | _=>none
def da2 (d:Nat):Option IV→Option Nat
 | none=>some d
 | some v=>di6 v
theorem an9 {v:IV}{n:Nat}{r:Value}(h:di6 v=some n)(hv:VR ρ w v r):∃ k,r=.int k (n:Int):=by
 cases hv with
 | int k i=>
  simp only[di6] at h;split at h
  ·cases h; exact ⟨k,by congr 1; omega⟩
  ·cases h
 | _=>simp[di6] at h
def dj3 (lo hi:Option IV):IV→Option IV
 | .str s=>match da2 0 lo,da2 s.length hi with
  | some l,some h=>if l≤h∧h≤s.length then some (.str ((s.take h).drop l)) else none
  | _,_=>none
 | _=>none
def OVR (ρ:Rho)(w:World):Option IV→Option Value→Prop
 | none,none=>True
 | some v,some r=>VR ρ w v r
 | _,_=>False
theorem da6 {v:Option IV}{r:Option Value}{n d y:Nat}{c:BoundsCode}(h:da2 d v=some n)(hv:OVR ρ w v r)(hle:n≤y) :
  (match r with|some x=>Instr.sliceBound x y c|none=>pure d:Sem Nat).run P w=.ok n w:=by
 cases v with
 | none=>
  cases r with
  | none=>simp_all [da2]
  | some r=>exact hv.elim
 | some v=>
  cases r with
  | none=>simp[OVR] at hv
  | some r=>
   simp only[da2] at h;obtain ⟨k,rfl⟩:=an9 h hv;have:((n:Int)≤(y:Int)):=by omega
   simp[Instr.sliceBound,asIntOf,this]
theorem ai4 {isSlice:Bool}{len cap l h:Nat}{lo hi:Option IV}{rlo rhi:Option Value}(hlo:da2 0 lo=some l)(hhi:da2 len hi=some h)
  (h1:OVR ρ w lo rlo) (h2:OVR ρ w hi rhi) (hlh:l≤h) (hc:h≤cap) :
  (Instr.sliceBounds isSlice len cap rlo rhi none).run P w=.ok (l,h,cap) w:=by
 have e2:=da6 (P:=P) (w:=w) (ρ:=ρ) (c:=if isSlice then .sliceAcap else .sliceAlen) hhi h2 hc;have e1:=da6 (P:=P) (w:=w) (ρ:=ρ) (c:=.sliceB) hlo h1 hlh;cases rlo<;>cases rhi<;>simp_all [Instr.sliceBounds]
theorem dy1 {t:TypeId}{a v:IV}{ra:Value}{lo hi:Option IV}{rlo rhi:Option Value}(hu:P.underlying t=some .string)(h:dj3 lo hi a=some v)
  (ha:VR ρ w a ra) (h1:OVR ρ w lo rlo) (h2:OVR ρ w hi rhi):∃ x,(Instr.sliceAt t ra rlo rhi none).run P w=.ok x w∧VR ρ w v x:=by
 cases ha with
 | str s=>
  simp only[dj3] at h;split at h
  ·rename_i l h' hl hh;split at h
   ·rename_i hc;cases h;have hb:=ai4 (P:=P) (w:=w) (ρ:=ρ) (isSlice:=false) (cap:=s.length) hl hh h1 h2 hc.1 hc.2;refine ⟨_,?_,.str _⟩
    have e:(ByteArray.mk s.toArray).extract l h'=ByteArray.mk ((s.take h').drop l).toArray:=by
     apply ByteArray.ext;simp[List.drop_take]
    simp[Instr.sliceAt,Instr.slice,run_underlying hu,size_mk,hb,e]
   ·cases h
  ·cases h
 | _=>simp[dj3] at h
def dj4 (esz:Nat)(lo hi:Option IV):IV→Option IV
 | .aa1=>match da2 0 lo,da2 0 hi with
  | some l,some h=>if l=0∧h=0 then some .aa1 else none
  | _,_=>none
 | .aa4 es=>match da2 0 lo,da2 es.length hi with
  | some l,some h=>if l≤h∧h≤es.length∧es.all (fun e=>e.length==esz) then some (.aa4 ((es.take h).drop l)) else none
  | _,_=>none
 | .slice id off len e=>match da2 0 lo,da2 len hi with
  | some l,some h=>if l≤h∧h≤len∧e=esz then some (.slice id (off+l*esz) (h-l) esz) else none
  | _,_=>none
 | .ae2 id off len e=>match da2 0 lo,da2 len hi with
  | some l,some h=>if l≤h∧h≤len∧e=esz then some (.slice id (off+l*esz) (h-l) esz) else none
  | _,_=>none
 | .ad7 id off len room e=>match da2 0 lo,da2 len hi with
  | some l,some h=>if l≤h∧h≤room∧e=esz then some (.slice id (off+l*esz) (h-l) esz) else none
  | _,_=>none
 | _=>none
theorem dy2 {es:List (List IV)}{r:Value}{l h:Nat}(hv:VR ρ w (.aa4 es) r)(h1:l≤h)(h2:h≤es.length)(esz:Nat)(hall:∀ e∈es,e.length=esz)(hnn:r≠.slice none 0 0) :
  ∃ b o cap sp,r=.slice (some ⟨b,o,sp⟩) es.length cap∧es.length≤cap ∧
   VR ρ w (.aa4 ((es.take h).drop l)) (.slice (if cap=l then some ⟨b,o,sp⟩ else (some (⟨b,o,sp⟩:Addr)).map (·.add (l*esz))) (h-l) (cap-l)):=by
 cases hv with
 | bp2=>exact absurd rfl hnn
 | aa4 es b o cap esz' sp vs hf hsz hc hv hle=>
  refine ⟨b,o,cap,sp,rfl,hle,?_⟩;have hlen:((es.take h).drop l).length=h-l:=by simp; omega
  by_cases hcl:cap=l
  ·have h0:(es.take h).drop l=[]:=List.drop_of_length_le (by simp; omega);have hz:h-l=0:=by omega
   rw[h0,hz];simp only[hcl,if_true,Nat.sub_self];exact VR.aa4 [] b o 0 0 sp (fun _ _=>.nilIface) (fun hn=>absurd rfl hn) (fun i hi=>by simp at hi) (fun i hi=>by simp at hi) (fun i hi=>by simp at hi) (by simp)
  ·simp only[hcl,if_false,Option.map_some];by_cases he:(es.take h).drop l=[]
   ·rw[he];have hz:h-l=0:=by rw[← hlen,he]; rfl
    rw[hz]
    have:(⟨b,o,sp⟩:Addr).add (l*esz)=⟨b,((⟨b,o,sp⟩:Addr).add (l*esz)).off,((⟨b,o,sp⟩:Addr).add (l*esz)).spot⟩:=by
     unfold Addr.add; split<;>rfl
    rw[this];exact VR.aa4 [] b _ _ 0 _ (fun _ _=>.nilIface) (fun hn=>absurd rfl hn) (fun i hi=>by simp at hi) (fun i hi=>by simp at hi) (fun i hi=>by simp at hi) (by simp)
   ·have hpos:l<h:=by
     rcases Nat.lt_or_ge l h with h'|h'
     ·exact h'
     ·exact absurd (List.eq_nil_of_length_eq_zero (by rw[hlen]; omega)) he
    have hne:es≠[]:=by intro h0; subst h0; simp at h2; omega
    obtain ⟨hf1,rfl⟩:=hf hne
    have hee:esz'=esz:=by
     have h0:0<es.length:=by omega
     rw[← hsz 0 h0];refine hall _ ?_;rw[List.getD_eq_getElem?_getD,List.getElem?_eq_getElem h0];exact List.getElem_mem _
    subst hee;rw[am3]
    have hg:∀ i,i<h-l→((es.take h).drop l).getD i []=es.getD (l+i) []:=fun i hi=>by
     rw[ag9,getD_take' _ _ _ _ (by omega)]
    have hx:h-l=((es.take h).drop l).length:=hlen.symm;rw[hx];refine VR.aa4 _ b _ _ esz' none (fun i j=>vs (l+i) j) (fun _=>⟨hf1,rfl⟩) (fun i hi=>?_) (fun i hi j hj=>?_) (fun i hi j hj=>?_) (by rw[hlen]; omega)
    ·rw[hlen] at hi; rw[hg i hi]; exact hsz _ (by omega)
    ·rw[hlen] at hi;have:=hc (l+i) (by omega) j hj;rw[Nat.add_mul] at this;rw[← this];congr 2;omega
    ·rw[hlen] at hi; rw[hg i hi]; exact hv _ (by omega) j hj
theorem ep5 {t elem:TypeId}{esz:Nat}{a v:IV}{ra:Value}{lo hi:Option IV}{rlo rhi:Option Value}
  (hu:P.underlying t=some (.slice elem)) (hz:szT P elem=some esz) (h:dj4 esz lo hi a=some v)
  (ha:VR ρ w a ra) (h1:OVR ρ w lo rlo) (h2:OVR ρ w hi rhi):∃ x,(Instr.sliceAt t ra rlo rhi none).run P w=.ok x w∧VR ρ w v x:=by
 cases ha with
 | aa1=>
  simp only[dj4] at h;split at h
  ·rename_i l h' hl hh;split at h
   ·rename_i hc;obtain ⟨rfl,rfl⟩:=hc;cases h;have hb:=ai4 (P:=P) (w:=w) (ρ:=ρ) (isSlice:=true) (len:=0) (cap:=0) hl hh h1 h2 (Nat.le_refl _) (Nat.zero_le _);refine ⟨.slice none 0 0,?_,.aa1⟩;simp[Instr.sliceAt,Instr.slice,run_underlying hu,hb,run_sizeOf hz]
   ·cases h
  ·cases h
 | bp2=>
  simp only[dj4] at h;split at h
  ·rename_i l h' hl hh;split at h
   ·rename_i hc;obtain ⟨c1,c2,_⟩:=hc;simp only[List.length_nil,Nat.le_zero] at c2;subst c2;have c1':l=0:=by omega
    subst c1';cases h;have hb:=ai4 (P:=P) (w:=w) (ρ:=ρ) (isSlice:=true) (len:=0) (cap:=0) hl hh h1 h2 (Nat.le_refl _) (Nat.zero_le _);refine ⟨.slice none 0 0,?_,.bp2⟩;simp[Instr.sliceAt,Instr.slice,run_underlying hu,hb,run_sizeOf hz]
   ·cases h
  ·cases h
 | aa4 es b o cap esz' sp vs hf hsz hc hv hle=>
  simp only[dj4] at h;split at h
  ·rename_i l h' hl hh;split at h
   ·rename_i hcc;obtain ⟨c1,c2,c3⟩:=hcc;cases h;have hb:=ai4 (P:=P) (w:=w) (ρ:=ρ) (isSlice:=true) (cap:=cap) hl hh h1 h2 c1 (by omega)
    obtain ⟨b',o',cap',sp',heq,hle',hvr⟩:=dy2 (.aa4 es b o cap esz' sp vs hf hsz hc hv hle) c1 c2 esz (fun e he=>by
     have:=List.all_eq_true.1 c3 e he; simpa using this) (fun e=>by cases e)
    simp only[Value.slice.injEq,Option.some.injEq,Addr.mk.injEq,true_and] at heq;obtain ⟨⟨rfl,rfl,rfl⟩,rfl⟩:=heq;refine ⟨_,?_,hvr⟩;simp[Instr.sliceAt,Instr.slice,run_underlying hu,hb,run_sizeOf hz]
   ·cases h
  ·cases h
 | slice id off len e B d cap rcs el fz hid hbk hsz hle=>
  simp only[dj4] at h;split at h
  ·rename_i l h' hl hh;split at h
   ·rename_i hcc;obtain ⟨c1,c2,rfl⟩:=hcc;cases h;have hb:=ai4 (P:=P) (w:=w) (ρ:=ρ) (isSlice:=true) (cap:=cap) hl hh h1 h2 c1 (by omega);refine ⟨.slice (some (if cap=l then ⟨B,d+off,none⟩ else ⟨B,d+off+l*e,none⟩)) (h'-l) (cap-l),?_,?_⟩
    ·simp[Instr.sliceAt,Instr.slice,run_underlying hu,hb,run_sizeOf hz,am3,apply_ite]
    ·by_cases hcl:cap=l
     ·have e1:h'-l=0:=by omega
      have e2:cap-l=0:=by omega
      rw[e1,e2];exact .ag5 id _ e B d _ hid
     ·simp only[hcl,if_false];rw[Nat.add_assoc];refine .slice id _ _ e B d _ rcs el fz hid hbk ?_ (by omega);have:(cap-l)*e+l*e=cap*e:=by rw[← Nat.add_mul]; congr 1; omega
      omega
   ·cases h
  ·cases h
 | ag5 id off e B d a hid=>
  simp only[dj4] at h;split at h
  ·rename_i l h' hl hh;split at h
   ·rename_i hcc;obtain ⟨c1,c2,rfl⟩:=hcc;cases h;have hb:=ai4 (P:=P) (w:=w) (ρ:=ρ) (isSlice:=true) (cap:=0) hl hh h1 h2 c1 c2;have e1:l=0:=by omega
    have e2:h'=0:=by omega
    subst e1; subst e2;refine ⟨.slice (some a) 0 0,?_,.ag5 id _ e B d a hid⟩;simp[Instr.sliceAt,Instr.slice,run_underlying hu,hb,run_sizeOf hz]
   ·cases h
  ·cases h
 | ag6 id off len e cap ad hid hle=>
  simp only[dj4] at h;split at h
  ·rename_i l h' hl hh;split at h
   ·rename_i hcc;obtain ⟨c1,c2,rfl⟩:=hcc;cases h;have hb:=ai4 (P:=P) (w:=w) (ρ:=ρ) (isSlice:=true) (cap:=cap) hl hh h1 h2 c1 (by omega);refine ⟨.slice (some (if cap=l then ad else ad.add (l*e))) (h'-l) (cap-l),?_,.ag6 id _ _ e _ _ hid (by omega)⟩;simp[Instr.sliceAt,Instr.slice,run_underlying hu,hb,run_sizeOf hz,apply_ite]
   ·cases h
  ·cases h
 | ak1 id off len e ad hid=>
  simp only[dj4] at h;split at h
  ·rename_i l h' hl hh;split at h
   ·rename_i hcc;obtain ⟨c1,c2,rfl⟩:=hcc;cases h;have hb:=ai4 (P:=P) (w:=w) (ρ:=ρ) (isSlice:=true) (cap:=len) hl hh h1 h2 c1 (by omega);refine ⟨.slice (some (if len=l then ad else ad.add (l*e))) (h'-l) (len-l),?_,.ag6 id _ _ e _ _ hid (by omega)⟩;simp[Instr.sliceAt,Instr.slice,run_underlying hu,hb,run_sizeOf hz,apply_ite]
   ·cases h
  ·cases h
 | ae2 id off len e B d rcs el fz hid hbk hsz=>
  simp only[dj4] at h;split at h
  ·rename_i l h' hl hh;split at h
   ·rename_i hcc;obtain ⟨c1,c2,rfl⟩:=hcc;cases h;have hb:=ai4 (P:=P) (w:=w) (ρ:=ρ) (isSlice:=true) (cap:=len) hl hh h1 h2 c1 (by omega);refine ⟨.slice (some (if len=l then ⟨B,d+off,none⟩ else ⟨B,d+off+l*e,none⟩)) (h'-l) (len-l),?_,?_⟩
    ·simp[Instr.sliceAt,Instr.slice,run_underlying hu,hb,run_sizeOf hz,am3,apply_ite]
    ·by_cases hcl:len=l
     ·have e1:h'-l=0:=by omega
      have e2:len-l=0:=by omega
      rw[e1,e2];exact .ag5 id _ e B d _ hid
     ·simp only[hcl,if_false];rw[Nat.add_assoc];refine .slice id _ _ e B d _ rcs el fz hid hbk ?_ (by omega);have:(len-l)*e+l*e=len*e:=by rw[← Nat.add_mul]; congr 1; omega
      omega
   ·cases h
  ·cases h
 | ak9 id off len room e cap ad hid hle hr=>
  simp only[dj4] at h;split at h
  ·rename_i l h' hl hh;split at h
   ·rename_i hcc;obtain ⟨c1,c2,rfl⟩:=hcc;cases h;have hb:=ai4 (P:=P) (w:=w) (ρ:=ρ) (isSlice:=true) (cap:=cap) hl hh h1 h2 c1 (by omega);refine ⟨.slice (some (if cap=l then ad else ad.add (l*e))) (h'-l) (cap-l),?_,.ag6 id _ _ e _ _ hid (by omega)⟩;simp[Instr.sliceAt,Instr.slice,run_underlying hu,hb,run_sizeOf hz,apply_ite]
   ·cases h
  ·cases h
 | ad7 id off len room e B d cap rcs el fz hid hbk hsz hle hr=>
  simp only[dj4] at h;split at h
  ·rename_i l h' hl hh;split at h
   ·rename_i hcc;obtain ⟨c1,c2,rfl⟩:=hcc;cases h;have hb:=ai4 (P:=P) (w:=w) (ρ:=ρ) (isSlice:=true) (cap:=cap) hl hh h1 h2 c1 (by omega);refine ⟨.slice (some (if cap=l then ⟨B,d+off,none⟩ else ⟨B,d+off+l*e,none⟩)) (h'-l) (cap-l),?_,?_⟩
    ·simp[Instr.sliceAt,Instr.slice,run_underlying hu,hb,run_sizeOf hz,am3,apply_ite]
    ·by_cases hcl:cap=l
     ·have e1:h'-l=0:=by omega
      have e2:cap-l=0:=by omega
      rw[e1,e2];exact .ag5 id _ e B d _ hid
     ·simp only[hcl,if_false];rw[Nat.add_assoc];refine .slice id _ _ e B d _ rcs el fz hid hbk ?_ (by omega);have:(cap-l)*e+l*e=cap*e:=by rw[← Nat.add_mul]; congr 1; omega
      omega
   ·cases h
  ·cases h
 | _=>simp[dj4] at h
end Go.Id
/- More quiet operations on ideal values: nil,equality of structs,conversions,building,closures,maps that are read. Conditions: none; over any program. -/
namespace Go.Id
open Go
variable {P:Program} {w:World} {ρ:Rho}
def ep6:IV→Option IV
 | .aa1=>some .aa1
 | .ab4=>some .ab4
 | .ad4=>some .ab4
 | .aa4 es=>if es=[] then some (.aa4 []) else some .ab4
 | .slice _ _ _ _=>some .ab4
 | .ae2 _ _ _ _=>some .ab4
 | _=>none
theorem ep7 {t elem:TypeId}{esz:Nat}{a v:IV}{ra:Value}{k1 k2:IntKind}
  (hu:P.underlying t=some (.slice elem)) (hz:szT P elem=some esz) (h:ep6 a=some v) (ha:VR ρ w a ra) :
  ∃ x,(Instr.sliceAt t ra none (some (.int k1 0)) (some (.int k2 0))).run P w=.ok x w∧VR ρ w v x:=by
 have hb:∀ len cap:Nat,(Instr.sliceBounds true len cap none (some (.int k1 0)) (some (.int k2 0))).run P w=.ok (0,0,0) w:=fun len cap=>by
  simp[Instr.sliceBounds,Instr.sliceBound,asIntOf]
 cases ha with
 | aa1=>cases h; exact ⟨_,by simp[Instr.sliceAt,Instr.slice,run_underlying hu,hb,run_sizeOf hz],.aa1⟩
 | ab4 c=>cases h; exact ⟨_,by simp[Instr.sliceAt,Instr.slice,run_underlying hu,hb,run_sizeOf hz]; rfl,.ab4 _⟩
 | ad4 c _=>cases h; exact ⟨_,by simp[Instr.sliceAt,Instr.slice,run_underlying hu,hb,run_sizeOf hz]; rfl,.ab4 _⟩
 | bp2=>cases h; exact ⟨_,by simp[Instr.sliceAt,Instr.slice,run_underlying hu,hb,run_sizeOf hz],.bp2⟩
 | aa4 es b o cap esz sp vs hf hsz hc hv hle=>
  simp only[ep6] at h;split at h
  ·cases h; exact ⟨_,by simp[Instr.sliceAt,Instr.slice,run_underlying hu,hb,run_sizeOf hz]; rfl,by
    have:=VR.aa4 (ρ:=ρ) (w:=w) [] b o 0 0 sp (fun _ _=>.nilIface) (fun hn=>absurd rfl hn) (fun i hi=>by simp at hi) (fun i hi=>by simp at hi) (fun i hi=>by simp at hi) (by simp);exact this⟩
  ·cases h; exact ⟨_,by simp[Instr.sliceAt,Instr.slice,run_underlying hu,hb,run_sizeOf hz]; rfl,.ab4 _⟩
 | slice id off len e B d cap rcs el fz hid hbk hsz hle=>cases h; exact ⟨_,by simp[Instr.sliceAt,Instr.slice,run_underlying hu,hb,run_sizeOf hz]; rfl,.ab4 _⟩
 | ag5 id off e B d a hid=>cases h; exact ⟨_,by simp[Instr.sliceAt,Instr.slice,run_underlying hu,hb,run_sizeOf hz]; rfl,.ab4 _⟩
 | ag6 id off len e cap ad hid hle=>cases h; exact ⟨_,by simp[Instr.sliceAt,Instr.slice,run_underlying hu,hb,run_sizeOf hz]; rfl,.ab4 _⟩
 | ae2 id off len e B d rcs el fz hid hbk hsz=>cases h; exact ⟨_,by simp[Instr.sliceAt,Instr.slice,run_underlying hu,hb,run_sizeOf hz]; rfl,.ab4 _⟩
 | ak1 id off len e ad hid=>cases h; exact ⟨_,by simp[Instr.sliceAt,Instr.slice,run_underlying hu,hb,run_sizeOf hz]; rfl,.ab4 _⟩
 | _=>simp[ep6] at h
/-! ### nil -/
def fj7 (d:TypeDesc):IV→Option Bool
 | .ad3=>match d with|.pointer _=>some true|_=>none
 | .af4 _=>match d with|.pointer _=>some false|_=>none
 | .ptr _ _=>match d with|.pointer _=>some false|_=>none
 | .aa1=>match d with|.slice _=>some true|_=>none
 | .ab4=>match d with|.slice _=>some false|_=>none
 | .ad4=>match d with|.slice _=>some false|_=>none
 | .aa4 es=>if es=[] then none else match d with|.slice _=>some false|_=>none
 | .slice _ _ _ _=>match d with|.slice _=>some false|_=>none
 | .af9=>match d with|.map _ _=>some true|_=>none
 | .map _=>match d with|.map _ _=>some false|_=>none
 | .ae6=>match d with|.func _ _ _=>some true|_=>none
 | .func _ _ _=>match d with|.func _ _ _=>some false|_=>none
 | _=>none
def fx8:IV→IV
 | .ae2 i o l e=>.slice i o l e
 | .ad7 i o l _ e=>.slice i o l e
 | v=>v
theorem da7 {v:IV}{r:Value}(h:VR ρ w v r):VR ρ w (fx8 v) r:=by
 cases h with
 | ae2 id off len esz B d rcs el fz hi hb hsz=>exact .slice id off len esz B d len rcs el fz hi hb hsz (Nat.le_refl _)
 | ak1 id off len esz ad hi=>exact .ag6 id off len esz len ad hi (Nat.le_refl _)
 | ad7 id off len room esz B d cap rcs el fz hi hb hsz hle hr=>exact .slice id off len esz B d cap rcs el fz hi hb hsz (Nat.le_trans hle hr)
 | ak9 id off len room esz cap ad hi hle hr=>exact .ag6 id off len esz cap ad hi (Nat.le_trans hle hr)
 | undef r=>exact .undef r
 | bool b=>exact .bool b
 | int k n=>exact .int k n
 | str s=>exact .str s
 | ad3=>exact .ad3
 | ptr id off B d h=>exact .ptr id off B d h
 | ca2 id off ad h=>exact .ca2 id off ad h
 | af4 cs b o vs hf hc hv=>exact .af4 cs b o vs hf hc hv
 | aa1=>exact .aa1
 | ab4 a=>exact .ab4 a
 | ad4 a c=>exact .ad4 a c
 | slice id off len esz B d cap rcs el fz h hb hsz hle=>exact .slice id off len esz B d cap rcs el fz h hb hsz hle
 | ag5 id off esz B d a h=>exact .ag5 id off esz B d a h
 | ag6 id off len esz cap ad h hle=>exact .ag6 id off len esz cap ad h hle
 | aa4 es b o cap esz sp vs hf hsz hc hv hle=>exact .aa4 es b o cap esz sp vs hf hsz hc hv hle
 | bp2=>exact .bp2
 | af9=>exact .af9
 | map id B d h=>exact .map id B d h
 | mapD id B h=>exact .mapD id B h
 | al5 es es' b mes clock hp hd hf hb hl hk hv h4 h5=>exact .al5 es es' b mes clock hp hd hf hb hl hk hv h4 h5
 | func fn first cap rf rc hy h1 h2 hf hc=>exact .func fn first cap rf rc hy h1 h2 hf hc
 | yield id B d h=>exact .yield id B d h
 | as7 id B h=>exact .as7 id B h
 | ae6=>exact .ae6
 | iface t v r h=>exact .iface t v r h
 | ae1=>exact .ae1
 | agg cs rs h hv=>exact .agg cs rs h hv
 | tuple cs rs h hv=>exact .tuple cs rs h hv
def bk5 (d:TypeDesc)(v:IV):Option Bool:=fj7 d (fx8 v)
def dy3:TypeDesc→Option Value
 | .pointer _=>some (.pointer none)
 | .slice _=>some (.slice none 0 0)
 | .map _ _=>some (.map none)
 | .func _ _ _=>some .nilFunc
 | _=>none
theorem dy4 {t:TypeId}{d:TypeDesc}{op:BinOp}{x y:Operand}{a:IV}{ra rn:Value}{b:Bool}
  (hu:P.underlying t=some d) (hn:dy3 d=some rn) (hop:op=.eql∨op=.neq) (h:fj7 d a=some b) (ha:VR ρ w a ra) :
  (do eqGuard op t x y ra rn; binOp op t ra rn:Sem Value).run P w=.ok (.bool (if op=.eql then b else !b)) w:=by
 have hg:(eqGuard op t x y ra rn).run P w=.ok () w:=by
  unfold eqGuard;rcases hop with rfl|rfl<;>cases d<;>simp[dy3] at hn<;>subst hn<;>cases ra<;>rfl
 simp only[Sem.run_bind,hg,Result.andThen_ok]
 have key:(Op.equal t ra rn).run P w=.ok b w:=by
  unfold Op.equal Op.maxDepth Op.equalIn;cases ha<;>cases d<;>simp[dy3] at hn<;>(try subst hn)<;>simp[fj7] at h<;>simp[run_underlying hu,h]
 rcases hop with rfl|rfl<;>cases d<;>simp[dy3] at hn<;>subst hn<;>cases ha<;>simp[fj7] at h<;>simp[binOp,key]
theorem ep8 {t:TypeId}{d:TypeDesc}{op:BinOp}{x y:Operand}{a:IV}{ra rn:Value}{b:Bool}
  (hu:P.underlying t=some d) (hn:dy3 d=some rn) (hop:op=.eql∨op=.neq) (h:bk5 d a=some b) (ha:VR ρ w a ra) :
  (do eqGuard op t x y ra rn; binOp op t ra rn:Sem Value).run P w=.ok (.bool (if op=.eql then b else !b)) w :=
 dy4 hu hn hop h (da7 ha)
/-! ### Structs of numbers,strings and bools,held against each other -/
def ai2:Nat→IV→IV→Option Bool
 | 0,.bool a,.bool b=>some (a==b)
 | 1,.int k a,.int k' b=>if k=k' then some (decide (a=b)) else none
 | 2,.str a,.str b=>some (decide (a=b))
 | _,_,_=>none
def allEq:List Nat→List IV→List IV→Option Bool
 | [],[],[]=>some true
 | t::ts,x::xs,y::ys=>match ai2 t x y,allEq ts xs ys with
  | some a,some b=>some (a&&b)
  | _,_=>none
 | _,_,_=>none
def da8 (P:Program)(g:TypeId→Option (List Nat)):List Field→Nat→Option (List Nat)
 | [],_=>some []
 | f::fs,off=>
  if f.name ≠ "_" ∧ f.offset = off then
   match g f.type,aj9 P f.type with
   | some l,some none=>if l.length=1 then (da8 P g fs (off+1)).map (l++·) else none
   | some l,some (some n)=>if n=l.length∧l.length≠0 then (da8 P g fs (off+l.length)).map (l++·) else none
   | _,_=>none
  else none
def cg5 (P:Program):Nat→TypeId→Option (List Nat)
 | 0,_=>none
 | d+1,t=>match P.underlying t with
  | some .bool=>some [0]
  | some (.int _)=>some [1]
  | some .string=>some [2]
  | some (.struct fs)=>if P.stoodInHeld t then none else da8 P (cg5 P d) fs.toList 0
  | some (.array n e)=>match P.underlying e with
   | some (.int _)=>if szT P e=some 1∧0<d then some (List.replicate n 1) else none
   | _=>none
  | _=>none
theorem da9 {t1 t2:List Nat}{xs ys:List IV}{b:Bool}(h:allEq (t1++t2) xs ys=some b) :
  ∃ b1 b2,allEq t1 (xs.take t1.length) (ys.take t1.length)=some b1∧allEq t2 (xs.drop t1.length) (ys.drop t1.length)=some b2∧b=(b1&&b2):=by
 induction t1 generalizing xs ys b with
 | nil=>exact ⟨true,b,by simp[allEq],by simpa using h,by simp⟩
 | cons t ts ih=>
  cases xs with
  | nil=>simp[allEq] at h
  | cons x xs=>
   cases ys with
   | nil=>simp[allEq] at h
   | cons y ys=>
    simp only[List.cons_append,allEq] at h;split at h
    ·rename_i a b' h1 h2;cases h;obtain ⟨b1,b2,e1,e2,rfl⟩:=ih h2;refine ⟨a&&b1,b2,?_,by simpa using e2,by rw[Bool.and_assoc]⟩;simp[allEq,h1,e1]
    ·cases h
theorem allEq_len {ts:List Nat}{xs ys:List IV}{b:Bool}(h:allEq ts xs ys=some b):xs.length=ts.length∧ys.length=ts.length:=by
 induction ts generalizing xs ys b with
 | nil=>cases xs<;>cases ys<;>simp[allEq] at h ⊢
 | cons t ts ih=>
  cases xs with
  | nil=>simp[allEq] at h
  | cons x xs=>
   cases ys with
   | nil=>simp[allEq] at h
   | cons y ys=>
    simp only[allEq] at h;split at h
    ·rename_i a b' h1 h2;have:=ih h2;simp[this]
    ·cases h
def IV.cs:IV→List IV
 | .agg xs=>xs
 | v=>[v]
theorem IV.bh6 {v:IV}(h:∀ zs,v≠.agg zs):v.cs=[v]:=by
 cases v<;>first|rfl|exact absurd rfl (h _)
theorem dj5 (t:Nat)(zs:List IV)(y:IV):ai2 t (.agg zs) y=none:=by
 unfold ai2; split<;>first|rfl|contradiction
theorem dj6 (t:Nat)(zs:List IV)(x:IV):ai2 t x (.agg zs)=none:=by
 unfold ai2; split<;>first|rfl|contradiction
theorem cc2 {t:Nat}{x y:IV}{b:Bool}(h:allEq [t] [x] [y]=some b):ai2 t x y=some b:=by
 simp only[allEq] at h;split at h
 ·rename_i a c h1 h2; cases h2; simpa [h1] using h
 ·cases h
theorem fj8 {x y:IV}{b:Bool}(h:ai2 0 x y=some b):∃ a c,x=.bool a∧y=.bool c∧b=(a==c):=by
 unfold ai2 at h; split at h<;>simp_all
theorem ct4 {x y:IV}{b:Bool}(h:ai2 1 x y=some b):∃ k a c,x=.int k a∧y=.int k c∧b=decide (a=c):=by
 unfold ai2 at h;split at h
 case h_2 k a k' c=>
  split at h
  ·rename_i hk; subst hk; cases h; exact ⟨_,_,_,rfl,rfl,rfl⟩
  ·cases h
 all_goals first|contradiction|(exfalso; simp_all; done)
theorem fj9 {x y:IV}{b:Bool}(h:ai2 2 x y=some b):∃ a c,x=.str a∧y=.str c∧b=decide (a=c):=by
 unfold ai2 at h; split at h<;>simp_all
theorem gs3 {t e:TypeId}{k:IntKind}{n:Nat}(hut:P.underlying t=some (.array n e))(hu:P.underlying e=some (.int k))(hsz:szT P e=some 1){d:Nat}{xs ys:List IV}{rxs rys:Array Value}{b:Bool}(hd:0<d)
  (hx:xs.length=rxs.size) (hy:ys.length=rys.size) (vx:∀ i,i<xs.length→VR ρ w (xs.getD i .undef) (rxs.getD i undef)) (vy:∀ i,i<ys.length→VR ρ w (ys.getD i .undef) (rys.getD i undef))
  (hb:allEq (List.replicate n 1) xs ys=some b) :
  (Op.equalIn (d+1) t (.agg rxs) (.agg rys)).run P w=.ok b w:=by
 have hlk:aj9 P e=some none:=by simp[aj9,dr4,hu]
 simp only[Op.equalIn,Sem.run_bind,run_underlying hut,Result.andThen_ok,run_sizeOf hsz,_root_.Std.Legacy.Range.forIn_eq_forIn_range',_root_.Std.Legacy.Range.size,Nat.sub_zero,Nat.add_sub_cancel,Nat.div_one,Nat.mul_one]
 have key:∀ (m off:Nat) (b:Bool),allEq (List.replicate m 1) (xs.drop off) (ys.drop off)=some b →
   (forIn (m:=Sem) (List.range' off m) ((none,()):Option Bool×Unit) fun i __s=>do
      let __do_lift ← part e rxs i;let __do_lift_1 ← part e rys i;let __do_lift ← Op.equalIn d e __do_lift __do_lift_1
      if (!__do_lift)=true then pure (ForInStep.done (some false,())) else pure (ForInStep.yield (none,()))).run P w=.ok (if b then none else some false,()) w:=by
  intro m
  induction m with
  | zero=>
   intro off b h;rw[List.replicate_zero] at h;cases hxs:xs.drop off<;>cases hys:ys.drop off<;>rw[hxs,hys] at h<;>simp[allEq] at h;subst h
   simp
  | succ m ih=>
   intro off b h;rw[List.replicate_succ] at h;obtain ⟨l1,l2⟩:=allEq_len h;simp only[List.length_drop,List.length_cons,List.length_replicate] at l1 l2;have g1:off<xs.length:=by omega
   have g2:off<ys.length:=by omega
   rw[List.drop_eq_getElem_cons g1,List.drop_eq_getElem_cons g2] at h;simp only[allEq] at h;split at h
   ·rename_i b1 b2 h1 h2;cases h;obtain ⟨x,hpx,hvx⟩:=an8 (P:=P) hlk (show aw5 none off xs=some xs[off] by simp[aw5,g1]) hx vx;obtain ⟨y,hpy,hvy⟩:=an8 (P:=P) hlk (show aw5 none off ys=some ys[off] by simp[aw5,g2]) hy vy;obtain ⟨k1,a,c,ea,ec,rfl⟩:=ct4 h1;rw[ea] at hvx;rw[ec] at hvy;cases hvx; cases hvy
    have hq:(Op.equalIn d e (.int k1 a) (.int k1 c)).run P w=.ok (decide (a=c)) w:=by
     obtain ⟨d,rfl⟩:∃ m,d=m+1:=⟨d-1,by omega⟩;simp[Op.equalIn,run_underlying hu,cb9]
    simp only[List.range'_succ,List.forIn_cons,Sem.run_bind,hpx,hpy,hq,Result.andThen_ok];by_cases hac:a=c
    ·have:=ih (off+1) b2 h2;simp only[hac,decide_true,Bool.not_true,Bool.false_eq_true,if_false,Sem.run_pure,Result.andThen_ok,Bool.true_and];exact this
    ·simp[hac]
   ·cases h
 rw[key n 0 b (by simpa using hb)];cases b<;>simp
def if5 (P:Program)(d:Nat)(t:TypeId)(tags:List Nat):Prop :=
 ∀ (ρ:Rho) (w:World) (e:Nat) (x y:IV) (rx ry:Value) (b:Bool),VR ρ w x rx→VR ρ w y ry→(match aj9 P t with|some none=>(∀ zs,x≠.agg zs)∧(∀ zs,y≠.agg zs)|some (some _)=>(∃ xs,x=.agg xs)∧∃ ys,y=.agg ys|none=>False) →
  allEq tags x.cs y.cs=some b→(Op.equalIn (e+d) t rx ry).run P w=.ok b w
theorem cg6 {d e:Nat}{g:TypeId→Option (List Nat)}(hg:∀ t tags,g t=some tags→if5 P d t tags){xs ys:List IV}{rxs rys:Array Value}
  (hx:xs.length=rxs.size) (hy:ys.length=rys.size) (vx:∀ i,i<xs.length→VR ρ w (xs.getD i .undef) (rxs.getD i undef)) (vy:∀ i,i<ys.length→VR ρ w (ys.getD i .undef) (rys.getD i undef)) :
  ∀ (fs:List Field) (off:Nat) (tags:List Nat) (b:Bool),da8 P g fs off=some tags→allEq tags (xs.drop off) (ys.drop off)=some b →
   (Op.eqFields (e+d) rxs rys fs).run P w=.ok b w:=by
 intro fs
 induction fs with
 | nil=>
  intro off tags b hf h;cases hf;cases hxs:xs.drop off<;>cases hys:ys.drop off<;>rw[hxs,hys] at h<;>simp[allEq] at h;subst h
  simp[Op.eqFields]
 | cons f fs ih=>
  intro off tags b hf h;simp only[da8] at hf;split at hf
  case isFalse=>cases hf
  rename_i hn;obtain ⟨hn,rfl⟩:=hn
  have step:∀ (l ts:List Nat) (agg:Option Nat),g f.type=some l→aj9 P f.type=some agg→(agg.getD 1=l.length)→(∀ n,agg=some n→l.length≠0)→da8 P g fs (f.offset+l.length)=some ts→tags=l++ts →
    (Op.eqFields (e+d) rxs rys (f::fs)).run P w=.ok b w:=by
   intro l ts agg hl hk hsz hnz hrest htags;subst htags;obtain ⟨b1,b2,e1,e2,rfl⟩:=da9 h;have len1:=allEq_len e1;simp only[List.length_take,List.length_drop] at len1;have hxl:f.offset+l.length≤xs.length∨l.length=0:=by omega
   have hyl:f.offset+l.length≤ys.length∨l.length=0:=by omega
   -- the parts
   have parts:∃ px py,aw5 agg f.offset xs=some px∧aw5 agg f.offset ys=some py ∧
     (match aj9 P f.type with|some none=>(∀ zs,px≠.agg zs)∧(∀ zs,py≠.agg zs)|some (some _)=>(∃ xs,px=.agg xs)∧∃ ys,py=.agg ys|none=>False) ∧
     allEq l px.cs py.cs=some b1:=by
    cases agg with
    | none=>
     simp at hsz;have h1:f.offset<xs.length:=by omega
     have h2:f.offset<ys.length:=by omega
     have t1:(xs.drop f.offset).take l.length=[xs[f.offset]]:=by
      rw[← hsz,List.drop_eq_getElem_cons h1]; rfl
     have t2:(ys.drop f.offset).take l.length=[ys[f.offset]]:=by
      rw[← hsz,List.drop_eq_getElem_cons h2]; rfl
     rw[t1,t2] at e1
     have nx:∀ zs,xs[f.offset]≠.agg zs:=by
      intro zs hz;rw[hz] at e1
      match l,hsz,e1 with
      | [tag],_,e1=>simp only[allEq,dj5] at e1; cases e1
     have ny:∀ zs,ys[f.offset]≠.agg zs:=by
      intro zs hz;rw[hz] at e1
      match l,hsz,e1 with
      | [tag],_,e1=>simp only[allEq,dj6] at e1; cases e1
     refine ⟨xs[f.offset],ys[f.offset],by simp[aw5,h1],by simp[aw5,h2],by rw[hk]; exact ⟨nx,ny⟩,?_⟩;rw[IV.bh6 nx,IV.bh6 ny]
     exact e1
    | some n=>
     simp at hsz;have h0:=hnz n rfl;subst hsz;have h1:f.offset+l.length≤xs.length:=by omega
     have h2:f.offset+l.length≤ys.length:=by omega
     rw[hk];exact ⟨.agg ((xs.drop f.offset).take l.length),.agg ((ys.drop f.offset).take l.length),by simp[aw5,h1],by simp[aw5,h2],⟨⟨_,rfl⟩,⟨_,rfl⟩⟩,e1⟩
   obtain ⟨px,py,p1,p2,p3,p4⟩:=parts;obtain ⟨qx,r1,v1⟩:=an8 hk p1 hx vx;obtain ⟨qy,r2,v2⟩:=an8 hk p2 hy vy;have heq:=hg f.type l hl ρ w e px py qx qy b1 v1 v2 p3 p4;simp only[Op.eqFields,hn,ne_eq,not_false_eq_true,if_true,Sem.run_bind,r1,r2,heq,Result.andThen_ok]
   cases b1 with
   | false=>simp
   | true=>
    simp only[Bool.not_true,Bool.false_eq_true,if_false,Bool.true_and];exact ih (f.offset+l.length) ts b2 hrest (by simpa [List.drop_drop] using e2)
  split at hf
  ·rename_i l hl hk;split at hf
   ·rename_i h1
    cases hr:da8 P g fs (f.offset+1) with
    | none=>rw[hr] at hf; cases hf
    | some ts=>rw[hr] at hf; cases hf; exact step l ts none hl hk (by simp[h1]) (fun n hn=>by cases hn) (by rw[h1]; exact hr) rfl
   ·cases hf
  ·rename_i l n hl hk;split at hf
   ·rename_i h1
    cases hr:da8 P g fs (f.offset+l.length) with
    | none=>rw[hr] at hf; cases hf
    | some ts=>rw[hr] at hf; cases hf; exact step l ts (some n) hl hk (by simp[h1.1]) (fun _ _=>h1.2) hr rfl
   ·cases hf
  ·cases hf
end Go.Id
