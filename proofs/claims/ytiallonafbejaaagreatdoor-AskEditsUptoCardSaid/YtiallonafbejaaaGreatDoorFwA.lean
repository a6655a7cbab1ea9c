/- The ideal values,the ideal store,how they stand for the model's values and world; what a step of the world keeps. Conditions: none; over any program. -/
import Derived.RangeFuncLeaves
import Derived.OrdersIn
import Derived.LoopNIn
import Derived.TacticsIn
import Derived.WalkKit
import Derived.Lib.Bytealg
import Derived.KernelRfl
set_option linter.all false
namespace Go.Id
inductive IV where
 | undef
 | bool (b : Bool)
 | int (k : IntKind) (n : Int)
 | str (s : List UInt8)
 | nilptr
 | ptr (id off : Nat)
 | tptr (cs : List IV)
 | nilslice
 | zslice
 | eslice
 | slice (id off len esz : Nat)
 | tslice (es : List (List IV))
 | nilmap
 | map (id : Nat)
 | tmap (es : List (IV × IV))
 | func (fn : Fn) (first cap : List IV)
 | yield (id : Nat)
 | nilfunc
 | iface (t : Nat) (v : IV)
 | niliface
 | agg (cs : List IV)
 | tuple (vs : List IV)
 | cslice (id off len esz : Nat)
 | rslice (id off len room esz : Nat)
 deriving Inhabited
inductive IObj where
 | cells (cs : List IV)
 | row (cs : List IV)
 | map (es : List (IV × IV))
 | siter (s : List UInt8) (pos : Nat)
 | loop (N : Nat) (tmps : List (Nat × IV)) (params : Array Tmp) (assign body : Code) (st : LoopState) (pend : Option Code)
 | miter (left : List (IV × IV)) (cur : Option (IV × IV))
 deriving Inhabited
inductive RRef where
 | no
 | dead
 | at (B d : Nat)
structure Store where
 next : Nat
 obj : Nat→Option IObj
structure Rho where
 map : Nat→RRef
 X : Nat→Prop
instance : CoeFun Rho (fun _ => Nat→RRef):=⟨Rho.map⟩
structure UB (ρ : Rho) (w : World) (b : Nat) : Prop where
 lt : b < w.heap.size
 no : ∀ i d,ρ i≠.at b d
structure FB (ρ : Rho) (w : World) (b : Nat) : Prop where
 lt : b < w.heap.size
 no : ∀ i d,ρ i≠.at b d
 x : ¬ ρ.X b
theorem FB.ub {ρ : Rho} {w : World} {b : Nat} (h : FB ρ w b) : UB ρ w b:=⟨h.1,h.2⟩
inductive KK where
 | str
 | int (k : IntKind)
 | agg (ks : List IntKind)
def keyIs : KK→IV→Prop
 | .str,.str _ => True
 | .int k,.int k' _ => k'=k
 | .agg ks,.agg cs => cs.length=ks.length∧∀ i,i < cs.length→∃ n,cs.getD i .undef=.int (ks.getD i .i64) n
 | _,_ => False
def KeysOK (es : List (IV × IV)) : Prop:=(es.map (·.1)).Nodup∧∃ K,∀ e∈es,keyIs K e.1
inductive VR (ρ : Rho) (w : World) : IV→Value→Prop
 | undef (r : Value) : VR ρ w .undef r
 | bool (b : Bool) : VR ρ w (.bool b) (.bool b)
 | int (k : IntKind) (n : Int) : VR ρ w (.int k n) (.int k n)
 | str (s : List UInt8) : VR ρ w (.str s) (.string ⟨s.toArray⟩)
 | nilptr : VR ρ w .nilptr (.pointer none)
 | ptr (id off B d : Nat) (h : ρ id=.at B d) : VR ρ w (.ptr id off) (.pointer (some ⟨B,d+off,none⟩))
 | ptrD (id off : Nat) (ad : Addr) (h : ρ id=.dead) : VR ρ w (.ptr id off) (.pointer (some ad))
 | tptr (cs : List IV) (b o : Nat) (vs : Nat→Value) (hf : FB ρ w b)
   (hc : ∀ j,j < cs.length→w.cell? ⟨b,o+j,none⟩=some (vs j)) (hv : ∀ j,j < cs.length→VR ρ w (cs.getD j .undef) (vs j)) :
   VR ρ w (.tptr cs) (.pointer (some ⟨b,o,none⟩))
 | nilslice : VR ρ w .nilslice (.slice none 0 0)
 | zslice (a : Addr) : VR ρ w .zslice (.slice (some a) 0 0)
 | eslice (a : Addr) (cap : Nat) : VR ρ w .eslice (.slice (some a) 0 cap)
 | slice (id off len esz B d cap : Nat) (rcs : Array Value) (el : TypeId) (fz : Nat × Nat) (h : ρ id=.at B d)
   (hb : w.heap[B]? = some (.cells rcs el fz)) (hsz : d+off+cap * esz≤rcs.size) (hle : len≤cap) :
   VR ρ w (.slice id off len esz) (.slice (some ⟨B,d+off,none⟩) len cap)
 | sliceZ (id off esz B d : Nat) (a : Addr) (h : ρ id=.at B d) : VR ρ w (.slice id off 0 esz) (.slice (some a) 0 0)
 | sliceD (id off len esz cap : Nat) (ad : Addr) (h : ρ id=.dead) (hle : len≤cap) : VR ρ w (.slice id off len esz) (.slice (some ad) len cap)
 | tslice (es : List (List IV)) (b o cap esz : Nat) (sp : Option Nat) (vs : Nat→Nat→Value) (hf : es≠[]→FB ρ w b∧sp=none)
   (hsz : ∀ i,i < es.length→(es.getD i []).length=esz)
   (hc : ∀ i,i < es.length→∀ j,j < esz→w.cell? ⟨b,o+(i * esz+j),none⟩=some (vs i j))
   (hv : ∀ i,i < es.length→∀ j,j < esz→VR ρ w ((es.getD i []).getD j .undef) (vs i j)) (hle : es.length≤cap) :
   VR ρ w (.tslice es) (.slice (some ⟨b,o,sp⟩) es.length cap)
 | tnil : VR ρ w (.tslice []) (.slice none 0 0)
 | nilmap : VR ρ w .nilmap (.map none)
 | map (id B d : Nat) (h : ρ id=.at B d) : VR ρ w (.map id) (.map (some B))
 | mapD (id B : Nat) (h : ρ id=.dead) : VR ρ w (.map id) (.map (some B))
 | tmap (es es' : List (IV × IV)) (b : Nat) (mes : Array MapEntry) (clock : Nat) (hp : es'.Perm es) (hd : KeysOK es) (hf : FB ρ w b) (hb : w.heap[b]? = some (.map mes clock)) (hl : es'.length=mes.size)
   (hk : ∀ i,i < es'.length→VR ρ w (es'.getD i (.undef,.undef)).1 (mes.getD i default).key) (hv : ∀ i,i < es'.length→VR ρ w (es'.getD i (.undef,.undef)).2 (mes.getD i default).val)
   (h4 : ∀ i,i < mes.size→(mes.getD i default).born < clock) (h5 : ∀ i j,i < j→j < mes.size→(mes.getD i default).born≠(mes.getD j default).born) : VR ρ w (.tmap es) (.map (some b))
 | func (fn : Fn) (first cap : List IV) (rf rc : Array Value) (hy : ∀ l,fn≠.yield l) (h1 : first.length=rf.size) (h2 : cap.length=rc.size)
   (hf : ∀ i,i < first.length→VR ρ w (first.getD i .undef) (rf.getD i undef)) (hc : ∀ i,i < cap.length→VR ρ w (cap.getD i .undef) (rc.getD i undef)) :
   VR ρ w (.func fn first cap) (.func fn rf rc)
 | yield (id B d : Nat) (h : ρ id=.at B d) : VR ρ w (.yield id) (.func (.yield B) #[] #[])
 | yieldD (id B : Nat) (h : ρ id=.dead) : VR ρ w (.yield id) (.func (.yield B) #[] #[])
 | nilfunc : VR ρ w .nilfunc .nilFunc
 | iface (t : Nat) (v : IV) (r : Value) (h : VR ρ w v r) : VR ρ w (.iface t v) (.iface t r)
 | niliface : VR ρ w .niliface .nilIface
 | agg (cs : List IV) (rs : Array Value) (h : cs.length=rs.size) (hv : ∀ i,i < cs.length→VR ρ w (cs.getD i .undef) (rs.getD i undef)) : VR ρ w (.agg cs) (.agg rs)
 | tuple (cs : List IV) (rs : Array Value) (h : cs.length=rs.size) (hv : ∀ i,i < cs.length→VR ρ w (cs.getD i .undef) (rs.getD i undef)) : VR ρ w (.tuple cs) (.tuple rs)
 | cslice (id off len esz B d : Nat) (rcs : Array Value) (el : TypeId) (fz : Nat × Nat) (h : ρ id=.at B d)
   (hb : w.heap[B]? = some (.cells rcs el fz)) (hsz : d+off+len * esz≤rcs.size) : VR ρ w (.cslice id off len esz) (.slice (some ⟨B,d+off,none⟩) len len)
 | csliceD (id off len esz : Nat) (ad : Addr) (h : ρ id=.dead) : VR ρ w (.cslice id off len esz) (.slice (some ad) len len)
 | rslice (id off len room esz B d cap : Nat) (rcs : Array Value) (el : TypeId) (fz : Nat × Nat) (h : ρ id=.at B d)
   (hb : w.heap[B]? = some (.cells rcs el fz)) (hsz : d+off+cap * esz≤rcs.size) (hle : len≤room) (hr : room≤cap) : VR ρ w (.rslice id off len room esz) (.slice (some ⟨B,d+off,none⟩) len cap)
 | rsliceD (id off len room esz cap : Nat) (ad : Addr) (h : ρ id=.dead) (hle : len≤room) (hr : room≤cap) : VR ρ w (.rslice id off len room esz) (.slice (some ad) len cap)
structure Ext (n : Nat) (ρ : Rho) (w : World) (ρ' : Rho) (w' : World) : Prop where
 size : w.heap.size≤w'.heap.size
 keep : ∀ b,UB ρ w b→w'.heap[b]? = w.heap[b]?
 shape : ∀ (b : Nat) (rcs : Array Value) (el : TypeId) (fz : Nat × Nat),w.heap[b]? = some (.cells rcs el fz)→∃ rcs' : Array Value,w'.heap[b]? = some (.cells rcs' el fz)∧rcs'.size=rcs.size
 img : ∀ i B d,ρ' i=.at B d→(∃ j d',ρ j=.at B d') ∨ w.heap.size≤B
 at_ : ∀ i B d,ρ i=.at B d→ρ' i=.at B d ∨ ρ' i=.dead
 dead : ∀ i,ρ i=.dead→ρ' i=.dead
 no : ∀ i,i < n→ρ i=.no→ρ' i=.no
 output : w'.output=w.output
 os : w'.os=w.os
 tape : w'.tape=w.tape
 loops : ∀ (l : Nat) (L : Loop),w.heap[l]? = some (Obj.loop L)→∃ L' : Loop,w'.heap[l]? = some (Obj.loop L')
 X : ρ'.X=ρ.X
theorem Ext.refl (n : Nat) (ρ : Rho) (w : World) : Ext n ρ w ρ w :=
 ⟨Nat.le_refl _,fun _ _ => rfl,fun _ r _ _ h => ⟨r,h,rfl⟩,fun i B d h => .inl ⟨i,d,h⟩,fun _ _ _ h => .inl h,fun _ h => h,fun _ _ h => h,rfl,rfl,rfl,fun _ L h => ⟨L,h⟩,rfl⟩
theorem Ext.ub {n : Nat} {ρ ρ' : Rho} {w w' : World} (h : Ext n ρ w ρ' w') {b : Nat} (hb : UB ρ w b) : UB ρ' w' b:=by
 refine ⟨Nat.lt_of_lt_of_le hb.1 h.size,fun i d hi => ?_⟩
 rcases h.img i b d hi with ⟨j,d',hj⟩ | hlt
 ·exact hb.2 j d' hj
 ·exact absurd hb.1 (Nat.not_lt.2 hlt)
theorem Ext.fb {n : Nat} {ρ ρ' : Rho} {w w' : World} (h : Ext n ρ w ρ' w') {b : Nat} (hb : FB ρ w b) : FB ρ' w' b :=
 ⟨(h.ub hb.ub).1,(h.ub hb.ub).2,by rw [h.X]; exact hb.3⟩
theorem Ext.trans {n n' : Nat} {ρ ρ' ρ'' : Rho} {w w' w'' : World} (h : Ext n ρ w ρ' w') (h' : Ext n' ρ' w' ρ'' w'') (hn : n≤n') : Ext n ρ w ρ'' w'' where
 size:=Nat.le_trans h.size h'.size
 keep:=fun b hb => by rw [h'.keep b (h.ub hb),h.keep b hb]
 shape:=fun b rcs el fz hb => by
  obtain ⟨r1,h1,s1⟩:=h.shape b rcs el fz hb
  obtain ⟨r2,h2,s2⟩:=h'.shape b r1 el fz h1
  exact ⟨r2,h2,by rw [s2,s1]⟩
 img:=fun i B d hi => by
  rcases h'.img i B d hi with ⟨j,d',hj⟩ | hlt
  ·exact h.img j B d' hj
  ·exact .inr (Nat.le_trans h.size hlt)
 at_:=fun i B d hi => by
  rcases h.at_ i B d hi with h1 | h1
  ·exact h'.at_ i B d h1
  ·exact .inr (h'.dead i h1)
 dead:=fun i hi => h'.dead i (h.dead i hi)
 no:=fun i hi h0 => h'.no i (Nat.lt_of_lt_of_le hi hn) (h.no i hi h0)
 output:=by rw [h'.output,h.output]
 os:=by rw [h'.os,h.os]
 tape:=by rw [h'.tape,h.tape]
 loops:=fun l L hl => let ⟨L',h1⟩:=h.loops l L hl; h'.loops l L' h1
 X:=by rw [h'.X,h.X]
theorem Ext.cell {n : Nat} {ρ ρ' : Rho} {w w' : World} (h : Ext n ρ w ρ' w') {b o : Nat} (hb : FB ρ w b) : w'.cell? ⟨b,o,none⟩=w.cell? ⟨b,o,none⟩:=by
 unfold World.cell?
 rw [h.keep b hb.ub]
theorem VR.mono {n : Nat} {ρ ρ' : Rho} {w w' : World} (h : Ext n ρ w ρ' w') {v : IV} {r : Value} (hv : VR ρ w v r) : VR ρ' w' v r:=by
 induction hv with
 | undef r => exact .undef r
 | bool b => exact .bool b
 | int k n => exact .int k n
 | str s => exact .str s
 | nilptr => exact .nilptr
 | ptr id off B d hi => 
  rcases h.at_ id B d hi with h1 | h1
  ·exact .ptr id off B d h1
  ·exact .ptrD id off _ h1
 | ptrD id off ad hi => exact .ptrD id off ad (h.dead id hi)
 | tptr cs b o vs hf hc _ ih => exact .tptr cs b o vs (h.fb hf) (fun j hj => by rw [h.cell hf]; exact hc j hj) ih
 | nilslice => exact .nilslice
 | zslice a => exact .zslice a
 | eslice a cap => exact .eslice a cap
 | slice id off len esz B d cap rcs el fz hi hb hsz hle =>
  rcases h.at_ id B d hi with h1 | h1
  ·obtain ⟨rcs',hb',hs'⟩:=h.shape B rcs el fz hb
   exact .slice id off len esz B d cap rcs' el fz h1 hb' (by rw [hs']; exact hsz) hle
  ·exact .sliceD id off len esz cap _ h1 hle
 | sliceZ id off esz B d a hi => 
  rcases h.at_ id B d hi with h1 | h1
  ·exact .sliceZ id off esz B d a h1
  ·exact .sliceD id off 0 esz 0 _ h1 (Nat.le_refl _)
 | sliceD id off len esz cap ad hi hle => exact .sliceD id off len esz cap ad (h.dead id hi) hle
 | cslice id off len esz B d rcs el fz hi hb hsz =>
  rcases h.at_ id B d hi with h1 | h1
  ·obtain ⟨rcs',hb',hs'⟩:=h.shape B rcs el fz hb
   exact .cslice id off len esz B d rcs' el fz h1 hb' (by rw [hs']; exact hsz)
  ·exact .csliceD id off len esz _ h1
 | csliceD id off len esz ad hi => exact .csliceD id off len esz ad (h.dead id hi)
 | rslice id off len room esz B d cap rcs el fz hi hb hsz hle hr =>
  rcases h.at_ id B d hi with h1 | h1
  ·obtain ⟨rcs',hb',hs'⟩:=h.shape B rcs el fz hb
   exact .rslice id off len room esz B d cap rcs' el fz h1 hb' (by rw [hs']; exact hsz) hle hr
  ·exact .rsliceD id off len room esz cap _ h1 hle hr
 | rsliceD id off len room esz cap ad hi hle hr => exact .rsliceD id off len room esz cap ad (h.dead id hi) hle hr
 | tslice es b o cap esz sp vs hf hsz hc _ hle ih =>
  refine .tslice es b o cap esz sp vs (fun hne => ⟨h.fb (hf hne).1,(hf hne).2⟩) hsz (fun i hi j hj => ?_) ih hle
  rw [h.cell (hf (by intro h0; subst h0; simp at hi)).1]
  exact hc i hi j hj
 | tnil => exact .tnil
 | nilmap => exact .nilmap
 | map id B d hi => 
  rcases h.at_ id B d hi with h1 | h1
  ·exact .map id B d h1
  ·exact .mapD id _ h1
 | mapD id B hi => exact .mapD id B (h.dead id hi)
 | tmap es es' b mes clock hp hd hf hb hl _ _ h4 h5 ihk ihv => exact .tmap es es' b mes clock hp hd (h.fb hf) (by rw [h.keep b hf.ub]; exact hb) hl ihk ihv h4 h5
 | func fn first cap rf rc hy h1 h2 _ _ ihf ihc => exact .func fn first cap rf rc hy h1 h2 ihf ihc
 | yield id B d hi => 
  rcases h.at_ id B d hi with h1 | h1
  ·exact .yield id B d h1
  ·exact .yieldD id _ h1
 | yieldD id B hi => exact .yieldD id B (h.dead id hi)
 | nilfunc => exact .nilfunc
 | iface t v r _ ih => exact .iface t v r ih
 | niliface => exact .niliface
 | agg cs rs h1 _ ih => exact .agg cs rs h1 ih
 | tuple cs rs h1 _ ih => exact .tuple cs rs h1 ih
def CellsOR (ρ : Rho) (w : World) (B d : Nat) (cs : List IV) : Prop :=
 ∃ (rcs : Array Value) (el : TypeId),w.heap[B]? = some (.cells rcs el (0,0))∧d+cs.length≤rcs.size∧∀ i,i < cs.length→VR ρ w (cs.getD i .undef) (rcs.getD (d+i) undef)
def OR (ρ : Rho) (w : World) (B d : Nat) : IObj→Prop
 | .cells cs | .row cs => CellsOR ρ w B d cs
 | .map es => ∃ (mes : Array MapEntry) (clock : Nat),w.heap[B]? = some (.map mes clock)∧d=0∧es.length=mes.size ∧
   (∀ i,i < es.length→VR ρ w (es.getD i (.undef,.undef)).1 (mes.getD i default).key∧VR ρ w (es.getD i (.undef,.undef)).2 (mes.getD i default).val) ∧
   (∀ i,i < mes.size→(mes.getD i default).born < clock)∧(∀ i j,i < j→j < mes.size→(mes.getD i default).born≠(mes.getD j default).born)
 | .siter s pos => w.heap[B]? = some (.stringIter ⟨s.toArray⟩ pos)∧d=0
 | .loop N tmps params assign body st pend => d=0∧∃ l : Loop,w.heap[B]? = some (.loop l)∧l.params=params∧l.assign=assign∧l.body=body∧l.pending=pend∧l.state=st∧l.tmps.size=N ∧
   (∀ t,VR ρ w ((tmps.lookup t).getD .undef) (l.tmps.getD t undef))
 | .miter left cur => d=0∧∃ (mb last : Nat) (seen : Array Nat) (mes : Array MapEntry) (clock : Nat) (lft : List (IV × IV)),w.heap[B]? = some (.mapIter (some mb) clock seen last)∧FB ρ w mb∧w.heap[mb]? = some (.map mes clock) ∧
   (∀ i,i < mes.size→(mes.getD i default).born < clock)∧(∀ i j,i < j→j < mes.size→(mes.getD i default).born≠(mes.getD j default).born)∧last=clock ∧
   lft.length=(mes.toList.filter fun e => !seen.contains e.born).length∧lft.Perm left ∧
   (∀ c,cur=some c→∃ i,i < mes.size∧seen.back? = some (mes.getD i default).born∧VR ρ w c.1 (mes.getD i default).key∧VR ρ w c.2 (mes.getD i default).val) ∧
    ∀ i,i < lft.length→VR ρ w (lft.getD i (.undef,.undef)).1 ((mes.toList.filter fun e => !seen.contains e.born).getD i default).key∧VR ρ w (lft.getD i (.undef,.undef)).2 ((mes.toList.filter fun e => !seen.contains e.born).getD i default).val
structure Sim (E : Nat→IV) (ρ : Rho) (w : World) (σ : Store) : Prop where
 inj : ∀ i j B d d',ρ i=.at B d→ρ j=.at B d'→i=j
 lt : ∀ i B d,ρ i=.at B d→B < w.heap.size
 obj : ∀ i B d,ρ i=.at B d→∃ o,σ.obj i=some o∧OR ρ w B d o
 dead : ∀ i,ρ i=.dead→σ.obj i=none
 fresh : ∀ i,σ.next≤i→ρ i=.no
 noObj : ∀ i,ρ i=.no→σ.obj i=none
 env : ∀ g,VR ρ w (E g) (.pointer (some ⟨g,0,none⟩))
 nx : ∀ i B d,ρ i=.at B d→¬ ρ.X B
 xlt : ∀ b,ρ.X b→b < w.heap.size
abbrev Frm:=List (Nat × IV)
def Frm.get (fr : Frm) (t : Nat) : IV:=(fr.lookup t).getD .undef
def Frm.keep (fr : Frm) (ks : List Nat) : Frm:=ks.map fun k => (k,fr.get k)
def Frm.set (fr : Frm) (t : Nat) (v : IV) : Frm:=(t,v) :: fr
structure FR (ρ : Rho) (w : World) (N : Nat) (fr : Frm) (tmps : Array Value) : Prop where
 size : tmps.size=N
 get : ∀ t,VR ρ w (fr.get t) (tmps.getD t undef)
theorem FR.mono {n N : Nat} {ρ ρ' : Rho} {w w' : World} {fr : Frm} {tmps : Array Value} (h : Ext n ρ w ρ' w') (hf : FR ρ w N fr tmps) : FR ρ' w' N fr tmps :=
 ⟨hf.size,fun t => (hf.get t).mono h⟩
theorem Frm.get_set (fr : Frm) (t s : Nat) (v : IV) : (fr.set t v).get s=if s=t then v else fr.get s:=by
 unfold Frm.get Frm.set
 by_cases h : s=t
 ·subst h; simp
 ·have : (s == t)=false:=by simpa using h
  simp [List.lookup_cons,this,h]
theorem FR.set {N : Nat} {ρ : Rho} {w : World} {fr : Frm} {tmps : Array Value} {t : Nat} {v : IV} {r : Value} (hf : FR ρ w N fr tmps) (ht : t < N) (hv : VR ρ w v r) :
  FR ρ w N (fr.set t v) (tmps.setIfInBounds t r):=by
 refine ⟨by simp [hf.size],fun s => ?_⟩
 rw [Frm.get_set]
 by_cases h : s=t
 ·subst h
  have : s < tmps.size:=by rw [hf.size]; exact ht
  simp [Array.getD_eq_getD_getElem?,this,hv]
 ·have h' : ¬ t=s:=fun e => h e.symm
  have:=hf.get s
  simp only [Array.getD_eq_getD_getElem?] at this ⊢
  simpa [h,Array.getElem?_setIfInBounds,h'] using this
theorem Frm.get_keep (fr : Frm) (ks : List Nat) (t : Nat) : (fr.keep ks).get t=if t∈ks then fr.get t else .undef:=by
 unfold Frm.get Frm.keep
 induction ks with
 | nil => simp
 | cons k ks ih =>
  by_cases h : t=k
  ·subst h; simp [Frm.get]
  ·have : (t == k)=false:=by simpa using h
   simp [List.lookup_cons,this,h,ih]
theorem FR.keep {N : Nat} {ρ : Rho} {w : World} {fr : Frm} {tmps : Array Value} (ks : List Nat) (hf : FR ρ w N fr tmps) : FR ρ w N (fr.keep ks) tmps:=by
 refine ⟨hf.size,fun t => ?_⟩
 rw [Frm.get_keep]
 split
 ·exact hf.get t
 ·exact .undef _
end Go.Id
/- The quiet operations (they read,they change nothing) on ideal values,each with its proof against the model. Conditions: none; over any program. -/
namespace Go.Id
open Go
theorem getD_of_lt {α : Type} (a : Array α) (i : Nat) (d : α) (h : i < a.size) : a.getD i d=a[i]:=by
 simp [Array.getD_eq_getD_getElem?,h]
/-! ### Types -/
def aggT (P : Program) (t : TypeId) : Option Bool :=
 match P.underlying t with
 | some (.struct _) | some (.array _ _) => some true
 | some _ => some false
 | none => none
def szT (P : Program) (t : TypeId) : Option Nat:=(P.info? t).map (·.size)
theorem run_isAgg {P : Program} {t : TypeId} {b : Bool} (h : aggT P t=some b) (w : World) : (isAgg t).run P w=.ok b w:=by
 unfold aggT at h
 cases hu : P.underlying t with
 | none => simp [hu] at h
 | some d =>
  simp only [isAgg,Sem.run_bind,run_underlying hu,Result.andThen_ok]
  rw [hu] at h
  cases d <;> simp_all
theorem run_sizeOf {P : Program} {t : TypeId} {n : Nat} (h : szT P t=some n) (w : World) : (sizeOf t).run P w=.ok n w:=by
 unfold szT at h
 cases hi : P.info? t with
 | none => simp [hi] at h
 | some i =>
  rw [hi] at h
  simp at h
  simp [sizeOf,typeInfo,hi,h]
/-! ### Two numbers,two strings,two bools -/
def binI (op : BinOp) (k : IntKind) (a b : Int) : Option IV :=
 match op with
 | .add => some (.int k (k.wrap (a+b)))
 | .sub => some (.int k (k.wrap (a - b)))
 | .mul => some (.int k (k.wrap (a * b)))
 | .quo => if b=0 then none else some (.int k (k.wrap (a.tdiv b)))
 | .rem => if b=0 then none else some (.int k (a.tmod b))
 | .and => some (.int k (k.wrap ((BitVec.ofInt k.bits a &&& BitVec.ofInt k.bits b).toNat : Int)))
 | .or => some (.int k (k.wrap ((BitVec.ofInt k.bits a ||| BitVec.ofInt k.bits b).toNat : Int)))
 | .xor => some (.int k (k.wrap ((BitVec.ofInt k.bits a ^^^ BitVec.ofInt k.bits b).toNat : Int)))
 | .andNot => some (.int k (k.wrap ((BitVec.ofInt k.bits a &&& ~~~BitVec.ofInt k.bits b).toNat : Int)))
 | .eql => some (.bool (decide (a=b)))
 | .neq => some (.bool (!decide (a=b)))
 | .lss => some (.bool (decide (a < b)))
 | .leq => some (.bool (decide (a≤b)))
 | .gtr => some (.bool (decide (b < a)))
 | .geq => some (.bool (decide (b≤a)))
 | .shl | .shr => none
def binS (op : BinOp) (a b : List UInt8) : Option IV :=
 match op with
 | .add => if a.length+b.length < 2 ^ 62 then some (.str (a ++ b)) else none
 | .eql => some (.bool (decide (a=b)))
 | .neq => some (.bool (!decide (a=b)))
 | .lss => some (.bool (Op.bytesLess a b))
 | .leq => some (.bool (Op.bytesLess a b || decide (a=b)))
 | .gtr => some (.bool (!(Op.bytesLess a b || decide (a=b))))
 | .geq => some (.bool (!Op.bytesLess a b))
 | _ => none
def binV (op : BinOp) : IV→IV→Option IV
 | .int k a,.int k' b =>
  match op with
  | .shl => if 0≤b then some (.int k (k.wrap (a * 2 ^ (min b.toNat k.bits)))) else none
  | .shr => if 0≤b then some (.int k (a.fdiv (2 ^ (min b.toNat k.bits)))) else none
  | _ => if k=k' then binI op k a b else none
 | .str a,.str b => binS op a b
 | _,_ => none
theorem toList_mk (l : List UInt8) : (ByteArray.mk l.toArray).toList=l:=by simp
theorem size_mk (l : List UInt8) : (ByteArray.mk l.toArray).size=l.length:=by simp [ByteArray.size]
theorem beq_dec (a b : Int) : (a == b)=decide (a=b):=by
 by_cases h : a=b <;> simp [h]
theorem beqL_dec (a b : List UInt8) : (a == b)=decide (a=b):=by
 by_cases h : a=b <;> simp [h]
variable {P : Program} {w : World} {ρ : Rho}
theorem binI_sound {op : BinOp} {t : TypeId} {k : IntKind} {a b : Int} {v : IV} (h : binI op k a b=some v) :
  ∃ r,(binOp op t (.int k a) (.int k b)).run P w=.ok r w∧VR ρ w v r:=by
 cases op <;> simp only [binI] at h
 case add => cases h; exact ⟨_,by simp [binOp,Op.intArith],.int _ _⟩
 case sub => cases h; exact ⟨_,by simp [binOp,Op.intArith],.int _ _⟩
 case mul => cases h; exact ⟨_,by simp [binOp,Op.intArith],.int _ _⟩
 case quo =>
  split at h
  ·cases h
  ·rename_i h0; cases h; exact ⟨_,by simp [binOp,Op.intDiv,h0],.int _ _⟩
 case rem =>
  split at h
  ·cases h
  ·rename_i h0; cases h; exact ⟨_,by simp [binOp,Op.intDiv,h0],.int _ _⟩
 case and => cases h; exact ⟨_,by simp only [binOp,ne_eq,not_true_eq_false,if_false,Op.intBits]; rfl,.int _ _⟩
 case or => cases h; exact ⟨_,by simp only [binOp,ne_eq,not_true_eq_false,if_false,Op.intBits]; rfl,.int _ _⟩
 case xor => cases h; exact ⟨_,by simp only [binOp,ne_eq,not_true_eq_false,if_false,Op.intBits]; rfl,.int _ _⟩
 case andNot => cases h; exact ⟨_,by simp only [binOp,ne_eq,not_true_eq_false,if_false,Op.intBits]; rfl,.int _ _⟩
 case eql => cases h; exact ⟨_,by simp only [binOp,ne_eq,not_true_eq_false,if_false,Op.intCmp,beq_dec]; rfl,.bool _⟩
 case neq => cases h; exact ⟨_,by simp only [binOp,ne_eq,not_true_eq_false,if_false,Op.intCmp,bne,beq_dec]; rfl,.bool _⟩
 case lss => cases h; exact ⟨_,by simp only [binOp,ne_eq,not_true_eq_false,if_false,Op.intCmp]; rfl,.bool _⟩
 case leq => cases h; exact ⟨_,by simp only [binOp,ne_eq,not_true_eq_false,if_false,Op.intCmp]; rfl,.bool _⟩
 case gtr => cases h; exact ⟨_,by simp only [binOp,ne_eq,not_true_eq_false,if_false,Op.intCmp]; rfl,.bool _⟩
 case geq => cases h; exact ⟨_,by simp only [binOp,ne_eq,not_true_eq_false,if_false,Op.intCmp]; rfl,.bool _⟩
 all_goals cases h
theorem bin_sound {op : BinOp} {t : TypeId} {x y : Operand} {a b v : IV} {ra rb : Value} (h : binV op a b=some v) (ha : VR ρ w a ra) (hb : VR ρ w b rb) :
  ∃ r,(do eqGuard op t x y ra rb; binOp op t ra rb : Sem Value).run P w=.ok r w∧VR ρ w v r:=by
 cases ha with
 | int k a =>
  cases hb with
  | int k' b =>
   have hg : (eqGuard op t x y (.int k a) (.int k' b)).run P w=.ok () w:=by
    unfold eqGuard; cases op <;> rfl
   simp only [Sem.run_bind,hg,Result.andThen_ok]
   by_cases h1 : op=.shl
   ·subst h1
    simp only [binV] at h
    split at h
    ·rename_i h0
     cases h
     exact ⟨_,by simp [binOp,Op.shift,Int.not_lt.2 h0],.int _ _⟩
    ·cases h
   by_cases h2 : op=.shr
   ·subst h2
    simp only [binV] at h
    split at h
    ·rename_i h0
     cases h
     exact ⟨_,by simp [binOp,Op.shift,Int.not_lt.2 h0],.int _ _⟩
    ·cases h
   have h' : (if k=k' then binI op k a b else none)=some v:=by
    cases op <;> first | exact absurd rfl h1 | exact absurd rfl h2 | exact h
   split at h'
   ·rename_i hk
    subst hk
    exact binI_sound h'
   ·cases h'
  | _ => simp [binV] at h
 | str a =>
  cases hb with
  | str b =>
   have hg : (eqGuard op t x y (.string ⟨a.toArray⟩) (.string ⟨b.toArray⟩)).run P w=.ok () w:=by
    unfold eqGuard; cases op <;> rfl
   simp only [Sem.run_bind,hg,Result.andThen_ok]
   simp only [binV] at h
   cases op <;> simp only [binOp,binS] at h ⊢ <;> try (cases h; done)
   case add =>
    split at h
    ·rename_i h0
     cases h
     refine ⟨_,?_,.str _⟩
     have hm : ¬ (((a.length+b.length : Nat)) : Int) > IntKind.i64.max:=by
      have : IntKind.i64.max=9223372036854775807:=by decide
      omega
     have e : (ByteArray.mk a.toArray ++ ByteArray.mk b.toArray)=ByteArray.mk (a ++ b).toArray:=by
      apply ByteArray.ext; simp [ByteArray.data_append]
     simp [Op.stringOp,size_mk,e] at hm ⊢
     omega
    ·cases h
   all_goals
    cases h
    exact ⟨_,by simp only [Op.stringOp,toList_mk,beqL_dec]; rfl,.bool _⟩
  | _ => simp [binV] at h
 | _ => simp [binV] at h
/-! ### Memory that is read -/
def cellsAt (σ : Store) : IV→Option (List IV)
 | .tptr cs => some cs
 | .ptr id off => match σ.obj id with
  | some (.cells cs) => some (cs.drop off)
  | some (.row cs) => some (cs.drop off)
  | _ => none
 | _ => none
theorem getD_drop' {α : Type} (l : List α) (n i : Nat) (d : α) : (l.drop n).getD i d=l.getD (n+i) d:=by
 simp [List.getD_eq_getElem?_getD,List.getElem?_drop]
theorem getD_take' {α : Type} (l : List α) (n i : Nat) (d : α) (h : i < n) : (l.take n).getD i d=l.getD i d:=by
 simp [List.getD_eq_getElem?_getD,h]
theorem cellsAt_sound {E : Nat→IV} {σ : Store} {v : IV} {r : Value} {cs : List IV} (hs : Sim E ρ w σ) (hv : VR ρ w v r) (h : cellsAt σ v=some cs) :
  ∃ b o,r=.pointer (some ⟨b,o,none⟩)∧∃ vs : Nat→Value,(∀ j,j < cs.length→w.cell? ⟨b,o+j,none⟩=some (vs j))∧∀ j,j < cs.length→VR ρ w (cs.getD j .undef) (vs j):=by
 cases hv with
 | tptr cs' b o vs hf hc hv =>
  simp [cellsAt] at h; subst h
  exact ⟨b,o,rfl,vs,hc,hv⟩
 | ptr id off B d hi =>
  simp only [cellsAt] at h
  obtain ⟨ob,ho,hor⟩:=hs.obj id B d hi
  rw [ho] at h
  have key : ∀ cs',CellsOR ρ w B d cs'→cs'.drop off=cs→∃ b o,Value.pointer (some ⟨B,d+off,none⟩)=.pointer (some ⟨b,o,none⟩)∧∃ vs : Nat→Value,(∀ j,j < cs.length→w.cell? ⟨b,o+j,none⟩=some (vs j))∧∀ j,j < cs.length→VR ρ w (cs.getD j .undef) (vs j):=by
   intro cs' hor h
   subst h
   obtain ⟨rcs,el,hb,hsz,hvs⟩:=hor
   refine ⟨B,d+off,rfl,fun j => rcs.getD (d+(off+j)) undef,fun j hj => ?_,fun j hj => ?_⟩
   ·simp at hj
    have hlt : d+off+j < rcs.size:=by omega
    simp only [World.cell?,hb]
    rw [getD_of_lt _ _ _ (by omega)]
    simp only [Option.isSome_none,Bool.false_eq_true,if_false]
    rw [Array.getElem?_eq_getElem hlt]
    congr 2
    omega
   ·simp at hj
    rw [getD_drop']
    exact hvs (off+j) (by omega)
  cases ob with
  | cells cs' => exact key cs' hor (by simpa using h)
  | row cs' => exact key cs' hor (by simpa using h)
  | _ => simp at h
 | ptrD id off ad hi =>
  simp only [cellsAt,hs.dead id hi] at h
  cases h
 | _ => simp [cellsAt] at h
def loadI (σ : Store) (agg : Option Nat) (a : IV) : Option IV :=
 match cellsAt σ a with
 | none => none
 | some cs => match agg with
  | none => cs.head?
  | some n => if n≤cs.length then some (.agg (cs.take n)) else none
def loadK (P : Program) (t : TypeId) : Option (Option Nat) :=
 match aggT P t with
 | some false => some none
 | some true => (szT P t).map some
 | none => none
theorem add_mk (b o n : Nat) : (⟨b,o,none⟩ : Addr).add n=⟨b,o+n,none⟩:=by
 unfold Addr.add; split <;> simp_all
theorem load_sound {E : Nat→IV} {σ : Store} {t : TypeId} {agg : Option Nat} {a v : IV} {r : Value} (hs : Sim E ρ w σ) (ht : loadK P t=some agg)
  (h : loadI σ agg a=some v) (ha : VR ρ w a r) : ∃ x,(Instr.loadAt t r).run P w=.ok x w∧VR ρ w v x:=by
 unfold loadI at h
 cases hc : cellsAt σ a with
 | none => rw [hc] at h; cases h
 | some cs =>
  rw [hc] at h
  obtain ⟨b,o,rfl,vs,hcell,hvs⟩:=cellsAt_sound hs ha hc
  unfold loadK at ht
  cases hg : aggT P t with
  | none => rw [hg] at ht; cases ht
  | some g =>
   rw [hg] at ht
   cases g with
   | false =>
    cases ht
    simp only at h
    cases cs with
    | nil => simp at h
    | cons c cs =>
     simp at h; subst h
     refine ⟨vs 0,?_,by simpa using hvs 0 (by simp)⟩
     have:=hcell 0 (by simp)
     simp only [Nat.add_zero] at this
     simp [Instr.loadAt,Instr.sureAddr,loadVar,run_isAgg hg,this]
   | true =>
    cases hz : szT P t with
    | none => rw [hz] at ht; cases ht
    | some n =>
     rw [hz] at ht
     cases ht
     simp only at h
     split at h
     ·rename_i hn
      cases h
      refine ⟨.agg ((List.range n).map vs).toArray,?_,.agg _ _ (by simp; omega) (fun i hi => ?_)⟩
      ·have hl:=run_loadCells (P:=P) (w:=w) ⟨b,o,none⟩ n vs (fun j hj => by rw [add_mk]; exact hcell j (by omega))
       simp [Instr.loadAt,Instr.sureAddr,loadVar,run_isAgg hg,run_sizeOf hz,hl]
      ·simp at hi
       have hi' : i < n:=by omega
       rw [getD_take' _ _ _ _ hi']
       have:=hvs i (by omega)
       simpa [Array.getD_eq_getD_getElem?,hi'] using this
     ·cases h
/-! ### Places within places -/
def moveI (n : Nat) : IV→Option IV
 | .tptr cs => some (.tptr (cs.drop n))
 | .ptr id off => some (.ptr id (off+n))
 | _ => none
theorem fieldAt_run {s : TypeId} {fields : Array Field} {i : Nat} {f : Field} {ad : Addr} {m : Nat} (hu : P.underlying s=some (.struct fields)) (hf : fields[i]? = some f)
  (hz : szT P f.type=some (m+1)) : (Instr.fieldAt s (.pointer (some ad)) i).run P w=.ok (.pointer (some (ad.add f.offset))) w:=by
 simp [Instr.fieldAt,run_underlying hu,hf,Instr.sureAddr,fieldPlace,run_sizeOf hz]
theorem move_sound {n : Nat} {a v : IV} {r : Value} (h : moveI n a=some v) (ha : VR ρ w a r) :
  ∃ ad : Addr,r=.pointer (some ad)∧VR ρ w v (.pointer (some (ad.add n))):=by
 cases ha with
 | tptr cs b o vs hf hc hv =>
  simp [moveI] at h; subst h
  refine ⟨⟨b,o,none⟩,rfl,?_⟩
  rw [add_mk]
  refine .tptr _ b (o+n) (fun j => vs (n+j)) hf (fun j hj => ?_) (fun j hj => ?_)
  ·simp at hj
   rw [Nat.add_assoc]
   exact hc (n+j) (by omega)
  ·simp at hj
   rw [getD_drop']
   exact hv (n+j) (by omega)
 | ptr id off B d hi =>
  simp [moveI] at h; subst h
  exact ⟨⟨B,d+off,none⟩,rfl,by rw [add_mk,Nat.add_assoc]; exact .ptr id (off+n) B d hi⟩
 | ptrD id off ad hi =>
  simp [moveI] at h; subst h
  exact ⟨ad,rfl,.ptrD id (off+n) _ hi⟩
 | _ => simp [moveI] at h
def partI (agg : Option Nat) (off : Nat) (cs : List IV) : Option IV :=
 match agg with
 | none => cs[off]?
 | some n => if off+n≤cs.length then some (.agg ((cs.drop off).take n)) else none
theorem part_sound {t : TypeId} {agg : Option Nat} {off : Nat} {cs : List IV} {rs : Array Value} {v : IV} (ht : loadK P t=some agg) (h : partI agg off cs=some v)
  (hl : cs.length=rs.size) (hv : ∀ i,i < cs.length→VR ρ w (cs.getD i .undef) (rs.getD i undef)) : ∃ x,(part t rs off).run P w=.ok x w∧VR ρ w v x:=by
 unfold loadK at ht
 cases hg : aggT P t with
 | none => rw [hg] at ht; cases ht
 | some g =>
  rw [hg] at ht
  cases g with
  | false =>
   cases ht
   simp only [partI] at h
   obtain ⟨hlt,hc⟩:=List.getElem?_eq_some_iff.1 h
   have h1:=hv off hlt
   have hlt' : off < rs.size:=by omega
   rw [getD_of_lt _ _ _ hlt',List.getD_eq_getElem?_getD,h] at h1
   exact ⟨rs[off],by simp [part,run_isAgg hg,Array.getElem?_eq_getElem hlt'],h1⟩
  | true =>
   cases hz : szT P t with
   | none => rw [hz] at ht; cases ht
   | some n =>
    rw [hz] at ht
    cases ht
    simp only [partI] at h
    split at h
    ·rename_i hn
     cases h
     refine ⟨_,by simp [part,run_isAgg hg,run_sizeOf hz]; rfl,.agg _ _ (by simp; omega) (fun i hi => ?_)⟩
     simp at hi
     rw [getD_take' _ _ _ _ (by omega),getD_drop']
     have:=hv (off+i) (by omega)
     rw [getD_of_lt _ _ _ (by omega)] at this
     rw [getD_of_lt _ _ _ (by simp; omega)]
     simpa using this
    ·cases h
def fldI (agg : Option Nat) (off : Nat) : IV→Option IV
 | .agg cs => partI agg off cs
 | _ => none
theorem fld_sound {s : TypeId} {fields : Array Field} {i : Nat} {f : Field} {agg : Option Nat} {a v : IV} {r : Value} (hu : P.underlying s=some (.struct fields)) (hf : fields[i]? = some f)
  (ht : loadK P f.type=some agg) (h : fldI agg f.offset a=some v) (ha : VR ρ w a r) : ∃ x,(Instr.field s r i).run P w=.ok x w∧VR ρ w v x:=by
 cases ha with
 | agg cs rs hl hv =>
  simp only [fldI] at h
  obtain ⟨x,hx,hvx⟩:=part_sound ht h hl hv
  exact ⟨x,by simp [Instr.field,run_underlying hu,hf,asAgg,hx],hvx⟩
 | _ => simp [fldI] at h
def iaddrI (esz : Nat) : IV→IV→Option IV
 | .tslice es,.int _ i => if 0≤i∧i < es.length∧(es.getD i.toNat []).length=esz then some (.tptr (es.getD i.toNat [])) else none
 | .slice id off len e,.int _ i => if 0≤i∧i < len∧e=esz then some (.ptr id (off+i.toNat * esz)) else none
 | .cslice id off len e,.int _ i => if 0≤i∧i < len∧e=esz then some (.ptr id (off+i.toNat * esz)) else none
 | _,_ => none
theorem iaddr_sound {t elem : TypeId} {esz : Nat} {a i v : IV} {ra ri : Value} (hu : P.underlying t=some (.slice elem))
  (hz : szT P elem=some esz) (h : iaddrI esz a i=some v) (ha : VR ρ w a ra) (hi : VR ρ w i ri) : ∃ x,(Instr.indexAt t ra ri).run P w=.ok x w∧VR ρ w v x:=by
 cases ha with
 | tnil =>
  cases hi with
  | int k n => simp only [iaddrI,List.length_nil] at h; split at h <;> rename_i hc
               ·omega
               ·cases h
  | _ => simp [iaddrI] at h
 | tslice es b o cap esz' sp vs hf hsz hc hv hle =>
  cases hi with
  | int k n =>
   simp only [iaddrI] at h
   split at h
   ·rename_i hh
    obtain ⟨h0,h1,h2⟩:=hh
    cases h
    have hlt : n.toNat < es.length:=by omega
    have hne : es≠[]:=by intro h0; subst h0; simp at hlt
    obtain ⟨hf1,hsp⟩:=hf hne
    subst hsp
    have he : esz'=esz:=by rw [← h2,hsz _ hlt]
    subst he
    refine ⟨.pointer (some ⟨b,o+n.toNat * esz',none⟩),?_,.tptr _ b _ (fun j => vs n.toNat j) hf1 (fun j hj => ?_) (fun j hj => ?_)⟩
    ·simp [Instr.indexAt,asIntOf,run_underlying hu,run_sizeOf hz,h0,h1,add_mk]
    ·rw [Nat.add_assoc]; exact hc _ hlt j (by omega)
    ·exact hv _ hlt j (by omega)
   ·cases h
  | _ => simp [iaddrI] at h
 | slice id off len e B d cap rcs el fz hid hb hsz hle =>
  cases hi with
  | int k n =>
   simp only [iaddrI] at h
   split at h
   ·rename_i hh
    obtain ⟨h0,h1,rfl⟩:=hh
    cases h
    refine ⟨.pointer (some ⟨B,d+off+n.toNat * e,none⟩),?_,?_⟩
    ·simp [Instr.indexAt,asIntOf,run_underlying hu,run_sizeOf hz,h0,h1,add_mk]
    ·rw [Nat.add_assoc]; exact .ptr id _ B d hid
   ·cases h
  | _ => simp [iaddrI] at h
 | sliceZ id off e B d a hid =>
  cases hi with
  | int k n =>
   simp only [iaddrI] at h
   split at h
   ·rename_i hh; omega
   ·cases h
  | _ => simp [iaddrI] at h
 | sliceD id off len e cap ad hid hle =>
  cases hi with
  | int k n =>
   simp only [iaddrI] at h
   split at h
   ·rename_i hh
    obtain ⟨h0,h1,rfl⟩:=hh
    cases h
    refine ⟨.pointer (some (ad.add (n.toNat * e))),?_,.ptrD id _ _ hid⟩
    simp [Instr.indexAt,asIntOf,run_underlying hu,run_sizeOf hz,h0,h1]
   ·cases h
  | _ => simp [iaddrI] at h
 | csliceD id off len e ad hid =>
  cases hi with
  | int k n =>
   simp only [iaddrI] at h
   split at h
   ·rename_i hh
    obtain ⟨h0,h1,rfl⟩:=hh
    cases h
    refine ⟨.pointer (some (ad.add (n.toNat * e))),?_,.ptrD id _ _ hid⟩
    simp [Instr.indexAt,asIntOf,run_underlying hu,run_sizeOf hz,h0,h1]
   ·cases h
  | _ => simp [iaddrI] at h
 | cslice id off len e B d rcs el fz hid hb hsz =>
  cases hi with
  | int k n =>
   simp only [iaddrI] at h
   split at h
   ·rename_i hh
    obtain ⟨h0,h1,rfl⟩:=hh
    cases h
    refine ⟨.pointer (some ⟨B,d+off+n.toNat * e,none⟩),?_,?_⟩
    ·simp [Instr.indexAt,asIntOf,run_underlying hu,run_sizeOf hz,h0,h1,add_mk]
    ·rw [Nat.add_assoc]; exact .ptr id _ B d hid
   ·cases h
  | _ => simp [iaddrI] at h
 | _ => simp [iaddrI] at h
def aaddrI (n esz : Nat) : IV→IV→Option IV
 | a,.int _ i => if 0≤i∧i < n then moveI (i.toNat * esz) a else none
 | _,_ => none
theorem aaddr_sound {t elem : TypeId} {n esz : Nat} {a i v : IV} {ra ri : Value} (hu : P.underlying t=some (.array n elem))
  (hz : szT P elem=some esz) (h : aaddrI n esz a i=some v) (ha : VR ρ w a ra) (hi : VR ρ w i ri) : ∃ x,(Instr.indexAt t ra ri).run P w=.ok x w∧VR ρ w v x:=by
 cases hi with
 | int k m =>
  simp only [aaddrI] at h
  split at h
  ·rename_i hh
   obtain ⟨h0,h1⟩:=hh
   obtain ⟨ad,rfl,hv⟩:=move_sound h ha
   refine ⟨_,?_,hv⟩
   simp [Instr.indexAt,asIntOf,run_underlying hu,Instr.sureAddr,run_sizeOf hz,h0,h1]
  ·cases h
 | _ => simp [aaddrI] at h
def idxI (agg : Option Nat) (n esz : Nat) : IV→IV→Option IV
 | .agg cs,.int _ i => if 0≤i∧i < n then partI agg (i.toNat * esz) cs else none
 | _,_ => none
theorem idx_sound {t elem : TypeId} {agg : Option Nat} {n esz : Nat} {a i v : IV} {ra ri : Value} (hu : P.underlying t=some (.array n elem))
  (hz : szT P elem=some esz) (ht : loadK P elem=some agg) (h : idxI agg n esz a i=some v) (ha : VR ρ w a ra) (hi : VR ρ w i ri) :
  ∃ x,(Instr.index t ra ri).run P w=.ok x w∧VR ρ w v x:=by
 cases ha with
 | agg cs rs hl hv =>
  cases hi with
  | int k m =>
   simp only [idxI] at h
   split at h
   ·rename_i hh
    obtain ⟨x,hx,hvx⟩:=part_sound ht h hl hv
    exact ⟨x,by simp [Instr.index,asIntOf,run_underlying hu,run_sizeOf hz,hh.1,hh.2,hx],hvx⟩
   ·cases h
  | _ => simp [idxI] at h
 | _ => simp [idxI] at h
def istrI : IV→IV→Option IV
 | .str s,.int _ i => if 0≤i then (s[i.toNat]?).map fun b => .int .u8 b.toNat else none
 | _,_ => none
theorem istr_sound {t : TypeId} {a i v : IV} {ra ri : Value} (hu : P.underlying t=some .string)
  (h : istrI a i=some v) (ha : VR ρ w a ra) (hi : VR ρ w i ri) : ∃ x,(Instr.index t ra ri).run P w=.ok x w∧VR ρ w v x:=by
 cases ha with
 | str s =>
  cases hi with
  | int k m =>
   simp only [istrI] at h
   split at h
   ·rename_i h0
    cases hb : s[m.toNat]? with
    | none => rw [hb] at h; cases h
    | some b =>
     rw [hb] at h
     cases h
     have e : (ByteArray.mk s.toArray)[m.toNat]? = some b:=by
      have hlt:=(List.getElem?_eq_some_iff.1 hb).1
      rw [getElem?_pos _ _ (by simpa [size_mk] using hlt)]
      have:=(List.getElem?_eq_some_iff.1 hb).2
      change some (s.toArray[m.toNat]'(by simpa using hlt))=some b
      simpa using this
     exact ⟨_,by simp [Instr.index,asIntOf,run_underlying hu,h0,e],.int _ _⟩
   ·cases h
  | _ => simp [istrI] at h
 | _ => simp [istrI] at h
def extI (i : Nat) : IV→Option IV
 | .tuple vs => vs[i]?
 | _ => none
theorem ext_sound {i : Nat} {a v : IV} {ra : Value} (h : extI i a=some v) (ha : VR ρ w a ra) : ∃ x,(Instr.extract ra i).run P w=.ok x w∧VR ρ w v x:=by
 cases ha with
 | tuple cs rs hl hv =>
  simp only [extI] at h
  obtain ⟨hlt,hc⟩:=List.getElem?_eq_some_iff.1 h
  have h1:=hv i hlt
  have hlt' : i < rs.size:=by omega
  rw [getD_of_lt _ _ _ hlt',List.getD_eq_getElem?_getD,h] at h1
  exact ⟨rs[i],by simp [Instr.extract,Array.getElem?_eq_getElem hlt'],h1⟩
 | _ => simp [extI] at h
/-! ### Lengths,slices of slices and strings -/
def lenI (σ : Store) : IV→Option IV
 | .nilslice | .zslice | .eslice | .nilmap => some (.int .i64 0)
 | .tslice es => some (.int .i64 es.length)
 | .slice _ _ len _ => some (.int .i64 len)
 | .cslice _ _ len _ => some (.int .i64 len)
 | .rslice _ _ len _ _ => some (.int .i64 len)
 | .str s => some (.int .i64 s.length)
 | .map id => match σ.obj id with
  | some (.map es) => some (.int .i64 es.length)
  | _ => none
 | _ => none
def lenT (P : Program) (t : TypeId) : Bool :=
 match P.underlying t with
 | some (.slice _) | some .string | some (.map _ _) => true
 | _ => false
theorem len_sound {E : Nat→IV} {σ : Store} {t ty : TypeId} {a v : IV} {ra : Value} (hs : Sim E ρ w σ) (ht : lenT P t=true) (hk : ∀ u,P.underlying t=some u →
   (match u,a with | .slice _,.nilslice | .slice _,.zslice | .slice _,.eslice | .slice _,.tslice _ | .slice _,.slice _ _ _ _ | .slice _,.cslice _ _ _ _ | .slice _,.rslice _ _ _ _ _ | .string,.str _ | .map _ _,.nilmap | .map _ _,.map _ => true | _,_ => false)=true)
  (h : lenI σ a=some v) (ha : VR ρ w a ra) : ∃ x,(Builtin.len_ #[t] ty #[ra]).run P w=.ok x w∧VR ρ w v x:=by
 unfold lenT at ht
 cases hu : P.underlying t with
 | none => rw [hu] at ht; cases ht
 | some u =>
  have hk:=hk u hu
  cases ha with
  | nilslice => cases u <;> simp at hk; cases h; exact ⟨_,by simp [Builtin.len_,run_underlying hu,goInt],.int _ _⟩
  | zslice c => cases u <;> simp at hk; cases h; exact ⟨_,by simp [Builtin.len_,run_underlying hu,goInt],.int _ _⟩
  | eslice c _ => cases u <;> simp at hk; cases h; exact ⟨_,by simp [Builtin.len_,run_underlying hu,goInt],.int _ _⟩
  | nilmap => cases u <;> simp at hk; cases h; exact ⟨_,by simp [Builtin.len_,run_underlying hu,goInt],.int _ _⟩
  | str s => cases u <;> simp at hk; cases h; exact ⟨_,by simp [Builtin.len_,run_underlying hu,goInt,size_mk],.int _ _⟩
  | tslice es b o cap esz sp vs hf hsz hc hv hle => cases u <;> simp at hk; cases h; exact ⟨_,by simp [Builtin.len_,run_underlying hu,goInt],.int _ _⟩
  | tnil => cases u <;> simp at hk; cases h; exact ⟨_,by simp [Builtin.len_,run_underlying hu,goInt],.int _ _⟩
  | slice id off len esz B d cap rcs el fz hid hb hsz hle => cases u <;> simp at hk; cases h; exact ⟨_,by simp [Builtin.len_,run_underlying hu,goInt],.int _ _⟩
  | sliceZ id off esz B d a hid => cases u <;> simp at hk; cases h; exact ⟨_,by simp [Builtin.len_,run_underlying hu,goInt],.int _ _⟩
  | sliceD id off len esz cap ad hid hle => cases u <;> simp at hk; cases h; exact ⟨_,by simp [Builtin.len_,run_underlying hu,goInt],.int _ _⟩
  | cslice id off len esz B d rcs el fz hid hb hsz => cases u <;> simp at hk; cases h; exact ⟨_,by simp [Builtin.len_,run_underlying hu,goInt],.int _ _⟩
  | csliceD id off len esz ad hid => cases u <;> simp at hk; cases h; exact ⟨_,by simp [Builtin.len_,run_underlying hu,goInt],.int _ _⟩
  | rslice id off len room esz B d cap rcs el fz hid hb hsz hle hr => cases u <;> simp at hk; cases h; exact ⟨_,by simp [Builtin.len_,run_underlying hu,goInt],.int _ _⟩
  | rsliceD id off len room esz cap ad hid hle hr => cases u <;> simp at hk; cases h; exact ⟨_,by simp [Builtin.len_,run_underlying hu,goInt],.int _ _⟩
  | map id B d hid =>
   cases u <;> simp at hk
   simp only [lenI] at h
   obtain ⟨ob,ho,hor⟩:=hs.obj id B d hid
   rw [ho] at h
   cases ob with
   | map es =>
    cases h
    obtain ⟨mes,clock,hb,_,hl,_⟩:=hor
    exact ⟨_,by simp [Builtin.len_,run_underlying hu,getObj,Sem.run,hb,goInt,hl],.int _ _⟩
   | _ => simp at h
  | mapD id B hid => simp [lenI,hs.dead id hid] at h
  | _ => simp [lenI] at h
def natI : IV→Option Nat
 | .int _ i => if 0≤i then some i.toNat else none
 | _ => none
def bndI (d : Nat) : Option IV→Option Nat
 | none => some d
 | some v => natI v
theorem natI_sound {v : IV} {n : Nat} {r : Value} (h : natI v=some n) (hv : VR ρ w v r) : ∃ k,r=.int k (n : Int):=by
 cases hv with
 | int k i =>
  simp only [natI] at h
  split at h
  ·cases h; exact ⟨k,by congr 1; omega⟩
  ·cases h
 | _ => simp [natI] at h
def sstrI (lo hi : Option IV) : IV→Option IV
 | .str s => match bndI 0 lo,bndI s.length hi with
  | some l,some h => if l≤h∧h≤s.length then some (.str ((s.take h).drop l)) else none
  | _,_ => none
 | _ => none
def OVR (ρ : Rho) (w : World) : Option IV→Option Value→Prop
 | none,none => True
 | some v,some r => VR ρ w v r
 | _,_ => False
theorem bound_run {v : Option IV} {r : Option Value} {n d y : Nat} {c : BoundsCode} (h : bndI d v=some n) (hv : OVR ρ w v r) (hle : n≤y) :
  (match r with | some x => Instr.sliceBound x y c | none => pure d : Sem Nat).run P w=.ok n w:=by
 cases v with
 | none =>
  cases r with
  | none => simp_all [bndI]
  | some r => exact hv.elim
 | some v =>
  cases r with
  | none => simp [OVR] at hv
  | some r =>
   simp only [bndI] at h
   obtain ⟨k,rfl⟩:=natI_sound h hv
   have : ((n : Int)≤(y : Int)):=by omega
   simp [Instr.sliceBound,asIntOf,this]
theorem bounds_run {isSlice : Bool} {len cap l h : Nat} {lo hi : Option IV} {rlo rhi : Option Value} (hlo : bndI 0 lo=some l) (hhi : bndI len hi=some h)
  (h1 : OVR ρ w lo rlo) (h2 : OVR ρ w hi rhi) (hlh : l≤h) (hc : h≤cap) :
  (Instr.sliceBounds isSlice len cap rlo rhi none).run P w=.ok (l,h,cap) w:=by
 have e2:=bound_run (P:=P) (w:=w) (ρ:=ρ) (c:=if isSlice then .sliceAcap else .sliceAlen) hhi h2 hc
 have e1:=bound_run (P:=P) (w:=w) (ρ:=ρ) (c:=.sliceB) hlo h1 hlh
 cases rlo <;> cases rhi <;> simp_all [Instr.sliceBounds]
theorem sstr_sound {t : TypeId} {a v : IV} {ra : Value} {lo hi : Option IV} {rlo rhi : Option Value} (hu : P.underlying t=some .string) (h : sstrI lo hi a=some v)
  (ha : VR ρ w a ra) (h1 : OVR ρ w lo rlo) (h2 : OVR ρ w hi rhi) : ∃ x,(Instr.sliceAt t ra rlo rhi none).run P w=.ok x w∧VR ρ w v x:=by
 cases ha with
 | str s =>
  simp only [sstrI] at h
  split at h
  ·rename_i l h' hl hh
   split at h
   ·rename_i hc
    cases h
    have hb:=bounds_run (P:=P) (w:=w) (ρ:=ρ) (isSlice:=false) (cap:=s.length) hl hh h1 h2 hc.1 hc.2
    refine ⟨_,?_,.str _⟩
    have e : (ByteArray.mk s.toArray).extract l h'=ByteArray.mk ((s.take h').drop l).toArray:=by
     apply ByteArray.ext
     simp [List.drop_take]
    simp [Instr.sliceAt,Instr.slice,run_underlying hu,size_mk,hb,e]
   ·cases h
  ·cases h
 | _ => simp [sstrI] at h
def slcI (esz : Nat) (lo hi : Option IV) : IV→Option IV
 | .nilslice => match bndI 0 lo,bndI 0 hi with
  | some l,some h => if l=0∧h=0 then some .nilslice else none
  | _,_ => none
 | .tslice es => match bndI 0 lo,bndI es.length hi with
  | some l,some h => if l≤h∧h≤es.length∧es.all (fun e => e.length == esz) then some (.tslice ((es.take h).drop l)) else none
  | _,_ => none
 | .slice id off len e => match bndI 0 lo,bndI len hi with
  | some l,some h => if l≤h∧h≤len∧e=esz then some (.slice id (off+l * esz) (h - l) esz) else none
  | _,_ => none
 | .cslice id off len e => match bndI 0 lo,bndI len hi with
  | some l,some h => if l≤h∧h≤len∧e=esz then some (.slice id (off+l * esz) (h - l) esz) else none
  | _,_ => none
 | .rslice id off len room e => match bndI 0 lo,bndI len hi with
  | some l,some h => if l≤h∧h≤room∧e=esz then some (.slice id (off+l * esz) (h - l) esz) else none
  | _,_ => none
 | _ => none
theorem tslice_sub {es : List (List IV)} {r : Value} {l h : Nat} (hv : VR ρ w (.tslice es) r) (h1 : l≤h) (h2 : h≤es.length) (esz : Nat) (hall : ∀ e∈es,e.length=esz) (hnn : r≠.slice none 0 0) :
  ∃ b o cap sp,r=.slice (some ⟨b,o,sp⟩) es.length cap∧es.length≤cap ∧
   VR ρ w (.tslice ((es.take h).drop l)) (.slice (if cap=l then some ⟨b,o,sp⟩ else (some (⟨b,o,sp⟩ : Addr)).map (·.add (l * esz))) (h - l) (cap - l)):=by
 cases hv with
 | tnil => exact absurd rfl hnn
 | tslice es b o cap esz' sp vs hf hsz hc hv hle =>
  refine ⟨b,o,cap,sp,rfl,hle,?_⟩
  have hlen : ((es.take h).drop l).length=h - l:=by simp; omega
  by_cases hcl : cap=l
  ·have h0 : (es.take h).drop l=[]:=List.drop_of_length_le (by simp; omega)
   have hz : h - l=0:=by omega
   rw [h0,hz]
   simp only [hcl,if_true,Nat.sub_self]
   exact VR.tslice [] b o 0 0 sp (fun _ _ => .nilIface) (fun hn => absurd rfl hn) (fun i hi => by simp at hi) (fun i hi => by simp at hi) (fun i hi => by simp at hi) (by simp)
  ·simp only [hcl,if_false,Option.map_some]
   by_cases he : (es.take h).drop l=[]
   ·rw [he]
    have hz : h - l=0:=by rw [← hlen,he]; rfl
    rw [hz]
    have : (⟨b,o,sp⟩ : Addr).add (l * esz)=⟨b,((⟨b,o,sp⟩ : Addr).add (l * esz)).off,((⟨b,o,sp⟩ : Addr).add (l * esz)).spot⟩:=by
     unfold Addr.add; split <;> rfl
    rw [this]
    exact VR.tslice [] b _ _ 0 _ (fun _ _ => .nilIface) (fun hn => absurd rfl hn) (fun i hi => by simp at hi) (fun i hi => by simp at hi) (fun i hi => by simp at hi) (by simp)
   ·have hpos : l < h:=by
     rcases Nat.lt_or_ge l h with h' | h'
     ·exact h'
     ·exact absurd (List.eq_nil_of_length_eq_zero (by rw [hlen]; omega)) he
    have hne : es≠[]:=by intro h0; subst h0; simp at h2; omega
    obtain ⟨hf1,rfl⟩:=hf hne
    have hee : esz'=esz:=by
     have h0 : 0 < es.length:=by omega
     rw [← hsz 0 h0]
     refine hall _ ?_
     rw [List.getD_eq_getElem?_getD,List.getElem?_eq_getElem h0]
     exact List.getElem_mem _
    subst hee
    rw [add_mk]
    have hg : ∀ i,i < h - l→((es.take h).drop l).getD i []=es.getD (l+i) []:=fun i hi => by
     rw [getD_drop',getD_take' _ _ _ _ (by omega)]
    have hx : h - l=((es.take h).drop l).length:=hlen.symm
    rw [hx]
    refine VR.tslice _ b _ _ esz' none (fun i j => vs (l+i) j) (fun _ => ⟨hf1,rfl⟩) (fun i hi => ?_) (fun i hi j hj => ?_) (fun i hi j hj => ?_) (by rw [hlen]; omega)
    ·rw [hlen] at hi; rw [hg i hi]; exact hsz _ (by omega)
    ·rw [hlen] at hi
     have:=hc (l+i) (by omega) j hj
     rw [Nat.add_mul] at this
     rw [← this]
     congr 2
     omega
    ·rw [hlen] at hi; rw [hg i hi]; exact hv _ (by omega) j hj
theorem slc_sound {t elem : TypeId} {esz : Nat} {a v : IV} {ra : Value} {lo hi : Option IV} {rlo rhi : Option Value}
  (hu : P.underlying t=some (.slice elem)) (hz : szT P elem=some esz) (h : slcI esz lo hi a=some v)
  (ha : VR ρ w a ra) (h1 : OVR ρ w lo rlo) (h2 : OVR ρ w hi rhi) : ∃ x,(Instr.sliceAt t ra rlo rhi none).run P w=.ok x w∧VR ρ w v x:=by
 cases ha with
 | nilslice =>
  simp only [slcI] at h
  split at h
  ·rename_i l h' hl hh
   split at h
   ·rename_i hc
    obtain ⟨rfl,rfl⟩:=hc
    cases h
    have hb:=bounds_run (P:=P) (w:=w) (ρ:=ρ) (isSlice:=true) (len:=0) (cap:=0) hl hh h1 h2 (Nat.le_refl _) (Nat.zero_le _)
    refine ⟨.slice none 0 0,?_,.nilslice⟩
    simp [Instr.sliceAt,Instr.slice,run_underlying hu,hb,run_sizeOf hz]
   ·cases h
  ·cases h
 | tnil =>
  simp only [slcI] at h
  split at h
  ·rename_i l h' hl hh
   split at h
   ·rename_i hc
    obtain ⟨c1,c2,_⟩:=hc
    simp only [List.length_nil,Nat.le_zero] at c2
    subst c2
    have c1' : l=0:=by omega
    subst c1'
    cases h
    have hb:=bounds_run (P:=P) (w:=w) (ρ:=ρ) (isSlice:=true) (len:=0) (cap:=0) hl hh h1 h2 (Nat.le_refl _) (Nat.zero_le _)
    refine ⟨.slice none 0 0,?_,.tnil⟩
    simp [Instr.sliceAt,Instr.slice,run_underlying hu,hb,run_sizeOf hz]
   ·cases h
  ·cases h
 | tslice es b o cap esz' sp vs hf hsz hc hv hle =>
  simp only [slcI] at h
  split at h
  ·rename_i l h' hl hh
   split at h
   ·rename_i hcc
    obtain ⟨c1,c2,c3⟩:=hcc
    cases h
    have hb:=bounds_run (P:=P) (w:=w) (ρ:=ρ) (isSlice:=true) (cap:=cap) hl hh h1 h2 c1 (by omega)
    obtain ⟨b',o',cap',sp',heq,hle',hvr⟩:=tslice_sub (.tslice es b o cap esz' sp vs hf hsz hc hv hle) c1 c2 esz (fun e he => by
     have:=List.all_eq_true.1 c3 e he; simpa using this) (fun e => by cases e)
    simp only [Value.slice.injEq,Option.some.injEq,Addr.mk.injEq,true_and] at heq
    obtain ⟨⟨rfl,rfl,rfl⟩,rfl⟩:=heq
    refine ⟨_,?_,hvr⟩
    simp [Instr.sliceAt,Instr.slice,run_underlying hu,hb,run_sizeOf hz]
   ·cases h
  ·cases h
 | slice id off len e B d cap rcs el fz hid hbk hsz hle =>
  simp only [slcI] at h
  split at h
  ·rename_i l h' hl hh
   split at h
   ·rename_i hcc
    obtain ⟨c1,c2,rfl⟩:=hcc
    cases h
    have hb:=bounds_run (P:=P) (w:=w) (ρ:=ρ) (isSlice:=true) (cap:=cap) hl hh h1 h2 c1 (by omega)
    refine ⟨.slice (some (if cap=l then ⟨B,d+off,none⟩ else ⟨B,d+off+l * e,none⟩)) (h' - l) (cap - l),?_,?_⟩
    ·simp [Instr.sliceAt,Instr.slice,run_underlying hu,hb,run_sizeOf hz,add_mk,apply_ite]
    ·by_cases hcl : cap=l
     ·have e1 : h' - l=0:=by omega
      have e2 : cap - l=0:=by omega
      rw [e1,e2]
      exact .sliceZ id _ e B d _ hid
     ·simp only [hcl,if_false]
      rw [Nat.add_assoc]
      refine .slice id _ _ e B d _ rcs el fz hid hbk ?_ (by omega)
      have : (cap - l) * e+l * e=cap * e:=by rw [← Nat.add_mul]; congr 1; omega
      omega
   ·cases h
  ·cases h
 | sliceZ id off e B d a hid =>
  simp only [slcI] at h
  split at h
  ·rename_i l h' hl hh
   split at h
   ·rename_i hcc
    obtain ⟨c1,c2,rfl⟩:=hcc
    cases h
    have hb:=bounds_run (P:=P) (w:=w) (ρ:=ρ) (isSlice:=true) (cap:=0) hl hh h1 h2 c1 c2
    have e1 : l=0:=by omega
    have e2 : h'=0:=by omega
    subst e1; subst e2
    refine ⟨.slice (some a) 0 0,?_,.sliceZ id _ e B d a hid⟩
    simp [Instr.sliceAt,Instr.slice,run_underlying hu,hb,run_sizeOf hz]
   ·cases h
  ·cases h
 | sliceD id off len e cap ad hid hle =>
  simp only [slcI] at h
  split at h
  ·rename_i l h' hl hh
   split at h
   ·rename_i hcc
    obtain ⟨c1,c2,rfl⟩:=hcc
    cases h
    have hb:=bounds_run (P:=P) (w:=w) (ρ:=ρ) (isSlice:=true) (cap:=cap) hl hh h1 h2 c1 (by omega)
    refine ⟨.slice (some (if cap=l then ad else ad.add (l * e))) (h' - l) (cap - l),?_,.sliceD id _ _ e _ _ hid (by omega)⟩
    simp [Instr.sliceAt,Instr.slice,run_underlying hu,hb,run_sizeOf hz,apply_ite]
   ·cases h
  ·cases h
 | csliceD id off len e ad hid =>
  simp only [slcI] at h
  split at h
  ·rename_i l h' hl hh
   split at h
   ·rename_i hcc
    obtain ⟨c1,c2,rfl⟩:=hcc
    cases h
    have hb:=bounds_run (P:=P) (w:=w) (ρ:=ρ) (isSlice:=true) (cap:=len) hl hh h1 h2 c1 (by omega)
    refine ⟨.slice (some (if len=l then ad else ad.add (l * e))) (h' - l) (len - l),?_,.sliceD id _ _ e _ _ hid (by omega)⟩
    simp [Instr.sliceAt,Instr.slice,run_underlying hu,hb,run_sizeOf hz,apply_ite]
   ·cases h
  ·cases h
 | cslice id off len e B d rcs el fz hid hbk hsz =>
  simp only [slcI] at h
  split at h
  ·rename_i l h' hl hh
   split at h
   ·rename_i hcc
    obtain ⟨c1,c2,rfl⟩:=hcc
    cases h
    have hb:=bounds_run (P:=P) (w:=w) (ρ:=ρ) (isSlice:=true) (cap:=len) hl hh h1 h2 c1 (by omega)
    refine ⟨.slice (some (if len=l then ⟨B,d+off,none⟩ else ⟨B,d+off+l * e,none⟩)) (h' - l) (len - l),?_,?_⟩
    ·simp [Instr.sliceAt,Instr.slice,run_underlying hu,hb,run_sizeOf hz,add_mk,apply_ite]
    ·by_cases hcl : len=l
     ·have e1 : h' - l=0:=by omega
      have e2 : len - l=0:=by omega
      rw [e1,e2]
      exact .sliceZ id _ e B d _ hid
     ·simp only [hcl,if_false]
      rw [Nat.add_assoc]
      refine .slice id _ _ e B d _ rcs el fz hid hbk ?_ (by omega)
      have : (len - l) * e+l * e=len * e:=by rw [← Nat.add_mul]; congr 1; omega
      omega
   ·cases h
  ·cases h
 | rsliceD id off len room e cap ad hid hle hr =>
  simp only [slcI] at h
  split at h
  ·rename_i l h' hl hh
   split at h
   ·rename_i hcc
    obtain ⟨c1,c2,rfl⟩:=hcc
    cases h
    have hb:=bounds_run (P:=P) (w:=w) (ρ:=ρ) (isSlice:=true) (cap:=cap) hl hh h1 h2 c1 (by omega)
    refine ⟨.slice (some (if cap=l then ad else ad.add (l * e))) (h' - l) (cap - l),?_,.sliceD id _ _ e _ _ hid (by omega)⟩
    simp [Instr.sliceAt,Instr.slice,run_underlying hu,hb,run_sizeOf hz,apply_ite]
   ·cases h
  ·cases h
 | rslice id off len room e B d cap rcs el fz hid hbk hsz hle hr =>
  simp only [slcI] at h
  split at h
  ·rename_i l h' hl hh
   split at h
   ·rename_i hcc
    obtain ⟨c1,c2,rfl⟩:=hcc
    cases h
    have hb:=bounds_run (P:=P) (w:=w) (ρ:=ρ) (isSlice:=true) (cap:=cap) hl hh h1 h2 c1 (by omega)
    refine ⟨.slice (some (if cap=l then ⟨B,d+off,none⟩ else ⟨B,d+off+l * e,none⟩)) (h' - l) (cap - l),?_,?_⟩
    ·simp [Instr.sliceAt,Instr.slice,run_underlying hu,hb,run_sizeOf hz,add_mk,apply_ite]
    ·by_cases hcl : cap=l
     ·have e1 : h' - l=0:=by omega
      have e2 : cap - l=0:=by omega
      rw [e1,e2]
      exact .sliceZ id _ e B d _ hid
     ·simp only [hcl,if_false]
      rw [Nat.add_assoc]
      refine .slice id _ _ e B d _ rcs el fz hid hbk ?_ (by omega)
      have : (cap - l) * e+l * e=cap * e:=by rw [← Nat.add_mul]; congr 1; omega
      omega
   ·cases h
  ·cases h
 | _ => simp [slcI] at h
end Go.Id
/- More quiet operations on ideal values: nil,equality of structs,conversions,building,closures,maps that are read. Conditions: none; over any program. -/
namespace Go.Id
open Go
variable {P : Program} {w : World} {ρ : Rho}
def slzI : IV→Option IV
 | .nilslice => some .nilslice
 | .zslice => some .zslice
 | .eslice => some .zslice
 | .tslice es => if es=[] then some (.tslice []) else some .zslice
 | .slice _ _ _ _ => some .zslice
 | .cslice _ _ _ _ => some .zslice
 | _ => none
theorem slz_sound {t elem : TypeId} {esz : Nat} {a v : IV} {ra : Value} {k1 k2 : IntKind}
  (hu : P.underlying t=some (.slice elem)) (hz : szT P elem=some esz) (h : slzI a=some v) (ha : VR ρ w a ra) :
  ∃ x,(Instr.sliceAt t ra none (some (.int k1 0)) (some (.int k2 0))).run P w=.ok x w∧VR ρ w v x:=by
 have hb : ∀ len cap : Nat,(Instr.sliceBounds true len cap none (some (.int k1 0)) (some (.int k2 0))).run P w=.ok (0,0,0) w:=fun len cap => by
  simp [Instr.sliceBounds,Instr.sliceBound,asIntOf]
 cases ha with
 | nilslice => cases h; exact ⟨_,by simp [Instr.sliceAt,Instr.slice,run_underlying hu,hb,run_sizeOf hz],.nilslice⟩
 | zslice c => cases h; exact ⟨_,by simp [Instr.sliceAt,Instr.slice,run_underlying hu,hb,run_sizeOf hz]; rfl,.zslice _⟩
 | eslice c _ => cases h; exact ⟨_,by simp [Instr.sliceAt,Instr.slice,run_underlying hu,hb,run_sizeOf hz]; rfl,.zslice _⟩
 | tnil => cases h; exact ⟨_,by simp [Instr.sliceAt,Instr.slice,run_underlying hu,hb,run_sizeOf hz],.tnil⟩
 | tslice es b o cap esz sp vs hf hsz hc hv hle =>
  simp only [slzI] at h
  split at h
  ·cases h; exact ⟨_,by simp [Instr.sliceAt,Instr.slice,run_underlying hu,hb,run_sizeOf hz]; rfl,by
    have:=VR.tslice (ρ:=ρ) (w:=w) [] b o 0 0 sp (fun _ _ => .nilIface) (fun hn => absurd rfl hn) (fun i hi => by simp at hi) (fun i hi => by simp at hi) (fun i hi => by simp at hi) (by simp)
    exact this⟩
  ·cases h; exact ⟨_,by simp [Instr.sliceAt,Instr.slice,run_underlying hu,hb,run_sizeOf hz]; rfl,.zslice _⟩
 | slice id off len e B d cap rcs el fz hid hbk hsz hle => cases h; exact ⟨_,by simp [Instr.sliceAt,Instr.slice,run_underlying hu,hb,run_sizeOf hz]; rfl,.zslice _⟩
 | sliceZ id off e B d a hid => cases h; exact ⟨_,by simp [Instr.sliceAt,Instr.slice,run_underlying hu,hb,run_sizeOf hz]; rfl,.zslice _⟩
 | sliceD id off len e cap ad hid hle => cases h; exact ⟨_,by simp [Instr.sliceAt,Instr.slice,run_underlying hu,hb,run_sizeOf hz]; rfl,.zslice _⟩
 | cslice id off len e B d rcs el fz hid hbk hsz => cases h; exact ⟨_,by simp [Instr.sliceAt,Instr.slice,run_underlying hu,hb,run_sizeOf hz]; rfl,.zslice _⟩
 | csliceD id off len e ad hid => cases h; exact ⟨_,by simp [Instr.sliceAt,Instr.slice,run_underlying hu,hb,run_sizeOf hz]; rfl,.zslice _⟩
 | _ => simp [slzI] at h
/-! ### nil -/
def nilI0 (d : TypeDesc) : IV→Option Bool
 | .nilptr => match d with | .pointer _ => some true | _ => none
 | .tptr _ => match d with | .pointer _ => some false | _ => none
 | .ptr _ _ => match d with | .pointer _ => some false | _ => none
 | .nilslice => match d with | .slice _ => some true | _ => none
 | .zslice => match d with | .slice _ => some false | _ => none
 | .eslice => match d with | .slice _ => some false | _ => none
 | .tslice es => if es=[] then none else match d with | .slice _ => some false | _ => none
 | .slice _ _ _ _ => match d with | .slice _ => some false | _ => none
 | .nilmap => match d with | .map _ _ => some true | _ => none
 | .map _ => match d with | .map _ _ => some false | _ => none
 | .nilfunc => match d with | .func _ _ _ => some true | _ => none
 | .func _ _ _ => match d with | .func _ _ _ => some false | _ => none
 | _ => none
def unclip : IV→IV
 | .cslice i o l e => .slice i o l e
 | .rslice i o l _ e => .slice i o l e
 | v => v
theorem unclip_vr {v : IV} {r : Value} (h : VR ρ w v r) : VR ρ w (unclip v) r:=by
 cases h with
 | cslice id off len esz B d rcs el fz hi hb hsz => exact .slice id off len esz B d len rcs el fz hi hb hsz (Nat.le_refl _)
 | csliceD id off len esz ad hi => exact .sliceD id off len esz len ad hi (Nat.le_refl _)
 | rslice id off len room esz B d cap rcs el fz hi hb hsz hle hr => exact .slice id off len esz B d cap rcs el fz hi hb hsz (Nat.le_trans hle hr)
 | rsliceD id off len room esz cap ad hi hle hr => exact .sliceD id off len esz cap ad hi (Nat.le_trans hle hr)
 | undef r => exact .undef r
 | bool b => exact .bool b
 | int k n => exact .int k n
 | str s => exact .str s
 | nilptr => exact .nilptr
 | ptr id off B d h => exact .ptr id off B d h
 | ptrD id off ad h => exact .ptrD id off ad h
 | tptr cs b o vs hf hc hv => exact .tptr cs b o vs hf hc hv
 | nilslice => exact .nilslice
 | zslice a => exact .zslice a
 | eslice a c => exact .eslice a c
 | slice id off len esz B d cap rcs el fz h hb hsz hle => exact .slice id off len esz B d cap rcs el fz h hb hsz hle
 | sliceZ id off esz B d a h => exact .sliceZ id off esz B d a h
 | sliceD id off len esz cap ad h hle => exact .sliceD id off len esz cap ad h hle
 | tslice es b o cap esz sp vs hf hsz hc hv hle => exact .tslice es b o cap esz sp vs hf hsz hc hv hle
 | tnil => exact .tnil
 | nilmap => exact .nilmap
 | map id B d h => exact .map id B d h
 | mapD id B h => exact .mapD id B h
 | tmap es es' b mes clock hp hd hf hb hl hk hv h4 h5 => exact .tmap es es' b mes clock hp hd hf hb hl hk hv h4 h5
 | func fn first cap rf rc hy h1 h2 hf hc => exact .func fn first cap rf rc hy h1 h2 hf hc
 | yield id B d h => exact .yield id B d h
 | yieldD id B h => exact .yieldD id B h
 | nilfunc => exact .nilfunc
 | iface t v r h => exact .iface t v r h
 | niliface => exact .niliface
 | agg cs rs h hv => exact .agg cs rs h hv
 | tuple cs rs h hv => exact .tuple cs rs h hv
def nilI (d : TypeDesc) (v : IV) : Option Bool:=nilI0 d (unclip v)
def nilOf : TypeDesc→Option Value
 | .pointer _ => some (.pointer none)
 | .slice _ => some (.slice none 0 0)
 | .map _ _ => some (.map none)
 | .func _ _ _ => some .nilFunc
 | _ => none
theorem nil_sound0 {t : TypeId} {d : TypeDesc} {op : BinOp} {x y : Operand} {a : IV} {ra rn : Value} {b : Bool}
  (hu : P.underlying t=some d) (hn : nilOf d=some rn) (hop : op=.eql ∨ op=.neq) (h : nilI0 d a=some b) (ha : VR ρ w a ra) :
  (do eqGuard op t x y ra rn; binOp op t ra rn : Sem Value).run P w=.ok (.bool (if op=.eql then b else !b)) w:=by
 have hg : (eqGuard op t x y ra rn).run P w=.ok () w:=by
  unfold eqGuard
  rcases hop with rfl | rfl <;> cases d <;> simp [nilOf] at hn <;> subst hn <;> cases ra <;> rfl
 simp only [Sem.run_bind,hg,Result.andThen_ok]
 have key : (Op.equal t ra rn).run P w=.ok b w:=by
  unfold Op.equal Op.maxDepth Op.equalIn
  cases ha <;> cases d <;> simp [nilOf] at hn <;> (try subst hn) <;> simp [nilI0] at h <;> simp [run_underlying hu,h]
 rcases hop with rfl | rfl <;> cases d <;> simp [nilOf] at hn <;> subst hn <;> cases ha <;> simp [nilI0] at h <;> simp [binOp,key]
theorem nil_sound {t : TypeId} {d : TypeDesc} {op : BinOp} {x y : Operand} {a : IV} {ra rn : Value} {b : Bool}
  (hu : P.underlying t=some d) (hn : nilOf d=some rn) (hop : op=.eql ∨ op=.neq) (h : nilI d a=some b) (ha : VR ρ w a ra) :
  (do eqGuard op t x y ra rn; binOp op t ra rn : Sem Value).run P w=.ok (.bool (if op=.eql then b else !b)) w :=
 nil_sound0 hu hn hop h (unclip_vr ha)
/-! ### Structs of numbers,strings and bools,held against each other -/
def leafEq : Nat→IV→IV→Option Bool
 | 0,.bool a,.bool b => some (a == b)
 | 1,.int k a,.int k' b => if k=k' then some (decide (a=b)) else none
 | 2,.str a,.str b => some (decide (a=b))
 | _,_,_ => none
def allEq : List Nat→List IV→List IV→Option Bool
 | [],[],[] => some true
 | t :: ts,x :: xs,y :: ys => match leafEq t x y,allEq ts xs ys with
  | some a,some b => some (a && b)
  | _,_ => none
 | _,_,_ => none
def flatF (P : Program) (g : TypeId→Option (List Nat)) : List Field→Nat→Option (List Nat)
 | [],_ => some []
 | f :: fs,off =>
  if f.name ≠ "_" ∧ f.offset = off then
   match g f.type,loadK P f.type with
   | some l,some none => if l.length=1 then (flatF P g fs (off+1)).map (l ++ ·) else none
   | some l,some (some n) => if n=l.length∧l.length≠0 then (flatF P g fs (off+l.length)).map (l ++ ·) else none
   | _,_ => none
  else none
def flatT (P : Program) : Nat→TypeId→Option (List Nat)
 | 0,_ => none
 | d+1,t => match P.underlying t with
  | some .bool => some [0]
  | some (.int _) => some [1]
  | some .string => some [2]
  | some (.struct fs) => if P.stoodInHeld t then none else flatF P (flatT P d) fs.toList 0
  | some (.array n e) => match P.underlying e with
   | some (.int _) => if szT P e=some 1∧0 < d then some (List.replicate n 1) else none
   | _ => none
  | _ => none
theorem allEq_append {t1 t2 : List Nat} {xs ys : List IV} {b : Bool} (h : allEq (t1 ++ t2) xs ys=some b) :
  ∃ b1 b2,allEq t1 (xs.take t1.length) (ys.take t1.length)=some b1∧allEq t2 (xs.drop t1.length) (ys.drop t1.length)=some b2∧b=(b1 && b2):=by
 induction t1 generalizing xs ys b with
 | nil => exact ⟨true,b,by simp [allEq],by simpa using h,by simp⟩
 | cons t ts ih =>
  cases xs with
  | nil => simp [allEq] at h
  | cons x xs =>
   cases ys with
   | nil => simp [allEq] at h
   | cons y ys =>
    simp only [List.cons_append,allEq] at h
    split at h
    ·rename_i a b' h1 h2
     cases h
     obtain ⟨b1,b2,e1,e2,rfl⟩:=ih h2
     refine ⟨a && b1,b2,?_,by simpa using e2,by rw [Bool.and_assoc]⟩
     simp [allEq,h1,e1]
    ·cases h
theorem allEq_len {ts : List Nat} {xs ys : List IV} {b : Bool} (h : allEq ts xs ys=some b) : xs.length=ts.length∧ys.length=ts.length:=by
 induction ts generalizing xs ys b with
 | nil => cases xs <;> cases ys <;> simp [allEq] at h ⊢
 | cons t ts ih =>
  cases xs with
  | nil => simp [allEq] at h
  | cons x xs =>
   cases ys with
   | nil => simp [allEq] at h
   | cons y ys =>
    simp only [allEq] at h
    split at h
    ·rename_i a b' h1 h2
     have:=ih h2
     simp [this]
    ·cases h
def IV.cs : IV→List IV
 | .agg xs => xs
 | v => [v]
theorem IV.cs_one {v : IV} (h : ∀ zs,v≠.agg zs) : v.cs=[v]:=by
 cases v <;> first | rfl | exact absurd rfl (h _)
theorem leafEq_agg1 (t : Nat) (zs : List IV) (y : IV) : leafEq t (.agg zs) y=none:=by
 unfold leafEq; split <;> first | rfl | contradiction
theorem leafEq_agg2 (t : Nat) (zs : List IV) (x : IV) : leafEq t x (.agg zs)=none:=by
 unfold leafEq; split <;> first | rfl | contradiction
theorem allEq_one {t : Nat} {x y : IV} {b : Bool} (h : allEq [t] [x] [y]=some b) : leafEq t x y=some b:=by
 simp only [allEq] at h
 split at h
 ·rename_i a c h1 h2; cases h2; simpa [h1] using h
 ·cases h
theorem leafEq_0 {x y : IV} {b : Bool} (h : leafEq 0 x y=some b) : ∃ a c,x=.bool a∧y=.bool c∧b=(a == c):=by
 unfold leafEq at h; split at h <;> simp_all
theorem leafEq_1 {x y : IV} {b : Bool} (h : leafEq 1 x y=some b) : ∃ k a c,x=.int k a∧y=.int k c∧b=decide (a=c):=by
 unfold leafEq at h
 split at h
 case h_2 k a k' c =>
  split at h
  ·rename_i hk; subst hk; cases h; exact ⟨_,_,_,rfl,rfl,rfl⟩
  ·cases h
 all_goals first | contradiction | (exfalso; simp_all; done)
theorem leafEq_2 {x y : IV} {b : Bool} (h : leafEq 2 x y=some b) : ∃ a c,x=.str a∧y=.str c∧b=decide (a=c):=by
 unfold leafEq at h; split at h <;> simp_all
theorem arr_eq {t e : TypeId} {k : IntKind} {n : Nat} (hut : P.underlying t=some (.array n e)) (hu : P.underlying e=some (.int k)) (hsz : szT P e=some 1) {d : Nat} {xs ys : List IV} {rxs rys : Array Value} {b : Bool} (hd : 0 < d)
  (hx : xs.length=rxs.size) (hy : ys.length=rys.size) (vx : ∀ i,i < xs.length→VR ρ w (xs.getD i .undef) (rxs.getD i undef)) (vy : ∀ i,i < ys.length→VR ρ w (ys.getD i .undef) (rys.getD i undef))
  (hb : allEq (List.replicate n 1) xs ys=some b) :
  (Op.equalIn (d+1) t (.agg rxs) (.agg rys)).run P w=.ok b w:=by
 have hlk : loadK P e=some none:=by simp [loadK,aggT,hu]
 simp only [Op.equalIn,Sem.run_bind,run_underlying hut,Result.andThen_ok,run_sizeOf hsz,_root_.Std.Legacy.Range.forIn_eq_forIn_range',_root_.Std.Legacy.Range.size,Nat.sub_zero,Nat.add_sub_cancel,Nat.div_one,Nat.mul_one]
 have key : ∀ (m off : Nat) (b : Bool),allEq (List.replicate m 1) (xs.drop off) (ys.drop off)=some b →
   (forIn (m:=Sem) (List.range' off m) ((none,()) : Option Bool × Unit) fun i __s => do
      let __do_lift ← part e rxs i
      let __do_lift_1 ← part e rys i
      let __do_lift ← Op.equalIn d e __do_lift __do_lift_1
      if (!__do_lift)=true then pure (ForInStep.done (some false,())) else pure (ForInStep.yield (none,()))).run P w=.ok (if b then none else some false,()) w:=by
  intro m
  induction m with
  | zero =>
   intro off b h
   rw [List.replicate_zero] at h
   cases hxs : xs.drop off <;> cases hys : ys.drop off <;> rw [hxs,hys] at h <;> simp [allEq] at h
   subst h
   simp
  | succ m ih =>
   intro off b h
   rw [List.replicate_succ] at h
   obtain ⟨l1,l2⟩:=allEq_len h
   simp only [List.length_drop,List.length_cons,List.length_replicate] at l1 l2
   have g1 : off < xs.length:=by omega
   have g2 : off < ys.length:=by omega
   rw [List.drop_eq_getElem_cons g1,List.drop_eq_getElem_cons g2] at h
   simp only [allEq] at h
   split at h
   ·rename_i b1 b2 h1 h2
    cases h
    obtain ⟨x,hpx,hvx⟩:=part_sound (P:=P) hlk (show partI none off xs=some xs[off] by simp [partI,g1]) hx vx
    obtain ⟨y,hpy,hvy⟩:=part_sound (P:=P) hlk (show partI none off ys=some ys[off] by simp [partI,g2]) hy vy
    obtain ⟨k1,a,c,ea,ec,rfl⟩:=leafEq_1 h1
    rw [ea] at hvx
    rw [ec] at hvy
    cases hvx; cases hvy
    have hq : (Op.equalIn d e (.int k1 a) (.int k1 c)).run P w=.ok (decide (a=c)) w:=by
     obtain ⟨d,rfl⟩ : ∃ m,d=m+1:=⟨d - 1,by omega⟩
     simp [Op.equalIn,run_underlying hu,beq_dec]
    simp only [List.range'_succ,List.forIn_cons,Sem.run_bind,hpx,hpy,hq,Result.andThen_ok]
    by_cases hac : a=c
    ·have:=ih (off+1) b2 h2
     simp only [hac,decide_true,Bool.not_true,Bool.false_eq_true,if_false,Sem.run_pure,Result.andThen_ok,Bool.true_and]
     exact this
    ·simp [hac]
   ·cases h
 rw [key n 0 b (by simpa using hb)]
 cases b <;> simp
def EqOk (P : Program) (d : Nat) (t : TypeId) (tags : List Nat) : Prop :=
 ∀ (ρ : Rho) (w : World) (e : Nat) (x y : IV) (rx ry : Value) (b : Bool),VR ρ w x rx→VR ρ w y ry→(match loadK P t with | some none => (∀ zs,x≠.agg zs)∧(∀ zs,y≠.agg zs) | some (some _) => (∃ xs,x=.agg xs)∧∃ ys,y=.agg ys | none => False) →
  allEq tags x.cs y.cs=some b→(Op.equalIn (e+d) t rx ry).run P w=.ok b w
theorem eqFields_sound {d e : Nat} {g : TypeId→Option (List Nat)} (hg : ∀ t tags,g t=some tags→EqOk P d t tags) {xs ys : List IV} {rxs rys : Array Value}
  (hx : xs.length=rxs.size) (hy : ys.length=rys.size) (vx : ∀ i,i < xs.length→VR ρ w (xs.getD i .undef) (rxs.getD i undef)) (vy : ∀ i,i < ys.length→VR ρ w (ys.getD i .undef) (rys.getD i undef)) :
  ∀ (fs : List Field) (off : Nat) (tags : List Nat) (b : Bool),flatF P g fs off=some tags→allEq tags (xs.drop off) (ys.drop off)=some b →
   (Op.eqFields (e+d) rxs rys fs).run P w=.ok b w:=by
 intro fs
 induction fs with
 | nil =>
  intro off tags b hf h
  cases hf
  cases hxs : xs.drop off <;> cases hys : ys.drop off <;> rw [hxs,hys] at h <;> simp [allEq] at h
  subst h
  simp [Op.eqFields]
 | cons f fs ih =>
  intro off tags b hf h
  simp only [flatF] at hf
  split at hf
  case isFalse => cases hf
  rename_i hn
  obtain ⟨hn,rfl⟩:=hn
  have step : ∀ (l ts : List Nat) (agg : Option Nat),g f.type=some l→loadK P f.type=some agg→(agg.getD 1=l.length)→(∀ n,agg=some n→l.length≠0)→flatF P g fs (f.offset+l.length)=some ts→tags=l ++ ts →
    (Op.eqFields (e+d) rxs rys (f :: fs)).run P w=.ok b w:=by
   intro l ts agg hl hk hsz hnz hrest htags
   subst htags
   obtain ⟨b1,b2,e1,e2,rfl⟩:=allEq_append h
   have len1:=allEq_len e1
   simp only [List.length_take,List.length_drop] at len1
   have hxl : f.offset+l.length≤xs.length ∨ l.length=0:=by omega
   have hyl : f.offset+l.length≤ys.length ∨ l.length=0:=by omega
   -- the parts
   have parts : ∃ px py,partI agg f.offset xs=some px∧partI agg f.offset ys=some py ∧
     (match loadK P f.type with | some none => (∀ zs,px≠.agg zs)∧(∀ zs,py≠.agg zs) | some (some _) => (∃ xs,px=.agg xs)∧∃ ys,py=.agg ys | none => False) ∧
     allEq l px.cs py.cs=some b1:=by
    cases agg with
    | none =>
     simp at hsz
     have h1 : f.offset < xs.length:=by omega
     have h2 : f.offset < ys.length:=by omega
     have t1 : (xs.drop f.offset).take l.length=[xs[f.offset]]:=by
      rw [← hsz,List.drop_eq_getElem_cons h1]; rfl
     have t2 : (ys.drop f.offset).take l.length=[ys[f.offset]]:=by
      rw [← hsz,List.drop_eq_getElem_cons h2]; rfl
     rw [t1,t2] at e1
     have nx : ∀ zs,xs[f.offset]≠.agg zs:=by
      intro zs hz
      rw [hz] at e1
      match l,hsz,e1 with
      | [tag],_,e1 => simp only [allEq,leafEq_agg1] at e1; cases e1
     have ny : ∀ zs,ys[f.offset]≠.agg zs:=by
      intro zs hz
      rw [hz] at e1
      match l,hsz,e1 with
      | [tag],_,e1 => simp only [allEq,leafEq_agg2] at e1; cases e1
     refine ⟨xs[f.offset],ys[f.offset],by simp [partI,h1],by simp [partI,h2],by rw [hk]; exact ⟨nx,ny⟩,?_⟩
     rw [IV.cs_one nx,IV.cs_one ny]
     exact e1
    | some n =>
     simp at hsz
     have h0:=hnz n rfl
     subst hsz
     have h1 : f.offset+l.length≤xs.length:=by omega
     have h2 : f.offset+l.length≤ys.length:=by omega
     rw [hk]
     exact ⟨.agg ((xs.drop f.offset).take l.length),.agg ((ys.drop f.offset).take l.length),by simp [partI,h1],by simp [partI,h2],⟨⟨_,rfl⟩,⟨_,rfl⟩⟩,e1⟩
   obtain ⟨px,py,p1,p2,p3,p4⟩:=parts
   obtain ⟨qx,r1,v1⟩:=part_sound hk p1 hx vx
   obtain ⟨qy,r2,v2⟩:=part_sound hk p2 hy vy
   have heq:=hg f.type l hl ρ w e px py qx qy b1 v1 v2 p3 p4
   simp only [Op.eqFields,hn,ne_eq,not_false_eq_true,if_true,Sem.run_bind,r1,r2,heq,Result.andThen_ok]
   cases b1 with
   | false => simp
   | true =>
    simp only [Bool.not_true,Bool.false_eq_true,if_false,Bool.true_and]
    exact ih (f.offset+l.length) ts b2 hrest (by simpa [List.drop_drop] using e2)
  split at hf
  ·rename_i l hl hk
   split at hf
   ·rename_i h1
    cases hr : flatF P g fs (f.offset+1) with
    | none => rw [hr] at hf; cases hf
    | some ts => rw [hr] at hf; cases hf; exact step l ts none hl hk (by simp [h1]) (fun n hn => by cases hn) (by rw [h1]; exact hr) rfl
   ·cases hf
  ·rename_i l n hl hk
   split at hf
   ·rename_i h1
    cases hr : flatF P g fs (f.offset+l.length) with
    | none => rw [hr] at hf; cases hf
    | some ts => rw [hr] at hf; cases hf; exact step l ts (some n) hl hk (by simp [h1.1]) (fun _ _ => h1.2) hr rfl
   ·cases hf
  ·cases hf
end Go.Id
/- The rest of the quiet operations,and all of them as one function on ideal values. Conditions: none; over any program. -/
namespace Go.Id
open Go
variable {P : Program} {w : World} {ρ : Rho}
theorem loadK_struct {t : TypeId} {fs : Array Field} (hu : P.underlying t=some (.struct fs)) : ∀ k,loadK P t=some k→∃ n,k=some n:=by
 intro k hk
 have : aggT P t=some true:=by simp [aggT,hu]
 unfold loadK at hk
 rw [this] at hk
 cases hz : szT P t with
 | none => rw [hz] at hk; cases hk
 | some n => rw [hz] at hk; cases hk; exact ⟨n,rfl⟩
theorem flatT_sound : ∀ (d : Nat) (t : TypeId) (tags : List Nat),flatT P d t=some tags→EqOk P d t tags:=by
 intro d
 induction d with
 | zero => intro t tags h; simp [flatT] at h
 | succ d ih =>
  intro t tags h ρ w e x y rx ry b vx vy hk hb
  simp only [flatT] at h
  cases hu : P.underlying t with
  | none => rw [hu] at h; cases h
  | some u =>
   rw [hu] at h
   cases u <;> simp at h
   case bool =>
    subst h
    rw [show loadK P t=some none from by simp [loadK,aggT,hu]] at hk
    rw [IV.cs_one hk.1,IV.cs_one hk.2] at hb
    obtain ⟨a,c,rfl,rfl,rfl⟩:=leafEq_0 (allEq_one hb)
    cases vx; cases vy
    rw [← Nat.add_assoc]
    simp [Op.equalIn,run_underlying hu]
   case int k =>
    subst h
    rw [show loadK P t=some none from by simp [loadK,aggT,hu]] at hk
    rw [IV.cs_one hk.1,IV.cs_one hk.2] at hb
    obtain ⟨k,a,c,rfl,rfl,rfl⟩:=leafEq_1 (allEq_one hb)
    cases vx; cases vy
    rw [← Nat.add_assoc]
    simp [Op.equalIn,run_underlying hu,beq_dec]
   case string =>
    subst h
    rw [show loadK P t=some none from by simp [loadK,aggT,hu]] at hk
    rw [IV.cs_one hk.1,IV.cs_one hk.2] at hb
    obtain ⟨a,c,rfl,rfl,rfl⟩:=leafEq_2 (allEq_one hb)
    cases vx; cases vy
    rw [← Nat.add_assoc]
    simp [Op.equalIn,run_underlying hu,beq_toListBytes,beqL_dec]
   case struct fs =>
    obtain ⟨hst,h⟩:=h
    have hfo : P.fieldsOf t=fs:=by simp [Program.fieldsOf,hu]
    cases hlk : loadK P t with
    | none => rw [hlk] at hk; exact hk.elim
    | some k =>
     obtain ⟨n,rfl⟩:=loadK_struct hu k hlk
     rw [hlk] at hk
     obtain ⟨⟨xs,rfl⟩,⟨ys,rfl⟩⟩:=hk
     cases vx with
     | agg _ rxs hx vx =>
      cases vy with
      | agg _ rys hy vy =>
       simp only [IV.cs] at hb
       rw [← Nat.add_assoc,run_equalIn_struct w (e+d) t rxs rys (by rw [hfo]; exact hu) hst,hfo]
       exact eqFields_sound (fun t tags h => ih t tags h) hx hy vx vy fs.toList 0 tags b h (by simpa using hb)
   case array n e0 =>
    split at h
    ·rename_i k hue
     split at h
     ·rename_i hc
      cases h
      have hlk : loadK P t=(szT P t).map some:=by simp [loadK,aggT,hu]
      cases hsz : szT P t with
      | none => rw [hlk,hsz] at hk; exact hk.elim
      | some m =>
       rw [hlk,hsz] at hk
       obtain ⟨⟨xs,rfl⟩,⟨ys,rfl⟩⟩:=hk
       cases vx with
       | agg _ rxs hx vx =>
        cases vy with
        | agg _ rys hy vy =>
         rw [← Nat.add_assoc]
         exact arr_eq hu hue hc.1 (by omega) hx hy vx vy hb
     ·cases h
    ·cases h
def eqsI (tags : List Nat) (neg : Bool) : IV→IV→Option IV
 | .agg xs,.agg ys => (allEq tags xs ys).map fun b => .bool (b ^^ neg)
 | _,_ => none
theorem eqs_sound {d : Nat} (hd : d≤10000) {t : TypeId} {tags : List Nat} {n : Nat} {op : BinOp} {x y : Operand} {a b v : IV} {ra rb : Value} (ht : flatT P d t=some tags) (hl : loadK P t=some (some n))
  (hm : P.eqGuardType P.depth t=false) (hop : op=.eql ∨ op=.neq) (h : eqsI tags (decide (op=.neq)) a b=some v) (ha : VR ρ w a ra) (hb : VR ρ w b rb) :
  ∃ r,(do eqGuard op t x y ra rb; binOp op t ra rb : Sem Value).run P w=.ok r w∧VR ρ w v r:=by
 cases ha with
 | agg xs rxs hx vx =>
  cases hb with
  | agg ys rys hy vy =>
   simp only [eqsI] at h
   cases hq : allEq tags xs ys with
   | none => rw [hq] at h; cases h
   | some q =>
    rw [hq] at h
    cases h
    have he:=flatT_sound d t tags ht ρ w (10000 - d) (.agg xs) (.agg ys) (.agg rxs) (.agg rys) q (.agg xs rxs hx vx) (.agg ys rys hy vy) (by rw [hl]; exact ⟨⟨_,rfl⟩,⟨_,rfl⟩⟩) hq
    rw [show 10000 - d+d=10000 from by omega] at he
    simp only [Sem.run_bind,run_eqGuard_agg w op t x y rxs rys hm,Result.andThen_ok]
    rcases hop with rfl | rfl
    ·rw [run_eql_struct,he]; exact ⟨_,rfl,by simpa using VR.bool q⟩
    ·rw [run_neq_struct,he]; exact ⟨_,rfl,by simpa using VR.bool (!q)⟩
  | _ => simp [eqsI] at h
 | _ => simp [eqsI] at h
/-! ### not,conversions -/
def notI : IV→Option IV
 | .bool b => some (.bool (!b))
 | _ => none
theorem not_sound {a v : IV} {ra : Value} (h : notI a=some v) (ha : VR ρ w a ra) : ∃ r,(Op.unary .not ra).run P w=.ok r w∧VR ρ w v r:=by
 cases ha <;> simp [notI] at h
 subst h
 exact ⟨_,rfl,.bool _⟩
def negI : IV→Option IV
 | .int k n => some (.int k (k.wrap (0 - n)))
 | _ => none
theorem neg_sound {a v : IV} {ra : Value} (h : negI a=some v) (ha : VR ρ w a ra) : ∃ r,(Op.unary .neg ra).run P w=.ok r w∧VR ρ w v r:=by
 cases ha <;> simp only [negI] at h <;> cases h
 exact ⟨_,rfl,.int _ _⟩
def convI (k : IntKind) : IV→Option IV
 | .int _ n => some (.int k (k.wrap n))
 | _ => none
theorem conv_sound {src dst : TypeId} {k : IntKind} {a v : IV} {ra : Value} {u : TypeDesc} (hs : P.underlying src=some u) (hd : P.underlying dst=some (.int k)) (h : convI k a=some v) (ha : VR ρ w a ra) :
  ∃ r,(convert src dst ra).run P w=.ok r w∧VR ρ w v r:=by
 cases ha <;> simp only [convI] at h <;> cases h
 exact ⟨_,by simp [convert,run_underlying hs,run_underlying hd,Conv.intToInt],.int _ _⟩
def strIdI : IV→Option IV
 | .str s => some (.str s)
 | _ => none
theorem strId_sound {src dst : TypeId} {a v : IV} {ra : Value} {u : TypeDesc} (hs : P.underlying src=some u) (hd : P.underlying dst=some .string) (h : strIdI a=some v) (ha : VR ρ w a ra) :
  ∃ r,(convert src dst ra).run P w=.ok r w∧VR ρ w v r:=by
 cases ha <;> simp only [strIdI] at h <;> cases h
 exact ⟨_,by simp [convert,run_underlying hs,run_underlying hd],.str _⟩
/-! ### A check for nil -/
def nchkI (v : IV) : Option IV :=
 match v with
 | .tptr _ => some v
 | .ptr _ _ => some v
 | .func (.func _) _ _ => some v
 | .yield _ => some v
 | _ => none
theorem nchk_sound {a v : IV} {o : Oper} {x : Operand} {ev : Operand→Value} (ho : o.op=.nilCheck x)
  (h : nchkI a=some v) (ha : VR ρ w a (ev x)) : ∃ r,(execOp ev o).run P w=.ok (.value r) w∧VR ρ w v r:=by
 have key : ∀ r : Value,(∀ q,ev x=q→(match q with | .pointer none | .nilIface | .nilFunc => False | .func (.method _) _ _ => False | _ => True))→ev x=r→(execOp ev o).run P w=.ok (.value r) w:=by
  intro r hq hr
  have:=hq _ hr
  unfold execOp
  rw [ho]
  simp only [hr]
  cases r with
  | pointer p => cases p <;> simp at this ⊢
  | func fn f c => cases fn <;> simp at this ⊢
  | _ => first | rfl | simp at this
 generalize hev : ev x=r at ha
 cases ha with
 | tptr cs b off vs hf hc hv =>
  cases h
  exact ⟨_,key _ (fun q hq => by rw [hev] at hq; subst hq; trivial) hev,.tptr cs b off vs hf hc hv⟩
 | ptr id off B d hid => cases h; exact ⟨_,key _ (fun q hq => by rw [hev] at hq; subst hq; trivial) hev,.ptr id off B d hid⟩
 | ptrD id off ad hid => cases h; exact ⟨_,key _ (fun q hq => by rw [hev] at hq; subst hq; trivial) hev,.ptrD id off ad hid⟩
 | func fn first cap rf rc hy h1 h2 hf hc =>
  cases fn <;> simp [nchkI] at h
  subst h
  exact ⟨_,key _ (fun q hq => by rw [hev] at hq; subst hq; trivial) hev,.func _ first cap rf rc hy h1 h2 hf hc⟩
 | yield id B d hid => cases h; exact ⟨_,key _ (fun q hq => by rw [hev] at hq; subst hq; trivial) hev,.yield id B d hid⟩
 | yieldD id B hid => cases h; exact ⟨_,key _ (fun q hq => by rw [hev] at hq; subst hq; trivial) hev,.yieldD id B hid⟩
 | _ => simp [nchkI] at h
end Go.Id
/- Constants,zero values,building of structs and arrays; tables that are read. Conditions: none; over any program. -/
namespace Go.Id
open Go
variable {P : Program} {w : World} {ρ : Rho}
def cv1 : Value→Option IV
 | .bool b => some (.bool b)
 | .int k n => some (.int k n)
 | .string s => some (.str s.data.toList)
 | .pointer none => some .nilptr
 | .slice none 0 0 => some .nilslice
 | .map none => some .nilmap
 | .nilFunc => some .nilfunc
 | .nilIface => some .niliface
 | _ => none
def cvL : List Value→Option (List IV)
 | [] => some []
 | v :: vs => match cv1 v,cvL vs with
  | some x,some xs => some (x :: xs)
  | _,_ => none
def cv : Value→Option IV
 | .agg cs => (cvL cs.toList).map .agg
 | v => cv1 v
def cvs (v : Value) : Option (List IV):=cvL v.cells.toList
theorem cv1_sound {v : Value} {x : IV} (h : cv1 v=some x) : VR ρ w x v:=by
 unfold cv1 at h
 split at h <;> cases h
 ·exact .bool _
 ·exact .int _ _
 ·rename_i s; exact .str _
 ·exact .nilptr
 ·exact .nilslice
 ·exact .nilmap
 ·exact .nilfunc
 ·exact .niliface
theorem cvL_sound {vs : List Value} {xs : List IV} (h : cvL vs=some xs) : xs.length=vs.length∧∀ i,i < xs.length→VR ρ w (xs.getD i .undef) (vs.getD i undef):=by
 induction vs generalizing xs with
 | nil => cases h; exact ⟨rfl,fun i hi => by simp at hi⟩
 | cons v vs ih =>
  simp only [cvL] at h
  split at h
  ·rename_i x ys h1 h2
   cases h
   obtain ⟨hl,hv⟩:=ih h2
   refine ⟨by simp [hl],fun i hi => ?_⟩
   cases i with
   | zero => simpa using cv1_sound h1
   | succ i => simpa using hv i (by simpa using hi)
  ·cases h
theorem cvs_sound {v : Value} {xs : List IV} (h : cvs v=some xs) : xs.length=v.cells.size∧∀ i,i < xs.length→VR ρ w (xs.getD i .undef) (v.cells.getD i undef):=by
 obtain ⟨hl,hv⟩:=cvL_sound (ρ:=ρ) (w:=w) h
 refine ⟨by simpa using hl,fun i hi => ?_⟩
 have:=hv i hi
 simpa [Array.getD_eq_getD_getElem?,List.getD_eq_getElem?_getD] using this
theorem cv_sound {v : Value} {x : IV} (h : cv v=some x) : VR ρ w x v:=by
 unfold cv at h
 split at h
 ·rename_i cs
  cases hc : cvL cs.toList with
  | none => rw [hc] at h; cases h
  | some xs =>
   rw [hc] at h
   cases h
   obtain ⟨hl,hv⟩:=cvs_sound (ρ:=ρ) (w:=w) (v:=.agg cs) (xs:=xs) (by simpa [cvs,Value.cells] using hc)
   exact .agg _ _ (by simpa [Value.cells] using hl) hv
 ·exact cv1_sound h
def CR (ρ : Rho) (w : World) (xs : List IV) (rs : Array Value) : Prop:=xs.length=rs.size∧∀ i,i < xs.length→VR ρ w (xs.getD i .undef) (rs.getD i undef)
def IV.leaf : IV→Bool
 | .undef | .agg _ | .tuple _ => false
 | _ => true
theorem oneCell_cells {r : Value} (h : r.oneCell'=true) : r.cells=#[r]:=by
 cases r <;> first | rfl | simp [Value.oneCell'] at h
theorem leaf_one {v : IV} {r : Value} (h : v.leaf=true) (hv : VR ρ w v r) : r.oneCell'=true∧r.cells=#[r]:=by
 have : r.oneCell'=true:=by
  cases hv <;> first | rfl | assumption | (simp [IV.leaf] at h; done)
 exact ⟨this,oneCell_cells this⟩
theorem cells_sound {v : IV} {r : Value} (hv : VR ρ w v r) (hk : v.cs.all IV.leaf=true) : CR ρ w v.cs r.cells∧∀ x∈r.cells.toList,x.oneCell'=true:=by
 by_cases ha : ∃ zs,v=.agg zs
 ·obtain ⟨zs,rfl⟩:=ha
  cases hv with
  | agg _ rs h1 h2 =>
   refine ⟨⟨h1,h2⟩,fun x hx => ?_⟩
   obtain ⟨i,hi,rfl⟩:=List.mem_iff_getElem.1 hx
   simp [Value.cells] at hi
   have hi' : i < zs.length:=by omega
   have hl : (zs.getD i .undef).leaf=true:=by
    have:=List.all_eq_true.1 hk zs[i] (List.getElem_mem _)
    simpa [List.getD_eq_getElem?_getD,hi'] using this
   have:=(leaf_one hl (h2 i hi')).1
   rw [getD_of_lt _ _ _ hi] at this
   simpa [Value.cells] using this
 ·have hn : ∀ zs,v≠.agg zs:=fun zs h => ha ⟨zs,h⟩
  rw [IV.cs_one hn] at hk ⊢
  have hl : v.leaf=true:=by simpa using hk
  obtain ⟨h1,h2⟩:=leaf_one hl hv
  rw [h2]
  refine ⟨⟨rfl,fun i hi => ?_⟩,fun x hx => ?_⟩
  ·simp at hi; subst hi; simpa using hv
  ·simp at hx; subst hx; exact h1
/-! ### Building -/
def putL (l : List IV) (off : Nat) (vs : List IV) : List IV:=l.take off ++ vs ++ l.drop (off+vs.length)
theorem putL_length {l : List IV} {off : Nat} {vs : List IV} (h : off+vs.length≤l.length) : (putL l off vs).length=l.length:=by
 unfold putL; simp; omega
theorem putL_getD {l : List IV} {off : Nat} {vs : List IV} (h : off+vs.length≤l.length) (i : Nat) (d : IV) :
  (putL l off vs).getD i d=if off≤i∧i < off+vs.length then vs.getD (i - off) d else l.getD i d:=by
 unfold putL
 simp only [List.getD_eq_getElem?_getD,List.getElem?_append,List.length_append,List.length_take,List.getElem?_take,List.getElem?_drop]
 have h1 : min off l.length=off:=by omega
 rw [h1]
 by_cases c1 : i < off+vs.length
 ·by_cases c2 : i < off
  ·simp [c1,c2,Nat.not_le.2 c2]
  ·simp [c1,c2,Nat.not_lt.1 c2]
 ·have c2 : ¬ (i < off):=by omega
  simp only [c1,if_false,and_false]
  congr 2
  omega
theorem foldl_put (off : Nat) : ∀ (vs : List Value) (k : Nat) (cells : Array Value),
  ((vs.zipIdx k).foldl (fun cs (c,j) => cs.setIfInBounds (off+j) c) cells).size=cells.size ∧
  ∀ i d,off+k+vs.length≤cells.size→((vs.zipIdx k).foldl (fun cs (c,j) => cs.setIfInBounds (off+j) c) cells).getD i d =
   if off+k≤i∧i < off+k+vs.length then vs.getD (i - (off+k)) d else cells.getD i d:=by
 intro vs
 induction vs with
 | nil => intro k cells; exact ⟨rfl,fun i d h => by simp; intro h1 h2; omega⟩
 | cons v vs ih =>
  intro k cells
  simp only [List.zipIdx_cons,List.foldl_cons]
  obtain ⟨h1,h2⟩:=ih (k+1) (cells.setIfInBounds (off+k) v)
  refine ⟨by rw [h1]; simp,fun i d h => ?_⟩
  simp at h
  rw [h2 i d (by simp; omega)]
  by_cases c1 : off+k≤i∧i < off+k+(v :: vs).length
  ·obtain ⟨ca,cb⟩:=c1
   simp at cb
   by_cases c2 : i=off+k
   ·subst c2
    have hlt : off+k < cells.size:=by omega
    have c3 : ¬ (off+(k+1)≤off+k):=by omega
    simp [c3,Array.getD_eq_getD_getElem?,hlt]
   ·have c3 : off+(k+1)≤i∧i < off+(k+1)+vs.length:=by omega
    have c4 : off+k≤i∧i < off+k+(v :: vs).length:=by simp; omega
    rw [if_pos c3,if_pos c4]
    have : i - (off+k)=(i - (off+(k+1)))+1:=by omega
    rw [this]
    simp
  ·have c3 : ¬ (off+(k+1)≤i∧i < off+(k+1)+vs.length):=by simp at c1; omega
   rw [if_neg c3,if_neg c1]
   have c2 : off+k≠i:=by simp at c1; omega
   simp [Array.getD_eq_getD_getElem?,Array.getElem?_setIfInBounds,c2]
def fillI : List IV→List (Nat × Nat × IV)→Option (List IV)
 | cells,[] => some cells
 | cells,(off,size,v) :: rest => if v.cs.length=size∧off+size≤cells.length∧v.cs.all IV.leaf=true then fillI (putL cells off v.cs) rest else none
theorem fill_sound {place : Nat→Option (Nat × Nat)} : ∀ (ips : List (Nat × Nat × IV)) (rps : List (Nat × Value)) (cells out : List IV) (rcells : Array Value),CR ρ w cells rcells →
  ips.length=rps.length→(∀ j,j < ips.length→place (rps.getD j (0,undef)).1=some ((ips.getD j (0,0,.undef)).1,(ips.getD j (0,0,.undef)).2.1)∧VR ρ w (ips.getD j (0,0,.undef)).2.2 (rps.getD j (0,undef)).2) →
  fillI cells ips=some out→∃ rout,Instr.fill place rcells rps=some rout∧CR ρ w out rout:=by
 intro ips
 induction ips with
 | nil =>
  intro rps cells out rcells hc hl hp h
  cases rps with
  | nil => cases h; exact ⟨rcells,rfl,hc⟩
  | cons _ _ => simp at hl
 | cons ip ips ih =>
  intro rps cells out rcells hc hl hp h
  obtain ⟨off,size,v⟩:=ip
  cases rps with
  | nil => simp at hl
  | cons rp rps =>
   obtain ⟨i,r⟩:=rp
   simp only [fillI] at h
   split at h
   case isFalse => cases h
   rename_i hh
   obtain ⟨h1,h2,h3⟩:=hh
   obtain ⟨hp0,hv0⟩:=hp 0 (by simp)
   simp at hp0 hv0
   obtain ⟨⟨c1,c2⟩,c3⟩:=cells_sound hv0 h3
   have hs : r.cells.size=size:=by omega
   have hcs : rcells.size=cells.length:=hc.1.symm
   obtain ⟨f1,f2⟩:=foldl_put off r.cells.toList 0 rcells
   have hfold : r.cells.zipIdx.foldl (fun cs (c,j) => cs.setIfInBounds (off+j) c) rcells=(r.cells.toList.zipIdx 0).foldl (fun cs (c,j) => cs.setIfInBounds (off+j) c) rcells:=by
    rw [← Array.foldl_toList]; simp
   refine (ih rps (putL cells off v.cs) out (r.cells.zipIdx.foldl (fun cs (c,j) => cs.setIfInBounds (off+j) c) rcells) ⟨?_,fun j hj => ?_⟩ (by simpa using hl) (fun j hj => by simpa using hp (j+1) (by simpa using hj)) h).imp fun rout ho => ⟨?_,ho.2⟩
   ·rw [hfold,f1,putL_length (by omega)]; exact hc.1
   ·rw [putL_length (by omega)] at hj
    rw [putL_getD (by omega),hfold,f2 j undef (by simp; omega)]
    simp only [Nat.add_zero,Array.length_toList]
    rw [hs,h1]
    split
    ·rename_i hj'
     have:=c2 (j - off) (by omega)
     simpa [Array.getD_eq_getD_getElem?,List.getD_eq_getElem?_getD] using this
    ·exact hc.2 j hj
   ·simp only [Instr.fill,hp0]
    rw [if_neg (by simp; omega)]
    exact ho.1
end Go.Id
/- Maps,read. Conditions: none; over any program. -/
namespace Go.Id
open Go
variable {P : Program} {w : World} {ρ : Rho} {E : Nat→IV} {σ : Store}
def mapAt (σ : Store) : IV→Option (List (IV × IV))
 | .nilmap => some []
 | .tmap es => some es
 | .map id => match σ.obj id with
  | some (.map es) => some es
  | _ => none
 | _ => none
def keyEq (tag : Nat) (x y : IV) : Option Bool :=
 match Nat.ble 3 tag with
 | true => match x with
  | .agg xs => match y with
   | .agg ys => allEq (List.replicate (tag - 3) 1) xs ys
   | _ => none
  | _ => none
 | false => leafEq tag x y
def kOK (tag : Nat) (k : IV) : Bool :=
 match Nat.ble 3 tag with
 | true => (keyEq tag k k).isSome
 | false => true
def lookL (tag : Nat) (k : IV) : List (IV × IV)→Option (Option IV)
 | [] => match kOK tag k with
  | true => some none
  | false => none
 | e :: es => match keyEq tag k e.1 with
  | some true => some (some e.2)
  | some false => lookL tag k es
  | none => none
def lkpI (σ : Store) (tag : Nat) (zero : IV) (ok : Bool) (x k : IV) : Option IV :=
 match mapAt σ x with
 | some es => match lookL tag k es with
  | some r => some (if ok then .tuple [r.getD zero,.bool r.isSome] else r.getD zero)
  | none => none
 | none => none
def tagOf : Option TypeDesc→Option Nat
 | some .bool => some 0
 | some (.int _) => some 1
 | some .string => some 2
 | _ => none
def intT (P : Program) (t : TypeId) : Bool:=match P.underlying t with
 | some (.int _) => true
 | _ => false
def keyT (P : Program) (kt : TypeId) : Option Nat :=
 match P.underlying kt with
 | some (.struct fs) => match flatT P 30 kt,loadK P kt with
  | some tags, some (some _) => if tags = List.replicate tags.length 1 ∧ fs.toList.all (fun f => f.name != "_" && intT P f.type && decide (f.offset < tags.length)) = true then some (tags.length + 3) else none
  | _,_ => none
 | d => tagOf d
theorem keyT_cases {kt : TypeId} {tag : Nat} (h : keyT P kt=some tag) : ∃ d,P.underlying kt=some d∧((tagOf (some d)=some tag∧tag < 3) ∨
  (∃ fs n m, d = .struct fs ∧ tag = n + 3 ∧ flatT P 30 kt = some (List.replicate n 1) ∧ loadK P kt = some (some m) ∧ ∀ f ∈ fs.toList, f.name ≠ "_" ∧ intT P f.type = true ∧ f.offset < n)) := by
 unfold keyT at h
 split at h
 ·rename_i fs hu
  refine ⟨_,hu,.inr ?_⟩
  split at h
  ·rename_i tags m hf hl
   split at h
   ·rename_i hc
    cases h
    refine ⟨fs,tags.length,m,rfl,rfl,by rw [hf]; exact congrArg some hc.1,hl,fun f hf => ?_⟩
    have:=List.all_eq_true.1 hc.2 f hf
    simp only [Bool.and_eq_true,bne_iff_ne,ne_eq,decide_eq_true_eq] at this
    exact ⟨this.1.1,this.1.2,this.2⟩
   ·cases h
  ·cases h
 ·cases hu : P.underlying kt with
  | none => rw [hu] at h; cases h
  | some d =>
   rw [hu] at h
   refine ⟨d,rfl,.inl ⟨h,?_⟩⟩
   cases d <;> simp only [tagOf] at h <;> cases h <;> decide
theorem ble3 {n : Nat} : Nat.ble 3 (n+3)=true:=Nat.ble_eq_true_of_le (by omega)
theorem keyEq_lt {tag : Nat} (h : tag < 3) (x y : IV) : keyEq tag x y=leafEq tag x y:=by
 unfold keyEq
 cases hb : Nat.ble 3 tag with
 | false => rfl
 | true => have:=Nat.le_of_ble_eq_true hb; omega
theorem keyEq_agg {n : Nat} {x y : IV} {b : Bool} (h : keyEq (n+3) x y=some b) : ∃ xs ys,x=.agg xs∧y=.agg ys∧allEq (List.replicate n 1) xs ys=some b:=by
 unfold keyEq at h
 rw [ble3] at h
 simp only at h
 split at h
 ·split at h
  ·exact ⟨_,_,rfl,rfl,h⟩
  ·cases h
 ·cases h
theorem allEq_ints : ∀ {n : Nat} {xs ys : List IV} {b : Bool},allEq (List.replicate n 1) xs ys=some b →
  ∃ (ks : List IntKind) (as bs : List Int),ks.length=n∧as.length=n∧bs.length=n∧xs=(ks.zip as).map (fun p => IV.int p.1 p.2)∧ys=(ks.zip bs).map (fun p => IV.int p.1 p.2)∧b=decide (as=bs):=by
 intro n
 induction n with
 | zero =>
  intro xs ys b h
  have:=allEq_len h
  simp at this
  obtain ⟨rfl,rfl⟩:=this
  simp [allEq] at h
  exact ⟨[],[],[],rfl,rfl,rfl,rfl,rfl,by simp [h]⟩
 | succ n ih =>
  intro xs ys b h
  rw [List.replicate_succ] at h
  cases xs with
  | nil => simp [allEq] at h
  | cons x xs =>
   cases ys with
   | nil => simp [allEq] at h
   | cons y ys =>
    simp only [allEq] at h
    split at h
    ·rename_i a c h1 h2
     cases h
     obtain ⟨k,p,q,rfl,rfl,rfl⟩:=leafEq_1 h1
     obtain ⟨ks,as,bs,l1,l2,l3,rfl,rfl,rfl⟩:=ih h2
     refine ⟨k :: ks,p :: as,q :: bs,by simp [l1],by simp [l2],by simp [l3],rfl,rfl,?_⟩
     by_cases e1 : p=q <;> by_cases e2 : as=bs <;> simp [e1,e2]
    ·cases h
theorem ints_allEq : ∀ (ks : List IntKind) (as bs : List Int),as.length=ks.length→bs.length=ks.length→allEq (List.replicate ks.length 1) ((ks.zip as).map fun p => IV.int p.1 p.2) ((ks.zip bs).map fun p => IV.int p.1 p.2)=some (decide (as=bs)):=by
 intro ks
 induction ks with
 | nil =>
  intro as bs h1 h2
  cases as <;> cases bs <;> simp at h1 h2
  simp [allEq]
 | cons k ks ih =>
  intro as bs h1 h2
  cases as with
  | nil => simp at h1
  | cons a as =>
   cases bs with
   | nil => simp at h2
   | cons b bs =>
    simp only [List.length_cons,List.replicate_succ,List.zip_cons_cons,List.map_cons,allEq,leafEq,if_true]
    rw [ih as bs (by simpa using h1) (by simpa using h2)]
    by_cases e1 : a=b <;> by_cases e2 : as=bs <;> simp [e1,e2]
theorem kOK_of {tag : Nat} {k e : IV} {b : Bool} (h : keyEq tag k e=some b) : kOK tag k=true:=by
 unfold kOK
 cases hb : Nat.ble 3 tag with
 | false => rfl
 | true =>
  have h3:=Nat.le_of_ble_eq_true hb
  obtain ⟨n,rfl⟩ : ∃ n,tag=n+3:=⟨tag - 3,by omega⟩
  obtain ⟨xs,ys,rfl,rfl,h1⟩:=keyEq_agg h
  obtain ⟨ks,as,bs,l1,l2,l3,rfl,rfl,rfl⟩:=allEq_ints h1
  have:=ints_allEq ks as as (by omega) (by omega)
  rw [l1] at this
  simp [keyEq,this,hb]
theorem look_kok {tag : Nat} {k : IV} {es : List (IV × IV)} {r : Option IV} (h : lookL tag k es=some r) : kOK tag k=true:=by
 cases es with
 | nil =>
  simp only [lookL] at h
  split at h
  ·assumption
  ·cases h
 | cons e es =>
  simp only [lookL] at h
  cases hq : keyEq tag k e.1 with
  | none => rw [hq] at h; cases h
  | some b => exact kOK_of hq
theorem ba_beq (s t : List UInt8) : (ByteArray.mk s.toArray == ByteArray.mk t.toArray)=decide (s=t):=by
 show (s.toArray == t.toArray)=_
 by_cases h : s=t <;> simp [h]
def EsR (ρ : Rho) (w : World) (es : List (IV × IV)) (mes : List MapEntry) : Prop :=
 es.length=mes.length∧∀ i,i < es.length→VR ρ w (es.getD i (.undef,.undef)).1 (mes.getD i default).key∧VR ρ w (es.getD i (.undef,.undef)).2 (mes.getD i default).val
theorem sameNow_of {d : TypeDesc} {tag : Nat} {x y : IV} {rx ry : Value} {b : Bool} (ht : tagOf (some d)=some tag) (h : leafEq tag x y=some b) (hx : VR ρ w x rx) (hy : VR ρ w y ry) : Instr.sameNow d rx ry=some b:=by
 cases d <;> simp only [tagOf] at ht <;> cases ht <;> cases x <;> cases y <;> simp only [leafEq] at h <;> first | cases h; done | skip
 ·cases hx; cases hy; cases h; rfl
 ·cases hx; cases hy
  simp only [Instr.sameNow]
  split at h
  ·cases h; rename_i e; simp [e,beq_dec]
  ·cases h
 ·cases hx; cases hy; cases h
  rename_i s t
  simp only [Instr.sameNow,ba_beq]
theorem sameNow_struct {fs : Array Field} {x y : Value} : Instr.sameNow (.struct fs) x y=none:=by unfold Instr.sameNow; split <;> first | rfl | contradiction
def EqK (P : Program) (kt : TypeId) (tag : Nat) : Prop:=∀ (ρ : Rho) (w : World) (x y : IV) (rx ry : Value) (b : Bool),keyEq tag x y=some b→VR ρ w x rx→VR ρ w y ry→(Op.equal kt rx ry).run P w=.ok b w
theorem eqK_struct {kt : TypeId} {n m : Nat} (hf : flatT P 30 kt=some (List.replicate n 1)) (hl : loadK P kt=some (some m)) : EqK P kt (n+3):=by
 intro ρ w x y rx ry b h hx hy
 obtain ⟨xs,ys,rfl,rfl,h1⟩:=keyEq_agg h
 have he:=flatT_sound 30 kt _ hf ρ w (10000 - 30) (.agg xs) (.agg ys) rx ry b hx hy (by rw [hl]; exact ⟨⟨_,rfl⟩,⟨_,rfl⟩⟩) h1
 exact he
theorem find_run {kt : TypeId} {tag : Nat} {k : IV} {rk : Value} (ht : keyT P kt=some tag) (hk : VR ρ w k rk) : ∀ (es : List (IV × IV)) (mes : List MapEntry),EsR ρ w es mes →
  ∀ (r : Option Nat),(r=none→∀ e∈es,keyEq tag k e.1=some false)→(∀ j,r=some j→j < es.length∧keyEq tag k (es.getD j (.undef,.undef)).1=some true∧∀ i,i < j→keyEq tag k (es.getD i (.undef,.undef)).1=some false) →
  (Instr.findKey kt rk mes).run P w=.ok (r.map fun j => (j,(mes.getD j default).val)) w:=by
 obtain ⟨d,hu,hd⟩:=keyT_cases ht
 have now : ∀ (es : List (IV × IV)) (mes : List MapEntry) (i0 : Nat),tag < 3→tagOf (some d)=some tag→EsR ρ w es mes→∀ (r : Option Nat),(r=none→∀ e∈es,keyEq tag k e.1=some false)→(∀ j,r=some j→j < es.length∧keyEq tag k (es.getD j (.undef,.undef)).1=some true∧∀ i,i < j→keyEq tag k (es.getD i (.undef,.undef)).1=some false) →
   Instr.findNow d rk mes i0=some (r.map fun j => (i0+j,(mes.getD j default).val)):=by
  intro es
  induction es with
  | nil =>
   intro mes i0 _ _ he r h1 h2
   have : mes=[]:=List.length_eq_zero_iff.1 he.1.symm
   subst this
   cases r with
   | none => rfl
   | some j => exact absurd (h2 j rfl).1 (by simp)
  | cons e es ih =>
   intro mes i0 h3 hto he r h1 h2
   cases mes with
   | nil => exact absurd he.1 (by simp)
   | cons m mes =>
    have h0:=he.2 0 (by simp)
    simp at h0
    have he' : EsR ρ w es mes:=⟨by have:=he.1; simpa using this,fun j hj => by have:=he.2 (j+1) (by simp; omega); simpa using this⟩
    cases r with
    | none =>
     have hq:=h1 rfl e (List.mem_cons_self ..)
     rw [keyEq_lt h3] at hq
     simp only [Instr.findNow,sameNow_of hto hq hk h0.1]
     have:=ih mes (i0+1) h3 hto he' none (fun _ e he => h1 rfl e (List.mem_cons_of_mem _ he)) (fun j hj => by cases hj)
     simpa using this
    | some j =>
     obtain ⟨g1,g2,g3⟩:=h2 j rfl
     cases j with
     | zero =>
      simp at g2
      rw [keyEq_lt h3] at g2
      simp [Instr.findNow,sameNow_of hto g2 hk h0.1]
     | succ j =>
      have hq:=g3 0 (by omega)
      simp at hq
      rw [keyEq_lt h3] at hq
      simp only [Instr.findNow,sameNow_of hto hq hk h0.1]
      have:=ih mes (i0+1) h3 hto he' (some j) (fun h => by cases h) (fun j' hj' => by
       cases hj'
       refine ⟨by simpa using g1,by simpa using g2,fun i hi => ?_⟩
       have:=g3 (i+1) (by omega)
       simpa using this)
      rw [this]
      simp
      omega
 have ask : ∀ (es : List (IV × IV)) (mes : List MapEntry) (i0 : Nat),EqK P kt tag→EsR ρ w es mes→∀ (r : Option Nat),(r=none→∀ e∈es,keyEq tag k e.1=some false)→(∀ j,r=some j→j < es.length∧keyEq tag k (es.getD j (.undef,.undef)).1=some true∧∀ i,i < j→keyEq tag k (es.getD i (.undef,.undef)).1=some false) →
   (Instr.findAsking kt rk mes i0).run P w=.ok (r.map fun j => (i0+j,(mes.getD j default).val)) w:=by
  intro es
  induction es with
  | nil =>
   intro mes i0 _ he r h1 h2
   have : mes=[]:=List.length_eq_zero_iff.1 he.1.symm
   subst this
   cases r with
   | none => simp [Instr.findAsking]
   | some j => exact absurd (h2 j rfl).1 (by simp)
  | cons e es ih =>
   intro mes i0 hE he r h1 h2
   cases mes with
   | nil => exact absurd he.1 (by simp)
   | cons m mes =>
    have h0:=he.2 0 (by simp)
    simp at h0
    have he' : EsR ρ w es mes:=⟨by have:=he.1; simpa using this,fun j hj => by have:=he.2 (j+1) (by simp; omega); simpa using this⟩
    cases r with
    | none =>
     have hq:=h1 rfl e (List.mem_cons_self ..)
     have hr:=hE ρ w k e.1 rk m.key false hq hk h0.1
     have:=ih mes (i0+1) hE he' none (fun _ e he => h1 rfl e (List.mem_cons_of_mem _ he)) (fun j hj => by cases hj)
     simp only [Instr.findAsking,Sem.run_bind,hr,Result.andThen_ok]
     simpa using this
    | some j =>
     obtain ⟨g1,g2,g3⟩:=h2 j rfl
     cases j with
     | zero =>
      simp at g2
      have hr:=hE ρ w k e.1 rk m.key true g2 hk h0.1
      simp [Instr.findAsking,hr]
     | succ j =>
      have hq:=g3 0 (by omega)
      simp at hq
      have hr:=hE ρ w k e.1 rk m.key false hq hk h0.1
      have:=ih mes (i0+1) hE he' (some j) (fun h => by cases h) (fun j' hj' => by
       cases hj'
       refine ⟨by simpa using g1,by simpa using g2,fun i hi => ?_⟩
       have:=g3 (i+1) (by omega)
       simpa using this)
      simp only [Instr.findAsking,Sem.run_bind,hr,Result.andThen_ok]
      simp only [Bool.false_eq_true,if_false]
      rw [this]
      simp
      omega
 intro es mes he r h1 h2
 rcases hd with ⟨hto,h3⟩ | ⟨fs,n,m,rfl,rfl,hf,hl,_⟩
 ·have:=now es mes 0 h3 hto he r h1 h2
  simp only [Instr.findKey,Sem.run_bind,run_underlying hu,Result.andThen_ok,this]
  simp
 ·have hE:=eqK_struct (P:=P) hf hl
  cases mes with
  | nil =>
   have hes : es=[]:=List.length_eq_zero_iff.1 he.1
   subst hes
   cases r with
   | none => simp [Instr.findKey,run_underlying hu,Instr.findNow]
   | some j => exact absurd (h2 j rfl).1 (by simp)
  | cons m mes =>
   have:=ask es (m :: mes) 0 hE he r h1 h2
   simp only [Instr.findKey,Sem.run_bind,run_underlying hu,Result.andThen_ok,Instr.findNow,sameNow_struct]
   rw [this]
   simp
theorem look_idx {tag : Nat} {k : IV} : ∀ (es : List (IV × IV)) (r : Option IV),lookL tag k es=some r→∃ q : Option Nat,(q=none→∀ e∈es,keyEq tag k e.1=some false)∧(∀ j,q=some j→j < es.length∧keyEq tag k (es.getD j (.undef,.undef)).1=some true∧∀ i,i < j→keyEq tag k (es.getD i (.undef,.undef)).1=some false) ∧
  r=q.map fun j => (es.getD j (.undef,.undef)).2:=by
 intro es
 induction es with
 | nil =>
  intro r h
  refine ⟨none,(fun _ e he => by cases he),(fun j hj => by cases hj),?_⟩
  simp only [lookL] at h
  split at h <;> cases h
  rfl
 | cons e es ih =>
  intro r h
  simp only [lookL] at h
  cases hq : keyEq tag k e.1 with
  | none => rw [hq] at h; cases h
  | some b =>
   rw [hq] at h
   cases b with
   | true => cases h; exact ⟨some 0,(fun h => by cases h),(fun j hj => by cases hj; exact ⟨by simp,by simpa using hq,fun i hi => absurd hi (Nat.not_lt_zero _)⟩),rfl⟩
   | false =>
    obtain ⟨q,h1,h2,h3⟩:=ih r h
    refine ⟨q.map (·+1),fun h => ?_,fun j hj => ?_,?_⟩
    ·cases q with
     | none => intro x hx; rcases List.mem_cons.1 hx with rfl | hx; exact hq; exact h1 rfl x hx
     | some j => cases h
    ·cases q with
     | none => cases hj
     | some j0 =>
      cases hj
      obtain ⟨g1,g2,g3⟩:=h2 j0 rfl
      refine ⟨by simpa using g1,by simpa using g2,fun i hi => ?_⟩
      have hi : i < j0+1:=hi
      cases i with
      | zero => simpa using hq
      | succ i => have:=g3 i (by omega); simpa using this
    ·rw [h3]; cases q <;> simp
theorem checkKey_run {kt : TypeId} {tag : Nat} {b : Bool} {k : IV} {rk : Value} (ht : keyT P kt=some tag) (hok : kOK tag k=true) (hk : VR ρ w k rk) : (Instr.checkKey b 10000 kt rk).run P w=.ok () w:=by
 obtain ⟨d,hu,hd⟩:=keyT_cases ht
 rcases hd with ⟨hto,h3⟩ | ⟨fs,n,m,rfl,rfl,hf,hl,hfs⟩
 ·unfold Instr.checkKey
  cases d <;> simp only [tagOf] at hto <;> cases hto <;> simp [run_underlying hu]
 ·unfold kOK at hok
  rw [ble3] at hok
  simp only at hok
  obtain ⟨bb,hb⟩:=Option.isSome_iff_exists.1 hok
  obtain ⟨xs,ys,rfl,hys,h1⟩:=keyEq_agg hb
  cases hys
  obtain ⟨ks,as,bs,l1,l2,l3,hxs,hys,rfl⟩:=allEq_ints h1
  cases hk with
  | agg _ rxs hx vx =>
   rw [show (10000 : Nat)=9999+1 from rfl,Instr.checkKey]
   simp only [Sem.run_bind,run_underlying hu,Result.andThen_ok]
   rw [← Array.forIn_toList]
   have hxl : xs.length=n:=by rw [hxs]; simp [l1,l2]
   generalize fs.toList=L at hfs
   induction L with
   | nil => simp
   | cons f L ih =>
    obtain ⟨hn,hi,ho⟩:=hfs f (List.mem_cons_self ..)
    have hint : ∃ kk,P.underlying f.type=some (.int kk):=by
     unfold intT at hi
     split at hi
     ·rename_i kk hkk; exact ⟨kk,hkk⟩
     ·cases hi
    obtain ⟨kk,hkk⟩:=hint
    have hag : loadK P f.type=some none:=by simp [loadK,aggT,hkk]
    have hfo : f.offset < xs.length:=by omega
    obtain ⟨px,r1,v1⟩:=part_sound (P:=P) (off:=f.offset) (v:=xs[f.offset]) hag (by simp [partI,hfo]) hx vx
    have p2 : (Instr.checkKey b 9999 f.type px).run P w=.ok () w:=by
     unfold Instr.checkKey
     simp [run_underlying hkk]
    simp only [List.forIn_cons,Sem.run_bind,hn,ne_eq,not_false_eq_true,if_true,Result.andThen_ok,r1,p2,Sem.run_pure]
    exact ih fun f hf => hfs f (List.mem_cons_of_mem _ hf)
open Classical in
theorem leafEq_key {tag : Nat} {k a b : IV} {K : KK} {r : Bool} (h : leafEq tag k a=some r) (ha : keyIs K a) (hb : keyIs K b) : leafEq tag k b=some (decide (k=b)):=by
 unfold leafEq at h
 split at h
 ·cases K <;> cases ha
 ·cases K with
  | int K =>
   simp only [keyIs] at ha
   cases b <;> simp only [keyIs] at hb
   split at h
   ·rename_i hk; subst ha; subst hb; subst hk; simp [leafEq]
   ·cases h
  | _ => cases ha
 ·cases K with
  | str => cases b <;> first | (cases hb; done) | simp [leafEq]
  | _ => cases ha
 ·cases h
theorem agg_ints : ∀ (ks : List IntKind) (cs : List IV),cs.length=ks.length→(∀ i,i < cs.length→∃ n,cs.getD i .undef=.int (ks.getD i .i64) n)→∃ as : List Int,as.length=ks.length∧cs=(ks.zip as).map fun p => IV.int p.1 p.2:=by
 intro ks
 induction ks with
 | nil => intro cs h _; exact ⟨[],rfl,by simpa using h⟩
 | cons k ks ih =>
  intro cs h hc
  cases cs with
  | nil => simp at h
  | cons c cs =>
   obtain ⟨n,hn⟩:=hc 0 (by simp)
   simp at hn
   obtain ⟨as,h1,h2⟩:=ih cs (by simpa using h) (fun i hi => by have:=hc (i+1) (by simp; omega); simpa using this)
   exact ⟨n :: as,by simp [h1],by rw [hn,h2]; rfl⟩
theorem zip_inj : ∀ (ks : List IntKind) (as bs : List Int),as.length=ks.length→bs.length=ks.length→((ks.zip as).map fun p => IV.int p.1 p.2)=((ks.zip bs).map fun p => IV.int p.1 p.2)→as=bs:=by
 intro ks
 induction ks with
 | nil => intro as bs h1 h2 _; cases as <;> cases bs <;> simp at h1 h2 ⊢
 | cons k ks ih =>
  intro as bs h1 h2 h
  cases as with
  | nil => simp at h1
  | cons a as =>
   cases bs with
   | nil => simp at h2
   | cons b bs =>
    simp only [List.zip_cons_cons,List.map_cons,List.cons.injEq,IV.int.injEq,true_and] at h
    rw [h.1,ih as bs (by simpa using h1) (by simpa using h2) h.2]
theorem zip_kinds : ∀ (ks ks' : List IntKind) (as bs : List Int),as.length=ks.length→bs.length=ks'.length→ks.length=ks'.length→(∀ i,i < ks.length→∃ n,((ks.zip as).map fun p => IV.int p.1 p.2).getD i .undef=.int (ks'.getD i .i64) n)→ks=ks':=by
 intro ks
 induction ks with
 | nil => intro ks' as bs _ _ h _; exact (List.length_eq_zero_iff.1 h.symm).symm
 | cons k ks ih =>
  intro ks' as bs h1 h2 h hc
  cases ks' with
  | nil => simp at h
  | cons k' ks' =>
   cases as with
   | nil => simp at h1
   | cons a as =>
    cases bs with
    | nil => simp at h2
    | cons b bs =>
     obtain ⟨n,hn⟩:=hc 0 (by simp)
     simp at hn
     rw [hn.1,ih ks' as bs (by simpa using h1) (by simpa using h2) (by simpa using h) (fun i hi => by have:=hc (i+1) (by simp; omega); simpa using this)]
open Classical in
theorem keyEq_key {tag : Nat} {k a b : IV} {K : KK} {r : Bool} (h : keyEq tag k a=some r) (ha : keyIs K a) (hb : keyIs K b) : keyEq tag k b=some (decide (k=b)):=by
 by_cases h3 : tag < 3
 ·rw [keyEq_lt h3] at h ⊢; exact leafEq_key h ha hb
 ·obtain ⟨n,rfl⟩ : ∃ n,tag=n+3:=⟨tag - 3,by omega⟩
  obtain ⟨xs,ys,rfl,rfl,h1⟩:=keyEq_agg h
  obtain ⟨ks,as,bs,l1,l2,l3,rfl,rfl,rfl⟩:=allEq_ints h1
  cases K with
  | agg ks' =>
   simp only [keyIs] at ha
   have e1 : ks=ks':=zip_kinds ks ks' bs (List.replicate ks'.length 0) (by omega) (by simp) (by have:=ha.1; simp at this; omega) (fun i hi => ha.2 i (by simp; omega))
   subst e1
   cases b with
   | agg cs =>
    simp only [keyIs] at hb
    obtain ⟨cs',c1,rfl⟩:=agg_ints ks cs hb.1 hb.2
    have:=ints_allEq ks as cs' (by omega) c1
    rw [l1] at this
    unfold keyEq
    rw [ble3]
    simp only [Nat.add_sub_cancel,this]
    congr 1
    by_cases e : as=cs'
    ·subst e; simp
    ·have : ¬ (IV.agg ((ks.zip as).map fun p => IV.int p.1 p.2)=IV.agg ((ks.zip cs').map fun p => IV.int p.1 p.2)):=fun h => e (zip_inj ks as cs' (by omega) c1 (IV.agg.inj h))
     simp only [e,this,decide_false]
   | _ => cases hb
  | _ => cases ha
open Classical in
theorem lookL_dec {tag : Nat} {k : IV} (hok : kOK tag k=true) : ∀ (es : List (IV × IV)),(∀ e∈es,keyEq tag k e.1=some (decide (k=e.1)))→lookL tag k es=some ((es.find? fun e => decide (k=e.1)).map (·.2)):=by
 intro es
 induction es with
 | nil => intro _; simp only [lookL,hok]; rfl
 | cons e es ih =>
  intro h
  simp only [lookL,h e (List.mem_cons_self ..),List.find?_cons]
  by_cases hk : k=e.1
  ·simp [hk]
  ·simp only [hk,decide_false]
   exact ih fun x hx => h x (List.mem_cons_of_mem _ hx)
open Classical in
theorem find_perm {k : IV} {es es' : List (IV × IV)} (hp : es'.Perm es) (hn : (es.map (·.1)).Nodup) : (es'.find? fun e => decide (k=e.1))=es.find? fun e => decide (k=e.1):=by
 cases h : es.find? fun e => decide (k=e.1) with
 | none =>
  rw [List.find?_eq_none] at h ⊢
  exact fun x hx => h x (hp.subset hx)
 | some e =>
  have he:=List.mem_of_find?_eq_some h
  have hk : k=e.1:=by simpa using List.find?_some h
  cases h' : es'.find? fun e => decide (k=e.1) with
  | none =>
   rw [List.find?_eq_none] at h'
   exact absurd hk (by simpa using h' e (hp.symm.subset he))
  | some e' =>
   have he':=hp.subset (List.mem_of_find?_eq_some h')
   have hk' : k=e'.1:=by simpa using List.find?_some h'
   congr 1
   have inj : ∀ (l : List (IV × IV)),(l.map (·.1)).Nodup→∀ x∈l,∀ y∈l,x.1=y.1→x=y:=by
    intro l
    induction l with
    | nil => intro _ x hx; cases hx
    | cons a l ih =>
     intro hn x hx y hy hxy
     simp only [List.map_cons,List.nodup_cons] at hn
     rcases List.mem_cons.1 hx with hx1 | hx1 <;> rcases List.mem_cons.1 hy with hy1 | hy1
     ·rw [hx1,hy1]
     ·exact absurd (List.mem_map.2 ⟨y,hy1,by rw [← hxy,hx1]⟩) hn.1
     ·exact absurd (List.mem_map.2 ⟨x,hx1,by rw [hxy,hy1]⟩) hn.1
     ·exact ih hn.2 x hx1 y hy1 hxy
   exact inj es hn e' he' e he (by rw [← hk',← hk])
open Classical in
theorem lookL_perm {tag : Nat} {k : IV} {es es' : List (IV × IV)} {r : Option IV} (hp : es'.Perm es) (hd : KeysOK es) (h : lookL tag k es=some r) : lookL tag k es'=some r:=by
 obtain ⟨hn,K,hK⟩:=hd
 have hok:=look_kok h
 have dec : ∀ e∈es,keyEq tag k e.1=some (decide (k=e.1)):=by
  cases es with
  | nil => intro e he; cases he
  | cons a l =>
   simp only [lookL] at h
   cases hq : keyEq tag k a.1 with
   | none => rw [hq] at h; cases h
   | some b => exact fun e he => keyEq_key hq (hK a (List.mem_cons_self ..)) (hK e he)
 rw [lookL_dec hok es dec] at h
 rw [lookL_dec hok es' fun e he => dec e (hp.subset he),find_perm hp hn]
 exact h
theorem map_read {x : IV} {r : Value} {es : List (IV × IV)} (hs : Sim E ρ w σ) (h : mapAt σ x=some es) (hx : VR ρ w x r) :
  (r=.map none∧es=[]) ∨ ∃ b mes clock es',r=.map (some b)∧w.heap[b]? = some (.map mes clock)∧EsR ρ w es' mes.toList∧(∀ tag k o,lookL tag k es=some o→lookL tag k es'=some o):=by
 have toL : ∀ (mes : Array MapEntry) (i : Nat),mes.toList.getD i default=mes.getD i default:=fun mes i => by simp [List.getD_eq_getElem?_getD,Array.getD_eq_getD_getElem?]
 cases hx with
 | nilmap => cases h; exact .inl ⟨rfl,rfl⟩
 | tmap _ es' b mes clock hp hd hf hb hl hk hv h4 h5 =>
  cases h
  exact .inr ⟨b,mes,clock,es',rfl,hb,⟨by simpa using hl,fun i hi => by rw [toL]; exact ⟨hk i hi,hv i hi⟩⟩,fun _ _ _ => lookL_perm hp hd⟩
 | map id B d hi =>
  simp only [mapAt] at h
  obtain ⟨o,h1,h2⟩:=hs.obj id B d hi
  rw [h1] at h
  cases o with
  | map es' =>
   cases h
   obtain ⟨mes,clock,g1,g0,g2,g3,g4,g5⟩:=h2
   exact .inr ⟨B,mes,clock,_,rfl,g1,⟨by simpa using g2,fun i hi => by rw [toL]; exact g3 i hi⟩,fun _ _ _ h => h⟩
  | _ => cases h
 | mapD id B hi => simp only [mapAt,hs.dead id hi] at h; cases h
 | _ => cases h
theorem lkp_sound {xt kt et : TypeId} {tag : Nat} {zero x k v : IV} {z : Value} {ok : Bool} {rx rk : Value} (hu : P.underlying xt=some (.map kt et)) (ht : keyT P kt=some tag)
  (hz : (zeroValue et).run P w=.ok z w) (hzv : VR ρ w zero z) (hs : Sim E ρ w σ) (h : lkpI σ tag zero ok x k=some v) (hx : VR ρ w x rx) (hkv : VR ρ w k rk) :
  ∃ r,(Instr.lookup xt rx rk ok).run P w=.ok r w∧VR ρ w v r:=by
 unfold lkpI at h
 cases hm : mapAt σ x with
 | none => rw [hm] at h; cases h
 | some es =>
  rw [hm] at h
  simp only at h
  cases hl : lookL tag k es with
  | none => rw [hl] at h; cases h
  | some r =>
   rw [hl] at h
   cases h
   have pair : ∀ (a : IV) (ra : Value) (b : Bool),VR ρ w a ra→VR ρ w (if ok then .tuple [a,.bool b] else a) (if ok then .tuple #[ra,.bool b] else ra):=by
    intro a ra b ha
    cases ok with
    | true =>
     refine .tuple _ _ rfl fun i hi => ?_
     match i,hi with
     | 0,_ => exact ha
     | 1,_ => exact .bool b
    | false => exact ha
   have hok:=look_kok hl
   have hck : ∀ b,(Instr.checkKey b 10000 kt rk).run P w=.ok () w:=fun b => checkKey_run ht hok hkv
   rcases map_read hs hm hx with ⟨rfl,rfl⟩ | ⟨b,mes,clock,es',rfl,hb,hes,hlp⟩
   ·have hf:=find_run ht hkv [] [] ⟨rfl,fun i hi => by simp at hi⟩ none (fun _ e he => by cases he) (fun j hj => by cases hj)
    have hr : r=none:=by
     simp only [lookL,hok] at hl
     cases hl; rfl
    subst hr
    exact ⟨_,by simp [Instr.lookup,run_underlying hu,hck,hf,hz],pair _ _ _ hzv⟩
   ·obtain ⟨q,g1,g2,g3⟩:=look_idx _ _ (hlp _ _ _ hl)
    have hf:=find_run ht hkv es' mes.toList hes q g1 g2
    have hg : (getObj b).run P w=.ok (.map mes clock) w:=by simp [getObj,Sem.run,hb]
    cases q with
    | none =>
     subst g3
     exact ⟨_,by simp [Instr.lookup,run_underlying hu,hg,hck,hf,hz],pair _ _ _ hzv⟩
    | some j =>
     subst g3
     have:=(hes.2 j (g2 j rfl).1).2
     exact ⟨_,by simp [Instr.lookup,run_underlying hu,hg,hck,hf],pair _ _ _ this⟩
/-! ### max,min of two numbers -/
def mmI (mx : Bool) : IV→IV→Option IV
 | .int k a,.int _ b => some (.int k (if mx then (if b > a then b else a) else (if b < a then b else a)))
 | _,_ => none
theorem max_sound {x y v : IV} {rx ry : Value} {ts : Array TypeId} {t : TypeId} (h : mmI true x y=some v) (hx : VR ρ w x rx) (hy : VR ρ w y ry) : ∃ r,(Builtin.max_ ts t #[rx,ry]).run P w=.ok r w∧VR ρ w v r:=by
 cases hx <;> simp only [mmI] at h <;> first | (cases h; done) | skip
 cases hy <;> simp only [mmI] at h <;> cases h
 exact ⟨_,by simp [Builtin.max_,Builtin.max2],.int _ _⟩
theorem min_sound {x y v : IV} {rx ry : Value} {ts : Array TypeId} {t : TypeId} (h : mmI false x y=some v) (hx : VR ρ w x rx) (hy : VR ρ w y ry) : ∃ r,(Builtin.min_ ts t #[rx,ry]).run P w=.ok r w∧VR ρ w v r:=by
 cases hx <;> simp only [mmI] at h <;> first | (cases h; done) | skip
 cases hy <;> simp only [mmI] at h <;> cases h
 exact ⟨_,by simp [Builtin.min_,Builtin.min2],.int _ _⟩
end Go.Id
/- The quiet operations compiled: one function on ideal values,and its proof against the model. Conditions: none; over any program. -/
namespace Go.Id
open Go
inductive IX where
 | t (n : Nat)
 | c (v : IV)
 | g (n : Nat)
 | f (n : Nat)
 deriving Inhabited
def IX.ev (E : Nat→IV) (fr : Frm) : IX→IV
 | .t n => fr.get n
 | .c v => v
 | .g n => E n
 | .f n => .func (.func n) [] []
inductive IQ where
 | mov (x : IX)
 | pick (c a b : IX)
 | not (x : IX)
 | neg (x : IX)
 | bin (op : BinOp) (x y : IX)
 | isnil (d : TypeDesc) (neg : Bool) (x : IX)
 | eqs (tags : List Nat) (agg neg : Bool) (x y : IX)
 | conv (k : IntKind) (x : IX)
 | strId (x : IX)
 | len (kind : Nat) (x : IX)
 | faddr (off : Nat) (x : IX)
 | fld (agg : Option Nat) (off : Nat) (x : IX)
 | iaddr (esz : Nat) (x i : IX)
 | aaddr (n esz : Nat) (x i : IX)
 | idx (agg : Option Nat) (n esz : Nat) (x i : IX)
 | istr (x i : IX)
 | slc (esz : Nat) (x : IX) (lo hi : Option IX)
 | sstr (x : IX) (lo hi : Option IX)
 | slz (x : IX)
 | ext (i : Nat) (x : IX)
 | mkf (fn : Nat) (first cap : List IX)
 | bld (zero : List IV) (parts : List (Nat × Nat × IX))
 | load (agg : Option Nat) (x : IX)
 | nchk (x : IX)
 | mm (mx : Bool) (x y : IX)
 | lkp (tag : Nat) (zero : IV) (ok : Bool) (x k : IX)
 | ibs (x c : IX)
 | ldt (agg : Option Nat) (x : IX)
 | clp (esz : Nat) (x lo hi mx : IX)
 deriving Inhabited
def rlpI (esz : Nat) (x hi : IV) : Option IV :=
 match natI hi with
 | some h => match x with
  | .slice did off len e => if e=esz∧h≤len∧0 < len then some (.rslice did off h len e) else none
  | .rslice did off len room e => if e=esz∧h≤room∧0 < room then some (.rslice did off h room e) else none
  | _ => none
 | none => none
def clpI (esz : Nat) (x lo hi mx : IV) : Option IV :=
 match natI lo,natI hi,natI mx with
 | some 0,some h,some m => if h=m then match x with
  | .nilslice => if h=0 then some .nilslice else none
  | .zslice => if h=0 then some .zslice else none
  | .slice did off len e => if e=esz∧h≤len then (if h=0 then some .zslice else some (.cslice did off h e)) else none
  | _ => none
  else none
 | _,_,_ => none
def lenK (kind : Nat) (σ : Store) (v : IV) : Option IV :=
 match kind,v with
 | 0,.nilslice | 0,.zslice | 0,.eslice | 0,.tslice _ | 0,.slice _ _ _ _ | 0,.cslice _ _ _ _ | 0,.rslice _ _ _ _ _ => lenI σ v
 | 1,.str _ => lenI σ v
 | 2,.nilmap | 2,.map _ => lenI σ v
 | _,_ => none
def pickI : IV→IV→IV→Option IV
 | .bool c,a,b => some (if c then a else b)
 | _,_,_ => none
def eqvI (tags : List Nat) (agg neg : Bool) (x y : IV) : Option IV :=
 match agg,x,y with
 | true,.agg xs,.agg ys => (allEq tags xs ys).map fun b => .bool (b ^^ neg)
 | false,.bool a,.bool b => (allEq tags [.bool a] [.bool b]).map fun b => .bool (b ^^ neg)
 | _,_,_ => none
theorem eqvI_false {tags : List Nat} {neg : Bool} {x y v : IV} (h : eqvI tags false neg x y=some v) :
  ∃ b1 b2 b,x=.bool b1∧y=.bool b2∧allEq tags [.bool b1] [.bool b2]=some b∧v=.bool (b ^^ neg):=by
 unfold eqvI at h
 split at h
 ·contradiction
 ·rename_i b1 b2 _
  cases hq : allEq tags [.bool b1] [.bool b2] with
  | none => rw [hq] at h; cases h
  | some b => rw [hq] at h; cases h; exact ⟨b1,b2,b,rfl,rfl,hq,rfl⟩
 ·cases h
theorem eqvI_true {tags : List Nat} {neg : Bool} {x y v : IV} (h : eqvI tags true neg x y=some v) : eqsI tags neg x y=some v:=by
 unfold eqvI at h
 split at h
 ·exact h
 ·contradiction
 ·cases h
def idxB (c : Nat) : List UInt8→Nat→Int
 | [],_ => -1
 | b :: l,i => if b.toNat=c then i else idxB c l (i+1)
def ibsI : IV→IV→Option IV
 | .str s,.int .u8 n => if 0≤n∧n < 256 then some (.int .i64 (idxB n.toNat s 0)) else none
 | _,_ => none
def ldtI (agg : Option Nat) (v : IV) : Option IV:=match v with
 | .tptr cs => loadI ⟨0,fun _ => none⟩ agg (.tptr cs)
 | _ => none
theorem ldt_load {agg : Option Nat} {v u : IV} (h : ldtI agg v=some u) (σ : Store) : loadI σ agg v=some u:=by
 unfold ldtI at h
 split at h
 ·exact h
 ·cases h
def evq (E : Nat→IV) (fr : Frm) (σ : Store) : IQ→Option IV
 | .mov x => some (x.ev E fr)
 | .pick c a b => pickI (c.ev E fr) (a.ev E fr) (b.ev E fr)
 | .not x => notI (x.ev E fr)
 | .neg x => negI (x.ev E fr)
 | .bin op x y => binV op (x.ev E fr) (y.ev E fr)
 | .isnil d neg x => (nilI d (x.ev E fr)).map fun b => .bool (b ^^ neg)
 | .eqs tags agg neg x y => eqvI tags agg neg (x.ev E fr) (y.ev E fr)
 | .conv k x => convI k (x.ev E fr)
 | .strId x => strIdI (x.ev E fr)
 | .len kind x => lenK kind σ (x.ev E fr)
 | .faddr off x => moveI off (x.ev E fr)
 | .fld agg off x => fldI agg off (x.ev E fr)
 | .iaddr esz x i => iaddrI esz (x.ev E fr) (i.ev E fr)
 | .aaddr n esz x i => aaddrI n esz (x.ev E fr) (i.ev E fr)
 | .idx agg n esz x i => idxI agg n esz (x.ev E fr) (i.ev E fr)
 | .istr x i => istrI (x.ev E fr) (i.ev E fr)
 | .slc esz x lo hi => slcI esz (lo.map (·.ev E fr)) (hi.map (·.ev E fr)) (x.ev E fr)
 | .sstr x lo hi => sstrI (lo.map (·.ev E fr)) (hi.map (·.ev E fr)) (x.ev E fr)
 | .slz x => slzI (x.ev E fr)
 | .ext i x => extI i (x.ev E fr)
 | .mkf fn first cap => some (.func (.func fn) (first.map (·.ev E fr)) (cap.map (·.ev E fr)))
 | .bld zero parts => (fillI zero (parts.map fun p => (p.1,p.2.1,p.2.2.ev E fr))).map .agg
 | .load agg x => loadI σ agg (x.ev E fr)
 | .nchk x => nchkI (x.ev E fr)
 | .mm mx x y => mmI mx (x.ev E fr) (y.ev E fr)
 | .lkp tag zero ok x k => lkpI σ tag zero ok (x.ev E fr) (k.ev E fr)
 | .ibs x c => ibsI (x.ev E fr) (c.ev E fr)
 | .ldt agg x => ldtI agg (x.ev E fr)
 | .clp esz x lo hi mx => clpI esz (x.ev E fr) (lo.ev E fr) (hi.ev E fr) (mx.ev E fr)
/-! ### Compiling -/
def cmpX : Operand→Option IX
 | .tmp t => some (.t t)
 | .const v => (cv v).map .c
 | .global g => some (.g g)
 | .func f => some (.f f)
def cmpXs : List Operand→Option (List IX)
 | [] => some []
 | x :: xs => match cmpX x,cmpXs xs with
  | some y,some ys => some (y :: ys)
  | _,_ => none
def cmpO : Option Operand→Option (Option IX)
 | none => some none
 | some x => (cmpX x).map some
def placeT (P : Program) (t : TypeId) (i : Nat) : Option (Nat × Nat) :=
 match P.underlying t with
 | some (.struct fs) => match fs[i]? with
  | some f => (szT P f.type).map fun n => (f.offset,n)
  | none => none
 | some (.array _ e) => (szT P e).map fun n => (i * n,n)
 | _ => none
def cmpParts (P : Program) (place : Nat→Option (Nat × Nat)) : List (Nat × Operand)→Option (List (Nat × Nat × IX))
 | [] => some []
 | (i,x) :: ps => match place i,cmpX x,cmpParts P place ps with
  | some (off,n),some y,some ys => some ((off,n,y) :: ys)
  | _,_,_ => none
def zeroT (P : Program) (t : TypeId) : Option (List IV) :=
 match P.info? t with
 | some i => match i.zero with
  | some z => cvs z
  | none => none
 | none => none
def zeroV (P : Program) (t : TypeId) : Option IV :=
 match P.info? t with
 | some i => match i.zero with
  | some z => cv z
  | none => none
 | none => none
def isNilC : Operand→TypeDesc→Bool
 | .const (.pointer none),.pointer _ => true
 | .const (.slice none 0 0),.slice _ => true
 | .const (.map none),.map _ _ => true
 | .const .nilFunc,.func _ _ _ => true
 | _,_ => false
def sized (P : Program) (t : TypeId) : Bool :=
 match P.underlying t with
 | some (.struct fs) => fs.toList.all fun f => (szT P f.type).isSome
 | some (.array _ e) => (szT P e).isSome
 | _ => false
def cmpBin (P : Program) (op : BinOp) (t : TypeId) (x y : Operand) : Option IQ :=
 match P.underlying t with
 | some (.int _) | some .string => match cmpX x,cmpX y with
  | some a,some b => some (.bin op a b)
  | _,_ => none
 | some .bool => match cmpX x,cmpX y,flatT P 30 t with
  | some a,some b,some tags => if op=.eql ∨ op=.neq then some (.eqs tags false (decide (op=.neq)) a b) else none
  | _,_,_ => none
 | some (.struct _) | some (.array _ _) => match cmpX x,cmpX y,flatT P 30 t,loadK P t with
  | some a,some b,some tags,some (some _) => if (op=.eql ∨ op=.neq)∧P.eqGuardType P.depth t=false then some (.eqs tags true (decide (op=.neq)) a b) else none
  | _,_,_,_ => none
 | some d => if (op=.eql ∨ op=.neq)∧isNilC y d=true then (cmpX x).map fun a => .isnil d (decide (op=.neq)) a else none
 | none => none
def ibsOK (P : Program) (f : FuncId) : Bool := (P.funcs[f]?).any fun fn => fn.name == "internal/bytealg.IndexByteString" && fn.body.isNone && fn.origin == ""
def cmpQ (P : Program) (op : Op) : Option IQ :=
 match op with
 | .move x | .assign x => (cmpX x).map .mov
 | .pick c a b => match cmpX c,cmpX a,cmpX b with
  | some c,some a,some b => some (.pick c a b)
  | _,_,_ => none
 | .unOp .not _ x => (cmpX x).map .not
 | .unOp .neg _ x => (cmpX x).map .neg
 | .binOp op t x y _ => cmpBin P op t x y
 | .convert s d x => match P.underlying s,P.underlying d with
  | some (.int _),some (.int k) => (cmpX x).map (.conv k)
  | some .string,some .string => (cmpX x).map .strId
  | _,_ => none
 | .call { callee:=.builtin .len,args,argTypes } => match args.toList,argTypes.toList with
  | [x],[t] => match P.underlying t with
   | some (.slice _) => (cmpX x).map (.len 0)
   | some .string => (cmpX x).map (.len 1)
   | some (.map _ _) => (cmpX x).map (.len 2)
   | _ => none
  | _,_ => none
 | .fieldAddr s x i => match P.underlying s with
  | some (.struct fs) => match fs[i]? with
   | some f => match szT P f.type with
    | some (_+1) => (cmpX x).map (.faddr f.offset)
    | _ => none
   | none => none
  | _ => none
 | .field s x i => match P.underlying s with
  | some (.struct fs) => match fs[i]? with
   | some f => match loadK P f.type with
    | some agg => (cmpX x).map (.fld agg f.offset)
    | none => none
   | none => none
  | _ => none
 | .indexAddr t x i => match P.underlying t with
  | some (.slice e) => match szT P e,cmpX x,cmpX i with
   | some n,some a,some b => some (.iaddr n a b)
   | _,_,_ => none
  | some (.array m e) => match szT P e,cmpX x,cmpX i with
   | some n,some a,some b => some (.aaddr m n a b)
   | _,_,_ => none
  | _ => none
 | .index t x i => match P.underlying t with
  | some .string => match cmpX x,cmpX i with
   | some a,some b => some (.istr a b)
   | _,_ => none
  | some (.array m e) => match szT P e,loadK P e,cmpX x,cmpX i with
   | some n,some agg,some a,some b => some (.idx agg m n a b)
   | _,_,_,_ => none
  | _ => none
 | .slice t x lo hi none => match P.underlying t with
  | some (.slice e) => match szT P e,cmpX x,cmpO lo,cmpO hi with
   | some n,some a,some l,some h => some (.slc n a l h)
   | _,_,_,_ => none
  | some .string => match cmpX x,cmpO lo,cmpO hi with
   | some a,some l,some h => some (.sstr a l h)
   | _,_,_ => none
  | _ => none
 | .slice t x none (some (.const (.int _ 0))) (some (.const (.int _ 0))) => match P.underlying t with
  | some (.slice e) => match szT P e,cmpX x with
   | some _,some a => some (.slz a)
   | _,_ => none
  | _ => none
 | .extract x i => (cmpX x).map (.ext i)
 | .makeFunc (.func fn) first cap => match cmpXs first.toList,cmpXs cap.toList with
  | some a,some b => some (.mkf fn a b)
  | _,_ => none
 | .build t parts => match zeroT P t,cmpParts P (placeT P t) parts.toList with
  | some z,some ps => if sized P t then some (.bld z ps) else none
  | _,_ => none
 | .load t x => match loadK P t,cmpX x with
  | some agg,some a => some (.load agg a)
  | _,_ => none
 | .nilCheck x => (cmpX x).map .nchk
 | .call { callee:=.builtin .max,args,argTypes:=_ } => match args.toList with
  | [x,y] => match cmpX x,cmpX y with
   | some a,some b => some (.mm true a b)
   | _,_ => none
  | _ => none
 | .call { callee:=.builtin .min,args,argTypes:=_ } => match args.toList with
  | [x,y] => match cmpX x,cmpX y with
   | some a,some b => some (.mm false a b)
   | _,_ => none
  | _ => none
 | .lookup xt x k ok => match P.underlying xt with
  | some (.map kt et) => match keyT P kt,zeroV P et,cmpX x,cmpX k with
   | some tag,some z,some a,some b => some (.lkp tag z ok a b)
   | _,_,_,_ => none
  | _ => none
 | .call { callee:=.value (.func f),args,argTypes:=_ } => if ibsOK P f then (match args.toList with
  | [x,y] => match cmpX x,cmpX y with
   | some a,some b => some (.ibs a b)
   | _,_ => none
  | _ => none) else none
 | _ => none
/-! ### The proof -/
variable {P : Program} {w : World} {ρ : Rho} {E : Nat→IV} {σ : Store} {N : Nat} {fr : Frm} {a : Act}
theorem cmpX_sound {x : Operand} {y : IX} (h : cmpX x=some y) (hs : Sim E ρ w σ) (hf : FR ρ w N fr a.tmps) : VR ρ w (y.ev E fr) (a.eval x):=by
 cases x with
 | tmp t => cases h; exact hf.get t
 | const v =>
  simp only [cmpX] at h
  cases hc : cv v with
  | none => rw [hc] at h; cases h
  | some z => rw [hc] at h; cases h; exact cv_sound hc
 | global g => cases h; exact hs.env g
 | func f =>
  cases h
  exact .func (.func f) [] [] #[] #[] (fun l h => by cases h) rfl rfl (fun i hi => by simp at hi) (fun i hi => by simp at hi)
theorem cmpXs_sound {xs : List Operand} {ys : List IX} (h : cmpXs xs=some ys) (hs : Sim E ρ w σ) (hf : FR ρ w N fr a.tmps) :
  CR ρ w (ys.map (·.ev E fr)) (xs.map a.eval).toArray:=by
 induction xs generalizing ys with
 | nil => cases h; exact ⟨rfl,fun i hi => by simp at hi⟩
 | cons x xs ih =>
  simp only [cmpXs] at h
  split at h
  ·rename_i y ys' h1 h2
   cases h
   obtain ⟨hl,hv⟩:=ih h2
   refine ⟨by simpa using hl,fun i hi => ?_⟩
   cases i with
   | zero => simpa using cmpX_sound h1 hs hf
   | succ i =>
    have:=hv i (by simpa using hi)
    simpa [Array.getD_eq_getD_getElem?] using this
  ·cases h
theorem cmpO_sound {x : Option Operand} {y : Option IX} (h : cmpO x=some y) (hs : Sim E ρ w σ) (hf : FR ρ w N fr a.tmps) : OVR ρ w (y.map (·.ev E fr)) (x.map a.eval):=by
 cases x with
 | none => cases h; trivial
 | some x =>
  simp only [cmpO] at h
  cases hc : cmpX x with
  | none => rw [hc] at h; cases h
  | some z => rw [hc] at h; cases h; exact cmpX_sound hc hs hf
theorem map_some {α β : Type} {o : Option α} {f : α→β} {b : β} (h : o.map f=some b) : ∃ x,o=some x∧f x=b:=by
 cases o with
 | none => cases h
 | some x => cases h; exact ⟨x,rfl,rfl⟩
end Go.Id
/- The quiet operations against the model: the one theorem. Conditions: none; over any program. -/
namespace Go.Id
open Go
variable {P : Program} {w : World} {ρ : Rho} {E : Nat→IV} {σ : Store} {N : Nat} {fr : Frm} {a : Act}
def Runs (P : Program) (ρ : Rho) (w : World) (a : Act) (op : Op) (v : IV) : Prop :=
 ∀ o : Oper,o.op=op→∃ r,(execOp a.eval o).run P w=.ok (.value r) w∧VR ρ w v r
theorem Runs.of {op : Op} {v : IV} {s : Sem Value} (hx : ∀ o : Oper,o.op=op→execOp a.eval o=(do pure (.value (← s)))) (h : ∃ r,s.run P w=.ok r w∧VR ρ w v r) : Runs P ρ w a op v:=by
 intro o ho
 obtain ⟨r,hr,hv⟩:=h
 exact ⟨r,by rw [hx o ho]; simp [hr],hv⟩
theorem bin_case {op : BinOp} {t yt : TypeId} {x y : Operand} {q : IQ} {v : IV} (h : cmpBin P op t x y=some q) (hv : evq E fr σ q=some v) (hs : Sim E ρ w σ) (hf : FR ρ w N fr a.tmps) :
  Runs P ρ w a (.binOp op t x y yt) v:=by
 refine Runs.of (s:=do eqGuard op t x y (a.eval x) (a.eval y); binOp op t (a.eval x) (a.eval y)) (fun o ho => by unfold execOp; rw [ho]) ?_
 unfold cmpBin at h
 cases hu : P.underlying t with
 | none => rw [hu] at h; cases h
 | some d =>
  rw [hu] at h
  have hnum : ∀ q',(match cmpX x,cmpX y with | some a,some b => some (IQ.bin op a b) | _,_ => none)=some q'→q'=q →
    ∃ r,(do eqGuard op t x y (a.eval x) (a.eval y); binOp op t (a.eval x) (a.eval y) : Sem Value).run P w=.ok r w∧VR ρ w v r:=by
   intro q' h1 h2
   subst h2
   split at h1
   ·rename_i xa xb ha hb
    cases h1
    exact bin_sound hv (cmpX_sound ha hs hf) (cmpX_sound hb hs hf)
   ·cases h1
  have hnil : ∀ rn,nilOf d=some rn→(isNilC y d=true→a.eval y=rn) →
    (if (op=.eql ∨ op=.neq)∧isNilC y d=true then (cmpX x).map (fun a => IQ.isnil d (decide (op=.neq)) a) else none)=some q →
    ∃ r,(do eqGuard op t x y (a.eval x) (a.eval y); binOp op t (a.eval x) (a.eval y) : Sem Value).run P w=.ok r w∧VR ρ w v r:=by
   intro rn hn hy h1
   split at h1
   ·rename_i hc
    obtain ⟨xa,ha,rfl⟩:=map_some h1
    simp only [evq] at hv
    obtain ⟨b,hb,rfl⟩:=map_some hv
    have:=nil_sound (P:=P) (op:=op) (x:=x) (y:=y) hu hn hc.1 hb (cmpX_sound (a:=a) ha hs hf)
    rw [hy hc.2]
    refine ⟨_,this,?_⟩
    rcases hc.1 with rfl | rfl
    ·simpa using VR.bool b
    ·simpa using VR.bool (!b)
   ·cases h1
  cases d with
  | int k => exact hnum q h rfl
  | string => exact hnum q h rfl
  | bool =>
   simp only at h
   split at h
   ·rename_i xa xb tags ha hb ht
    split at h
    ·rename_i hop
     cases h
     simp only [evq] at hv
     have va:=cmpX_sound ha hs hf
     have vb:=cmpX_sound hb hs hf
     obtain ⟨b1,b2,b,e1,e2,hq,rfl⟩:=eqvI_false hv
     rw [e1] at va
     rw [e2] at vb
     generalize a.eval x=ra at va ⊢
     generalize a.eval y=rb at vb ⊢
     have he:=flatT_sound 30 t tags ht ρ w (10000 - 30) _ _ _ _ b va vb (by
      rw [show loadK P t=some none from by simp [loadK,aggT,hu]]; exact ⟨fun _ h => IV.noConfusion h,fun _ h => IV.noConfusion h⟩) hq
     cases va; cases vb
     have he' : (Op.equal t (.bool b1) (.bool b2)).run P w=.ok b w:=he
     have hg : (eqGuard op t x y (.bool b1) (.bool b2)).run P w=.ok () w:=by
      unfold eqGuard; rcases hop with rfl | rfl <;> rfl
     rcases hop with rfl | rfl
     ·exact ⟨.bool b,by simp [hg,binOp,he'],by simpa using VR.bool b⟩
     ·exact ⟨.bool (!b),by simp [hg,binOp,he'],by simpa using VR.bool (!b)⟩
    ·cases h
   ·cases h
  | struct fs =>
   simp only at h
   split at h
   ·rename_i xa xb tags n ha hb ht hl
    split at h
    ·rename_i hop
     cases h
     simp only [evq] at hv
     exact eqs_sound (d:=30) (by omega) ht hl hop.2 hop.1 (eqvI_true hv) (cmpX_sound ha hs hf) (cmpX_sound hb hs hf)
    ·cases h
   ·cases h
  | array m e =>
   simp only at h
   split at h
   ·rename_i xa xb tags n ha hb ht hl
    split at h
    ·rename_i hop
     cases h
     simp only [evq] at hv
     exact eqs_sound (d:=30) (by omega) ht hl hop.2 hop.1 (eqvI_true hv) (cmpX_sound ha hs hf) (cmpX_sound hb hs hf)
    ·cases h
   ·cases h
  | pointer e => exact hnil (.pointer none) rfl (fun hc => by unfold isNilC at hc; split at hc <;> simp_all [Act.eval]) h
  | slice e => exact hnil (.slice none 0 0) rfl (fun hc => by unfold isNilC at hc; split at hc <;> simp_all [Act.eval]) h
  | map k e => exact hnil (.map none) rfl (fun hc => by unfold isNilC at hc; split at hc <;> simp_all [Act.eval]) h
  | func p r v' => exact hnil .nilFunc rfl (fun hc => by unfold isNilC at hc; split at hc <;> simp_all [Act.eval]) h
  | _ =>
   simp only at h
   split at h
   ·rename_i hc; have:=hc.2; unfold isNilC at this; split at this <;> simp_all
   ·cases h
theorem parts_sound {place : Nat→Option (Nat × Nat)} : ∀ (ps : List (Nat × Operand)) (ips : List (Nat × Nat × IX)),cmpParts P place ps=some ips→Sim E ρ w σ→FR ρ w N fr a.tmps →
  ips.length=ps.length∧∀ j,j < ips.length →
   place ((ps.map fun p => (p.1,a.eval p.2)).getD j (0,undef)).1=some (((ips.map fun p => (p.1,p.2.1,p.2.2.ev E fr)).getD j (0,0,.undef)).1,((ips.map fun p => (p.1,p.2.1,p.2.2.ev E fr)).getD j (0,0,.undef)).2.1) ∧
   VR ρ w ((ips.map fun p => (p.1,p.2.1,p.2.2.ev E fr)).getD j (0,0,.undef)).2.2 ((ps.map fun p => (p.1,a.eval p.2)).getD j (0,undef)).2:=by
 intro ps
 induction ps with
 | nil => intro ips h hs hf; cases h; exact ⟨rfl,fun j hj => by simp at hj⟩
 | cons p ps ih =>
  intro ips h hs hf
  obtain ⟨i,x⟩:=p
  simp only [cmpParts] at h
  split at h
  ·rename_i off n y ys h1 h2 h3
   cases h
   obtain ⟨hl,hv⟩:=ih ys h3 hs hf
   refine ⟨by simpa using hl,fun j hj => ?_⟩
   cases j with
   | zero => exact ⟨by simpa using h1,by simpa using cmpX_sound h2 hs hf⟩
   | succ j => simpa using hv j (by simpa using hj)
  ·cases h
theorem zeroT_sound {t : TypeId} {z : List IV} (h : zeroT P t=some z) : ∃ zr,(zeroValue t).run P w=.ok zr w∧CR ρ w z zr.cells:=by
 unfold zeroT at h
 cases hi : P.info? t with
 | none => rw [hi] at h; cases h
 | some i =>
  rw [hi] at h
  simp only at h
  cases hz : i.zero with
  | none => rw [hz] at h; cases h
  | some zr =>
   rw [hz] at h
   exact ⟨zr,by simp [zeroValue,typeInfo,hi,hz],cvs_sound h⟩
def fieldPl (P : Program) (f : Field) : Option (Nat × Nat):=(szT P f.type).map fun n => (f.offset,n)
theorem mapM_placesL : ∀ l : List Field,l.all (fun f => (szT P f.type).isSome)=true→∃ ps : List (Nat × Nat),(l.mapM (fun f => do pure (f.offset,← sizeOf f.type) : Field→Sem (Nat × Nat))).run P w=.ok ps w ∧
  ∀ i : Nat,ps[i]? = (l[i]?).bind (fieldPl P):=by
 intro l
 induction l with
 | nil => intro _; exact ⟨[],by simp,fun i => by simp⟩
 | cons f l ih =>
  intro h
  simp only [List.all_cons,Bool.and_eq_true] at h
  obtain ⟨n,hn⟩:=Option.isSome_iff_exists.1 h.1
  obtain ⟨ps,h1,h2⟩:=ih h.2
  refine ⟨(f.offset,n) :: ps,by rw [List.mapM_cons]; simp only [Sem.run_bind,run_sizeOf hn,Result.andThen_ok,Sem.run_pure,h1],fun i => ?_⟩
  cases i with
  | zero => simp [fieldPl,hn]
  | succ i => simpa using h2 i
theorem mapM_places {fs : Array Field} (h : fs.toList.all (fun f => (szT P f.type).isSome)=true) :
  ∃ ps : Array (Nat × Nat),(fs.mapM (fun f => do pure (f.offset,← sizeOf f.type) : Field→Sem (Nat × Nat))).run P w=.ok ps w ∧
   ∀ i : Nat,ps[i]? = (fs[i]?).bind (fieldPl P):=by
 obtain ⟨l⟩:=fs
 obtain ⟨ps,h1,h2⟩:=mapM_placesL (w:=w) l h
 exact ⟨ps.toArray,by rw [List.mapM_toArray,Sem.run_map,h1]; rfl,fun i => by simpa using h2 i⟩
theorem bld_case {t : TypeId} {parts : Array (Nat × Operand)} {z : List IV} {ps : List (Nat × Nat × IX)} {v : IV} (hz : zeroT P t=some z) (hp : cmpParts P (placeT P t) parts.toList=some ps) (hsz : sized P t=true)
  (hv : evq E fr σ (.bld z ps)=some v) (hs : Sim E ρ w σ) (hf : FR ρ w N fr a.tmps) : Runs P ρ w a (.build t parts) v:=by
 refine Runs.of (s:=Instr.build t (parts.map fun (i,x) => (i,a.eval x))) (fun o ho => by unfold execOp; rw [ho]) ?_
 simp only [evq] at hv
 obtain ⟨out,hfill,rfl⟩:=map_some hv
 obtain ⟨zr,hzr,hcr⟩:=zeroT_sound (w:=w) (ρ:=ρ) hz
 obtain ⟨hl,hpl⟩:=parts_sound parts.toList ps hp hs hf
 obtain ⟨rout,hr,ho⟩:=fill_sound (place:=placeT P t) _ (parts.toList.map fun p => (p.1,a.eval p.2)) z out zr.cells hcr (by simp [hl]) (fun j hj => hpl j (by simpa using hj)) hfill
 have hpt : (parts.map fun (i,x) => (i,a.eval x)).toList=parts.toList.map fun p => (p.1,a.eval p.2):=by simp
 refine ⟨.agg rout,?_,.agg _ _ ho.1 ho.2⟩
 unfold sized at hsz
 cases hu : P.underlying t with
 | none => rw [hu] at hsz; cases hsz
 | some d =>
  rw [hu] at hsz
  cases d with
  | struct fs =>
   obtain ⟨places,hm,hpl'⟩:=mapM_places (P:=P) (w:=w) hsz
   have e : (fun i => places[i]?)=placeT P t:=by funext i; rw [hpl' i]; simp only [placeT,hu]; cases fs[i]? <;> rfl
   have hr' : Instr.fill (fun i => places[i]?) zr.cells ((parts.map fun (i,x) => (i,a.eval x)).toList)=some rout:=by rw [hpt,e]; exact hr
   simp only [Instr.build,Sem.run_bind,hzr,Result.andThen_ok,run_underlying hu,hm,hr']
   rfl
  | array n el =>
   obtain ⟨m,hm⟩:=Option.isSome_iff_exists.1 hsz
   have e : (fun i => some (i * m,m))=placeT P t:=by funext i; simp [placeT,hu,hm]
   have hr' : Instr.fill (fun i => some (i * m,m)) zr.cells ((parts.map fun (i,x) => (i,a.eval x)).toList)=some rout:=by rw [hpt,e]; exact hr
   simp only [Instr.build,Sem.run_bind,hzr,Result.andThen_ok,run_underlying hu,run_sizeOf hm,hr']
   rfl
  | _ => cases hsz
theorem lenK_sound {op : Op} {t : TypeId} {x : Operand} {y : IX} {kind : Nat} {v : IV} {args : Array Operand} {argTypes : Array TypeId} (hop : op=.call { callee:=.builtin .len,args,argTypes }) (ha : args.toList=[x]) (ht : argTypes.toList=[t])
  (hk : match P.underlying t with | some (.slice _) => kind=0 | some .string => kind=1 | some (.map _ _) => kind=2 | _ => False) (hx : cmpX x=some y)
  (hv : evq E fr σ (.len kind y)=some v) (hs : Sim E ρ w σ) (hf : FR ρ w N fr a.tmps) : Runs P ρ w a op v:=by
 subst hop
 obtain ⟨al⟩:=args
 obtain ⟨tl⟩:=argTypes
 simp only at ha ht
 subst ha; subst ht
 refine fun o ho => ?_
 simp only [evq] at hv
 have key : ∃ r,(Builtin.len_ #[t] o.type #[a.eval x]).run P w=.ok r w∧VR ρ w v r:=by
  have hl : lenI σ (y.ev E fr)=some v:=by unfold lenK at hv; split at hv <;> first | exact hv | cases hv
  refine len_sound hs ?_ ?_ hl (cmpX_sound hx hs hf)
  ·unfold lenT
   cases hu : P.underlying t with
   | none => rw [hu] at hk; exact hk.elim
   | some d => rw [hu] at hk; cases d <;> first | rfl | exact hk.elim
  ·intro u hu
   rw [hu] at hk
   unfold lenK at hv
   cases u <;> simp only at hk <;> first | exact hk.elim | (subst hk; split at hv <;> simp_all)
 obtain ⟨r,hr,hvr⟩:=key
 refine ⟨r,?_,hvr⟩
 unfold execOp
 rw [ho]
 simp [resolve,invoke,builtin,hr]
theorem faddr_case {s : TypeId} {x : Operand} {y : IX} {i m : Nat} {fs : Array Field} {f : Field} {v : IV} (hu : P.underlying s=some (.struct fs)) (hfi : fs[i]? = some f) (hz : szT P f.type=some (m+1))
  (hx : cmpX x=some y) (hv : evq E fr σ (.faddr f.offset y)=some v) (hs : Sim E ρ w σ) (hf : FR ρ w N fr a.tmps) : Runs P ρ w a (.fieldAddr s x i) v:=by
 refine Runs.of (s:=Instr.fieldAt s (a.eval x) i) (fun o ho => by unfold execOp; rw [ho]) ?_
 simp only [evq] at hv
 obtain ⟨ad,hr,hvr⟩:=move_sound hv (cmpX_sound hx hs hf)
 rw [hr]
 exact ⟨_,fieldAt_run hu hfi hz,hvr⟩
theorem zeroV_sound {t : TypeId} {x : IV} (h : zeroV P t=some x) : ∃ z,(zeroValue t).run P w=.ok z w∧VR ρ w x z:=by
 unfold zeroV at h
 cases hi : P.info? t with
 | none => rw [hi] at h; cases h
 | some i =>
  rw [hi] at h
  simp only at h
  cases hz : i.zero with
  | none => rw [hz] at h; cases h
  | some z => rw [hz] at h; exact ⟨z,by simp [zeroValue,typeInfo,hi,hz],cv_sound h⟩
theorem find_ibs : Extern.allRows.lookup "internal/bytealg.IndexByteString" = some Extern.BytealgIndexByte.indexByte := by kernel_rfl
theorem find_ibsT : Extern.allTypedRows.lookup "internal/bytealg.IndexByteString" = none := by kernel_rfl
theorem find_ibsG : Extern.allGenericRows.lookup "internal/bytealg.IndexByteString" = none := by kernel_rfl
theorem find_ibsN : Extern.allNextRows.lookup "internal/bytealg.IndexByteString" = none := by kernel_rfl
theorem find_ibsN0 : Extern.allNextRows.lookup "" = none := by kernel_rfl
theorem idxB_eq (c : UInt8) : ∀ (l : List UInt8) (i : Nat),idxB c.toNat l i=if Lib.indexByte l c=-1 then -1 else Lib.indexByte l c+i:=by
 intro l
 induction l with
 | nil => intro i; rfl
 | cons b l ih =>
  intro i
  have hge:=Lib.indexByte_ge l c
  simp only [idxB,Lib.indexByte,ih]
  by_cases h : b=c
  ·subst h; simp
  ·have h1 : ¬ b.toNat=c.toNat:=fun e => h (UInt8.toNat_inj.1 e)
   have h2 : (b == c)=false:=by simpa using h
   simp only [h1,if_false,h2,Bool.false_eq_true]
   by_cases h3 : Lib.indexByte l c=-1
   ·simp [h3]
   ·have h4 : (Lib.indexByte l c == -1)=false:=by simpa using h3
    have h5 : ¬ Lib.indexByte l c+1=-1:=by omega
    simp only [h3,h4,h5,if_false,Bool.false_eq_true]
    omega
theorem ibs_case {f : FuncId} {x y : Operand} {argTypes : Array TypeId} {xa ya : IX} {v : IV} (hok : ibsOK P f=true) (hx : cmpX x=some xa) (hy : cmpX y=some ya) (hv : ibsI (xa.ev E fr) (ya.ev E fr)=some v) (hs : Sim E ρ w σ) (hf : FR ρ w N fr a.tmps) :
  Runs P ρ w a (.call { callee:=.value (.func f),args:=#[x,y],argTypes }) v:=by
 have vx:=cmpX_sound (a:=a) hx hs hf
 have vy:=cmpX_sound (a:=a) hy hs hf
 generalize xa.ev E fr=ax at vx hv
 generalize ya.ev E fr=ay at vy hv
 unfold ibsI at hv
 split at hv
 ·rename_i s n
  split at hv
  ·rename_i hn
   cases hv
   generalize hrx : a.eval x=rx at vx
   generalize hry : a.eval y=ry at vy
   cases vx
   cases vy
   intro o ho
   unfold ibsOK at hok
   cases hfn : P.funcs[f]? with
   | none => rw [hfn] at hok; cases hok
   | some fn =>
    rw [hfn] at hok
    simp only [Option.any_some,Bool.and_eq_true,beq_iff_eq] at hok
    obtain ⟨⟨h1,h2⟩,h3⟩:=hok
    refine ⟨.int .i64 (idxB n.toNat s 0),?_,.int _ _⟩
    have hres : (resolve a.eval { callee:=.value (.func f),args:=#[x,y],argTypes } o.type).run P w=.ok { target:=.fn (.func f) #[],args:=#[.string ⟨s.toArray⟩,.int .u8 n] } w:=by
     simp [resolve,Act.eval,Deferred.ofValue] at hrx hry ⊢
     simp [hrx,hry]
    have hfind : Extern.find fn=some Extern.BytealgIndexByte.indexByte:=by
     unfold Extern.find
     simp only [h1,h3,find_ibs,find_ibsT,find_ibsG]
     rfl
    have hfn2 : Extern.findNext fn=none:=by
     unfold Extern.findNext
     simp only [h1,h3,find_ibsN,find_ibsN0]
     rfl
    have hinv : (invoke (.fn (.func f) #[]) #[.string ⟨s.toArray⟩,.int .u8 n]).run P w=.ok (.value (.int .i64 (idxB n.toNat s 0))) w:=by
     have hb : fn.body=none:=by simpa using h2
     have hnm : ¬ fn.name = "runtime.NumGoroutine" := by rw [h1]; decide
     have hr:=Lib.run_indexByteString (P:=P) ⟨s.toArray⟩ n w
     have hc : (n.toNat.toUInt8).toNat=n.toNat:=by
      have : n.toNat < 256:=by omega
      simp [Nat.mod_eq_of_lt this]
     have hid:=idxB_eq n.toNat.toUInt8 s 0
     rw [hc] at hid
     have hge:=Lib.indexByte_ge s n.toNat.toUInt8
     have hidx : idxB n.toNat s 0=Lib.indexByte s n.toNat.toUInt8:=by
      rw [hid]
      split
      ·rename_i h; rw [h]
      ·simp
     simp only [invoke,Array.append_empty]
     simp only [callFunc]
     simp only [Sem.run_bind,program,Sem.run,Result.andThen_ok,hfn,h1]
     simp [hb,hfind,hfn2,mark,Sem.run,Sem.run_bind,hr,hidx]
    unfold execOp
    rw [ho]
    simp only [Sem.run_bind,hres,Result.andThen_ok,hinv]
  ·cases hv
 ·cases hv
theorem q_sound {op : Op} {q : IQ} {v : IV} (h : cmpQ P op=some q) (hv : evq E fr σ q=some v) (hs : Sim E ρ w σ) (hf : FR ρ w N fr a.tmps) : Runs P ρ w a op v:=by
 unfold cmpQ at h
 split at h
 ·obtain ⟨y,hy,rfl⟩:=map_some h
  cases hv
  exact Runs.of (s:=pure _) (fun o ho => by unfold execOp; rw [ho]; rfl) ⟨_,rfl,cmpX_sound hy hs hf⟩
 ·obtain ⟨y,hy,rfl⟩:=map_some h
  cases hv
  exact Runs.of (s:=pure _) (fun o ho => by unfold execOp; rw [ho]; rfl) ⟨_,rfl,cmpX_sound hy hs hf⟩
 ·rename_i c x y
  split at h
  ·rename_i c' x' y' hc hx hy
   cases h
   have vc:=cmpX_sound hc hs hf
   have vx:=cmpX_sound hx hs hf
   have vy:=cmpX_sound hy hs hf
   simp only [evq] at hv
   generalize c'.ev E fr=ic at vc hv
   unfold pickI at hv
   split at hv
   ·cases hv
    generalize hrc : a.eval c=rc at vc
    cases vc
    rename_i b
    refine fun o ho => ⟨if b then a.eval x else a.eval y,?_,?_⟩
    ·unfold execOp
     rw [ho]
     simp [hrc,asBool]
    ·cases b
     ·exact vy
     ·exact vx
   ·cases hv
  ·cases h
 ·obtain ⟨y,hy,rfl⟩:=map_some h
  exact Runs.of (s:=Op.unary .not _) (fun o ho => by unfold execOp; rw [ho]) (not_sound hv (cmpX_sound hy hs hf))
 ·obtain ⟨y,hy,rfl⟩:=map_some h
  exact Runs.of (s:=Op.unary .neg _) (fun o ho => by unfold execOp; rw [ho]) (neg_sound hv (cmpX_sound hy hs hf))
 ·exact bin_case h hv hs hf
 ·split at h
  ·rename_i k1 k2 h1 h2
   obtain ⟨y,hy,rfl⟩:=map_some h
   exact Runs.of (s:=convert _ _ _) (fun o ho => by unfold execOp; rw [ho]) (conv_sound h1 h2 hv (cmpX_sound hy hs hf))
  ·rename_i h1 h2
   obtain ⟨y,hy,rfl⟩:=map_some h
   exact Runs.of (s:=convert _ _ _) (fun o ho => by unfold execOp; rw [ho]) (strId_sound h1 h2 hv (cmpX_sound hy hs hf))
  ·cases h
 ·split at h
  ·rename_i args argTypes x t h1 h2
   split at h
   ·rename_i e hu
    obtain ⟨y,hy,rfl⟩:=map_some h
    exact lenK_sound rfl h1 h2 (by rw [hu]) hy hv hs hf
   ·rename_i hu
    obtain ⟨y,hy,rfl⟩:=map_some h
    exact lenK_sound rfl h1 h2 (by rw [hu]) hy hv hs hf
   ·rename_i k e hu
    obtain ⟨y,hy,rfl⟩:=map_some h
    exact lenK_sound rfl h1 h2 (by rw [hu]) hy hv hs hf
   ·cases h
  ·cases h
 ·split at h
  ·rename_i fs hu
   split at h
   ·rename_i f hfi
    split at h
    ·rename_i m hz
     obtain ⟨y,hy,rfl⟩:=map_some h
     exact faddr_case hu hfi hz hy hv hs hf
    ·cases h
   ·cases h
  ·cases h
 ·split at h
  ·rename_i fs hu
   split at h
   ·rename_i f hfi
    split at h
    ·rename_i agg hk
     obtain ⟨y,hy,rfl⟩:=map_some h
     exact Runs.of (s:=Instr.field _ _ _) (fun o ho => by unfold execOp; rw [ho]) (fld_sound hu hfi hk hv (cmpX_sound hy hs hf))
    ·cases h
   ·cases h
  ·cases h
 ·split at h
  ·rename_i e hu
   split at h
   ·rename_i n xa xb hz hx hi
    cases h
    exact Runs.of (s:=Instr.indexAt _ _ _) (fun o ho => by unfold execOp; rw [ho]) (iaddr_sound hu hz hv (cmpX_sound hx hs hf) (cmpX_sound hi hs hf))
   ·cases h
  ·rename_i m e hu
   split at h
   ·rename_i n xa xb hz hx hi
    cases h
    exact Runs.of (s:=Instr.indexAt _ _ _) (fun o ho => by unfold execOp; rw [ho]) (aaddr_sound hu hz hv (cmpX_sound hx hs hf) (cmpX_sound hi hs hf))
   ·cases h
  ·cases h
 ·split at h
  ·rename_i hu
   split at h
   ·rename_i xa xb hx hi
    cases h
    exact Runs.of (s:=Instr.index _ _ _) (fun o ho => by unfold execOp; rw [ho]) (istr_sound hu hv (cmpX_sound hx hs hf) (cmpX_sound hi hs hf))
   ·cases h
  ·rename_i m e hu
   split at h
   ·rename_i n agg xa xb hz hk hx hi
    cases h
    exact Runs.of (s:=Instr.index _ _ _) (fun o ho => by unfold execOp; rw [ho]) (idx_sound hu hz hk hv (cmpX_sound hx hs hf) (cmpX_sound hi hs hf))
   ·cases h
  ·cases h
 ·split at h
  ·rename_i e hu
   split at h
   ·rename_i n xa l hh hz hx hl hhi
    cases h
    exact Runs.of (s:=Instr.sliceAt _ _ _ _ none) (fun o ho => by unfold execOp; rw [ho]; rfl) (slc_sound hu hz hv (cmpX_sound hx hs hf) (cmpO_sound hl hs hf) (cmpO_sound hhi hs hf))
   ·cases h
  ·rename_i hu
   split at h
   ·rename_i xa l hh hx hl hhi
    cases h
    exact Runs.of (s:=Instr.sliceAt _ _ _ _ none) (fun o ho => by unfold execOp; rw [ho]; rfl) (sstr_sound hu hv (cmpX_sound hx hs hf) (cmpO_sound hl hs hf) (cmpO_sound hhi hs hf))
   ·cases h
  ·cases h
 ·split at h
  ·rename_i e hu
   split at h
   ·rename_i n xa hz hx
    cases h
    exact Runs.of (s:=Instr.sliceAt _ _ none _ _) (fun o ho => by unfold execOp; rw [ho]; rfl) (slz_sound hu hz hv (cmpX_sound hx hs hf))
   ·cases h
  ·cases h
 ·obtain ⟨y,hy,rfl⟩:=map_some h
  exact Runs.of (s:=Instr.extract _ _) (fun o ho => by unfold execOp; rw [ho]) (ext_sound hv (cmpX_sound hy hs hf))
 ·rename_i fn first cap
  split at h
  ·rename_i ia ib h1 h2
   cases h
   cases hv
   obtain ⟨l1,v1⟩:=cmpXs_sound (a:=a) h1 hs hf
   obtain ⟨l2,v2⟩:=cmpXs_sound (a:=a) h2 hs hf
   refine Runs.of (s:=Instr.makeFunc _ _ _) (fun o ho => by unfold execOp; rw [ho]) ⟨_,rfl,?_⟩
   have e1 : first.map a.eval=(first.toList.map a.eval).toArray:=by cases first; rw [List.map_toArray]
   have e2 : cap.map a.eval=(cap.toList.map a.eval).toArray:=by cases cap; rw [List.map_toArray]
   rw [e1,e2]
   exact .func _ _ _ _ _ (fun l h => by cases h) l1 l2 v1 v2
  ·cases h
 ·split at h
  ·rename_i z ps hz hp
   split at h
   ·rename_i hsz
    cases h
    exact bld_case hz hp hsz hv hs hf
   ·cases h
  ·cases h
 ·split at h
  ·rename_i agg xa hk hx
   cases h
   exact Runs.of (s:=Instr.loadAt _ _) (fun o ho => by unfold execOp; rw [ho]) (load_sound hs hk hv (cmpX_sound hx hs hf))
  ·cases h
 ·obtain ⟨y,hy,rfl⟩:=map_some h
  exact fun o ho => nchk_sound ho hv (cmpX_sound hy hs hf)
 ·rename_i args argTypes
  split at h
  ·rename_i x y ha
   split at h
   ·rename_i xa ya hx hy
    cases h
    obtain ⟨al⟩:=args
    simp only at ha
    subst ha
    intro o ho
    obtain ⟨r,hr,hv'⟩:=max_sound (P:=P) (w:=w) (ts:=argTypes) (t:=o.type) hv (cmpX_sound hx hs hf) (cmpX_sound hy hs hf)
    refine ⟨r,?_,hv'⟩
    unfold execOp
    rw [ho]
    simp [resolve,invoke,builtin,hr]
   ·cases h
  ·cases h
 ·rename_i args argTypes
  split at h
  ·rename_i x y ha
   split at h
   ·rename_i xa ya hx hy
    cases h
    obtain ⟨al⟩:=args
    simp only at ha
    subst ha
    intro o ho
    obtain ⟨r,hr,hv'⟩:=min_sound (P:=P) (w:=w) (ts:=argTypes) (t:=o.type) hv (cmpX_sound hx hs hf) (cmpX_sound hy hs hf)
    refine ⟨r,?_,hv'⟩
    unfold execOp
    rw [ho]
    simp [resolve,invoke,builtin,hr]
   ·cases h
  ·cases h
 ·rename_i xt x k ok
  split at h
  ·rename_i kt et hu
   split at h
   ·rename_i tag zi xa xb ht hz hx hk
    cases h
    obtain ⟨z,hz1,hz2⟩:=zeroV_sound (ρ:=ρ) (w:=w) hz
    exact Runs.of (s:=Instr.lookup _ _ _ _) (fun o ho => by unfold execOp; rw [ho]) (lkp_sound hu ht hz1 hz2 hs hv (cmpX_sound hx hs hf) (cmpX_sound hk hs hf))
   ·cases h
  ·cases h
 ·rename_i f args argTypes
  split at h
  ·rename_i hok
   split at h
   ·rename_i x y ha
    split at h
    ·rename_i xa ya hx hy
     cases h
     obtain ⟨al⟩:=args
     simp only at ha
     subst ha
     exact ibs_case hok hx hy hv hs hf
    ·cases h
   ·cases h
  ·cases h
 ·cases h
end Go.Id
