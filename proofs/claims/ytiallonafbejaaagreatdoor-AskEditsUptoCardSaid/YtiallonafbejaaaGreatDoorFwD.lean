/- Steps that change the world: a new block,cells written,a slice appended to. Conditions: none; over any program. -/
import Derived.Test.YtiallonafbejaaaGreatDoorFwA
import Derived.RangeFuncRecord
set_option linter.all false
namespace Go.Id
open Go
variable {P : Program} {w w' : World} {ρ ρ' : Rho} {E : Nat→IV} {σ : Store} {N : Nat} {fr : Frm} {a : Act}
def Store.put (σ : Store) (id : Nat) (o : IObj) : Store:={ σ with obj:=fun i => if i=id then some o else σ.obj i }
def Store.kill (σ : Store) (id : Nat) : Store:={ σ with obj:=fun i => if i=id then none else σ.obj i }
def Rho.put (ρ : Rho) (id : Nat) (r : RRef) : Rho:=⟨fun i => if i=id then r else ρ i,ρ.X⟩
theorem put_app (ρ : Rho) (id : Nat) (r : RRef) (i : Nat) : (ρ.put id r) i=if i=id then r else ρ i:=rfl
def NoBut (id : Nat) (ρ ρ' : Rho) : Prop:=∀ i,i≠id→ρ i=.no→ρ' i=.no
theorem NoBut.refl (id : Nat) (ρ : Rho) : NoBut id ρ ρ:=fun _ _ h => h
theorem NoBut.put (id : Nat) (ρ : Rho) (r : RRef) : NoBut id ρ (ρ.put id r):=fun i hi h => by simp [Rho.put,hi,h]
theorem NoBut.kill {id did B d : Nat} {ρ : Rho} (hd : ρ did=.at B d) (r : RRef) : NoBut id ρ (ρ.put did r):=fun i _ h => by
 have : i≠did:=fun e => by subst e; rw [hd] at h; cases h
 simp [Rho.put,this,h]
theorem NoBut.trans {id : Nat} {ρ ρ' ρ'' : Rho} (h : NoBut id ρ ρ') (h' : NoBut id ρ' ρ'') : NoBut id ρ ρ'':=fun i hi h0 => h' i hi (h i hi h0)
theorem OR.mono {n : Nat} {B d : Nat} {o : IObj} (hx : Ext n ρ w ρ' w') (hb : w'.heap[B]? = w.heap[B]?) (h : OR ρ w B d o) : OR ρ' w' B d o:=by
 have key : ∀ cs,CellsOR ρ w B d cs→CellsOR ρ' w' B d cs:=fun cs ⟨rcs,el,h1,h2,h3⟩ => ⟨rcs,el,by rw [hb]; exact h1,h2,fun i hi => (h3 i hi).mono hx⟩
 cases o with
 | cells cs => exact key cs h
 | row cs => exact key cs h
 | map es =>
  obtain ⟨mes,clock,h1,h0,h2,h3,h4,h5⟩:=h
  exact ⟨mes,clock,by rw [hb]; exact h1,h0,h2,fun i hi => ⟨(h3 i hi).1.mono hx,(h3 i hi).2.mono hx⟩,h4,h5⟩
 | siter s pos => exact ⟨by rw [hb]; exact h.1,h.2⟩
 | loop N tmps params assign body st pend =>
  obtain ⟨hd,l,h1,h2,h3,h4,h5,h6,h7,h8⟩:=h
  exact ⟨hd,l,by rw [hb]; exact h1,h2,h3,h4,h5,h6,h7,fun t => (h8 t).mono hx⟩
 | miter left cur =>
  obtain ⟨hd,mb,last,seen,mes,clock,lft,h1,h2,h3,h4,h5,h6,h7,h8,hc,h9⟩:=h
  exact ⟨hd,mb,last,seen,mes,clock,lft,by rw [hb]; exact h1,hx.fb h2,by rw [hx.keep mb h2.ub]; exact h3,h4,h5,h6,h7,h8,fun c e => let ⟨i,g1,g2,g3,g4⟩:=hc c e; ⟨i,g1,g2,g3.mono hx,g4.mono hx⟩,fun i hi => ⟨(h9 i hi).1.mono hx,(h9 i hi).2.mono hx⟩⟩
/-! ### A new block -/
theorem alloc_get (w : World) (o : Obj) (b : Nat) (hb : b < w.heap.size) : (w.alloc o).heap[b]? = w.heap[b]?:=by
 show (w.heap.push o)[b]? = w.heap[b]?
 simp [Array.getElem?_push,Nat.ne_of_lt hb]
theorem ext_alloc {n id d : Nat} {o : Obj} (hno : ρ id=.no) (hn : n≤id) : Ext n ρ w (ρ.put id (.at w.heap.size d)) (w.alloc o) where
 size:=by show w.heap.size≤(w.heap.push o).size; simp
 keep:=fun b hb => alloc_get w o b hb.1
 shape:=fun b rcs el fz hb => ⟨rcs,by rw [alloc_get w o b (Array.getElem?_eq_some_iff.1 hb).1]; exact hb,rfl⟩
 img:=fun i B d' hi => by
  rw [put_app] at hi
  split at hi
  ·cases hi; exact .inr (Nat.le_refl _)
  ·exact .inl ⟨i,d',hi⟩
 at_:=fun i B d' hi => by
  rw [put_app]
  split
  ·rename_i h; subst h; rw [hno] at hi; cases hi
  ·exact .inl hi
 dead:=fun i hi => by
  rw [put_app]
  split
  ·rename_i h; subst h; rw [hno] at hi; cases hi
  ·exact hi
 no:=fun i hi h0 => by
  rw [put_app]
  split
  ·rename_i h; omega
  ·exact h0
 output:=rfl
 os:=rfl
 tape:=rfl
 loops:=fun l L hl => ⟨L,by rw [alloc_get w o l (Array.getElem?_eq_some_iff.1 hl).1]; exact hl⟩
 X:=rfl
theorem sim_new {id d : Nat} {ro : Obj} {o : IObj} (hs : Sim E ρ w σ) (hno : ρ id=.no) (hlt : id < σ.next)
  (ho : OR (ρ.put id (.at w.heap.size d)) (w.alloc ro) w.heap.size d o) : Sim E (ρ.put id (.at w.heap.size d)) (w.alloc ro) (σ.put id o) where
 inj:=fun i j B d1 d2 hi hj => by
  rw [put_app] at hi hj
  split at hi <;> split at hj
  ·rename_i h1 h2; rw [h1,h2]
  ·cases hi; have:=hs.lt j _ _ hj; omega
  ·cases hj; have:=hs.lt i _ _ hi; omega
  ·exact hs.inj i j B d1 d2 hi hj
 lt:=fun i B d1 hi => by
  rw [put_app] at hi
  show B < (w.heap.push ro).size
  rw [Array.size_push]
  split at hi
  ·cases hi; omega
  ·have:=hs.lt i _ _ hi; omega
 obj:=fun i B d1 hi => by
  rw [put_app] at hi
  simp only [Store.put]
  split at hi
  ·rename_i h; cases hi; exact ⟨o,by simp [h],ho⟩
  ·rename_i h
   obtain ⟨o',h1,h2⟩:=hs.obj i B d1 hi
   exact ⟨o',by simp [h,h1],h2.mono (ext_alloc (n:=0) hno (Nat.zero_le _)) (alloc_get w ro B (hs.lt i B d1 hi))⟩
 dead:=fun i hi => by
  rw [put_app] at hi
  simp only [Store.put]
  split at hi
  ·cases hi
  ·rename_i h; simp [h,hs.dead i hi]
 fresh:=fun i hi => by
  have : i≠id:=by have : σ.next≤i:=hi; omega
  simp [Rho.put,this,hs.fresh i hi]
 noObj:=fun i hi => by
  rw [put_app] at hi
  split at hi
  ·cases hi
  ·rename_i h; simp [Store.put,h,hs.noObj i hi]
 env:=fun g => (hs.env g).mono (ext_alloc (n:=0) hno (Nat.zero_le _))
 nx:=fun i B d1 hi hX => by
  rw [put_app] at hi
  split at hi
  ·cases hi; exact absurd (hs.xlt _ hX) (Nat.lt_irrefl _)
  ·exact hs.nx i B d1 hi hX
 xlt:=fun b hX => by
  show b < (w.heap.push ro).size
  rw [Array.size_push]
  have:=hs.xlt b hX
  omega
theorem newRow_or {id : Nat} {cs : List IV} {rcs : Array Value} {el : TypeId} (hno : ρ id=.no) (hc : CR ρ w cs rcs) :
  CellsOR (ρ.put id (.at w.heap.size 0)) (w.alloc (.cells rcs el)) w.heap.size 0 cs:=by
 refine ⟨rcs,el,by show (w.heap.push _)[w.heap.size]? = _; simp,by rw [hc.1]; omega,fun i hi => ?_⟩
 rw [Nat.zero_add]
 exact (hc.2 i hi).mono (ext_alloc (n:=0) hno (Nat.zero_le _))
theorem sim_alloc {id : Nat} {cs : List IV} {rcs : Array Value} {el : TypeId} (hs : Sim E ρ w σ) (hno : ρ id=.no) (hlt : id < σ.next) (hc : CR ρ w cs rcs) :
  Sim E (ρ.put id (.at w.heap.size 0)) (w.alloc (.cells rcs el)) (σ.put id (.cells cs)) :=
 sim_new hs hno hlt (newRow_or hno hc)
theorem sim_allocR {id : Nat} {cs : List IV} {rcs : Array Value} {el : TypeId} (hs : Sim E ρ w σ) (hno : ρ id=.no) (hlt : id < σ.next) (hc : CR ρ w cs rcs) :
  Sim E (ρ.put id (.at w.heap.size 0)) (w.alloc (.cells rcs el)) (σ.put id (.row cs)) :=
 sim_new hs hno hlt (newRow_or hno hc)
/-! ### Draws -/
theorem ext_drew (n : Nat) : Ext n ρ w ρ w.drew:=⟨Nat.le_refl _,fun _ _ => rfl,fun _ r _ _ h => ⟨r,h,rfl⟩,fun i B d h => .inl ⟨i,d,h⟩,fun _ _ _ h => .inl h,fun _ h => h,fun _ _ h => h,rfl,rfl,rfl,fun _ L h => ⟨L,h⟩,rfl⟩
theorem sim_drew (hs : Sim E ρ w σ) : Sim E ρ w.drew σ :=
 ⟨hs.inj,hs.lt,fun i B d h => let ⟨o,h1,h2⟩:=hs.obj i B d h; ⟨o,h1,h2.mono (ext_drew 0) rfl⟩,hs.dead,hs.fresh,hs.noObj,fun g => (hs.env g).mono (ext_drew 0),hs.nx,hs.xlt⟩
/-! ### Cells written -/
theorem setRow_other (w : World) (g b : Nat) (cs : Array Value) (h : b≠g) : (w.setRow g cs).heap[b]? = w.heap[b]?:=by
 have h' : ¬ g=b:=fun e => h e.symm
 simp [World.setRow,Array.getElem?_modify,h']
theorem setRow_size (w : World) (g : Nat) (cs : Array Value) : (w.setRow g cs).heap.size=w.heap.size:=by simp [World.setRow]
theorem ext_setRow {n id B d : Nat} {old new : Array Value} {el : TypeId} {fz : Nat × Nat} (hid : ρ id=.at B d) (hb : w.heap[B]? = some (.cells old el fz)) (hsz : new.size=old.size) :
  Ext n ρ w ρ (w.setRow B new) where
 size:=by rw [setRow_size]; exact Nat.le_refl _
 keep:=fun b hfb => setRow_other w B b new (fun h => by subst h; exact hfb.2 id d hid)
 shape:=fun b rcs el' fz' hb' => by
  by_cases h : b=B
  ·subst h
   rw [hb] at hb'
   cases hb'
   exact ⟨new,setRow_heap w b old new el fz hb,hsz⟩
  ·exact ⟨rcs,by rw [setRow_other w B b new h]; exact hb',rfl⟩
 img:=fun i B' d' h => .inl ⟨i,d',h⟩
 at_:=fun _ _ _ h => .inl h
 dead:=fun _ h => h
 no:=fun _ _ h => h
 output:=rfl
 os:=rfl
 tape:=rfl
 loops:=fun l L hl => ⟨L,by rw [setRow_other w B l new (fun h => by subst h; rw [hb] at hl; cases hl)]; exact hl⟩
 X:=rfl
theorem sim_setRow {id B d : Nat} {old new : Array Value} {el : TypeId} {fz : Nat × Nat} {o : IObj} (hs : Sim E ρ w σ) (hid : ρ id=.at B d) (hb : w.heap[B]? = some (.cells old el fz)) (hsz : new.size=old.size)
  (ho : OR ρ (w.setRow B new) B d o) : Sim E ρ (w.setRow B new) (σ.put id o) where
 inj:=hs.inj
 lt:=fun i B' d' h => by rw [setRow_size]; exact hs.lt i B' d' h
 obj:=fun i B' d' hi => by
  simp only [Store.put]
  by_cases h : i=id
  ·subst h
   rw [hid] at hi
   cases hi
   exact ⟨o,by simp,ho⟩
  ·obtain ⟨o',h1,h2⟩:=hs.obj i B' d' hi
   have hne : B'≠B:=fun e => h (hs.inj i id B d' d (by rw [hi,e]) hid)
   exact ⟨o',by simp [h,h1],h2.mono (ext_setRow (n:=0) hid hb hsz) (setRow_other w B B' new hne)⟩
 dead:=fun i hi => by
  have : i≠id:=fun e => by subst e; rw [hid] at hi; cases hi
  simp [Store.put,this,hs.dead i hi]
 fresh:=fun i hi => hs.fresh i hi
 noObj:=fun i hi => by
  have : i≠id:=fun e => by subst e; rw [hid] at hi; cases hi
  simp [Store.put,this,hs.noObj i hi]
 env:=fun g => (hs.env g).mono (ext_setRow (n:=0) hid hb hsz)
 nx:=hs.nx
 xlt:=fun b hX => by rw [setRow_size]; exact hs.xlt b hX
theorem rowCR {cs : List IV} {vs : List IV} {old : Array Value} {news : List Value} {d k : Nat} (hold : ∀ i,i < cs.length→VR ρ w (cs.getD i .undef) (old.getD (d+i) undef)) (hd : d+cs.length≤old.size)
  (hn : vs.length=news.length) (hv : ∀ i,i < vs.length→VR ρ w (vs.getD i .undef) (news.getD i undef)) (hk : k+vs.length≤cs.length) :
  ∀ i,i < cs.length→VR ρ w ((putL cs k vs).getD i .undef) ((old.toList.take (d+k) ++ news ++ old.toList.drop (d+k+news.length)).toArray.getD (d+i) undef):=by
 intro i hi
 rw [putL_getD hk]
 have e : (old.toList.take (d+k) ++ news ++ old.toList.drop (d+k+news.length)).toArray.getD (d+i) undef =
   if d+k≤d+i∧d+i < d+k+news.length then news.getD (d+i - (d+k)) undef else old.getD (d+i) undef:=by
  have h1 : min (d+k) old.toList.length=d+k:=by simp; omega
  simp only [Array.getD_eq_getD_getElem?,List.getElem?_toArray,List.getElem?_append,List.length_append,List.length_take,h1,List.getElem?_take,List.getElem?_drop,List.getD_eq_getElem?_getD,Array.getElem?_toList]
  by_cases c1 : d+i < d+k+news.length
  ·by_cases c2 : d+i < d+k
   ·have : ¬ (d+k≤d+i):=by omega
    simp [c1,c2,this]
   ·have : d+k≤d+i:=by omega
    simp [c1,c2,this]
  ·have c2 : ¬ (d+i < d+k):=by omega
   simp only [c1,if_false,and_false]
   congr 2
   omega
 rw [e]
 by_cases c : k≤i∧i < k+vs.length
 ·have c' : d+k≤d+i∧d+i < d+k+news.length:=by omega
  rw [if_pos c,if_pos c']
  have:=hv (i - k) (by omega)
  rwa [show d+i - (d+k)=i - k from by omega]
 ·have c' : ¬ (d+k≤d+i∧d+i < d+k+news.length):=by omega
  rw [if_neg c,if_neg c']
  exact hold i hi
end Go.Id
/- Operations that make a block,store,append: each against the model. Conditions: none; over any program. -/
namespace Go.Id
open Go
variable {P : Program} {w w' : World} {ρ ρ' : Rho} {E : Nat→IV} {σ : Store} {N : Nat} {fr : Frm} {a : Act}
def Acts (P : Program) (E : Nat→IV) (id n : Nat) (ρ : Rho) (w : World) (a : Act) (op : Op) (v : IV) (σ' : Store) : Prop :=
 ∀ o : Oper,o.op=op→∃ (x : Next) (r : Value) (ρ' : Rho) (w' : World),(execOp a.eval o).run P w=.ok x w'∧((x=.value r) ∨ (x=.skip∧r=undef))∧Sim E ρ' w' σ'∧VR ρ' w' v r∧Ext n ρ w ρ' w'∧NoBut id ρ ρ'
/-! ### alloc,box -/
theorem alloc_case {t : TypeId} {z : List IV} {id n : Nat} (hz : zeroT P t=some z) (hs : Sim E ρ w σ) (hno : ρ id=.no) (hlt : id < σ.next) (hn : n≤id) :
  Acts P E id n ρ w a (.alloc t) (.ptr id 0) (σ.put id (.cells z)):=by
 intro o ho
 obtain ⟨zr,hzr,hcr⟩:=zeroT_sound (w:=w) (ρ:=ρ) hz
 refine ⟨.value (.pointer (some ⟨w.heap.size,0,none⟩)),.pointer (some ⟨w.heap.size,0,none⟩),ρ.put id (.at w.heap.size 0),w.alloc (.cells zr.cells t),?_,.inl rfl,sim_alloc hs hno hlt hcr,?_,ext_alloc hno hn,NoBut.put _ _ _⟩
 ·unfold execOp
  rw [ho]
  simp [Instr.alloc,hzr,newVar,newRow]
 ·exact .ptr id 0 w.heap.size 0 (by simp [Rho.put])
theorem box_case {t : TypeId} {x : Operand} {y : IX} {id n : Nat} (hx : cmpX x=some y) (hl : (y.ev E fr).cs.all IV.leaf=true) (hs : Sim E ρ w σ) (hf : FR ρ w N fr a.tmps) (hno : ρ id=.no) (hlt : id < σ.next) (hn : n≤id) :
  Acts P E id n ρ w a (.box t x) (.ptr id 0) (σ.put id (.cells (y.ev E fr).cs)):=by
 intro o ho
 obtain ⟨hcr,_⟩:=cells_sound (cmpX_sound hx hs hf) hl
 refine ⟨.value (.pointer (some ⟨w.heap.size,0,none⟩)),.pointer (some ⟨w.heap.size,0,none⟩),ρ.put id (.at w.heap.size 0),w.alloc (.cells (a.eval x).cells t),?_,.inl rfl,sim_alloc hs hno hlt hcr,?_,ext_alloc hno hn,NoBut.put _ _ _⟩
 ·unfold execOp
  rw [ho]
  simp [Instr.box,newVar,newRow]
 ·exact .ptr id 0 w.heap.size 0 (by simp [Rho.put])
/-! ### A slice's literal -/
def rep (z : List IV) : Nat→List IV
 | 0 => []
 | n+1 => z ++ rep z n
theorem rep_length (z : List IV) (n : Nat) : (rep z n).length=n * z.length:=by
 induction n with
 | zero => simp [rep]
 | succ n ih => simp [rep,ih,Nat.add_mul,Nat.add_comm]
theorem rep_getD (z : List IV) (hz : 0 < z.length) (d : IV) : ∀ (n i : Nat),i < n * z.length→(rep z n).getD i d=z.getD (i % z.length) d:=by
 intro n
 induction n with
 | zero => intro i hi; simp at hi
 | succ n ih =>
  intro i hi
  simp only [rep,List.getD_eq_getElem?_getD,List.getElem?_append]
  by_cases h : i < z.length
  ·simp [h,Nat.mod_eq_of_lt h]
  ·rw [if_neg h]
   have:=ih (i - z.length) (by rw [Nat.add_mul,Nat.one_mul] at hi; omega)
   simp only [List.getD_eq_getElem?_getD] at this
   have e:=Nat.mod_eq_sub_mod (a:=i) (b:=z.length) (by omega)
   rw [e]
   exact this
theorem zcells_CR {z : List IV} {rz : Array Value} (h : CR ρ w z rz) (n : Nat) (hp : 0 < z.length ∨ n=0) :
  CR ρ w (rep z n) ((Array.range (n * z.length)).map (rz[· % rz.size]!)):=by
 refine ⟨by simp [rep_length],fun i hi => ?_⟩
 rw [rep_length] at hi
 rcases hp with hp | hp
 ·rw [rep_getD z hp _ n i hi]
  have hm : i % z.length < z.length:=Nat.mod_lt _ hp
  have hm' : i % rz.size < rz.size:=by rw [← h.1]; exact hm
  have:=h.2 (i % z.length) hm
  rw [h.1] at this
  rw [getD_of_lt _ _ _ hm'] at this
  rw [getD_of_lt _ _ _ (by simpa using hi)]
  simp only [Array.getElem_map,Array.getElem_range]
  rw [getElem!_pos rz (i % rz.size) hm',h.1]
  exact this
 ·subst hp; simp at hi
theorem bsl_case {t el : TypeId} {len : Nat} {parts : Array (Nat × Operand)} {z out : List IV} {ps : List (Nat × Nat × IX)} {esz id n : Nat} (hu : P.underlying t=some (.slice el)) (hsz : szT P el=some esz) (hpos : 0 < esz) (hz : zeroT P el=some z) (hzl : z.length=esz)
  (hbig : len * esz≤2 ^ 24) (hp : cmpParts P (fun i => some (i * esz,esz)) parts.toList=some ps) (hv : fillI (rep z len) (ps.map fun p => (p.1,p.2.1,p.2.2.ev E fr))=some out)
  (hs : Sim E ρ w σ) (hf : FR ρ w N fr a.tmps) (hno : ρ id=.no) (hlt : id < σ.next) (hn : n≤id) :
  Acts P E id n ρ w a (.buildSlice t len parts) (.slice id 0 len esz) (σ.put id (.row out)):=by
 intro o ho
 obtain ⟨zr,hzr,hcr⟩:=zeroT_sound (w:=w) (ρ:=ρ) hz
 have hcz:=zcells_CR hcr len (.inl (by omega))
 rw [hzl] at hcz
 obtain ⟨hl,hpl⟩:=parts_sound parts.toList ps hp hs hf
 obtain ⟨rout,hr,hro⟩:=fill_sound (place:=fun i => some (i * esz,esz)) _ (parts.toList.map fun p => (p.1,a.eval p.2)) _ out _ hcz (by simp [hl]) (fun j hj => hpl j (by simpa using hj)) hv
 have hpt : (parts.map fun (i,x) => (i,a.eval x)).toList=parts.toList.map fun p => (p.1,a.eval p.2):=by simp
 have hol : out.length=len * esz:=by
  have : ∀ (ps : List (Nat × Nat × IV)) (l o : List IV),fillI l ps=some o→o.length=l.length:=by
   intro ps
   induction ps with
   | nil => intro l o h; cases h; rfl
   | cons p ps ih =>
    intro l o h
    obtain ⟨off,s,v⟩:=p
    simp only [fillI] at h
    split at h
    ·rename_i hh
     rw [ih _ _ h,putL_length (by omega)]
    ·cases h
  rw [this _ _ _ hv,rep_length,hzl]
 have hsim:=sim_allocR (el:=el) hs hno hlt hro
 refine ⟨.value (.slice (some ⟨w.heap.size,0,none⟩) len len),.slice (some ⟨w.heap.size,0,none⟩) len len,ρ.put id (.at w.heap.size 0),w.alloc (.cells rout el),?_,.inl rfl,hsim,?_,ext_alloc hno hn,NoBut.put _ _ _⟩
 ·unfold execOp
  rw [ho]
  have hb : ¬ (len * esz > 2 ^ 24):=by omega
  have e0 : ∀ f : Nat→Value,(Array.range 0).map f=#[]:=fun f => by simp [Array.range]
  by_cases h0 : len * esz=0
  ·have hfill : Instr.fill (fun i => some (i * esz,esz)) #[] ((parts.map fun (i,x) => (i,a.eval x)).toList)=some rout:=by
    rw [hpt,← hr,h0,e0]
   simp only [Instr.buildSlice,Sem.run_bind,run_underlying hu,Result.andThen_ok,run_sizeOf hsz,if_neg hb,if_pos h0,Sem.run_pure,h0,e0,hfill]
   simp [newRow]
  ·have hfill : Instr.fill (fun i => some (i * esz,esz)) ((Array.range (len * esz)).map (zr.cells[· % zr.cells.size]!)) ((parts.map fun (i,x) => (i,a.eval x)).toList)=some rout:=by
    rw [hpt,← hr]
   simp only [Instr.buildSlice,Sem.run_bind,run_underlying hu,Result.andThen_ok,run_sizeOf hsz,if_neg hb,if_neg h0,hzr,Sem.run_pure,hfill]
   simp [newRow]
 ·exact .slice id 0 len esz w.heap.size 0 len rout el (0,0) (by simp [Rho.put]) (by show (w.heap.push _)[w.heap.size]? = _; simp) (by rw [← hro.1,hol]; omega) (Nat.le_refl _)
/-! ### A store -/
def storeI (σ : Store) (n : Nat) (addr v : IV) : Option Store :=
 match addr with
 | .ptr id off => match σ.obj id with
  | some (.cells cs) => if v.cs.length=n∧off+n≤cs.length∧v.cs.all IV.leaf=true then some (σ.put id (.cells (putL cs off v.cs))) else none
  | some (.row cs) => if v.cs.length=n∧off+n≤cs.length∧v.cs.all IV.leaf=true then some (σ.put id (.row (putL cs off v.cs))) else none
  | _ => none
 | _ => none
theorem store_run {t : TypeId} {sz id B d off : Nat} {cs : List IV} {v : IV} {ry : Value} {ob : IObj} (hsz : szT P t=some sz) (hid : ρ id=.at B d) (hor : CellsOR ρ w B d cs) (h1 : v.cs.length=sz) (h2 : off+sz≤cs.length) (h3 : v.cs.all IV.leaf=true)
  (vy : VR ρ w v ry) (hs : Sim E ρ w σ) (hob : ∀ w',OR ρ w' B d ob=CellsOR ρ w' B d (putL cs off v.cs)) :
  ∃ w',(Instr.storeAt t (.pointer (some ⟨B,d+off,none⟩)) ry).run P w=.ok () w'∧Sim E ρ w' (σ.put id ob)∧∀ n,Ext n ρ w ρ w':=by
 obtain ⟨rcs,el,hb,hsz',hvs⟩:=hor
 obtain ⟨⟨c1,c2⟩,c3⟩:=cells_sound vy h3
 have hst:=run_storeCells_at (P:=P) B (d+off) el ry.cells.toList 0 rcs w hb (by simp; omega) c3
 simp only [Nat.add_zero] at hst
 generalize hnew : (rcs.toList.take (d+off) ++ ry.cells.toList ++ rcs.toList.drop (d+off+ry.cells.toList.length)).toArray=new at hst
 have hnsz : new.size=rcs.size:=by
  rw [← hnew]; simp; omega
 have hx : ∀ n,Ext n ρ w ρ (w.setRow B new):=fun n => ext_setRow (n:=n) (new:=new) hid hb hnsz
 refine ⟨w.setRow B new,?_,sim_setRow hs hid hb hnsz ?_,hx⟩
 ·have hne : ¬ (ry.cells.size≠sz):=by simp; omega
  simp only [Instr.storeAt,Instr.sureAddr,Sem.run_bind,Sem.run_pure,Result.andThen_ok,storeVar,run_sizeOf hsz,if_neg hne,hst]
 ·rw [hob]
  refine ⟨new,el,setRow_heap w B rcs new el (0,0) hb,?_,?_⟩
  ·rw [hnsz,putL_length (by omega)]; exact hsz'
  ·intro i hi
   rw [putL_length (by omega)] at hi
   have:=rowCR (w:=w) (ρ:=ρ) (cs:=cs) (vs:=v.cs) (old:=rcs) (news:=ry.cells.toList) (d:=d) (k:=off) hvs hsz' (by simpa using c1)
    (fun i hi => by simpa [Array.getD_eq_getD_getElem?,List.getD_eq_getElem?_getD] using c2 i hi) (by omega) i hi
   rw [hnew] at this
   exact this.mono (hx 0)
theorem store_case {t : TypeId} {x y : Operand} {ix iy : IX} {sz n id0 : Nat} {σ' : Store} (hsz : szT P t=some sz) (hx : cmpX x=some ix) (hy : cmpX y=some iy) (h : storeI σ sz (ix.ev E fr) (iy.ev E fr)=some σ')
  (hs : Sim E ρ w σ) (hf : FR ρ w N fr a.tmps) : Acts P E id0 n ρ w a (.store t x y) .undef σ':=by
 intro o ho
 have vx:=cmpX_sound hx hs hf
 have vy:=cmpX_sound hy hs hf
 generalize ix.ev E fr=p at vx h
 generalize iy.ev E fr=v at vy h
 generalize hrx : a.eval x=rx at vx
 generalize hry : a.eval y=ry at vy
 cases vx with
 | ptr id off B d hid =>
  simp only [storeI] at h
  obtain ⟨ob,hob,hor⟩:=hs.obj id B d hid
  rw [hob] at h
  have fin : ∀ (cs : List IV) (ob' : IObj),CellsOR ρ w B d cs→(∀ w',OR ρ w' B d ob'=CellsOR ρ w' B d (putL cs off v.cs)) →
    (if v.cs.length=sz∧off+sz≤cs.length∧v.cs.all IV.leaf=true then some (σ.put id ob') else none)=some σ' →
    ∃ (x : Next) (r : Value) (ρ' : Rho) (w' : World),(execOp a.eval o).run P w=.ok x w'∧((x=.value r) ∨ (x=.skip∧r=undef))∧Sim E ρ' w' σ'∧VR ρ' w' .undef r∧Ext n ρ w ρ' w'∧NoBut id0 ρ ρ':=by
   intro cs ob' hor hob' h
   split at h
   ·rename_i hh
    cases h
    obtain ⟨w',hrun,hsim,hx⟩:=store_run (P:=P) hsz hid hor hh.1 hh.2.1 hh.2.2 vy hs hob'
    refine ⟨.skip,undef,ρ,w',?_,.inr ⟨rfl,rfl⟩,hsim,.undef _,hx n,NoBut.refl _ _⟩
    unfold execOp
    rw [ho]
    simp only [hrx,hry,Sem.run_bind,hrun,Result.andThen_ok]
    rfl
   ·cases h
  cases ob with
  | cells cs => exact fin cs _ hor (fun _ => rfl) h
  | row cs => exact fin cs _ hor (fun _ => rfl) h
  | _ => simp at h
 | ptrD id off ad hid => simp [storeI,hs.dead id hid] at h
 | _ => simp [storeI] at h
end Go.Id
/- append against the model. Conditions: none; over any program. -/
namespace Go.Id
open Go
variable {P : Program} {w w' : World} {ρ ρ' : Rho} {E : Nat→IV} {σ : Store} {N : Nat} {fr : Frm} {a : Act} {ty : TypeId}
def srcI (σ : Store) (esz : Nat) : IV→Option (Nat × List IV)
 | .nilslice | .zslice | .eslice => some (0,[])
 | .tslice es => if es.all (fun e => e.length == esz) then some (es.length,es.flatten) else none
 | .slice id off len e => match σ.obj id with
  | some (.row cs) => if e=esz∧off+len * esz≤cs.length then some (len,(cs.drop off).take (len * esz)) else none
  | _ => none
 | .cslice id off len e => match σ.obj id with
  | some (.row cs) => if e=esz∧off+len * esz≤cs.length then some (len,(cs.drop off).take (len * esz)) else none
  | _ => none
 | _ => none
theorem flatten_getD {es : List (List IV)} {esz : Nat} (h : ∀ e∈es,e.length=esz) (d : IV) : es.flatten.length=es.length * esz ∧
  ∀ i j,i < es.length→j < esz→es.flatten.getD (i * esz+j) d=(es.getD i []).getD j d:=by
 induction es with
 | nil => exact ⟨by simp,fun i j hi => by simp at hi⟩
 | cons e es ih =>
  have he : e.length=esz:=h e (by simp)
  obtain ⟨h1,h2⟩:=ih (fun x hx => h x (by simp [hx]))
  refine ⟨by simp only [List.flatten_cons,List.length_append,h1,he,List.length_cons,Nat.add_mul]; omega,fun i j hi hj => ?_⟩
  simp only [List.flatten_cons,List.getD_eq_getElem?_getD,List.getElem?_append]
  cases i with
  | zero => simp [he,hj]
  | succ i =>
   have : ¬ ((i+1) * esz+j < e.length):=by rw [Nat.add_mul]; omega
   rw [if_neg this]
   have:=h2 i j (by simpa using hi) hj
   simp only [List.getD_eq_getElem?_getD] at this
   have e1 : (i+1) * esz+j - e.length=i * esz+j:=by rw [Nat.add_mul]; omega
   rw [e1,this]
   simp
theorem src_sound {esz n : Nat} {v : IV} {r : Value} {cells : List IV} (hs : Sim E ρ w σ) (h : srcI σ esz v=some (n,cells)) (hv : VR ρ w v r) :
  cells.length=n * esz∧(Builtin.lenOf r).run P w=.ok n w∧∃ rcs : Array Value,CR ρ w cells rcs∧(Builtin.firstCells esz n r).run P w=.ok rcs w∧(Builtin.firstCells esz n r).run P w.drew=.ok rcs w.drew:=by
 cases hv with
 | nilslice =>
  cases h
  exact ⟨by simp,by simp [Builtin.lenOf],#[],⟨rfl,fun i hi => by simp at hi⟩,by simp [Builtin.firstCells],by simp [Builtin.firstCells]⟩
 | zslice ad =>
  cases h
  exact ⟨by simp,by simp [Builtin.lenOf],#[],⟨rfl,fun i hi => by simp at hi⟩,by simp [Builtin.firstCells,loadCells,loadCellsFrom],by simp [Builtin.firstCells,loadCells,loadCellsFrom]⟩
 | eslice ad cap =>
  cases h
  exact ⟨by simp,by simp [Builtin.lenOf],#[],⟨rfl,fun i hi => by simp at hi⟩,by simp [Builtin.firstCells,loadCells,loadCellsFrom],by simp [Builtin.firstCells,loadCells,loadCellsFrom]⟩
 | tnil =>
  simp only [srcI] at h
  cases h
  exact ⟨by simp,by simp [Builtin.lenOf],#[],⟨rfl,fun i hi => by simp at hi⟩,by simp [Builtin.firstCells],by simp [Builtin.firstCells]⟩
 | tslice es b o cap esz' sp vs hf hsz hc hv hle =>
  simp only [srcI] at h
  split at h
  ·rename_i hall
   cases h
   have hall' : ∀ e∈es,e.length=esz:=fun e he => by have:=List.all_eq_true.1 hall e he; simpa using this
   obtain ⟨f1,f2⟩:=flatten_getD hall' .undef
   refine ⟨f1,by simp [Builtin.lenOf],?_⟩
   by_cases h0 : es.length * esz=0
   ·refine ⟨#[],⟨by rw [f1,h0]; rfl,fun i hi => by rw [f1,h0] at hi; omega⟩,?_,?_⟩ <;> simp [Builtin.firstCells,loadCells,loadCellsFrom,h0]
   ·have hpos : 0 < esz:=by
     rcases Nat.eq_zero_or_pos esz with h | h
     ·subst h; simp at h0
     ·exact h
    have hne : es≠[]:=by intro he; subst he; simp at h0
    have hl : 0 < es.length:=by cases es with | nil => exact absurd rfl hne | cons _ _ => simp
    have hee : esz'=esz:=by
     rw [← hsz 0 hl]; exact hall' _ (by rw [List.getD_eq_getElem?_getD,List.getElem?_eq_getElem hl]; exact List.getElem_mem _)
    subst hee
    obtain ⟨_,rfl⟩:=hf hne
    have hdiv : ∀ k,k < es.length * esz'→k / esz' < es.length∧k % esz' < esz':=fun k hk => ⟨Nat.div_lt_of_lt_mul (by rw [Nat.mul_comm]; exact hk),Nat.mod_lt _ hpos⟩
    have hdm : ∀ k,k / esz' * esz'+k % esz'=k:=fun k => by rw [Nat.mul_comm]; exact Nat.div_add_mod k esz'
    have hcell : ∀ k,k < es.length * esz'→w.cell? ((⟨b,o,none⟩ : Addr).add k)=some (vs (k / esz') (k % esz')):=fun k hk => by
     rw [add_mk]
     have:=hc _ (hdiv k hk).1 _ (hdiv k hk).2
     rwa [hdm] at this
    have hl:=run_loadCells (P:=P) (w:=w) ⟨b,o,none⟩ (es.length * esz') (fun k => vs (k / esz') (k % esz')) hcell
    have hl':=run_loadCells (P:=P) (w:=w.drew) ⟨b,o,none⟩ (es.length * esz') (fun k => vs (k / esz') (k % esz')) hcell
    refine ⟨((List.range (es.length * esz')).map fun k => vs (k / esz') (k % esz')).toArray,⟨by simp [f1],fun k hk => ?_⟩,by simpa [Builtin.firstCells] using hl,by simpa [Builtin.firstCells] using hl'⟩
    rw [f1] at hk
    have:=hv _ (hdiv k hk).1 _ (hdiv k hk).2
    rw [← f2 _ _ (hdiv k hk).1 (hdiv k hk).2,hdm] at this
    simpa [Array.getD_eq_getD_getElem?,hk] using this
  ·cases h
 | slice id off len e B d cap rcs el fz hid hb hsz hle =>
  simp only [srcI] at h
  obtain ⟨ob,hob,hor⟩:=hs.obj id B d hid
  rw [hob] at h
  cases ob with
  | row cs =>
   simp only at h
   split at h
   ·rename_i hh
    obtain ⟨rfl,h2⟩:=hh
    cases h
    obtain ⟨rcs',el',hb',hsz',hvs⟩:=hor
    rw [hb] at hb'
    cases hb'
    have hlen : ((cs.drop off).take (n * e)).length=n * e:=by simp; omega
    have hcell : ∀ k,k < n * e→w.cell? ((⟨B,d+off,none⟩ : Addr).add k)=some (rcs.getD (d+(off+k)) undef):=fun k hk => by
     rw [add_mk]
     have hlt : d+off+k < rcs.size:=by omega
     simp only [World.cell?,hb,Option.isSome_none,Bool.false_eq_true,if_false]
     rw [getD_of_lt _ _ _ (by omega),Array.getElem?_eq_getElem hlt]
     congr 2
     omega
    have hl:=run_loadCells (P:=P) (w:=w) ⟨B,d+off,none⟩ (n * e) (fun k => rcs.getD (d+(off+k)) undef) hcell
    have hl':=run_loadCells (P:=P) (w:=w.drew) ⟨B,d+off,none⟩ (n * e) (fun k => rcs.getD (d+(off+k)) undef) hcell
    refine ⟨hlen,by simp [Builtin.lenOf],((List.range (n * e)).map fun k => rcs.getD (d+(off+k)) undef).toArray,⟨by simp; omega,fun k hk => ?_⟩,by simpa [Builtin.firstCells] using hl,by simpa [Builtin.firstCells] using hl'⟩
    rw [hlen] at hk
    rw [getD_take' _ _ _ _ hk,getD_drop']
    have:=hvs (off+k) (by omega)
    rw [getD_of_lt _ _ _ (by simpa using hk)]
    simpa using this
   ·cases h
  | _ => simp at h
 | sliceZ id off e B d ad hid =>
  simp only [srcI] at h
  obtain ⟨ob,hob,hor⟩:=hs.obj id B d hid
  rw [hob] at h
  cases ob with
  | row cs =>
   simp only at h
   split at h
   ·cases h
    exact ⟨by simp,by simp [Builtin.lenOf],#[],⟨by simp,fun i hi => by simp at hi⟩,by simp [Builtin.firstCells,loadCells,loadCellsFrom],by simp [Builtin.firstCells,loadCells,loadCellsFrom]⟩
   ·cases h
  | _ => simp at h
 | sliceD id off len e cap ad hid hle => simp [srcI,hs.dead id hid] at h
 | csliceD id off len e ad hid => simp [srcI,hs.dead id hid] at h
 | cslice id off len e B d rcs el fz hid hb hsz =>
  simp only [srcI] at h
  obtain ⟨ob,hob,hor⟩:=hs.obj id B d hid
  rw [hob] at h
  cases ob with
  | row cs =>
   simp only at h
   split at h
   ·rename_i hh
    obtain ⟨rfl,h2⟩:=hh
    cases h
    obtain ⟨rcs',el',hb',hsz',hvs⟩:=hor
    rw [hb] at hb'
    cases hb'
    have hlen : ((cs.drop off).take (n * e)).length=n * e:=by simp; omega
    have hcell : ∀ k,k < n * e→w.cell? ((⟨B,d+off,none⟩ : Addr).add k)=some (rcs.getD (d+(off+k)) undef):=fun k hk => by
     rw [add_mk]
     have hlt : d+off+k < rcs.size:=by omega
     simp only [World.cell?,hb,Option.isSome_none,Bool.false_eq_true,if_false]
     rw [getD_of_lt _ _ _ (by omega),Array.getElem?_eq_getElem hlt]
     congr 2
     omega
    have hl:=run_loadCells (P:=P) (w:=w) ⟨B,d+off,none⟩ (n * e) (fun k => rcs.getD (d+(off+k)) undef) hcell
    have hl':=run_loadCells (P:=P) (w:=w.drew) ⟨B,d+off,none⟩ (n * e) (fun k => rcs.getD (d+(off+k)) undef) hcell
    refine ⟨hlen,by simp [Builtin.lenOf],((List.range (n * e)).map fun k => rcs.getD (d+(off+k)) undef).toArray,⟨by simp; omega,fun k hk => ?_⟩,by simpa [Builtin.firstCells] using hl,by simpa [Builtin.firstCells] using hl'⟩
    rw [hlen] at hk
    rw [getD_take' _ _ _ _ hk,getD_drop']
    have:=hvs (off+k) (by omega)
    rw [getD_of_lt _ _ _ (by simpa using hk)]
    simpa using this
   ·cases h
  | _ => simp at h
 | _ => simp [srcI] at h
def appI (σ : Store) (id esz : Nat) (s x : IV) : Option (IV × Store) :=
 match srcI σ esz x with
 | none => none
 | some (n,xs) =>
  if xs.all IV.leaf=false then none else
  match s with
  | .nilslice => if n=0 then some (.nilslice,σ) else if n≤2147483648 then some (.slice id 0 n esz,σ.put id (.row xs)) else none
  | .zslice => if n=0 then some (.zslice,σ) else if n≤2147483648 then some (.slice id 0 n esz,σ.put id (.row xs)) else none
  | .tslice es => if n=0 then some (.tslice es,σ) else none
  | .slice did off len e => match σ.obj did with
   | some (.row cs) =>
    if e=esz∧n=0 then some (s,σ)
    else if e=esz∧off+len * esz=cs.length∧len+n≤2147483648∧(cs.drop off).all IV.leaf=true then some (.slice id 0 (len+n) esz,(σ.kill did).put id (.row (cs.drop off ++ xs)))
    else none
   | _ => none
  | .cslice did off len e => match σ.obj did with
   | some (.row cs) =>
    if e=esz∧n=0 then some (.slice did off len e,σ)
    else if e=esz∧off+len * esz≤cs.length∧len+n≤2147483648∧n≠0 then some (.slice id 0 (len+n) esz,σ.put id (.row ((cs.drop off).take (len * esz) ++ xs)))
    else none
   | _ => none
  | _ => none
theorem growBy_le (n : Nat) : ∀ (r c : Nat),c < n→Builtin.growBy n r c≤n+(n+768) / 4:=by
 intro r
 induction r with
 | zero => intro c hc; simp only [Builtin.growBy]; omega
 | succ r ih =>
  intro c hc
  simp only [Builtin.growBy]
  rw [if_neg (by omega)]
  by_cases h : c+(c+768) / 4 < n
  ·exact ih _ h
  ·cases r with
   | zero => simp only [Builtin.growBy]; omega
   | succ r => simp only [Builtin.growBy]; rw [if_pos (by omega)]; omega
theorem nextslicecap_le {n old : Nat} (h : old < n) : Builtin.nextslicecap n old≤2 * n+192:=by
 unfold Builtin.nextslicecap
 split
 ·omega
 ·split
  ·omega
  ·have:=growBy_le n 4 old h; omega
theorem run_append_new {t xt ty el : TypeId} {i : TypeInfo} {z : Value} {base : Option Addr} {sLen sCap n : Nat} {rx : Value} {olds news : Array Value} (ht : P.underlying t=some (.slice el)) (hxt : ∃ u,P.underlying xt=some u∧∀ k,u≠.int k)
  (hi : P.info? el=some i) (hz : i.zero=some z) (hb : i.bytes≤4096) (hn : (Builtin.lenOf rx).run P w=.ok n w) (hold : (Builtin.firstCells i.size sLen (.slice base sLen sCap)).run P w.drew=.ok olds w.drew)
  (hnew : (Builtin.firstCells i.size n rx).run P w.drew=.ok news w.drew) (hg : sCap < sLen+n) (hle : sLen+n≤2147483648) :
  ∃ cap rest,sLen+n≤cap∧rest.size=(cap - (sLen+n)) * z.cells.size ∧
  (Builtin.append_ #[t,xt] ty #[.slice base sLen sCap,rx]).run P w=.ok (.slice (some ⟨w.heap.size,0,none⟩) (sLen+n) cap) (w.drew.alloc (.cells (olds ++ news ++ rest) el)):=by
 obtain ⟨u,hu,hnot⟩:=hxt
 have hcapeq : sLen+n≤grownCap w (sLen+n) sCap el:=Nat.le_add_right _ _
 refine ⟨grownCap w (sLen+n) sCap el,Builtin.zeroCells z.cells (grownCap w (sLen+n) sCap el - (sLen+n)),hcapeq,by simp [Builtin.zeroCells],?_⟩
 have h0 : ¬ (sLen+n≤sCap):=by omega
 have h63 : ¬ (9223372036854775807 < ((sLen : Int)+(n : Int))):=by omega
 have hnc:=nextslicecap_le hg
 have h48 : ¬ (281474976710656 < Builtin.nextslicecap (sLen+n) sCap * i.bytes):=by
  have : Builtin.nextslicecap (sLen+n) sCap * i.bytes≤(2 * (sLen+n)+192) * 4096:=Nat.mul_le_mul hnc hb
  omega
 have hz0 : (match u with | .int _ => true | _ => false)=false:=by cases u <;> first | rfl | exact absurd rfl (hnot _)
 simp [Builtin.append_,run_underlying ht,run_underlying hu,sizeOf,typeInfo,zeroValue,hi,hz,hz0,hn,h0,h63,h48,Question.forced,hold,hnew,newRow,grownCap]
/-! ### Ideal blocks that go -/
theorem ext_rho {n : Nat} (hat : ∀ i B d,ρ i=.at B d→ρ' i=.at B d ∨ ρ' i=.dead) (hdead : ∀ i,ρ i=.dead→ρ' i=.dead) (hno : ∀ i,i < n→ρ i=.no→ρ' i=.no)
  (himg : ∀ i B d,ρ' i=.at B d→∃ j d',ρ j=.at B d') (hX : ρ'.X=ρ.X) : Ext n ρ w ρ' w :=
 ⟨Nat.le_refl _,fun _ _ => rfl,fun _ r _ _ h => ⟨r,h,rfl⟩,fun i B d h => .inl (himg i B d h),hat,hdead,hno,rfl,rfl,rfl,fun _ L h => ⟨L,h⟩,hX⟩
theorem ext_kill {n did B d : Nat} (hd : ρ did=.at B d) : Ext n ρ w (ρ.put did .dead) w :=
 ext_rho (fun i B' d' h => by rw [put_app]; split <;> simp_all) (fun i h => by rw [put_app]; split <;> simp_all)
  (fun i _ h => by rw [put_app]; split <;> simp_all) (fun i B' d' h => by rw [put_app] at h; split at h; cases h; exact ⟨i,d',h⟩) rfl
theorem sim_kill {did B d : Nat} (hs : Sim E ρ w σ) (hd : ρ did=.at B d) : Sim E (ρ.put did .dead) w (σ.kill did) where
 inj:=fun i j B' d1 d2 hi hj => by
  rw [put_app] at hi hj
  split at hi <;> split at hj <;> first | (cases hi; done) | (cases hj; done) | exact hs.inj i j B' d1 d2 hi hj
 lt:=fun i B' d1 hi => by rw [put_app] at hi; split at hi; cases hi; exact hs.lt i B' d1 hi
 obj:=fun i B' d1 hi => by
  rw [put_app] at hi
  split at hi
  ·cases hi
  ·rename_i h
   obtain ⟨o,h1,h2⟩:=hs.obj i B' d1 hi
   exact ⟨o,by simp [Store.kill,h,h1],h2.mono (ext_kill (n:=0) hd) rfl⟩
 dead:=fun i hi => by
  rw [put_app] at hi
  simp only [Store.kill]
  split at hi
  ·rename_i h; simp [h]
  ·rename_i h; simp [h,hs.dead i hi]
 fresh:=fun i hi => by
  have h0 : ρ i=.no:=hs.fresh i hi
  have : i≠did:=fun e => by subst e; rw [hd] at h0; cases h0
  simp [Rho.put,this,h0]
 noObj:=fun i hi => by
  rw [put_app] at hi
  split at hi
  ·cases hi
  ·rename_i h; simp [Store.kill,h,hs.noObj i hi]
 env:=fun g => (hs.env g).mono (ext_kill (n:=0) hd)
 nx:=fun i B' d1 hi => by rw [put_app] at hi; split at hi; cases hi; exact hs.nx i B' d1 hi
 xlt:=hs.xlt
theorem ext_rename {n did id B d off : Nat} (hd : ρ did=.at B d) (hno : ρ id=.no) (hn : n≤id) : Ext n ρ w ((ρ.put did .dead).put id (.at B (d+off))) w:=by
 have hne : did≠id:=fun e => by subst e; rw [hd] at hno; cases hno
 refine ext_rho (fun i B' d' h => ?_) (fun i h => ?_) (fun i hi h => ?_) (fun i B' d' h => ?_) rfl
 ·rw [put_app,put_app]
  split
  ·rename_i e; subst e; rw [hno] at h; cases h
  ·split
   ·exact .inr rfl
   ·exact .inl h
 ·rw [put_app,put_app]
  split
  ·rename_i e; subst e; rw [hno] at h; cases h
  ·split
   ·rfl
   ·exact h
 ·rw [put_app,put_app]
  split
  ·omega
  ·split
   ·rename_i e; subst e; rw [hd] at h; cases h
   ·exact h
 ·rw [put_app,put_app] at h
  split at h
  ·cases h; exact ⟨did,d,hd⟩
  ·split at h
   ·cases h
   ·exact ⟨i,d',h⟩
theorem sim_rename {did id B d off : Nat} {cs : List IV} (hs : Sim E ρ w σ) (hd : ρ did=.at B d) (hc : σ.obj did=some (.row cs)) (hno : ρ id=.no) (hlt : id < σ.next) (hoff : off≤cs.length) :
  Sim E ((ρ.put did .dead).put id (.at B (d+off))) w ((σ.kill did).put id (.row (cs.drop off))):=by
 have hne : did≠id:=fun e => by subst e; rw [hd] at hno; cases hno
 have hx : Ext 0 ρ w ((ρ.put did .dead).put id (.at B (d+off))) w:=ext_rename hd hno (Nat.zero_le _)
 have val : ∀ i,((ρ.put did .dead).put id (.at B (d+off))) i=if i=id then .at B (d+off) else if i=did then .dead else ρ i:=fun i => rfl
 refine ⟨fun i j B' d1 d2 hi hj => ?_,fun i B' d1 hi => ?_,fun i B' d1 hi => ?_,fun i hi => ?_,fun i hi => ?_,fun i hi => ?_,fun g => (hs.env g).mono hx,fun i B' d1 hi => ?_,hs.xlt⟩
 ·rw [val] at hi hj
  split at hi <;> split at hj
  ·rename_i h1 h2; rw [h1,h2]
  ·split at hj
   ·cases hj
   ·rename_i h; cases hi; exact absurd (hs.inj j did B d2 d hj hd) h
  ·split at hi
   ·cases hi
   ·rename_i h _; cases hj; exact absurd (hs.inj i did B d1 d hi hd) (by assumption)
  ·split at hi
   ·cases hi
   ·split at hj
    ·cases hj
    ·exact hs.inj i j B' d1 d2 hi hj
 ·rw [val] at hi
  split at hi
  ·cases hi; exact hs.lt did B d hd
  ·split at hi
   ·cases hi
   ·exact hs.lt i B' d1 hi
 ·rw [val] at hi
  split at hi
  ·rename_i h
   cases hi
   refine ⟨.row (cs.drop off),by simp [Store.put,h],?_⟩
   obtain ⟨o,h1,h2⟩:=hs.obj did B d hd
   rw [hc] at h1
   cases h1
   obtain ⟨rcs,el,hb,hsz,hv⟩:=h2
   refine ⟨rcs,el,hb,by simp; omega,fun k hk => ?_⟩
   simp at hk
   rw [getD_drop']
   have:=(hv (off+k) (by omega)).mono hx
   rwa [show d+off+k=d+(off+k) from by omega]
  ·rename_i h
   split at hi
   ·cases hi
   ·rename_i h'
    obtain ⟨o,h1,h2⟩:=hs.obj i B' d1 hi
    exact ⟨o,by simp [Store.put,Store.kill,h,h',h1],h2.mono hx rfl⟩
 ·rw [val] at hi
  split at hi
  ·cases hi
  ·rename_i h
   split at hi
   ·rename_i h'; subst h'; simp [Store.put,Store.kill,h]
   ·rename_i h'; simp [Store.put,Store.kill,h,h',hs.dead i hi]
 ·have h0 : ρ i=.no:=hs.fresh i hi
  have h1 : i≠did:=fun e => by subst e; rw [hd] at h0; cases h0
  have h2 : i≠id:=by have : σ.next≤i:=hi; omega
  rw [val]
  simp [h1,h2,h0]
 ·rw [val] at hi
  split at hi
  ·cases hi
  ·rename_i h
   split at hi
   ·cases hi
   ·rename_i h'; simp [Store.put,Store.kill,h,h',hs.noObj i hi]
 ·rw [val] at hi
  split at hi
  ·cases hi; exact hs.nx did B d hd
  ·split at hi
   ·cases hi
   ·exact hs.nx i B' d1 hi
theorem splice_getD (old : Array Value) (news : List Value) (p k : Nat) (h : p+news.length≤old.size) :
  (old.toList.take p ++ news ++ old.toList.drop (p+news.length)).toArray.getD k undef=if p≤k∧k < p+news.length then news.getD (k - p) undef else old.getD k undef:=by
 have h1 : min p old.size=p:=by omega
 simp only [Array.getD_eq_getD_getElem?,List.getElem?_toArray,List.getElem?_append,List.length_append,List.length_take,Array.length_toList,h1,List.getElem?_take,List.getElem?_drop,List.getD_eq_getElem?_getD,Array.getElem?_toList]
 by_cases c1 : k < p+news.length
 ·by_cases c2 : k < p
  ·have : ¬ (p≤k):=by omega
   simp [c1,c2,this]
  ·have : p≤k:=by omega
   simp [c1,c2,this]
 ·have c2 : ¬ (k < p):=by omega
  simp only [c1,if_false,and_false]
  congr 2
  omega
theorem run_append_in {t xt el : TypeId} {i : TypeInfo} {B o sLen sCap n : Nat} {rx : Value} {news old : Array Value} {e : TypeId} (ht : P.underlying t=some (.slice el)) (hxt : ∃ u,P.underlying xt=some u∧∀ k,u≠.int k)
  (hi : P.info? el=some i) (hn : (Builtin.lenOf rx).run P w=.ok n w) (hnew : (Builtin.firstCells i.size n rx).run P w=.ok news w) (hg : sLen+n≤sCap)
  (hb : w.heap[B]? = some (.cells old e (0,0))) (hfit : o+sLen * i.size+news.size≤old.size) (hone : ∀ v∈news.toList,v.oneCell'=true) :
  (Builtin.append_ #[t,xt] ty #[.slice (some ⟨B,o,none⟩) sLen sCap,rx]).run P w=.ok (.slice (some ⟨B,o,none⟩) (sLen+n) sCap)
   (w.setRow B (old.toList.take (o+sLen * i.size) ++ news.toList ++ old.toList.drop (o+sLen * i.size+news.toList.length)).toArray):=by
 obtain ⟨u,hu,hnot⟩:=hxt
 have hst:=run_storeCells_at (P:=P) B (o+sLen * i.size) e news.toList 0 old w hb (by simpa using hfit) hone
 simp only [Nat.add_zero] at hst
 have hz0 : (match u with | .int _ => true | _ => false)=false:=by cases u <;> first | rfl | exact absurd rfl (hnot _)
 simp [Builtin.append_,run_underlying ht,run_underlying hu,sizeOf,typeInfo,hi,hn,hg,hnew,add_mk,hst]
theorem run_append_zero {t xt el : TypeId} {i : TypeInfo} {base : Option Addr} {sLen sCap : Nat} {rx : Value} {rcs : Array Value} (ht : P.underlying t=some (.slice el)) (hxt : ∃ u,P.underlying xt=some u∧∀ k,u≠.int k)
  (hi : P.info? el=some i) (hn : (Builtin.lenOf rx).run P w=.ok 0 w) (hnew : (Builtin.firstCells i.size 0 rx).run P w=.ok rcs w) (hrz : rcs.size=0) (hle : sLen≤sCap) :
  (Builtin.append_ #[t,xt] ty #[.slice base sLen sCap,rx]).run P w=.ok (.slice base sLen sCap) w:=by
 obtain ⟨u,hu,hnot⟩:=hxt
 have hz0 : (match u with | .int _ => true | _ => false)=false:=by cases u <;> first | rfl | exact absurd rfl (hnot _)
 have : rcs=#[]:=Array.eq_empty_of_size_eq_zero hrz
 subst this
 cases base <;> simp [Builtin.append_,run_underlying ht,run_underlying hu,sizeOf,typeInfo,hi,hn,hle,hnew,storeCells]
theorem app_run {t xt el : TypeId} {i : TypeInfo} {z : Value} {esz id n0 : Nat} {s x v : IV} {rs rx : Value} {σ' : Store} (ht : P.underlying t=some (.slice el)) (hxt : ∃ u,P.underlying xt=some u∧∀ k,u≠.int k)
  (hi : P.info? el=some i) (hz : i.zero=some z) (hesz : i.size=esz) (hzs : z.cells.size=esz) (hb : i.bytes≤4096) (h : appI σ id esz s x=some (v,σ')) (vs : VR ρ w s rs) (vx : VR ρ w x rx)
  (hs : Sim E ρ w σ) (hno : ρ id=.no) (hlt : id < σ.next) (hn0 : n0≤id) :
  ∃ r ρ' w',(Builtin.append_ #[t,xt] ty #[rs,rx]).run P w=.ok r w'∧Sim E ρ' w' σ'∧VR ρ' w' v r∧Ext n0 ρ w ρ' w'∧NoBut id ρ ρ':=by
 unfold appI at h
 cases hsrc : srcI σ esz x with
 | none => rw [hsrc] at h; cases h
 | some p =>
  obtain ⟨n,xs⟩:=p
  rw [hsrc] at h
  simp only at h
  split at h
  ·cases h
  rename_i hleaf
  have hleaf : xs.all IV.leaf=true:=by simpa using hleaf
  obtain ⟨hxl,hlen,rcs,hcr,hf1,hf2⟩:=src_sound (P:=P) hs hsrc vx
  rw [← hesz] at hf1 hf2
  have hrl : rcs.size=n * esz:=by rw [← hcr.1,hxl]
  have hone : ∀ v∈rcs.toList,v.oneCell'=true:=fun q hq => by
   obtain ⟨k,hk,rfl⟩:=List.mem_iff_getElem.1 hq
   simp at hk
   have hk' : k < xs.length:=by rw [hcr.1]; exact hk
   have hl : (xs.getD k .undef).leaf=true:=by
    have:=List.all_eq_true.1 hleaf xs[k] (List.getElem_mem _)
    simpa [List.getD_eq_getElem?_getD,hk'] using this
   have:=(leaf_one hl (hcr.2 k hk')).1
   rw [getD_of_lt _ _ _ hk] at this
   simpa using this
  -- a new row whose first cells are those of 'cells'
  have fresh : ∀ (base : Option Addr) (sLen sCap : Nat) (olds : Array Value) (ocs : List IV) (ρ1 : Rho) (σ1 : Store),Sim E ρ1 w σ1→Ext n0 ρ w ρ1 w→NoBut id ρ ρ1→ρ1 id=.no→id < σ1.next→CR ρ1 w ocs olds→CR ρ1 w xs rcs→ocs.length=sLen * esz →
    (Builtin.firstCells i.size sLen (.slice base sLen sCap)).run P w.drew=.ok olds w.drew→sCap < sLen+n→sLen+n≤2147483648 →
    ∃ r ρ' w',(Builtin.append_ #[t,xt] ty #[.slice base sLen sCap,rx]).run P w=.ok r w'∧Sim E ρ' w' (σ1.put id (.row (ocs ++ xs)))∧VR ρ' w' (.slice id 0 (sLen+n) esz) r∧Ext n0 ρ w ρ' w'∧NoBut id ρ ρ':=by
   intro base sLen sCap olds ocs ρ1 σ1 hs1 hx1 hnb hno1 hlt1 hco hcx hol hfo hg hle
   obtain ⟨cap,rest,hcap,hrest,hrun⟩:=run_append_new (ty:=ty) (base:=base) ht hxt hi hz hb hlen hfo hf2 hg hle
   have hd:=sim_drew hs1
   have hxd:=ext_drew (ρ:=ρ1) (w:=w) 0
   have hor : OR (ρ1.put id (.at w.heap.size 0)) (w.drew.alloc (.cells (olds ++ rcs ++ rest) el)) w.heap.size 0 (.row (ocs ++ xs)):=by
    refine ⟨olds ++ rcs ++ rest,el,by show (w.heap.push _)[w.heap.size]? = _; simp,by simp [hco.1,hcx.1],fun k hk => ?_⟩
    have hxa : Ext 0 ρ1 w (ρ1.put id (.at w.heap.size 0)) (w.drew.alloc (.cells (olds ++ rcs ++ rest) el)):=hxd.trans (ext_alloc (n:=0) hno1 (Nat.zero_le _)) (Nat.le_refl _)
    rw [Nat.zero_add]
    simp only [List.length_append] at hk
    by_cases hk1 : k < ocs.length
    ·have:=(hco.2 k hk1).mono hxa
     have e1 : (ocs ++ xs).getD k .undef=ocs.getD k .undef:=by simp [List.getD_eq_getElem?_getD,List.getElem?_append,hk1]
     have hk2 : k < olds.size:=by rw [← hco.1]; exact hk1
     have e2 : (olds ++ rcs ++ rest).getD k undef=olds.getD k undef:=by
      simp [Array.getD_eq_getD_getElem?,Array.getElem?_append,hk2,Nat.lt_add_right _ hk2]
     rw [e1,e2]; exact this
    ·have hk3 : k - ocs.length < xs.length:=by omega
     have:=(hcx.2 (k - ocs.length) hk3).mono hxa
     have e1 : (ocs ++ xs).getD k .undef=xs.getD (k - ocs.length) .undef:=by simp [List.getD_eq_getElem?_getD,List.getElem?_append,hk1]
     have hk2 : ¬ (k < olds.size):=by rw [← hco.1]; exact hk1
     have hk4 : k < olds.size+rcs.size:=by rw [← hco.1,← hcx.1]; omega
     have e2 : (olds ++ rcs ++ rest).getD k undef=rcs.getD (k - ocs.length) undef:=by
      have hk5 : k - olds.size < rcs.size:=by rw [← hco.1]; omega
      simp [Array.getD_eq_getD_getElem?,Array.getElem?_append,hk2,hk5,hco.1]
     rw [e1,e2]; exact this
   refine ⟨_,ρ1.put id (.at w.heap.size 0),_,hrun,sim_new (w:=w.drew) (d:=0) hd hno1 hlt1 hor,?_,hx1.trans ((ext_drew n0).trans (ext_alloc (w:=w.drew) hno1 hn0) (Nat.le_refl _)) (Nat.le_refl _),hnb.trans (NoBut.put _ _ _)⟩
   refine .slice id 0 (sLen+n) esz w.heap.size 0 cap (olds ++ rcs ++ rest) el (0,0) (by simp [Rho.put]) (by show (w.heap.push _)[w.heap.size]? = _; simp) ?_ hcap
   have h1 : olds.size=sLen * esz:=by rw [← hco.1,hol]
   have h2 : (cap - (sLen+n)) * esz+(sLen+n) * esz=cap * esz:=by rw [← Nat.add_mul]; congr 1; omega
   rw [Nat.add_mul] at h2
   simp only [Array.size_append,hrest,hzs,h1,hrl]
   omega
  cases vs with
  | nilslice =>
   simp only at h
   split at h
   ·rename_i h0
    cases h
    subst h0
    exact ⟨_,ρ,w,run_append_zero ht hxt hi hlen hf1 (by simpa using hrl) (Nat.le_refl _),hs,.nilslice,Ext.refl _ _ _,NoBut.refl _ _⟩
   ·split at h
    ·rename_i h0 h1
     cases h
     have:=fresh none 0 0 #[] [] ρ σ hs (Ext.refl _ _ _) (NoBut.refl _ _) hno hlt ⟨rfl,fun i hi => by simp at hi⟩ hcr (by simp) (by simp [Builtin.firstCells]) (by omega) (by omega)
     simpa using this
    ·cases h
  | zslice ad =>
   simp only at h
   split at h
   ·rename_i h0
    cases h
    subst h0
    exact ⟨_,ρ,w,run_append_zero ht hxt hi hlen hf1 (by simpa using hrl) (Nat.le_refl _),hs,.zslice ad,Ext.refl _ _ _,NoBut.refl _ _⟩
   ·split at h
    ·rename_i h0 h1
     cases h
     have:=fresh (some ad) 0 0 #[] [] ρ σ hs (Ext.refl _ _ _) (NoBut.refl _ _) hno hlt ⟨rfl,fun i hi => by simp at hi⟩ hcr (by simp) (by simp [Builtin.firstCells,loadCells,loadCellsFrom]) (by omega) (by omega)
     simpa using this
    ·cases h
  | tnil =>
   simp only at h
   split at h
   ·rename_i h0
    cases h
    subst h0
    exact ⟨_,ρ,w,run_append_zero ht hxt hi hlen hf1 (by simpa using hrl) (Nat.le_refl _),hs,.tnil,Ext.refl _ _ _,NoBut.refl _ _⟩
   ·cases h
  | tslice es b o cap esz' sp vs hf hsz hc hv hle =>
   simp only at h
   split at h
   ·rename_i h0
    cases h
    subst h0
    exact ⟨_,ρ,w,run_append_zero ht hxt hi hlen hf1 (by simpa using hrl) hle,hs,.tslice es b o cap esz' sp vs hf hsz hc hv hle,Ext.refl _ _ _,NoBut.refl _ _⟩
   ·cases h
  | slice did off len e B d cap rc el' fz hid hbk hsz hle =>
   simp only at h
   obtain ⟨ob,hob,hor⟩:=hs.obj did B d hid
   rw [hob] at h
   cases ob with
   | row cs =>
    simp only at h
    split at h
    ·rename_i h0
     obtain ⟨rfl,h0⟩:=h0
     cases h
     subst h0
     exact ⟨_,ρ,w,run_append_zero ht hxt hi hlen hf1 (by simpa using hrl) hle,hs,.slice did off len e B d cap rc el' fz hid hbk hsz hle,Ext.refl _ _ _,NoBut.refl _ _⟩
    ·split at h
     ·rename_i h0 h1
      obtain ⟨rfl,h2,h3,h4⟩:=h1
      have hn1 : 0 < n:=by
       rcases Nat.eq_zero_or_pos n with hh | hh
       ·exact absurd ⟨rfl,hh⟩ h0
       ·exact hh
      cases h
      obtain ⟨rc',el2,hb2,hsz2,hvs⟩:=hor
      rw [hbk] at hb2
      cases hb2
      by_cases hfit : len+n≤cap
      ·-- in place
       have hcap : (len+n) * e≤cap * e:=Nat.mul_le_mul_right e hfit
       rw [Nat.add_mul] at hcap
       have hin:=run_append_in (ty:=ty) (B:=B) (o:=d+off) (sCap:=cap) ht hxt hi hlen hf1 hfit hbk (by rw [hrl,hesz]; omega) hone
       rw [hesz] at hin
       generalize hnew : (rc.toList.take (d+off+len * e) ++ rcs.toList ++ rc.toList.drop (d+off+len * e+rcs.toList.length)).toArray=new at hin
       have hnsz : new.size=rc.size:=by rw [← hnew]; simp; omega
       have hx:=ext_setRow (n:=0) (new:=new) hid hbk hnsz
       have hsim : Sim E ρ (w.setRow B new) (σ.put did (.row (cs ++ xs))):=by
        refine sim_setRow hs hid hbk hnsz ⟨new,el',setRow_heap w B rc new el' (0,0) hbk,?_,fun k hk => ?_⟩
        ·rw [hnsz]; simp [hxl]; omega
        ·simp only [List.length_append] at hk
         by_cases hk1 : k < cs.length
         ·have e1 : (cs ++ xs).getD k .undef=cs.getD k .undef:=by simp [List.getD_eq_getElem?_getD,List.getElem?_append,hk1]
          have e2 : new.getD (d+k) undef=rc.getD (d+k) undef:=by
           rw [← hnew,splice_getD _ _ _ _ (by simp; omega),if_neg (by omega)]
          rw [e1,e2]
          exact (hvs k hk1).mono hx
         ·have e1 : (cs ++ xs).getD k .undef=xs.getD (k - cs.length) .undef:=by simp [List.getD_eq_getElem?_getD,List.getElem?_append,hk1]
          have e2 : new.getD (d+k) undef=rcs.getD (k - cs.length) undef:=by
           rw [← hnew,splice_getD _ _ _ _ (by simp; omega),if_pos (by simp; omega),show d+k - (d+off+len * e)=k - cs.length from by omega]
           simp [Array.getD_eq_getD_getElem?,List.getD_eq_getElem?_getD]
          rw [e1,e2]
          exact (hcr.2 (k - cs.length) (by omega)).mono hx
       have hsim2:=sim_rename (off:=off) (cs:=cs ++ xs) hsim hid (by simp [Store.put]) hno hlt (by rw [List.length_append]; omega)
       have hxr:=ext_rename (n:=n0) (w:=w.setRow B new) (off:=off) hid hno hn0
       refine ⟨_,_,_,hin,?_,?_,(ext_setRow (n:=n0) (new:=new) hid hbk hnsz).trans hxr (Nat.le_refl _),(NoBut.kill hid _).trans (NoBut.put _ _ _)⟩
       ·have e1 : ((σ.put did (.row (cs ++ xs))).kill did).put id (.row ((cs ++ xs).drop off))=(σ.kill did).put id (.row (cs.drop off ++ xs)):=by
         rw [List.drop_append_of_le_length (by omega)]
         unfold Store.put Store.kill
         congr 1
         funext k
         simp only
         split
         ·rfl
         ·split
          ·rfl
          ·rename_i h5; simp [h5]
        rw [← e1]
        exact hsim2
       ·rw [show d+off=d+off+0 from rfl]
        exact .slice id 0 (len+n) e B (d+off) cap new el' (0,0) (by simp [Rho.put]) (setRow_heap w B rc new el' (0,0) hbk) (by rw [hnsz]; omega) hfit
      ·-- a new row
       have hk:=sim_kill hs hid
       have hkx:=ext_kill (n:=n0) (w:=w) hid
       have hne : id≠did:=fun e => by subst e; rw [hid] at hno; cases hno
       have hco : CR (ρ.put did .dead) w (cs.drop off) ((List.range (len * e)).map fun k => rc.getD (d+(off+k)) undef).toArray:=by
        refine ⟨by simp; omega,fun k hk' => ?_⟩
        simp at hk'
        rw [getD_drop',getD_of_lt _ _ _ (by simp; omega)]
        have:=(hvs (off+k) (by omega)).mono hkx
        simpa using this
       have hfo : (Builtin.firstCells i.size len (.slice (some ⟨B,d+off,none⟩) len cap)).run P w.drew=.ok ((List.range (len * e)).map fun k => rc.getD (d+(off+k)) undef).toArray w.drew:=by
        have hcell : ∀ k,k < len * e→w.drew.cell? ((⟨B,d+off,none⟩ : Addr).add k)=some (rc.getD (d+(off+k)) undef):=fun k hk => by
         rw [add_mk]
         show w.cell? _=_
         have hlt : d+off+k < rc.size:=by omega
         simp only [World.cell?,hbk,Option.isSome_none,Bool.false_eq_true,if_false]
         rw [getD_of_lt _ _ _ (by omega),Array.getElem?_eq_getElem hlt]
         congr 2
         omega
        have hl:=run_loadCells (P:=P) (w:=w.drew) ⟨B,d+off,none⟩ (len * e) (fun k => rc.getD (d+(off+k)) undef) hcell
        rw [hesz]
        simpa [Builtin.firstCells] using hl
       exact fresh (some ⟨B,d+off,none⟩) len cap _ _ _ _ hk hkx (NoBut.kill hid _) (by simp [Rho.put,hne,hno]) hlt hco ⟨hcr.1,fun k hk' => (hcr.2 k hk').mono hkx⟩ (by simp; omega) hfo (by omega) h3
     ·cases h
   | _ => simp at h
  | sliceZ did off e B d ad hid =>
   simp only at h
   obtain ⟨ob,hob,hor⟩:=hs.obj did B d hid
   rw [hob] at h
   cases ob with
   | row cs =>
    simp only at h
    split at h
    ·rename_i h0
     obtain ⟨rfl,h0⟩:=h0
     cases h
     subst h0
     exact ⟨_,ρ,w,run_append_zero ht hxt hi hlen hf1 (by simpa using hrl) (Nat.le_refl _),hs,.sliceZ did off e B d ad hid,Ext.refl _ _ _,NoBut.refl _ _⟩
    ·split at h
     ·rename_i h0 h1
      obtain ⟨rfl,h2,h3,h4⟩:=h1
      have hn1 : 0 < n:=by
       rcases Nat.eq_zero_or_pos n with hh | hh
       ·exact absurd ⟨rfl,hh⟩ h0
       ·exact hh
      cases h
      have hk:=sim_kill hs hid
      have hkx:=ext_kill (n:=n0) (w:=w) hid
      have hne : id≠did:=fun e => by subst e; rw [hid] at hno; cases hno
      have hd0 : cs.drop off=[]:=List.drop_of_length_le (by omega)
      rw [hd0]
      have:=fresh (some ad) 0 0 #[] [] _ _ hk hkx (NoBut.kill hid _) (by simp [Rho.put,hne,hno]) hlt ⟨rfl,fun i hi => by simp at hi⟩ ⟨hcr.1,fun k hk' => (hcr.2 k hk').mono hkx⟩ (by simp) (by simp [Builtin.firstCells,loadCells,loadCellsFrom]) (by omega) (by omega)
      simpa using this
     ·cases h
   | _ => simp at h
  | sliceD did off len e cap ad hid hle => simp [hs.dead did hid] at h
  | csliceD did off len e ad hid => simp [hs.dead did hid] at h
  | cslice did off len e B d rc el' fz hid hbk hsz =>
   simp only at h
   obtain ⟨ob,hob,hor⟩:=hs.obj did B d hid
   rw [hob] at h
   cases ob with
   | row cs =>
    simp only at h
    split at h
    ·rename_i h0
     obtain ⟨rfl,h0⟩:=h0
     cases h
     subst h0
     exact ⟨_,ρ,w,run_append_zero ht hxt hi hlen hf1 (by simpa using hrl) (Nat.le_refl _),hs,.slice did off len e B d len rc el' fz hid hbk hsz (Nat.le_refl _),Ext.refl _ _ _,NoBut.refl _ _⟩
    ·split at h
     ·rename_i h0 h1
      obtain ⟨rfl,h2,h3,h4⟩:=h1
      cases h
      obtain ⟨rc',el2,hb2,hsz2,hvs⟩:=hor
      rw [hbk] at hb2
      cases hb2
      have hco : CR ρ w ((cs.drop off).take (len * e)) ((List.range (len * e)).map fun k => rc.getD (d+(off+k)) undef).toArray:=by
       refine ⟨by simp; omega,fun k hk' => ?_⟩
       simp at hk'
       rw [getD_take' _ _ _ _ (by omega),getD_drop',getD_of_lt _ _ _ (by simp; omega)]
       have:=hvs (off+k) (by omega)
       simpa using this
      have hfo : (Builtin.firstCells i.size len (.slice (some ⟨B,d+off,none⟩) len len)).run P w.drew=.ok ((List.range (len * e)).map fun k => rc.getD (d+(off+k)) undef).toArray w.drew:=by
       have hcell : ∀ k,k < len * e→w.drew.cell? ((⟨B,d+off,none⟩ : Addr).add k)=some (rc.getD (d+(off+k)) undef):=fun k hk => by
        rw [add_mk]
        show w.cell? _=_
        have hlt : d+off+k < rc.size:=by omega
        simp only [World.cell?,hbk,Option.isSome_none,Bool.false_eq_true,if_false]
        rw [getD_of_lt _ _ _ (by omega),Array.getElem?_eq_getElem hlt]
        congr 2
        omega
       have hl:=run_loadCells (P:=P) (w:=w.drew) ⟨B,d+off,none⟩ (len * e) (fun k => rc.getD (d+(off+k)) undef) hcell
       rw [hesz]
       simpa [Builtin.firstCells] using hl
      exact fresh (some ⟨B,d+off,none⟩) len len _ _ ρ σ hs (Ext.refl _ _ _) (NoBut.refl _ _) hno hlt hco hcr (by simp; omega) hfo (by omega) h3
     ·cases h
   | _ => simp at h
  | _ => simp at h
end Go.Id
/- Maps,made and written. Conditions: none; over any program. -/
namespace Go.Id
open Go
variable {P : Program} {w w' : World} {ρ ρ' : Rho} {E : Nat→IV} {σ : Store} {N : Nat} {fr : Frm} {a : Act}
theorem putObj_eq (w : World) (r b : Nat) (o : Obj) (h : b≠r) : (w.putObj r o).heap[b]? = w.heap[b]?:=World.putObj_heap_other h
theorem ext_putObj {n id B d : Nat} {old o : Obj} (hid : ρ id=.at B d) (hb : w.heap[B]? = some old) (hc : ∀ rcs el fz,old≠.cells rcs el fz) (hl : ∀ L,old≠.loop L) : Ext n ρ w ρ (w.putObj B o) where
 size:=by rw [World.putObj_size]; exact Nat.le_refl _
 keep:=fun b hfb => putObj_eq w B b o (fun h => by subst h; exact hfb.2 id d hid)
 shape:=fun b rcs el' fz' hb' => by
  by_cases h : b=B
  ·subst h; rw [hb] at hb'; exact absurd (Option.some.inj hb') (hc _ _ _)
  ·exact ⟨rcs,by rw [putObj_eq w B b o h]; exact hb',rfl⟩
 img:=fun i B' d' h => .inl ⟨i,d',h⟩
 at_:=fun _ _ _ h => .inl h
 dead:=fun _ h => h
 no:=fun _ _ h => h
 output:=rfl
 os:=rfl
 tape:=rfl
 loops:=fun l L h => by
  by_cases h' : l=B
  ·subst h'; rw [hb] at h; exact absurd (Option.some.inj h) (hl L)
  ·exact ⟨L,by rw [putObj_eq w B l o h']; exact h⟩
 X:=rfl
theorem sim_putObj {id B d : Nat} {old ro : Obj} {o : IObj} (hs : Sim E ρ w σ) (hid : ρ id=.at B d) (hb : w.heap[B]? = some old) (hc : ∀ rcs el fz,old≠.cells rcs el fz) (hl : ∀ L,old≠.loop L)
  (ho : OR ρ (w.putObj B ro) B d o) : Sim E ρ (w.putObj B ro) (σ.put id o) where
 inj:=hs.inj
 lt:=fun i B' d' h => by rw [World.putObj_size]; exact hs.lt i B' d' h
 obj:=fun i B' d' hi => by
  simp only [Store.put]
  by_cases h : i=id
  ·subst h
   rw [hid] at hi
   cases hi
   exact ⟨o,by simp,ho⟩
  ·obtain ⟨o',h1,h2⟩:=hs.obj i B' d' hi
   have hne : B'≠B:=fun e => h (hs.inj i id B d' d (by rw [hi,e]) hid)
   exact ⟨o',by simp [h,h1],h2.mono (ext_putObj (n:=0) hid hb hc hl) (putObj_eq w B B' ro hne)⟩
 dead:=fun i hi => by
  have : i≠id:=fun e => by subst e; rw [hid] at hi; cases hi
  simp [Store.put,this,hs.dead i hi]
 fresh:=fun i hi => hs.fresh i hi
 noObj:=fun i hi => by
  have : i≠id:=fun e => by subst e; rw [hid] at hi; cases hi
  simp [Store.put,this,hs.noObj i hi]
 env:=fun g => (hs.env g).mono (ext_putObj (n:=0) hid hb hc hl)
 nx:=hs.nx
 xlt:=fun b hX => by rw [World.putObj_size]; exact hs.xlt b hX
/-! ### A new map -/
theorem mkmap_case {t : TypeId} {id n : Nat} (hs : Sim E ρ w σ) (hno : ρ id=.no) (hlt : id < σ.next) (hn : n≤id) :
  Acts P E id n ρ w a (.makeMap t none) (.map id) (σ.put id (.map [])):=by
 intro o ho
 refine ⟨.value (.map (some w.heap.size)),.map (some w.heap.size),ρ.put id (.at w.heap.size 0),w.alloc (.map #[] 0),?_,.inl rfl,sim_new hs hno hlt ?_,.map id w.heap.size 0 (by simp [Rho.put]),ext_alloc hno hn,NoBut.put _ _ _⟩
 ·unfold execOp
  rw [ho]
  simp [Instr.makeMap]
 ·exact ⟨#[],0,by show (w.heap.push _)[w.heap.size]? = _; simp,rfl,rfl,fun i hi => by simp at hi,fun i hi => by simp at hi,fun i j _ hj => by simp at hj⟩
/-! ### An entry written -/
def updL (tag : Nat) (k v : IV) : List (IV × IV)→Option (List (IV × IV))
 | [] => match kOK tag k with
  | true => some [(k,v)]
  | false => none
 | e :: es => match keyEq tag k e.1 with
  | some true => some ((k,v) :: es)
  | some false => (updL tag k v es).map (e :: ·)
  | none => none
def mapUpdI (σ : Store) (tag : Nat) (x k v : IV) : Option Store :=
 match x with
 | .map id => match σ.obj id with
  | some (.map es) => (updL tag k v es).map fun es' => σ.put id (.map es')
  | _ => none
 | _ => none
theorem upd_kok {tag : Nat} {k v : IV} {es es' : List (IV × IV)} (h : updL tag k v es=some es') : kOK tag k=true:=by
 cases es with
 | nil =>
  simp only [updL] at h
  split at h
  ·assumption
  ·cases h
 | cons e es =>
  simp only [updL] at h
  cases hq : keyEq tag k e.1 with
  | none => rw [hq] at h; cases h
  | some b => exact kOK_of hq
theorem upd_idx {tag : Nat} {k v : IV} : ∀ (es es' : List (IV × IV)),updL tag k v es=some es'→∃ q : Option Nat,(q=none→∀ e∈es,keyEq tag k e.1=some false)∧(∀ j,q=some j→j < es.length∧keyEq tag k (es.getD j (.undef,.undef)).1=some true∧∀ i,i < j→keyEq tag k (es.getD i (.undef,.undef)).1=some false) ∧
  es'=(match q with | none => es ++ [(k,v)] | some j => es.set j (k,v)):=by
 intro es
 induction es with
 | nil =>
  intro es' h
  refine ⟨none,(fun _ e he => by cases he),(fun j hj => by cases hj),?_⟩
  simp only [updL] at h
  split at h <;> cases h
  rfl
 | cons e es ih =>
  intro es' h
  simp only [updL] at h
  cases hq : keyEq tag k e.1 with
  | none => rw [hq] at h; cases h
  | some b =>
   rw [hq] at h
   cases b with
   | true => cases h; exact ⟨some 0,(fun h => by cases h),(fun j hj => by cases hj; exact ⟨by simp,by simpa using hq,fun i hi => absurd hi (Nat.not_lt_zero _)⟩),rfl⟩
   | false =>
    obtain ⟨es2,h3,h4⟩:=map_some h
    subst h4
    obtain ⟨q,h1,h2,h3⟩:=ih es2 h3
    refine ⟨q.map (·+1),fun h => ?_,fun j hj => ?_,?_⟩
    ·cases q with
     | none => intro x hx; rcases List.mem_cons.1 hx with rfl | hx; exact hq; exact h1 rfl x hx
     | some j => cases h
    ·cases q with
     | none => cases hj
     | some j0 =>
      cases hj
      obtain ⟨g1,g2,g3⟩:=h2 j0 rfl
      refine ⟨by simpa using g1,by simpa using g2,fun i hi => ?_⟩
      have hi : i < j0+1:=hi
      cases i with
      | zero => simpa using hq
      | succ i => have:=g3 i (by omega); simpa using this
    ·rw [h3]; cases q <;> simp
theorem same_leaf {tag : Nat} {k e : IV} {rk re : Value} (m : Nat) (h : leafEq tag k e=some true) (hk : VR ρ w k rk) (he : VR ρ w e re) : re=rk∧Instr.sameBits m re rk=true:=by
 unfold leafEq at h
 split at h
 ·cases hk; cases he; simp at h; subst h; exact ⟨rfl,by simp [Instr.sameBits]⟩
 ·cases hk; cases he
  split at h
  ·rename_i hkk; simp at h; subst h; subst hkk; exact ⟨rfl,by simp [Instr.sameBits]⟩
  ·cases h
 ·cases hk; cases he; simp at h; subst h; exact ⟨rfl,by simp [Instr.sameBits,ba_beq]⟩
 ·cases h
theorem same_key {tag : Nat} {k e : IV} {rk re : Value} (h : keyEq tag k e=some true) (hk : VR ρ w k rk) (he : VR ρ w e re) : re=rk∧Instr.sameBits 10000 re rk=true:=by
 by_cases h3 : tag < 3
 ·rw [keyEq_lt h3] at h; exact same_leaf _ h hk he
 ·obtain ⟨n,rfl⟩ : ∃ n,tag=n+3:=⟨tag - 3,by omega⟩
  obtain ⟨xs,ys,rfl,rfl,h1⟩:=keyEq_agg h
  obtain ⟨ks,as,bs,l1,l2,l3,rfl,rfl,hb⟩:=allEq_ints h1
  have hab : as=bs:=by simpa using hb
  subst hab
  generalize hxs : (ks.zip as).map (fun p => IV.int p.1 p.2)=xs at hk he
  have hint : ∀ x∈xs,∃ k n,x=.int k n:=by
   subst hxs
   intro x hx
   obtain ⟨p,_,rfl⟩:=List.mem_map.1 hx
   exact ⟨_,_,rfl⟩
  cases hk with
  | agg _ rxs hx vx =>
   cases he with
   | agg _ rys hy vy =>
    have hall : ∀ i,i < rxs.size→∃ k n,rxs[i]? = some (.int k n)∧rys[i]? = some (.int k n):=by
     intro i hi
     have hi2 : i < xs.length:=by omega
     obtain ⟨k,n,hkn⟩:=hint (xs.getD i .undef) (by rw [List.getD_eq_getElem?_getD,List.getElem?_eq_getElem hi2]; exact List.getElem_mem hi2)
     have v1:=vx i hi2
     have v2:=vy i hi2
     rw [hkn] at v1 v2
     have e1 : rxs.getD i undef=.int k n:=by
      generalize rxs.getD i undef=z at v1
      cases v1; rfl
     have e2 : rys.getD i undef=.int k n:=by
      generalize rys.getD i undef=z at v2
      cases v2; rfl
     refine ⟨k,n,?_,?_⟩
     ·rw [getD_of_lt _ _ _ hi] at e1; rw [Array.getElem?_eq_getElem hi,e1]
     ·rw [getD_of_lt _ _ _ (by omega)] at e2; rw [Array.getElem?_eq_getElem (by omega),e2]
    have heq : rys=rxs:=by
     apply Array.ext_getElem?
     intro i
     by_cases hi : i < rxs.size
     ·obtain ⟨k,n,h1,h2⟩:=hall i hi; rw [h1,h2]
     ·rw [Array.getElem?_eq_none (by omega),Array.getElem?_eq_none (by omega)]
    subst heq
    refine ⟨rfl,?_⟩
    rw [show (10000 : Nat)=9999+1 from rfl,Instr.sameBits]
    simp only [beq_self_eq_true,Bool.true_and,List.all_eq_true]
    intro p hp
    obtain ⟨i,hi,hpi⟩:=List.mem_iff_getElem.1 hp
    simp only [List.length_zip,Array.length_toList,Nat.min_self] at hi
    obtain ⟨k,n,h1,_⟩:=hall i hi
    have e1 : rys[i]=.int k n:=by rw [Array.getElem?_eq_getElem hi] at h1; exact Option.some.inj h1
    have : p=(rys[i],rys[i]):=by rw [← hpi]; simp
    rw [this,e1]
    simp [Instr.sameBits]
theorem mapUpd_case {t kt et : TypeId} {tag : Nat} {x k v : Operand} {ix ik iv : IX} {n id0 : Nat} {σ' : Store} (hu : P.underlying t=some (.map kt et)) (ht : keyT P kt=some tag)
  (hx : cmpX x=some ix) (hk : cmpX k=some ik) (hv : cmpX v=some iv) (h : mapUpdI σ tag (ix.ev E fr) (ik.ev E fr) (iv.ev E fr)=some σ')
  (hs : Sim E ρ w σ) (hf : FR ρ w N fr a.tmps) : Acts P E id0 n ρ w a (.mapUpdate t x k v) .undef σ':=by
 intro o ho
 have vx:=cmpX_sound hx hs hf
 have vk:=cmpX_sound hk hs hf
 have vv:=cmpX_sound hv hs hf
 generalize ix.ev E fr=ax at vx h
 generalize ik.ev E fr=ak at vk h
 generalize iv.ev E fr=av at vv h
 generalize hrx : a.eval x=rx at vx
 generalize hrk : a.eval k=rk at vk
 generalize hrv : a.eval v=rv at vv
 cases vx with
 | map id B dd hid =>
  simp only [mapUpdI] at h
  obtain ⟨ob,hob,hor⟩:=hs.obj id B dd hid
  rw [hob] at h
  cases ob with
  | map es =>
   simp only at h
   obtain ⟨es',hes',rfl⟩:=map_some h
   obtain ⟨mes,clock,g1,g0,g2,g3,g4,g5⟩:=hor
   have toL : ∀ (i : Nat),mes.toList.getD i default=mes.getD i default:=fun i => by simp [List.getD_eq_getElem?_getD,Array.getD_eq_getD_getElem?]
   have hE : EsR ρ w es mes.toList:=⟨by simpa using g2,fun i hi => by rw [toL]; exact g3 i hi⟩
   obtain ⟨r',q1,q2,h2⟩:=upd_idx es es' hes'
   have hck : ∀ b,(Instr.checkKey b 10000 kt rk).run P w=.ok () w:=fun b => checkKey_run ht (upd_kok hes') vk
   have h1:=find_run ht vk es mes.toList hE r' q1 q2
   have hg : (getObj B).run P w=.ok (.map mes clock) w:=by simp [getObj,Sem.run,g1]
   have hset : ∀ o,(setObj B o).run P w=.ok () (w.putObj B o):=fun o => by simp [setObj,Sem.run,g1,World.putObj]
   have hlt:=hs.lt id B dd hid
   have nc : ∀ (rcs : Array Value) (el : TypeId) (fz : Nat × Nat),Obj.map mes clock≠.cells rcs el fz:=fun _ _ _ h => by cases h
   have nl : ∀ L,Obj.map mes clock≠.loop L:=fun _ h => by cases h
   have hx : ∀ (n : Nat) (o : Obj),Ext n ρ w ρ (w.putObj B o):=fun n o => ext_putObj hid g1 nc nl
   have fin : ∀ (mes' : Array MapEntry) (clock' : Nat),(Instr.mapUpdate t (.map (some B)) rk rv).run P w=.ok () (w.putObj B (.map mes' clock'))→es'.length=mes'.size →
     (∀ i,i < es'.length→VR ρ w (es'.getD i (.undef,.undef)).1 (mes'.getD i default).key∧VR ρ w (es'.getD i (.undef,.undef)).2 (mes'.getD i default).val) →
     (∀ i,i < mes'.size→(mes'.getD i default).born < clock')→(∀ i j,i < j→j < mes'.size→(mes'.getD i default).born≠(mes'.getD j default).born) →
     ∃ (x : Next) (r : Value) (ρ' : Rho) (w' : World),(execOp a.eval o).run P w=.ok x w'∧((x=.value r) ∨ (x=.skip∧r=undef))∧Sim E ρ' w' (σ.put id (.map es'))∧VR ρ' w' .undef r∧Ext n ρ w ρ' w'∧NoBut id0 ρ ρ':=by
    intro mes' clock' hrun hl hvs hb1 hb2
    refine ⟨.skip,undef,ρ,w.putObj B (.map mes' clock'),?_,.inr ⟨rfl,rfl⟩,sim_putObj hs hid g1 nc nl ?_,.undef _,hx n _,NoBut.refl _ _⟩
    ·unfold execOp
     rw [ho]
     simp only [hrx,hrk,hrv,Sem.run_bind,hrun,Result.andThen_ok]
     rfl
    ·exact ⟨mes',clock',World.putObj_heap_same hlt,g0,hl,fun i hi => ⟨(hvs i hi).1.mono (hx 0 _),(hvs i hi).2.mono (hx 0 _)⟩,hb1,hb2⟩
   cases r' with
   | none =>
    simp only at h2
    subst h2
    refine fin (mes.push { key:=rk,val:=rv,born:=clock }) (clock+1) ?_ (by simp [g2]) ?_ ?_ ?_
    ·simp [Instr.mapUpdate,run_underlying hu,hg,hck,h1,hset]
    ·intro i hi
     by_cases hi2 : i < es.length
     ·have e1 : (es ++ [(ak,av)]).getD i (.undef,.undef)=es.getD i (.undef,.undef):=by simp [List.getD_eq_getElem?_getD,List.getElem?_append,hi2]
      have e2 : (mes.push { key:=rk,val:=rv,born:=clock }).getD i default=mes.getD i default:=by
       have : i < mes.size:=by omega
       have h3 : i≠mes.size:=by omega
       simp [Array.getD_eq_getD_getElem?,Array.getElem?_push,h3]
      rw [e1,e2]; exact g3 i hi2
     ·have hie : i=es.length:=by simp at hi; omega
      subst hie
      have e1 : (es ++ [(ak,av)]).getD es.length (.undef,.undef)=(ak,av):=by simp [List.getD_eq_getElem?_getD]
      have e2 : (mes.push { key:=rk,val:=rv,born:=clock }).getD es.length default={ key:=rk,val:=rv,born:=clock }:=by
       rw [g2]; simp [Array.getD_eq_getD_getElem?]
      rw [e1,e2]; exact ⟨vk,vv⟩
    ·intro i hi
     by_cases hi2 : i < mes.size
     ·have e2 : (mes.push { key:=rk,val:=rv,born:=clock }).getD i default=mes.getD i default:=by
       have h3 : i≠mes.size:=by omega
       simp [Array.getD_eq_getD_getElem?,Array.getElem?_push,h3]
      rw [e2]; have:=g4 i hi2; omega
     ·have hie : i=mes.size:=by simp at hi; omega
      subst hie
      simp [Array.getD_eq_getD_getElem?]
    ·intro i j hij hj
     have hi2 : i < mes.size:=by simp at hj; omega
     have e2 : (mes.push { key:=rk,val:=rv,born:=clock }).getD i default=mes.getD i default:=by
      have h3 : i≠mes.size:=by omega
      simp [Array.getD_eq_getD_getElem?,Array.getElem?_push,h3]
     rw [e2]
     by_cases hj2 : j < mes.size
     ·have e3 : (mes.push { key:=rk,val:=rv,born:=clock }).getD j default=mes.getD j default:=by
       have h3 : j≠mes.size:=by omega
       simp [Array.getD_eq_getD_getElem?,Array.getElem?_push,h3]
      rw [e3]; exact g5 i j hij hj2
     ·have hje : j=mes.size:=by simp at hj; omega
      subst hje
      have e3 : (mes.push { key:=rk,val:=rv,born:=clock }).getD mes.size default={ key:=rk,val:=rv,born:=clock }:=by simp [Array.getD_eq_getD_getElem?]
      rw [e3]; have:=g4 i hi2; show (mes.getD i default).born≠clock; omega
   | some j =>
    obtain ⟨q2,q4,_⟩:=q2 j rfl
    simp only at h2
    subst h2
    obtain ⟨k1,k2⟩:=same_key q4 vk (g3 j q2).1
    have hjm : j < mes.size:=by omega
    have hgd : ∀ (i : Nat),(mes.modify j fun e => { e with key:=rk,val:=rv }).getD i default=if i=j then { mes.getD j default with key:=rk,val:=rv } else mes.getD i default:=by
     intro i
     by_cases hij : i=j
     ·subst hij; simp [Array.getD_eq_getD_getElem?,Array.getElem_modify,hjm]
     ·have : ¬ j=i:=fun e => hij e.symm
      simp [Array.getD_eq_getD_getElem?,Array.getElem?_modify,hij,this]
    have hborn : ∀ (i : Nat),((mes.modify j fun e => { e with key:=rk,val:=rv }).getD i default).born=(mes.getD i default).born:=by
     intro i
     rw [hgd i]
     by_cases hij : i=j
     ·subst hij; rw [if_pos rfl]
     ·rw [if_neg hij]
    refine fin (mes.modify j fun e => { e with key:=rk,val:=rv }) clock ?_ (by simp [g2]) ?_ ?_ ?_
    ·have hkk : ((mes[j]?).map (·.key)).getD rk=rk:=by
      have : (mes[j]?).map (·.key)=some (mes.getD j default).key:=by simp [Array.getD_eq_getD_getElem?,hjm]
      rw [this,k1]; rfl
     have hk3 : Instr.sameBits 10000 rk rk=true:=by rw [k1] at k2; exact k2
     simp [Instr.mapUpdate,run_underlying hu,hg,hck,h1,hset,Instr.keyThatStays,hkk,hk3]
    ·intro i hi
     simp only [List.length_set] at hi
     rw [hgd i]
     by_cases hij : i=j
     ·subst hij
      have e1 : (es.set i (ak,av)).getD i (.undef,.undef)=(ak,av):=by simp [List.getD_eq_getElem?_getD,hi]
      rw [e1,if_pos rfl]; exact ⟨vk,vv⟩
     ·have : ¬ j=i:=fun e => hij e.symm
      have e1 : (es.set j (ak,av)).getD i (.undef,.undef)=es.getD i (.undef,.undef):=by simp [List.getD_eq_getElem?_getD,List.getElem?_set,this]
      rw [e1,if_neg hij]; exact g3 i hi
    ·intro i hi
     rw [hborn i]
     simp only [Array.size_modify] at hi
     exact g4 i hi
    ·intro i i2 hij hj
     simp only [Array.size_modify] at hj
     rw [hborn i,hborn i2]
     exact g5 i i2 hij hj
  | _ => simp at h
 | mapD id B hid => simp [mapUpdI,hs.dead id hid] at h
 | _ => simp [mapUpdI] at h
/-! ### A string,ranged over -/
theorem srange_case {t : TypeId} {x : Operand} {ix : IX} {s : List UInt8} {id n : Nat} (hu : P.underlying t=some .string) (hx : cmpX x=some ix) (he : ix.ev E fr=.str s) (hs : Sim E ρ w σ) (hf : FR ρ w N fr a.tmps) (hno : ρ id=.no) (hlt : id < σ.next) (hn : n≤id) :
  Acts P E id n ρ w a (.range t x) (.ptr id 0) (σ.put id (.siter s 0)):=by
 intro o ho
 have vx:=cmpX_sound hx hs hf
 rw [he] at vx
 generalize hrx : a.eval x=rx at vx
 cases vx with
 | str _ =>
  refine ⟨.value (.pointer (some ⟨w.heap.size,0,none⟩)),.pointer (some ⟨w.heap.size,0,none⟩),ρ.put id (.at w.heap.size 0),w.alloc (.stringIter ⟨s.toArray⟩ 0),?_,.inl rfl,sim_new hs hno hlt ?_,.ptr id 0 w.heap.size 0 (by simp [Rho.put]),ext_alloc hno hn,NoBut.put _ _ _⟩
  ·unfold execOp
   rw [ho]
   simp [Instr.range,run_underlying hu,hrx]
  ·exact ⟨by show (w.heap.push _)[w.heap.size]? = _; simp,rfl⟩
def snextI (σ : Store) : IV→Option (IV × Store)
 | .ptr id off => if off=0 then match σ.obj id with
  | some (.siter s pos) => if pos < s.length then some (.tuple [.bool true,.int .i64 pos,.int .i32 (Utf8.decode ⟨s.toArray⟩ pos).1],σ.put id (.siter s (pos+(Utf8.decode ⟨s.toArray⟩ pos).2))) else some (.tuple [.bool false],σ)
  | _ => none
  else none
 | _ => none
theorem snextI_next {x v : IV} {σ' : Store} (h : snextI σ x=some (v,σ')) : σ'.next=σ.next:=by
 unfold snextI at h
 split at h
 ·split at h
  ·split at h
   ·split at h <;> cases h <;> rfl
   ·cases h
  ·cases h
 ·cases h
theorem snext_case {x : Operand} {ix : IX} {id0 n : Nat} {v : IV} {σ' : Store} (hx : cmpX x=some ix) (h : snextI σ (ix.ev E fr)=some (v,σ')) (hs : Sim E ρ w σ) (hf : FR ρ w N fr a.tmps) :
  Acts P E id0 n ρ w a (.next x true) v σ':=by
 intro o ho
 have vx:=cmpX_sound hx hs hf
 generalize ix.ev E fr=ax at vx h
 generalize hrx : a.eval x=rx at vx
 cases vx with
 | ptr id off B d hid =>
  simp only [snextI] at h
  by_cases h0 : off=0
  ·subst h0
   rw [if_pos rfl] at h
   obtain ⟨ob,hob,hor⟩:=hs.obj id B d hid
   rw [hob] at h
   cases ob with
   | siter s pos =>
    obtain ⟨g1,rfl⟩:=hor
    have hg : (getObj B).run P w=.ok (.stringIter ⟨s.toArray⟩ pos) w:=by simp [getObj,Sem.run,g1]
    have hset : ∀ o,(setObj B o).run P w=.ok () (w.putObj B o):=fun o => by simp [setObj,Sem.run,g1,World.putObj]
    have nc : ∀ (rcs : Array Value) (el : TypeId) (fz : Nat × Nat),Obj.stringIter ⟨s.toArray⟩ pos≠.cells rcs el fz:=fun _ _ _ h => by cases h
    have nl : ∀ L,Obj.stringIter ⟨s.toArray⟩ pos≠.loop L:=fun _ h => by cases h
    simp only at h
    split at h
    ·rename_i hlt
     cases h
     refine ⟨.value (.tuple #[.bool true,.int .i64 pos,.int .i32 (Utf8.decode ⟨s.toArray⟩ pos).1]),.tuple #[.bool true,.int .i64 pos,.int .i32 (Utf8.decode ⟨s.toArray⟩ pos).1],ρ,w.putObj B (.stringIter ⟨s.toArray⟩ (pos+(Utf8.decode ⟨s.toArray⟩ pos).2)),?_,.inl rfl,
      sim_putObj hs hid g1 nc nl ⟨World.putObj_heap_same (hs.lt id B 0 hid),rfl⟩,?_,ext_putObj hid g1 nc nl,NoBut.refl _ _⟩
     ·unfold execOp
      rw [ho]
      have hsz : pos < (ByteArray.mk s.toArray).size:=by rw [size_mk]; exact hlt
      simp [Instr.next,hrx,hg,hsz,hset,goInt]
     ·refine .tuple _ _ rfl fun i hi => ?_
      match i,hi with
      | 0,_ => exact .bool true
      | 1,_ => exact .int _ _
      | 2,_ => exact .int _ _
    ·rename_i hlt
     cases h
     refine ⟨.value (.tuple #[.bool false]),.tuple #[.bool false],ρ,w,?_,.inl rfl,hs,?_,Ext.refl _ _ _,NoBut.refl _ _⟩
     ·unfold execOp
      rw [ho]
      have hsz : ¬ pos < (ByteArray.mk s.toArray).size:=by rw [size_mk]; exact hlt
      simp [Instr.next,hrx,hg,hsz]
     ·refine .tuple _ _ rfl fun i hi => ?_
      match i,hi with
      | 0,_ => exact .bool false
   | _ => cases h
  ·rw [if_neg h0] at h; cases h
 | ptrD id off ad hid =>
  simp only [snextI,hs.dead id hid] at h
  split at h <;> cases h
 | _ => cases h
end Go.Id
/- What a value names; blocks that are let go become trees. Conditions: none; over any program. -/
namespace Go.Id
open Go
variable {P : Program} {w w' w'' : World} {ρ ρ' ρ'' : Rho} {E : Nat→IV} {σ σ' : Store} {N n n' : Nat} {S : Nat→Prop}
inductive Nm (S : Nat→Prop) : IV→Prop
 | undef : Nm S .undef
 | bool (b : Bool) : Nm S (.bool b)
 | int (k : IntKind) (x : Int) : Nm S (.int k x)
 | str (s : List UInt8) : Nm S (.str s)
 | nilptr : Nm S .nilptr
 | ptr (id off : Nat) (h : S id) : Nm S (.ptr id off)
 | tptr (cs : List IV) (h : ∀ c∈cs,Nm S c) : Nm S (.tptr cs)
 | nilslice : Nm S .nilslice
 | zslice : Nm S .zslice
 | eslice : Nm S .eslice
 | slice (id off len esz : Nat) (h : S id) : Nm S (.slice id off len esz)
 | tslice (es : List (List IV)) (h : ∀ e∈es,∀ c∈e,Nm S c) : Nm S (.tslice es)
 | nilmap : Nm S .nilmap
 | map (id : Nat) (h : S id) : Nm S (.map id)
 | tmap (es : List (IV × IV)) (h1 : ∀ e∈es,Nm S e.1) (h2 : ∀ e∈es,Nm S e.2) : Nm S (.tmap es)
 | func (fn : Fn) (first cap : List IV) (h1 : ∀ c∈first,Nm S c) (h2 : ∀ c∈cap,Nm S c) : Nm S (.func fn first cap)
 | yield (id : Nat) (h : S id) : Nm S (.yield id)
 | nilfunc : Nm S .nilfunc
 | iface (t : Nat) (v : IV) (h : Nm S v) : Nm S (.iface t v)
 | niliface : Nm S .niliface
 | agg (cs : List IV) (h : ∀ c∈cs,Nm S c) : Nm S (.agg cs)
 | tuple (cs : List IV) (h : ∀ c∈cs,Nm S c) : Nm S (.tuple cs)
 | cslice (id off len esz : Nat) (h : S id) : Nm S (.cslice id off len esz)
 | rslice (id off len room esz : Nat) (h : S id) : Nm S (.rslice id off len room esz)
theorem mem_getD {α : Type} {l : List α} {c d : α} (h : c∈l) : ∃ i,i < l.length∧l.getD i d=c:=by
 obtain ⟨i,hi,he⟩:=List.mem_iff_getElem.1 h
 exact ⟨i,hi,by rw [List.getD_eq_getElem?_getD,List.getElem?_eq_getElem hi]; exact he⟩
theorem getD_mem {α : Type} {l : List α} {i : Nat} (d : α) (h : i < l.length) : l.getD i d∈l:=by
 rw [List.getD_eq_getElem?_getD,List.getElem?_eq_getElem h]; exact List.getElem_mem h
theorem VR.nm {v : IV} {r : Value} (hf : ∀ i,ρ i≠.no→S i) (h : VR ρ w v r) : Nm S v:=by
 induction h with
 | undef r => exact .undef
 | bool b => exact .bool b
 | int k n => exact .int k n
 | str s => exact .str s
 | nilptr => exact .nilptr
 | ptr id off B d hi => exact .ptr id off (hf _ (by rw [hi]; intro h; cases h))
 | ptrD id off ad hi => exact .ptr id off (hf _ (by rw [hi]; intro h; cases h))
 | tptr cs b o vs _ _ _ ih => exact .tptr cs fun c hc => let ⟨i,hi,he⟩:=mem_getD (d:=.undef) hc; he ▸ ih i hi
 | nilslice => exact .nilslice
 | zslice a => exact .zslice
 | eslice a c => exact .eslice
 | slice id off len esz B d cap rcs el fz hi _ _ _ => exact .slice id off len esz (hf _ (by rw [hi]; intro h; cases h))
 | sliceZ id off esz B d a hi => exact .slice id off 0 esz (hf _ (by rw [hi]; intro h; cases h))
 | sliceD id off len esz cap ad hi _ => exact .slice id off len esz (hf _ (by rw [hi]; intro h; cases h))
 | cslice id off len esz B d rcs el fz hi _ _ => exact .cslice id off len esz (hf _ (by rw [hi]; intro h; cases h))
 | csliceD id off len esz ad hi => exact .cslice id off len esz (hf _ (by rw [hi]; intro h; cases h))
 | rslice id off len room esz B d cap rcs el fz hi _ _ _ _ => exact .rslice id off len room esz (hf _ (by rw [hi]; intro h; cases h))
 | rsliceD id off len room esz cap ad hi _ _ => exact .rslice id off len room esz (hf _ (by rw [hi]; intro h; cases h))
 | tslice es b o cap esz sp vs _ hs _ _ _ ih =>
  refine .tslice es fun e he c hc => ?_
  obtain ⟨i,hi,hie⟩:=mem_getD (d:=[]) he
  subst hie
  obtain ⟨j,hj,hje⟩:=mem_getD (d:=.undef) hc
  rw [← hje]
  exact ih i hi j (by rw [← hs i hi]; exact hj)
 | tnil => exact .tslice [] (fun e he => by cases he)
 | nilmap => exact .nilmap
 | map id B d hi => exact .map id (hf _ (by rw [hi]; intro h; cases h))
 | mapD id B hi => exact .map id (hf _ (by rw [hi]; intro h; cases h))
 | tmap es es' b mes clock hp _ _ _ _ _ _ _ _ ihk ihv =>
  have he' : ∀ e∈es,e∈es':=fun e he => hp.symm.subset he
  exact .tmap es (fun e he => let ⟨i,hi,hie⟩:=mem_getD (d:=(.undef,.undef)) (he' e he); hie ▸ ihk i hi) (fun e he => let ⟨i,hi,hie⟩:=mem_getD (d:=(.undef,.undef)) (he' e he); hie ▸ ihv i hi)
 | func fn first cap rf rc _ _ _ _ _ ihf ihc =>
  exact .func fn first cap (fun c hc => let ⟨i,hi,he⟩:=mem_getD (d:=.undef) hc; he ▸ ihf i hi) (fun c hc => let ⟨i,hi,he⟩:=mem_getD (d:=.undef) hc; he ▸ ihc i hi)
 | yield id B d hi => exact .yield id (hf _ (by rw [hi]; intro h; cases h))
 | yieldD id B hi => exact .yield id (hf _ (by rw [hi]; intro h; cases h))
 | nilfunc => exact .nilfunc
 | iface t v r _ ih => exact .iface t v ih
 | niliface => exact .niliface
 | agg cs rs _ _ ih => exact .agg cs fun c hc => let ⟨i,hi,he⟩:=mem_getD (d:=.undef) hc; he ▸ ih i hi
 | tuple cs rs _ _ ih => exact .tuple cs fun c hc => let ⟨i,hi,he⟩:=mem_getD (d:=.undef) hc; he ▸ ih i hi
structure IsCut (S : Nat→Prop) (ρ ρ' : Rho) : Prop where
 on : ∀ i,S i→ρ' i=ρ i
 off : ∀ i,¬ S i→ρ' i=.no
 X : ∀ b,ρ'.X b→ρ.X b ∨ ∃ i d,¬ S i∧ρ i=.at b d
theorem IsCut.at {i B d : Nat} (hk : IsCut S ρ ρ') (h : ρ' i=.at B d) : S i∧ρ i=.at B d:=by
 by_cases hs : S i
 ·exact ⟨hs,by rw [← hk.on i hs]; exact h⟩
 ·rw [hk.off i hs] at h; cases h
theorem FB.cut {b : Nat} (hk : IsCut S ρ ρ') (h : FB ρ w b) : FB ρ' w b:=⟨h.1,fun i d hi => h.2 i d (hk.at hi).2,fun hx => (hk.X b hx).elim h.3 fun ⟨i,d,_,hi⟩ => h.2 i d hi⟩
theorem VR.cut {v : IV} {r : Value} (hk : IsCut S ρ ρ') (h : VR ρ w v r) : Nm S v→VR ρ' w v r:=by
 induction h with
 | undef r => exact fun _ => .undef r
 | bool b => exact fun _ => .bool b
 | int k n => exact fun _ => .int k n
 | str s => exact fun _ => .str s
 | nilptr => exact fun _ => .nilptr
 | ptr id off B d hi => intro hb; cases hb with | ptr _ _ h => exact .ptr id off B d (by rw [hk.on _ h]; exact hi)
 | ptrD id off ad hi => intro hb; cases hb with | ptr _ _ h => exact .ptrD id off ad (by rw [hk.on _ h]; exact hi)
 | tptr cs b o vs hf hc _ ih => intro hb; cases hb with | tptr _ h => exact .tptr cs b o vs (hf.cut hk) hc fun j hj => ih j hj (h _ (getD_mem _ hj))
 | nilslice => exact fun _ => .nilslice
 | zslice a => exact fun _ => .zslice a
 | eslice a c => exact fun _ => .eslice a c
 | slice id off len esz B d cap rcs el fz hi h1 h2 h3 => intro hb; cases hb with | slice _ _ _ _ h => exact .slice id off len esz B d cap rcs el fz (by rw [hk.on _ h]; exact hi) h1 h2 h3
 | sliceZ id off esz B d a hi => intro hb; cases hb with | slice _ _ _ _ h => exact .sliceZ id off esz B d a (by rw [hk.on _ h]; exact hi)
 | sliceD id off len esz cap ad hi hl => intro hb; cases hb with | slice _ _ _ _ h => exact .sliceD id off len esz cap ad (by rw [hk.on _ h]; exact hi) hl
 | cslice id off len esz B d rcs el fz hi h1 h2 => intro hb; cases hb with | cslice _ _ _ _ h => exact .cslice id off len esz B d rcs el fz (by rw [hk.on _ h]; exact hi) h1 h2
 | csliceD id off len esz ad hi => intro hb; cases hb with | cslice _ _ _ _ h => exact .csliceD id off len esz ad (by rw [hk.on _ h]; exact hi)
 | rslice id off len room esz B d cap rcs el fz hi h1 h2 h3 h4 => intro hb; cases hb with | rslice _ _ _ _ _ h => exact .rslice id off len room esz B d cap rcs el fz (by rw [hk.on _ h]; exact hi) h1 h2 h3 h4
 | rsliceD id off len room esz cap ad hi hl hr => intro hb; cases hb with | rslice _ _ _ _ _ h => exact .rsliceD id off len room esz cap ad (by rw [hk.on _ h]; exact hi) hl hr
 | tslice es b o cap esz sp vs hf hs hc _ hle ih =>
  intro hb
  cases hb with
  | tslice _ h => exact .tslice es b o cap esz sp vs (fun hne => ⟨((hf hne).1.cut hk),(hf hne).2⟩) hs hc (fun i hi j hj => ih i hi j hj (h _ (getD_mem _ hi) _ (getD_mem _ (by rw [hs i hi]; exact hj)))) hle
 | tnil => exact fun _ => .tnil
 | nilmap => exact fun _ => .nilmap
 | map id B d hi => intro hb; cases hb with | map _ h => exact .map id B d (by rw [hk.on _ h]; exact hi)
 | mapD id B hi => intro hb; cases hb with | map _ h => exact .mapD id B (by rw [hk.on _ h]; exact hi)
 | tmap es es' b mes clock hp hd hf hh hl _ _ h4 h5 ihk ihv =>
  intro hb
  cases hb with
  | tmap _ h1 h2 => exact .tmap es es' b mes clock hp hd (hf.cut hk) hh hl (fun i hi => ihk i hi (h1 _ (hp.subset (getD_mem _ hi)))) (fun i hi => ihv i hi (h2 _ (hp.subset (getD_mem _ hi)))) h4 h5
 | func fn first cap rf rc hy h1 h2 _ _ ihf ihc =>
  intro hb
  cases hb with
  | func _ _ _ b1 b2 => exact .func fn first cap rf rc hy h1 h2 (fun i hi => ihf i hi (b1 _ (getD_mem _ hi))) (fun i hi => ihc i hi (b2 _ (getD_mem _ hi)))
 | yield id B d hi => intro hb; cases hb with | yield _ h => exact .yield id B d (by rw [hk.on _ h]; exact hi)
 | yieldD id B hi => intro hb; cases hb with | yield _ h => exact .yieldD id B (by rw [hk.on _ h]; exact hi)
 | nilfunc => exact fun _ => .nilfunc
 | iface t v r _ ih => intro hb; cases hb with | iface _ _ h => exact .iface t v r (ih h)
 | niliface => exact fun _ => .niliface
 | agg cs rs h1 _ ih => intro hb; cases hb with | agg _ h => exact .agg cs rs h1 fun i hi => ih i hi (h _ (getD_mem _ hi))
 | tuple cs rs h1 _ ih => intro hb; cases hb with | tuple _ h => exact .tuple cs rs h1 fun i hi => ih i hi (h _ (getD_mem _ hi))
def isCells (σ : Store) (id : Nat) (cs : List IV) : Prop:=σ.obj id=some (.cells cs) ∨ σ.obj id=some (.row cs)
inductive Frz (σ : Store) (S : Nat→Prop) : IV→IV→Prop
 | keep (v : IV) (h : Nm S v) : Frz σ S v v
 | zs : Frz σ S .zslice (.tslice [])
 | es : Frz σ S .eslice (.tslice [])
 | nils : Frz σ S .nilslice (.tslice [])
 | ptr (id off : Nat) (cs cs' : List IV) (hid : ¬ S id) (ho : isCells σ id cs) (hl : off+cs'.length≤cs.length)
   (h : ∀ j,j < cs'.length→Frz σ S (cs.getD (off+j) .undef) (cs'.getD j .undef)) : Frz σ S (.ptr id off) (.tptr cs')
 | slice0 (id off esz : Nat) (h : σ.obj id≠none) : Frz σ S (.slice id off 0 esz) (.tslice [])
 | slice0e (id off esz : Nat) (h : σ.obj id≠none) : Frz σ S (.slice id off 0 esz) .eslice
 | slice (id off len esz : Nat) (cs : List IV) (es : List (List IV)) (hid : ¬ S id) (ho : isCells σ id cs) (hlen : es.length=len) (hle : off+len * esz≤cs.length) (hsz : ∀ i,i < len→(es.getD i []).length=esz)
   (h : ∀ i,i < len→∀ j,j < esz→Frz σ S (cs.getD (off+(i * esz+j)) .undef) ((es.getD i []).getD j .undef)) : Frz σ S (.slice id off len esz) (.tslice es)
 | tslice (es es' : List (List IV)) (hl : es'.length=es.length) (hs : ∀ i,i < es.length→(es'.getD i []).length=(es.getD i []).length)
   (h : ∀ i,i < es.length→∀ j,j < (es.getD i []).length→Frz σ S ((es.getD i []).getD j .undef) ((es'.getD i []).getD j .undef)) : Frz σ S (.tslice es) (.tslice es')
 | tptr (cs cs' : List IV) (hl : cs'.length=cs.length) (h : ∀ j,j < cs.length→Frz σ S (cs.getD j .undef) (cs'.getD j .undef)) : Frz σ S (.tptr cs) (.tptr cs')
 | map (id : Nat) (es es' et : List (IV × IV)) (hid : ¬ S id) (ho : σ.obj id=some (.map es)) (hl : es'.length=es.length) (hp : es'.Perm et) (hd : KeysOK et)
   (h1 : ∀ i,i < es.length→Frz σ S (es.getD i (.undef,.undef)).1 (es'.getD i (.undef,.undef)).1) (h2 : ∀ i,i < es.length→Frz σ S (es.getD i (.undef,.undef)).2 (es'.getD i (.undef,.undef)).2) : Frz σ S (.map id) (.tmap et)
 | func (fn : Fn) (first first' cap cap' : List IV) (hl1 : first'.length=first.length) (hl2 : cap'.length=cap.length) (h1 : ∀ i,i < first.length→Frz σ S (first.getD i .undef) (first'.getD i .undef)) (h2 : ∀ i,i < cap.length→Frz σ S (cap.getD i .undef) (cap'.getD i .undef)) : Frz σ S (.func fn first cap) (.func fn first' cap')
 | iface (t : Nat) (v v' : IV) (h : Frz σ S v v') : Frz σ S (.iface t v) (.iface t v')
 | agg (cs cs' : List IV) (hl : cs'.length=cs.length) (h : ∀ i,i < cs.length→Frz σ S (cs.getD i .undef) (cs'.getD i .undef)) : Frz σ S (.agg cs) (.agg cs')
 | tuple (cs cs' : List IV) (hl : cs'.length=cs.length) (h : ∀ i,i < cs.length→Frz σ S (cs.getD i .undef) (cs'.getD i .undef)) : Frz σ S (.tuple cs) (.tuple cs')
theorem cells_at {id B d : Nat} {cs : List IV} (hs : Sim E ρ w σ) (hi : ρ id=.at B d) (ho : isCells σ id cs) : CellsOR ρ w B d cs:=by
 obtain ⟨o,h1,h2⟩:=hs.obj id B d hi
 rcases ho with ho | ho <;> rw [ho] at h1 <;> cases h1 <;> exact h2
theorem no_cells {id : Nat} {cs : List IV} (h : σ.obj id=none) (ho : isCells σ id cs) : False:=by
 rcases ho with ho | ho <;> rw [ho] at h <;> cases h
theorem FB_cut {id B d : Nat} (hk : IsCut S ρ ρ') (hX : ρ'.X=ρ.X) (hs : Sim E ρ w σ) (hi : ρ id=.at B d) (hn : ¬ S id) : FB ρ' w B:=by
 refine ⟨hs.lt id B d hi,fun i d' h => ?_,by rw [hX]; exact hs.nx id B d hi⟩
 obtain ⟨h1,h2⟩:=hk.at h
 have:=hs.inj i id B d' d h2 hi
 exact hn (this ▸ h1)
theorem cellsD {B o : Nat} {rcs : Array Value} {el : TypeId} {fz : Nat × Nat} (h : w.heap[B]? = some (.cells rcs el fz)) (ho : o < rcs.size) : w.cell? ⟨B,o,none⟩=some (rcs.getD o undef):=by
 unfold World.cell?
 simp [h,ho]
theorem Frz.vr {v v' : IV} (hk : IsCut S ρ ρ') (hX : ρ'.X=ρ.X) (hs : Sim E ρ w σ) (h : Frz σ S v v') : ∀ r,VR ρ w v r→VR ρ' w v' r:=by
 induction h with
 | keep v hb => exact fun r hv => hv.cut hk hb
 | nils =>
  intro r hv
  cases hv with
  | nilslice => exact .tnil
 | zs =>
  intro r hv
  cases hv with
  | zslice a => obtain ⟨b,o,sp⟩:=a; exact .tslice [] b o 0 0 sp (fun _ _ => undef) (fun h => absurd rfl h) (fun i hi => by simp at hi) (fun i hi => by simp at hi) (fun i hi => by simp at hi) (by simp)
 | es =>
  intro r hv
  cases hv with
  | eslice a cp => obtain ⟨b,o,sp⟩:=a; exact .tslice [] b o cp 0 sp (fun _ _ => undef) (fun h => absurd rfl h) (fun i hi => by simp at hi) (fun i hi => by simp at hi) (fun i hi => by simp at hi) (by simp)
 | ptr id off cs cs' hid ho hl _ ih =>
  intro r hv
  cases hv with
  | ptr _ _ B d hi =>
   obtain ⟨rcs,el,h1,h2,h3⟩:=cells_at hs hi ho
   refine .tptr cs' B (d+off) (fun j => rcs.getD (d+off+j) undef) (FB_cut hk hX hs hi hid) (fun j hj => cellsD h1 (by omega)) (fun j hj => ih j hj _ ?_)
   have:=h3 (off+j) (by omega)
   rwa [← Nat.add_assoc] at this
  | ptrD _ _ ad hi => exact (no_cells (hs.dead _ hi) ho).elim
 | slice0 id off esz hob =>
  intro r hv
  cases hv with
  | slice _ _ _ _ B d cap rcs el fz hi h1 h2 h3 => exact .tslice [] B (d+off) cap 0 none (fun _ _ => undef) (fun h => absurd rfl h) (fun i hi => by simp at hi) (fun i hi => by simp at hi) (fun i hi => by simp at hi) (by simp)
  | sliceZ _ _ _ B d a hi => obtain ⟨b,o,sp⟩:=a; exact .tslice [] b o 0 0 sp (fun _ _ => undef) (fun h => absurd rfl h) (fun i hi => by simp at hi) (fun i hi => by simp at hi) (fun i hi => by simp at hi) (by simp)
  | sliceD _ _ _ _ cap ad hi hl => exact absurd (hs.dead _ hi) hob
 | slice0e id off esz hob =>
  intro r hv
  cases hv with
  | slice _ _ _ _ B d cap rcs el fz hi h1 h2 h3 => exact .eslice _ cap
  | sliceZ _ _ _ B d a hi => exact .eslice a 0
  | sliceD _ _ _ _ cap ad hi hl => exact .eslice ad cap
 | slice id off len esz cs es hid ho hlen hle hsz _ ih =>
  intro r hv
  cases hv with
  | slice _ _ _ _ B d cap rcs el fz hi g1 g2 g3 =>
   obtain ⟨rcs',el',h1,h2,h3⟩:=cells_at hs hi ho
   rw [← hlen]
   have key : ∀ i,i < es.length→∀ j,j < esz→off+(i * esz+j) < cs.length:=by
    intro i hi j hj
    have : (i+1) * esz≤len * esz:=Nat.mul_le_mul_right _ (by omega)
    rw [Nat.add_mul,Nat.one_mul] at this
    omega
   refine .tslice es B (d+off) cap esz none (fun i j => rcs'.getD (d+off+(i * esz+j)) undef) (fun _ => ⟨FB_cut hk hX hs hi hid,rfl⟩) (fun i hi => hsz i (by omega)) (fun i hi j hj => cellsD h1 (by have:=key i hi j hj; omega)) (fun i hi j hj => ih i (by omega) j hj _ ?_) (by omega)
   show VR ρ w _ (rcs'.getD (d+off+(i * esz+j)) undef)
   rw [Nat.add_assoc d off _]
   exact h3 (off+(i * esz+j)) (key i hi j hj)
  | sliceZ _ _ _ B d a hi =>
   have : es=[]:=List.length_eq_zero_iff.1 hlen
   subst this
   obtain ⟨b,o,sp⟩:=a
   exact .tslice [] b o 0 0 sp (fun _ _ => undef) (fun h => absurd rfl h) (fun i hi => by simp at hi) (fun i hi => by simp at hi) (fun i hi => by simp at hi) (by simp)
  | sliceD _ _ _ _ cap ad hi hl => exact (no_cells (hs.dead _ hi) ho).elim
 | tslice es es' hl hsz _ ih =>
  intro r hv
  cases hv with
  | tnil =>
   have : es'=[]:=List.length_eq_zero_iff.1 hl
   subst this
   exact .tnil
  | tslice _ b o cap esz sp vs hf hs' hc hv hle =>
   rw [← hl]
   refine .tslice es' b o cap esz sp vs (fun hne => ⟨((hf (fun e => hne (by subst e; exact List.length_eq_zero_iff.1 hl))).1.cut hk),(hf (fun e => hne (by subst e; exact List.length_eq_zero_iff.1 hl))).2⟩) (fun i hi => by rw [hsz i (by omega),hs' i (by omega)]) (fun i hi => hc i (by omega)) (fun i hi j hj => ih i (by omega) j (by rw [hs' i (by omega)]; exact hj) _ (hv i (by omega) j hj)) (by omega)
 | tptr cs cs' hl _ ih =>
  intro r hv
  cases hv with
  | tptr _ b o vs hf hc hv => exact .tptr cs' b o vs (hf.cut hk) (fun j hj => hc j (by omega)) (fun j hj => ih j (by omega) _ (hv j (by omega)))
 | map id es es' et hid ho hl hp hd _ _ ihk ihv =>
  intro r hv
  cases hv with
  | map _ B d hi =>
   obtain ⟨o,h1,h2⟩:=hs.obj id B d hi
   rw [ho] at h1
   cases h1
   obtain ⟨mes,clock,g1,g0,g2,g3,g4,g5⟩:=h2
   exact .tmap et es' B mes clock hp hd (FB_cut hk hX hs hi hid) g1 (by omega) (fun i hi => ihk i (by omega) _ (g3 i (by omega)).1) (fun i hi => ihv i (by omega) _ (g3 i (by omega)).2) g4 g5
  | mapD _ B hi => rw [hs.dead _ hi] at ho; cases ho
 | func fn first first' cap cap' hl1 hl2 _ _ ih1 ih2 =>
  intro r hv
  cases hv with
  | func _ _ _ rf rc hy g1 g2 v1 v2 => exact .func fn first' cap' rf rc hy (by omega) (by omega) (fun i hi => ih1 i (by omega) _ (v1 i (by omega))) (fun i hi => ih2 i (by omega) _ (v2 i (by omega)))
 | iface t v v' _ ih => intro r hv; cases hv with | iface _ _ r' h => exact .iface t v' r' (ih _ h)
 | agg cs cs' hl _ ih => intro r hv; cases hv with | agg _ rs h1 h2 => exact .agg cs' rs (by omega) fun i hi => ih i (by omega) _ (h2 i (by omega))
 | tuple cs cs' hl _ ih => intro r hv; cases hv with | tuple _ rs h1 h2 => exact .tuple cs' rs (by omega) fun i hi => ih i (by omega) _ (h2 i (by omega))
def NmO (S : Nat→Prop) : IObj→Prop
 | .cells cs | .row cs => ∀ c∈cs,Nm S c
 | .map es => (∀ e∈es,Nm S e.1)∧∀ e∈es,Nm S e.2
 | .siter _ _ => True
 | .loop _ tmps _ _ _ _ _ => ∀ t,Nm S ((tmps.lookup t).getD .undef)
 | .miter left cur => (∀ e∈left,Nm S e.1)∧(∀ e∈left,Nm S e.2)∧∀ c,cur=some c→Nm S c.1∧Nm S c.2
theorem OR.nm {B d : Nat} {o : IObj} (hf : ∀ i,ρ i≠.no→S i) (h : OR ρ w B d o) : NmO S o:=by
 have key : ∀ cs,CellsOR ρ w B d cs→∀ c∈cs,Nm S c:=fun cs ⟨rcs,el,_,_,h3⟩ c hc => let ⟨i,hi,he⟩:=mem_getD (d:=.undef) hc; he ▸ (h3 i hi).nm hf
 cases o with
 | cells cs => exact key cs h
 | row cs => exact key cs h
 | map es =>
  obtain ⟨mes,clock,h1,h0,h2,h3,h4,h5⟩:=h
  exact ⟨fun e he => let ⟨i,hi,hie⟩:=mem_getD (d:=(.undef,.undef)) he; hie ▸ (h3 i hi).1.nm hf,fun e he => let ⟨i,hi,hie⟩:=mem_getD (d:=(.undef,.undef)) he; hie ▸ (h3 i hi).2.nm hf⟩
 | siter s pos => trivial
 | loop N tmps params assign body st pend =>
  obtain ⟨hd,l,h1,h2,h3,h4,h5,h6,h7,h8⟩:=h
  exact fun t => (h8 t).nm hf
 | miter left cur =>
  obtain ⟨hd,mb,last,seen,mes,clock,lft,h1,h2,h3,h4,h5,h6,h7,h8,hc,h9⟩:=h
  exact ⟨fun e he => let ⟨i,hi,hie⟩:=mem_getD (d:=(.undef,.undef)) (h8.symm.subset he); hie ▸ (h9 i hi).1.nm hf,fun e he => let ⟨i,hi,hie⟩:=mem_getD (d:=(.undef,.undef)) (h8.symm.subset he); hie ▸ (h9 i hi).2.nm hf,fun c e => let ⟨i,g1,g2,g3,g4⟩:=hc c e; ⟨g3.nm hf,g4.nm hf⟩⟩
theorem OR.cut {B d : Nat} {o : IObj} (hk : IsCut S ρ ρ') (hb : NmO S o) (h : OR ρ w B d o) : OR ρ' w B d o:=by
 have key : ∀ cs,(∀ c∈cs,Nm S c)→CellsOR ρ w B d cs→CellsOR ρ' w B d cs:=fun cs hb ⟨rcs,el,h1,h2,h3⟩ => ⟨rcs,el,h1,h2,fun i hi => (h3 i hi).cut hk (hb _ (getD_mem _ hi))⟩
 cases o with
 | cells cs => exact key cs hb h
 | row cs => exact key cs hb h
 | map es =>
  obtain ⟨mes,clock,h1,h0,h2,h3,h4,h5⟩:=h
  exact ⟨mes,clock,h1,h0,h2,fun i hi => ⟨(h3 i hi).1.cut hk (hb.1 _ (getD_mem _ hi)),(h3 i hi).2.cut hk (hb.2 _ (getD_mem _ hi))⟩,h4,h5⟩
 | siter s pos => exact h
 | loop N tmps params assign body st pend =>
  obtain ⟨hd,l,h1,h2,h3,h4,h5,h6,h7,h8⟩:=h
  exact ⟨hd,l,h1,h2,h3,h4,h5,h6,h7,fun t => (h8 t).cut hk (hb t)⟩
 | miter left cur =>
  obtain ⟨hd,mb,last,seen,mes,clock,lft,h1,h2,h3,h4,h5,h6,h7,h8,hc,h9⟩:=h
  exact ⟨hd,mb,last,seen,mes,clock,lft,h1,h2.cut hk,h3,h4,h5,h6,h7,h8,fun c e => let ⟨i,g1,g2,g3,g4⟩:=hc c e; ⟨i,g1,g2,g3.cut hk (hb.2.2 c e).1,g4.cut hk (hb.2.2 c e).2⟩,fun i hi => ⟨(h9 i hi).1.cut hk (hb.1 _ (h8.subset (getD_mem _ hi))),(h9 i hi).2.cut hk (hb.2.1 _ (h8.subset (getD_mem _ hi)))⟩⟩
theorem Sim.cutS (hk : IsCut S ρ ρ') (hs : Sim E ρ w σ') (hob : ∀ i,S i→σ'.obj i=σ.obj i) (hno : ∀ i,¬ S i→σ.obj i=none) (hb : ∀ i o,S i→σ.obj i=some o→NmO S o) (hnx : ∀ i,σ.next≤i→ρ' i=.no) (he : ∀ g,Nm S (E g)) : Sim E ρ' w σ:=by
 refine ⟨?_,?_,?_,?_,hnx,?_,fun g => (hs.env g).cut hk (he g),fun i B d h hx => (hk.X B hx).elim (hs.nx i B d (hk.at h).2) fun ⟨j,d',hj,hj'⟩ => hj (hs.inj i j B d d' (hk.at h).2 hj' ▸ (hk.at h).1),
  fun b hx => (hk.X b hx).elim (hs.xlt b) fun ⟨j,d',_,hj'⟩ => hs.lt j b d' hj'⟩
 ·intro i j B d d' h1 h2
  exact hs.inj i j B d d' (hk.at h1).2 (hk.at h2).2
 ·intro i B d h; exact hs.lt i B d (hk.at h).2
 ·intro i B d h
  obtain ⟨h1,h2⟩:=hk.at h
  obtain ⟨o,h3,h4⟩:=hs.obj i B d h2
  rw [hob i h1] at h3
  exact ⟨o,h3,h4.cut hk (hb i o h1 h3)⟩
 ·intro i h
  by_cases hi : S i
  ·rw [← hob i hi]; rw [hk.on i hi] at h; exact hs.dead i h
  ·rw [hk.off i hi] at h; cases h
 ·intro i h
  by_cases hi : S i
  ·rw [← hob i hi]; rw [hk.on i hi] at h; exact hs.noObj i h
  ·exact hno i hi
theorem Sim.nmO (hs : Sim E ρ w σ) (hf : ∀ i,ρ i≠.no→S i) (i : Nat) (o : IObj) (ho : σ.obj i=some o) : NmO S o:=by
 rcases hr : ρ i with _ | _ | ⟨B,d⟩
 ·rw [hs.noObj i hr] at ho; cases ho
 ·rw [hs.dead i hr] at ho; cases ho
 ·obtain ⟨o',h1,h2⟩:=hs.obj i B d hr
  rw [ho] at h1
  cases h1
  exact h2.nm hf
theorem VR.refs {v : IV} {r : Value} (hr : ∀ i,ρ i≠.no→ρ' i=ρ i) (hfb : ∀ b,FB ρ w b→FB ρ' w b) (h : VR ρ w v r) : VR ρ' w v r:=by
 have at_ : ∀ {i B d},ρ i=.at B d→ρ' i=.at B d:=fun {i B d} h => by rw [hr i (by rw [h]; intro h; cases h)]; exact h
 have dd : ∀ {i},ρ i=.dead→ρ' i=.dead:=fun {i} h => by rw [hr i (by rw [h]; intro h; cases h)]; exact h
 induction h with
 | undef r => exact .undef r
 | bool b => exact .bool b
 | int k n => exact .int k n
 | str s => exact .str s
 | nilptr => exact .nilptr
 | ptr id off B d hi => exact .ptr id off B d (at_ hi)
 | ptrD id off ad hi => exact .ptrD id off ad (dd hi)
 | tptr cs b o vs hf hc _ ih => exact .tptr cs b o vs (hfb _ hf) hc ih
 | nilslice => exact .nilslice
 | zslice a => exact .zslice a
 | eslice a c => exact .eslice a c
 | slice id off len esz B d cap rcs el fz hi hb hsz hle => exact .slice id off len esz B d cap rcs el fz (at_ hi) hb hsz hle
 | sliceZ id off esz B d a hi => exact .sliceZ id off esz B d a (at_ hi)
 | sliceD id off len esz cap ad hi hle => exact .sliceD id off len esz cap ad (dd hi) hle
 | cslice id off len esz B d rcs el fz hi hb hsz => exact .cslice id off len esz B d rcs el fz (at_ hi) hb hsz
 | csliceD id off len esz ad hi => exact .csliceD id off len esz ad (dd hi)
 | rslice id off len room esz B d cap rcs el fz hi hb hsz hle hr' => exact .rslice id off len room esz B d cap rcs el fz (at_ hi) hb hsz hle hr'
 | rsliceD id off len room esz cap ad hi hle hr' => exact .rsliceD id off len room esz cap ad (dd hi) hle hr'
 | tslice es b o cap esz sp vs hf hsz hc _ hle ih => exact .tslice es b o cap esz sp vs (fun hne => ⟨hfb _ (hf hne).1,(hf hne).2⟩) hsz hc ih hle
 | tnil => exact .tnil
 | nilmap => exact .nilmap
 | map id B d hi => exact .map id B d (at_ hi)
 | mapD id B hi => exact .mapD id B (dd hi)
 | tmap es es' b mes clock hp hd hf hb hl _ _ h4 h5 ihk ihv => exact .tmap es es' b mes clock hp hd (hfb _ hf) hb hl ihk ihv h4 h5
 | func fn first cap rf rc hy h1 h2 _ _ ihf ihc => exact .func fn first cap rf rc hy h1 h2 ihf ihc
 | yield id B d hi => exact .yield id B d (at_ hi)
 | yieldD id B hi => exact .yieldD id B (dd hi)
 | nilfunc => exact .nilfunc
 | iface t v r _ ih => exact .iface t v r ih
 | niliface => exact .niliface
 | agg cs rs h1 _ ih => exact .agg cs rs h1 ih
 | tuple cs rs h1 _ ih => exact .tuple cs rs h1 ih
theorem OR.refs {B d : Nat} {o : IObj} (hr : ∀ i,ρ i≠.no→ρ' i=ρ i) (hfb : ∀ b,FB ρ w b→FB ρ' w b) (h : OR ρ w B d o) : OR ρ' w B d o:=by
 have key : ∀ cs,CellsOR ρ w B d cs→CellsOR ρ' w B d cs:=fun cs ⟨rcs,el,h1,h2,h3⟩ => ⟨rcs,el,h1,h2,fun i hi => (h3 i hi).refs hr hfb⟩
 cases o with
 | cells cs => exact key cs h
 | row cs => exact key cs h
 | map es =>
  obtain ⟨mes,clock,h1,h0,h2,h3,h4,h5⟩:=h
  exact ⟨mes,clock,h1,h0,h2,fun i hi => ⟨(h3 i hi).1.refs hr hfb,(h3 i hi).2.refs hr hfb⟩,h4,h5⟩
 | siter s pos => exact h
 | loop N tmps params assign body st pend =>
  obtain ⟨hd,l,h1,h2,h3,h4,h5,h6,h7,h8⟩:=h
  exact ⟨hd,l,h1,h2,h3,h4,h5,h6,h7,fun t => (h8 t).refs hr hfb⟩
 | miter left cur =>
  obtain ⟨hd,mb,last,seen,mes,clock,lft,h1,h2,h3,h4,h5,h6,h7,h8,hc,h9⟩:=h
  exact ⟨hd,mb,last,seen,mes,clock,lft,h1,hfb _ h2,h3,h4,h5,h6,h7,h8,fun c e => let ⟨i,g1,g2,g3,g4⟩:=hc c e; ⟨i,g1,g2,g3.refs hr hfb,g4.refs hr hfb⟩,fun i hi => ⟨(h9 i hi).1.refs hr hfb,(h9 i hi).2.refs hr hfb⟩⟩
theorem Nm.weak {S S' : Nat→Prop} {v : IV} (h : Nm S v) (hS : ∀ i,S i→S' i) : Nm S' v:=by
 induction h with
 | undef => exact .undef
 | bool b => exact .bool b
 | int k x => exact .int k x
 | str s => exact .str s
 | nilptr => exact .nilptr
 | ptr id off h => exact .ptr id off (hS _ h)
 | tptr cs _ ih => exact .tptr cs ih
 | nilslice => exact .nilslice
 | zslice => exact .zslice
 | eslice => exact .eslice
 | slice id off len esz h => exact .slice id off len esz (hS _ h)
 | cslice id off len esz h => exact .cslice id off len esz (hS _ h)
 | rslice id off len room esz h => exact .rslice id off len room esz (hS _ h)
 | tslice es _ ih => exact .tslice es ih
 | nilmap => exact .nilmap
 | map id h => exact .map id (hS _ h)
 | tmap es _ _ ih1 ih2 => exact .tmap es ih1 ih2
 | func fn first cap _ _ ih1 ih2 => exact .func fn first cap ih1 ih2
 | yield id h => exact .yield id (hS _ h)
 | nilfunc => exact .nilfunc
 | iface t v _ ih => exact .iface t v ih
 | niliface => exact .niliface
 | agg cs _ ih => exact .agg cs ih
 | tuple cs _ ih => exact .tuple cs ih
end Go.Id
/- Literals that nobody writes; ranging over a map. Conditions: none; over any program. -/
namespace Go.Id
open Go
variable {P : Program} {w w' : World} {ρ ρ' : Rho} {E : Nat→IV} {σ σ' : Store} {N : Nat} {fr : Frm} {a : Act}
/-! ### Literals that nobody writes: trees at once -/
def chunk (esz : Nat) : Nat→List IV→List (List IV)
 | 0,_ => []
 | n+1,l => l.take esz :: chunk esz n (l.drop esz)
theorem chunk_length (esz : Nat) : ∀ (n : Nat) (l : List IV),(chunk esz n l).length=n:=by
 intro n
 induction n with
 | zero => intro l; rfl
 | succ n ih => intro l; simp [chunk,ih]
theorem chunk_getD (esz : Nat) : ∀ (n : Nat) (l : List IV) (i : Nat),i < n→(chunk esz n l).getD i []=(l.drop (i * esz)).take esz:=by
 intro n
 induction n with
 | zero => intro l i h; omega
 | succ n ih =>
  intro l i h
  cases i with
  | zero => simp [chunk]
  | succ i =>
   have:=ih (l.drop esz) i (by omega)
   simp only [chunk,List.getD_cons_succ,this,List.drop_drop]
   rw [Nat.add_mul,Nat.one_mul,Nat.add_comm]
theorem acts_frz {op : Op} {v v' : IV} {ob : IObj} {n : Nat} (hs : Sim E ρ w σ) (hn : n≤σ.next)
  (h : Sim E ρ w ⟨σ.next+1,σ.obj⟩→Acts P E σ.next n ρ w a op v (Store.put ⟨σ.next+1,σ.obj⟩ σ.next ob))
  (hf : Frz (Store.put ⟨σ.next+1,σ.obj⟩ σ.next ob) (fun i => i≠σ.next) v v') : Acts P E σ.next n ρ w a op v' σ:=by
 have hs0 : Sim E ρ w ⟨σ.next+1,σ.obj⟩:=⟨hs.inj,hs.lt,hs.obj,hs.dead,fun i hi => hs.fresh i (Nat.le_of_succ_le hi),hs.noObj,hs.env,hs.nx,hs.xlt⟩
 have hno : ρ σ.next=.no:=hs.fresh _ (Nat.le_refl _)
 intro o ho
 obtain ⟨x,r,ρ',w',hrun,hx,hs',hv',he,hnb⟩:=h hs0 o ho
 have hk : IsCut (fun i => i≠σ.next) ρ' ⟨fun i => if i=σ.next then .no else ρ' i,ρ'.X⟩:=⟨fun i h => by show (if i=σ.next then RRef.no else ρ' i)=_; rw [if_neg h],fun i h => by
  have : i=σ.next:=Classical.byContradiction fun e => h e
  show (if i=σ.next then RRef.no else ρ' i)=_; rw [if_pos this],fun _ h => .inl h⟩
 have hlv : ∀ i,ρ i≠.no→i≠σ.next:=fun i h e => h (by rw [e]; exact hno)
 refine ⟨x,r,_,w',hrun,hx,hs'.cutS hk (fun i hi => by simp [Store.put,hi]) (fun i hi => ?_) (fun i o' _ ho' => hs.nmO hlv i o' ho') (fun i hi => ?_) (fun g => (hs.env g).nm hlv),hf.vr hk rfl hs' r hv',?_,?_⟩
 ·have : i=σ.next:=Classical.byContradiction fun e => hi e
  rw [this]; exact hs.noObj _ hno
 ·show (if i=σ.next then RRef.no else ρ' i)=_
  split
  ·rfl
  ·exact hs'.fresh i (by have : σ.next≤i:=hi; show σ.next+1≤i; omega)
 ·refine ⟨he.size,he.keep,he.shape,fun i B d hi => he.img i B d (hk.at hi).2,fun i B d hi => ?_,fun i hi => ?_,fun i hi h0 => ?_,he.output,he.os,he.tape,he.loops,he.X⟩
  ·show (if i=σ.next then RRef.no else ρ' i)=_ ∨ (if i=σ.next then RRef.no else ρ' i)=_
   have : i≠σ.next:=hlv i (by rw [hi]; intro h; cases h)
   rw [if_neg this]; exact he.at_ i B d hi
  ·show (if i=σ.next then RRef.no else ρ' i)=_
   have : i≠σ.next:=hlv i (by rw [hi]; intro h; cases h)
   rw [if_neg this]; exact he.dead i hi
  ·show (if i=σ.next then RRef.no else ρ' i)=_
   split
   ·rfl
   ·exact he.no i hi h0
 ·intro i hi h0
  show (if i=σ.next then RRef.no else ρ' i)=_
  split
  ·rfl
  ·exact hnb i hi h0
theorem Nm.cs {S : Nat→Prop} {v : IV} (h : Nm S v) : ∀ c∈v.cs,Nm S c:=by
 by_cases ha : ∃ zs,v=.agg zs
 ·obtain ⟨zs,rfl⟩:=ha
  cases h with | agg _ h => exact h
 ·rw [IV.cs_one fun zs e => ha ⟨zs,e⟩]
  intro c hc
  rw [List.mem_singleton.1 hc]; exact h
theorem fillI_nm {S : Nat→Prop} : ∀ (ps : List (Nat × Nat × IV)) (z out : List IV),fillI z ps=some out→(∀ c∈z,Nm S c)→(∀ p∈ps,Nm S p.2.2)→∀ c∈out,Nm S c:=by
 intro ps
 induction ps with
 | nil => intro z out h hz _; cases h; exact hz
 | cons p ps ih =>
  intro z out h hz hp
  obtain ⟨off,size,v⟩:=p
  simp only [fillI] at h
  split at h
  ·refine ih _ _ h (fun c hc => ?_) (fun q hq => hp q (List.mem_cons_of_mem _ hq))
   unfold putL at hc
   simp only [List.mem_append] at hc
   rcases hc with (hc | hc) | hc
   ·exact hz c (List.mem_of_mem_take hc)
   ·exact (hp _ (List.mem_cons_self ..)).cs c hc
   ·exact hz c (List.mem_of_mem_drop hc)
  ·cases h
theorem rep_nm {S : Nat→Prop} {z : List IV} (h : ∀ c∈z,Nm S c) : ∀ n,∀ c∈rep z n,Nm S c:=by
 intro n
 induction n with
 | zero => intro c hc; cases hc
 | succ n ih =>
  intro c hc
  simp only [rep,List.mem_append] at hc
  rcases hc with hc | hc
  ·exact h c hc
  ·exact ih c hc
theorem fillI_length : ∀ (ps : List (Nat × Nat × IV)) (z out : List IV),fillI z ps=some out→out.length=z.length:=by
 intro ps
 induction ps with
 | nil => intro z out h; cases h; rfl
 | cons p ps ih =>
  intro z out h
  obtain ⟨off,size,v⟩:=p
  simp only [fillI] at h
  split at h
  ·rename_i hc; rw [ih _ _ h,putL_length (by omega)]
  ·cases h
theorem boxt_case {t : TypeId} {x : Operand} {y : IX} {n : Nat} (hx : cmpX x=some y) (hl : (y.ev E fr).cs.all IV.leaf=true) (hs : Sim E ρ w σ) (hf : FR ρ w N fr a.tmps) (hn : n≤σ.next) :
  Acts P E σ.next n ρ w a (.box t x) (.tptr (y.ev E fr).cs) σ:=by
 have hno : ρ σ.next=.no:=hs.fresh _ (Nat.le_refl _)
 have hlv : ∀ i,ρ i≠.no→i≠σ.next:=fun i h e => h (by rw [e]; exact hno)
 have hv:=(cmpX_sound (a:=a) hx hs hf).nm hlv
 refine acts_frz hs hn (fun hs0 => box_case hx hl hs0 hf hno (Nat.lt_succ_self _) hn) ?_
 refine .ptr σ.next 0 (y.ev E fr).cs (y.ev E fr).cs (fun h => h rfl) (.inl (by simp [Store.put])) (by omega) (fun j hj => ?_)
 rw [Nat.zero_add]
 exact .keep _ (hv.cs _ (getD_mem _ hj))
theorem bslt_case {t el : TypeId} {len : Nat} {parts : Array (Nat × Operand)} {z out : List IV} {ps : List (Nat × Nat × IX)} {esz n : Nat} (hu : P.underlying t=some (.slice el)) (hsz : szT P el=some esz) (hpos : 0 < esz) (hz : zeroT P el=some z) (hzl : z.length=esz)
  (hbig : len * esz≤2 ^ 24) (hp : cmpParts P (fun i => some (i * esz,esz)) parts.toList=some ps) (hv : fillI (rep z len) (ps.map fun p => (p.1,p.2.1,p.2.2.ev E fr))=some out)
  (hs : Sim E ρ w σ) (hf : FR ρ w N fr a.tmps) (hn : n≤σ.next) :
  Acts P E σ.next n ρ w a (.buildSlice t len parts) (.tslice (chunk esz len out)) σ:=by
 have hno : ρ σ.next=.no:=hs.fresh _ (Nat.le_refl _)
 have hlv : ∀ i,ρ i≠.no→i≠σ.next:=fun i h e => h (by rw [e]; exact hno)
 obtain ⟨zr,hzr,hcr⟩:=zeroT_sound (w:=w) (ρ:=ρ) hz
 obtain ⟨hl,hpl⟩:=parts_sound (a:=a) parts.toList ps hp hs hf
 have hol : out.length=len * esz:=by rw [fillI_length _ _ _ hv,rep_length,hzl]
 have hnm : ∀ c∈out,Nm (fun i => i≠σ.next) c:=fillI_nm _ _ _ hv (rep_nm (fun c hc => by
   obtain ⟨i,hi,rfl⟩:=mem_getD (d:=.undef) hc
   exact (hcr.2 i hi).nm hlv) _) (fun p hp' => by
   obtain ⟨i,hi,rfl⟩:=mem_getD (d:=(0,0,.undef)) hp'
   exact (hpl i (by simpa using hi)).2.nm hlv)
 refine acts_frz hs hn (fun hs0 => bsl_case hu hsz hpos hz hzl hbig hp hv hs0 hf hno (Nat.lt_succ_self _) hn) ?_
 have key : ∀ i,i < len→i * esz+esz≤out.length:=fun i hi => by
  have : (i+1) * esz≤len * esz:=Nat.mul_le_mul_right _ (by omega)
  rw [Nat.add_mul,Nat.one_mul] at this
  omega
 refine .slice σ.next 0 len esz out _ (fun h => h rfl) (.inr (by simp [Store.put])) (chunk_length _ _ _) (by omega) (fun i hi => ?_) (fun i hi j hj => ?_)
 ·rw [chunk_getD _ _ _ _ hi]
  have:=key i hi
  simp; omega
 ·rw [chunk_getD _ _ _ _ hi,getD_take' _ _ _ _ hj,getD_drop',Nat.zero_add]
  exact .keep _ (hnm _ (getD_mem _ (by have:=key i hi; omega)))
/-! ### Ranging over a map -/
theorem mrange_case {t kt et : TypeId} {x : Operand} {ix : IX} {es : List (IV × IV)} {id n : Nat} (hu : P.underlying t=some (.map kt et)) (hx : cmpX x=some ix) (he : ix.ev E fr=.tmap es) (hs : Sim E ρ w σ) (hf : FR ρ w N fr a.tmps) (hno : ρ id=.no) (hlt : id < σ.next) (hn : n≤id) :
  Acts P E id n ρ w a (.range t x) (.ptr id 0) (σ.put id (.miter es none)):=by
 intro o ho
 have vx:=cmpX_sound (a:=a) hx hs hf
 rw [he] at vx
 generalize hrx : a.eval x=rx at vx
 cases vx with
 | tmap _ es' b mes clock hp hd hfb hb hl hk hv h4 h5 =>
  have hg : (getObj b).run P w=.ok (.map mes clock) w:=by simp [getObj,Sem.run,hb]
  have hxa : Ext 0 ρ w (ρ.put id (.at w.heap.size 0)) (w.alloc (.mapIter (some b) clock #[] clock)):=ext_alloc hno (Nat.zero_le _)
  refine ⟨.value (.pointer (some ⟨w.heap.size,0,none⟩)),.pointer (some ⟨w.heap.size,0,none⟩),ρ.put id (.at w.heap.size 0),w.alloc (.mapIter (some b) clock #[] clock),?_,.inl rfl,sim_new hs hno hlt ?_,.ptr id 0 w.heap.size 0 (by simp [Rho.put]),ext_alloc hno hn,NoBut.put _ _ _⟩
  ·unfold execOp
   rw [ho]
   simp [Instr.range,run_underlying hu,hrx,hg]
  ·have hflt : (mes.toList.filter fun e => !(#[] : Array Nat).contains e.born)=mes.toList:=by simp
   refine ⟨rfl,b,clock,#[],mes,clock,es',by show (w.heap.push _)[w.heap.size]? = _; simp,hxa.fb hfb,by rw [hxa.keep b hfb.ub]; exact hb,h4,h5,rfl,by rw [hflt]; simpa using hl,hp,(fun c e => by cases e),fun i hi => ?_⟩
   rw [hflt]
   have e : mes.toList.getD i default=mes.getD i default:=by simp [List.getD_eq_getElem?_getD,Array.getD_eq_getD_getElem?]
   rw [e]
   exact ⟨(hk i hi).mono hxa,(hv i hi).mono hxa⟩
def mnextI (σ : Store) : IV→Option (Nat × List (IV × IV))
 | .ptr id 0 => match σ.obj id with
  | some (.miter left _) => some (id,left)
  | _ => none
 | _ => none
theorem filter_erase : ∀ (ls : List MapEntry) (j : Nat),j < ls.length→ls.Pairwise (fun x y => x.born≠y.born)→(ls.filter fun e => !(e.born == (ls.getD j default).born))=ls.eraseIdx j:=by
 intro ls
 induction ls with
 | nil => intro j h; simp at h
 | cons x xs ih =>
  intro j hj hp
  obtain ⟨h1,h2⟩:=List.pairwise_cons.1 hp
  cases j with
  | zero =>
   simp only [List.getD_cons_zero,List.eraseIdx_cons_zero]
   rw [List.filter_cons_of_neg (by simp)]
   refine List.filter_eq_self.2 fun y hy => ?_
   have:=h1 y hy
   simp; omega
  | succ j =>
   simp only [List.getD_cons_succ,List.eraseIdx_cons_succ]
   have hj' : j < xs.length:=by simpa using hj
   have hx:=h1 _ (getD_mem default hj')
   have hne : x.born≠(xs.getD j default).born:=by omega
   rw [List.filter_cons_of_pos (by simpa using hne),ih j hj' h2]
theorem pairwise_born {mes : Array MapEntry} (h5 : ∀ i j,i < j→j < mes.size→(mes.getD i default).born≠(mes.getD j default).born) : mes.toList.Pairwise (fun x y => x.born≠y.born):=by
 rw [List.pairwise_iff_getElem]
 intro i j hi hj hij
 have:=h5 i j hij (by simpa using hj)
 rw [getD_of_lt _ _ _ (by simpa using hi),getD_of_lt _ _ _ (by simpa using hj)] at this
 simpa using this
theorem run_mapNext {n : Nat} (hn : 0 < n) : ∃ k,k < n∧((choose (.mapNext n)).run P w=.ok k w ∨ (choose (.mapNext n)).run P w=.ok k w.drew):=by
 by_cases h1 : n≤1
 ·exact ⟨0,hn,.inl (by simp [choose,Sem.run,Question.forced,h1])⟩
 ·have hf : (Question.mapNext n).forced=false:=by simp only [Question.forced]; simpa using h1
  refine ⟨w.tape w.drawn (.mapNext n) % n,Nat.mod_lt _ hn,.inr ?_⟩
  show Sem.run P (.choose (.mapNext n) .pure) w=_
  unfold Sem.run
  rw [hf]
  rfl
theorem Ext.le0 {n : Nat} (h : Ext n ρ w ρ' w') : Ext 0 ρ w ρ' w' :=
 ⟨h.size,h.keep,h.shape,h.img,h.at_,h.dead,fun i hi => absurd hi (Nat.not_lt_zero _),h.output,h.os,h.tape,h.loops,h.X⟩
theorem erase_perm {α : Type} (d : α) : ∀ (l : List α) (k : Nat),k < l.length→(l.getD k d :: l.eraseIdx k).Perm l:=by
 intro l
 induction l with
 | nil => intro k h; simp at h
 | cons a l ih =>
  intro k h
  cases k with
  | zero => simp
  | succ k =>
   simp only [List.getD_cons_succ,List.eraseIdx_cons_succ]
   exact (List.Perm.swap _ _ _).trans ((ih k (by simpa using h)).cons a)
theorem mnext_case {x : Operand} {ix : IX} {id n id0 : Nat} {left : List (IV × IV)} (hx : cmpX x=some ix) (h : mnextI σ (ix.ev E fr)=some (id,left)) (hs : Sim E ρ w σ) (hf : FR ρ w N fr a.tmps) :
  (left=[]∧Acts P E id0 n ρ w a (.next x false) (.tuple [.bool false]) σ) ∨
  ∃ j,j < left.length∧Acts P E id0 n ρ w a (.next x false) (.tuple [.bool true,(left.getD j (.undef,.undef)).1,(left.getD j (.undef,.undef)).2]) (σ.put id (.miter (left.eraseIdx j) (some (left.getD j (.undef,.undef))))):=by
 have vx:=cmpX_sound (a:=a) hx hs hf
 generalize ix.ev E fr=ax at vx h
 generalize hrx : a.eval x=rx at vx
 cases vx with
 | ptr id' off B d hid =>
  unfold mnextI at h
  split at h
  ·rename_i id1 heq
   cases heq
   split at h
   ·rename_i left' hob
    cases h
    obtain ⟨ob,hob',hor⟩:=hs.obj _ B d hid
    rw [hob] at hob'
    cases hob'
    obtain ⟨hd,mb,clock,seen,mes,ck,lft,h1,h2,h3,h4,h5,h6,h7,h8,hc0,h9⟩:=hor
    subst hd
    subst h6
    have hgm : ∀ w',w'.heap=w.heap→(getObj mb).run P w'=.ok (.map mes clock) w':=fun w' e => by simp [getObj,Sem.run,e,h3]
    have hgi : (getObj B).run P w=.ok (.mapIter (some mb) clock seen clock) w:=by simp [getObj,Sem.run,h1]
    have hborn : ∀ e∈mes.toList,e.born < clock:=fun e he => by
     obtain ⟨i,hi,rfl⟩:=mem_getD (d:=default) he
     have:=h4 i (by simpa using hi)
     simpa [List.getD_eq_getElem?_getD,Array.getD_eq_getD_getElem?] using this
    have hnot : (!seen.isEmpty && !mes.isEmpty && mes.all (·.born ≥ clock))=false:=by
     by_cases hm : mes.isEmpty=true
     ·simp [hm]
     ·have : 0 < mes.size:=by
       rcases Nat.eq_zero_or_pos mes.size with h | h
       ·exact absurd (by simpa [Array.isEmpty] using h) hm
       ·exact h
      have h0:=h4 0 this
      have : mes.all (·.born ≥ clock)=false:=by
       rw [Bool.eq_false_iff]
       intro hall
       rw [Array.all_eq_true] at hall
       have:=hall 0 this
       rw [getD_of_lt _ _ _ (by assumption)] at h0
       simp at this
       omega
      simp [this]
    generalize hls : (mes.toList.filter fun e => !seen.contains e.born)=ls at h7 h9
    have hleftA : (mes.filter fun e => !seen.contains e.born).toList=ls:=by rw [← hls]; simp
    have hold : ((mes.filter fun e => !seen.contains e.born).filter (·.born < clock)).toList=ls:=by
     rw [Array.toList_filter,hleftA]
     exact List.filter_eq_self.2 fun e he => by
      have : e∈mes.toList:=by rw [← hls] at he; exact (List.mem_filter.1 he).1
      simpa using hborn e this
    have hnew : ((mes.filter fun e => !seen.contains e.born).filter (·.born ≥ clock)).toList=[]:=by
     rw [Array.toList_filter,hleftA]
     exact List.filter_eq_nil_iff.2 fun e he => by
      have : e∈mes.toList:=by rw [← hls] at he; exact (List.mem_filter.1 he).1
      have:=hborn e this
      simp; omega
    have hO : ((mes.filter fun e => !seen.contains e.born).filter (·.born < clock))=ls.toArray:=by rw [← hold]
    have hN : ((mes.filter fun e => !seen.contains e.born).filter (·.born ≥ clock))=#[]:=by
     apply Array.toList_inj.1; rw [hnew]
    by_cases he : ls=[]
    ·left
     have hl0 : left=[]:=List.length_eq_zero_iff.1 (by rw [← h8.length_eq,h7,he]; rfl)
     refine ⟨hl0,?_⟩
     intro o ho
     have hch : (choose (.mapNext 1)).run P w=.ok 0 w:=by simp [choose,Sem.run,Question.forced]
     refine ⟨.value (.tuple #[.bool false]),.tuple #[.bool false],ρ,w,?_,.inl rfl,hs,?_,Ext.refl _ _ _,NoBut.refl _ _⟩
     ·unfold execOp
      rw [ho]
      simp only [hrx,Instr.next,Sem.run_bind,Nat.add_zero,hgi,Result.andThen_ok,hgm w rfl,hnot,Bool.false_eq_true,if_false,hO,hN]
      have hc2 : ((if ls.toArray.isEmpty=true then #[none] else #[]) ++ (ls.toArray ++ #[]).map some : Array (Option MapEntry))=#[none]:=by rw [he]; simp
      simp only [hc2]
      have hc : (choose (.mapNext (#[none] : Array (Option MapEntry)).size)).run P w=.ok 0 w:=hch
      simp only [hc,Sem.run_pure,Result.andThen_ok]
      simp
     ·refine .tuple _ _ rfl fun i hi => ?_
      match i,hi with
      | 0,_ => exact .bool false
    ·right
     have hpos : 0 < ls.length:=by cases ls with | nil => exact absurd rfl he | cons _ _ => simp
     have hne : ls.toArray.isEmpty=false:=by cases ls with | nil => exact absurd rfl he | cons _ _ => simp
     obtain ⟨k,hk,hch⟩:=run_mapNext (P:=P) (w:=w) (n:=ls.length) hpos
     have hkl : k < lft.length:=by omega
     obtain ⟨j,hj,hje⟩:=mem_getD (d:=((.undef,.undef) : IV × IV)) (h8.subset (getD_mem (.undef,.undef) hkl))
     have hpe : (lft.eraseIdx k).Perm (left.eraseIdx j):=by
      have p1:=erase_perm ((.undef,.undef) : IV × IV) lft k hkl
      have p2:=erase_perm ((.undef,.undef) : IV × IV) left j hj
      rw [hje] at p2
      exact List.Perm.cons_inv ((p1.trans h8).trans p2.symm)
     refine ⟨j,hj,?_⟩
     rw [hje]
     intro o ho
     have hp : ls.Pairwise (fun x y => x.born≠y.born):=by rw [← hls]; exact (pairwise_born h5).sublist List.filter_sublist
     have hc2 : ((if ls.toArray.isEmpty=true then #[none] else #[]) ++ (ls.toArray ++ #[]).map some : Array (Option MapEntry))=(ls.map some).toArray:=by
      rw [hne]; simp
     have hck : ((ls.map some).toArray)[k]? = some (some (ls.getD k default)):=by
      simp [List.getD_eq_getElem?_getD,hk]
     have nc : ∀ (rcs : Array Value) (el : TypeId) (fz : Nat × Nat),Obj.mapIter (some mb) clock seen clock≠.cells rcs el fz:=fun _ _ _ h => by cases h
     have nl : ∀ L,Obj.mapIter (some mb) clock seen clock≠.loop L:=fun _ h => by cases h
     have fin : ∀ w1 : World,w1.heap=w.heap→Sim E ρ w1 σ→Ext n ρ w ρ w1→(choose (.mapNext ls.length)).run P w=.ok k w1 →
       ∃ (x : Next) (r : Value) (ρ' : Rho) (w' : World),(execOp a.eval o).run P w=.ok x w'∧((x=.value r) ∨ (x=.skip∧r=undef))∧Sim E ρ' w' (σ.put id (.miter (left.eraseIdx j) (some (lft.getD k (.undef,.undef))))) ∧
        VR ρ' w' (.tuple [.bool true,(lft.getD k (.undef,.undef)).1,(lft.getD k (.undef,.undef)).2]) r∧Ext n ρ w ρ' w'∧NoBut id0 ρ ρ':=by
      intro w1 hw1 hs1 hx1 hch
      have hset : ∀ ob,(setObj B ob).run P w1=.ok () (w1.putObj B ob):=fun ob => by simp [setObj,Sem.run,hw1,h1,World.putObj]
      have h1' : w1.heap[B]? = some (.mapIter (some mb) clock seen clock):=by rw [hw1]; exact h1
      have hmB : mb≠B:=fun e => by rw [e,h1] at h3; cases h3
      have hxp : ∀ m (ob : Obj),Ext m ρ w1 ρ (w1.putObj B ob):=fun m ob => ext_putObj hid h1' nc nl
      have hx1' : Ext 0 ρ w ρ w1:=hx1.le0
      refine ⟨.value (.tuple #[.bool true,(ls.getD k default).key,(ls.getD k default).val]),.tuple #[.bool true,(ls.getD k default).key,(ls.getD k default).val],ρ,w1.putObj B (.mapIter (some mb) clock (seen.push (ls.getD k default).born) clock),?_,.inl rfl,sim_putObj hs1 hid h1' nc nl ?_,?_,hx1.trans (hxp n _) (Nat.le_refl _),NoBut.refl _ _⟩
      ·unfold execOp
       rw [ho]
       simp only [hrx,Instr.next,Sem.run_bind,Nat.add_zero,hgi,Result.andThen_ok,hgm w rfl,hnot,Bool.false_eq_true,if_false,hO,hN,hc2]
       have hc : (choose (.mapNext (ls.map some).toArray.size)).run P w=.ok k w1:=by simpa using hch
       simp only [hc,Result.andThen_ok,hck,hset,Sem.run_pure,Sem.run_bind]
      ·have hxa : Ext 0 ρ w ρ (w1.putObj B (.mapIter (some mb) clock (seen.push (ls.getD k default).born) clock)):=hx1'.trans (hxp 0 _) (Nat.le_refl _)
       have hflt : (mes.toList.filter fun e => !(seen.push (ls.getD k default).born).contains e.born)=ls.eraseIdx k:=by
        rw [← filter_erase ls k hk hp]
        generalize (ls.getD k default).born=bb
        rw [← hls,List.filter_filter]
        congr 1
        funext e
        rw [Bool.eq_iff_iff]
        simp [and_comm,not_or]
       refine ⟨rfl,mb,clock,_,mes,clock,lft.eraseIdx k,World.putObj_heap_same (hs1.lt _ _ _ hid),hxa.fb h2,?_,h4,h5,rfl,?_,hpe,?_,fun i hi => ?_⟩
       ·rw [World.putObj_heap_other hmB,hw1]; exact h3
       ·rw [hflt,List.length_eraseIdx,List.length_eraseIdx,h7]
       ·intro c hc1
        obtain rfl:=Option.some.inj hc1
        have hm : ls.getD k default∈mes.toList:=by
         have:=getD_mem (default : MapEntry) hk
         rw [← hls] at this ⊢
         exact (List.mem_filter.1 this).1
        obtain ⟨i,hi,hie⟩:=mem_getD (d:=(default : MapEntry)) hm
        have e : mes.getD i default=ls.getD k default:=by rw [← hie]; simp [List.getD_eq_getElem?_getD,Array.getD_eq_getD_getElem?]
        refine ⟨i,by simpa using hi,?_,?_,?_⟩
        ·rw [e]; simp
        ·rw [e]; exact (h9 k hkl).1.mono hxa
        ·rw [e]; exact (h9 k hkl).2.mono hxa
       ·rw [hflt]
        have e1 : ∀ {α : Type} (l : List α) (d : α),(l.eraseIdx k).getD i d=l.getD (if i < k then i else i+1) d:=fun l d => by
         simp only [List.getD_eq_getElem?_getD,List.getElem?_eraseIdx]
         split <;> simp
        rw [e1,e1]
        have hi' : i < lft.length - 1:=by
         rw [List.length_eraseIdx,if_pos hkl] at hi; exact hi
        have:=h9 (if i < k then i else i+1) (by split <;> omega)
        exact ⟨this.1.mono hxa,this.2.mono hxa⟩
      ·have hxa : Ext 0 ρ w ρ (w1.putObj B (.mapIter (some mb) clock (seen.push (ls.getD k default).born) clock)):=hx1'.trans (hxp 0 _) (Nat.le_refl _)
       refine .tuple _ _ rfl fun i hi => ?_
       match i,hi with
       | 0,_ => exact .bool true
       | 1,_ => exact (h9 k hkl).1.mono hxa
       | 2,_ => exact (h9 k hkl).2.mono hxa
     rcases hch with hch | hch
     ·exact fin w rfl hs (Ext.refl _ _ _) hch
     ·exact fin w.drew rfl (sim_drew hs) (ext_drew n) hch
   ·cases h
  ·cases h
 | ptrD id' off ad hid =>
  unfold mnextI at h
  split at h
  ·rename_i id1 heq
   cases heq
   rw [hs.dead _ hid] at h
   cases h
  ·cases h
 | _ => simp [mnextI] at h
def mentI (σ : Store) : IV→Option IV
 | .ptr id 0 => match σ.obj id with
  | some (.miter _ (some c)) => some (.tuple [c.1,c.2])
  | _ => none
 | _ => none
theorem ment_case {x : Operand} {ix : IX} {n id0 : Nat} {v : IV} (hx : cmpX x=some ix) (h : mentI σ (ix.ev E fr)=some v) (hs : Sim E ρ w σ) (hf : FR ρ w N fr a.tmps) : Acts P E id0 n ρ w a (.entry x) v σ:=by
 have vx:=cmpX_sound (a:=a) hx hs hf
 generalize ix.ev E fr=ax at vx h
 generalize hrx : a.eval x=rx at vx
 cases vx with
 | ptr id' off B d hid =>
  unfold mentI at h
  split at h
  ·rename_i id1 heq
   cases heq
   split at h
   ·rename_i left c hob
    cases h
    obtain ⟨ob,hob',hor⟩:=hs.obj _ B d hid
    rw [hob] at hob'
    cases hob'
    obtain ⟨hd,mb,clock,seen,mes,ck,lft,h1,h2,h3,h4,h5,h6,h7,h8,hc,h9⟩:=hor
    subst hd
    subst h6
    obtain ⟨i,g1,g2,g3,g4⟩:=hc c rfl
    intro o ho
    refine ⟨.value (.tuple #[(mes.getD i default).key,(mes.getD i default).val]),.tuple #[(mes.getD i default).key,(mes.getD i default).val],ρ,w,?_,.inl rfl,hs,?_,Ext.refl _ _ _,NoBut.refl _ _⟩
    ·have hgm : (getObj mb).run P w=.ok (.map mes clock) w:=by simp [getObj,Sem.run,h3]
     have hgi : (getObj B).run P w=.ok (.mapIter (some mb) clock seen clock) w:=by simp [getObj,Sem.run,h1]
     have hfind : mes.find? (fun e => e.born == (mes.getD i default).born)=some (mes.getD i default):=by
      rw [← Array.find?_toList]
      have hi' : i < mes.toList.length:=by simpa using g1
      have hmem : mes.getD i default∈mes.toList:=by
       have:=getD_mem (default : MapEntry) hi'
       simpa [List.getD_eq_getElem?_getD,Array.getD_eq_getD_getElem?] using this
      cases hq : mes.toList.find? (fun e => e.born == (mes.getD i default).born) with
      | none => exact absurd (List.find?_eq_none.1 hq _ hmem) (by simp)
      | some e =>
       have he:=List.mem_of_find?_eq_some hq
       have hb : e.born=(mes.getD i default).born:=by simpa using List.find?_some hq
       obtain ⟨j,hj,hje⟩:=mem_getD (d:=(default : MapEntry)) he
       have ej : mes.getD j default=e:=by rw [← hje]; simp [List.getD_eq_getElem?_getD,Array.getD_eq_getD_getElem?]
       have hj' : j < mes.size:=by simpa using hj
       rw [← ej] at hb ⊢
       congr 1
       rcases Nat.lt_trichotomy j i with h | h | h
       ·have:=h5 j i h g1; omega
       ·rw [h]
       ·have:=h5 i j h hj'; omega
     unfold execOp
     rw [ho]
     simp only [hrx,Instr.entry,Sem.run_bind,Nat.add_zero,hgi,Result.andThen_ok,g2,hgm,bne_self_eq_false,Bool.false_eq_true,if_false,hfind,Sem.run_pure]
    ·refine .tuple _ _ rfl fun i hi => ?_
     match i,hi with
     | 0,_ => exact g3
     | 1,_ => exact g4
   ·cases h
  ·cases h
 | ptrD id' off ad hid =>
  unfold mentI at h
  split at h
  ·rename_i id1 heq
   cases heq
   rw [hs.dead _ hid] at h
   cases h
  ·cases h
 | _ => simp [mentI] at h
end Go.Id
/- make of a slice,clear,an entry of a map's literal. Conditions: none; over any program. -/
namespace Go.Id
open Go
variable {P : Program} {w w' : World} {ρ ρ' : Rho} {E : Nat→IV} {σ σ' : Store} {N : Nat} {fr : Frm} {a : Act}
theorem insert_case {t : TypeId} {m k v : Operand} {x : IV} {id n : Nat} (h : Acts P E id n ρ w a (.mapUpdate t m k v) x σ') : Acts P E id n ρ w a (.insert t m k v) x σ':=by
 intro o ho
 obtain ⟨y,r,ρ',w',hrun,rest⟩:=h { o with op:=.mapUpdate t m k v } rfl
 refine ⟨y,r,ρ',w',?_,rest⟩
 rw [← hrun]
 unfold execOp
 rw [ho]
def mkslI : IV→Option Nat
 | .int _ n => if 0≤n∧n≤2147483648 then some n.toNat else none
 | _ => none
def sameOpd : Operand→Operand→Bool
 | .tmp a,.tmp b => a == b
 | .const (.int k n),.const (.int k' n') => decide (k=k') && decide (n=n')
 | _,_ => false
theorem sameOpd_eq {x y : Operand} (h : sameOpd x y=true) : y=x:=by
 unfold sameOpd at h
 split at h
 ·simp at h; rw [h]
 ·simp at h; rw [h.1,h.2]
 ·cases h
theorem mksl_case {t el : TypeId} {x y : Operand} {ix : IX} {i : TypeInfo} {z : List IV} {len id n : Nat} (hu : P.underlying t=some (.slice el)) (hi : P.info? el=some i) (hz : zeroT P el=some z) (hzl : z.length=i.size) (hpos : 0 < i.size) (hb : i.bytes≤4096)
  (hx : cmpX x=some ix) (hy : sameOpd x y=true) (h : mkslI (ix.ev E fr)=some len) (hs : Sim E ρ w σ) (hf : FR ρ w N fr a.tmps) (hno : ρ id=.no) (hlt : id < σ.next) (hn : n≤id) :
  Acts P E id n ρ w a (.makeSlice t x y) (.slice id 0 len i.size) (σ.put id (.row (rep z len))):=by
 intro o ho
 rw [sameOpd_eq hy] at ho
 have vx:=cmpX_sound (a:=a) hx hs hf
 generalize ix.ev E fr=ax at vx h
 generalize hrx : a.eval x=rx at vx
 unfold mkslI at h
 split at h
 ·rename_i k m
  split at h
  ·rename_i hm
   cases h
   cases vx
   obtain ⟨zr,hzr,hcr⟩:=zeroT_sound (w:=w) (ρ:=ρ) hz
   have hcz:=zcells_CR hcr m.toNat (.inl (by omega))
   rw [hzl] at hcz
   have hwr : IntKind.i64.wrap m=m:=by
    simp [IntKind.wrap,IntKind.bits,IntKind.signed]; omega
   have hsim:=sim_allocR (el:=el) hs hno hlt hcz
   have hsz : szT P el=some i.size:=by simp [szT,hi]
   have hbig : ¬ ((i.bytes : Int) * m > 2 ^ 48):=by
    have h1 : (i.bytes : Int) * m≤4096 * 2147483648:=Int.mul_le_mul (by omega) hm.2 hm.1 (by omega)
    omega
   refine ⟨.value (.slice (some ⟨w.heap.size,0,none⟩) m.toNat m.toNat),.slice (some ⟨w.heap.size,0,none⟩) m.toNat m.toNat,ρ.put id (.at w.heap.size 0),w.alloc (.cells ((Array.range (m.toNat * i.size)).map (zr.cells[· % zr.cells.size]!)) el),?_,.inl rfl,hsim,?_,ext_alloc hno hn,NoBut.put _ _ _⟩
   ·unfold execOp
    rw [ho]
    have hti : (typeInfo el).run P w=.ok i w:=by simp [typeInfo,hi]
    have h0 : decide (m < 0)=false:=by simp; omega
    have h1 : decide ((i.bytes : Int) * m > 2 ^ 48)=false:=by simpa using hbig
    simp only [hrx,Instr.makeSlice,Sem.run_bind,run_underlying hu,Result.andThen_ok,asInt,asIntOf,Sem.run_pure,hti,hwr,h0,h1,Bool.or_false,Bool.false_or]
    have h2 : decide (m > m)=false:=by simp
    simp only [h2,Bool.false_eq_true,if_false,Sem.run_bind,run_askRoom,Result.andThen_ok,run_sizeOf hsz,Sem.run_pure]
    by_cases h3 : m.toNat * i.size=0
    ·have e0 : ∀ f : Nat→Value,(Array.range 0).map f=#[]:=fun f => by simp [Array.range]
     simp only [h3,if_true,Sem.run_pure,Result.andThen_ok,e0]
     simp [newRow]
    ·simp only [h3,if_false,Sem.run_bind,hzr,Result.andThen_ok,Sem.run_pure]
     simp [newRow]
   ·exact .slice id 0 m.toNat i.size w.heap.size 0 m.toNat ((Array.range (m.toNat * i.size)).map (zr.cells[· % zr.cells.size]!)) el (0,0) (by simp [Rho.put]) (by show (w.heap.push _)[w.heap.size]? = _; simp) (by simp) (Nat.le_refl _)
  ·cases h
 ·cases h
theorem mkslt_case {t el : TypeId} {x y : Operand} {ix : IX} {i : TypeInfo} {z : List IV} {len n : Nat} (hu : P.underlying t=some (.slice el)) (hi : P.info? el=some i) (hz : zeroT P el=some z) (hzl : z.length=i.size) (hpos : 0 < i.size) (hb : i.bytes≤4096)
  (hx : cmpX x=some ix) (hy : sameOpd x y=true) (h : mkslI (ix.ev E fr)=some len) (hs : Sim E ρ w σ) (hf : FR ρ w N fr a.tmps) (hn : n≤σ.next) :
  Acts P E σ.next n ρ w a (.makeSlice t x y) (.tslice (chunk i.size len (rep z len))) σ:=by
 have hno : ρ σ.next=.no:=hs.fresh _ (Nat.le_refl _)
 have hlv : ∀ i,ρ i≠.no→i≠σ.next:=fun i h e => h (by rw [e]; exact hno)
 obtain ⟨zr,hzr,hcr⟩:=zeroT_sound (w:=w) (ρ:=ρ) hz
 have hol : (rep z len).length=len * i.size:=by rw [rep_length,hzl]
 have hnm : ∀ c∈rep z len,Nm (fun i => i≠σ.next) c:=rep_nm (fun c hc => by
   obtain ⟨i,hi,rfl⟩:=mem_getD (d:=.undef) hc
   exact (hcr.2 i hi).nm hlv) _
 refine acts_frz hs hn (fun hs0 => mksl_case hu hi hz hzl hpos hb hx hy h hs0 hf hno (Nat.lt_succ_self _) hn) ?_
 have key : ∀ j,j < len→j * i.size+i.size≤(rep z len).length:=fun j hj => by
  have : (j+1) * i.size≤len * i.size:=Nat.mul_le_mul_right _ (by omega)
  rw [Nat.add_mul,Nat.one_mul] at this
  omega
 refine .slice σ.next 0 len i.size (rep z len) _ (fun h => h rfl) (.inr (by simp [Store.put])) (chunk_length _ _ _) (by omega) (fun j hj => ?_) (fun j hj k hk => ?_)
 ·rw [chunk_getD _ _ _ _ hj]
  have:=key j hj
  simp; omega
 ·rw [chunk_getD _ _ _ _ hj,getD_take' _ _ _ _ hk,getD_drop',Nat.zero_add]
  exact .keep _ (hnm _ (getD_mem _ (by have:=key j hj; omega)))
def clrI (σ : Store) (esz : Nat) (z : List IV) : IV→Option Store
 | .nilslice | .zslice => some σ
 | .tslice [] => some σ
 | .slice id off len e => if len=0 then some σ else match σ.obj id with
  | some (.row cs) => if e=esz∧off+len * esz≤cs.length∧z.all IV.leaf=true then some (σ.put id (.row (putL cs off (rep z len)))) else none
  | _ => none
 | _ => none
theorem rep_all {z : List IV} (h : z.all IV.leaf=true) : ∀ n,(rep z n).all IV.leaf=true:=by
 intro n
 induction n with
 | zero => rfl
 | succ n ih => simp only [rep,List.all_append,h,ih,Bool.and_self]
theorem clr_case {t el : TypeId} {x : Operand} {ix : IX} {z : List IV} {esz n id0 : Nat} (hu : P.underlying t=some (.slice el)) (hsz : szT P el=some esz) (hz : zeroT P el=some z) (hzl : z.length=esz) (hpos : 0 < esz)
  (hx : cmpX x=some ix) (h : clrI σ esz z (ix.ev E fr)=some σ') (hs : Sim E ρ w σ) (hf : FR ρ w N fr a.tmps) : Acts P E id0 n ρ w a (.call { callee:=.builtin .clear,args:=#[x],argTypes:=#[t] }) .undef σ':=by
 intro o ho
 have vx:=cmpX_sound (a:=a) hx hs hf
 generalize ix.ev E fr=ax at vx h
 generalize hrx : a.eval x=rx at vx
 have nop : σ'=σ→(Builtin.clear_ #[t] o.type #[rx]).run P w=.ok (.tuple #[]) w →
   ∃ (x : Next) (r : Value) (ρ' : Rho) (w' : World),(execOp a.eval o).run P w=.ok x w'∧((x=.value r) ∨ (x=.skip∧r=undef))∧Sim E ρ' w' σ'∧VR ρ' w' .undef r∧Ext n ρ w ρ' w'∧NoBut id0 ρ ρ':=by
  rintro rfl hr
  refine ⟨.value (.tuple #[]),.tuple #[],ρ,w,?_,.inl rfl,hs,.undef _,Ext.refl _ _ _,NoBut.refl _ _⟩
  unfold execOp
  rw [ho]
  simp [resolve,invoke,builtin,hrx,hr]
 cases vx with
 | nilslice => cases h; exact nop rfl (by simp [Builtin.clear_,run_underlying hu])
 | zslice ad => cases h; exact nop rfl (by simp [Builtin.clear_,run_underlying hu])
 | tnil => cases h; exact nop rfl (by simp [Builtin.clear_,run_underlying hu])
 | tslice es b o' cap esz' sp vs hfb hsz' hc hv hle =>
  unfold clrI at h
  split at h <;> first | (cases h; done) | skip
  ·rename_i heq; cases heq
  ·rename_i heq; cases heq
  ·rename_i heq; cases heq; cases h; exact nop rfl (by simp [Builtin.clear_,run_underlying hu])
  ·rename_i heq; cases heq
 | slice id off len e B d cap rcs el' fz hid hbk hszk hle =>
  simp only [clrI] at h
  split at h
  ·rename_i h0; subst h0; cases h; exact nop rfl (by simp [Builtin.clear_,run_underlying hu])
  ·rename_i h0
   obtain ⟨ob,hob,hor⟩:=hs.obj id B d hid
   rw [hob] at h
   cases ob with
   | row cs =>
    simp only at h
    split at h
    ·rename_i hc
     obtain ⟨rfl,h2,h3⟩:=hc
     cases h
     obtain ⟨rcs',el2,hb,hsz',hvs⟩:=hor
     obtain ⟨zr,hzr,hcr⟩:=zeroT_sound (w:=w) (ρ:=ρ) hz
     have hcz:=zcells_CR hcr len (.inl (by omega))
     have hzs : zr.cells.size=e:=by rw [← hcr.1,hzl]
     have hzc : Builtin.zeroCells zr.cells len=(Array.range (len * z.length)).map (zr.cells[· % zr.cells.size]!):=by
      unfold Builtin.zeroCells; rw [hzs,hzl]
     generalize (Array.range (len * z.length)).map (zr.cells[· % zr.cells.size]!)=news at hcz hzc
     have hrl : (rep z len).length=len * e:=by rw [rep_length,hzl]
     have hnl : news.size=len * e:=by rw [← hcz.1,hrl]
     have hone : ∀ v∈news.toList,v.oneCell'=true:=fun q hq => by
      obtain ⟨k,hk,rfl⟩:=List.mem_iff_getElem.1 hq
      have hk' : k < (rep z len).length:=by rw [hcz.1]; simpa using hk
      have hl : ((rep z len).getD k .undef).leaf=true:=List.all_eq_true.1 (rep_all h3 len) _ (getD_mem _ hk')
      have:=(leaf_one hl (hcz.2 k hk')).1
      rw [getD_of_lt _ _ _ (by simpa using hk)] at this
      simpa using this
     have hst:=run_storeCells_at (P:=P) B (d+off) el2 news.toList 0 rcs' w hb (by simp [hnl]; omega) hone
     simp only [Nat.add_zero] at hst
     generalize hnew : (rcs'.toList.take (d+off) ++ news.toList ++ rcs'.toList.drop (d+off+news.toList.length)).toArray=new at hst
     have hnsz : new.size=rcs'.size:=by
      rw [← hnew]; simp [hnl]; omega
     have hx : ∀ n,Ext n ρ w ρ (w.setRow B new):=fun n => ext_setRow (n:=n) (new:=new) hid hb hnsz
     refine ⟨.value (.tuple #[]),.tuple #[],ρ,w.setRow B new,?_,.inl rfl,sim_setRow hs hid hb hnsz ?_,.undef _,hx n,NoBut.refl _ _⟩
     ·unfold execOp
      rw [ho]
      cases len with
      | zero => exact absurd rfl h0
      | succ m =>
       have hr : (Builtin.clear_ #[t] o.type #[Value.slice (some ⟨B,d+off,none⟩) (m+1) cap]).run P w=.ok (.tuple #[]) (w.setRow B new):=by
        simp [Builtin.clear_,run_underlying hu,hzr,hzc,hst]
       simp [resolve,invoke,builtin,hrx,hr]
     ·refine ⟨new,el2,setRow_heap w B rcs' new el2 (0,0) hb,?_,?_⟩
      ·rw [hnsz,putL_length (by omega)]; exact hsz'
      ·intro i hi
       rw [putL_length (by omega)] at hi
       have:=rowCR (w:=w) (ρ:=ρ) (cs:=cs) (vs:=rep z len) (old:=rcs') (news:=news.toList) (d:=d) (k:=off) hvs hsz' (by simp [hrl,hnl])
        (fun i hi => by have:=hcz.2 i hi; simpa [Array.getD_eq_getD_getElem?,List.getD_eq_getElem?_getD] using this) (by omega) i hi
       rw [hnew] at this
       exact this.mono (hx 0)
    ·cases h
   | _ => cases h
 | sliceZ id off e B d ad hid =>
  simp only [clrI] at h
  cases h; exact nop rfl (by simp [Builtin.clear_,run_underlying hu])
 | sliceD id off len e cap ad hid hle =>
  simp only [clrI] at h
  split at h
  ·rename_i h0; subst h0; cases h; exact nop rfl (by simp [Builtin.clear_,run_underlying hu])
  ·rw [hs.dead id hid] at h; cases h
 | _ => simp [clrI] at h
end Go.Id
/- More operations that write: entries struck from a map; slices with a bound on their room. Conditions: none; over any program. -/
namespace Go.Id
open Go
variable {P : Program} {w w' w'' : World} {ρ ρ' ρ'' : Rho} {E : Nat→IV} {σ σ' : Store} {N : Nat} {fr : Frm} {a : Act}
/-! ### An entry struck -/
def delL (tag : Nat) (k : IV) : List (IV × IV)→Option (List (IV × IV))
 | [] => match kOK tag k with
  | true => some []
  | false => none
 | e :: es => match keyEq tag k e.1 with
  | some true => some es
  | some false => (delL tag k es).map (e :: ·)
  | none => none
theorem del_kok {tag : Nat} {k : IV} {es es' : List (IV × IV)} (h : delL tag k es=some es') : kOK tag k=true:=by
 cases es with
 | nil =>
  simp only [delL] at h
  split at h
  ·assumption
  ·cases h
 | cons e es =>
  simp only [delL] at h
  cases hq : keyEq tag k e.1 with
  | none => rw [hq] at h; cases h
  | some b => exact kOK_of hq
theorem del_idx {tag : Nat} {k : IV} : ∀ (es es' : List (IV × IV)),delL tag k es=some es'→∃ q : Option Nat,(q=none→∀ e∈es,keyEq tag k e.1=some false)∧(∀ j,q=some j→j < es.length∧keyEq tag k (es.getD j (.undef,.undef)).1=some true∧∀ i,i < j→keyEq tag k (es.getD i (.undef,.undef)).1=some false) ∧
  es'=(match q with | none => es | some j => es.eraseIdx j):=by
 intro es
 induction es with
 | nil =>
  intro es' h
  refine ⟨none,(fun _ e he => by cases he),(fun j hj => by cases hj),?_⟩
  simp only [delL] at h
  split at h <;> cases h
  rfl
 | cons e es ih =>
  intro es' h
  simp only [delL] at h
  cases hq : keyEq tag k e.1 with
  | none => rw [hq] at h; cases h
  | some b =>
   rw [hq] at h
   cases b with
   | true => cases h; exact ⟨some 0,(fun h => by cases h),(fun j hj => by cases hj; exact ⟨by simp,by simpa using hq,fun i hi => absurd hi (Nat.not_lt_zero _)⟩),rfl⟩
   | false =>
    obtain ⟨es2,h3,h4⟩:=map_some h
    subst h4
    obtain ⟨q,h1,h2,h3⟩:=ih es2 h3
    refine ⟨q.map (·+1),fun h => ?_,fun j hj => ?_,?_⟩
    ·cases q with
     | none => intro x hx; rcases List.mem_cons.1 hx with rfl | hx; exact hq; exact h1 rfl x hx
     | some j => cases h
    ·cases q with
     | none => cases hj
     | some j0 =>
      cases hj
      obtain ⟨g1,g2,g3⟩:=h2 j0 rfl
      refine ⟨by simpa using g1,by simpa using g2,fun i hi => ?_⟩
      have hi : i < j0+1:=hi
      cases i with
      | zero => simpa using hq
      | succ i => have:=g3 i (by omega); simpa using this
    ·rw [h3]; cases q <;> simp
theorem erase_getD {α : Type} (l : List α) (j i : Nat) (d : α) : (l.eraseIdx j).getD i d=if i < j then l.getD i d else l.getD (i+1) d:=by
 simp only [List.getD_eq_getElem?_getD,List.getElem?_eraseIdx]
 split <;> rfl
theorem aerase_getD {α : Type} (l : Array α) (j i : Nat) (d : α) (h : j < l.size) : (l.eraseIdxIfInBounds j).getD i d=if i < j then l.getD i d else l.getD (i+1) d:=by
 have e : (l.eraseIdxIfInBounds j).toList=l.toList.eraseIdx j:=by simp [Array.eraseIdxIfInBounds,h]
 have g : ∀ (a : Array α) (i : Nat),a.getD i d=a.toList.getD i d:=fun a i => by simp [List.getD_eq_getElem?_getD,Array.getD_eq_getD_getElem?]
 rw [g,e,erase_getD,← g,← g]
inductive SK where
 | mdel (tag : Nat)
 | nev
 | cpy (esz : Nat)
 | sl3 (esz : Nat) (chk : Bool)
 | rlp (esz : Nat)
 | apr (esz : Nat)
 deriving Inhabited
def lenV : IV→Option Nat
 | .nilslice | .zslice | .eslice => some 0
 | .slice _ _ len _ => some len
 | .tslice es => some es.length
 | .rslice _ _ len _ _ => some len
 | _ => none
def cutI (σ : Store) (id esz l h : Nat) : IV→Option (IV × Store)
 | .nilslice => if h=0 then some (.nilslice,σ) else none
 | .zslice => if h=0 then some (.zslice,σ) else none
 | .slice did off len e => if e=esz∧l≤h∧h≤len then match σ.obj did with
  | some (.row cs) => if off+len * esz≤cs.length then some (.slice id 0 (h - l) esz,(σ.kill did).put id (.row ((cs.drop (off+l * esz)).take ((h - l) * esz)))) else none
  | _ => none
  else none
 | _ => none
def delI (σ : Store) (tag : Nat) (k : IV) : IV→Option (IV × Store)
 | .map id => match σ.obj id with
  | some (.map es) => match delL tag k es with
   | some es' => some (.undef,σ.put id (.map es'))
   | none => none
  | _ => none
 | .nilmap => match kOK tag k with
  | true => some (.undef,σ)
  | false => none
 | _ => none
def sl3I (σ : Store) (id esz : Nat) (chk : Bool) (x lo hi mx : IV) : Option (IV × Store) :=
 match natI lo,natI hi,natI mx with
 | some l,some h,some m => match chk with
  | true => match lenV x with
   | some n => if l≤h∧h≤m∧m≤n then some (.undef,σ) else none
   | none => none
  | false => if l≤h∧h=m then cutI σ id esz l h x else none
 | _,_,_ => none
def truncV (m : Nat) : IV→IV
 | .slice id off l e => .slice id off (min l m) e
 | v => v
def cpyI (σ : Store) (esz : Nat) (d s : IV) : Option (IV × Store) :=
 match d with
 | .slice id off len e => match srcI σ esz (truncV len s) with
  | some (n,cells) => match σ.obj id with
   | some (.row cs) => if e=esz∧n≤len∧off+n * esz≤cs.length∧cells.all IV.leaf=true then some (.int .i64 n,σ.put id (.row (putL cs off cells))) else none
   | _ => none
  | none => none
 | _ => none
def aprI (σ : Store) (esz : Nat) (s x : IV) : Option (IV × Store) :=
 match s with
 | .rslice id off len room e => match srcI σ esz x with
  | some (n,cells) => match σ.obj id with
   | some (.row cs) => if e=esz∧len+n≤room∧off+len * esz+n * esz≤cs.length∧cells.all IV.leaf=true then some (.rslice id off (len+n) room e,σ.put id (.row (putL cs (off+len * esz) cells))) else none
   | _ => none
  | none => none
 | _ => none
def stI (k : SK) (id : Nat) (σ : Store) (vs : List IV) : Option (IV × Store) :=
 match k,vs with
 | .mdel tag,[x,y] => delI σ tag y x
 | .sl3 esz chk,[x,lo,hi,mx] => sl3I σ id esz chk x lo hi mx
 | .cpy esz,[x,y] => cpyI σ esz x y
 | .rlp esz,[x,y] => (rlpI esz x y).map fun v => (v,σ)
 | .apr esz,[x,y] => aprI σ esz x y
 | _,_ => none
theorem stI_next {k : SK} {id : Nat} {vs : List IV} {v : IV} (h : stI k id σ vs=some (v,σ')) : σ'.next=σ.next:=by
 unfold stI at h
 split at h
 ·unfold delI at h
  split at h
  ·split at h
   ·split at h
    ·cases h; rfl
    ·cases h
   ·cases h
  ·split at h <;> cases h; rfl
  ·cases h
 ·unfold sl3I at h
  split at h
  ·split at h
   ·split at h
    ·split at h
     ·cases h; rfl
     ·cases h
    ·cases h
   ·split at h
    ·unfold cutI at h
     split at h
     ·split at h <;> cases h; rfl
     ·split at h <;> cases h; rfl
     ·split at h
      ·split at h
       ·split at h <;> cases h; rfl
       ·cases h
      ·cases h
     ·cases h
    ·cases h
  ·cases h
 ·unfold cpyI at h
  split at h
  ·split at h
   ·split at h
    ·split at h <;> cases h; rfl
    ·cases h
   ·cases h
  ·cases h
 ·obtain ⟨u,_,hu⟩:=map_some h
  cases hu; rfl
 ·unfold aprI at h
  split at h
  ·split at h
   ·split at h
    ·split at h <;> cases h; rfl
    ·cases h
   ·cases h
  ·cases h
 ·cases h
theorem mdel_case {t kt et : TypeId} {ts : Array TypeId} {tag : Nat} {x k : Operand} {ix ik : IX} {n id0 : Nat} {v : IV} (hts : ts[0]? = some t) (hu : P.underlying t=some (.map kt et)) (ht : keyT P kt=some tag)
  (hx : cmpX x=some ix) (hk : cmpX k=some ik) (h : delI σ tag (ik.ev E fr) (ix.ev E fr)=some (v,σ')) (hs : Sim E ρ w σ) (hf : FR ρ w N fr a.tmps) :
  Acts P E id0 n ρ w a (.call { callee:=.builtin .delete,args:=#[x,k],argTypes:=ts }) v σ':=by
 intro o ho
 have vx:=cmpX_sound (a:=a) hx hs hf
 have vk:=cmpX_sound (a:=a) hk hs hf
 generalize ix.ev E fr=ax at vx h
 generalize ik.ev E fr=ak at vk h
 generalize hrx : a.eval x=rx at vx
 generalize hrk : a.eval k=rk at vk
 have exec : ∀ w',(Builtin.delete_ ts o.type #[rx,rk]).run P w=.ok (.tuple #[]) w'→(execOp a.eval o).run P w=.ok (.value (.tuple #[])) w':=by
  intro w' hr
  unfold execOp
  rw [ho]
  simp [resolve,invoke,builtin,hrx,hrk,hr]
 cases vx with
 | nilmap =>
  simp only [delI] at h
  split at h
  ·rename_i hok
   cases h
   have hck:=checkKey_run (b:=true) ht hok vk
   refine ⟨.value (.tuple #[]),.tuple #[],ρ,w,exec w ?_,.inl rfl,hs,.undef _,Ext.refl _ _ _,NoBut.refl _ _⟩
   simp [Builtin.delete_,hts,run_underlying hu,hck]
  ·cases h
 | map id B dd hid =>
  simp only [delI] at h
  obtain ⟨ob,hob,hor⟩:=hs.obj id B dd hid
  rw [hob] at h
  cases ob with
  | map es =>
   simp only at h
   split at h
   ·rename_i es' hes'
    cases h
    obtain ⟨mes,clock,g1,g0,g2,g3,g4,g5⟩:=hor
    have toL : ∀ (i : Nat),mes.toList.getD i default=mes.getD i default:=fun i => by simp [List.getD_eq_getElem?_getD,Array.getD_eq_getD_getElem?]
    have hE : EsR ρ w es mes.toList:=⟨by simpa using g2,fun i hi => by rw [toL]; exact g3 i hi⟩
    obtain ⟨r',q1,q2,h2⟩:=del_idx es es' hes'
    have hck : ∀ b,(Instr.checkKey b 10000 kt rk).run P w=.ok () w:=fun b => checkKey_run ht (del_kok hes') vk
    have h1:=find_run ht vk es mes.toList hE r' q1 q2
    have hg : (getObj B).run P w=.ok (.map mes clock) w:=by simp [getObj,Sem.run,g1]
    have hset : ∀ o,(setObj B o).run P w=.ok () (w.putObj B o):=fun o => by simp [setObj,Sem.run,g1,World.putObj]
    have hlt:=hs.lt id B dd hid
    have nc : ∀ (rcs : Array Value) (el : TypeId) (fz : Nat × Nat),Obj.map mes clock≠.cells rcs el fz:=fun _ _ _ h => by cases h
    have nl : ∀ L,Obj.map mes clock≠.loop L:=fun _ h => by cases h
    have hx : ∀ (n : Nat) (o : Obj),Ext n ρ w ρ (w.putObj B o):=fun n o => ext_putObj hid g1 nc nl
    have fin : ∀ (mes' : Array MapEntry),(Builtin.delete_ ts o.type #[.map (some B),rk]).run P w=.ok (.tuple #[]) (w.putObj B (.map mes' clock))→es'.length=mes'.size →
      (∀ i,i < es'.length→VR ρ w (es'.getD i (.undef,.undef)).1 (mes'.getD i default).key∧VR ρ w (es'.getD i (.undef,.undef)).2 (mes'.getD i default).val) →
      (∀ i,i < mes'.size→(mes'.getD i default).born < clock)→(∀ i j,i < j→j < mes'.size→(mes'.getD i default).born≠(mes'.getD j default).born) →
      ∃ (x : Next) (r : Value) (ρ' : Rho) (w' : World),(execOp a.eval o).run P w=.ok x w'∧((x=.value r) ∨ (x=.skip∧r=undef))∧Sim E ρ' w' (σ.put id (.map es'))∧VR ρ' w' .undef r∧Ext n ρ w ρ' w'∧NoBut id0 ρ ρ':=by
     intro mes' hrun hl hvs hb1 hb2
     exact ⟨.value (.tuple #[]),.tuple #[],ρ,w.putObj B (.map mes' clock),exec _ hrun,.inl rfl,sim_putObj hs hid g1 nc nl ⟨mes',clock,World.putObj_heap_same hlt,g0,hl,fun i hi => ⟨(hvs i hi).1.mono (hx 0 _),(hvs i hi).2.mono (hx 0 _)⟩,hb1,hb2⟩,.undef _,hx n _,NoBut.refl _ _⟩
    cases r' with
    | none =>
     simp only at h2
     subst h2
     refine fin mes ?_ g2 g3 g4 g5
     simp [Builtin.delete_,hts,run_underlying hu,hg,hck,h1,hset]
    | some j =>
     obtain ⟨q2,_,_⟩:=q2 j rfl
     simp only at h2
     subst h2
     have hjm : j < mes.size:=by omega
     have hsz : (mes.eraseIdxIfInBounds j).size=mes.size - 1:=by simp [Array.eraseIdxIfInBounds,hjm]
     refine fin (mes.eraseIdxIfInBounds j) ?_ ?_ ?_ ?_ ?_
     ·simp [Builtin.delete_,hts,run_underlying hu,hg,hck,h1,hset]
     ·rw [hsz,List.length_eraseIdx,if_pos q2,g2]
     ·intro i hi
      rw [List.length_eraseIdx,if_pos q2] at hi
      rw [erase_getD,aerase_getD _ _ _ _ hjm]
      split
      ·exact g3 i (by omega)
      ·exact g3 (i+1) (by omega)
     ·intro i hi
      rw [hsz] at hi
      rw [aerase_getD _ _ _ _ hjm]
      split
      ·exact g4 i (by omega)
      ·exact g4 (i+1) (by omega)
     ·intro i i2 hij hi2
      rw [hsz] at hi2
      rw [aerase_getD _ _ _ _ hjm,aerase_getD _ _ _ _ hjm]
      split <;> split
      ·exact g5 i i2 hij (by omega)
      ·exact g5 i (i2+1) (by omega) (by omega)
      ·omega
      ·exact g5 (i+1) (i2+1) (by omega) (by omega)
   ·cases h
  | _ => simp at h
 | mapD id B hid => simp [delI,hs.dead id hid] at h
 | _ => simp [delI] at h
/-! ### copy -/
theorem trunc_sound {esz n len : Nat} {v : IV} {r : Value} {cells : List IV} (hs : Sim E ρ w σ) (h : srcI σ esz (truncV len v)=some (n,cells)) (hn : n≤len) (hv : VR ρ w v r) :
  cells.length=n * esz∧∃ m,(Builtin.lenOf r).run P w=.ok m w∧min m len=n∧∃ rc : Array Value,CR ρ w cells rc∧(Builtin.firstCells esz n r).run P w=.ok rc w:=by
 have same : srcI σ esz v=some (n,cells)→cells.length=n * esz∧∃ m,(Builtin.lenOf r).run P w=.ok m w∧min m len=n∧∃ rc : Array Value,CR ρ w cells rc∧(Builtin.firstCells esz n r).run P w=.ok rc w:=fun h => by
  obtain ⟨c1,c2,rc,c3,c4,_⟩:=src_sound (P:=P) hs h hv
  exact ⟨c1,n,c2,Nat.min_eq_left hn,rc,c3,c4⟩
 cases hv with
 | slice id2 off2 len2 e2 B2 d2 cap2 rcs2 el4 fz2 hid2 hbk2 hsz3 hle2 =>
  have vy' : VR ρ w (.slice id2 off2 (min len2 len) e2) (.slice (some ⟨B2,d2+off2,none⟩) (min len2 len) cap2):=.slice id2 off2 _ e2 B2 d2 cap2 rcs2 el4 fz2 hid2 hbk2 hsz3 (Nat.le_trans (Nat.min_le_left _ _) hle2)
  obtain ⟨c1,c2,rc,c3,c4,_⟩:=src_sound (P:=P) hs h vy'
  have hnn : n=min len2 len:=by
   simp only [truncV,srcI] at h
   split at h
   ·split at h
    ·cases h; rfl
    ·cases h
   ·cases h
  exact ⟨c1,len2,by simp [Builtin.lenOf],hnn.symm,rc,c3,by simpa [Builtin.firstCells] using c4⟩
 | sliceZ id2 off2 e2 B2 d2 ad hid2 => simp only [truncV,Nat.zero_min] at h; exact same h
 | sliceD id2 off2 l2 e2 cap ad hid2 hle =>
  simp only [truncV,srcI,hs.dead id2 hid2] at h
  cases h
 | _ => exact same h
theorem cpy_case {t el : TypeId} {ts : Array TypeId} {x y : Operand} {ix iy : IX} {esz n id0 : Nat} {v : IV} (hts : ts[0]? = some t) (hu : P.underlying t=some (.slice el)) (hsz : szT P el=some esz)
  (hx : cmpX x=some ix) (hy : cmpX y=some iy) (h : cpyI σ esz (ix.ev E fr) (iy.ev E fr)=some (v,σ')) (hs : Sim E ρ w σ) (hf : FR ρ w N fr a.tmps) :
  Acts P E id0 n ρ w a (.call { callee:=.builtin .copy,args:=#[x,y],argTypes:=ts }) v σ':=by
 intro o ho
 have vx:=cmpX_sound (a:=a) hx hs hf
 have vy:=cmpX_sound (a:=a) hy hs hf
 generalize ix.ev E fr=ax at vx h
 generalize iy.ev E fr=ay at vy h
 generalize hrx : a.eval x=rx at vx
 generalize hry : a.eval y=ry at vy
 have exec : ∀ r w',(Builtin.copy_ ts o.type #[rx,ry]).run P w=.ok r w'→(execOp a.eval o).run P w=.ok (.value r) w':=by
  intro r w' hr
  unfold execOp
  rw [ho]
  simp [resolve,invoke,builtin,hrx,hry,hr]
 unfold cpyI at h
 split at h
 ·rename_i id off len e
  split at h
  ·rename_i m cells hsrc
   split at h
   ·rename_i cs hcs
    split at h
    ·rename_i hc
     obtain ⟨rfl,hml,hfit,hlf⟩:=hc
     cases h
     obtain ⟨c1,k,c2,c3,rc,c4,c5⟩:=trunc_sound (P:=P) hs hsrc hml vy
     cases vx with
     | slice _ _ _ _ B d cap rcs el2 fz hid hbk hsz' hle =>
      obtain ⟨ob,hob,hor⟩:=hs.obj id B d hid
      rw [hcs] at hob
      cases hob
      obtain ⟨rcs',el3,hb,hsz2,hvs⟩:=hor
      have hone : ∀ x∈rc.toList,x.oneCell'=true:=by
       intro z hz
       obtain ⟨i,hi,hzi⟩:=List.mem_iff_getElem.1 hz
       have hi2 : i < cells.length:=by have:=c4.1; simp at hi; omega
       have hv:=c4.2 i hi2
       have hl : (cells.getD i .undef).leaf=true:=List.all_eq_true.1 hlf _ (by rw [List.getD_eq_getElem?_getD,List.getElem?_eq_getElem hi2]; exact List.getElem_mem hi2)
       have:=(leaf_one hl hv).1
       rw [getD_of_lt _ _ _ (by simpa using hi)] at this
       rw [← hzi]; simpa using this
      have hlen : rc.toList.length=m * e:=by have:=c4.1; simp; omega
      have hst:=run_storeCells_at (P:=P) B (d+off) el3 rc.toList 0 rcs' w hb (by omega) hone
      simp only [Nat.add_zero] at hst
      generalize hnew : (rcs'.toList.take (d+off) ++ rc.toList ++ rcs'.toList.drop (d+off+rc.toList.length)).toArray=new at hst
      have hnsz : new.size=rcs'.size:=by
       rw [← hnew]; simp; simp at hlen; omega
      have hx : ∀ n,Ext n ρ w ρ (w.setRow B new):=fun n => ext_setRow (n:=n) (new:=new) hid hb hnsz
      refine ⟨.value (.int .i64 m),.int .i64 m,ρ,w.setRow B new,exec _ _ ?_,.inl rfl,sim_setRow hs hid hb hnsz ?_,.int _ _,hx n,NoBut.refl _ _⟩
      ·simp [Builtin.copy_,hts,run_underlying hu,c2,c3,run_sizeOf hsz,c5,hst,goInt]
      ·refine ⟨new,el3,setRow_heap w B rcs' new el3 (0,0) hb,?_,?_⟩
       ·rw [hnsz,putL_length (by omega)]; exact hsz2
       ·intro i hi
        rw [putL_length (by omega)] at hi
        have:=rowCR (w:=w) (ρ:=ρ) (cs:=cs) (vs:=cells) (old:=rcs') (news:=rc.toList) (d:=d) (k:=off) hvs hsz2 (by rw [c1,hlen])
         (fun i hi => by simpa [Array.getD_eq_getD_getElem?,List.getD_eq_getElem?_getD] using c4.2 i hi) (by omega) i hi
        rw [hnew] at this
        exact this.mono (hx 0)
     | sliceZ _ _ _ B d ad hid =>
      have hm0 : m=0:=by omega
      subst hm0
      have hc0 : cells=[]:=List.length_eq_zero_iff.1 (by omega)
      subst hc0
      have hrc : rc=#[]:=by have:=c4.1; simp at this; exact Array.eq_empty_of_size_eq_zero this.symm
      subst hrc
      have hput : σ.put id (.row (putL cs off []))=σ:=by
       have : putL cs off []=cs:=by simp [putL]
       rw [this]
       unfold Store.put
       congr 1
       funext i
       by_cases e : i=id
       ·subst e; simp [hcs]
       ·simp [e]
      rw [hput]
      refine ⟨.value (.int .i64 (0 : Nat)),.int .i64 (0 : Nat),ρ,w,exec _ _ ?_,.inl rfl,hs,.int _ _,Ext.refl _ _ _,NoBut.refl _ _⟩
      simp [Builtin.copy_,hts,run_underlying hu,c2,run_sizeOf hsz,c5,storeCells,goInt]
     | sliceD _ _ _ _ cap ad hid hle => rw [hs.dead id hid] at hcs; cases hcs
    ·cases h
   ·cases h
  ·cases h
 ·cases h
/-! ### Slices with a bound on their room -/
theorem bounds3_run {len cap l h m : Nat} {rlo : Option Value} {rh rm : Value} (hl : (rlo=none∧l=0) ∨ ∃ k,rlo=some (.int k (l : Int))) (hh : ∃ k,rh=.int k (h : Int)) (hm : ∃ k,rm=.int k (m : Int)) (h1 : l≤h) (h2 : h≤m) (h3 : m≤cap) :
  (Instr.sliceBounds true len cap rlo (some rh) (some rm)).run P w=.ok (l,h,m) w:=by
 obtain ⟨k1,rfl⟩:=hh
 obtain ⟨k2,rfl⟩:=hm
 have a1 : (h : Int)≤(m : Int):=by omega
 have a2 : (m : Int)≤(cap : Int):=by omega
 have a3 : (l : Int)≤(h : Int):=by omega
 rcases hl with ⟨rfl,rfl⟩ | ⟨k,rfl⟩
 ·have : ¬ m < h:=by omega
  simp [Instr.sliceBounds,Instr.sliceBound,asIntOf,a2,h2,this]
 ·simp [Instr.sliceBounds,Instr.sliceBound,asIntOf,a2,h1,h2]
theorem sim_shrink {id n : Nat} {cs : List IV} (hs : Sim E ρ w σ) (hc : σ.obj id=some (.row cs)) : Sim E ρ w (σ.put id (.row (cs.take n))) where
 inj:=hs.inj
 lt:=hs.lt
 obj:=fun i B d hi => by
  obtain ⟨o,h1,h2⟩:=hs.obj i B d hi
  by_cases e : i=id
  ·subst e
   rw [hc] at h1
   cases h1
   obtain ⟨rcs,el,hb,hsz,hv⟩:=h2
   refine ⟨.row (cs.take n),by simp [Store.put],rcs,el,hb,by simp; omega,fun k hk => ?_⟩
   simp at hk
   rw [getD_take' _ _ _ _ (by omega)]
   exact hv k (by omega)
  ·exact ⟨o,by simp [Store.put,e,h1],h2⟩
 dead:=fun i hi => by
  have h0:=hs.dead i hi
  have : i≠id:=fun e => by subst e; rw [hc] at h0; cases h0
  simp [Store.put,this,h0]
 fresh:=hs.fresh
 noObj:=fun i hi => by
  have h0:=hs.noObj i hi
  have : i≠id:=fun e => by subst e; rw [hc] at h0; cases h0
  simp [Store.put,this,h0]
 env:=hs.env
 nx:=hs.nx
 xlt:=hs.xlt
theorem put_put (id : Nat) (x y : IObj) : (σ.put id x).put id y=σ.put id y:=by
 unfold Store.put
 congr 1
 funext i
 simp only
 split <;> rfl
theorem sl3_case {t el : TypeId} {x oh om : Operand} {olo : Option Operand} {ix ilo ih im : IX} {esz id n : Nat} {chk : Bool} {v : IV} (hu : P.underlying t=some (.slice el)) (hsz : szT P el=some esz)
  (hx : cmpX x=some ix) (hlo : (olo=none∧ilo=.c (.int .i64 0)) ∨ ∃ o,olo=some o∧cmpX o=some ilo) (hh : cmpX oh=some ih) (hm : cmpX om=some im)
  (h : sl3I σ id esz chk (ix.ev E fr) (ilo.ev E fr) (ih.ev E fr) (im.ev E fr)=some (v,σ')) (hs : Sim E ρ w σ) (hf : FR ρ w N fr a.tmps) (hno : ρ id=.no) (hlt : id < σ.next) (hn : n≤id) :
  Acts P E id n ρ w a (.slice t x olo (some oh) (some om)) v σ':=by
 intro o ho
 have vx:=cmpX_sound (a:=a) hx hs hf
 have vh:=cmpX_sound (a:=a) hh hs hf
 have vm:=cmpX_sound (a:=a) hm hs hf
 unfold sl3I at h
 split at h
 ·rename_i l hb m e1 e2 e3
  have bl : (olo.map a.eval=none∧l=0) ∨ ∃ k,olo.map a.eval=some (.int k (l : Int)):=by
   rcases hlo with ⟨rfl,rfl⟩ | ⟨o2,rfl,ho2⟩
   ·simp only [IX.ev,natI] at e1
    cases e1
    exact .inl ⟨rfl,rfl⟩
   ·obtain ⟨k,hk⟩:=natI_sound e1 (cmpX_sound (a:=a) ho2 hs hf)
    exact .inr ⟨k,by simp [hk]⟩
  have bh:=natI_sound e2 vh
  have bm:=natI_sound e3 vm
  generalize ix.ev E fr=ax at vx h
  generalize hrx : a.eval x=rx at vx
  have run : ∀ (ad : Option Addr) (len cap : Nat),rx=.slice ad len cap→l≤hb→hb≤m→m≤cap→(execOp a.eval o).run P w=.ok (.value (.slice (if m=l then ad else ad.map (·.add (l * esz))) (hb - l) (m - l))) w:=by
   intro ad len cap hr a1 a2 a3
   have hbd:=bounds3_run (P:=P) (w:=w) (len:=len) bl bh bm a1 a2 a3
   unfold execOp
   rw [ho]
   simp only [hrx,hr,Option.map_some]
   simp [Instr.sliceAt,Instr.slice,run_underlying hu,hbd,run_sizeOf hsz]
  split at h
  ·split at h
   ·rename_i n0 hlen
    split at h
    ·rename_i hc
     cases h
     have : ∃ ad len cap,rx=.slice ad len cap∧n0≤cap:=by
      cases vx <;> simp only [lenV] at hlen <;> cases hlen
      all_goals first | exact ⟨_,_,_,rfl,Nat.le_refl _⟩ | exact ⟨_,_,_,rfl,Nat.zero_le _⟩ | exact ⟨_,_,_,rfl,by assumption⟩ | exact ⟨_,_,_,rfl,by omega⟩
     obtain ⟨ad,len,cap,hr,hcap⟩:=this
     exact ⟨_,_,ρ,w,run ad len cap hr hc.1 hc.2.1 (by omega),.inl rfl,hs,.undef _,Ext.refl _ _ _,NoBut.refl _ _⟩
    ·cases h
   ·cases h
  ·split at h
   ·rename_i hc
    obtain ⟨hlh,rfl⟩:=hc
    cases vx with
    | nilslice =>
     simp only [cutI] at h
     split at h
     ·rename_i h0
      cases h
      have hl0 : l=0:=by omega
      subst hl0; subst h0
      exact ⟨_,_,ρ,w,run none 0 0 rfl (Nat.le_refl _) (Nat.le_refl _) (Nat.le_refl _),.inl rfl,hs,.nilslice,Ext.refl _ _ _,NoBut.refl _ _⟩
     ·cases h
    | zslice ad =>
     simp only [cutI] at h
     split at h
     ·rename_i h0
      cases h
      have hl0 : l=0:=by omega
      subst hl0; subst h0
      exact ⟨_,_,ρ,w,run (some ad) 0 0 rfl (Nat.le_refl _) (Nat.le_refl _) (Nat.le_refl _),.inl rfl,hs,.zslice ad,Ext.refl _ _ _,NoBut.refl _ _⟩
     ·cases h
    | slice did off len e B d cap rcs elt fz hid hbk hsz' hle =>
     simp only [cutI] at h
     split at h
     ·rename_i hc
      obtain ⟨rfl,_,hhl⟩:=hc
      split at h
      ·rename_i cs hcs
       split at h
       ·rename_i hcl
        cases h
        have hmul : l * e≤len * e:=Nat.mul_le_mul_right _ (by omega)
        have hoff : off+l * e≤cs.length:=by omega
        have s1:=sim_rename hs hid hcs hno hlt hoff
        have s2:=sim_shrink (id:=id) (cs:=cs.drop (off+l * e)) (n:=(hb - l) * e) s1 (by simp [Store.put])
        rw [put_put] at s2
        have hx:=ext_rename (w:=w) (off:=off+l * e) hid hno hn
        have hr:=run (some ⟨B,d+off,none⟩) len cap rfl hlh (Nat.le_refl _) (by omega)
        have nb : NoBut id ρ ((ρ.put did .dead).put id (.at B (d+(off+l * e)))):=fun i hi h0 => by
         have : i≠did:=fun e => by subst e; rw [hid] at h0; cases h0
         simp [Rho.put,hi,this,h0]
        refine ⟨_,_,_,w,hr,.inl rfl,s2,?_,hx,nb⟩
        by_cases hz : hb=l
        ·subst hz
         simp only [Nat.sub_self,if_true]
         exact .sliceZ id 0 e B (d+(off+hb * e)) _ (by simp [Rho.put])
        ·rw [if_neg hz]
         have:=VR.slice (ρ:=(ρ.put did .dead).put id (.at B (d+(off+l * e)))) (w:=w) id 0 (hb - l) e B (d+(off+l * e)) (hb - l) rcs elt fz (by simp [Rho.put]) hbk (by
          have h1 : l * e+(hb - l) * e=hb * e:=by rw [← Nat.add_mul,Nat.add_sub_cancel' hlh]
          have h2 : hb * e≤cap * e:=Nat.mul_le_mul_right _ (by omega)
          omega) (Nat.le_refl _)
         rw [Option.map_some,add_mk,show d+off+l * e=d+(off+l * e)+0 from by omega]
         exact this
       ·cases h
      ·cases h
     ·cases h
    | sliceZ did off e B d ad hid =>
     simp only [cutI] at h
     split at h
     ·rename_i hc
      obtain ⟨rfl,_,hhl⟩:=hc
      split at h
      ·rename_i cs hcs
       split at h
       ·rename_i hcl
        cases h
        have hb0 : hb=0:=by omega
        have hl0 : l=0:=by omega
        subst hb0; subst hl0
        have s1:=sim_rename (off:=off+0 * e) hs hid hcs hno hlt (by omega)
        have s2:=sim_shrink (id:=id) (cs:=cs.drop (off+0 * e)) (n:=(0 - 0) * e) s1 (by simp [Store.put])
        rw [put_put] at s2
        have hx:=ext_rename (w:=w) (off:=off+0 * e) hid hno hn
        have hr:=run (some ad) 0 0 rfl (Nat.le_refl _) (Nat.le_refl _) (Nat.le_refl _)
        have nb : NoBut id ρ ((ρ.put did .dead).put id (.at B (d+(off+0 * e)))):=fun i hi h0 => by
         have : i≠did:=fun e => by subst e; rw [hid] at h0; cases h0
         simp [Rho.put,hi,this,h0]
        exact ⟨_,_,_,w,hr,.inl rfl,s2,.sliceZ id 0 e B (d+(off+0 * e)) _ (by simp [Rho.put]),hx,nb⟩
       ·cases h
      ·cases h
     ·cases h
    | sliceD did off len e cap ad hid hle =>
     simp only [cutI] at h
     split at h
     ·rw [hs.dead did hid] at h; cases h
     ·cases h
    | _ => simp [cutI] at h
   ·cases h
 ·cases h
theorem clp_case {t el : TypeId} {x oh om : Operand} {olo : Option Operand} {ix ilo ih im : IX} {esz id n : Nat} {v : IV} (hu : P.underlying t=some (.slice el)) (hsz : szT P el=some esz)
  (hx : cmpX x=some ix) (hlo : (olo=none∧ilo=.c (.int .i64 0)) ∨ ∃ o,olo=some o∧cmpX o=some ilo) (hh : cmpX oh=some ih) (hm : cmpX om=some im)
  (h : clpI esz (ix.ev E fr) (ilo.ev E fr) (ih.ev E fr) (im.ev E fr)=some v) (hs : Sim E ρ w σ) (hf : FR ρ w N fr a.tmps) :
  Acts P E id n ρ w a (.slice t x olo (some oh) (some om)) v σ:=by
 intro o ho
 have vx:=cmpX_sound (a:=a) hx hs hf
 have vh:=cmpX_sound (a:=a) hh hs hf
 have vm:=cmpX_sound (a:=a) hm hs hf
 unfold clpI at h
 split at h
 ·rename_i hb m e1 e2 e3
  have bl : (olo.map a.eval=none∧0=0) ∨ ∃ k,olo.map a.eval=some (.int k ((0 : Nat) : Int)):=by
   rcases hlo with ⟨rfl,rfl⟩ | ⟨o2,rfl,ho2⟩
   ·exact .inl ⟨rfl,rfl⟩
   ·obtain ⟨k,hk⟩:=natI_sound e1 (cmpX_sound (a:=a) ho2 hs hf)
    exact .inr ⟨k,by simp [hk]⟩
  have bh:=natI_sound e2 vh
  have bm:=natI_sound e3 vm
  generalize ix.ev E fr=ax at vx h
  generalize hrx : a.eval x=rx at vx
  have run : ∀ (ad : Option Addr) (len cap : Nat),rx=.slice ad len cap→hb≤m→m≤cap→(execOp a.eval o).run P w=.ok (.value (.slice (if m=0 then ad else ad.map (·.add (0 * esz))) (hb - 0) (m - 0))) w:=by
   intro ad len cap hr a2 a3
   have hbd:=bounds3_run (P:=P) (w:=w) (len:=len) bl bh bm (Nat.zero_le _) a2 a3
   unfold execOp
   rw [ho]
   simp only [hrx,hr,Option.map_some]
   simp [Instr.sliceAt,Instr.slice,run_underlying hu,hbd,run_sizeOf hsz]
  split at h
  ·rename_i hhm
   subst hhm
   cases vx with
   | nilslice =>
    simp only at h
    split at h
    ·rename_i h0; cases h; subst h0
     exact ⟨_,_,ρ,w,run none 0 0 rfl (Nat.le_refl _) (Nat.le_refl _),.inl rfl,hs,.nilslice,Ext.refl _ _ _,NoBut.refl _ _⟩
    ·cases h
   | zslice ad =>
    simp only at h
    split at h
    ·rename_i h0; cases h; subst h0
     exact ⟨_,_,ρ,w,run (some ad) 0 0 rfl (Nat.le_refl _) (Nat.le_refl _),.inl rfl,hs,.zslice ad,Ext.refl _ _ _,NoBut.refl _ _⟩
    ·cases h
   | slice did off len e B d cap rcs elt fz hid hbk hsz' hle =>
    simp only at h
    split at h
    ·rename_i hc
     obtain ⟨rfl,hhl⟩:=hc
     have hr:=run (some ⟨B,d+off,none⟩) len cap rfl (Nat.le_refl _) (by omega)
     split at h
     ·rename_i h0; cases h; subst h0
      exact ⟨_,_,ρ,w,hr,.inl rfl,hs,.zslice _,Ext.refl _ _ _,NoBut.refl _ _⟩
     ·rename_i h0
      cases h
      refine ⟨_,_,ρ,w,hr,.inl rfl,hs,?_,Ext.refl _ _ _,NoBut.refl _ _⟩
      rw [if_neg h0,Option.map_some,add_mk,Nat.zero_mul,Nat.add_zero,Nat.sub_zero]
      have h2 : hb * e≤cap * e:=Nat.mul_le_mul_right _ (by omega)
      exact .cslice did off hb e B d rcs elt fz hid hbk (by omega)
    ·cases h
   | sliceZ did off e B d ad hid =>
    simp only at h
    split at h
    ·rename_i hc
     obtain ⟨rfl,hhl⟩:=hc
     have hb0 : hb=0:=by omega
     subst hb0
     simp only [if_true] at h
     cases h
     exact ⟨_,_,ρ,w,run (some ad) 0 0 rfl (Nat.le_refl _) (Nat.le_refl _),.inl rfl,hs,.zslice ad,Ext.refl _ _ _,NoBut.refl _ _⟩
    ·cases h
   | sliceD did off len e cap ad hid hle =>
    simp only at h
    split at h
    ·rename_i hc
     obtain ⟨rfl,hhl⟩:=hc
     have hr:=run (some ad) len cap rfl (Nat.le_refl _) (by omega)
     split at h
     ·rename_i h0; cases h; subst h0
      exact ⟨_,_,ρ,w,hr,.inl rfl,hs,.zslice _,Ext.refl _ _ _,NoBut.refl _ _⟩
     ·rename_i h0
      cases h
      refine ⟨_,_,ρ,w,hr,.inl rfl,hs,?_,Ext.refl _ _ _,NoBut.refl _ _⟩
      rw [if_neg h0,Option.map_some,Nat.zero_mul,Nat.sub_zero]
      exact .csliceD did off hb e _ hid
    ·cases h
   | _ => simp at h
  ·cases h
 ·cases h
/-! ### s[:h],and append in place -/
theorem rlp_case {t el : TypeId} {x oh : Operand} {ix ih : IX} {esz id n : Nat} {v : IV} (hu : P.underlying t=some (.slice el)) (hsz : szT P el=some esz)
  (hx : cmpX x=some ix) (hh : cmpX oh=some ih) (h : rlpI esz (ix.ev E fr) (ih.ev E fr)=some v) (hs : Sim E ρ w σ) (hf : FR ρ w N fr a.tmps) :
  Acts P E id n ρ w a (.slice t x none (some oh) none) v σ:=by
 intro o ho
 have vx:=cmpX_sound (a:=a) hx hs hf
 have vh:=cmpX_sound (a:=a) hh hs hf
 unfold rlpI at h
 split at h
 ·rename_i hb e1
  generalize ix.ev E fr=ax at vx h
  generalize hrx : a.eval x=rx at vx
  have run : ∀ (ad : Option Addr) (len cap : Nat),rx=.slice ad len cap→hb≤cap→(execOp a.eval o).run P w=.ok (.value (.slice (if cap=0 then ad else ad.map (·.add (0 * esz))) (hb - 0) (cap - 0))) w:=by
   intro ad len cap hr a3
   have hbd:=bounds_run (P:=P) (w:=w) (ρ:=ρ) (isSlice:=true) (len:=len) (cap:=cap) (lo:=none) (hi:=some (ih.ev E fr)) (rlo:=none) (rhi:=some (a.eval oh)) rfl e1 trivial vh (Nat.zero_le _) a3
   unfold execOp
   rw [ho]
   simp only [hrx,hr,Option.map_some]
   simp [Instr.sliceAt,Instr.slice,run_underlying hu,hbd,run_sizeOf hsz]
  split at h
  ·rename_i did off len e
   split at h
   ·rename_i hc
    obtain ⟨rfl,h1,h2⟩:=hc
    cases h
    cases vx with
    | slice _ _ _ _ B d cap rcs elt fz hid hbk hsz' hle =>
     have hr:=run _ _ _ rfl (by omega)
     have c0 : ¬ cap=0:=by omega
     rw [if_neg c0,Option.map_some,add_mk,Nat.zero_mul,Nat.add_zero,Nat.sub_zero,Nat.sub_zero] at hr
     exact ⟨_,_,ρ,w,hr,.inl rfl,hs,.rslice did off hb len e B d cap rcs elt fz hid hbk hsz' h1 hle,Ext.refl _ _ _,NoBut.refl _ _⟩
    | sliceZ => omega
    | sliceD _ _ _ _ cap ad hid hle =>
     have hr:=run _ _ _ rfl (by omega)
     have c0 : ¬ cap=0:=by omega
     rw [if_neg c0,Option.map_some,Nat.sub_zero,Nat.sub_zero] at hr
     exact ⟨_,_,ρ,w,hr,.inl rfl,hs,.rsliceD did off hb len e cap _ hid h1 hle,Ext.refl _ _ _,NoBut.refl _ _⟩
   ·cases h
  ·rename_i did off len room e
   split at h
   ·rename_i hc
    obtain ⟨rfl,h1,h2⟩:=hc
    cases h
    cases vx with
    | rslice _ _ _ _ _ B d cap rcs elt fz hid hbk hsz' hle hrm =>
     have hr:=run _ _ _ rfl (by omega)
     have c0 : ¬ cap=0:=by omega
     rw [if_neg c0,Option.map_some,add_mk,Nat.zero_mul,Nat.add_zero,Nat.sub_zero,Nat.sub_zero] at hr
     exact ⟨_,_,ρ,w,hr,.inl rfl,hs,.rslice did off hb room e B d cap rcs elt fz hid hbk hsz' h1 hrm,Ext.refl _ _ _,NoBut.refl _ _⟩
    | rsliceD _ _ _ _ _ cap ad hid hle hrm =>
     have hr:=run _ _ _ rfl (by omega)
     have c0 : ¬ cap=0:=by omega
     rw [if_neg c0,Option.map_some,Nat.sub_zero,Nat.sub_zero] at hr
     exact ⟨_,_,ρ,w,hr,.inl rfl,hs,.rsliceD did off hb room e cap _ hid h1 hrm,Ext.refl _ _ _,NoBut.refl _ _⟩
   ·cases h
  ·cases h
 ·cases h
theorem apr_case {o0 : Op} {s x : Operand} {is ix : IX} {t xt e xe : TypeId} {args : Array Operand} {argTypes : Array TypeId} {i : TypeInfo} {id n0 : Nat} {v : IV} (ho0 : o0=.call { callee:=.builtin .append,args,argTypes }) (ha : args.toList=[s,x]) (ht : argTypes.toList=[t,xt])
  (hu : P.underlying t=some (.slice e)) (hxu : P.underlying xt=some (.slice xe)) (hi : P.info? e=some i) (hs' : cmpX s=some is) (hx : cmpX x=some ix)
  (h : aprI σ i.size (is.ev E fr) (ix.ev E fr)=some (v,σ')) (hs : Sim E ρ w σ) (hf : FR ρ w N fr a.tmps) :
  Acts P E id n0 ρ w a o0 v σ':=by
 subst ho0
 obtain ⟨al⟩:=args
 obtain ⟨tl⟩:=argTypes
 simp only at ha ht
 subst ha; subst ht
 intro o ho
 have vs:=cmpX_sound (a:=a) hs' hs hf
 have vx:=cmpX_sound (a:=a) hx hs hf
 generalize is.ev E fr=as at vs h
 generalize ix.ev E fr=ax at vx h
 generalize hrs : a.eval s=rs at vs
 generalize hrx : a.eval x=rx at vx
 have exec : ∀ r w',(Builtin.append_ #[t,xt] o.type #[rs,rx]).run P w=.ok r w'→(execOp a.eval o).run P w=.ok (.value r) w':=by
  intro r w' hr
  unfold execOp
  rw [ho]
  simp [resolve,invoke,builtin,hrs,hrx,hr]
 unfold aprI at h
 split at h
 ·rename_i did off len room e2
  split at h
  ·rename_i n cells hsrc
   split at h
   ·rename_i cs hcs
    split at h
    ·rename_i hc
     obtain ⟨rfl,hroom,hfit,hlf⟩:=hc
     cases h
     obtain ⟨c1,c2,rcs,c4,c5,_⟩:=src_sound (P:=P) hs hsrc vx
     cases vs with
     | rslice _ _ _ _ _ B d cap rc el fz hid hbk hsz' hle hrm =>
      obtain ⟨ob,hob,hor⟩:=hs.obj did B d hid
      rw [hcs] at hob
      cases hob
      obtain ⟨rc',el3,hb2,hsz2,hvs⟩:=hor
      rw [hbk] at hb2
      cases hb2
      have hrl : rcs.size=n * i.size:=by rw [← c4.1,c1]
      have hone : ∀ z∈rcs.toList,z.oneCell'=true:=by
       intro z hz
       obtain ⟨k,hk,hzk⟩:=List.mem_iff_getElem.1 hz
       have hk2 : k < cells.length:=by have:=c4.1; simp at hk; omega
       have hl : (cells.getD k .undef).leaf=true:=List.all_eq_true.1 hlf _ (by rw [List.getD_eq_getElem?_getD,List.getElem?_eq_getElem hk2]; exact List.getElem_mem hk2)
       have:=(leaf_one hl (c4.2 k hk2)).1
       rw [getD_of_lt _ _ _ (by simpa using hk)] at this
       rw [← hzk]; simpa using this
      have hin:=run_append_in (P:=P) (ty:=o.type) (B:=B) (o:=d+off) (sCap:=cap) (xt:=xt) (t:=t) (rx:=rx) hu ⟨_,hxu,fun k h => by cases h⟩ hi c2 c5 (by omega : len+n≤cap) hbk (by rw [hrl]; omega) hone
      generalize hnew : (rc.toList.take (d+off+len * i.size) ++ rcs.toList ++ rc.toList.drop (d+off+len * i.size+rcs.toList.length)).toArray=new at hin
      have hnsz : new.size=rc.size:=by rw [← hnew]; simp; omega
      have hxx : ∀ n,Ext n ρ w ρ (w.setRow B new):=fun n => ext_setRow (n:=n) (new:=new) hid hbk hnsz
      refine ⟨.value _,_,ρ,w.setRow B new,exec _ _ hin,.inl rfl,sim_setRow hs hid hbk hnsz ?_,.rslice did off (len+n) room i.size B d cap new el (0,0) hid (setRow_heap w B rc new el (0,0) hbk) (by rw [hnsz]; exact hsz') hroom hrm,hxx n0,NoBut.refl _ _⟩
      refine ⟨new,el,setRow_heap w B rc new el (0,0) hbk,?_,?_⟩
      ·rw [hnsz,putL_length (by omega)]; exact hsz2
      ·intro k hk
       rw [putL_length (by omega)] at hk
       have:=rowCR (w:=w) (ρ:=ρ) (cs:=cs) (vs:=cells) (old:=rc) (news:=rcs.toList) (d:=d) (k:=off+len * i.size) hvs hsz2 (by rw [c1]; simp [hrl])
        (fun k hk => by simpa [Array.getD_eq_getD_getElem?,List.getD_eq_getElem?_getD] using c4.2 k hk) (by omega) k hk
       rw [show d+(off+len * i.size)=d+off+len * i.size from by omega] at this
       rw [hnew] at this
       exact this.mono (hxx 0)
     | rsliceD _ _ _ _ _ cap ad hid hle hrm => rw [hs.dead did hid] at hcs; cases hcs
    ·cases h
   ·cases h
  ·cases h
 ·cases h
end Go.Id
