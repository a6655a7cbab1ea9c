/- Steps that change the world: a new block,cells written,a slice appended to. Conditions: none; over any program. -/
import Derived.Test.YtebfbbjghhagbaaGreatDoorFwC2
import Derived.RangeFuncRecord
set_option linter.all false
namespace Go.Id
open Go
variable {P:Program} {w w':World} {ρ ρ':Rho} {E:Nat->IV} {σ:Store} {N:Nat} {fr:Frm} {a:Act}
def Store.put (σ:Store)(id:Nat)(o:ak4):Store:={ σ with obj:=fun i=>if i=id then some o else σ.obj i }
def Store.kill (σ:Store)(id:Nat):Store:={ σ with obj:=fun i=>if i=id then none else σ.obj i }
def Rho.put (ρ:Rho)(id:Nat)(r:dv5):Rho:=⟨fun i=>if i=id then r else ρ i,ρ.X⟩
theorem aj1 (ρ:Rho)(id:Nat)(r:dv5)(i:Nat):(ρ.put id r) i=if i=id then r else ρ i:=rfl
def aj4 (id:Nat)(ρ ρ':Rho):Prop:=∀ i,i≠id->ρ i=.no->ρ' i=.no
theorem aj4.refl (id:Nat)(ρ:Rho):aj4 id ρ ρ:=fun _ _ h=>h
theorem aj4.put (id:Nat)(ρ:Rho)(r:dv5):aj4 id ρ (ρ.put id r):=fun i hi h=>by simp[Rho.put,hi,h]
theorem aj4.kill {id did B d:Nat}{ρ:Rho}(hd:ρ did=.at B d)(r:dv5):aj4 id ρ (ρ.put did r):=fun i _ h=>by
 have:i≠did:=fun e=>by subst e; rw[hd] at h; cases h
 simp[Rho.put,this,h]
theorem aj4.trans {id:Nat}{ρ ρ' ρ'':Rho}(h:aj4 id ρ ρ')(h':aj4 id ρ' ρ''):aj4 id ρ ρ'':=fun i hi h0=>h' i hi (h i hi h0)
theorem OR.mono {n:Nat}{B d:Nat}{o:ak4}(hx:Ext n ρ w ρ' w')(hb:w'.heap[B]? = w.heap[B]?)(h:OR ρ w B d o):OR ρ' w' B d o:=by
 have key:∀ cs,ap9 ρ w B d cs->ap9 ρ' w' B d cs:=fun cs ⟨rcs,el,h1,h2,h3⟩=>⟨rcs,el,by rw[hb]; exact h1,h2,fun i hi=>(h3 i hi).mono hx⟩
 cases o with
 | cells cs=>exact key cs h
 | row cs=>exact key cs h
 | map es=>
  obtain ⟨mes,clock,h1,h0,h2,h3,h4,h5⟩:=h
  exact ⟨mes,clock,by rw[hb]; exact h1,h0,h2,fun i hi=>⟨(h3 i hi).1.mono hx,(h3 i hi).2.mono hx⟩,h4,h5⟩
 | be8 s pos=>exact ⟨by rw[hb]; exact h.1,h.2⟩
 | loop N tmps params assign body st pend=>
  obtain ⟨hd,l,h1,h2,h3,h4,h5,h6,h7,h8⟩:=h
  exact ⟨hd,l,by rw[hb]; exact h1,h2,h3,h4,h5,h6,h7,fun t=>(h8 t).mono hx⟩
 | ar8 left cur=>
  obtain ⟨hd,mb,last,seen,mes,clock,lft,h1,h2,h3,h4,h5,h6,h7,h8,hc,h9⟩:=h;exact ⟨hd,mb,last,seen,mes,clock,lft,by rw[hb]; exact h1,hx.fb h2,by rw[hx.keep mb h2.ub]; exact h3,h4,h5,h6,h7,h8,fun c e=>let ⟨i,g1,g2,g3,g4⟩:=hc c e; ⟨i,g1,g2,g3.mono hx,g4.mono hx⟩,fun i hi=>⟨(h9 i hi).1.mono hx,(h9 i hi).2.mono hx⟩⟩
theorem ay5 (w:World)(o:Obj)(b:Nat)(hb:b<w.heap.size):(w.alloc o).heap[b]? = w.heap[b]?:=by
 show (w.heap.push o)[b]? = w.heap[b]?;simp[Array.getElem?_push,Nat.ne_of_lt hb]
theorem am2 {n id d:Nat}{o:Obj}(hno:ρ id=.no)(hn:n<=id):Ext n ρ w (ρ.put id (.at w.heap.size d)) (w.alloc o) where
 size:=by show w.heap.size<=(w.heap.push o).size; simp
 keep:=fun b hb=>ay5 w o b hb.1
 shape:=fun b rcs el fz hb=>⟨rcs,by rw[ay5 w o b (Array.getElem?_eq_some_iff.1 hb).1]; exact hb,rfl⟩
 img:=fun i B d' hi=>by
  rw[aj1] at hi;split at hi
  ·cases hi; exact .inr (Nat.le_refl _)
  ·exact .inl ⟨i,d',hi⟩
 at_:=fun i B d' hi=>by
  rw[aj1];split
  ·rename_i h; subst h; rw[hno] at hi; cases hi
  ·exact .inl hi
 dead:=fun i hi=>by
  rw[aj1];split
  ·rename_i h; subst h; rw[hno] at hi; cases hi
  ·exact hi
 no:=fun i hi h0=>by
  rw[aj1];split
  ·rename_i h; omega
  ·exact h0
 output:=rfl
 os:=rfl
 tape:=⟨rfl,Nat.le_refl _⟩
 loops:=fun l L hl=>⟨L,by rw[ay5 w o l (Array.getElem?_eq_some_iff.1 hl).1]; exact hl⟩
 X:=rfl
theorem bu4 {id d:Nat}{ro:Obj}{o:ak4}(hs:Sim E ρ w σ)(hno:ρ id=.no)(hlt:id<σ.next)
  (ho:OR (ρ.put id (.at w.heap.size d)) (w.alloc ro) w.heap.size d o):Sim E (ρ.put id (.at w.heap.size d)) (w.alloc ro) (σ.put id o) where
 inj:=fun i j B d1 d2 hi hj=>by
  rw[aj1] at hi hj;split at hi<;>split at hj
  ·rename_i h1 h2; rw[h1,h2]
  ·cases hi; have:=hs.lt j _ _ hj; omega
  ·cases hj; have:=hs.lt i _ _ hi; omega
  ·exact hs.inj i j B d1 d2 hi hj
 lt:=fun i B d1 hi=>by
  rw[aj1] at hi;show B<(w.heap.push ro).size;rw[Array.size_push];split at hi
  ·cases hi; omega
  ·have:=hs.lt i _ _ hi; omega
 obj:=fun i B d1 hi=>by
  rw[aj1] at hi;simp only[Store.put];split at hi
  ·rename_i h; cases hi; exact ⟨o,by simp[h],ho⟩
  ·rename_i h;obtain ⟨o',h1,h2⟩:=hs.obj i B d1 hi;exact ⟨o',by simp[h,h1],h2.mono (am2 (n:=0) hno (Nat.zero_le _)) (ay5 w ro B (hs.lt i B d1 hi))⟩
 dead:=fun i hi=>by
  rw[aj1] at hi;simp only[Store.put];split at hi
  ·cases hi
  ·rename_i h; simp[h,hs.dead i hi]
 fresh:=fun i hi=>by
  have:i≠id:=by have:σ.next<=i:=hi; omega
  simp[Rho.put,this,hs.fresh i hi]
 av3:=fun i hi=>by
  rw[aj1] at hi;split at hi
  ·cases hi
  ·rename_i h; simp[Store.put,h,hs.av3 i hi]
 env:=fun g=>(hs.env g).mono (am2 (n:=0) hno (Nat.zero_le _))
 nx:=fun i B d1 hi hX=>by
  rw[aj1] at hi;split at hi
  ·cases hi; exact absurd (hs.xlt _ hX) (Nat.lt_irrefl _)
  ·exact hs.nx i B d1 hi hX
 xlt:=fun b hX=>by
  show b<(w.heap.push ro).size;rw[Array.size_push];have:=hs.xlt b hX;omega
theorem dx2 {id:Nat}{cs:List IV}{rcs:Array Value}{el:TypeId}(hno:ρ id=.no)(hc:CR ρ w cs rcs) :
  ap9 (ρ.put id (.at w.heap.size 0)) (w.alloc (.cells rcs el)) w.heap.size 0 cs:=by
 refine ⟨rcs,el,by show (w.heap.push _)[w.heap.size]? = _; simp,by rw[hc.1]; omega,fun i hi=>?_⟩;rw[Nat.zero_add];exact (hc.2 i hi).mono (am2 (n:=0) hno (Nat.zero_le _))
theorem dx3 {id:Nat}{cs:List IV}{rcs:Array Value}{el:TypeId}(hs:Sim E ρ w σ)(hno:ρ id=.no)(hlt:id<σ.next)(hc:CR ρ w cs rcs) :
  Sim E (ρ.put id (.at w.heap.size 0)) (w.alloc (.cells rcs el)) (σ.put id (.cells cs)):=
 bu4 hs hno hlt (dx2 hno hc)
theorem db8 {id:Nat}{cs:List IV}{rcs:Array Value}{el:TypeId}(hs:Sim E ρ w σ)(hno:ρ id=.no)(hlt:id<σ.next)(hc:CR ρ w cs rcs) :
  Sim E (ρ.put id (.at w.heap.size 0)) (w.alloc (.cells rcs el)) (σ.put id (.row cs)):=
 bu4 hs hno hlt (dx2 hno hc)
theorem az9 (n:Nat):Ext n ρ w ρ w.drew:=⟨Nat.le_refl _,fun _ _=>rfl,fun _ r _ _ h=>⟨r,h,rfl⟩,fun i B d h=>.inl ⟨i,d,h⟩,fun _ _ _ h=>.inl h,fun _ h=>h,fun _ _ h=>h,rfl,rfl,⟨rfl,Nat.le_succ _⟩,fun _ L h=>⟨L,h⟩,rfl⟩
theorem cp4 (hs:Sim E ρ w σ):Sim E ρ w.drew σ :=
 ⟨hs.inj,hs.lt,fun i B d h=>let ⟨o,h1,h2⟩:=hs.obj i B d h; ⟨o,h1,h2.mono (az9 0) rfl⟩,hs.dead,hs.fresh,hs.av3,fun g=>(hs.env g).mono (az9 0),hs.nx,hs.xlt⟩
theorem setRow_other (w:World)(g b:Nat)(cs:Array Value)(h:b≠g):(w.setRow g cs).heap[b]? = w.heap[b]?:=by
 have h':¬ g=b:=fun e=>h e.symm
 simp[World.setRow,Array.getElem?_modify,h']
theorem bu5 (w:World)(g:Nat)(cs:Array Value):(w.setRow g cs).heap.size=w.heap.size:=by simp[World.setRow]
theorem ax3 {n id B d:Nat}{old new:Array Value}{el:TypeId}{fz:Nat×Nat}(hid:ρ id=.at B d)(hb:w.heap[B]? = some (.cells old el fz))(hsz:new.size=old.size) :
  Ext n ρ w ρ (w.setRow B new) where
 size:=by rw[bu5]; exact Nat.le_refl _
 keep:=fun b hfb=>setRow_other w B b new (fun h=>by subst h; exact hfb.2 id d hid)
 shape:=fun b rcs el' fz' hb'=>by
  by_cases h:b=B
  ·subst h;rw[hb] at hb';cases hb';exact ⟨new,setRow_heap w b old new el fz hb,hsz⟩
  ·exact ⟨rcs,by rw[setRow_other w B b new h]; exact hb',rfl⟩
 img:=fun i B' d' h=>.inl ⟨i,d',h⟩
 at_:=fun _ _ _ h=>.inl h
 dead:=fun _ h=>h
 no:=fun _ _ h=>h
 output:=rfl
 os:=rfl
 tape:=⟨rfl,Nat.le_refl _⟩
 loops:=fun l L hl=>⟨L,by rw[setRow_other w B l new (fun h=>by subst h; rw[hb] at hl; cases hl)]; exact hl⟩
 X:=rfl
theorem bo8 {id B d:Nat}{old new:Array Value}{el:TypeId}{fz:Nat×Nat}{o:ak4}(hs:Sim E ρ w σ)(hid:ρ id=.at B d)(hb:w.heap[B]? = some (.cells old el fz))(hsz:new.size=old.size)
  (ho:OR ρ (w.setRow B new) B d o):Sim E ρ (w.setRow B new) (σ.put id o) where
 inj:=hs.inj
 lt:=fun i B' d' h=>by rw[bu5]; exact hs.lt i B' d' h
 obj:=fun i B' d' hi=>by
  simp only[Store.put];by_cases h:i=id
  ·subst h;rw[hid] at hi;cases hi;exact ⟨o,by simp,ho⟩
  ·obtain ⟨o',h1,h2⟩:=hs.obj i B' d' hi;have hne:B'≠B:=fun e=>h (hs.inj i id B d' d (by rw[hi,e]) hid)
   exact ⟨o',by simp[h,h1],h2.mono (ax3 (n:=0) hid hb hsz) (setRow_other w B B' new hne)⟩
 dead:=fun i hi=>by
  have:i≠id:=fun e=>by subst e; rw[hid] at hi; cases hi
  simp[Store.put,this,hs.dead i hi]
 fresh:=fun i hi=>hs.fresh i hi
 av3:=fun i hi=>by
  have:i≠id:=fun e=>by subst e; rw[hid] at hi; cases hi
  simp[Store.put,this,hs.av3 i hi]
 env:=fun g=>(hs.env g).mono (ax3 (n:=0) hid hb hsz)
 nx:=hs.nx
 xlt:=fun b hX=>by rw[bu5]; exact hs.xlt b hX
theorem in8 {cs:List IV}{vs:List IV}{old:Array Value}{news:List Value}{d k:Nat}(hold:∀ i,i<cs.length->VR ρ w (cs.getD i .undef) (old.getD (d+i) undef))(hd:d+cs.length<=old.size)
  (hn:vs.length=news.length) (hv:∀ i,i<vs.length->VR ρ w (vs.getD i .undef) (news.getD i undef)) (hk:k+vs.length<=cs.length) :
  ∀ i,i<cs.length->VR ρ w ((ay1 cs k vs).getD i .undef) ((old.toList.take (d+k)++news++old.toList.drop (d+k+news.length)).toArray.getD (d+i) undef):=by
 intro i hi;rw[dw6 hk]
 have e:(old.toList.take (d+k)++news++old.toList.drop (d+k+news.length)).toArray.getD (d+i) undef =
   if d+k<=d+i/\d+i<d+k+news.length then news.getD (d+i-(d+k)) undef else old.getD (d+i) undef:=by
  have h1:min (d+k) old.toList.length=d+k:=by simp; omega
  simp only[Array.getD_eq_getD_getElem?,List.getElem?_toArray,List.getElem?_append,List.length_append,List.length_take,h1,List.getElem?_take,List.getElem?_drop,List.getD_eq_getElem?_getD,Array.getElem?_toList];by_cases c1:d+i<d+k+news.length
  ·by_cases c2:d+i<d+k
   ·have:¬ (d+k<=d+i):=by omega
    simp[c1,c2,this]
   ·have:d+k<=d+i:=by omega
    simp[c1,c2,this]
  ·have c2:¬ (d+i<d+k):=by omega
   simp only[c1,if_false,and_false];congr 2;omega
 rw[e];by_cases c:k<=i/\i<k+vs.length
 ·have c':d+k<=d+i/\d+i<d+k+news.length:=by omega
  rw[if_pos c,if_pos c'];have:=hv (i-k) (by omega)
  rwa [show d+i-(d+k)=i-k from by omega]
 ·have c':¬ (d+k<=d+i/\d+i<d+k+news.length):=by omega
  rw[if_neg c,if_neg c'];exact hold i hi
end Go.Id
/- Operations that make a block,store,append: each against the model. Conditions: none; over any program. -/
namespace Go.Id
open Go
variable {P:Program} {w w':World} {ρ ρ':Rho} {E:Nat->IV} {σ:Store} {N:Nat} {fr:Frm} {a:Act}
def cp5 (P:Program)(E:Nat->IV)(id n:Nat)(ρ:Rho)(w:World)(a:Act)(op:Op)(v:IV)(σ':Store):Prop :=
 ∀ o:Oper,o.op=op->∃ (x:Next) (r:Value) (ρ':Rho) (w':World),(execOp a.eval o).run P w=.ok x w'/\((x=.value r)\/(x=.skip/\r=undef))/\Sim E ρ' w' σ'/\VR ρ' w' v r/\Ext n ρ w ρ' w'/\aj4 id ρ ρ'
theorem fb2 {t:TypeId}{z:List IV}{id n:Nat}(hz:bl8 P t=some z)(hs:Sim E ρ w σ)(hno:ρ id=.no)(hlt:id<σ.next)(hn:n<=id) :
  cp5 P E id n ρ w a (.alloc t) (.ptr id 0) (σ.put id (.cells z)):=by
 intro o ho;obtain ⟨zr,hzr,hcr⟩:=at5 (w:=w) (ρ:=ρ) hz;refine ⟨.value (.pointer (some ⟨w.heap.size,0,none⟩)),.pointer (some ⟨w.heap.size,0,none⟩),ρ.put id (.at w.heap.size 0),w.alloc (.cells zr.cells t),?_,.inl rfl,dx3 hs hno hlt hcr,?_,am2 hno hn,aj4.put _ _ _⟩
 ·unfold execOp;rw[ho];simp[Instr.alloc,hzr,newVar,newRow]
 ·exact .ptr id 0 w.heap.size 0 (by simp[Rho.put])
theorem eq3 {t:TypeId}{x:Operand}{y:IX}{id n:Nat}(hx:aj8 x=some y)(hl:(y.ev E fr).cs.all IV.leaf=true)(hs:Sim E ρ w σ)(hf:FR ρ w N fr a.tmps)(hno:ρ id=.no)(hlt:id<σ.next)(hn:n<=id) :
  cp5 P E id n ρ w a (.box t x) (.ptr id 0) (σ.put id (.cells (y.ev E fr).cs)):=by
 intro o ho;obtain ⟨hcr,_⟩:=bu1 (ab1 hx hs hf) hl;refine ⟨.value (.pointer (some ⟨w.heap.size,0,none⟩)),.pointer (some ⟨w.heap.size,0,none⟩),ρ.put id (.at w.heap.size 0),w.alloc (.cells (a.eval x).cells t),?_,.inl rfl,dx3 hs hno hlt hcr,?_,am2 hno hn,aj4.put _ _ _⟩
 ·unfold execOp;rw[ho];simp[Instr.box,newVar,newRow]
 ·exact .ptr id 0 w.heap.size 0 (by simp[Rho.put])
def rep (z:List IV):Nat->List IV
 | 0=>[]
 | n+1=>z++rep z n
theorem aq6 (z:List IV)(n:Nat):(rep z n).length=n*z.length:=by
 induction n with
 | zero=>simp[rep]
 | succ n ih=>simp[rep,ih,Nat.add_mul,Nat.add_comm]
theorem gp7 (z:List IV)(hz:0<z.length)(d:IV):∀ (n i:Nat),i<n*z.length->(rep z n).getD i d=z.getD (i%z.length) d:=by
 intro n
 induction n with
 | zero=>intro i hi; simp at hi
 | succ n ih=>
  intro i hi;simp only[rep,List.getD_eq_getElem?_getD,List.getElem?_append];by_cases h:i<z.length
  ·simp[h,Nat.mod_eq_of_lt h]
  ·rw[if_neg h];have:=ih (i-z.length) (by rw[Nat.add_mul,Nat.one_mul] at hi; omega);simp only[List.getD_eq_getElem?_getD] at this;have e:=Nat.mod_eq_sub_mod (a:=i) (b:=z.length) (by omega);rw[e];exact this
theorem cr5 {z:List IV}{rz:Array Value}(h:CR ρ w z rz)(n:Nat)(hp:0<z.length\/n=0) :
  CR ρ w (rep z n) ((Array.range (n*z.length)).map (rz[· % rz.size]!)):=by
 refine ⟨by simp[aq6],fun i hi=>?_⟩;rw[aq6] at hi;rcases hp with hp|hp
 ·rw[gp7 z hp _ n i hi];have hm:i%z.length<z.length:=Nat.mod_lt _ hp;have hm':i%rz.size<rz.size:=by rw[<- h.1]; exact hm
  have:=h.2 (i%z.length) hm;rw[h.1] at this;rw[ad7 _ _ _ hm'] at this;rw[ad7 _ _ _ (by simpa using hi)];simp only[Array.getElem_map,Array.getElem_range];rw[getElem!_pos rz (i%rz.size) hm',h.1];exact this
 ·subst hp; simp at hi
theorem eq4 {t el:TypeId}{len:Nat}{parts:Array (Nat×Operand)}{z out:List IV}{ps:List (Nat×Nat×IX)}{esz id n:Nat}(hu:P.underlying t=some (.slice el))(hsz:szT P el=some esz)(hpos:0<esz)(hz:bl8 P el=some z)(hzl:z.length=esz)
  (hbig:len*esz<=2^24) (hp:bc9 P (fun i=>some (i*esz,esz)) parts.toList=some ps) (hv:ax1 (rep z len) (ps.map fun p=>(p.1,p.2.1,p.2.2.ev E fr))=some out)
  (hs:Sim E ρ w σ) (hf:FR ρ w N fr a.tmps) (hno:ρ id=.no) (hlt:id<σ.next) (hn:n<=id) :
  cp5 P E id n ρ w a (.buildSlice t len parts) (.slice id 0 len esz) (σ.put id (.row out)):=by
 intro o ho;obtain ⟨zr,hzr,hcr⟩:=at5 (w:=w) (ρ:=ρ) hz;have hcz:=cr5 hcr len (.inl (by omega));rw[hzl] at hcz;obtain ⟨hl,hpl⟩:=bu3 parts.toList ps hp hs hf;obtain ⟨rout,hr,hro⟩:=db5 (place:=fun i=>some (i*esz,esz)) _ (parts.toList.map fun p=>(p.1,a.eval p.2)) _ out _ hcz (by simp[hl]) (fun j hj=>hpl j (by simpa using hj)) hv;have hpt:(parts.map fun (i,x)=>(i,a.eval x)).toList=parts.toList.map fun p=>(p.1,a.eval p.2):=by simp
 have hol:out.length=len*esz:=by
  have:∀ (ps:List (Nat×Nat×IV)) (l o:List IV),ax1 l ps=some o->o.length=l.length:=by
   intro ps
   induction ps with
   | nil=>intro l o h; cases h; rfl
   | cons p ps ih=>
    intro l o h;obtain ⟨off,s,v⟩:=p;simp only[ax1] at h;split at h
    ·rename_i hh;rw[ih _ _ h,ai6 (by omega)]
    ·cases h
  rw[this _ _ _ hv,aq6,hzl]
 have hsim:=db8 (el:=el) hs hno hlt hro;refine ⟨.value (.slice (some ⟨w.heap.size,0,none⟩) len len),.slice (some ⟨w.heap.size,0,none⟩) len len,ρ.put id (.at w.heap.size 0),w.alloc (.cells rout el),?_,.inl rfl,hsim,?_,am2 hno hn,aj4.put _ _ _⟩
 ·unfold execOp;rw[ho];have hb:¬ (len*esz>2^24):=by omega
  have e0:∀ f:Nat->Value,(Array.range 0).map f=#[]:=fun f=>by simp[Array.range]
  by_cases h0:len*esz=0
  ·have hfill:Instr.fill (fun i=>some (i*esz,esz)) #[] ((parts.map fun (i,x)=>(i,a.eval x)).toList)=some rout:=by
    rw[hpt,<- hr,h0,e0]
   simp only[Instr.buildSlice,Sem.run_bind,run_underlying hu,Result.andThen_ok,run_sizeOf hsz,if_neg hb,if_pos h0,Sem.run_pure,h0,e0,hfill];simp[newRow]
  ·have hfill:Instr.fill (fun i=>some (i*esz,esz)) ((Array.range (len*esz)).map (zr.cells[· % zr.cells.size]!)) ((parts.map fun (i,x)=>(i,a.eval x)).toList)=some rout:=by
    rw[hpt,<- hr]
   simp only[Instr.buildSlice,Sem.run_bind,run_underlying hu,Result.andThen_ok,run_sizeOf hsz,if_neg hb,if_neg h0,hzr,Sem.run_pure,hfill];simp[newRow]
 ·exact .slice id 0 len esz w.heap.size 0 len rout el (0,0) (by simp[Rho.put]) (by show (w.heap.push _)[w.heap.size]? = _; simp) (by rw[<- hro.1,hol]; omega) (Nat.le_refl _)
def aq2 (σ:Store)(n:Nat)(addr v:IV):Option Store :=
 match addr with
 | .ptr id off=>match σ.obj id with
  | some (.cells cs)=>if v.cs.length=n/\off+n<=cs.length/\v.cs.all IV.leaf=true then some (σ.put id (.cells (ay1 cs off v.cs))) else none
  | some (.row cs)=>if v.cs.length=n/\off+n<=cs.length/\v.cs.all IV.leaf=true then some (σ.put id (.row (ay1 cs off v.cs))) else none
  | _=>none
 | _=>none
theorem fv3 {t:TypeId}{sz id B d off:Nat}{cs:List IV}{v:IV}{ry:Value}{ob:ak4}(hsz:szT P t=some sz)(hid:ρ id=.at B d)(hor:ap9 ρ w B d cs)(h1:v.cs.length=sz)(h2:off+sz<=cs.length)(h3:v.cs.all IV.leaf=true)
  (vy:VR ρ w v ry) (hs:Sim E ρ w σ) (hob:∀ w',OR ρ w' B d ob=ap9 ρ w' B d (ay1 cs off v.cs)) :
  ∃ w',(Instr.storeAt t (.pointer (some ⟨B,d+off,none⟩)) ry).run P w=.ok () w'/\Sim E ρ w' (σ.put id ob)/\∀ n,Ext n ρ w ρ w':=by
 obtain ⟨rcs,el,hb,hsz',hvs⟩:=hor;obtain ⟨⟨c1,c2⟩,c3⟩:=bu1 vy h3;have hst:=run_storeCells_at (P:=P) B (d+off) el ry.cells.toList 0 rcs w hb (by simp; omega) c3;simp only[Nat.add_zero] at hst;generalize hnew:(rcs.toList.take (d+off)++ry.cells.toList++rcs.toList.drop (d+off+ry.cells.toList.length)).toArray=new at hst
 have hnsz:new.size=rcs.size:=by
  rw[<- hnew]; simp; omega
 have hx:∀ n,Ext n ρ w ρ (w.setRow B new):=fun n=>ax3 (n:=n) (new:=new) hid hb hnsz
 refine ⟨w.setRow B new,?_,bo8 hs hid hb hnsz ?_,hx⟩
 ·have hne:¬ (ry.cells.size≠sz):=by simp; omega
  simp only[Instr.storeAt,Instr.sureAddr,Sem.run_bind,Sem.run_pure,Result.andThen_ok,storeVar,run_sizeOf hsz,if_neg hne,hst]
 ·rw[hob];refine ⟨new,el,setRow_heap w B rcs new el (0,0) hb,?_,?_⟩
  ·rw[hnsz,ai6 (by omega)]; exact hsz'
  ·intro i hi;rw[ai6 (by omega)] at hi
   have:=in8 (w:=w) (ρ:=ρ) (cs:=cs) (vs:=v.cs) (old:=rcs) (news:=ry.cells.toList) (d:=d) (k:=off) hvs hsz' (by simpa using c1)
    (fun i hi=>by simpa [Array.getD_eq_getD_getElem?,List.getD_eq_getElem?_getD] using c2 i hi) (by omega) i hi
   rw[hnew] at this;exact this.mono (hx 0)
theorem fb3 {t:TypeId}{x y:Operand}{ix iy:IX}{sz n id0:Nat}{σ':Store}(hsz:szT P t=some sz)(hx:aj8 x=some ix)(hy:aj8 y=some iy)(h:aq2 σ sz (ix.ev E fr) (iy.ev E fr)=some σ')
  (hs:Sim E ρ w σ) (hf:FR ρ w N fr a.tmps):cp5 P E id0 n ρ w a (.store t x y) .undef σ':=by
 intro o ho;have vx:=ab1 hx hs hf;have vy:=ab1 hy hs hf;generalize ix.ev E fr=p at vx h;generalize iy.ev E fr=v at vy h;generalize hrx:a.eval x=rx at vx;generalize hry:a.eval y=ry at vy
 cases vx with
 | ptr id off B d hid=>
  simp only[aq2] at h;obtain ⟨ob,hob,hor⟩:=hs.obj id B d hid;rw[hob] at h
  have fin:∀ (cs:List IV) (ob':ak4),ap9 ρ w B d cs->(∀ w',OR ρ w' B d ob'=ap9 ρ w' B d (ay1 cs off v.cs)) ->
    (if v.cs.length=sz/\off+sz<=cs.length/\v.cs.all IV.leaf=true then some (σ.put id ob') else none)=some σ' ->
    ∃ (x:Next) (r:Value) (ρ':Rho) (w':World),(execOp a.eval o).run P w=.ok x w'/\((x=.value r)\/(x=.skip/\r=undef))/\Sim E ρ' w' σ'/\VR ρ' w' .undef r/\Ext n ρ w ρ' w'/\aj4 id0 ρ ρ':=by
   intro cs ob' hor hob' h;split at h
   ·rename_i hh;cases h;obtain ⟨w',hrun,hsim,hx⟩:=fv3 (P:=P) hsz hid hor hh.1 hh.2.1 hh.2.2 vy hs hob';refine ⟨.skip,undef,ρ,w',?_,.inr ⟨rfl,rfl⟩,hsim,.undef _,hx n,aj4.refl _ _⟩;unfold execOp;rw[ho];simp only[hrx,hry,Sem.run_bind,hrun,Result.andThen_ok];rfl
   ·cases h
  cases ob with
  | cells cs=>exact fin cs _ hor (fun _=>rfl) h
  | row cs=>exact fin cs _ hor (fun _=>rfl) h
  | _=>simp at h
 | cp1 id off ad hid=>simp[aq2,hs.dead id hid] at h
 | _=>simp[aq2] at h
end Go.Id
/- append against the model. Conditions: none; over any program. -/
namespace Go.Id
open Go
variable {P:Program} {w w':World} {ρ ρ':Rho} {E:Nat->IV} {σ:Store} {N:Nat} {fr:Frm} {a:Act} {ty:TypeId}
def cc5 (σ:Store)(esz:Nat):IV->Option (Nat×List IV)
 | .aa1|.ac8|.af6=>some (0,[])
 | .aa5 es=>if es.all (fun e=>e.length==esz) then some (es.length,es.flatten) else none
 | .slice id off len e=>match σ.obj id with
  | some (.row cs)=>if e=esz/\off+len*esz<=cs.length then some (len,(cs.drop off).take (len*esz)) else none
  | _=>none
 | .ag7 id off len e=>match σ.obj id with
  | some (.row cs)=>if e=esz/\off+len*esz<=cs.length then some (len,(cs.drop off).take (len*esz)) else none
  | _=>none
 | _=>none
theorem dx4 {es:List (List IV)}{esz:Nat}(h:∀ e∈es,e.length=esz)(d:IV):es.flatten.length=es.length*esz /\
  ∀ i j,i<es.length->j<esz->es.flatten.getD (i*esz+j) d=(es.getD i []).getD j d:=by
 induction es with
 | nil=>exact ⟨by simp,fun i j hi=>by simp at hi⟩
 | cons e es ih=>
  have he:e.length=esz:=h e (by simp);obtain ⟨h1,h2⟩:=ih (fun x hx=>h x (by simp[hx]));refine ⟨by simp only[List.flatten_cons,List.length_append,h1,he,List.length_cons,Nat.add_mul]; omega,fun i j hi hj=>?_⟩;simp only[List.flatten_cons,List.getD_eq_getElem?_getD,List.getElem?_append]
  cases i with
  | zero=>simp[he,hj]
  | succ i=>
   have:¬ ((i+1)*esz+j<e.length):=by rw[Nat.add_mul]; omega
   rw[if_neg this];have:=h2 i j (by simpa using hi) hj;simp only[List.getD_eq_getElem?_getD] at this;have e1:(i+1)*esz+j-e.length=i*esz+j:=by rw[Nat.add_mul]; omega
   rw[e1,this];simp
theorem fv4 {esz n:Nat}{v:IV}{r:Value}{cells:List IV}(hs:Sim E ρ w σ)(h:cc5 σ esz v=some (n,cells))(hv:VR ρ w v r) :
  cells.length=n*esz/\(Builtin.lenOf r).run P w=.ok n w/\∃ rcs:Array Value,CR ρ w cells rcs/\(Builtin.firstCells esz n r).run P w=.ok rcs w/\(Builtin.firstCells esz n r).run P w.drew=.ok rcs w.drew:=by
 cases hv with
 | aa1=>
  cases h
  exact ⟨by simp,by simp[Builtin.lenOf],#[],⟨rfl,fun i hi=>by simp at hi⟩,by simp[Builtin.firstCells],by simp[Builtin.firstCells]⟩
 | ac8 ad=>
  cases h
  exact ⟨by simp,by simp[Builtin.lenOf],#[],⟨rfl,fun i hi=>by simp at hi⟩,by simp[Builtin.firstCells,loadCells,loadCellsFrom],by simp[Builtin.firstCells,loadCells,loadCellsFrom]⟩
 | af6 ad cap=>
  cases h
  exact ⟨by simp,by simp[Builtin.lenOf],#[],⟨rfl,fun i hi=>by simp at hi⟩,by simp[Builtin.firstCells,loadCells,loadCellsFrom],by simp[Builtin.firstCells,loadCells,loadCellsFrom]⟩
 | cb8=>
  simp only[cc5] at h;cases h
  exact ⟨by simp,by simp[Builtin.lenOf],#[],⟨rfl,fun i hi=>by simp at hi⟩,by simp[Builtin.firstCells],by simp[Builtin.firstCells]⟩
 | aa5 es b o cap esz' sp vs hf hsz hc hv hle=>
  simp only[cc5] at h;split at h
  ·rename_i hall;cases h;have hall':∀ e∈es,e.length=esz:=fun e he=>by have:=List.all_eq_true.1 hall e he; simpa using this
   obtain ⟨f1,f2⟩:=dx4 hall' .undef;refine ⟨f1,by simp[Builtin.lenOf],?_⟩;by_cases h0:es.length*esz=0
   ·refine ⟨#[],⟨by rw[f1,h0]; rfl,fun i hi=>by rw[f1,h0] at hi; omega⟩,?_,?_⟩<;>simp[Builtin.firstCells,loadCells,loadCellsFrom,h0]
   ·have hpos:0<esz:=by
     rcases Nat.eq_zero_or_pos esz with h|h
     ·subst h; simp at h0
     ·exact h
    have hne:es≠[]:=by intro he; subst he; simp at h0
    have hl:0<es.length:=by cases es with|nil=>exact absurd rfl hne|cons _ _=>simp
    have hee:esz'=esz:=by
     rw[<- hsz 0 hl]; exact hall' _ (by rw[List.getD_eq_getElem?_getD,List.getElem?_eq_getElem hl]; exact List.getElem_mem _)
    subst hee;obtain ⟨_,rfl⟩:=hf hne;have hdiv:∀ k,k<es.length*esz'->k/esz'<es.length/\k%esz'<esz':=fun k hk=>⟨Nat.div_lt_of_lt_mul (by rw[Nat.mul_comm]; exact hk),Nat.mod_lt _ hpos⟩
    have hdm:∀ k,k/esz'*esz'+k%esz'=k:=fun k=>by rw[Nat.mul_comm]; exact Nat.div_add_mod k esz'
    have hcell:∀ k,k<es.length*esz'->w.cell? ((⟨b,o,none⟩:Addr).add k)=some (vs (k/esz') (k%esz')):=fun k hk=>by
     rw[ay4];have:=hc _ (hdiv k hk).1 _ (hdiv k hk).2
     rwa [hdm] at this
    have hl:=run_loadCells (P:=P) (w:=w) ⟨b,o,none⟩ (es.length*esz') (fun k=>vs (k/esz') (k%esz')) hcell;have hl':=run_loadCells (P:=P) (w:=w.drew) ⟨b,o,none⟩ (es.length*esz') (fun k=>vs (k/esz') (k%esz')) hcell;refine ⟨((List.range (es.length*esz')).map fun k=>vs (k/esz') (k%esz')).toArray,⟨by simp[f1],fun k hk=>?_⟩,by simpa [Builtin.firstCells] using hl,by simpa [Builtin.firstCells] using hl'⟩;rw[f1] at hk;have:=hv _ (hdiv k hk).1 _ (hdiv k hk).2;rw[<- f2 _ _ (hdiv k hk).1 (hdiv k hk).2,hdm] at this
    simpa [Array.getD_eq_getD_getElem?,hk] using this
  ·cases h
 | slice id off len e B d cap rcs el fz hid hb hsz hle=>
  simp only[cc5] at h;obtain ⟨ob,hob,hor⟩:=hs.obj id B d hid;rw[hob] at h
  cases ob with
  | row cs=>
   simp only at h;split at h
   ·rename_i hh;obtain ⟨rfl,h2⟩:=hh;cases h;obtain ⟨rcs',el',hb',hsz',hvs⟩:=hor;rw[hb] at hb';cases hb';have hlen:((cs.drop off).take (n*e)).length=n*e:=by simp; omega
    have hcell:∀ k,k<n*e->w.cell? ((⟨B,d+off,none⟩:Addr).add k)=some (rcs.getD (d+(off+k)) undef):=fun k hk=>by
     rw[ay4];have hlt:d+off+k<rcs.size:=by omega
     simp only[World.cell?,hb,Option.isSome_none,Bool.false_eq_true,if_false];rw[ad7 _ _ _ (by omega),Array.getElem?_eq_getElem hlt];congr 2;omega
    have hl:=run_loadCells (P:=P) (w:=w) ⟨B,d+off,none⟩ (n*e) (fun k=>rcs.getD (d+(off+k)) undef) hcell;have hl':=run_loadCells (P:=P) (w:=w.drew) ⟨B,d+off,none⟩ (n*e) (fun k=>rcs.getD (d+(off+k)) undef) hcell;refine ⟨hlen,by simp[Builtin.lenOf],((List.range (n*e)).map fun k=>rcs.getD (d+(off+k)) undef).toArray,⟨by simp; omega,fun k hk=>?_⟩,by simpa [Builtin.firstCells] using hl,by simpa [Builtin.firstCells] using hl'⟩;rw[hlen] at hk;rw[getD_take' _ _ _ _ hk,an4];have:=hvs (off+k) (by omega);rw[ad7 _ _ _ (by simpa using hk)]
    simpa using this
   ·cases h
  | _=>simp at h
 | am1 id off e B d ad hid=>
  simp only[cc5] at h;obtain ⟨ob,hob,hor⟩:=hs.obj id B d hid;rw[hob] at h
  cases ob with
  | row cs=>
   simp only at h;split at h
   ·cases h;exact ⟨by simp,by simp[Builtin.lenOf],#[],⟨by simp,fun i hi=>by simp at hi⟩,by simp[Builtin.firstCells,loadCells,loadCellsFrom],by simp[Builtin.firstCells,loadCells,loadCellsFrom]⟩
   ·cases h
  | _=>simp at h
 | al1 id off len e cap ad hid hle=>simp[cc5,hs.dead id hid] at h
 | ap5 id off len e ad hid=>simp[cc5,hs.dead id hid] at h
 | ag7 id off len e B d rcs el fz hid hb hsz=>
  simp only[cc5] at h;obtain ⟨ob,hob,hor⟩:=hs.obj id B d hid;rw[hob] at h
  cases ob with
  | row cs=>
   simp only at h;split at h
   ·rename_i hh;obtain ⟨rfl,h2⟩:=hh;cases h;obtain ⟨rcs',el',hb',hsz',hvs⟩:=hor;rw[hb] at hb';cases hb';have hlen:((cs.drop off).take (n*e)).length=n*e:=by simp; omega
    have hcell:∀ k,k<n*e->w.cell? ((⟨B,d+off,none⟩:Addr).add k)=some (rcs.getD (d+(off+k)) undef):=fun k hk=>by
     rw[ay4];have hlt:d+off+k<rcs.size:=by omega
     simp only[World.cell?,hb,Option.isSome_none,Bool.false_eq_true,if_false];rw[ad7 _ _ _ (by omega),Array.getElem?_eq_getElem hlt];congr 2;omega
    have hl:=run_loadCells (P:=P) (w:=w) ⟨B,d+off,none⟩ (n*e) (fun k=>rcs.getD (d+(off+k)) undef) hcell;have hl':=run_loadCells (P:=P) (w:=w.drew) ⟨B,d+off,none⟩ (n*e) (fun k=>rcs.getD (d+(off+k)) undef) hcell;refine ⟨hlen,by simp[Builtin.lenOf],((List.range (n*e)).map fun k=>rcs.getD (d+(off+k)) undef).toArray,⟨by simp; omega,fun k hk=>?_⟩,by simpa [Builtin.firstCells] using hl,by simpa [Builtin.firstCells] using hl'⟩;rw[hlen] at hk;rw[getD_take' _ _ _ _ hk,an4];have:=hvs (off+k) (by omega);rw[ad7 _ _ _ (by simpa using hk)]
    simpa using this
   ·cases h
  | _=>simp at h
 | _=>simp[cc5] at h
def bf6 (σ:Store) (id esz:Nat) (s x:IV):Option (IV×Store):=
 match cc5 σ esz x with
 | none=>none
 | some (n,xs)=>
  if xs.all IV.leaf=false then none else
  match s with
  | .aa1=>if n=0 then some (.aa1,σ) else if n<=2147483648 then some (.slice id 0 n esz,σ.put id (.row xs)) else none
  | .ac8=>if n=0 then some (.ac8,σ) else if n<=2147483648 then some (.slice id 0 n esz,σ.put id (.row xs)) else none
  | .aa5 es=>if n=0 then some (.aa5 es,σ) else none
  | .slice did off len e=>match σ.obj did with
   | some (.row cs)=>
    if e=esz/\n=0 then some (s,σ)
    else if e=esz/\off+len*esz=cs.length/\len+n<=2147483648/\(cs.drop off).all IV.leaf=true then some (.slice id 0 (len+n) esz,(σ.kill did).put id (.row (cs.drop off++xs)))
    else none
   | _=>none
  | .ag7 did off len e=>match σ.obj did with
   | some (.row cs)=>
    if e=esz/\n=0 then some (.slice did off len e,σ)
    else if e=esz/\off+len*esz<=cs.length/\len+n<=2147483648/\n≠0 then some (.slice id 0 (len+n) esz,σ.put id (.row ((cs.drop off).take (len*esz)++xs)))
    else none
   | _=>none
  | _=>none
theorem fv5 (n:Nat):∀ (r c:Nat),c<n->Builtin.growBy n r c<=n+(n+768)/4:=by
 intro r
 induction r with
 | zero=>intro c hc; simp only[Builtin.growBy]; omega
 | succ r ih=>
  intro c hc;simp only[Builtin.growBy];rw[if_neg (by omega)];by_cases h:c+(c+768)/4<n
  ·exact ih _ h
  ·cases r with
   | zero=>simp only[Builtin.growBy]; omega
   | succ r=>simp only[Builtin.growBy]; rw[if_pos (by omega)]; omega
theorem cr6 {n old:Nat}(h:old<n):Builtin.nextslicecap n old<=2*n+192:=by
 unfold Builtin.nextslicecap;split
 ·omega
 ·split
  ·omega
  ·have:=fv5 n 4 old h; omega
theorem da1 {t xt ty el:TypeId}{i:TypeInfo}{z:Value}{base:Option Addr}{sLen sCap n:Nat}{rx:Value}{olds news:Array Value}(ht:P.underlying t=some (.slice el))(hxt:∃ u,P.underlying xt=some u/\∀ k,u≠.int k)
  (hi:P.info? el=some i) (hz:i.zero=some z) (hb:i.bytes<=4096) (hn:(Builtin.lenOf rx).run P w=.ok n w) (hold:(Builtin.firstCells i.size sLen (.slice base sLen sCap)).run P w.drew=.ok olds w.drew)
  (hnew:(Builtin.firstCells i.size n rx).run P w.drew=.ok news w.drew) (hg:sCap<sLen+n) (hle:sLen+n<=2147483648) :
  ∃ cap rest,sLen+n<=cap/\rest.size=(cap-(sLen+n))*z.cells.size /\
  (Builtin.append_ #[t,xt] ty #[.slice base sLen sCap,rx]).run P w=.ok (.slice (some ⟨w.heap.size,0,none⟩) (sLen+n) cap) (w.drew.alloc (.cells (olds++news++rest) el)):=by
 obtain ⟨u,hu,hnot⟩:=hxt;have hcapeq:sLen+n<=grownCap w (sLen+n) sCap el:=Nat.le_add_right _ _;refine ⟨grownCap w (sLen+n) sCap el,Builtin.zeroCells z.cells (grownCap w (sLen+n) sCap el-(sLen+n)),hcapeq,by simp[Builtin.zeroCells],?_⟩;have h0:¬ (sLen+n<=sCap):=by omega
 have h63:¬ (9223372036854775807<((sLen:Int)+(n:Int))):=by omega
 have hnc:=cr6 hg
 have h48:¬ (281474976710656<Builtin.nextslicecap (sLen+n) sCap*i.bytes):=by
  have:Builtin.nextslicecap (sLen+n) sCap*i.bytes<=(2*(sLen+n)+192)*4096:=Nat.mul_le_mul hnc hb;omega
 have hz0:(match u with|.int _=>true|_=>false)=false:=by cases u<;>first|rfl|exact absurd rfl (hnot _)
 simp[Builtin.append_,run_underlying ht,run_underlying hu,sizeOf,typeInfo,zeroValue,hi,hz,hz0,hn,h0,h63,h48,Question.forced,hold,hnew,newRow,grownCap]
theorem dn6 {n:Nat}(hat:∀ i B d,ρ i=.at B d->ρ' i=.at B d\/ρ' i=.dead)(hdead:∀ i,ρ i=.dead->ρ' i=.dead)(hno:∀ i,i<n->ρ i=.no->ρ' i=.no)
  (himg:∀ i B d,ρ' i=.at B d->∃ j d',ρ j=.at B d') (hX:ρ'.X=ρ.X):Ext n ρ w ρ' w :=
 ⟨Nat.le_refl _,fun _ _=>rfl,fun _ r _ _ h=>⟨r,h,rfl⟩,fun i B d h=>.inl (himg i B d h),hat,hdead,hno,rfl,rfl,⟨rfl,Nat.le_refl _⟩,fun _ L h=>⟨L,h⟩,hX⟩
theorem bw9 {n did B d:Nat}(hd:ρ did=.at B d):Ext n ρ w (ρ.put did .dead) w :=
 dn6 (fun i B' d' h=>by rw[aj1]; split<;>simp_all) (fun i h=>by rw[aj1]; split<;>simp_all)
  (fun i _ h=>by rw[aj1]; split<;>simp_all) (fun i B' d' h=>by rw[aj1] at h; split at h; cases h; exact ⟨i,d',h⟩) rfl
theorem dn7 {did B d:Nat}(hs:Sim E ρ w σ)(hd:ρ did=.at B d):Sim E (ρ.put did .dead) w (σ.kill did) where
 inj:=fun i j B' d1 d2 hi hj=>by
  rw[aj1] at hi hj;split at hi<;>split at hj<;>first|(cases hi; done)|(cases hj; done)|exact hs.inj i j B' d1 d2 hi hj
 lt:=fun i B' d1 hi=>by rw[aj1] at hi; split at hi; cases hi; exact hs.lt i B' d1 hi
 obj:=fun i B' d1 hi=>by
  rw[aj1] at hi;split at hi
  ·cases hi
  ·rename_i h;obtain ⟨o,h1,h2⟩:=hs.obj i B' d1 hi;exact ⟨o,by simp[Store.kill,h,h1],h2.mono (bw9 (n:=0) hd) rfl⟩
 dead:=fun i hi=>by
  rw[aj1] at hi;simp only[Store.kill];split at hi
  ·rename_i h; simp[h]
  ·rename_i h; simp[h,hs.dead i hi]
 fresh:=fun i hi=>by
  have h0:ρ i=.no:=hs.fresh i hi;have:i≠did:=fun e=>by subst e; rw[hd] at h0; cases h0
  simp[Rho.put,this,h0]
 av3:=fun i hi=>by
  rw[aj1] at hi;split at hi
  ·cases hi
  ·rename_i h; simp[Store.kill,h,hs.av3 i hi]
 env:=fun g=>(hs.env g).mono (bw9 (n:=0) hd)
 nx:=fun i B' d1 hi=>by rw[aj1] at hi; split at hi; cases hi; exact hs.nx i B' d1 hi
 xlt:=hs.xlt
theorem db9 {n did id B d off:Nat}(hd:ρ did=.at B d)(hno:ρ id=.no)(hn:n<=id):Ext n ρ w ((ρ.put did .dead).put id (.at B (d+off))) w:=by
 have hne:did≠id:=fun e=>by subst e; rw[hd] at hno; cases hno
 refine dn6 (fun i B' d' h=>?_) (fun i h=>?_) (fun i hi h=>?_) (fun i B' d' h=>?_) rfl
 ·rw[aj1,aj1];split
  ·rename_i e; subst e; rw[hno] at h; cases h
  ·split
   ·exact .inr rfl
   ·exact .inl h
 ·rw[aj1,aj1];split
  ·rename_i e; subst e; rw[hno] at h; cases h
  ·split
   ·rfl
   ·exact h
 ·rw[aj1,aj1];split
  ·omega
  ·split
   ·rename_i e; subst e; rw[hd] at h; cases h
   ·exact h
 ·rw[aj1,aj1] at h;split at h
  ·cases h; exact ⟨did,d,hd⟩
  ·split at h
   ·cases h
   ·exact ⟨i,d',h⟩
theorem fb4 {did id B d off:Nat}{cs:List IV}(hs:Sim E ρ w σ)(hd:ρ did=.at B d)(hc:σ.obj did=some (.row cs))(hno:ρ id=.no)(hlt:id<σ.next)(hoff:off<=cs.length) :
  Sim E ((ρ.put did .dead).put id (.at B (d+off))) w ((σ.kill did).put id (.row (cs.drop off))):=by
 have hne:did≠id:=fun e=>by subst e; rw[hd] at hno; cases hno
 have hx:Ext 0 ρ w ((ρ.put did .dead).put id (.at B (d+off))) w:=db9 hd hno (Nat.zero_le _);have val:∀ i,((ρ.put did .dead).put id (.at B (d+off))) i=if i=id then .at B (d+off) else if i=did then .dead else ρ i:=fun i=>rfl
 refine ⟨fun i j B' d1 d2 hi hj=>?_,fun i B' d1 hi=>?_,fun i B' d1 hi=>?_,fun i hi=>?_,fun i hi=>?_,fun i hi=>?_,fun g=>(hs.env g).mono hx,fun i B' d1 hi=>?_,hs.xlt⟩
 ·rw[val] at hi hj;split at hi<;>split at hj
  ·rename_i h1 h2; rw[h1,h2]
  ·split at hj
   ·cases hj
   ·rename_i h; cases hi; exact absurd (hs.inj j did B d2 d hj hd) h
  ·split at hi
   ·cases hi
   ·rename_i h _; cases hj; exact absurd (hs.inj i did B d1 d hi hd) (by assumption)
  ·split at hi
   ·cases hi
   ·split at hj
    ·cases hj
    ·exact hs.inj i j B' d1 d2 hi hj
 ·rw[val] at hi;split at hi
  ·cases hi; exact hs.lt did B d hd
  ·split at hi
   ·cases hi
   ·exact hs.lt i B' d1 hi
 ·rw[val] at hi;split at hi
  ·rename_i h;cases hi;refine ⟨.row (cs.drop off),by simp[Store.put,h],?_⟩;obtain ⟨o,h1,h2⟩:=hs.obj did B d hd;rw[hc] at h1;cases h1;obtain ⟨rcs,el,hb,hsz,hv⟩:=h2;refine ⟨rcs,el,hb,by simp; omega,fun k hk=>?_⟩;simp at hk;rw[an4];have:=(hv (off+k) (by omega)).mono hx
   rwa [show d+off+k=d+(off+k) from by omega]
  ·rename_i h;split at hi
   ·cases hi
   ·rename_i h';obtain ⟨o,h1,h2⟩:=hs.obj i B' d1 hi;exact ⟨o,by simp[Store.put,Store.kill,h,h',h1],h2.mono hx rfl⟩
 ·rw[val] at hi;split at hi
  ·cases hi
  ·rename_i h;split at hi
   ·rename_i h'; subst h'; simp[Store.put,Store.kill,h]
   ·rename_i h'; simp[Store.put,Store.kill,h,h',hs.dead i hi]
 ·have h0:ρ i=.no:=hs.fresh i hi;have h1:i≠did:=fun e=>by subst e; rw[hd] at h0; cases h0
  have h2:i≠id:=by have:σ.next<=i:=hi; omega
  rw[val];simp[h1,h2,h0]
 ·rw[val] at hi;split at hi
  ·cases hi
  ·rename_i h;split at hi
   ·cases hi
   ·rename_i h'; simp[Store.put,Store.kill,h,h',hs.av3 i hi]
 ·rw[val] at hi;split at hi
  ·cases hi; exact hs.nx did B d hd
  ·split at hi
   ·cases hi
   ·exact hs.nx i B' d1 hi
theorem cr7 (old:Array Value)(news:List Value)(p k:Nat)(h:p+news.length<=old.size) :
  (old.toList.take p++news++old.toList.drop (p+news.length)).toArray.getD k undef=if p<=k/\k<p+news.length then news.getD (k-p) undef else old.getD k undef:=by
 have h1:min p old.size=p:=by omega
 simp only[Array.getD_eq_getD_getElem?,List.getElem?_toArray,List.getElem?_append,List.length_append,List.length_take,Array.length_toList,h1,List.getElem?_take,List.getElem?_drop,List.getD_eq_getElem?_getD,Array.getElem?_toList];by_cases c1:k<p+news.length
 ·by_cases c2:k<p
  ·have:¬ (p<=k):=by omega
   simp[c1,c2,this]
  ·have:p<=k:=by omega
   simp[c1,c2,this]
 ·have c2:¬ (k<p):=by omega
  simp only[c1,if_false,and_false];congr 2;omega
theorem dn8 {t xt el:TypeId}{i:TypeInfo}{B o sLen sCap n:Nat}{rx:Value}{news old:Array Value}{e:TypeId}(ht:P.underlying t=some (.slice el))(hxt:∃ u,P.underlying xt=some u/\∀ k,u≠.int k)
  (hi:P.info? el=some i) (hn:(Builtin.lenOf rx).run P w=.ok n w) (hnew:(Builtin.firstCells i.size n rx).run P w=.ok news w) (hg:sLen+n<=sCap)
  (hb:w.heap[B]? = some (.cells old e (0,0))) (hfit:o+sLen*i.size+news.size<=old.size) (hone:∀ v∈news.toList,v.oneCell'=true) :
  (Builtin.append_ #[t,xt] ty #[.slice (some ⟨B,o,none⟩) sLen sCap,rx]).run P w=.ok (.slice (some ⟨B,o,none⟩) (sLen+n) sCap)
   (w.setRow B (old.toList.take (o+sLen*i.size)++news.toList++old.toList.drop (o+sLen*i.size+news.toList.length)).toArray):=by
 obtain ⟨u,hu,hnot⟩:=hxt;have hst:=run_storeCells_at (P:=P) B (o+sLen*i.size) e news.toList 0 old w hb (by simpa using hfit) hone;simp only[Nat.add_zero] at hst;have hz0:(match u with|.int _=>true|_=>false)=false:=by cases u<;>first|rfl|exact absurd rfl (hnot _)
 simp[Builtin.append_,run_underlying ht,run_underlying hu,sizeOf,typeInfo,hi,hn,hg,hnew,ay4,hst]
theorem al2 {t xt el:TypeId}{i:TypeInfo}{base:Option Addr}{sLen sCap:Nat}{rx:Value}{rcs:Array Value}(ht:P.underlying t=some (.slice el))(hxt:∃ u,P.underlying xt=some u/\∀ k,u≠.int k)
  (hi:P.info? el=some i) (hn:(Builtin.lenOf rx).run P w=.ok 0 w) (hnew:(Builtin.firstCells i.size 0 rx).run P w=.ok rcs w) (hrz:rcs.size=0) (hle:sLen<=sCap) :
  (Builtin.append_ #[t,xt] ty #[.slice base sLen sCap,rx]).run P w=.ok (.slice base sLen sCap) w:=by
 obtain ⟨u,hu,hnot⟩:=hxt;have hz0:(match u with|.int _=>true|_=>false)=false:=by cases u<;>first|rfl|exact absurd rfl (hnot _)
 have:rcs=#[]:=Array.eq_empty_of_size_eq_zero hrz;subst this;cases base<;>simp[Builtin.append_,run_underlying ht,run_underlying hu,sizeOf,typeInfo,hi,hn,hle,hnew,storeCells]
theorem hu9 {t xt el:TypeId} {i:TypeInfo} {z:Value} {esz id n0:Nat} {s x v:IV} {rs rx:Value} {σ':Store} (ht:P.underlying t=some (.slice el)) (hxt:∃ u,P.underlying xt=some u/\∀ k,u≠.int k)
  (hi:P.info? el=some i) (hz:i.zero=some z) (hesz:i.size=esz) (hzs:z.cells.size=esz) (hb:i.bytes<=4096) (h:bf6 σ id esz s x=some (v,σ')) (vs:VR ρ w s rs) (vx:VR ρ w x rx)
  (hs:Sim E ρ w σ) (hno:ρ id=.no) (hlt:id<σ.next) (hn0:n0<=id) :
  ∃ r ρ' w',(Builtin.append_ #[t,xt] ty #[rs,rx]).run P w=.ok r w'/\Sim E ρ' w' σ'/\VR ρ' w' v r/\Ext n0 ρ w ρ' w'/\aj4 id ρ ρ':=by
 unfold bf6 at h
 cases hsrc:cc5 σ esz x with
 | none=>rw[hsrc] at h; cases h
 | some p =>
  obtain ⟨n,xs⟩:=p;rw[hsrc] at h;simp only at h;split at h
  ·cases h
  rename_i hleaf;have hleaf:xs.all IV.leaf=true:=by simpa using hleaf
  obtain ⟨hxl,hlen,rcs,hcr,hf1,hf2⟩:=fv4 (P:=P) hs hsrc vx;rw[<- hesz] at hf1 hf2;have hrl:rcs.size=n*esz:=by rw[<- hcr.1,hxl]
  have hone:∀ v∈rcs.toList,v.oneCell'=true:=fun q hq=>by
   obtain ⟨k,hk,rfl⟩:=List.mem_iff_getElem.1 hq;simp at hk;have hk':k<xs.length:=by rw[hcr.1]; exact hk
   have hl:(xs.getD k .undef).leaf=true:=by
    have:=List.all_eq_true.1 hleaf xs[k] (List.getElem_mem _)
    simpa [List.getD_eq_getElem?_getD,hk'] using this
   have:=(cp3 hl (hcr.2 k hk')).1;rw[ad7 _ _ _ hk] at this
   simpa using this
  -- a new row whose first cells are those of 'cells'
  have fresh:∀ (base:Option Addr) (sLen sCap:Nat) (olds:Array Value) (ocs:List IV) (ρ1:Rho) (σ1:Store),Sim E ρ1 w σ1->Ext n0 ρ w ρ1 w->aj4 id ρ ρ1->ρ1 id=.no->id<σ1.next->CR ρ1 w ocs olds->CR ρ1 w xs rcs->ocs.length=sLen*esz ->
    (Builtin.firstCells i.size sLen (.slice base sLen sCap)).run P w.drew=.ok olds w.drew->sCap<sLen+n->sLen+n<=2147483648 ->
    ∃ r ρ' w',(Builtin.append_ #[t,xt] ty #[.slice base sLen sCap,rx]).run P w=.ok r w'/\Sim E ρ' w' (σ1.put id (.row (ocs++xs)))/\VR ρ' w' (.slice id 0 (sLen+n) esz) r/\Ext n0 ρ w ρ' w'/\aj4 id ρ ρ':=by
   intro base sLen sCap olds ocs ρ1 σ1 hs1 hx1 hnb hno1 hlt1 hco hcx hol hfo hg hle;obtain ⟨cap,rest,hcap,hrest,hrun⟩:=da1 (ty:=ty) (base:=base) ht hxt hi hz hb hlen hfo hf2 hg hle;have hd:=cp4 hs1;have hxd:=az9 (ρ:=ρ1) (w:=w) 0
   have hor:OR (ρ1.put id (.at w.heap.size 0)) (w.drew.alloc (.cells (olds++rcs++rest) el)) w.heap.size 0 (.row (ocs++xs)):=by
    refine ⟨olds++rcs++rest,el,by show (w.heap.push _)[w.heap.size]? = _; simp,by simp[hco.1,hcx.1],fun k hk=>?_⟩;have hxa:Ext 0 ρ1 w (ρ1.put id (.at w.heap.size 0)) (w.drew.alloc (.cells (olds++rcs++rest) el)):=hxd.trans (am2 (n:=0) hno1 (Nat.zero_le _)) (Nat.le_refl _);rw[Nat.zero_add];simp only[List.length_append] at hk;by_cases hk1:k<ocs.length
    ·have:=(hco.2 k hk1).mono hxa;have e1:(ocs++xs).getD k .undef=ocs.getD k .undef:=by simp[List.getD_eq_getElem?_getD,List.getElem?_append,hk1]
     have hk2:k<olds.size:=by rw[<- hco.1]; exact hk1
     have e2:(olds++rcs++rest).getD k undef=olds.getD k undef:=by
      simp[Array.getD_eq_getD_getElem?,Array.getElem?_append,hk2,Nat.lt_add_right _ hk2]
     rw[e1,e2]; exact this
    ·have hk3:k-ocs.length<xs.length:=by omega
     have:=(hcx.2 (k-ocs.length) hk3).mono hxa;have e1:(ocs++xs).getD k .undef=xs.getD (k-ocs.length) .undef:=by simp[List.getD_eq_getElem?_getD,List.getElem?_append,hk1]
     have hk2:¬ (k<olds.size):=by rw[<- hco.1]; exact hk1
     have hk4:k<olds.size+rcs.size:=by rw[<- hco.1,<- hcx.1]; omega
     have e2:(olds++rcs++rest).getD k undef=rcs.getD (k-ocs.length) undef:=by
      have hk5:k-olds.size<rcs.size:=by rw[<- hco.1]; omega
      simp[Array.getD_eq_getD_getElem?,Array.getElem?_append,hk2,hk5,hco.1]
     rw[e1,e2]; exact this
   refine ⟨_,ρ1.put id (.at w.heap.size 0),_,hrun,bu4 (w:=w.drew) (d:=0) hd hno1 hlt1 hor,?_,hx1.trans ((az9 n0).trans (am2 (w:=w.drew) hno1 hn0) (Nat.le_refl _)) (Nat.le_refl _),hnb.trans (aj4.put _ _ _)⟩;refine .slice id 0 (sLen+n) esz w.heap.size 0 cap (olds++rcs++rest) el (0,0) (by simp[Rho.put]) (by show (w.heap.push _)[w.heap.size]? = _; simp) ?_ hcap;have h1:olds.size=sLen*esz:=by rw[<- hco.1,hol]
   have h2:(cap-(sLen+n))*esz+(sLen+n)*esz=cap*esz:=by rw[<- Nat.add_mul]; congr 1; omega
   rw[Nat.add_mul] at h2;simp only[Array.size_append,hrest,hzs,h1,hrl];omega
  cases vs with
  | aa1=>
   simp only at h;split at h
   ·rename_i h0;cases h;subst h0;exact ⟨_,ρ,w,al2 ht hxt hi hlen hf1 (by simpa using hrl) (Nat.le_refl _),hs,.aa1,Ext.refl _ _ _,aj4.refl _ _⟩
   ·split at h
    ·rename_i h0 h1;cases h;have:=fresh none 0 0 #[] [] ρ σ hs (Ext.refl _ _ _) (aj4.refl _ _) hno hlt ⟨rfl,fun i hi=>by simp at hi⟩ hcr (by simp) (by simp[Builtin.firstCells]) (by omega) (by omega)
     simpa using this
    ·cases h
  | ac8 ad=>
   simp only at h;split at h
   ·rename_i h0;cases h;subst h0;exact ⟨_,ρ,w,al2 ht hxt hi hlen hf1 (by simpa using hrl) (Nat.le_refl _),hs,.ac8 ad,Ext.refl _ _ _,aj4.refl _ _⟩
   ·split at h
    ·rename_i h0 h1;cases h;have:=fresh (some ad) 0 0 #[] [] ρ σ hs (Ext.refl _ _ _) (aj4.refl _ _) hno hlt ⟨rfl,fun i hi=>by simp at hi⟩ hcr (by simp) (by simp[Builtin.firstCells,loadCells,loadCellsFrom]) (by omega) (by omega)
     simpa using this
    ·cases h
  | cb8=>
   simp only at h;split at h
   ·rename_i h0;cases h;subst h0;exact ⟨_,ρ,w,al2 ht hxt hi hlen hf1 (by simpa using hrl) (Nat.le_refl _),hs,.cb8,Ext.refl _ _ _,aj4.refl _ _⟩
   ·cases h
  | aa5 es b o cap esz' sp vs hf hsz hc hv hle=>
   simp only at h;split at h
   ·rename_i h0;cases h;subst h0;exact ⟨_,ρ,w,al2 ht hxt hi hlen hf1 (by simpa using hrl) hle,hs,.aa5 es b o cap esz' sp vs hf hsz hc hv hle,Ext.refl _ _ _,aj4.refl _ _⟩
   ·cases h
  | slice did off len e B d cap rc el' fz hid hbk hsz hle=>
   simp only at h;obtain ⟨ob,hob,hor⟩:=hs.obj did B d hid;rw[hob] at h
   cases ob with
   | row cs=>
    simp only at h;split at h
    ·rename_i h0;obtain ⟨rfl,h0⟩:=h0;cases h;subst h0;exact ⟨_,ρ,w,al2 ht hxt hi hlen hf1 (by simpa using hrl) hle,hs,.slice did off len e B d cap rc el' fz hid hbk hsz hle,Ext.refl _ _ _,aj4.refl _ _⟩
    ·split at h
     ·rename_i h0 h1;obtain ⟨rfl,h2,h3,h4⟩:=h1
      have hn1:0<n:=by
       rcases Nat.eq_zero_or_pos n with hh|hh
       ·exact absurd ⟨rfl,hh⟩ h0
       ·exact hh
      cases h;obtain ⟨rc',el2,hb2,hsz2,hvs⟩:=hor;rw[hbk] at hb2;cases hb2;by_cases hfit:len+n<=cap
      ·-- in place
       have hcap:(len+n)*e<=cap*e:=Nat.mul_le_mul_right e hfit;rw[Nat.add_mul] at hcap;have hin:=dn8 (ty:=ty) (B:=B) (o:=d+off) (sCap:=cap) ht hxt hi hlen hf1 hfit hbk (by rw[hrl,hesz]; omega) hone;rw[hesz] at hin;generalize hnew:(rc.toList.take (d+off+len*e)++rcs.toList++rc.toList.drop (d+off+len*e+rcs.toList.length)).toArray=new at hin;have hnsz:new.size=rc.size:=by rw[<- hnew]; simp; omega
       have hx:=ax3 (n:=0) (new:=new) hid hbk hnsz
       have hsim:Sim E ρ (w.setRow B new) (σ.put did (.row (cs++xs))):=by
        refine bo8 hs hid hbk hnsz ⟨new,el',setRow_heap w B rc new el' (0,0) hbk,?_,fun k hk=>?_⟩
        ·rw[hnsz]; simp[hxl]; omega
        ·simp only[List.length_append] at hk;by_cases hk1:k<cs.length
         ·have e1:(cs++xs).getD k .undef=cs.getD k .undef:=by simp[List.getD_eq_getElem?_getD,List.getElem?_append,hk1]
          have e2:new.getD (d+k) undef=rc.getD (d+k) undef:=by
           rw[<- hnew,cr7 _ _ _ _ (by simp; omega),if_neg (by omega)]
          rw[e1,e2];exact (hvs k hk1).mono hx
         ·have e1:(cs++xs).getD k .undef=xs.getD (k-cs.length) .undef:=by simp[List.getD_eq_getElem?_getD,List.getElem?_append,hk1]
          have e2:new.getD (d+k) undef=rcs.getD (k-cs.length) undef:=by
           rw[<- hnew,cr7 _ _ _ _ (by simp; omega),if_pos (by simp; omega),show d+k-(d+off+len*e)=k-cs.length from by omega];simp[Array.getD_eq_getD_getElem?,List.getD_eq_getElem?_getD]
          rw[e1,e2];exact (hcr.2 (k-cs.length) (by omega)).mono hx
       have hsim2:=fb4 (off:=off) (cs:=cs++xs) hsim hid (by simp[Store.put]) hno hlt (by rw[List.length_append]; omega);have hxr:=db9 (n:=n0) (w:=w.setRow B new) (off:=off) hid hno hn0;refine ⟨_,_,_,hin,?_,?_,(ax3 (n:=n0) (new:=new) hid hbk hnsz).trans hxr (Nat.le_refl _),(aj4.kill hid _).trans (aj4.put _ _ _)⟩
       ·have e1:((σ.put did (.row (cs++xs))).kill did).put id (.row ((cs++xs).drop off))=(σ.kill did).put id (.row (cs.drop off++xs)):=by
         rw[List.drop_append_of_le_length (by omega)];unfold Store.put Store.kill;congr 1;funext k;simp only;split
         ·rfl
         ·split
          ·rfl
          ·rename_i h5; simp[h5]
        rw[<- e1];exact hsim2
       ·rw[show d+off=d+off+0 from rfl];exact .slice id 0 (len+n) e B (d+off) cap new el' (0,0) (by simp[Rho.put]) (setRow_heap w B rc new el' (0,0) hbk) (by rw[hnsz]; omega) hfit
      ·-- a new row
       have hk:=dn7 hs hid;have hkx:=bw9 (n:=n0) (w:=w) hid;have hne:id≠did:=fun e=>by subst e; rw[hid] at hno; cases hno
       have hco:CR (ρ.put did .dead) w (cs.drop off) ((List.range (len*e)).map fun k=>rc.getD (d+(off+k)) undef).toArray:=by
        refine ⟨by simp; omega,fun k hk'=>?_⟩;simp at hk';rw[an4,ad7 _ _ _ (by simp; omega)];have:=(hvs (off+k) (by omega)).mono hkx
        simpa using this
       have hfo:(Builtin.firstCells i.size len (.slice (some ⟨B,d+off,none⟩) len cap)).run P w.drew=.ok ((List.range (len*e)).map fun k=>rc.getD (d+(off+k)) undef).toArray w.drew:=by
        have hcell:∀ k,k<len*e->w.drew.cell? ((⟨B,d+off,none⟩:Addr).add k)=some (rc.getD (d+(off+k)) undef):=fun k hk=>by
         rw[ay4];show w.cell? _=_;have hlt:d+off+k<rc.size:=by omega
         simp only[World.cell?,hbk,Option.isSome_none,Bool.false_eq_true,if_false];rw[ad7 _ _ _ (by omega),Array.getElem?_eq_getElem hlt];congr 2;omega
        have hl:=run_loadCells (P:=P) (w:=w.drew) ⟨B,d+off,none⟩ (len*e) (fun k=>rc.getD (d+(off+k)) undef) hcell;rw[hesz]
        simpa [Builtin.firstCells] using hl
       exact fresh (some ⟨B,d+off,none⟩) len cap _ _ _ _ hk hkx (aj4.kill hid _) (by simp[Rho.put,hne,hno]) hlt hco ⟨hcr.1,fun k hk'=>(hcr.2 k hk').mono hkx⟩ (by simp; omega) hfo (by omega) h3
     ·cases h
   | _=>simp at h
  | am1 did off e B d ad hid=>
   simp only at h;obtain ⟨ob,hob,hor⟩:=hs.obj did B d hid;rw[hob] at h
   cases ob with
   | row cs=>
    simp only at h;split at h
    ·rename_i h0;obtain ⟨rfl,h0⟩:=h0;cases h;subst h0;exact ⟨_,ρ,w,al2 ht hxt hi hlen hf1 (by simpa using hrl) (Nat.le_refl _),hs,.am1 did off e B d ad hid,Ext.refl _ _ _,aj4.refl _ _⟩
    ·split at h
     ·rename_i h0 h1;obtain ⟨rfl,h2,h3,h4⟩:=h1
      have hn1:0<n:=by
       rcases Nat.eq_zero_or_pos n with hh|hh
       ·exact absurd ⟨rfl,hh⟩ h0
       ·exact hh
      cases h;have hk:=dn7 hs hid;have hkx:=bw9 (n:=n0) (w:=w) hid;have hne:id≠did:=fun e=>by subst e; rw[hid] at hno; cases hno
      have hd0:cs.drop off=[]:=List.drop_of_length_le (by omega);rw[hd0];have:=fresh (some ad) 0 0 #[] [] _ _ hk hkx (aj4.kill hid _) (by simp[Rho.put,hne,hno]) hlt ⟨rfl,fun i hi=>by simp at hi⟩ ⟨hcr.1,fun k hk'=>(hcr.2 k hk').mono hkx⟩ (by simp) (by simp[Builtin.firstCells,loadCells,loadCellsFrom]) (by omega) (by omega)
      simpa using this
     ·cases h
   | _=>simp at h
  | al1 did off len e cap ad hid hle=>simp[hs.dead did hid] at h
  | ap5 did off len e ad hid=>simp[hs.dead did hid] at h
  | ag7 did off len e B d rc el' fz hid hbk hsz=>
   simp only at h;obtain ⟨ob,hob,hor⟩:=hs.obj did B d hid;rw[hob] at h
   cases ob with
   | row cs=>
    simp only at h;split at h
    ·rename_i h0;obtain ⟨rfl,h0⟩:=h0;cases h;subst h0;exact ⟨_,ρ,w,al2 ht hxt hi hlen hf1 (by simpa using hrl) (Nat.le_refl _),hs,.slice did off len e B d len rc el' fz hid hbk hsz (Nat.le_refl _),Ext.refl _ _ _,aj4.refl _ _⟩
    ·split at h
     ·rename_i h0 h1;obtain ⟨rfl,h2,h3,h4⟩:=h1;cases h;obtain ⟨rc',el2,hb2,hsz2,hvs⟩:=hor;rw[hbk] at hb2;cases hb2
      have hco:CR ρ w ((cs.drop off).take (len*e)) ((List.range (len*e)).map fun k=>rc.getD (d+(off+k)) undef).toArray:=by
       refine ⟨by simp; omega,fun k hk'=>?_⟩;simp at hk';rw[getD_take' _ _ _ _ (by omega),an4,ad7 _ _ _ (by simp; omega)];have:=hvs (off+k) (by omega)
       simpa using this
      have hfo:(Builtin.firstCells i.size len (.slice (some ⟨B,d+off,none⟩) len len)).run P w.drew=.ok ((List.range (len*e)).map fun k=>rc.getD (d+(off+k)) undef).toArray w.drew:=by
       have hcell:∀ k,k<len*e->w.drew.cell? ((⟨B,d+off,none⟩:Addr).add k)=some (rc.getD (d+(off+k)) undef):=fun k hk=>by
        rw[ay4];show w.cell? _=_;have hlt:d+off+k<rc.size:=by omega
        simp only[World.cell?,hbk,Option.isSome_none,Bool.false_eq_true,if_false];rw[ad7 _ _ _ (by omega),Array.getElem?_eq_getElem hlt];congr 2;omega
       have hl:=run_loadCells (P:=P) (w:=w.drew) ⟨B,d+off,none⟩ (len*e) (fun k=>rc.getD (d+(off+k)) undef) hcell;rw[hesz]
       simpa [Builtin.firstCells] using hl
      exact fresh (some ⟨B,d+off,none⟩) len len _ _ ρ σ hs (Ext.refl _ _ _) (aj4.refl _ _) hno hlt hco hcr (by simp; omega) hfo (by omega) h3
     ·cases h
   | _=>simp at h
  | _=>simp at h
end Go.Id
/- Maps,made and written. Conditions: none; over any program. -/
namespace Go.Id
open Go
variable {P:Program} {w w':World} {ρ ρ':Rho} {E:Nat->IV} {σ:Store} {N:Nat} {fr:Frm} {a:Act}
theorem bx2 (w:World)(r b:Nat)(o:Obj)(h:b≠r):(w.putObj r o).heap[b]? = w.heap[b]?:=World.putObj_heap_other h
theorem bf7 {n id B d:Nat}{old o:Obj}(hid:ρ id=.at B d)(hb:w.heap[B]? = some old)(hc:∀ rcs el fz,old≠.cells rcs el fz)(hl:∀ L,old≠.loop L):Ext n ρ w ρ (w.putObj B o) where
 size:=by rw[World.putObj_size]; exact Nat.le_refl _
 keep:=fun b hfb=>bx2 w B b o (fun h=>by subst h; exact hfb.2 id d hid)
 shape:=fun b rcs el' fz' hb'=>by
  by_cases h:b=B
  ·subst h; rw[hb] at hb'; exact absurd (Option.some.inj hb') (hc _ _ _)
  ·exact ⟨rcs,by rw[bx2 w B b o h]; exact hb',rfl⟩
 img:=fun i B' d' h=>.inl ⟨i,d',h⟩
 at_:=fun _ _ _ h=>.inl h
 dead:=fun _ h=>h
 no:=fun _ _ h=>h
 output:=rfl
 os:=rfl
 tape:=⟨rfl,Nat.le_refl _⟩
 loops:=fun l L h=>by
  by_cases h':l=B
  ·subst h'; rw[hb] at h; exact absurd (Option.some.inj h) (hl L)
  ·exact ⟨L,by rw[bx2 w B l o h']; exact h⟩
 X:=rfl
theorem cc6 {id B d:Nat}{old ro:Obj}{o:ak4}(hs:Sim E ρ w σ)(hid:ρ id=.at B d)(hb:w.heap[B]? = some old)(hc:∀ rcs el fz,old≠.cells rcs el fz)(hl:∀ L,old≠.loop L)
  (ho:OR ρ (w.putObj B ro) B d o):Sim E ρ (w.putObj B ro) (σ.put id o) where
 inj:=hs.inj
 lt:=fun i B' d' h=>by rw[World.putObj_size]; exact hs.lt i B' d' h
 obj:=fun i B' d' hi=>by
  simp only[Store.put];by_cases h:i=id
  ·subst h;rw[hid] at hi;cases hi;exact ⟨o,by simp,ho⟩
  ·obtain ⟨o',h1,h2⟩:=hs.obj i B' d' hi;have hne:B'≠B:=fun e=>h (hs.inj i id B d' d (by rw[hi,e]) hid)
   exact ⟨o',by simp[h,h1],h2.mono (bf7 (n:=0) hid hb hc hl) (bx2 w B B' ro hne)⟩
 dead:=fun i hi=>by
  have:i≠id:=fun e=>by subst e; rw[hid] at hi; cases hi
  simp[Store.put,this,hs.dead i hi]
 fresh:=fun i hi=>hs.fresh i hi
 av3:=fun i hi=>by
  have:i≠id:=fun e=>by subst e; rw[hid] at hi; cases hi
  simp[Store.put,this,hs.av3 i hi]
 env:=fun g=>(hs.env g).mono (bf7 (n:=0) hid hb hc hl)
 nx:=hs.nx
 xlt:=fun b hX=>by rw[World.putObj_size]; exact hs.xlt b hX
theorem fb5 {t:TypeId}{id n:Nat}(hs:Sim E ρ w σ)(hno:ρ id=.no)(hlt:id<σ.next)(hn:n<=id) :
  cp5 P E id n ρ w a (.makeMap t none) (.map id) (σ.put id (.map [])):=by
 intro o ho;refine ⟨.value (.map (some w.heap.size)),.map (some w.heap.size),ρ.put id (.at w.heap.size 0),w.alloc (.map #[] 0),?_,.inl rfl,bu4 hs hno hlt ?_,.map id w.heap.size 0 (by simp[Rho.put]),am2 hno hn,aj4.put _ _ _⟩
 ·unfold execOp;rw[ho];simp[Instr.makeMap]
 ·exact ⟨#[],0,by show (w.heap.push _)[w.heap.size]? = _; simp,rfl,rfl,fun i hi=>by simp at hi,fun i hi=>by simp at hi,fun i j _ hj=>by simp at hj⟩
def ef1 (tag:Nat)(k v:IV):List (IV×IV)->Option (List (IV×IV))
 | []=>match kOK tag k with
  | true=>some [(k,v)]
  | false=>none
 | e::es=>match ao3 tag k e.1 with
  | some true=>some ((k,v)::es)
  | some false=>(ef1 tag k v es).map (e::·)
  | none=>none
def at6 (σ:Store)(tag:Nat)(x k v:IV):Option Store :=
 match x with
 | .map id=>match σ.obj id with
  | some (.map es)=>(ef1 tag k v es).map fun es'=>σ.put id (.map es')
  | _=>none
 | _=>none
theorem hv8 {tag:Nat}{k v:IV}{es es':List (IV×IV)}(h:ef1 tag k v es=some es'):kOK tag k=true:=by
 cases es with
 | nil=>
  simp only[ef1] at h;split at h
  ·assumption
  ·cases h
 | cons e es=>
  simp only[ef1] at h
  cases hq:ao3 tag k e.1 with
  | none=>rw[hq] at h; cases h
  | some b=>exact hj8 hq
theorem hv9 {tag:Nat}{k v:IV}:∀ (es es':List (IV×IV)),ef1 tag k v es=some es'->∃ q:Option Nat,(q=none->∀ e∈es,ao3 tag k e.1=some false)/\(∀ j,q=some j->j<es.length/\ao3 tag k (es.getD j (.undef,.undef)).1=some true/\∀ i,i<j->ao3 tag k (es.getD i (.undef,.undef)).1=some false) /\
  es'=(match q with|none=>es++[(k,v)]|some j=>es.set j (k,v)):=by
 intro es
 induction es with
 | nil=>
  intro es' h;refine ⟨none,(fun _ e he=>by cases he),(fun j hj=>by cases hj),?_⟩;simp only[ef1] at h;split at h<;>cases h
  rfl
 | cons e es ih=>
  intro es' h;simp only[ef1] at h
  cases hq:ao3 tag k e.1 with
  | none=>rw[hq] at h; cases h
  | some b=>
   rw[hq] at h
   cases b with
   | true=>cases h; exact ⟨some 0,(fun h=>by cases h),(fun j hj=>by cases hj; exact ⟨by simp,by simpa using hq,fun i hi=>absurd hi (Nat.not_lt_zero _)⟩),rfl⟩
   | false=>
    obtain ⟨es2,h3,h4⟩:=map_some h;subst h4;obtain ⟨q,h1,h2,h3⟩:=ih es2 h3;refine ⟨q.map (·+1),fun h=>?_,fun j hj=>?_,?_⟩
    ·cases q with
     | none=>intro x hx; rcases List.mem_cons.1 hx with rfl|hx; exact hq; exact h1 rfl x hx
     | some j=>cases h
    ·cases q with
     | none=>cases hj
     | some j0=>
      cases hj;obtain ⟨g1,g2,g3⟩:=h2 j0 rfl;refine ⟨by simpa using g1,by simpa using g2,fun i hi=>?_⟩;have hi:i<j0+1:=hi
      cases i with
      | zero=>simpa using hq
      | succ i=>have:=g3 i (by omega); simpa using this
    ·rw[h3]; cases q<;>simp
theorem fv6 {tag:Nat}{k e:IV}{rk re:Value}(m:Nat)(h:ak1 tag k e=some true)(hk:VR ρ w k rk)(he:VR ρ w e re):re=rk/\Instr.sameBits m re rk=true:=by
 unfold ak1 at h;split at h
 ·cases hk; cases he; simp at h; subst h; exact ⟨rfl,by simp[Instr.sameBits]⟩
 ·cases hk; cases he;split at h
  ·rename_i hkk; simp at h; subst h; subst hkk; exact ⟨rfl,by simp[Instr.sameBits]⟩
  ·cases h
 ·cases hk; cases he; simp at h; subst h; exact ⟨rfl,by simp[Instr.sameBits,hj9]⟩
 ·cases h
theorem gp8 {tag:Nat}{k e:IV}{rk re:Value}(h:ao3 tag k e=some true)(hk:VR ρ w k rk)(he:VR ρ w e re):re=rk/\Instr.sameBits 10000 re rk=true:=by
 by_cases h3:tag<3
 ·rw[bw8 h3] at h; exact fv6 _ h hk he
 ·obtain ⟨n,rfl⟩:∃ n,tag=n+3:=⟨tag-3,by omega⟩;obtain ⟨xs,ys,rfl,rfl,h1⟩:=bl7 h;obtain ⟨ks,aZ,bs,l1,l2,l3,rfl,rfl,hb⟩:=bo6 h1;have hab:aZ=bs:=by simpa using hb
  subst hab;generalize hxs:(ks.zip aZ).map (fun p=>IV.int p.1 p.2)=xs at hk he
  have hint:∀ x∈xs,∃ k n,x=.int k n:=by
   subst hxs;intro x hx;obtain ⟨p,_,rfl⟩:=List.mem_map.1 hx;exact ⟨_,_,rfl⟩
  cases hk with
  | agg _ rxs hx vx=>
   cases he with
   | agg _ rys hy vy=>
    have hall:∀ i,i<rxs.size->∃ k n,rxs[i]? = some (.int k n)/\rys[i]? = some (.int k n):=by
     intro i hi;have hi2:i<xs.length:=by omega
     obtain ⟨k,n,hkn⟩:=hint (xs.getD i .undef) (by rw[List.getD_eq_getElem?_getD,List.getElem?_eq_getElem hi2]; exact List.getElem_mem hi2);have v1:=vx i hi2;have v2:=vy i hi2;rw[hkn] at v1 v2
     have e1:rxs.getD i undef=.int k n:=by
      generalize rxs.getD i undef=z at v1;cases v1; rfl
     have e2:rys.getD i undef=.int k n:=by
      generalize rys.getD i undef=z at v2;cases v2; rfl
     refine ⟨k,n,?_,?_⟩
     ·rw[ad7 _ _ _ hi] at e1; rw[Array.getElem?_eq_getElem hi,e1]
     ·rw[ad7 _ _ _ (by omega)] at e2; rw[Array.getElem?_eq_getElem (by omega),e2]
    have heq:rys=rxs:=by
     apply Array.ext_getElem?;intro i;by_cases hi:i<rxs.size
     ·obtain ⟨k,n,h1,h2⟩:=hall i hi; rw[h1,h2]
     ·rw[Array.getElem?_eq_none (by omega),Array.getElem?_eq_none (by omega)]
    subst heq;refine ⟨rfl,?_⟩;rw[show (10000:Nat)=9999+1 from rfl,Instr.sameBits];simp only[beq_self_eq_true,Bool.true_and,List.all_eq_true];intro p hp;obtain ⟨i,hi,hpi⟩:=List.mem_iff_getElem.1 hp;simp only[List.length_zip,Array.length_toList,Nat.min_self] at hi;obtain ⟨k,n,h1,_⟩:=hall i hi;have e1:rys[i]=.int k n:=by rw[Array.getElem?_eq_getElem hi] at h1; exact Option.some.inj h1
    have:p=(rys[i],rys[i]):=by rw[<- hpi]; simp
    rw[this,e1];simp[Instr.sameBits]
theorem cr8 {t kt et:TypeId}{tag:Nat}{x k v:Operand}{ix ik iv:IX}{n id0:Nat}{σ':Store}(hu:P.underlying t=some (.map kt et))(ht:gn4 P kt=some tag)
  (hx:aj8 x=some ix) (hk:aj8 k=some ik) (hv:aj8 v=some iv) (h:at6 σ tag (ix.ev E fr) (ik.ev E fr) (iv.ev E fr)=some σ')
  (hs:Sim E ρ w σ) (hf:FR ρ w N fr a.tmps):cp5 P E id0 n ρ w a (.mapUpdate t x k v) .undef σ':=by
 intro o ho;have vx:=ab1 hx hs hf;have vk:=ab1 hk hs hf;have vv:=ab1 hv hs hf;generalize ix.ev E fr=ax at vx h;generalize ik.ev E fr=ak at vk h;generalize iv.ev E fr=av at vv h;generalize hrx:a.eval x=rx at vx;generalize hrk:a.eval k=rk at vk;generalize hrv:a.eval v=rv at vv
 cases vx with
 | map id B dd hid=>
  simp only[at6] at h;obtain ⟨ob,hob,hor⟩:=hs.obj id B dd hid;rw[hob] at h
  cases ob with
  | map es=>
   simp only at h;obtain ⟨es',hes',rfl⟩:=map_some h;obtain ⟨mes,clock,g1,g0,g2,g3,g4,g5⟩:=hor;have toL:∀ (i:Nat),mes.toList.getD i default=mes.getD i default:=fun i=>by simp[List.getD_eq_getElem?_getD,Array.getD_eq_getD_getElem?]
   have hE:EsR ρ w es mes.toList:=⟨by simpa using g2,fun i hi=>by rw[toL]; exact g3 i hi⟩;obtain ⟨r',q1,q2,h2⟩:=hv9 es es' hes';have hck:∀ b,(Instr.checkKey b 10000 kt rk).run P w=.ok () w:=fun b=>cl7 ht (hv8 hes') vk
   have h1:=dn5 ht vk es mes.toList hE r' q1 q2;have hg:(getObj B).run P w=.ok (.map mes clock) w:=by simp[getObj,Sem.run,g1]
   have hset:∀ o,(setObj B o).run P w=.ok () (w.putObj B o):=fun o=>by simp[setObj,Sem.run,g1,World.putObj]
   have hlt:=hs.lt id B dd hid;have nc:∀ (rcs:Array Value) (el:TypeId) (fz:Nat×Nat),Obj.map mes clock≠.cells rcs el fz:=fun _ _ _ h=>by cases h
   have nl:∀ L,Obj.map mes clock≠.loop L:=fun _ h=>by cases h
   have hx:∀ (n:Nat) (o:Obj),Ext n ρ w ρ (w.putObj B o):=fun n o=>bf7 hid g1 nc nl
   have fin:∀ (mes':Array MapEntry) (clock':Nat),(Instr.mapUpdate t (.map (some B)) rk rv).run P w=.ok () (w.putObj B (.map mes' clock'))->es'.length=mes'.size ->
     (∀ i,i<es'.length->VR ρ w (es'.getD i (.undef,.undef)).1 (mes'.getD i default).key/\VR ρ w (es'.getD i (.undef,.undef)).2 (mes'.getD i default).val) ->
     (∀ i,i<mes'.size->(mes'.getD i default).born<clock')->(∀ i j,i<j->j<mes'.size->(mes'.getD i default).born≠(mes'.getD j default).born) ->
     ∃ (x:Next) (r:Value) (ρ':Rho) (w':World),(execOp a.eval o).run P w=.ok x w'/\((x=.value r)\/(x=.skip/\r=undef))/\Sim E ρ' w' (σ.put id (.map es'))/\VR ρ' w' .undef r/\Ext n ρ w ρ' w'/\aj4 id0 ρ ρ':=by
    intro mes' clock' hrun hl hvs hb1 hb2;refine ⟨.skip,undef,ρ,w.putObj B (.map mes' clock'),?_,.inr ⟨rfl,rfl⟩,cc6 hs hid g1 nc nl ?_,.undef _,hx n _,aj4.refl _ _⟩
    ·unfold execOp;rw[ho];simp only[hrx,hrk,hrv,Sem.run_bind,hrun,Result.andThen_ok];rfl
    ·exact ⟨mes',clock',World.putObj_heap_same hlt,g0,hl,fun i hi=>⟨(hvs i hi).1.mono (hx 0 _),(hvs i hi).2.mono (hx 0 _)⟩,hb1,hb2⟩
   cases r' with
   | none=>
    simp only at h2;subst h2;refine fin (mes.push { key:=rk,val:=rv,born:=clock }) (clock+1) ?_ (by simp[g2]) ?_ ?_ ?_
    ·simp[Instr.mapUpdate,run_underlying hu,hg,hck,h1,hset]
    ·intro i hi;by_cases hi2:i<es.length
     ·have e1:(es++[(ak,av)]).getD i (.undef,.undef)=es.getD i (.undef,.undef):=by simp[List.getD_eq_getElem?_getD,List.getElem?_append,hi2]
      have e2:(mes.push { key:=rk,val:=rv,born:=clock }).getD i default=mes.getD i default:=by
       have:i<mes.size:=by omega
       have h3:i≠mes.size:=by omega
       simp[Array.getD_eq_getD_getElem?,Array.getElem?_push,h3]
      rw[e1,e2]; exact g3 i hi2
     ·have hie:i=es.length:=by simp at hi; omega
      subst hie;have e1:(es++[(ak,av)]).getD es.length (.undef,.undef)=(ak,av):=by simp[List.getD_eq_getElem?_getD]
      have e2:(mes.push { key:=rk,val:=rv,born:=clock }).getD es.length default={ key:=rk,val:=rv,born:=clock }:=by
       rw[g2]; simp[Array.getD_eq_getD_getElem?]
      rw[e1,e2]; exact ⟨vk,vv⟩
    ·intro i hi;by_cases hi2:i<mes.size
     ·have e2:(mes.push { key:=rk,val:=rv,born:=clock }).getD i default=mes.getD i default:=by
       have h3:i≠mes.size:=by omega
       simp[Array.getD_eq_getD_getElem?,Array.getElem?_push,h3]
      rw[e2]; have:=g4 i hi2; omega
     ·have hie:i=mes.size:=by simp at hi; omega
      subst hie;simp[Array.getD_eq_getD_getElem?]
    ·intro i j hij hj;have hi2:i<mes.size:=by simp at hj; omega
     have e2:(mes.push { key:=rk,val:=rv,born:=clock }).getD i default=mes.getD i default:=by
      have h3:i≠mes.size:=by omega
      simp[Array.getD_eq_getD_getElem?,Array.getElem?_push,h3]
     rw[e2];by_cases hj2:j<mes.size
     ·have e3:(mes.push { key:=rk,val:=rv,born:=clock }).getD j default=mes.getD j default:=by
       have h3:j≠mes.size:=by omega
       simp[Array.getD_eq_getD_getElem?,Array.getElem?_push,h3]
      rw[e3]; exact g5 i j hij hj2
     ·have hje:j=mes.size:=by simp at hj; omega
      subst hje;have e3:(mes.push { key:=rk,val:=rv,born:=clock }).getD mes.size default={ key:=rk,val:=rv,born:=clock }:=by simp[Array.getD_eq_getD_getElem?]
      rw[e3]; have:=g4 i hi2; show (mes.getD i default).born≠clock; omega
   | some j=>
    obtain ⟨q2,q4,_⟩:=q2 j rfl;simp only at h2;subst h2;obtain ⟨k1,k2⟩:=gp8 q4 vk (g3 j q2).1;have hjm:j<mes.size:=by omega
    have hgd:∀ (i:Nat),(mes.modify j fun e=>{ e with key:=rk,val:=rv }).getD i default=if i=j then { mes.getD j default with key:=rk,val:=rv } else mes.getD i default:=by
     intro i;by_cases hij:i=j
     ·subst hij; simp[Array.getD_eq_getD_getElem?,Array.getElem_modify,hjm]
     ·have:¬ j=i:=fun e=>hij e.symm
      simp[Array.getD_eq_getD_getElem?,Array.getElem?_modify,hij,this]
    have hborn:∀ (i:Nat),((mes.modify j fun e=>{ e with key:=rk,val:=rv }).getD i default).born=(mes.getD i default).born:=by
     intro i;rw[hgd i];by_cases hij:i=j
     ·subst hij; rw[if_pos rfl]
     ·rw[if_neg hij]
    refine fin (mes.modify j fun e=>{ e with key:=rk,val:=rv }) clock ?_ (by simp[g2]) ?_ ?_ ?_
    ·have hkk:((mes[j]?).map (·.key)).getD rk=rk:=by
      have:(mes[j]?).map (·.key)=some (mes.getD j default).key:=by simp[Array.getD_eq_getD_getElem?,hjm]
      rw[this,k1]; rfl
     have hk3:Instr.sameBits 10000 rk rk=true:=by rw[k1] at k2; exact k2
     simp[Instr.mapUpdate,run_underlying hu,hg,hck,h1,hset,Instr.keyThatStays,hkk,hk3]
    ·intro i hi;simp only[List.length_set] at hi;rw[hgd i];by_cases hij:i=j
     ·subst hij;have e1:(es.set i (ak,av)).getD i (.undef,.undef)=(ak,av):=by simp[List.getD_eq_getElem?_getD,hi]
      rw[e1,if_pos rfl]; exact ⟨vk,vv⟩
     ·have:¬ j=i:=fun e=>hij e.symm
      have e1:(es.set j (ak,av)).getD i (.undef,.undef)=es.getD i (.undef,.undef):=by simp[List.getD_eq_getElem?_getD,List.getElem?_set,this]
      rw[e1,if_neg hij]; exact g3 i hi
    ·intro i hi;rw[hborn i];simp only[Array.size_modify] at hi;exact g4 i hi
    ·intro i i2 hij hj;simp only[Array.size_modify] at hj;rw[hborn i,hborn i2]
     exact g5 i i2 hij hj
  | _=>simp at h
 | mapD id B hid=>simp[at6,hs.dead id hid] at h
 | _=>simp[at6] at h
theorem eg5 {t:TypeId}{x:Operand}{ix:IX}{s:List UInt8}{id n:Nat}(hu:P.underlying t=some .string)(hx:aj8 x=some ix)(he:ix.ev E fr=.str s)(hs:Sim E ρ w σ)(hf:FR ρ w N fr a.tmps)(hno:ρ id=.no)(hlt:id<σ.next)(hn:n<=id) :
  cp5 P E id n ρ w a (.range t x) (.ptr id 0) (σ.put id (.be8 s 0)):=by
 intro o ho;have vx:=ab1 hx hs hf;rw[he] at vx;generalize hrx:a.eval x=rx at vx
 cases vx with
 | str _=>
  refine ⟨.value (.pointer (some ⟨w.heap.size,0,none⟩)),.pointer (some ⟨w.heap.size,0,none⟩),ρ.put id (.at w.heap.size 0),w.alloc (.stringIter ⟨s.toArray⟩ 0),?_,.inl rfl,bu4 hs hno hlt ?_,.ptr id 0 w.heap.size 0 (by simp[Rho.put]),am2 hno hn,aj4.put _ _ _⟩
  ·unfold execOp;rw[ho];simp[Instr.range,run_underlying hu,hrx]
  ·exact ⟨by show (w.heap.push _)[w.heap.size]? = _; simp,rfl⟩
def bl9 (σ:Store):IV->Option (IV×Store)
 | .ptr id off=>if off=0 then match σ.obj id with
  | some (.be8 s pos)=>if pos<s.length then some (.tuple [.bool true,.int .i64 pos,.int .i32 (Utf8.decode ⟨s.toArray⟩ pos).1],σ.put id (.be8 s (pos+(Utf8.decode ⟨s.toArray⟩ pos).2))) else some (.tuple [.bool false],σ)
  | _=>none
  else none
 | _=>none
theorem eg6 {x v:IV}{σ':Store}(h:bl9 σ x=some (v,σ')):σ'.next=σ.next:=by
 unfold bl9 at h;split at h
 ·split at h
  ·split at h
   ·split at h<;>cases h<;>rfl
   ·cases h
  ·cases h
 ·cases h
theorem fb6 {x:Operand}{ix:IX}{id0 n:Nat}{v:IV}{σ':Store}(hx:aj8 x=some ix)(h:bl9 σ (ix.ev E fr)=some (v,σ'))(hs:Sim E ρ w σ)(hf:FR ρ w N fr a.tmps) :
  cp5 P E id0 n ρ w a (.next x true) v σ':=by
 intro o ho;have vx:=ab1 hx hs hf;generalize ix.ev E fr=ax at vx h;generalize hrx:a.eval x=rx at vx
 cases vx with
 | ptr id off B d hid=>
  simp only[bl9] at h;by_cases h0:off=0
  ·subst h0;rw[if_pos rfl] at h;obtain ⟨ob,hob,hor⟩:=hs.obj id B d hid;rw[hob] at h
   cases ob with
   | be8 s pos=>
    obtain ⟨g1,rfl⟩:=hor;have hg:(getObj B).run P w=.ok (.stringIter ⟨s.toArray⟩ pos) w:=by simp[getObj,Sem.run,g1]
    have hset:∀ o,(setObj B o).run P w=.ok () (w.putObj B o):=fun o=>by simp[setObj,Sem.run,g1,World.putObj]
    have nc:∀ (rcs:Array Value) (el:TypeId) (fz:Nat×Nat),Obj.stringIter ⟨s.toArray⟩ pos≠.cells rcs el fz:=fun _ _ _ h=>by cases h
    have nl:∀ L,Obj.stringIter ⟨s.toArray⟩ pos≠.loop L:=fun _ h=>by cases h
    simp only at h;split at h
    ·rename_i hlt;cases h
     refine ⟨.value (.tuple #[.bool true,.int .i64 pos,.int .i32 (Utf8.decode ⟨s.toArray⟩ pos).1]),.tuple #[.bool true,.int .i64 pos,.int .i32 (Utf8.decode ⟨s.toArray⟩ pos).1],ρ,w.putObj B (.stringIter ⟨s.toArray⟩ (pos+(Utf8.decode ⟨s.toArray⟩ pos).2)),?_,.inl rfl,
      cc6 hs hid g1 nc nl ⟨World.putObj_heap_same (hs.lt id B 0 hid),rfl⟩,?_,bf7 hid g1 nc nl,aj4.refl _ _⟩
     ·unfold execOp;rw[ho];have hsz:pos<(ByteArray.mk s.toArray).size:=by rw[size_mk]; exact hlt
      simp[Instr.next,hrx,hg,hsz,hset,goInt]
     ·refine .tuple _ _ rfl fun i hi=>?_
      match i,hi with
      | 0,_=>exact .bool true
      | 1,_=>exact .int _ _
      | 2,_=>exact .int _ _
    ·rename_i hlt;cases h;refine ⟨.value (.tuple #[.bool false]),.tuple #[.bool false],ρ,w,?_,.inl rfl,hs,?_,Ext.refl _ _ _,aj4.refl _ _⟩
     ·unfold execOp;rw[ho];have hsz:¬ pos<(ByteArray.mk s.toArray).size:=by rw[size_mk]; exact hlt
      simp[Instr.next,hrx,hg,hsz]
     ·refine .tuple _ _ rfl fun i hi=>?_
      match i,hi with
      | 0,_=>exact .bool false
   | _=>cases h
  ·rw[if_neg h0] at h; cases h
 | cp1 id off ad hid=>
  simp only[bl9,hs.dead id hid] at h
  split at h<;>cases h
 | _=>cases h
end Go.Id
set_option linter.all false
namespace Go.Id
open Go
variable {P:Program} {w w' w'':World} {ρ ρ' ρ'':Rho} {E:Nat->IV} {σ σ':Store} {N n n':Nat} {S:Nat->Prop}
inductive Nm (S:Nat->Prop):IV->Prop
 | undef:Nm S .undef
 | bool (b:Bool):Nm S (.bool b)
 | int (k:IntKind) (x:Int):Nm S (.int k x)
 | str (s:List UInt8):Nm S (.str s)
 | ab6:Nm S .ab6
 | ptr (id off:Nat) (h:S id):Nm S (.ptr id off)
 | ab8 (cs:List IV) (h:∀ c∈cs,Nm S c):Nm S (.ab8 cs)
 | aa1:Nm S .aa1
 | ac8:Nm S .ac8
 | af6:Nm S .af6
 | slice (id off len esz:Nat) (h:S id):Nm S (.slice id off len esz)
 | aa5 (es:List (List IV)) (h:∀ e∈es,∀ c∈e,Nm S c):Nm S (.aa5 es)
 | aj3:Nm S .aj3
 | map (id:Nat) (h:S id):Nm S (.map id)
 | al6 (es:List (IV×IV)) (h1:∀ e∈es,Nm S e.1) (h2:∀ e∈es,Nm S e.2):Nm S (.al6 es)
 | func (fn:Fn) (first cap:List IV) (h1:∀ c∈first,Nm S c) (h2:∀ c∈cap,Nm S c):Nm S (.func fn first cap)
 | yield (id:Nat) (h:S id):Nm S (.yield id)
 | ab9:Nm S .ab9
 | iface (t:Nat) (v:IV) (h:Nm S v):Nm S (.iface t v)
 | ai1:Nm S .ai1
 | agg (cs:List IV) (h:∀ c∈cs,Nm S c):Nm S (.agg cs)
 | tuple (cs:List IV) (h:∀ c∈cs,Nm S c):Nm S (.tuple cs)
 | ag7 (id off len esz:Nat) (h:S id):Nm S (.ag7 id off len esz)
 | ak3 (id off len room esz:Nat) (h:S id):Nm S (.ak3 id off len room esz)
theorem aj2 {α:Type}{l:List α}{c d:α}(h:c∈l):∃ i,i<l.length/\l.getD i d=c:=by
 obtain ⟨i,hi,he⟩:=List.mem_iff_getElem.1 h;exact ⟨i,hi,by rw[List.getD_eq_getElem?_getD,List.getElem?_eq_getElem hi]; exact he⟩
theorem ac9 {α:Type}{l:List α}{i:Nat}(d:α)(h:i<l.length):l.getD i d∈l:=by
 rw[List.getD_eq_getElem?_getD,List.getElem?_eq_getElem h]; exact List.getElem_mem h
theorem VR.nm {v:IV}{r:Value}(hf:∀ i,ρ i≠.no->S i)(h:VR ρ w v r):Nm S v:=by
 induction h with
 | undef r=>exact .undef
 | bool b=>exact .bool b
 | int k n=>exact .int k n
 | str s=>exact .str s
 | ab6=>exact .ab6
 | ptr id off B d hi=>exact .ptr id off (hf _ (by rw[hi]; intro h; cases h))
 | cp1 id off ad hi=>exact .ptr id off (hf _ (by rw[hi]; intro h; cases h))
 | ab8 cs b o vs _ _ _ ih=>exact .ab8 cs fun c hc=>let ⟨i,hi,he⟩:=aj2 (d:=.undef) hc; he▸ih i hi
 | aa1=>exact .aa1
 | ac8 a=>exact .ac8
 | af6 a c=>exact .af6
 | slice id off len esz B d cap rcs el fz hi _ _ _=>exact .slice id off len esz (hf _ (by rw[hi]; intro h; cases h))
 | am1 id off esz B d a hi=>exact .slice id off 0 esz (hf _ (by rw[hi]; intro h; cases h))
 | al1 id off len esz cap ad hi _=>exact .slice id off len esz (hf _ (by rw[hi]; intro h; cases h))
 | ag7 id off len esz B d rcs el fz hi _ _=>exact .ag7 id off len esz (hf _ (by rw[hi]; intro h; cases h))
 | ap5 id off len esz ad hi=>exact .ag7 id off len esz (hf _ (by rw[hi]; intro h; cases h))
 | ak3 id off len room esz B d cap rcs el fz hi _ _ _ _=>exact .ak3 id off len room esz (hf _ (by rw[hi]; intro h; cases h))
 | aw9 id off len room esz cap ad hi _ _=>exact .ak3 id off len room esz (hf _ (by rw[hi]; intro h; cases h))
 | aa5 es b o cap esz sp vs _ hs _ _ _ ih=>
  refine .aa5 es fun e he c hc=>?_
  obtain ⟨i,hi,hie⟩:=aj2 (d:=[]) he;subst hie;obtain ⟨j,hj,hje⟩:=aj2 (d:=.undef) hc;rw[<- hje]
  exact ih i hi j (by rw[<- hs i hi]; exact hj)
 | cb8=>exact .aa5 [] (fun e he=>by cases he)
 | aj3=>exact .aj3
 | map id B d hi=>exact .map id (hf _ (by rw[hi]; intro h; cases h))
 | mapD id B hi=>exact .map id (hf _ (by rw[hi]; intro h; cases h))
 | al6 es es' b mes clock hp _ _ _ _ _ _ _ _ ihk ihv=>
  have he':∀ e∈es,e∈es':=fun e he=>hp.symm.subset he
  exact .al6 es (fun e he=>let ⟨i,hi,hie⟩:=aj2 (d:=(.undef,.undef)) (he' e he); hie▸ihk i hi) (fun e he=>let ⟨i,hi,hie⟩:=aj2 (d:=(.undef,.undef)) (he' e he); hie▸ihv i hi)
 | func fn first cap rf rc _ _ _ _ _ ihf ihc=>
  exact .func fn first cap (fun c hc=>let ⟨i,hi,he⟩:=aj2 (d:=.undef) hc; he▸ihf i hi) (fun c hc=>let ⟨i,hi,he⟩:=aj2 (d:=.undef) hc; he▸ihc i hi)
 | yield id B d hi=>exact .yield id (hf _ (by rw[hi]; intro h; cases h))
 | bb3 id B hi=>exact .yield id (hf _ (by rw[hi]; intro h; cases h))
 | ab9=>exact .ab9
 | iface t v r _ ih=>exact .iface t v ih
 | ai1=>exact .ai1
 | agg cs rs _ _ ih=>exact .agg cs fun c hc=>let ⟨i,hi,he⟩:=aj2 (d:=.undef) hc; he▸ih i hi
 | tuple cs rs _ _ ih=>exact .tuple cs fun c hc=>let ⟨i,hi,he⟩:=aj2 (d:=.undef) hc; he▸ih i hi
structure cc7 (S:Nat->Prop) (ρ ρ':Rho):Prop where
 on:∀ i,S i->ρ' i=ρ i
 off:∀ i,¬ S i->ρ' i=.no
 X:∀ b,ρ'.X b->ρ.X b\/∃ i d,¬ S i/\ρ i=.at b d
theorem cc7.at {i B d:Nat}(hk:cc7 S ρ ρ')(h:ρ' i=.at B d):S i/\ρ i=.at B d:=by
 by_cases hs:S i
 ·exact ⟨hs,by rw[<- hk.on i hs]; exact h⟩
 ·rw[hk.off i hs] at h; cases h
theorem FB.cut {b:Nat}(hk:cc7 S ρ ρ')(h:FB ρ w b):FB ρ' w b:=⟨h.1,fun i d hi=>h.2 i d (hk.at hi).2,fun hx=>(hk.X b hx).elim h.3 fun ⟨i,d,_,hi⟩=>h.2 i d hi⟩
theorem VR.cut {v:IV}{r:Value}(hk:cc7 S ρ ρ')(h:VR ρ w v r):Nm S v->VR ρ' w v r:=by
 induction h with
 | undef r=>exact fun _=>.undef r
 | bool b=>exact fun _=>.bool b
 | int k n=>exact fun _=>.int k n
 | str s=>exact fun _=>.str s
 | ab6=>exact fun _=>.ab6
 | ptr id off B d hi=>intro hb; cases hb with|ptr _ _ h=>exact .ptr id off B d (by rw[hk.on _ h]; exact hi)
 | cp1 id off ad hi=>intro hb; cases hb with|ptr _ _ h=>exact .cp1 id off ad (by rw[hk.on _ h]; exact hi)
 | ab8 cs b o vs hf hc _ ih=>intro hb; cases hb with|ab8 _ h=>exact .ab8 cs b o vs (hf.cut hk) hc fun j hj=>ih j hj (h _ (ac9 _ hj))
 | aa1=>exact fun _=>.aa1
 | ac8 a=>exact fun _=>.ac8 a
 | af6 a c=>exact fun _=>.af6 a c
 | slice id off len esz B d cap rcs el fz hi h1 h2 h3=>intro hb; cases hb with|slice _ _ _ _ h=>exact .slice id off len esz B d cap rcs el fz (by rw[hk.on _ h]; exact hi) h1 h2 h3
 | am1 id off esz B d a hi=>intro hb; cases hb with|slice _ _ _ _ h=>exact .am1 id off esz B d a (by rw[hk.on _ h]; exact hi)
 | al1 id off len esz cap ad hi hl=>intro hb; cases hb with|slice _ _ _ _ h=>exact .al1 id off len esz cap ad (by rw[hk.on _ h]; exact hi) hl
 | ag7 id off len esz B d rcs el fz hi h1 h2=>intro hb; cases hb with|ag7 _ _ _ _ h=>exact .ag7 id off len esz B d rcs el fz (by rw[hk.on _ h]; exact hi) h1 h2
 | ap5 id off len esz ad hi=>intro hb; cases hb with|ag7 _ _ _ _ h=>exact .ap5 id off len esz ad (by rw[hk.on _ h]; exact hi)
 | ak3 id off len room esz B d cap rcs el fz hi h1 h2 h3 h4=>intro hb; cases hb with|ak3 _ _ _ _ _ h=>exact .ak3 id off len room esz B d cap rcs el fz (by rw[hk.on _ h]; exact hi) h1 h2 h3 h4
 | aw9 id off len room esz cap ad hi hl hr=>intro hb; cases hb with|ak3 _ _ _ _ _ h=>exact .aw9 id off len room esz cap ad (by rw[hk.on _ h]; exact hi) hl hr
 | aa5 es b o cap esz sp vs hf hs hc _ hle ih=>
  intro hb
  cases hb with
  | aa5 _ h=>exact .aa5 es b o cap esz sp vs (fun hne=>⟨((hf hne).1.cut hk),(hf hne).2⟩) hs hc (fun i hi j hj=>ih i hi j hj (h _ (ac9 _ hi) _ (ac9 _ (by rw[hs i hi]; exact hj)))) hle
 | cb8=>exact fun _=>.cb8
 | aj3=>exact fun _=>.aj3
 | map id B d hi=>intro hb; cases hb with|map _ h=>exact .map id B d (by rw[hk.on _ h]; exact hi)
 | mapD id B hi=>intro hb; cases hb with|map _ h=>exact .mapD id B (by rw[hk.on _ h]; exact hi)
 | al6 es es' b mes clock hp hd hf hh hl _ _ h4 h5 ihk ihv=>
  intro hb
  cases hb with
  | al6 _ h1 h2=>exact .al6 es es' b mes clock hp hd (hf.cut hk) hh hl (fun i hi=>ihk i hi (h1 _ (hp.subset (ac9 _ hi)))) (fun i hi=>ihv i hi (h2 _ (hp.subset (ac9 _ hi)))) h4 h5
 | func fn first cap rf rc hy h1 h2 _ _ ihf ihc=>
  intro hb
  cases hb with
  | func _ _ _ b1 b2=>exact .func fn first cap rf rc hy h1 h2 (fun i hi=>ihf i hi (b1 _ (ac9 _ hi))) (fun i hi=>ihc i hi (b2 _ (ac9 _ hi)))
 | yield id B d hi=>intro hb; cases hb with|yield _ h=>exact .yield id B d (by rw[hk.on _ h]; exact hi)
 | bb3 id B hi=>intro hb; cases hb with|yield _ h=>exact .bb3 id B (by rw[hk.on _ h]; exact hi)
 | ab9=>exact fun _=>.ab9
 | iface t v r _ ih=>intro hb; cases hb with|iface _ _ h=>exact .iface t v r (ih h)
 | ai1=>exact fun _=>.ai1
 | agg cs rs h1 _ ih=>intro hb; cases hb with|agg _ h=>exact .agg cs rs h1 fun i hi=>ih i hi (h _ (ac9 _ hi))
 | tuple cs rs h1 _ ih=>intro hb; cases hb with|tuple _ h=>exact .tuple cs rs h1 fun i hi=>ih i hi (h _ (ac9 _ hi))
def isCells (σ:Store)(id:Nat)(cs:List IV):Prop:=σ.obj id=some (.cells cs)\/σ.obj id=some (.row cs)
inductive Frz (σ:Store) (S:Nat->Prop):IV->IV->Prop
 | keep (v:IV) (h:Nm S v):Frz σ S v v
 | zs:Frz σ S .ac8 (.aa5 [])
 | es:Frz σ S .af6 (.aa5 [])
 | bu6:Frz σ S .aa1 (.aa5 [])
 | ptr (id off:Nat) (cs cs':List IV) (hid:¬ S id) (ho:isCells σ id cs) (hl:off+cs'.length<=cs.length)
   (h:∀ j,j<cs'.length->Frz σ S (cs.getD (off+j) .undef) (cs'.getD j .undef)):Frz σ S (.ptr id off) (.ab8 cs')
 | dc2 (id off esz:Nat) (h:σ.obj id≠none):Frz σ S (.slice id off 0 esz) (.aa5 [])
 | hw6 (id off esz:Nat) (h:σ.obj id≠none):Frz σ S (.slice id off 0 esz) .af6
 | slice (id off len esz:Nat) (cs:List IV) (es:List (List IV)) (hid:¬ S id) (ho:isCells σ id cs) (hlen:es.length=len) (hle:off+len*esz<=cs.length) (hsz:∀ i,i<len->(es.getD i []).length=esz)
   (h:∀ i,i<len->∀ j,j<esz->Frz σ S (cs.getD (off+(i*esz+j)) .undef) ((es.getD i []).getD j .undef)):Frz σ S (.slice id off len esz) (.aa5 es)
 | aa5 (es es':List (List IV)) (hl:es'.length=es.length) (hs:∀ i,i<es.length->(es'.getD i []).length=(es.getD i []).length)
   (h:∀ i,i<es.length->∀ j,j<(es.getD i []).length->Frz σ S ((es.getD i []).getD j .undef) ((es'.getD i []).getD j .undef)):Frz σ S (.aa5 es) (.aa5 es')
 | ab8 (cs cs':List IV) (hl:cs'.length=cs.length) (h:∀ j,j<cs.length->Frz σ S (cs.getD j .undef) (cs'.getD j .undef)):Frz σ S (.ab8 cs) (.ab8 cs')
 | map (id:Nat) (es es' et:List (IV×IV)) (hid:¬ S id) (ho:σ.obj id=some (.map es)) (hl:es'.length=es.length) (hp:es'.Perm et) (hd:db1 et)
   (h1:∀ i,i<es.length->Frz σ S (es.getD i (.undef,.undef)).1 (es'.getD i (.undef,.undef)).1) (h2:∀ i,i<es.length->Frz σ S (es.getD i (.undef,.undef)).2 (es'.getD i (.undef,.undef)).2):Frz σ S (.map id) (.al6 et)
 | func (fn:Fn) (first first' cap cap':List IV) (hl1:first'.length=first.length) (hl2:cap'.length=cap.length) (h1:∀ i,i<first.length->Frz σ S (first.getD i .undef) (first'.getD i .undef)) (h2:∀ i,i<cap.length->Frz σ S (cap.getD i .undef) (cap'.getD i .undef)):Frz σ S (.func fn first cap) (.func fn first' cap')
 | iface (t:Nat) (v v':IV) (h:Frz σ S v v'):Frz σ S (.iface t v) (.iface t v')
 | agg (cs cs':List IV) (hl:cs'.length=cs.length) (h:∀ i,i<cs.length->Frz σ S (cs.getD i .undef) (cs'.getD i .undef)):Frz σ S (.agg cs) (.agg cs')
 | tuple (cs cs':List IV) (hl:cs'.length=cs.length) (h:∀ i,i<cs.length->Frz σ S (cs.getD i .undef) (cs'.getD i .undef)):Frz σ S (.tuple cs) (.tuple cs')
theorem eq5 {id B d:Nat}{cs:List IV}(hs:Sim E ρ w σ)(hi:ρ id=.at B d)(ho:isCells σ id cs):ap9 ρ w B d cs:=by
 obtain ⟨o,h1,h2⟩:=hs.obj id B d hi;rcases ho with ho|ho<;>rw[ho] at h1<;>cases h1<;>exact h2
theorem eq6 {id:Nat}{cs:List IV}(h:σ.obj id=none)(ho:isCells σ id cs):False:=by
 rcases ho with ho|ho<;>rw[ho] at h<;>cases h
theorem fv7 {id B d:Nat}(hk:cc7 S ρ ρ')(hX:ρ'.X=ρ.X)(hs:Sim E ρ w σ)(hi:ρ id=.at B d)(hn:¬ S id):FB ρ' w B:=by
 refine ⟨hs.lt id B d hi,fun i d' h=>?_,by rw[hX]; exact hs.nx id B d hi⟩;obtain ⟨h1,h2⟩:=hk.at h;have:=hs.inj i id B d' d h2 hi;exact hn (this▸h1)
theorem hk7 {B o:Nat}{rcs:Array Value}{el:TypeId}{fz:Nat×Nat}(h:w.heap[B]? = some (.cells rcs el fz))(ho:o<rcs.size):w.cell? ⟨B,o,none⟩=some (rcs.getD o undef):=by
 unfold World.cell?;simp[h,ho]
theorem Frz.vr {v v':IV}(hk:cc7 S ρ ρ')(hX:ρ'.X=ρ.X)(hs:Sim E ρ w σ)(h:Frz σ S v v'):∀ r,VR ρ w v r->VR ρ' w v' r:=by
 induction h with
 | keep v hb=>exact fun r hv=>hv.cut hk hb
 | bu6=>
  intro r hv
  cases hv with
  | aa1=>exact .cb8
 | zs=>
  intro r hv
  cases hv with
  | ac8 a=>obtain ⟨b,o,sp⟩:=a; exact .aa5 [] b o 0 0 sp (fun _ _=>undef) (fun h=>absurd rfl h) (fun i hi=>by simp at hi) (fun i hi=>by simp at hi) (fun i hi=>by simp at hi) (by simp)
 | es=>
  intro r hv
  cases hv with
  | af6 a cp=>obtain ⟨b,o,sp⟩:=a; exact .aa5 [] b o cp 0 sp (fun _ _=>undef) (fun h=>absurd rfl h) (fun i hi=>by simp at hi) (fun i hi=>by simp at hi) (fun i hi=>by simp at hi) (by simp)
 | ptr id off cs cs' hid ho hl _ ih=>
  intro r hv
  cases hv with
  | ptr _ _ B d hi=>
   obtain ⟨rcs,el,h1,h2,h3⟩:=eq5 hs hi ho;refine .ab8 cs' B (d+off) (fun j=>rcs.getD (d+off+j) undef) (fv7 hk hX hs hi hid) (fun j hj=>hk7 h1 (by omega)) (fun j hj=>ih j hj _ ?_);have:=h3 (off+j) (by omega)
   rwa [<- Nat.add_assoc] at this
  | cp1 _ _ ad hi=>exact (eq6 (hs.dead _ hi) ho).elim
 | dc2 id off esz hob=>
  intro r hv
  cases hv with
  | slice _ _ _ _ B d cap rcs el fz hi h1 h2 h3=>exact .aa5 [] B (d+off) cap 0 none (fun _ _=>undef) (fun h=>absurd rfl h) (fun i hi=>by simp at hi) (fun i hi=>by simp at hi) (fun i hi=>by simp at hi) (by simp)
  | am1 _ _ _ B d a hi=>obtain ⟨b,o,sp⟩:=a; exact .aa5 [] b o 0 0 sp (fun _ _=>undef) (fun h=>absurd rfl h) (fun i hi=>by simp at hi) (fun i hi=>by simp at hi) (fun i hi=>by simp at hi) (by simp)
  | al1 _ _ _ _ cap ad hi hl=>exact absurd (hs.dead _ hi) hob
 | hw6 id off esz hob=>
  intro r hv
  cases hv with
  | slice _ _ _ _ B d cap rcs el fz hi h1 h2 h3=>exact .af6 _ cap
  | am1 _ _ _ B d a hi=>exact .af6 a 0
  | al1 _ _ _ _ cap ad hi hl=>exact .af6 ad cap
 | slice id off len esz cs es hid ho hlen hle hsz _ ih=>
  intro r hv
  cases hv with
  | slice _ _ _ _ B d cap rcs el fz hi g1 g2 g3=>
   obtain ⟨rcs',el',h1,h2,h3⟩:=eq5 hs hi ho;rw[<- hlen]
   have key:∀ i,i<es.length->∀ j,j<esz->off+(i*esz+j)<cs.length:=by
    intro i hi j hj;have:(i+1)*esz<=len*esz:=Nat.mul_le_mul_right _ (by omega);rw[Nat.add_mul,Nat.one_mul] at this;omega
   refine .aa5 es B (d+off) cap esz none (fun i j=>rcs'.getD (d+off+(i*esz+j)) undef) (fun _=>⟨fv7 hk hX hs hi hid,rfl⟩) (fun i hi=>hsz i (by omega)) (fun i hi j hj=>hk7 h1 (by have:=key i hi j hj; omega)) (fun i hi j hj=>ih i (by omega) j hj _ ?_) (by omega);show VR ρ w _ (rcs'.getD (d+off+(i*esz+j)) undef);rw[Nat.add_assoc d off _]
   exact h3 (off+(i*esz+j)) (key i hi j hj)
  | am1 _ _ _ B d a hi=>
   have:es=[]:=List.length_eq_zero_iff.1 hlen;subst this;obtain ⟨b,o,sp⟩:=a
   exact .aa5 [] b o 0 0 sp (fun _ _=>undef) (fun h=>absurd rfl h) (fun i hi=>by simp at hi) (fun i hi=>by simp at hi) (fun i hi=>by simp at hi) (by simp)
  | al1 _ _ _ _ cap ad hi hl=>exact (eq6 (hs.dead _ hi) ho).elim
 | aa5 es es' hl hsz _ ih=>
  intro r hv
  cases hv with
  | cb8=>
   have:es'=[]:=List.length_eq_zero_iff.1 hl;subst this
   exact .cb8
  | aa5 _ b o cap esz sp vs hf hs' hc hv hle=>
   rw[<- hl]
   refine .aa5 es' b o cap esz sp vs (fun hne=>⟨((hf (fun e=>hne (by subst e; exact List.length_eq_zero_iff.1 hl))).1.cut hk),(hf (fun e=>hne (by subst e; exact List.length_eq_zero_iff.1 hl))).2⟩) (fun i hi=>by rw[hsz i (by omega),hs' i (by omega)]) (fun i hi=>hc i (by omega)) (fun i hi j hj=>ih i (by omega) j (by rw[hs' i (by omega)]; exact hj) _ (hv i (by omega) j hj)) (by omega)
 | ab8 cs cs' hl _ ih=>
  intro r hv
  cases hv with
  | ab8 _ b o vs hf hc hv=>exact .ab8 cs' b o vs (hf.cut hk) (fun j hj=>hc j (by omega)) (fun j hj=>ih j (by omega) _ (hv j (by omega)))
 | map id es es' et hid ho hl hp hd _ _ ihk ihv=>
  intro r hv
  cases hv with
  | map _ B d hi=>
   obtain ⟨o,h1,h2⟩:=hs.obj id B d hi;rw[ho] at h1;cases h1;obtain ⟨mes,clock,g1,g0,g2,g3,g4,g5⟩:=h2
   exact .al6 et es' B mes clock hp hd (fv7 hk hX hs hi hid) g1 (by omega) (fun i hi=>ihk i (by omega) _ (g3 i (by omega)).1) (fun i hi=>ihv i (by omega) _ (g3 i (by omega)).2) g4 g5
  | mapD _ B hi=>rw[hs.dead _ hi] at ho; cases ho
 | func fn first first' cap cap' hl1 hl2 _ _ ih1 ih2=>
  intro r hv
  cases hv with
  | func _ _ _ rf rc hy g1 g2 v1 v2=>exact .func fn first' cap' rf rc hy (by omega) (by omega) (fun i hi=>ih1 i (by omega) _ (v1 i (by omega))) (fun i hi=>ih2 i (by omega) _ (v2 i (by omega)))
 | iface t v v' _ ih=>intro r hv; cases hv with|iface _ _ r' h=>exact .iface t v' r' (ih _ h)
 | agg cs cs' hl _ ih=>intro r hv; cases hv with|agg _ rs h1 h2=>exact .agg cs' rs (by omega) fun i hi=>ih i (by omega) _ (h2 i (by omega))
 | tuple cs cs' hl _ ih=>intro r hv; cases hv with|tuple _ rs h1 h2=>exact .tuple cs' rs (by omega) fun i hi=>ih i (by omega) _ (h2 i (by omega))
def NmO (S:Nat->Prop):ak4->Prop
 | .cells cs|.row cs=>∀ c∈cs,Nm S c
 | .map es=>(∀ e∈es,Nm S e.1)/\∀ e∈es,Nm S e.2
 | .be8 _ _=>True
 | .loop _ tmps _ _ _ _ _=>∀ t,Nm S ((tmps.lookup t).getD .undef)
 | .ar8 left cur=>(∀ e∈left,Nm S e.1)/\(∀ e∈left,Nm S e.2)/\∀ c,cur=some c->Nm S c.1/\Nm S c.2
theorem OR.nm {B d:Nat}{o:ak4}(hf:∀ i,ρ i≠.no->S i)(h:OR ρ w B d o):NmO S o:=by
 have key:∀ cs,ap9 ρ w B d cs->∀ c∈cs,Nm S c:=fun cs ⟨rcs,el,_,_,h3⟩ c hc=>let ⟨i,hi,he⟩:=aj2 (d:=.undef) hc; he▸(h3 i hi).nm hf
 cases o with
 | cells cs=>exact key cs h
 | row cs=>exact key cs h
 | map es=>
  obtain ⟨mes,clock,h1,h0,h2,h3,h4,h5⟩:=h
  exact ⟨fun e he=>let ⟨i,hi,hie⟩:=aj2 (d:=(.undef,.undef)) he; hie▸(h3 i hi).1.nm hf,fun e he=>let ⟨i,hi,hie⟩:=aj2 (d:=(.undef,.undef)) he; hie▸(h3 i hi).2.nm hf⟩
 | be8 s pos=>trivial
 | loop N tmps params assign body st pend=>
  obtain ⟨hd,l,h1,h2,h3,h4,h5,h6,h7,h8⟩:=h
  exact fun t=>(h8 t).nm hf
 | ar8 left cur=>
  obtain ⟨hd,mb,last,seen,mes,clock,lft,h1,h2,h3,h4,h5,h6,h7,h8,hc,h9⟩:=h;exact ⟨fun e he=>let ⟨i,hi,hie⟩:=aj2 (d:=(.undef,.undef)) (h8.symm.subset he); hie▸(h9 i hi).1.nm hf,fun e he=>let ⟨i,hi,hie⟩:=aj2 (d:=(.undef,.undef)) (h8.symm.subset he); hie▸(h9 i hi).2.nm hf,fun c e=>let ⟨i,g1,g2,g3,g4⟩:=hc c e; ⟨g3.nm hf,g4.nm hf⟩⟩
theorem OR.cut {B d:Nat}{o:ak4}(hk:cc7 S ρ ρ')(hb:NmO S o)(h:OR ρ w B d o):OR ρ' w B d o:=by
 have key:∀ cs,(∀ c∈cs,Nm S c)->ap9 ρ w B d cs->ap9 ρ' w B d cs:=fun cs hb ⟨rcs,el,h1,h2,h3⟩=>⟨rcs,el,h1,h2,fun i hi=>(h3 i hi).cut hk (hb _ (ac9 _ hi))⟩
 cases o with
 | cells cs=>exact key cs hb h
 | row cs=>exact key cs hb h
 | map es=>
  obtain ⟨mes,clock,h1,h0,h2,h3,h4,h5⟩:=h
  exact ⟨mes,clock,h1,h0,h2,fun i hi=>⟨(h3 i hi).1.cut hk (hb.1 _ (ac9 _ hi)),(h3 i hi).2.cut hk (hb.2 _ (ac9 _ hi))⟩,h4,h5⟩
 | be8 s pos=>exact h
 | loop N tmps params assign body st pend=>
  obtain ⟨hd,l,h1,h2,h3,h4,h5,h6,h7,h8⟩:=h
  exact ⟨hd,l,h1,h2,h3,h4,h5,h6,h7,fun t=>(h8 t).cut hk (hb t)⟩
 | ar8 left cur=>
  obtain ⟨hd,mb,last,seen,mes,clock,lft,h1,h2,h3,h4,h5,h6,h7,h8,hc,h9⟩:=h;exact ⟨hd,mb,last,seen,mes,clock,lft,h1,h2.cut hk,h3,h4,h5,h6,h7,h8,fun c e=>let ⟨i,g1,g2,g3,g4⟩:=hc c e; ⟨i,g1,g2,g3.cut hk (hb.2.2 c e).1,g4.cut hk (hb.2.2 c e).2⟩,fun i hi=>⟨(h9 i hi).1.cut hk (hb.1 _ (h8.subset (ac9 _ hi))),(h9 i hi).2.cut hk (hb.2.1 _ (h8.subset (ac9 _ hi)))⟩⟩
theorem Sim.ja1 (hk:cc7 S ρ ρ')(hs:Sim E ρ w σ')(hob:∀ i,S i->σ'.obj i=σ.obj i)(hno:∀ i,¬ S i->σ.obj i=none)(hb:∀ i o,S i->σ.obj i=some o->NmO S o)(hnx:∀ i,σ.next<=i->ρ' i=.no)(he:∀ g,Nm S (E g)):Sim E ρ' w σ:=by
 refine ⟨?_,?_,?_,?_,hnx,?_,fun g=>(hs.env g).cut hk (he g),fun i B d h hx=>(hk.X B hx).elim (hs.nx i B d (hk.at h).2) fun ⟨j,d',hj,hj'⟩=>hj (hs.inj i j B d d' (hk.at h).2 hj'▸(hk.at h).1),
  fun b hx=>(hk.X b hx).elim (hs.xlt b) fun ⟨j,d',_,hj'⟩=>hs.lt j b d' hj'⟩
 ·intro i j B d d' h1 h2;exact hs.inj i j B d d' (hk.at h1).2 (hk.at h2).2
 ·intro i B d h; exact hs.lt i B d (hk.at h).2
 ·intro i B d h;obtain ⟨h1,h2⟩:=hk.at h;obtain ⟨o,h3,h4⟩:=hs.obj i B d h2;rw[hob i h1] at h3;exact ⟨o,h3,h4.cut hk (hb i o h1 h3)⟩
 ·intro i h;by_cases hi:S i
  ·rw[<- hob i hi]; rw[hk.on i hi] at h; exact hs.dead i h
  ·rw[hk.off i hi] at h; cases h
 ·intro i h;by_cases hi:S i
  ·rw[<- hob i hi]; rw[hk.on i hi] at h; exact hs.av3 i h
  ·exact hno i hi
theorem Sim.nmO (hs:Sim E ρ w σ)(hf:∀ i,ρ i≠.no->S i)(i:Nat)(o:ak4)(ho:σ.obj i=some o):NmO S o:=by
 rcases hr:ρ i with _|_|⟨B,d⟩
 ·rw[hs.av3 i hr] at ho; cases ho
 ·rw[hs.dead i hr] at ho; cases ho
 ·obtain ⟨o',h1,h2⟩:=hs.obj i B d hr;rw[ho] at h1;cases h1;exact h2.nm hf
theorem VR.refs {v:IV}{r:Value}(hr:∀ i,ρ i≠.no->ρ' i=ρ i)(hfb:∀ b,FB ρ w b->FB ρ' w b)(h:VR ρ w v r):VR ρ' w v r:=by
 have at_:∀ {i B d},ρ i=.at B d->ρ' i=.at B d:=fun {i B d} h=>by rw[hr i (by rw[h]; intro h; cases h)]; exact h
 have dd:∀ {i},ρ i=.dead->ρ' i=.dead:=fun {i} h=>by rw[hr i (by rw[h]; intro h; cases h)]; exact h
 induction h with
 | undef r=>exact .undef r
 | bool b=>exact .bool b
 | int k n=>exact .int k n
 | str s=>exact .str s
 | ab6=>exact .ab6
 | ptr id off B d hi=>exact .ptr id off B d (at_ hi)
 | cp1 id off ad hi=>exact .cp1 id off ad (dd hi)
 | ab8 cs b o vs hf hc _ ih=>exact .ab8 cs b o vs (hfb _ hf) hc ih
 | aa1=>exact .aa1
 | ac8 a=>exact .ac8 a
 | af6 a c=>exact .af6 a c
 | slice id off len esz B d cap rcs el fz hi hb hsz hle=>exact .slice id off len esz B d cap rcs el fz (at_ hi) hb hsz hle
 | am1 id off esz B d a hi=>exact .am1 id off esz B d a (at_ hi)
 | al1 id off len esz cap ad hi hle=>exact .al1 id off len esz cap ad (dd hi) hle
 | ag7 id off len esz B d rcs el fz hi hb hsz=>exact .ag7 id off len esz B d rcs el fz (at_ hi) hb hsz
 | ap5 id off len esz ad hi=>exact .ap5 id off len esz ad (dd hi)
 | ak3 id off len room esz B d cap rcs el fz hi hb hsz hle hr'=>exact .ak3 id off len room esz B d cap rcs el fz (at_ hi) hb hsz hle hr'
 | aw9 id off len room esz cap ad hi hle hr'=>exact .aw9 id off len room esz cap ad (dd hi) hle hr'
 | aa5 es b o cap esz sp vs hf hsz hc _ hle ih=>exact .aa5 es b o cap esz sp vs (fun hne=>⟨hfb _ (hf hne).1,(hf hne).2⟩) hsz hc ih hle
 | cb8=>exact .cb8
 | aj3=>exact .aj3
 | map id B d hi=>exact .map id B d (at_ hi)
 | mapD id B hi=>exact .mapD id B (dd hi)
 | al6 es es' b mes clock hp hd hf hb hl _ _ h4 h5 ihk ihv=>exact .al6 es es' b mes clock hp hd (hfb _ hf) hb hl ihk ihv h4 h5
 | func fn first cap rf rc hy h1 h2 _ _ ihf ihc=>exact .func fn first cap rf rc hy h1 h2 ihf ihc
 | yield id B d hi=>exact .yield id B d (at_ hi)
 | bb3 id B hi=>exact .bb3 id B (dd hi)
 | ab9=>exact .ab9
 | iface t v r _ ih=>exact .iface t v r ih
 | ai1=>exact .ai1
 | agg cs rs h1 _ ih=>exact .agg cs rs h1 ih
 | tuple cs rs h1 _ ih=>exact .tuple cs rs h1 ih
theorem OR.refs {B d:Nat}{o:ak4}(hr:∀ i,ρ i≠.no->ρ' i=ρ i)(hfb:∀ b,FB ρ w b->FB ρ' w b)(h:OR ρ w B d o):OR ρ' w B d o:=by
 have key:∀ cs,ap9 ρ w B d cs->ap9 ρ' w B d cs:=fun cs ⟨rcs,el,h1,h2,h3⟩=>⟨rcs,el,h1,h2,fun i hi=>(h3 i hi).refs hr hfb⟩
 cases o with
 | cells cs=>exact key cs h
 | row cs=>exact key cs h
 | map es=>
  obtain ⟨mes,clock,h1,h0,h2,h3,h4,h5⟩:=h
  exact ⟨mes,clock,h1,h0,h2,fun i hi=>⟨(h3 i hi).1.refs hr hfb,(h3 i hi).2.refs hr hfb⟩,h4,h5⟩
 | be8 s pos=>exact h
 | loop N tmps params assign body st pend=>
  obtain ⟨hd,l,h1,h2,h3,h4,h5,h6,h7,h8⟩:=h
  exact ⟨hd,l,h1,h2,h3,h4,h5,h6,h7,fun t=>(h8 t).refs hr hfb⟩
 | ar8 left cur=>
  obtain ⟨hd,mb,last,seen,mes,clock,lft,h1,h2,h3,h4,h5,h6,h7,h8,hc,h9⟩:=h;exact ⟨hd,mb,last,seen,mes,clock,lft,h1,hfb _ h2,h3,h4,h5,h6,h7,h8,fun c e=>let ⟨i,g1,g2,g3,g4⟩:=hc c e; ⟨i,g1,g2,g3.refs hr hfb,g4.refs hr hfb⟩,fun i hi=>⟨(h9 i hi).1.refs hr hfb,(h9 i hi).2.refs hr hfb⟩⟩
theorem Nm.weak {S S':Nat->Prop}{v:IV}(h:Nm S v)(hS:∀ i,S i->S' i):Nm S' v:=by
 induction h with
 | undef=>exact .undef
 | bool b=>exact .bool b
 | int k x=>exact .int k x
 | str s=>exact .str s
 | ab6=>exact .ab6
 | ptr id off h=>exact .ptr id off (hS _ h)
 | ab8 cs _ ih=>exact .ab8 cs ih
 | aa1=>exact .aa1
 | ac8=>exact .ac8
 | af6=>exact .af6
 | slice id off len esz h=>exact .slice id off len esz (hS _ h)
 | ag7 id off len esz h=>exact .ag7 id off len esz (hS _ h)
 | ak3 id off len room esz h=>exact .ak3 id off len room esz (hS _ h)
 | aa5 es _ ih=>exact .aa5 es ih
 | aj3=>exact .aj3
 | map id h=>exact .map id (hS _ h)
 | al6 es _ _ ih1 ih2=>exact .al6 es ih1 ih2
 | func fn first cap _ _ ih1 ih2=>exact .func fn first cap ih1 ih2
 | yield id h=>exact .yield id (hS _ h)
 | ab9=>exact .ab9
 | iface t v _ ih=>exact .iface t v ih
 | ai1=>exact .ai1
 | agg cs _ ih=>exact .agg cs ih
 | tuple cs _ ih=>exact .tuple cs ih
end Go.Id
/- Literals that nobody writes; ranging over a map. Conditions: none; over any program. -/
namespace Go.Id
open Go
variable {P:Program} {w w':World} {ρ ρ':Rho} {E:Nat->IV} {σ σ':Store} {N:Nat} {fr:Frm} {a:Act}
def chunk (esz:Nat):Nat->List IV->List (List IV)
 | 0,_=>[]
 | n+1,l=>l.take esz::chunk esz n (l.drop esz)
theorem cm1 (esz:Nat):∀ (n:Nat) (l:List IV),(chunk esz n l).length=n:=by
 intro n
 induction n with
 | zero=>intro l; rfl
 | succ n ih=>intro l; simp[chunk,ih]
theorem bo9 (esz:Nat):∀ (n:Nat) (l:List IV) (i:Nat),i<n->(chunk esz n l).getD i []=(l.drop (i*esz)).take esz:=by
 intro n
 induction n with
 | zero=>intro l i h; omega
 | succ n ih=>
  intro l i h
  cases i with
  | zero=>simp[chunk]
  | succ i=>
   have:=ih (l.drop esz) i (by omega);simp only[chunk,List.getD_cons_succ,this,List.drop_drop];rw[Nat.add_mul,Nat.one_mul,Nat.add_comm]
theorem dn9 {op:Op}{v v':IV}{ob:ak4}{n:Nat}(hs:Sim E ρ w σ)(hn:n<=σ.next)
  (h:Sim E ρ w ⟨σ.next+1,σ.obj⟩->cp5 P E σ.next n ρ w a op v (Store.put ⟨σ.next+1,σ.obj⟩ σ.next ob))
  (hf:Frz (Store.put ⟨σ.next+1,σ.obj⟩ σ.next ob) (fun i=>i≠σ.next) v v'):cp5 P E σ.next n ρ w a op v' σ:=by
 have hs0:Sim E ρ w ⟨σ.next+1,σ.obj⟩:=⟨hs.inj,hs.lt,hs.obj,hs.dead,fun i hi=>hs.fresh i (Nat.le_of_succ_le hi),hs.av3,hs.env,hs.nx,hs.xlt⟩;have hno:ρ σ.next=.no:=hs.fresh _ (Nat.le_refl _);intro o ho;obtain ⟨x,r,ρ',w',hrun,hx,hs',hv',he,hnb⟩:=h hs0 o ho
 have hk:cc7 (fun i=>i≠σ.next) ρ' ⟨fun i=>if i=σ.next then .no else ρ' i,ρ'.X⟩:=⟨fun i h=>by show (if i=σ.next then dv5.no else ρ' i)=_; rw[if_neg h],fun i h=>by
  have:i=σ.next:=Classical.byContradiction fun e=>h e
  show (if i=σ.next then dv5.no else ρ' i)=_; rw[if_pos this],fun _ h=>.inl h⟩
 have hlv:∀ i,ρ i≠.no->i≠σ.next:=fun i h e=>h (by rw[e]; exact hno)
 refine ⟨x,r,_,w',hrun,hx,hs'.ja1 hk (fun i hi=>by simp[Store.put,hi]) (fun i hi=>?_) (fun i o' _ ho'=>hs.nmO hlv i o' ho') (fun i hi=>?_) (fun g=>(hs.env g).nm hlv),hf.vr hk rfl hs' r hv',?_,?_⟩
 ·have:i=σ.next:=Classical.byContradiction fun e=>hi e
  rw[this]; exact hs.av3 _ hno
 ·show (if i=σ.next then dv5.no else ρ' i)=_;split
  ·rfl
  ·exact hs'.fresh i (by have:σ.next<=i:=hi; show σ.next+1<=i; omega)
 ·refine ⟨he.size,he.keep,he.shape,fun i B d hi=>he.img i B d (hk.at hi).2,fun i B d hi=>?_,fun i hi=>?_,fun i hi h0=>?_,he.output,he.os,he.tape,he.loops,he.X⟩
  ·show (if i=σ.next then dv5.no else ρ' i)=_\/(if i=σ.next then dv5.no else ρ' i)=_;have:i≠σ.next:=hlv i (by rw[hi]; intro h; cases h);rw[if_neg this]; exact he.at_ i B d hi
  ·show (if i=σ.next then dv5.no else ρ' i)=_;have:i≠σ.next:=hlv i (by rw[hi]; intro h; cases h);rw[if_neg this]; exact he.dead i hi
  ·show (if i=σ.next then dv5.no else ρ' i)=_;split
   ·rfl
   ·exact he.no i hi h0
 ·intro i hi h0;show (if i=σ.next then dv5.no else ρ' i)=_;split
  ·rfl
  ·exact hnb i hi h0
theorem Nm.cs {S:Nat->Prop}{v:IV}(h:Nm S v):∀ c∈v.cs,Nm S c:=by
 by_cases ha:∃ zs,v=.agg zs
 ·obtain ⟨zs,rfl⟩:=ha;cases h with|agg _ h=>exact h
 ·rw[IV.bt5 fun zs e=>ha ⟨zs,e⟩];intro c hc;rw[List.mem_singleton.1 hc]; exact h
theorem gp9 {S:Nat->Prop}:∀ (ps:List (Nat×Nat×IV)) (z out:List IV),ax1 z ps=some out->(∀ c∈z,Nm S c)->(∀ p∈ps,Nm S p.2.2)->∀ c∈out,Nm S c:=by
 intro ps
 induction ps with
 | nil=>intro z out h hz _; cases h; exact hz
 | cons p ps ih=>
  intro z out h hz hp;obtain ⟨off,size,v⟩:=p;simp only[ax1] at h;split at h
  ·refine ih _ _ h (fun c hc=>?_) (fun q hq=>hp q (List.mem_cons_of_mem _ hq));unfold ay1 at hc;simp only[List.mem_append] at hc;rcases hc with (hc|hc)|hc
   ·exact hz c (List.mem_of_mem_take hc)
   ·exact (hp _ (List.mem_cons_self ..)).cs c hc
   ·exact hz c (List.mem_of_mem_drop hc)
  ·cases h
theorem hk8 {S:Nat->Prop}{z:List IV}(h:∀ c∈z,Nm S c):∀ n,∀ c∈rep z n,Nm S c:=by
 intro n
 induction n with
 | zero=>intro c hc; cases hc
 | succ n ih=>
  intro c hc;simp only[rep,List.mem_append] at hc;rcases hc with hc|hc
  ·exact h c hc
  ·exact ih c hc
theorem dx5:∀ (ps:List (Nat×Nat×IV)) (z out:List IV),ax1 z ps=some out->out.length=z.length:=by
 intro ps
 induction ps with
 | nil=>intro z out h; cases h; rfl
 | cons p ps ih=>
  intro z out h;obtain ⟨off,size,v⟩:=p;simp only[ax1] at h;split at h
  ·rename_i hc; rw[ih _ _ h,ai6 (by omega)]
  ·cases h
theorem fv8 {t:TypeId}{x:Operand}{y:IX}{n:Nat}(hx:aj8 x=some y)(hl:(y.ev E fr).cs.all IV.leaf=true)(hs:Sim E ρ w σ)(hf:FR ρ w N fr a.tmps)(hn:n<=σ.next) :
  cp5 P E σ.next n ρ w a (.box t x) (.ab8 (y.ev E fr).cs) σ:=by
 have hno:ρ σ.next=.no:=hs.fresh _ (Nat.le_refl _);have hlv:∀ i,ρ i≠.no->i≠σ.next:=fun i h e=>h (by rw[e]; exact hno)
 have hv:=(ab1 (a:=a) hx hs hf).nm hlv;refine dn9 hs hn (fun hs0=>eq3 hx hl hs0 hf hno (Nat.lt_succ_self _) hn) ?_;refine .ptr σ.next 0 (y.ev E fr).cs (y.ev E fr).cs (fun h=>h rfl) (.inl (by simp[Store.put])) (by omega) (fun j hj=>?_);rw[Nat.zero_add];exact .keep _ (hv.cs _ (ac9 _ hj))
theorem fv9 {t el:TypeId}{len:Nat}{parts:Array (Nat×Operand)}{z out:List IV}{ps:List (Nat×Nat×IX)}{esz n:Nat}(hu:P.underlying t=some (.slice el))(hsz:szT P el=some esz)(hpos:0<esz)(hz:bl8 P el=some z)(hzl:z.length=esz)
  (hbig:len*esz<=2^24) (hp:bc9 P (fun i=>some (i*esz,esz)) parts.toList=some ps) (hv:ax1 (rep z len) (ps.map fun p=>(p.1,p.2.1,p.2.2.ev E fr))=some out)
  (hs:Sim E ρ w σ) (hf:FR ρ w N fr a.tmps) (hn:n<=σ.next) :
  cp5 P E σ.next n ρ w a (.buildSlice t len parts) (.aa5 (chunk esz len out)) σ:=by
 have hno:ρ σ.next=.no:=hs.fresh _ (Nat.le_refl _);have hlv:∀ i,ρ i≠.no->i≠σ.next:=fun i h e=>h (by rw[e]; exact hno)
 obtain ⟨zr,hzr,hcr⟩:=at5 (w:=w) (ρ:=ρ) hz;obtain ⟨hl,hpl⟩:=bu3 (a:=a) parts.toList ps hp hs hf;have hol:out.length=len*esz:=by rw[dx5 _ _ _ hv,aq6,hzl]
 have hnm:∀ c∈out,Nm (fun i=>i≠σ.next) c:=gp9 _ _ _ hv (hk8 (fun c hc=>by
   obtain ⟨i,hi,rfl⟩:=aj2 (d:=.undef) hc;exact (hcr.2 i hi).nm hlv) _) (fun p hp'=>by
   obtain ⟨i,hi,rfl⟩:=aj2 (d:=(0,0,.undef)) hp';exact (hpl i (by simpa using hi)).2.nm hlv)
 refine dn9 hs hn (fun hs0=>eq4 hu hsz hpos hz hzl hbig hp hv hs0 hf hno (Nat.lt_succ_self _) hn) ?_
 have key:∀ i,i<len->i*esz+esz<=out.length:=fun i hi=>by
  have:(i+1)*esz<=len*esz:=Nat.mul_le_mul_right _ (by omega);rw[Nat.add_mul,Nat.one_mul] at this;omega
 refine .slice σ.next 0 len esz out _ (fun h=>h rfl) (.inr (by simp[Store.put])) (cm1 _ _ _) (by omega) (fun i hi=>?_) (fun i hi j hj=>?_)
 ·rw[bo9 _ _ _ _ hi];have:=key i hi;simp; omega
 ·rw[bo9 _ _ _ _ hi,getD_take' _ _ _ _ hj,an4,Nat.zero_add];exact .keep _ (hnm _ (ac9 _ (by have:=key i hi; omega)))
theorem eg7 {t kt et:TypeId}{x:Operand}{ix:IX}{es:List (IV×IV)}{id n:Nat}(hu:P.underlying t=some (.map kt et))(hx:aj8 x=some ix)(he:ix.ev E fr=.al6 es)(hs:Sim E ρ w σ)(hf:FR ρ w N fr a.tmps)(hno:ρ id=.no)(hlt:id<σ.next)(hn:n<=id) :
  cp5 P E id n ρ w a (.range t x) (.ptr id 0) (σ.put id (.ar8 es none)):=by
 intro o ho;have vx:=ab1 (a:=a) hx hs hf;rw[he] at vx;generalize hrx:a.eval x=rx at vx
 cases vx with
 | al6 _ es' b mes clock hp hd hfb hb hl hk hv h4 h5=>
  have hg:(getObj b).run P w=.ok (.map mes clock) w:=by simp[getObj,Sem.run,hb]
  have hxa:Ext 0 ρ w (ρ.put id (.at w.heap.size 0)) (w.alloc (.mapIter (some b) clock #[] clock)):=am2 hno (Nat.zero_le _);refine ⟨.value (.pointer (some ⟨w.heap.size,0,none⟩)),.pointer (some ⟨w.heap.size,0,none⟩),ρ.put id (.at w.heap.size 0),w.alloc (.mapIter (some b) clock #[] clock),?_,.inl rfl,bu4 hs hno hlt ?_,.ptr id 0 w.heap.size 0 (by simp[Rho.put]),am2 hno hn,aj4.put _ _ _⟩
  ·unfold execOp;rw[ho];simp[Instr.range,run_underlying hu,hrx,hg]
  ·have hflt:(mes.toList.filter fun e=>!(#[]:Array Nat).contains e.born)=mes.toList:=by simp
   refine ⟨rfl,b,clock,#[],mes,clock,es',by show (w.heap.push _)[w.heap.size]? = _; simp,hxa.fb hfb,by rw[hxa.keep b hfb.ub]; exact hb,h4,h5,rfl,by rw[hflt]; simpa using hl,hp,(fun c e=>by cases e),fun i hi=>?_⟩;rw[hflt];have e:mes.toList.getD i default=mes.getD i default:=by simp[List.getD_eq_getElem?_getD,Array.getD_eq_getD_getElem?]
   rw[e];exact ⟨(hk i hi).mono hxa,(hv i hi).mono hxa⟩
def bm1 (σ:Store):IV->Option (Nat×List (IV×IV))
 | .ptr id 0=>match σ.obj id with
  | some (.ar8 left _)=>some (id,left)
  | _=>none
 | _=>none
theorem dx6:∀ (ls:List MapEntry) (j:Nat),j<ls.length->ls.Pairwise (fun x y=>x.born≠y.born)->(ls.filter fun e=>!(e.born==(ls.getD j default).born))=ls.eraseIdx j:=by
 intro ls
 induction ls with
 | nil=>intro j h; simp at h
 | cons x xs ih=>
  intro j hj hp;obtain ⟨h1,h2⟩:=List.pairwise_cons.1 hp
  cases j with
  | zero=>
   simp only[List.getD_cons_zero,List.eraseIdx_cons_zero];rw[List.filter_cons_of_neg (by simp)];refine List.filter_eq_self.2 fun y hy=>?_
   have:=h1 y hy
   simp; omega
  | succ j=>
   simp only[List.getD_cons_succ,List.eraseIdx_cons_succ];have hj':j<xs.length:=by simpa using hj
   have hx:=h1 _ (ac9 default hj');have hne:x.born≠(xs.getD j default).born:=by omega
   rw[List.filter_cons_of_pos (by simpa using hne),ih j hj' h2]
theorem do1 {mes:Array MapEntry}(h5:∀ i j,i<j->j<mes.size->(mes.getD i default).born≠(mes.getD j default).born):mes.toList.Pairwise (fun x y=>x.born≠y.born):=by
 rw[List.pairwise_iff_getElem];intro i j hi hj hij;have:=h5 i j hij (by simpa using hj);rw[ad7 _ _ _ (by simpa using hi),ad7 _ _ _ (by simpa using hj)] at this
 simpa using this
theorem eg8 {n:Nat}(hn:0<n):∃ k,k<n/\((choose (.mapNext n)).run P w=.ok k w\/(choose (.mapNext n)).run P w=.ok k w.drew):=by
 by_cases h1:n<=1
 ·exact ⟨0,hn,.inl (by simp[choose,Sem.run,Question.forced,h1])⟩
 ·have hf:(Question.mapNext n).forced=false:=by simp only[Question.forced]; simpa using h1
  refine ⟨w.tape w.drawn (.mapNext n)%n,Nat.mod_lt _ hn,.inr ?_⟩;show Sem.run P (.choose (.mapNext n) .pure) w=_;unfold Sem.run;rw[hf];rfl
theorem Ext.le0 {n:Nat}(h:Ext n ρ w ρ' w'):Ext 0 ρ w ρ' w' :=
 ⟨h.size,h.keep,h.shape,h.img,h.at_,h.dead,fun i hi=>absurd hi (Nat.not_lt_zero _),h.output,h.os,h.tape,h.loops,h.X⟩
theorem dc1 {α:Type}(d:α):∀ (l:List α) (k:Nat),k<l.length->(l.getD k d::l.eraseIdx k).Perm l:=by
 intro l
 induction l with
 | nil=>intro k h; simp at h
 | cons a l ih=>
  intro k h
  cases k with
  | zero=>simp
  | succ k=>
   simp only[List.getD_cons_succ,List.eraseIdx_cons_succ];exact (List.Perm.swap _ _ _).trans ((ih k (by simpa using h)).cons a)
theorem fb7 {x:Operand} {ix:IX} {id n id0:Nat} {left:List (IV×IV)} (hx:aj8 x=some ix) (h:bm1 σ (ix.ev E fr)=some (id,left)) (hs:Sim E ρ w σ) (hf:FR ρ w N fr a.tmps) :
  (left=[]/\cp5 P E id0 n ρ w a (.next x false) (.tuple [.bool false]) σ) \/
  ∃ j,j<left.length/\cp5 P E id0 n ρ w a (.next x false) (.tuple [.bool true,(left.getD j (.undef,.undef)).1,(left.getD j (.undef,.undef)).2]) (σ.put id (.ar8 (left.eraseIdx j) (some (left.getD j (.undef,.undef))))):=by
 have vx:=ab1 (a:=a) hx hs hf;generalize ix.ev E fr=ax at vx h;generalize hrx:a.eval x=rx at vx
 cases vx with
 | ptr id' off B d hid=>
  unfold bm1 at h;split at h
  ·rename_i id1 heq;cases heq;split at h
   ·rename_i left' hob;cases h;obtain ⟨ob,hob',hor⟩:=hs.obj _ B d hid;rw[hob] at hob';cases hob';obtain ⟨hd,mb,clock,seen,mes,ck,lft,h1,h2,h3,h4,h5,h6,h7,h8,hc0,h9⟩:=hor;subst hd;subst h6;have hgm:∀ w',w'.heap=w.heap->(getObj mb).run P w'=.ok (.map mes clock) w':=fun w' e=>by simp[getObj,Sem.run,e,h3]
    have hgi:(getObj B).run P w=.ok (.mapIter (some mb) clock seen clock) w:=by simp[getObj,Sem.run,h1]
    have hborn:∀ e∈mes.toList,e.born<clock:=fun e he=>by
     obtain ⟨i,hi,rfl⟩:=aj2 (d:=default) he;have:=h4 i (by simpa using hi)
     simpa [List.getD_eq_getElem?_getD,Array.getD_eq_getD_getElem?] using this
    have hnot:(!seen.isEmpty&&!mes.isEmpty&&mes.all (·.born≥clock))=false:=by
     by_cases hm:mes.isEmpty=true
     ·simp[hm]
     ·have:0<mes.size:=by
       rcases Nat.eq_zero_or_pos mes.size with h|h
       ·exact absurd (by simpa [Array.isEmpty] using h) hm
       ·exact h
      have h0:=h4 0 this
      have:mes.all (·.born≥clock)=false:=by
       rw[Bool.eq_false_iff];intro hall;rw[Array.all_eq_true] at hall;have:=hall 0 this;rw[ad7 _ _ _ (by assumption)] at h0;simp at this;omega
      simp[this]
    generalize hls:(mes.toList.filter fun e=>!seen.contains e.born)=ls at h7 h9;have hleftA:(mes.filter fun e=>!seen.contains e.born).toList=ls:=by rw[<- hls]; simp
    have hold:((mes.filter fun e=>!seen.contains e.born).filter (·.born<clock)).toList=ls:=by
     rw[Array.toList_filter,hleftA]
     exact List.filter_eq_self.2 fun e he=>by
      have:e∈mes.toList:=by rw[<- hls] at he; exact (List.mem_filter.1 he).1
      simpa using hborn e this
    have hnew:((mes.filter fun e=>!seen.contains e.born).filter (·.born≥clock)).toList=[]:=by
     rw[Array.toList_filter,hleftA]
     exact List.filter_eq_nil_iff.2 fun e he=>by
      have:e∈mes.toList:=by rw[<- hls] at he; exact (List.mem_filter.1 he).1
      have:=hborn e this;simp; omega
    have hO:((mes.filter fun e=>!seen.contains e.born).filter (·.born<clock))=ls.toArray:=by rw[<- hold]
    have hN:((mes.filter fun e=>!seen.contains e.born).filter (·.born≥clock))=#[]:=by
     apply Array.toList_inj.1; rw[hnew]
    by_cases he:ls=[]
    ·left;have hl0:left=[]:=List.length_eq_zero_iff.1 (by rw[<- h8.length_eq,h7,he]; rfl);refine ⟨hl0,?_⟩;intro o ho;have hch:(choose (.mapNext 1)).run P w=.ok 0 w:=by simp[choose,Sem.run,Question.forced]
     refine ⟨.value (.tuple #[.bool false]),.tuple #[.bool false],ρ,w,?_,.inl rfl,hs,?_,Ext.refl _ _ _,aj4.refl _ _⟩
     ·unfold execOp;rw[ho];simp only[hrx,Instr.next,Sem.run_bind,Nat.add_zero,hgi,Result.andThen_ok,hgm w rfl,hnot,Bool.false_eq_true,if_false,hO,hN];have hc2:((if ls.toArray.isEmpty=true then #[none] else #[])++(ls.toArray++#[]).map some:Array (Option MapEntry))=#[none]:=by rw[he]; simp
      simp only[hc2];have hc:(choose (.mapNext (#[none]:Array (Option MapEntry)).size)).run P w=.ok 0 w:=hch;simp only[hc,Sem.run_pure,Result.andThen_ok];simp
     ·refine .tuple _ _ rfl fun i hi=>?_
      match i,hi with
      | 0,_=>exact .bool false
    ·right;have hpos:0<ls.length:=by cases ls with|nil=>exact absurd rfl he|cons _ _=>simp
     have hne:ls.toArray.isEmpty=false:=by cases ls with|nil=>exact absurd rfl he|cons _ _=>simp
     obtain ⟨k,hk,hch⟩:=eg8 (P:=P) (w:=w) (n:=ls.length) hpos;have hkl:k<lft.length:=by omega
     obtain ⟨j,hj,hje⟩:=aj2 (d:=((.undef,.undef):IV×IV)) (h8.subset (ac9 (.undef,.undef) hkl))
     have hpe:(lft.eraseIdx k).Perm (left.eraseIdx j):=by
      have p1:=dc1 ((.undef,.undef):IV×IV) lft k hkl;have p2:=dc1 ((.undef,.undef):IV×IV) left j hj;rw[hje] at p2;exact List.Perm.cons_inv ((p1.trans h8).trans p2.symm)
     refine ⟨j,hj,?_⟩;rw[hje];intro o ho;have hp:ls.Pairwise (fun x y=>x.born≠y.born):=by rw[<- hls]; exact (do1 h5).sublist List.filter_sublist
     have hc2:((if ls.toArray.isEmpty=true then #[none] else #[])++(ls.toArray++#[]).map some:Array (Option MapEntry))=(ls.map some).toArray:=by
      rw[hne]; simp
     have hck:((ls.map some).toArray)[k]? = some (some (ls.getD k default)):=by
      simp[List.getD_eq_getElem?_getD,hk]
     have nc:∀ (rcs:Array Value) (el:TypeId) (fz:Nat×Nat),Obj.mapIter (some mb) clock seen clock≠.cells rcs el fz:=fun _ _ _ h=>by cases h
     have nl:∀ L,Obj.mapIter (some mb) clock seen clock≠.loop L:=fun _ h=>by cases h
     have fin:∀ w1:World,w1.heap=w.heap->Sim E ρ w1 σ->Ext n ρ w ρ w1->(choose (.mapNext ls.length)).run P w=.ok k w1 ->
       ∃ (x:Next) (r:Value) (ρ':Rho) (w':World),(execOp a.eval o).run P w=.ok x w'/\((x=.value r)\/(x=.skip/\r=undef))/\Sim E ρ' w' (σ.put id (.ar8 (left.eraseIdx j) (some (lft.getD k (.undef,.undef))))) /\
        VR ρ' w' (.tuple [.bool true,(lft.getD k (.undef,.undef)).1,(lft.getD k (.undef,.undef)).2]) r/\Ext n ρ w ρ' w'/\aj4 id0 ρ ρ':=by
      intro w1 hw1 hs1 hx1 hch;have hset:∀ ob,(setObj B ob).run P w1=.ok () (w1.putObj B ob):=fun ob=>by simp[setObj,Sem.run,hw1,h1,World.putObj]
      have h1':w1.heap[B]? = some (.mapIter (some mb) clock seen clock):=by rw[hw1]; exact h1
      have hmB:mb≠B:=fun e=>by rw[e,h1] at h3; cases h3
      have hxp:∀ m (ob:Obj),Ext m ρ w1 ρ (w1.putObj B ob):=fun m ob=>bf7 hid h1' nc nl
      have hx1':Ext 0 ρ w ρ w1:=hx1.le0;refine ⟨.value (.tuple #[.bool true,(ls.getD k default).key,(ls.getD k default).val]),.tuple #[.bool true,(ls.getD k default).key,(ls.getD k default).val],ρ,w1.putObj B (.mapIter (some mb) clock (seen.push (ls.getD k default).born) clock),?_,.inl rfl,cc6 hs1 hid h1' nc nl ?_,?_,hx1.trans (hxp n _) (Nat.le_refl _),aj4.refl _ _⟩
      ·unfold execOp;rw[ho];simp only[hrx,Instr.next,Sem.run_bind,Nat.add_zero,hgi,Result.andThen_ok,hgm w rfl,hnot,Bool.false_eq_true,if_false,hO,hN,hc2];have hc:(choose (.mapNext (ls.map some).toArray.size)).run P w=.ok k w1:=by simpa using hch
       simp only[hc,Result.andThen_ok,hck,hset,Sem.run_pure,Sem.run_bind]
      ·have hxa:Ext 0 ρ w ρ (w1.putObj B (.mapIter (some mb) clock (seen.push (ls.getD k default).born) clock)):=hx1'.trans (hxp 0 _) (Nat.le_refl _)
       have hflt:(mes.toList.filter fun e=>!(seen.push (ls.getD k default).born).contains e.born)=ls.eraseIdx k:=by
        rw[<- dx6 ls k hk hp];generalize (ls.getD k default).born=bb;rw[<- hls,List.filter_filter];congr 1;funext e;rw[Bool.eq_iff_iff];simp[and_comm,not_or]
       refine ⟨rfl,mb,clock,_,mes,clock,lft.eraseIdx k,World.putObj_heap_same (hs1.lt _ _ _ hid),hxa.fb h2,?_,h4,h5,rfl,?_,hpe,?_,fun i hi=>?_⟩
       ·rw[World.putObj_heap_other hmB,hw1]; exact h3
       ·rw[hflt,List.length_eraseIdx,List.length_eraseIdx,h7]
       ·intro c hc1;obtain rfl:=Option.some.inj hc1
        have hm:ls.getD k default∈mes.toList:=by
         have:=ac9 (default:MapEntry) hk;rw[<- hls] at this ⊢;exact (List.mem_filter.1 this).1
        obtain ⟨i,hi,hie⟩:=aj2 (d:=(default:MapEntry)) hm;have e:mes.getD i default=ls.getD k default:=by rw[<- hie]; simp[List.getD_eq_getElem?_getD,Array.getD_eq_getD_getElem?]
        refine ⟨i,by simpa using hi,?_,?_,?_⟩
        ·rw[e]; simp
        ·rw[e]; exact (h9 k hkl).1.mono hxa
        ·rw[e]; exact (h9 k hkl).2.mono hxa
       ·rw[hflt]
        have e1:∀ {α:Type} (l:List α) (d:α),(l.eraseIdx k).getD i d=l.getD (if i<k then i else i+1) d:=fun l d=>by
         simp only[List.getD_eq_getElem?_getD,List.getElem?_eraseIdx];split<;>simp
        rw[e1,e1]
        have hi':i<lft.length-1:=by
         rw[List.length_eraseIdx,if_pos hkl] at hi; exact hi
        have:=h9 (if i<k then i else i+1) (by split<;>omega);exact ⟨this.1.mono hxa,this.2.mono hxa⟩
      ·have hxa:Ext 0 ρ w ρ (w1.putObj B (.mapIter (some mb) clock (seen.push (ls.getD k default).born) clock)):=hx1'.trans (hxp 0 _) (Nat.le_refl _);refine .tuple _ _ rfl fun i hi=>?_
       match i,hi with
       | 0,_=>exact .bool true
       | 1,_=>exact (h9 k hkl).1.mono hxa
       | 2,_=>exact (h9 k hkl).2.mono hxa
     rcases hch with hch|hch
     ·exact fin w rfl hs (Ext.refl _ _ _) hch
     ·exact fin w.drew rfl (cp4 hs) (az9 n) hch
   ·cases h
  ·cases h
 | cp1 id' off ad hid=>
  unfold bm1 at h;split at h
  ·rename_i id1 heq;cases heq;rw[hs.dead _ hid] at h;cases h
  ·cases h
 | _=>simp[bm1] at h
def cn5 (σ:Store):IV->Option IV
 | .ptr id 0=>match σ.obj id with
  | some (.ar8 _ (some c))=>some (.tuple [c.1,c.2])
  | _=>none
 | _=>none
theorem fw1 {x:Operand}{ix:IX}{n id0:Nat}{v:IV}(hx:aj8 x=some ix)(h:cn5 σ (ix.ev E fr)=some v)(hs:Sim E ρ w σ)(hf:FR ρ w N fr a.tmps):cp5 P E id0 n ρ w a (.entry x) v σ:=by
 have vx:=ab1 (a:=a) hx hs hf;generalize ix.ev E fr=ax at vx h;generalize hrx:a.eval x=rx at vx
 cases vx with
 | ptr id' off B d hid=>
  unfold cn5 at h;split at h
  ·rename_i id1 heq;cases heq;split at h
   ·rename_i left c hob;cases h;obtain ⟨ob,hob',hor⟩:=hs.obj _ B d hid;rw[hob] at hob';cases hob';obtain ⟨hd,mb,clock,seen,mes,ck,lft,h1,h2,h3,h4,h5,h6,h7,h8,hc,h9⟩:=hor;subst hd;subst h6;obtain ⟨i,g1,g2,g3,g4⟩:=hc c rfl;intro o ho;refine ⟨.value (.tuple #[(mes.getD i default).key,(mes.getD i default).val]),.tuple #[(mes.getD i default).key,(mes.getD i default).val],ρ,w,?_,.inl rfl,hs,?_,Ext.refl _ _ _,aj4.refl _ _⟩
    ·have hgm:(getObj mb).run P w=.ok (.map mes clock) w:=by simp[getObj,Sem.run,h3]
     have hgi:(getObj B).run P w=.ok (.mapIter (some mb) clock seen clock) w:=by simp[getObj,Sem.run,h1]
     have hfind:mes.find? (fun e=>e.born==(mes.getD i default).born)=some (mes.getD i default):=by
      rw[<- Array.find?_toList];have hi':i<mes.toList.length:=by simpa using g1
      have hmem:mes.getD i default∈mes.toList:=by
       have:=ac9 (default:MapEntry) hi'
       simpa [List.getD_eq_getElem?_getD,Array.getD_eq_getD_getElem?] using this
      cases hq:mes.toList.find? (fun e=>e.born==(mes.getD i default).born) with
      | none=>exact absurd (List.find?_eq_none.1 hq _ hmem) (by simp)
      | some e=>
       have he:=List.mem_of_find?_eq_some hq;have hb:e.born=(mes.getD i default).born:=by simpa using List.find?_some hq
       obtain ⟨j,hj,hje⟩:=aj2 (d:=(default:MapEntry)) he;have ej:mes.getD j default=e:=by rw[<- hje]; simp[List.getD_eq_getElem?_getD,Array.getD_eq_getD_getElem?]
       have hj':j<mes.size:=by simpa using hj
       rw[<- ej] at hb ⊢;congr 1;rcases Nat.lt_trichotomy j i with h|h|h
       ·have:=h5 j i h g1; omega
       ·rw[h]
       ·have:=h5 i j h hj'; omega
     unfold execOp;rw[ho];simp only[hrx,Instr.entry,Sem.run_bind,Nat.add_zero,hgi,Result.andThen_ok,g2,hgm,bne_self_eq_false,Bool.false_eq_true,if_false,hfind,Sem.run_pure]
    ·refine .tuple _ _ rfl fun i hi=>?_
     match i,hi with
     | 0,_=>exact g3
     | 1,_=>exact g4
   ·cases h
  ·cases h
 | cp1 id' off ad hid=>
  unfold cn5 at h;split at h
  ·rename_i id1 heq;cases heq;rw[hs.dead _ hid] at h;cases h
  ·cases h
 | _=>simp[cn5] at h
end Go.Id
/- make of a slice,clear,an entry of a map's literal. Conditions: none; over any program. -/
namespace Go.Id
open Go
variable {P:Program} {w w':World} {ρ ρ':Rho} {E:Nat->IV} {σ σ':Store} {N:Nat} {fr:Frm} {a:Act}
theorem eg9 {t:TypeId}{m k v:Operand}{x:IV}{id n:Nat}(h:cp5 P E id n ρ w a (.mapUpdate t m k v) x σ'):cp5 P E id n ρ w a (.insert t m k v) x σ':=by
 intro o ho;obtain ⟨y,r,ρ',w',hrun,rest⟩:=h { o with op:=.mapUpdate t m k v } rfl;refine ⟨y,r,ρ',w',?_,rest⟩;rw[<- hrun];unfold execOp;rw[ho]
def do2:IV->Option Nat
 | .int _ n=>if 0<=n/\n<=2147483648 then some n.toNat else none
 | _=>none
def cr9:Operand->Operand->Bool
 | .tmp a,.tmp b=>a==b
 | .const (.int k n),.const (.int k' n')=>decide (k=k')&&decide (n=n')
 | _,_=>false
theorem fb8 {x y:Operand}(h:cr9 x y=true):y=x:=by
 unfold cr9 at h;split at h
 ·simp at h; rw[h]
 ·simp at h; rw[h.1,h.2]
 ·cases h
theorem dx7 {t el:TypeId}{x y:Operand}{ix:IX}{i:TypeInfo}{z:List IV}{len id n:Nat}(hu:P.underlying t=some (.slice el))(hi:P.info? el=some i)(hz:bl8 P el=some z)(hzl:z.length=i.size)(hpos:0<i.size)(hb:i.bytes<=4096)
  (hx:aj8 x=some ix) (hy:cr9 x y=true) (h:do2 (ix.ev E fr)=some len) (hs:Sim E ρ w σ) (hf:FR ρ w N fr a.tmps) (hno:ρ id=.no) (hlt:id<σ.next) (hn:n<=id) :
  cp5 P E id n ρ w a (.makeSlice t x y) (.slice id 0 len i.size) (σ.put id (.row (rep z len))):=by
 intro o ho;rw[fb8 hy] at ho;have vx:=ab1 (a:=a) hx hs hf;generalize ix.ev E fr=ax at vx h;generalize hrx:a.eval x=rx at vx;unfold do2 at h;split at h
 ·rename_i k m;split at h
  ·rename_i hm;cases h;cases vx;obtain ⟨zr,hzr,hcr⟩:=at5 (w:=w) (ρ:=ρ) hz;have hcz:=cr5 hcr m.toNat (.inl (by omega));rw[hzl] at hcz
   have hwr:IntKind.i64.wrap m=m:=by
    simp[IntKind.wrap,IntKind.bits,IntKind.signed]; omega
   have hsim:=db8 (el:=el) hs hno hlt hcz;have hsz:szT P el=some i.size:=by simp[szT,hi]
   have hbig:¬ ((i.bytes:Int)*m>2^48):=by
    have h1:(i.bytes:Int)*m<=4096*2147483648:=Int.mul_le_mul (by omega) hm.2 hm.1 (by omega);omega
   refine ⟨.value (.slice (some ⟨w.heap.size,0,none⟩) m.toNat m.toNat),.slice (some ⟨w.heap.size,0,none⟩) m.toNat m.toNat,ρ.put id (.at w.heap.size 0),w.alloc (.cells ((Array.range (m.toNat*i.size)).map (zr.cells[· % zr.cells.size]!)) el),?_,.inl rfl,hsim,?_,am2 hno hn,aj4.put _ _ _⟩
   ·unfold execOp;rw[ho];have hti:(typeInfo el).run P w=.ok i w:=by simp[typeInfo,hi]
    have h0:decide (m<0)=false:=by simp; omega
    have h1:decide ((i.bytes:Int)*m>2^48)=false:=by simpa using hbig
    simp only[hrx,Instr.makeSlice,Sem.run_bind,run_underlying hu,Result.andThen_ok,asInt,asIntOf,Sem.run_pure,hti,hwr,h0,h1,Bool.or_false,Bool.false_or];have h2:decide (m>m)=false:=by simp
    simp only[h2,Bool.false_eq_true,if_false,Sem.run_bind,run_askRoom,Result.andThen_ok,run_sizeOf hsz,Sem.run_pure];by_cases h3:m.toNat*i.size=0
    ·have e0:∀ f:Nat->Value,(Array.range 0).map f=#[]:=fun f=>by simp[Array.range]
     simp only[h3,if_true,Sem.run_pure,Result.andThen_ok,e0];simp[newRow]
    ·simp only[h3,if_false,Sem.run_bind,hzr,Result.andThen_ok,Sem.run_pure];simp[newRow]
   ·exact .slice id 0 m.toNat i.size w.heap.size 0 m.toNat ((Array.range (m.toNat*i.size)).map (zr.cells[· % zr.cells.size]!)) el (0,0) (by simp[Rho.put]) (by show (w.heap.push _)[w.heap.size]? = _; simp) (by simp) (Nat.le_refl _)
  ·cases h
 ·cases h
theorem fb9 {t el:TypeId}{x y:Operand}{ix:IX}{i:TypeInfo}{z:List IV}{len n:Nat}(hu:P.underlying t=some (.slice el))(hi:P.info? el=some i)(hz:bl8 P el=some z)(hzl:z.length=i.size)(hpos:0<i.size)(hb:i.bytes<=4096)
  (hx:aj8 x=some ix) (hy:cr9 x y=true) (h:do2 (ix.ev E fr)=some len) (hs:Sim E ρ w σ) (hf:FR ρ w N fr a.tmps) (hn:n<=σ.next) :
  cp5 P E σ.next n ρ w a (.makeSlice t x y) (.aa5 (chunk i.size len (rep z len))) σ:=by
 have hno:ρ σ.next=.no:=hs.fresh _ (Nat.le_refl _);have hlv:∀ i,ρ i≠.no->i≠σ.next:=fun i h e=>h (by rw[e]; exact hno)
 obtain ⟨zr,hzr,hcr⟩:=at5 (w:=w) (ρ:=ρ) hz;have hol:(rep z len).length=len*i.size:=by rw[aq6,hzl]
 have hnm:∀ c∈rep z len,Nm (fun i=>i≠σ.next) c:=hk8 (fun c hc=>by
   obtain ⟨i,hi,rfl⟩:=aj2 (d:=.undef) hc;exact (hcr.2 i hi).nm hlv) _
 refine dn9 hs hn (fun hs0=>dx7 hu hi hz hzl hpos hb hx hy h hs0 hf hno (Nat.lt_succ_self _) hn) ?_
 have key:∀ j,j<len->j*i.size+i.size<=(rep z len).length:=fun j hj=>by
  have:(j+1)*i.size<=len*i.size:=Nat.mul_le_mul_right _ (by omega);rw[Nat.add_mul,Nat.one_mul] at this;omega
 refine .slice σ.next 0 len i.size (rep z len) _ (fun h=>h rfl) (.inr (by simp[Store.put])) (cm1 _ _ _) (by omega) (fun j hj=>?_) (fun j hj k hk=>?_)
 ·rw[bo9 _ _ _ _ hj];have:=key j hj;simp; omega
 ·rw[bo9 _ _ _ _ hj,getD_take' _ _ _ _ hk,an4,Nat.zero_add];exact .keep _ (hnm _ (ac9 _ (by have:=key j hj; omega)))
def fc1 (σ:Store)(esz:Nat)(z:List IV):IV->Option Store
 | .aa1|.ac8=>some σ
 | .aa5 []=>some σ
 | .slice id off len e=>if len=0 then some σ else match σ.obj id with
  | some (.row cs)=>if e=esz/\off+len*esz<=cs.length/\z.all IV.leaf=true then some (σ.put id (.row (ay1 cs off (rep z len)))) else none
  | _=>none
 | _=>none
theorem hw5 {z:List IV}(h:z.all IV.leaf=true):∀ n,(rep z n).all IV.leaf=true:=by
 intro n
 induction n with
 | zero=>rfl
 | succ n ih=>simp only[rep,List.all_append,h,ih,Bool.and_self]
theorem gq1 {t el:TypeId} {x:Operand} {ix:IX} {z:List IV} {esz n id0:Nat} (hu:P.underlying t=some (.slice el)) (hsz:szT P el=some esz) (hz:bl8 P el=some z) (hzl:z.length=esz) (hpos:0<esz)
  (hx:aj8 x=some ix) (h:fc1 σ esz z (ix.ev E fr)=some σ') (hs:Sim E ρ w σ) (hf:FR ρ w N fr a.tmps):cp5 P E id0 n ρ w a (.call { callee:=.builtin .clear,args:=#[x],argTypes:=#[t] }) .undef σ':=by
 intro o ho;have vx:=ab1 (a:=a) hx hs hf;generalize ix.ev E fr=ax at vx h;generalize hrx:a.eval x=rx at vx
 have nop:σ'=σ->(Builtin.clear_ #[t] o.type #[rx]).run P w=.ok (.tuple #[]) w ->
   ∃ (x:Next) (r:Value) (ρ':Rho) (w':World),(execOp a.eval o).run P w=.ok x w'/\((x=.value r)\/(x=.skip/\r=undef))/\Sim E ρ' w' σ'/\VR ρ' w' .undef r/\Ext n ρ w ρ' w'/\aj4 id0 ρ ρ':=by
  rintro rfl hr;refine ⟨.value (.tuple #[]),.tuple #[],ρ,w,?_,.inl rfl,hs,.undef _,Ext.refl _ _ _,aj4.refl _ _⟩;unfold execOp;rw[ho];simp[resolve,invoke,builtin,hrx,hr]
 cases vx with
 | aa1=>cases h; exact nop rfl (by simp[Builtin.clear_,run_underlying hu])
 | ac8 ad=>cases h; exact nop rfl (by simp[Builtin.clear_,run_underlying hu])
 | cb8=>cases h; exact nop rfl (by simp[Builtin.clear_,run_underlying hu])
 | aa5 es b o' cap esz' sp vs hfb hsz' hc hv hle=>
  unfold fc1 at h;split at h<;>first|(cases h; done)|skip
  ·rename_i heq; cases heq
  ·rename_i heq; cases heq
  ·rename_i heq; cases heq; cases h; exact nop rfl (by simp[Builtin.clear_,run_underlying hu])
  ·rename_i heq; cases heq
 | slice id off len e B d cap rcs el' fz hid hbk hszk hle=>
  simp only[fc1] at h;split at h
  ·rename_i h0; subst h0; cases h; exact nop rfl (by simp[Builtin.clear_,run_underlying hu])
  ·rename_i h0;obtain ⟨ob,hob,hor⟩:=hs.obj id B d hid;rw[hob] at h
   cases ob with
   | row cs=>
    simp only at h;split at h
    ·rename_i hc;obtain ⟨rfl,h2,h3⟩:=hc;cases h;obtain ⟨rcs',el2,hb,hsz',hvs⟩:=hor;obtain ⟨zr,hzr,hcr⟩:=at5 (w:=w) (ρ:=ρ) hz;have hcz:=cr5 hcr len (.inl (by omega));have hzs:zr.cells.size=e:=by rw[<- hcr.1,hzl]
     have hzc:Builtin.zeroCells zr.cells len=(Array.range (len*z.length)).map (zr.cells[· % zr.cells.size]!):=by
      unfold Builtin.zeroCells; rw[hzs,hzl]
     generalize (Array.range (len*z.length)).map (zr.cells[· % zr.cells.size]!)=news at hcz hzc;have hrl:(rep z len).length=len*e:=by rw[aq6,hzl]
     have hnl:news.size=len*e:=by rw[<- hcz.1,hrl]
     have hone:∀ v∈news.toList,v.oneCell'=true:=fun q hq=>by
      obtain ⟨k,hk,rfl⟩:=List.mem_iff_getElem.1 hq;have hk':k<(rep z len).length:=by rw[hcz.1]; simpa using hk
      have hl:((rep z len).getD k .undef).leaf=true:=List.all_eq_true.1 (hw5 h3 len) _ (ac9 _ hk');have:=(cp3 hl (hcz.2 k hk')).1;rw[ad7 _ _ _ (by simpa using hk)] at this
      simpa using this
     have hst:=run_storeCells_at (P:=P) B (d+off) el2 news.toList 0 rcs' w hb (by simp[hnl]; omega) hone;simp only[Nat.add_zero] at hst;generalize hnew:(rcs'.toList.take (d+off)++news.toList++rcs'.toList.drop (d+off+news.toList.length)).toArray=new at hst
     have hnsz:new.size=rcs'.size:=by
      rw[<- hnew]; simp[hnl]; omega
     have hx:∀ n,Ext n ρ w ρ (w.setRow B new):=fun n=>ax3 (n:=n) (new:=new) hid hb hnsz
     refine ⟨.value (.tuple #[]),.tuple #[],ρ,w.setRow B new,?_,.inl rfl,bo8 hs hid hb hnsz ?_,.undef _,hx n,aj4.refl _ _⟩
     ·unfold execOp;rw[ho]
      cases len with
      | zero=>exact absurd rfl h0
      | succ m=>
       have hr:(Builtin.clear_ #[t] o.type #[Value.slice (some ⟨B,d+off,none⟩) (m+1) cap]).run P w=.ok (.tuple #[]) (w.setRow B new):=by
        simp[Builtin.clear_,run_underlying hu,hzr,hzc,hst]
       simp[resolve,invoke,builtin,hrx,hr]
     ·refine ⟨new,el2,setRow_heap w B rcs' new el2 (0,0) hb,?_,?_⟩
      ·rw[hnsz,ai6 (by omega)]; exact hsz'
      ·intro i hi;rw[ai6 (by omega)] at hi
       have:=in8 (w:=w) (ρ:=ρ) (cs:=cs) (vs:=rep z len) (old:=rcs') (news:=news.toList) (d:=d) (k:=off) hvs hsz' (by simp[hrl,hnl])
        (fun i hi=>by have:=hcz.2 i hi; simpa [Array.getD_eq_getD_getElem?,List.getD_eq_getElem?_getD] using this) (by omega) i hi
       rw[hnew] at this;exact this.mono (hx 0)
    ·cases h
   | _=>cases h
 | am1 id off e B d ad hid=>
  simp only[fc1] at h
  cases h; exact nop rfl (by simp[Builtin.clear_,run_underlying hu])
 | al1 id off len e cap ad hid hle=>
  simp only[fc1] at h;split at h
  ·rename_i h0; subst h0; cases h; exact nop rfl (by simp[Builtin.clear_,run_underlying hu])
  ·rw[hs.dead id hid] at h; cases h
 | _=>simp[fc1] at h
end Go.Id
