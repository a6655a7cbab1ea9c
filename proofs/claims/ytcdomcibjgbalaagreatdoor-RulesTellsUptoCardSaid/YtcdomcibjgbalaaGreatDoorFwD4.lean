/- Steps that change the world: a new block,cells written,a slice appended to. Conditions: none; over any program. -/
import Derived.Test.YtcdomcibjgbalaaGreatDoorFwC2
import Derived.RangeFuncRecord
open List renaming getD_eq_getElem?_getD→za,getElem?_append→ze,length_append→zh,range→zl,getElem_mem→zp,all_eq_true→zq,getElem?_eq_getElem→zu,getElem?_toArray→zz,mem_iff_getElem→z0,getElem?_take→z2,getElem?_drop→z3,flatten_cons→z5
open Array renaming getD_eq_getD_getElem?→zb,getElem?_eq_getElem→zf,getElem?_push→zi,range→zs,getElem?_eq_some_iff→zt,getElem?_eq_none→zv,getElem?_toList→zw,getElem?_modify→zx,getElem?_append→zy,length_toList→z1,size_modify→z4
open Option renaming some→zc,none→zg,isSome_none→zk
open Nat renaming le_refl→zd,add_mul→zj,zero_le→zn,eq_zero_or_pos→zo
open Bool renaming false_eq_true→zm
open ByteArray renaming mk→z6
set_option linter.all false
private theorem om{P:Prop}(h:P:=by omega):P:=h
namespace Go.Id
open Go
variable {P:Program} {w w':World} {ρ ρ':Rho} {E:Nat->IV} {σ:Store} {N:Nat} {fr:Frm} {a:Act}
def Store.put (σ:Store)(id:Nat)(o:aj2):Store:={ σ with obj:=λi=>if i=id then zc o else σ.obj i }
def Store.kill (σ:Store)(id:Nat):Store:={ σ with obj:=λi=>if i=id then zg else σ.obj i }
def Rho.put (ρ:Rho)(id:Nat)(r:eg5):Rho:=⟨λi=>if i=id then r else ρ i,ρ.X⟩
theorem ah8 (ρ:Rho)(id:Nat)(r:eg5)(i:Nat):(ρ.put id r) i=if i=id then r else ρ i:=rfl
def ah9 (id:Nat)(ρ ρ':Rho):Prop:=∀i,i≠id->ρ i=.no->ρ' i=.no
theorem ah9.refl (id:Nat)(ρ:Rho):ah9 id ρ ρ:=λ_ _ h=>h
theorem ah9.put (id:Nat)(ρ:Rho)(r:eg5):ah9 id ρ (ρ.put id r):=λi hi h=>by simp[Rho.put,hi,h]
theorem ah9.kill {id did B d:Nat}{ρ:Rho}(hd:ρ did=.at B d)(r:eg5):ah9 id ρ (ρ.put did r):=λi _ h=>by
 have:i≠did:=λe=>by subst e;rw[hd] at h;cases h
 simp[Rho.put,this,h]
theorem ah9.trans {id:Nat}{ρ ρ' ρ'':Rho}(h:ah9 id ρ ρ')(h':ah9 id ρ' ρ''):ah9 id ρ ρ'':=λi hi h0=>h' i hi (h i hi h0)
theorem OR.mono {n:Nat}{B d:Nat}{o:aj2}(hx:Ext n ρ w ρ' w')(hb:w'.heap[B]? = w.heap[B]?)(h:OR ρ w B d o):OR ρ' w' B d o:=by
 have key:∀cs,aq6 ρ w B d cs->aq6 ρ' w' B d cs:=λcs ⟨rcs,el,h1,h2,h3⟩=>⟨rcs,el,by rw[hb];exact h1,h2,λi hi=>(h3 i hi).mono hx⟩
 cases o with
 | cells cs=>exact key cs h
 | row cs=>exact key cs h
 | map es=>
  obtain ⟨mes,clock,h1,h0,h2,h3,h4,h5⟩:=h
  exact ⟨mes,clock,by rw[hb];exact h1,h0,h2,λi hi=>⟨(h3 i hi).1.mono hx,(h3 i hi).2.mono hx⟩,h4,h5⟩
 | bg3 s pos=>exact ⟨by rw[hb];exact h.1,h.2⟩
 | loop N tmps params assign body st pend=>
  obtain ⟨hd,l,h1,h2,h3,h4,h5,h6,h7,h8⟩:=h
  exact ⟨hd,l,by rw[hb];exact h1,h2,h3,h4,h5,h6,h7,λt=>(h8 t).mono hx⟩
 | as1 left cur=>
  obtain ⟨hd,mb,last,seen,mes,clock,lft,h1,h2,h3,h4,h5,h6,h7,h8,hc,h9⟩:=h;exact ⟨hd,mb,last,seen,mes,clock,lft,by rw[hb];exact h1,hx.fb h2,by rw[hx.keep mb h2.ub];exact h3,h4,h5,h6,h7,h8,λc e=>let ⟨i,g1,g2,g3,g4⟩:=hc c e;⟨i,g1,g2,g3.mono hx,g4.mono hx⟩,λi hi=>⟨(h9 i hi).1.mono hx,(h9 i hi).2.mono hx⟩⟩
theorem az1 (w:World)(o:Obj)(b:Nat)(hb:b<w.heap.size):(w.alloc o).heap[b]? = w.heap[b]?:=by
 show (w.heap.push o)[b]? = w.heap[b]?;simp[zi,Nat.ne_of_lt hb]
theorem al6 {n id d:Nat}{o:Obj}(hno:ρ id=.no)(hn:n<=id):Ext n ρ w (ρ.put id (.at w.heap.size d)) (w.alloc o) where
 size:=by show w.heap.size<=(w.heap.push o).size;simp
 keep:=λb hb=>az1 w o b hb.1
 shape:=λb rcs el fz hb=>⟨rcs,by rw[az1 w o b (zt.1 hb).1];exact hb,rfl⟩
 img:=λi B d' hi=>by
  rw[ah8] at hi;split at hi
  ·cases hi;exact .inr (zd _)
  ·exact .inl ⟨i,d',hi⟩
 at_:=λi B d' hi=>by
  rw[ah8];split
  ·rename_i h;subst h;rw[hno] at hi;cases hi
  ·exact .inl hi
 dead:=λi hi=>by
  rw[ah8];split
  ·rename_i h;subst h;rw[hno] at hi;cases hi
  ·exact hi
 no:=λi hi h0=>by
  rw[ah8];split
  ·rename_i h;omega
  ·exact h0
 output:=rfl
 os:=rfl
 tape:=⟨rfl,zd _⟩
 loops:=λl L hl=>⟨L,by rw[az1 w o l (zt.1 hl).1];exact hl⟩
 X:=rfl
theorem bz1 {id d:Nat}{ro:Obj}{o:aj2}(hs:Sim E ρ w σ)(hno:ρ id=.no)(hlt:id<σ.next)
  (ho:OR (ρ.put id (.at w.heap.size d)) (w.alloc ro) w.heap.size d o):Sim E (ρ.put id (.at w.heap.size d)) (w.alloc ro) (σ.put id o) where
 inj:=λi j B d1 d2 hi hj=>by
  rw[ah8] at hi hj;split at hi<;>split at hj
  ·rename_i h1 h2;rw[h1,h2]
  ·cases hi;have:=hs.lt j _ _ hj;omega
  ·cases hj;have:=hs.lt i _ _ hi;omega
  ·exact hs.inj i j B d1 d2 hi hj
 lt:=λi B d1 hi=>by
  rw[ah8] at hi;show B<(w.heap.push ro).size;rw[Array.size_push];split at hi
  ·cases hi;omega
  ·have:=hs.lt i _ _ hi;omega
 obj:=λi B d1 hi=>by
  rw[ah8] at hi;simp only[Store.put];split at hi
  ·rename_i h;cases hi;exact ⟨o,by simp[h],ho⟩
  ·rename_i h;obtain ⟨o',h1,h2⟩:=hs.obj i B d1 hi;exact ⟨o',by simp[h,h1],h2.mono (al6 (n:=0) hno (zn _)) (az1 w ro B (hs.lt i B d1 hi))⟩
 dead:=λi hi=>by
  rw[ah8] at hi;simp only[Store.put];split at hi
  ·cases hi
  ·rename_i h;simp[h,hs.dead i hi]
 fresh:=λi hi=>by
  have:i≠id:=by have:σ.next<=i:=hi;omega
  simp[Rho.put,this,hs.fresh i hi]
 av3:=λi hi=>by
  rw[ah8] at hi;split at hi
  ·cases hi
  ·rename_i h;simp[Store.put,h,hs.av3 i hi]
 env:=λg=>(hs.env g).mono (al6 (n:=0) hno (zn _))
 nx:=λi B d1 hi hX=>by
  rw[ah8] at hi;split at hi
  ·cases hi;exact absurd (hs.xlt _ hX) (Nat.lt_irrefl _)
  ·exact hs.nx i B d1 hi hX
 xlt:=λb hX=>by
  show b<(w.heap.push ro).size;rw[Array.size_push];have:=hs.xlt b hX;omega
theorem ei6 {id:Nat}{cs:List IV}{rcs:Array Value}{el:TypeId}(hno:ρ id=.no)(hc:CR ρ w cs rcs) :
  aq6 (ρ.put id (.at w.heap.size 0)) (w.alloc (.cells rcs el)) w.heap.size 0 cs:=by
 refine ⟨rcs,el,by show (w.heap.push _)[w.heap.size]? = _;simp,by rw[hc.1];omega,λi hi=>?_⟩;rw[Nat.zero_add];exact (hc.2 i hi).mono (al6 (n:=0) hno (zn _))
theorem ei7 {id:Nat}{cs:List IV}{rcs:Array Value}{el:TypeId}(hs:Sim E ρ w σ)(hno:ρ id=.no)(hlt:id<σ.next)(hc:CR ρ w cs rcs) :
  Sim E (ρ.put id (.at w.heap.size 0)) (w.alloc (.cells rcs el)) (σ.put id (.cells cs)):=
 bz1 hs hno hlt (ei6 hno hc)
theorem cj5 {id:Nat}{cs:List IV}{rcs:Array Value}{el:TypeId}(hs:Sim E ρ w σ)(hno:ρ id=.no)(hlt:id<σ.next)(hc:CR ρ w cs rcs) :
  Sim E (ρ.put id (.at w.heap.size 0)) (w.alloc (.cells rcs el)) (σ.put id (.row cs)):=
 bz1 hs hno hlt (ei6 hno hc)
theorem ba7 (n:Nat):Ext n ρ w ρ w.drew:=⟨zd _,λ_ _=>rfl,λ_ r _ _ h=>⟨r,h,rfl⟩,λi B d h=>.inl ⟨i,d,h⟩,λ_ _ _ h=>.inl h,λ_ h=>h,λ_ _ h=>h,rfl,rfl,⟨rfl,Nat.le_succ _⟩,λ_ L h=>⟨L,h⟩,rfl⟩
theorem cy1 (hs:Sim E ρ w σ):Sim E ρ w.drew σ :=
 ⟨hs.inj,hs.lt,λi B d h=>let ⟨o,h1,h2⟩:=hs.obj i B d h;⟨o,h1,h2.mono (ba7 0) rfl⟩,hs.dead,hs.fresh,hs.av3,λg=>(hs.env g).mono (ba7 0),hs.nx,hs.xlt⟩
theorem setRow_other (w:World)(g b:Nat)(cs:Array Value)(h:b≠g):(w.setRow g cs).heap[b]? = w.heap[b]?:=by
 have h':¬g=b:=λe=>h e.symm
 simp[World.setRow,zx,h']
theorem bz2 (w:World)(g:Nat)(cs:Array Value):(w.setRow g cs).heap.size=w.heap.size:=by simp[World.setRow]
theorem ax1 {n id B d:Nat}{old new:Array Value}{el:TypeId}{fz:Nat×Nat}(hid:ρ id=.at B d)(hb:w.heap[B]? = zc (.cells old el fz))(hsz:new.size=old.size) :
  Ext n ρ w ρ (w.setRow B new) where
 size:=by rw[bz2];exact zd _
 keep:=λb hfb=>setRow_other w B b new (λh=>by subst h;exact hfb.2 id d hid)
 shape:=λb rcs el' fz' hb'=>by
  by_cases h:b=B
  ·subst h;rw[hb] at hb';cases hb';exact ⟨new,setRow_heap w b old new el fz hb,hsz⟩
  ·exact ⟨rcs,by rw[setRow_other w B b new h];exact hb',rfl⟩
 img:=λi B' d' h=>.inl ⟨i,d',h⟩
 at_:=λ_ _ _ h=>.inl h
 dead:=λ_ h=>h
 no:=λ_ _ h=>h
 output:=rfl
 os:=rfl
 tape:=⟨rfl,zd _⟩
 loops:=λl L hl=>⟨L,by rw[setRow_other w B l new (λh=>by subst h;rw[hb] at hl;cases hl)];exact hl⟩
 X:=rfl
theorem bs2 {id B d:Nat}{old new:Array Value}{el:TypeId}{fz:Nat×Nat}{o:aj2}(hs:Sim E ρ w σ)(hid:ρ id=.at B d)(hb:w.heap[B]? = zc (.cells old el fz))(hsz:new.size=old.size)
  (ho:OR ρ (w.setRow B new) B d o):Sim E ρ (w.setRow B new) (σ.put id o) where
 inj:=hs.inj
 lt:=λi B' d' h=>by rw[bz2];exact hs.lt i B' d' h
 obj:=λi B' d' hi=>by
  simp only[Store.put];by_cases h:i=id
  ·subst h;rw[hid] at hi;cases hi;exact ⟨o,by simp,ho⟩
  ·obtain ⟨o',h1,h2⟩:=hs.obj i B' d' hi;have hne:B'≠B:=λe=>h (hs.inj i id B d' d (by rw[hi,e]) hid)
   exact ⟨o',by simp[h,h1],h2.mono (ax1 (n:=0) hid hb hsz) (setRow_other w B B' new hne)⟩
 dead:=λi hi=>by
  have:i≠id:=λe=>by subst e;rw[hid] at hi;cases hi
  simp[Store.put,this,hs.dead i hi]
 fresh:=λi hi=>hs.fresh i hi
 av3:=λi hi=>by
  have:i≠id:=λe=>by subst e;rw[hid] at hi;cases hi
  simp[Store.put,this,hs.av3 i hi]
 env:=λg=>(hs.env g).mono (ax1 (n:=0) hid hb hsz)
 nx:=hs.nx
 xlt:=λb hX=>by rw[bz2];exact hs.xlt b hX
theorem jl7 {cs:List IV}{vs:List IV}{old:Array Value}{news:List Value}{d k:Nat}(hold:∀i,i<cs.length->VR ρ w (cs.getD i .undef) (old.getD (d+i) undef))(hd:d+cs.length<=old.size)
  (hn:vs.length=news.length) (hv:∀i,i<vs.length->VR ρ w (vs.getD i .undef) (news.getD i undef)) (hk:k+vs.length<=cs.length) :
  ∀i,i<cs.length->VR ρ w ((be4 cs k vs).getD i .undef) ((old.toList.take (d+k)++news++old.toList.drop (d+k+news.length)).toArray.getD (d+i) undef):=by
 intro i hi;rw[eh8 hk]
 have e:(old.toList.take (d+k)++news++old.toList.drop (d+k+news.length)).toArray.getD (d+i) undef =
   if d+k<=d+i/\d+i<d+k+news.length then news.getD (d+i-(d+k)) undef else old.getD (d+i) undef:=by
  have h1:min (d+k) old.toList.length=d+k:=by simp;omega
  simp only[zb,zz,ze,zh,List.length_take,h1,z2,z3,za,zw];by_cases c1:d+i<d+k+news.length
  ·by_cases c2:d+i<d+k
   ·have:¬(d+k<=d+i):=om;simp[c1,c2,this]
   ·have:d+k<=d+i:=om;simp[c1,c2,this]
  ·have c2:¬(d+i<d+k):=om;simp only[c1,if_false,and_false];congr 2;omega
 rw[e];by_cases c:k<=i/\i<k+vs.length
 ·have c':d+k<=d+i/\d+i<d+k+news.length:=om;rw[if_pos c,if_pos c'];have:=hv (i-k) om
  rwa [show d+i-(d+k)=i-k from by omega]
 ·have c':¬(d+k<=d+i/\d+i<d+k+news.length):=om;rw[if_neg c,if_neg c'];exact hold i hi
end Go.Id
namespace Go.Id
open Go
variable {P:Program} {w w':World} {ρ ρ':Rho} {E:Nat->IV} {σ:Store} {N:Nat} {fr:Frm} {a:Act}
def cu3 (P:Program)(E:Nat->IV)(id n:Nat)(ρ:Rho)(w:World)(a:Act)(op:Op)(v:IV)(σ':Store):Prop :=
 ∀o:Oper,o.op=op->∃(x:Next) (r:Value) (ρ':Rho) (w':World),(execOp a.eval o).run P w=.ok x w'/\((x=.value r)\/(x=.skip/\r=undef))/\Sim E ρ' w' σ'/\VR ρ' w' v r/\Ext n ρ w ρ' w'/\ah9 id ρ ρ'
theorem fr8 {t:TypeId}{z:List IV}{id n:Nat}(hz:bk7 P t=zc z)(hs:Sim E ρ w σ)(hno:ρ id=.no)(hlt:id<σ.next)(hn:n<=id) :
  cu3 P E id n ρ w a (.alloc t) (.ptr id 0) (σ.put id (.cells z)):=by
 intro o ho;obtain ⟨zr,hzr,hcr⟩:=aq8 (w:=w) (ρ:=ρ) hz;refine ⟨.value (.pointer (zc ⟨w.heap.size,0,zg⟩)),.pointer (zc ⟨w.heap.size,0,zg⟩),ρ.put id (.at w.heap.size 0),w.alloc (.cells zr.cells t),?_,.inl rfl,ei7 hs hno hlt hcr,?_,al6 hno hn,ah9.put _ _ _⟩
 ·unfold execOp;rw[ho];simp[Instr.alloc,hzr,newVar,newRow]
 ·exact .ptr id 0 w.heap.size 0 (by simp[Rho.put])
theorem fe5 {t:TypeId}{x:Operand}{y:IX}{id n:Nat}(hx:ai9 x=zc y)(hl:(y.ev E fr).cs.all IV.leaf=true)(hs:Sim E ρ w σ)(hf:FR ρ w N fr a.tmps)(hno:ρ id=.no)(hlt:id<σ.next)(hn:n<=id) :
  cu3 P E id n ρ w a (.box t x) (.ptr id 0) (σ.put id (.cells (y.ev E fr).cs)):=by
 intro o ho;obtain ⟨hcr,_⟩:=by8 (aa9 hx hs hf) hl
 refine ⟨.value (.pointer (zc ⟨w.heap.size,0,zg⟩)),.pointer (zc ⟨w.heap.size,0,zg⟩),ρ.put id (.at w.heap.size 0),w.alloc (.cells (a.eval x).cells t),?_,.inl rfl,ei7 hs hno hlt hcr,?_,al6 hno hn,ah9.put _ _ _⟩
 ·unfold execOp;rw[ho];simp[Instr.box,newVar,newRow]
 ·exact .ptr id 0 w.heap.size 0 (by simp[Rho.put])
def rep (z:List IV):Nat->List IV
 | 0=>[]
 | n+1=>z++rep z n
theorem ar3 (z:List IV)(n:Nat):(rep z n).length=n*z.length:=by
 induction n with
 | zero=>simp[rep]
 | succ n ih=>simp[rep,ih,zj,Nat.add_comm]
theorem hu5 (z:List IV)(hz:0<z.length)(d:IV):∀(n i:Nat),i<n*z.length->(rep z n).getD i d=z.getD (i%z.length) d:=by
 intro n
 induction n with
 | zero=>intro i hi;simp at hi
 | succ n ih=>
  intro i hi;simp only[rep,za,ze];by_cases h:i<z.length
  ·simp[h,Nat.mod_eq_of_lt h]
  ·rw[if_neg h];have:=ih (i-z.length) (by rw[zj,Nat.one_mul] at hi;omega);simp only[za] at this;have e:=Nat.mod_eq_sub_mod (a:=i) (b:=z.length) om;rw[e];exact this
theorem cc3 {z:List IV}{rz:Array Value}(h:CR ρ w z rz)(n:Nat)(hp:0<z.length\/n=0) :
  CR ρ w (rep z n) ((zs (n*z.length)).map (rz[· % rz.size]!)):=by
 refine ⟨by simp[ar3],λi hi=>?_⟩;rw[ar3] at hi;rcases hp with hp|hp
 ·rw[hu5 z hp _ n i hi];have hm:i%z.length<z.length:=Nat.mod_lt _ hp;have hm':i%rz.size<rz.size:=by rw[<- h.1];exact hm
  have:=h.2 (i%z.length) hm;rw[h.1] at this;rw[ae4 _ _ _ hm'] at this;rw[ae4 _ _ _ (by simpa using hi)];simp only[Array.getElem_map,Array.getElem_range];rw[getElem!_pos rz (i%rz.size) hm',h.1];exact this
 ·subst hp;simp at hi
theorem fe6 {t el:TypeId}{len:Nat}{parts:Array (Nat×Operand)}{z out:List IV}{ps:List (Nat×Nat×IX)}{esz id n:Nat}(hu:P.underlying t=zc (.slice el))(hsz:szT P el=zc esz)(hpos:0<esz)(hz:bk7 P el=zc z)(hzl:z.length=esz)
  (hbig:len*esz<=2^24) (hp:ay5 P (λi=>zc (i*esz,esz)) parts.toList=zc ps) (hv:at7 (rep z len) (ps.map λp=>(p.1,p.2.1,p.2.2.ev E fr))=zc out)
  (hs:Sim E ρ w σ) (hf:FR ρ w N fr a.tmps) (hno:ρ id=.no) (hlt:id<σ.next) (hn:n<=id) :
  cu3 P E id n ρ w a (.buildSlice t len parts) (.slice id 0 len esz) (σ.put id (.row out)):=by
 intro o ho;obtain ⟨zr,hzr,hcr⟩:=aq8 (w:=w) (ρ:=ρ) hz;have hcz:=cc3 hcr len (.inl om);rw[hzl] at hcz;obtain ⟨hl,hpl⟩:=bk8 parts.toList ps hp hs hf;obtain ⟨rout,hr,hro⟩:=ci9 (place:=λi=>zc (i*esz,esz)) _ (parts.toList.map λp=>(p.1,a.eval p.2)) _ out _ hcz (by simp[hl]) (λj hj=>hpl j (by simpa using hj)) hv;have hpt:(parts.map λ(i,x)=>(i,a.eval x)).toList=parts.toList.map λp=>(p.1,a.eval p.2):=by simp
 have hol:out.length=len*esz:=by
  have:∀(ps:List (Nat×Nat×IV)) (l o:List IV),at7 l ps=zc o->o.length=l.length:=by
   intro ps
   induction ps with
   | nil=>intro l o h;cases h;rfl
   | cons p ps ih=>
    intro l o h;obtain ⟨off,s,v⟩:=p;simp only[at7] at h;split at h
    ·rename_i hh;rw[ih _ _ h,ah3 om]
    ·cases h
  rw[this _ _ _ hv,ar3,hzl]
 have hsim:=cj5 (el:=el) hs hno hlt hro;refine ⟨.value (.slice (zc ⟨w.heap.size,0,zg⟩) len len),.slice (zc ⟨w.heap.size,0,zg⟩) len len,ρ.put id (.at w.heap.size 0),w.alloc (.cells rout el),?_,.inl rfl,hsim,?_,al6 hno hn,ah9.put _ _ _⟩
 ·unfold execOp;rw[ho];have hb:¬(len*esz>2^24):=om;have e0:∀f:Nat->Value,(zs 0).map f=#[]:=λf=>by simp[zs]
  by_cases h0:len*esz=0
  ·have hfill:Instr.fill (λi=>zc (i*esz,esz)) #[] ((parts.map λ(i,x)=>(i,a.eval x)).toList)=zc rout:=by
    rw[hpt,<- hr,h0,e0]
   simp only[Instr.buildSlice,Sem.run_bind,run_underlying hu,Result.andThen_ok,run_sizeOf hsz,if_neg hb,if_pos h0,Sem.run_pure,h0,e0,hfill];simp[newRow]
  ·have hfill:Instr.fill (λi=>zc (i*esz,esz)) ((zs (len*esz)).map (zr.cells[· % zr.cells.size]!)) ((parts.map λ(i,x)=>(i,a.eval x)).toList)=zc rout:=by
    rw[hpt,<- hr]
   simp only[Instr.buildSlice,Sem.run_bind,run_underlying hu,Result.andThen_ok,run_sizeOf hsz,if_neg hb,if_neg h0,hzr,Sem.run_pure,hfill];simp[newRow]
 ·exact .slice id 0 len esz w.heap.size 0 len rout el (0,0) (by simp[Rho.put]) (by show (w.heap.push _)[w.heap.size]? = _;simp) (by rw[<- hro.1,hol];omega) (zd _)
def aq9 (σ:Store)(n:Nat)(addr v:IV):Option Store :=
 match addr with
 | .ptr id off=>match σ.obj id with
  | some (.cells cs)=>if v.cs.length=n/\off+n<=cs.length/\v.cs.all IV.leaf=true then zc (σ.put id (.cells (be4 cs off v.cs))) else zg
  | some (.row cs)=>if v.cs.length=n/\off+n<=cs.length/\v.cs.all IV.leaf=true then zc (σ.put id (.row (be4 cs off v.cs))) else zg
  | _=>zg
 | _=>zg
theorem gl4 {t:TypeId}{sz id B d off:Nat}{cs:List IV}{v:IV}{ry:Value}{ob:aj2}(hsz:szT P t=zc sz)(hid:ρ id=.at B d)(hor:aq6 ρ w B d cs)(h1:v.cs.length=sz)(h2:off+sz<=cs.length)(h3:v.cs.all IV.leaf=true)
  (vy:VR ρ w v ry) (hs:Sim E ρ w σ) (hob:∀w',OR ρ w' B d ob=aq6 ρ w' B d (be4 cs off v.cs)) :
  ∃w',(Instr.storeAt t (.pointer (zc ⟨B,d+off,zg⟩)) ry).run P w=.ok () w'/\Sim E ρ w' (σ.put id ob)/\∀n,Ext n ρ w ρ w':=by
 obtain ⟨rcs,el,hb,hsz',hvs⟩:=hor;obtain ⟨⟨c1,c2⟩,c3⟩:=by8 vy h3
 have hst:=run_storeCells_at (P:=P) B (d+off) el ry.cells.toList 0 rcs w hb (by simp;omega) c3;simp only[Nat.add_zero] at hst;generalize hnew:(rcs.toList.take (d+off)++ry.cells.toList++rcs.toList.drop (d+off+ry.cells.toList.length)).toArray=new at hst
 have hnsz:new.size=rcs.size:=by
  rw[<- hnew];simp;omega
 have hx:∀n,Ext n ρ w ρ (w.setRow B new):=λn=>ax1 (n:=n) (new:=new) hid hb hnsz
 refine ⟨w.setRow B new,?_,bs2 hs hid hb hnsz ?_,hx⟩
 ·have hne:¬(ry.cells.size≠sz):=by simp;omega
  simp only[Instr.storeAt,Instr.sureAddr,Sem.run_bind,Sem.run_pure,Result.andThen_ok,storeVar,run_sizeOf hsz,if_neg hne,hst]
 ·rw[hob];refine ⟨new,el,setRow_heap w B rcs new el (0,0) hb,?_,?_⟩
  ·rw[hnsz,ah3 om];exact hsz'
  ·intro i hi;rw[ah3 om] at hi
   have:=jl7 (w:=w) (ρ:=ρ) (cs:=cs) (vs:=v.cs) (old:=rcs) (news:=ry.cells.toList) (d:=d) (k:=off) hvs hsz' (by simpa using c1)
    (λi hi=>by simpa [zb,za] using c2 i hi) om i hi
   rw[hnew] at this;exact this.mono (hx 0)
theorem fr9 {t:TypeId}{x y:Operand}{ix iy:IX}{sz n id0:Nat}{σ':Store}(hsz:szT P t=zc sz)(hx:ai9 x=zc ix)(hy:ai9 y=zc iy)(h:aq9 σ sz (ix.ev E fr) (iy.ev E fr)=zc σ')
  (hs:Sim E ρ w σ) (hf:FR ρ w N fr a.tmps):cu3 P E id0 n ρ w a (.store t x y) .undef σ':=by
 intro o ho;have vx:=aa9 hx hs hf;have vy:=aa9 hy hs hf;generalize ix.ev E fr=p at vx h;generalize iy.ev E fr=v at vy h;generalize hrx:a.eval x=rx at vx;generalize hry:a.eval y=ry at vy
 cases vx with
 | ptr id off B d hid=>
  simp only[aq9] at h;obtain ⟨ob,hob,hor⟩:=hs.obj id B d hid;rw[hob] at h
  have fin:∀(cs:List IV) (ob':aj2),aq6 ρ w B d cs->(∀w',OR ρ w' B d ob'=aq6 ρ w' B d (be4 cs off v.cs)) ->
    (if v.cs.length=sz/\off+sz<=cs.length/\v.cs.all IV.leaf=true then zc (σ.put id ob') else zg)=zc σ' ->
    ∃(x:Next) (r:Value) (ρ':Rho) (w':World),(execOp a.eval o).run P w=.ok x w'/\((x=.value r)\/(x=.skip/\r=undef))/\Sim E ρ' w' σ'/\VR ρ' w' .undef r/\Ext n ρ w ρ' w'/\ah9 id0 ρ ρ':=by
   intro cs ob' hor hob' h;split at h
   ·rename_i hh;cases h;obtain ⟨w',hrun,hsim,hx⟩:=gl4 (P:=P) hsz hid hor hh.1 hh.2.1 hh.2.2 vy hs hob';refine ⟨.skip,undef,ρ,w',?_,.inr ⟨rfl,rfl⟩,hsim,.undef _,hx n,ah9.refl _ _⟩;unfold execOp;rw[ho];simp only[hrx,hry,Sem.run_bind,hrun,Result.andThen_ok];rfl
   ·cases h
  cases ob with
  | cells cs=>exact fin cs _ hor (λ_=>rfl) h
  | row cs=>exact fin cs _ hor (λ_=>rfl) h
  | _=>simp at h
 | cx8 id off ad hid=>simp[aq9,hs.dead id hid] at h
 | _=>simp[aq9] at h
end Go.Id
namespace Go.Id
open Go
variable {P:Program} {w w':World} {ρ ρ':Rho} {E:Nat->IV} {σ:Store} {N:Nat} {fr:Frm} {a:Act} {ty:TypeId}
def bx4 (σ:Store)(esz:Nat):IV->Option (Nat×List IV)
 | .aa1|.ac6|.af6=>zc (0,[])
 | .aa3 es=>if es.all (λe=>e.length==esz) then zc (es.length,es.flatten) else zg
 | .slice id off len e=>match σ.obj id with
  | some (.row cs)=>if e=esz/\off+len*esz<=cs.length then zc (len,(cs.drop off).take (len*esz)) else zg
  | _=>zg
 | .ag6 id off len e=>match σ.obj id with
  | some (.row cs)=>if e=esz/\off+len*esz<=cs.length then zc (len,(cs.drop off).take (len*esz)) else zg
  | _=>zg
 | _=>zg
theorem ei8 {es:List (List IV)}{esz:Nat}(h:∀e∈es,e.length=esz)(d:IV):es.flatten.length=es.length*esz /\
  ∀i j,i<es.length->j<esz->es.flatten.getD (i*esz+j) d=(es.getD i []).getD j d:=by
 induction es with
 | nil=>exact ⟨by simp,λi j hi=>by simp at hi⟩
 | cons e es ih=>
  have he:e.length=esz:=h e (by simp);obtain ⟨h1,h2⟩:=ih (λx hx=>h x (by simp[hx]));refine ⟨by simp only[z5,zh,h1,he,List.length_cons,zj];omega,λi j hi hj=>?_⟩;simp only[z5,za,ze]
  cases i with
  | zero=>simp[he,hj]
  | succ i=>
   have:¬((i+1)*esz+j<e.length):=by rw[zj];omega
   rw[if_neg this];have:=h2 i j (by simpa using hi) hj;simp only[za] at this;have e1:(i+1)*esz+j-e.length=i*esz+j:=by rw[zj];omega
   rw[e1,this];simp
theorem gl5 {esz n:Nat}{v:IV}{r:Value}{cells:List IV}(hs:Sim E ρ w σ)(h:bx4 σ esz v=zc (n,cells))(hv:VR ρ w v r) :
  cells.length=n*esz/\(Builtin.lenOf r).run P w=.ok n w/\∃rcs:Array Value,CR ρ w cells rcs/\(Builtin.firstCells esz n r).run P w=.ok rcs w/\(Builtin.firstCells esz n r).run P w.drew=.ok rcs w.drew:=by
 cases hv with
 | aa1=>
  cases h
  exact ⟨by simp,by simp[Builtin.lenOf],#[],⟨rfl,λi hi=>by simp at hi⟩,by simp[Builtin.firstCells],by simp[Builtin.firstCells]⟩
 | ac6 ad=>
  cases h
  exact ⟨by simp,by simp[Builtin.lenOf],#[],⟨rfl,λi hi=>by simp at hi⟩,by simp[Builtin.firstCells,loadCells,loadCellsFrom],by simp[Builtin.firstCells,loadCells,loadCellsFrom]⟩
 | af6 ad cap=>
  cases h
  exact ⟨by simp,by simp[Builtin.lenOf],#[],⟨rfl,λi hi=>by simp at hi⟩,by simp[Builtin.firstCells,loadCells,loadCellsFrom],by simp[Builtin.firstCells,loadCells,loadCellsFrom]⟩
 | ci3=>
  simp only[bx4] at h;cases h
  exact ⟨by simp,by simp[Builtin.lenOf],#[],⟨rfl,λi hi=>by simp at hi⟩,by simp[Builtin.firstCells],by simp[Builtin.firstCells]⟩
 | aa3 es b o cap esz' sp vs hf hsz hc hv hle=>
  simp only[bx4] at h;split at h
  ·rename_i hall;cases h;have hall':∀e∈es,e.length=esz:=λe he=>by have:=zq.1 hall e he;simpa using this
   obtain ⟨f1,f2⟩:=ei8 hall' .undef;refine ⟨f1,by simp[Builtin.lenOf],?_⟩;by_cases h0:es.length*esz=0
   ·refine ⟨#[],⟨by rw[f1,h0];rfl,λi hi=>by rw[f1,h0] at hi;omega⟩,?_,?_⟩<;>simp[Builtin.firstCells,loadCells,loadCellsFrom,h0]
   ·have hpos:0<esz:=by
     rcases zo esz with h|h
     ·subst h;simp at h0
     ·exact h
    have hne:es≠[]:=by intro he;subst he;simp at h0
    have hl:0<es.length:=by cases es with|nil=>exact absurd rfl hne|cons _ _=>simp
    have hee:esz'=esz:=by
     rw[<- hsz 0 hl];exact hall' _ (by rw[za,zu hl];exact zp _)
    subst hee;obtain ⟨_,rfl⟩:=hf hne;have hdiv:∀k,k<es.length*esz'->k/esz'<es.length/\k%esz'<esz':=λk hk=>⟨Nat.div_lt_of_lt_mul (by rw[Nat.mul_comm];exact hk),Nat.mod_lt _ hpos⟩
    have hdm:∀k,k/esz'*esz'+k%esz'=k:=λk=>by rw[Nat.mul_comm];exact Nat.div_add_mod k esz'
    have hcell:∀k,k<es.length*esz'->w.cell? ((⟨b,o,zg⟩:Addr).add k)=zc (vs (k/esz') (k%esz')):=λk hk=>by
     rw[ay8];have:=hc _ (hdiv k hk).1 _ (hdiv k hk).2
     rwa [hdm] at this
    have hl:=run_loadCells (P:=P) (w:=w) ⟨b,o,zg⟩ (es.length*esz') (λk=>vs (k/esz') (k%esz')) hcell;have hl':=run_loadCells (P:=P) (w:=w.drew) ⟨b,o,zg⟩ (es.length*esz') (λk=>vs (k/esz') (k%esz')) hcell;refine ⟨((zl (es.length*esz')).map λk=>vs (k/esz') (k%esz')).toArray,⟨by simp[f1],λk hk=>?_⟩,by simpa [Builtin.firstCells] using hl,by simpa [Builtin.firstCells] using hl'⟩;rw[f1] at hk;have:=hv _ (hdiv k hk).1 _ (hdiv k hk).2;rw[<- f2 _ _ (hdiv k hk).1 (hdiv k hk).2,hdm] at this
    simpa [zb,hk] using this
  ·cases h
 | slice id off len e B d cap rcs el fz hid hb hsz hle=>
  simp only[bx4] at h;obtain ⟨ob,hob,hor⟩:=hs.obj id B d hid;rw[hob] at h
  cases ob with
  | row cs=>
   simp only at h;split at h
   ·rename_i hh;obtain ⟨rfl,h2⟩:=hh;cases h;obtain ⟨rcs',el',hb',hsz',hvs⟩:=hor;rw[hb] at hb';cases hb';have hlen:((cs.drop off).take (n*e)).length=n*e:=by simp;omega
    have hcell:∀k,k<n*e->w.cell? ((⟨B,d+off,zg⟩:Addr).add k)=zc (rcs.getD (d+(off+k)) undef):=λk hk=>by
     rw[ay8];have hlt:d+off+k<rcs.size:=om;simp only[World.cell?,hb,zk,zm,if_false];rw[ae4 _ _ _ om,zf hlt];congr 2;omega
    have hl:=run_loadCells (P:=P) (w:=w) ⟨B,d+off,zg⟩ (n*e) (λk=>rcs.getD (d+(off+k)) undef) hcell;have hl':=run_loadCells (P:=P) (w:=w.drew) ⟨B,d+off,zg⟩ (n*e) (λk=>rcs.getD (d+(off+k)) undef) hcell;refine ⟨hlen,by simp[Builtin.lenOf],((zl (n*e)).map λk=>rcs.getD (d+(off+k)) undef).toArray,⟨by simp;omega,λk hk=>?_⟩,by simpa [Builtin.firstCells] using hl,by simpa [Builtin.firstCells] using hl'⟩;rw[hlen] at hk;rw[getD_take' _ _ _ _ hk,an8];have:=hvs (off+k) om;rw[ae4 _ _ _ (by simpa using hk)]
    simpa using this
   ·cases h
  | _=>simp at h
 | am6 id off e B d ad hid=>
  simp only[bx4] at h;obtain ⟨ob,hob,hor⟩:=hs.obj id B d hid;rw[hob] at h
  cases ob with
  | row cs=>
   simp only at h;split at h
   ·cases h;exact ⟨by simp,by simp[Builtin.lenOf],#[],⟨by simp,λi hi=>by simp at hi⟩,by simp[Builtin.firstCells,loadCells,loadCellsFrom],by simp[Builtin.firstCells,loadCells,loadCellsFrom]⟩
   ·cases h
  | _=>simp at h
 | al5 id off len e cap ad hid hle=>simp[bx4,hs.dead id hid] at h
 | aq3 id off len e ad hid=>simp[bx4,hs.dead id hid] at h
 | ag6 id off len e B d rcs el fz hid hb hsz=>
  simp only[bx4] at h;obtain ⟨ob,hob,hor⟩:=hs.obj id B d hid;rw[hob] at h
  cases ob with
  | row cs=>
   simp only at h;split at h
   ·rename_i hh;obtain ⟨rfl,h2⟩:=hh;cases h;obtain ⟨rcs',el',hb',hsz',hvs⟩:=hor;rw[hb] at hb';cases hb';have hlen:((cs.drop off).take (n*e)).length=n*e:=by simp;omega
    have hcell:∀k,k<n*e->w.cell? ((⟨B,d+off,zg⟩:Addr).add k)=zc (rcs.getD (d+(off+k)) undef):=λk hk=>by
     rw[ay8];have hlt:d+off+k<rcs.size:=om;simp only[World.cell?,hb,zk,zm,if_false];rw[ae4 _ _ _ om,zf hlt];congr 2;omega
    have hl:=run_loadCells (P:=P) (w:=w) ⟨B,d+off,zg⟩ (n*e) (λk=>rcs.getD (d+(off+k)) undef) hcell;have hl':=run_loadCells (P:=P) (w:=w.drew) ⟨B,d+off,zg⟩ (n*e) (λk=>rcs.getD (d+(off+k)) undef) hcell;refine ⟨hlen,by simp[Builtin.lenOf],((zl (n*e)).map λk=>rcs.getD (d+(off+k)) undef).toArray,⟨by simp;omega,λk hk=>?_⟩,by simpa [Builtin.firstCells] using hl,by simpa [Builtin.firstCells] using hl'⟩;rw[hlen] at hk;rw[getD_take' _ _ _ _ hk,an8];have:=hvs (off+k) om;rw[ae4 _ _ _ (by simpa using hk)]
    simpa using this
   ·cases h
  | _=>simp at h
 | _=>simp[bx4] at h
def as2 (σ:Store) (id esz:Nat) (s x:IV):Option (IV×Store):=
 match bx4 σ esz x with
 | none=>zg
 | some (n,xs)=>
  if xs.all IV.leaf=false then zg else
  match s with
  | .aa1=>if n=0 then zc (.aa1,σ) else if n<=2147483648 then zc (.slice id 0 n esz,σ.put id (.row xs)) else zg
  | .ac6=>if n=0 then zc (.ac6,σ) else if n<=2147483648 then zc (.slice id 0 n esz,σ.put id (.row xs)) else zg
  | .aa3 es=>if n=0 then zc (.aa3 es,σ) else zg
  | .slice did off len e=>match σ.obj did with
   | some (.row cs)=>
    if e=esz/\n=0 then zc (s,σ)
    else if e=esz/\off+len*esz=cs.length/\len+n<=2147483648/\(cs.drop off).all IV.leaf=true then zc (.slice id 0 (len+n) esz,(σ.kill did).put id (.row (cs.drop off++xs)))
    else zg
   | _=>zg
  | .ag6 did off len e=>match σ.obj did with
   | some (.row cs)=>
    if e=esz/\n=0 then zc (.slice did off len e,σ)
    else if e=esz/\off+len*esz<=cs.length/\len+n<=2147483648/\n≠0 then zc (.slice id 0 (len+n) esz,σ.put id (.row ((cs.drop off).take (len*esz)++xs)))
    else zg
   | _=>zg
  | _=>zg
theorem gl6 (n:Nat):∀(r c:Nat),c<n->Builtin.growBy n r c<=n+(n+768)/4:=by
 intro r
 induction r with
 | zero=>intro c hc;simp only[Builtin.growBy];omega
 | succ r ih=>
  intro c hc;simp only[Builtin.growBy];rw[if_neg om];by_cases h:c+(c+768)/4<n
  ·exact ih _ h
  ·cases r with
   | zero=>simp only[Builtin.growBy];omega
   | succ r=>simp only[Builtin.growBy];rw[if_pos om];omega
theorem da8 {n old:Nat}(h:old<n):Builtin.nextslicecap n old<=2*n+192:=by
 unfold Builtin.nextslicecap;split
 ·omega
 ·split
  ·omega
  ·have:=gl6 n 4 old h;omega
theorem di8 {t xt ty el:TypeId}{i:TypeInfo}{z:Value}{base:Option Addr}{sLen sCap n:Nat}{rx:Value}{olds news:Array Value}(ht:P.underlying t=zc (.slice el))(hxt:∃u,P.underlying xt=zc u/\∀k,u≠.int k)
  (hi:P.info? el=zc i) (hz:i.zero=zc z) (hb:i.bytes<=4096) (hn:(Builtin.lenOf rx).run P w=.ok n w) (hold:(Builtin.firstCells i.size sLen (.slice base sLen sCap)).run P w.drew=.ok olds w.drew)
  (hnew:(Builtin.firstCells i.size n rx).run P w.drew=.ok news w.drew) (hg:sCap<sLen+n) (hle:sLen+n<=2147483648) :
  ∃cap rest,sLen+n<=cap/\rest.size=(cap-(sLen+n))*z.cells.size /\
  (Builtin.append_ #[t,xt] ty #[.slice base sLen sCap,rx]).run P w=.ok (.slice (zc ⟨w.heap.size,0,zg⟩) (sLen+n) cap) (w.drew.alloc (.cells (olds++news++rest) el)):=by
 obtain ⟨u,hu,hnot⟩:=hxt;have hcapeq:sLen+n<=grownCap w (sLen+n) sCap el:=Nat.le_add_right _ _;refine ⟨grownCap w (sLen+n) sCap el,Builtin.zeroCells z.cells (grownCap w (sLen+n) sCap el-(sLen+n)),hcapeq,by simp[Builtin.zeroCells],?_⟩;have h0:¬(sLen+n<=sCap):=om;have h63:¬(9223372036854775807<((sLen:Int)+(n:Int))):=om;have hnc:=da8 hg
 have h48:¬(281474976710656<Builtin.nextslicecap (sLen+n) sCap*i.bytes):=by
  have:Builtin.nextslicecap (sLen+n) sCap*i.bytes<=(2*(sLen+n)+192)*4096:=Nat.mul_le_mul hnc hb;omega
 have hz0:(match u with|.int _=>true|_=>false)=false:=by cases u<;>first|rfl|exact absurd rfl (hnot _)
 simp[Builtin.append_,run_underlying ht,run_underlying hu,sizeOf,typeInfo,zeroValue,hi,hz,hz0,hn,h0,h63,h48,Question.forced,hold,hnew,newRow,grownCap]
theorem dx6 {n:Nat}(hat:∀i B d,ρ i=.at B d->ρ' i=.at B d\/ρ' i=.dead)(hdead:∀i,ρ i=.dead->ρ' i=.dead)(hno:∀i,i<n->ρ i=.no->ρ' i=.no)
  (himg:∀i B d,ρ' i=.at B d->∃j d',ρ j=.at B d') (hX:ρ'.X=ρ.X):Ext n ρ w ρ' w :=
 ⟨zd _,λ_ _=>rfl,λ_ r _ _ h=>⟨r,h,rfl⟩,λi B d h=>.inl (himg i B d h),hat,hdead,hno,rfl,rfl,⟨rfl,zd _⟩,λ_ L h=>⟨L,h⟩,hX⟩
theorem cc4 {n did B d:Nat}(hd:ρ did=.at B d):Ext n ρ w (ρ.put did .dead) w :=
 dx6 (λi B' d' h=>by rw[ah8];split<;>simp_all) (λi h=>by rw[ah8];split<;>simp_all)
  (λi _ h=>by rw[ah8];split<;>simp_all) (λi B' d' h=>by rw[ah8] at h;split at h;cases h;exact ⟨i,d',h⟩) rfl
theorem dx7 {did B d:Nat}(hs:Sim E ρ w σ)(hd:ρ did=.at B d):Sim E (ρ.put did .dead) w (σ.kill did) where
 inj:=λi j B' d1 d2 hi hj=>by
  rw[ah8] at hi hj;split at hi<;>split at hj<;>first|(cases hi;done)|(cases hj;done)|exact hs.inj i j B' d1 d2 hi hj
 lt:=λi B' d1 hi=>by rw[ah8] at hi;split at hi;cases hi;exact hs.lt i B' d1 hi
 obj:=λi B' d1 hi=>by
  rw[ah8] at hi;split at hi
  ·cases hi
  ·rename_i h;obtain ⟨o,h1,h2⟩:=hs.obj i B' d1 hi;exact ⟨o,by simp[Store.kill,h,h1],h2.mono (cc4 (n:=0) hd) rfl⟩
 dead:=λi hi=>by
  rw[ah8] at hi;simp only[Store.kill];split at hi
  ·rename_i h;simp[h]
  ·rename_i h;simp[h,hs.dead i hi]
 fresh:=λi hi=>by
  have h0:ρ i=.no:=hs.fresh i hi;have:i≠did:=λe=>by subst e;rw[hd] at h0;cases h0
  simp[Rho.put,this,h0]
 av3:=λi hi=>by
  rw[ah8] at hi;split at hi
  ·cases hi
  ·rename_i h;simp[Store.kill,h,hs.av3 i hi]
 env:=λg=>(hs.env g).mono (cc4 (n:=0) hd)
 nx:=λi B' d1 hi=>by rw[ah8] at hi;split at hi;cases hi;exact hs.nx i B' d1 hi
 xlt:=hs.xlt
theorem dl3 {n did id B d off:Nat}(hd:ρ did=.at B d)(hno:ρ id=.no)(hn:n<=id):Ext n ρ w ((ρ.put did .dead).put id (.at B (d+off))) w:=by
 have hne:did≠id:=λe=>by subst e;rw[hd] at hno;cases hno
 refine dx6 (λi B' d' h=>?_) (λi h=>?_) (λi hi h=>?_) (λi B' d' h=>?_) rfl
 ·rw[ah8,ah8];split
  ·rename_i e;subst e;rw[hno] at h;cases h
  ·split
   ·exact .inr rfl
   ·exact .inl h
 ·rw[ah8,ah8];split
  ·rename_i e;subst e;rw[hno] at h;cases h
  ·split
   ·rfl
   ·exact h
 ·rw[ah8,ah8];split
  ·omega
  ·split
   ·rename_i e;subst e;rw[hd] at h;cases h
   ·exact h
 ·rw[ah8,ah8] at h;split at h
  ·cases h;exact ⟨did,d,hd⟩
  ·split at h
   ·cases h
   ·exact ⟨i,d',h⟩
theorem fs1 {did id B d off:Nat}{cs:List IV}(hs:Sim E ρ w σ)(hd:ρ did=.at B d)(hc:σ.obj did=zc (.row cs))(hno:ρ id=.no)(hlt:id<σ.next)(hoff:off<=cs.length) :
  Sim E ((ρ.put did .dead).put id (.at B (d+off))) w ((σ.kill did).put id (.row (cs.drop off))):=by
 have hne:did≠id:=λe=>by subst e;rw[hd] at hno;cases hno
 have hx:Ext 0 ρ w ((ρ.put did .dead).put id (.at B (d+off))) w:=dl3 hd hno (zn _);have val:∀i,((ρ.put did .dead).put id (.at B (d+off))) i=if i=id then .at B (d+off) else if i=did then .dead else ρ i:=λi=>rfl
 refine ⟨λi j B' d1 d2 hi hj=>?_,λi B' d1 hi=>?_,λi B' d1 hi=>?_,λi hi=>?_,λi hi=>?_,λi hi=>?_,λg=>(hs.env g).mono hx,λi B' d1 hi=>?_,hs.xlt⟩
 ·rw[val] at hi hj;split at hi<;>split at hj
  ·rename_i h1 h2;rw[h1,h2]
  ·split at hj
   ·cases hj
   ·rename_i h;cases hi;exact absurd (hs.inj j did B d2 d hj hd) h
  ·split at hi
   ·cases hi
   ·rename_i h _;cases hj;exact absurd (hs.inj i did B d1 d hi hd) (by assumption)
  ·split at hi
   ·cases hi
   ·split at hj
    ·cases hj
    ·exact hs.inj i j B' d1 d2 hi hj
 ·rw[val] at hi;split at hi
  ·cases hi;exact hs.lt did B d hd
  ·split at hi
   ·cases hi
   ·exact hs.lt i B' d1 hi
 ·rw[val] at hi;split at hi
  ·rename_i h;cases hi;refine ⟨.row (cs.drop off),by simp[Store.put,h],?_⟩;obtain ⟨o,h1,h2⟩:=hs.obj did B d hd;rw[hc] at h1;cases h1;obtain ⟨rcs,el,hb,hsz,hv⟩:=h2;refine ⟨rcs,el,hb,by simp;omega,λk hk=>?_⟩;simp at hk;rw[an8];have:=(hv (off+k) om).mono hx
   rwa [show d+off+k=d+(off+k) from by omega]
  ·rename_i h;split at hi
   ·cases hi
   ·rename_i h';obtain ⟨o,h1,h2⟩:=hs.obj i B' d1 hi;exact ⟨o,by simp[Store.put,Store.kill,h,h',h1],h2.mono hx rfl⟩
 ·rw[val] at hi;split at hi
  ·cases hi
  ·rename_i h;split at hi
   ·rename_i h';subst h';simp[Store.put,Store.kill,h]
   ·rename_i h';simp[Store.put,Store.kill,h,h',hs.dead i hi]
 ·have h0:ρ i=.no:=hs.fresh i hi;have h1:i≠did:=λe=>by subst e;rw[hd] at h0;cases h0
  have h2:i≠id:=by have:σ.next<=i:=hi;omega
  rw[val];simp[h1,h2,h0]
 ·rw[val] at hi;split at hi
  ·cases hi
  ·rename_i h;split at hi
   ·cases hi
   ·rename_i h';simp[Store.put,Store.kill,h,h',hs.av3 i hi]
 ·rw[val] at hi;split at hi
  ·cases hi;exact hs.nx did B d hd
  ·split at hi
   ·cases hi
   ·exact hs.nx i B' d1 hi
theorem da9 (old:Array Value)(news:List Value)(p k:Nat)(h:p+news.length<=old.size) :
  (old.toList.take p++news++old.toList.drop (p+news.length)).toArray.getD k undef=if p<=k/\k<p+news.length then news.getD (k-p) undef else old.getD k undef:=by
 have h1:min p old.size=p:=om;simp only[zb,zz,ze,zh,List.length_take,z1,h1,z2,z3,za,zw];by_cases c1:k<p+news.length
 ·by_cases c2:k<p
  ·have:¬(p<=k):=om;simp[c1,c2,this]
  ·have:p<=k:=om;simp[c1,c2,this]
 ·have c2:¬(k<p):=om;simp only[c1,if_false,and_false];congr 2;omega
theorem dx8 {t xt el:TypeId}{i:TypeInfo}{B o sLen sCap n:Nat}{rx:Value}{news old:Array Value}{e:TypeId}(ht:P.underlying t=zc (.slice el))(hxt:∃u,P.underlying xt=zc u/\∀k,u≠.int k)
  (hi:P.info? el=zc i) (hn:(Builtin.lenOf rx).run P w=.ok n w) (hnew:(Builtin.firstCells i.size n rx).run P w=.ok news w) (hg:sLen+n<=sCap)
  (hb:w.heap[B]? = zc (.cells old e (0,0))) (hfit:o+sLen*i.size+news.size<=old.size) (hone:∀v∈news.toList,v.oneCell'=true) :
  (Builtin.append_ #[t,xt] ty #[.slice (zc ⟨B,o,zg⟩) sLen sCap,rx]).run P w=.ok (.slice (zc ⟨B,o,zg⟩) (sLen+n) sCap)
   (w.setRow B (old.toList.take (o+sLen*i.size)++news.toList++old.toList.drop (o+sLen*i.size+news.toList.length)).toArray):=by
 obtain ⟨u,hu,hnot⟩:=hxt;have hst:=run_storeCells_at (P:=P) B (o+sLen*i.size) e news.toList 0 old w hb (by simpa using hfit) hone;simp only[Nat.add_zero] at hst;have hz0:(match u with|.int _=>true|_=>false)=false:=by cases u<;>first|rfl|exact absurd rfl (hnot _)
 simp[Builtin.append_,run_underlying ht,run_underlying hu,sizeOf,typeInfo,hi,hn,hg,hnew,ay8,hst]
theorem al7 {t xt el:TypeId}{i:TypeInfo}{base:Option Addr}{sLen sCap:Nat}{rx:Value}{rcs:Array Value}(ht:P.underlying t=zc (.slice el))(hxt:∃u,P.underlying xt=zc u/\∀k,u≠.int k)
  (hi:P.info? el=zc i) (hn:(Builtin.lenOf rx).run P w=.ok 0 w) (hnew:(Builtin.firstCells i.size 0 rx).run P w=.ok rcs w) (hrz:rcs.size=0) (hle:sLen<=sCap) :
  (Builtin.append_ #[t,xt] ty #[.slice base sLen sCap,rx]).run P w=.ok (.slice base sLen sCap) w:=by
 obtain ⟨u,hu,hnot⟩:=hxt;have hz0:(match u with|.int _=>true|_=>false)=false:=by cases u<;>first|rfl|exact absurd rfl (hnot _)
 have:rcs=#[]:=Array.eq_empty_of_size_eq_zero hrz;subst this;cases base<;>simp[Builtin.append_,run_underlying ht,run_underlying hu,sizeOf,typeInfo,hi,hn,hle,hnew,storeCells]
theorem ix2 {t xt el:TypeId} {i:TypeInfo} {z:Value} {esz id n0:Nat} {s x v:IV} {rs rx:Value} {σ':Store} (ht:P.underlying t=zc (.slice el)) (hxt:∃u,P.underlying xt=zc u/\∀k,u≠.int k)
  (hi:P.info? el=zc i) (hz:i.zero=zc z) (hesz:i.size=esz) (hzs:z.cells.size=esz) (hb:i.bytes<=4096) (h:as2 σ id esz s x=zc (v,σ')) (vs:VR ρ w s rs) (vx:VR ρ w x rx)
  (hs:Sim E ρ w σ) (hno:ρ id=.no) (hlt:id<σ.next) (hn0:n0<=id) :
  ∃r ρ' w',(Builtin.append_ #[t,xt] ty #[rs,rx]).run P w=.ok r w'/\Sim E ρ' w' σ'/\VR ρ' w' v r/\Ext n0 ρ w ρ' w'/\ah9 id ρ ρ':=by
 unfold as2 at h
 cases hsrc:bx4 σ esz x with
 | none=>rw[hsrc] at h;cases h
 | some p =>
  obtain ⟨n,xs⟩:=p;rw[hsrc] at h;simp only at h;split at h
  ·cases h
  rename_i hleaf;have hleaf:xs.all IV.leaf=true:=by simpa using hleaf
  obtain ⟨hxl,hlen,rcs,hcr,hf1,hf2⟩:=gl5 (P:=P) hs hsrc vx;rw[<- hesz] at hf1 hf2;have hrl:rcs.size=n*esz:=by rw[<- hcr.1,hxl]
  have hone:∀v∈rcs.toList,v.oneCell'=true:=λq hq=>by
   obtain ⟨k,hk,rfl⟩:=z0.1 hq;simp at hk;have hk':k<xs.length:=by rw[hcr.1];exact hk
   have hl:(xs.getD k .undef).leaf=true:=by
    have:=zq.1 hleaf xs[k] (zp _)
    simpa [za,hk'] using this
   have:=(cx9 hl (hcr.2 k hk')).1;rw[ae4 _ _ _ hk] at this
   simpa using this
  -- a new row whose first cells are those of 'cells'
  have fresh:∀(base:Option Addr) (sLen sCap:Nat) (olds:Array Value) (ocs:List IV) (ρ1:Rho) (σ1:Store),Sim E ρ1 w σ1->Ext n0 ρ w ρ1 w->ah9 id ρ ρ1->ρ1 id=.no->id<σ1.next->CR ρ1 w ocs olds->CR ρ1 w xs rcs->ocs.length=sLen*esz ->
    (Builtin.firstCells i.size sLen (.slice base sLen sCap)).run P w.drew=.ok olds w.drew->sCap<sLen+n->sLen+n<=2147483648 ->
    ∃r ρ' w',(Builtin.append_ #[t,xt] ty #[.slice base sLen sCap,rx]).run P w=.ok r w'/\Sim E ρ' w' (σ1.put id (.row (ocs++xs)))/\VR ρ' w' (.slice id 0 (sLen+n) esz) r/\Ext n0 ρ w ρ' w'/\ah9 id ρ ρ':=by
   intro base sLen sCap olds ocs ρ1 σ1 hs1 hx1 hnb hno1 hlt1 hco hcx hol hfo hg hle;obtain ⟨cap,rest,hcap,hrest,hrun⟩:=di8 (ty:=ty) (base:=base) ht hxt hi hz hb hlen hfo hf2 hg hle;have hd:=cy1 hs1;have hxd:=ba7 (ρ:=ρ1) (w:=w) 0
   have hor:OR (ρ1.put id (.at w.heap.size 0)) (w.drew.alloc (.cells (olds++rcs++rest) el)) w.heap.size 0 (.row (ocs++xs)):=by
    refine ⟨olds++rcs++rest,el,by show (w.heap.push _)[w.heap.size]? = _;simp,by simp[hco.1,hcx.1],λk hk=>?_⟩;have hxa:Ext 0 ρ1 w (ρ1.put id (.at w.heap.size 0)) (w.drew.alloc (.cells (olds++rcs++rest) el)):=hxd.trans (al6 (n:=0) hno1 (zn _)) (zd _);rw[Nat.zero_add];simp only[zh] at hk;by_cases hk1:k<ocs.length
    ·have:=(hco.2 k hk1).mono hxa;have e1:(ocs++xs).getD k .undef=ocs.getD k .undef:=by simp[za,ze,hk1]
     have hk2:k<olds.size:=by rw[<- hco.1];exact hk1
     have e2:(olds++rcs++rest).getD k undef=olds.getD k undef:=by
      simp[zb,zy,hk2,Nat.lt_add_right _ hk2]
     rw[e1,e2];exact this
    ·have hk3:k-ocs.length<xs.length:=om;have:=(hcx.2 (k-ocs.length) hk3).mono hxa;have e1:(ocs++xs).getD k .undef=xs.getD (k-ocs.length) .undef:=by simp[za,ze,hk1]
     have hk2:¬(k<olds.size):=by rw[<- hco.1];exact hk1
     have hk4:k<olds.size+rcs.size:=by rw[<- hco.1,<- hcx.1];omega
     have e2:(olds++rcs++rest).getD k undef=rcs.getD (k-ocs.length) undef:=by
      have hk5:k-olds.size<rcs.size:=by rw[<- hco.1];omega
      simp[zb,zy,hk2,hk5,hco.1]
     rw[e1,e2];exact this
   refine ⟨_,ρ1.put id (.at w.heap.size 0),_,hrun,bz1 (w:=w.drew) (d:=0) hd hno1 hlt1 hor,?_,hx1.trans ((ba7 n0).trans (al6 (w:=w.drew) hno1 hn0) (zd _)) (zd _),hnb.trans (ah9.put _ _ _)⟩;refine .slice id 0 (sLen+n) esz w.heap.size 0 cap (olds++rcs++rest) el (0,0) (by simp[Rho.put]) (by show (w.heap.push _)[w.heap.size]? = _;simp) ?_ hcap;have h1:olds.size=sLen*esz:=by rw[<- hco.1,hol]
   have h2:(cap-(sLen+n))*esz+(sLen+n)*esz=cap*esz:=by rw[<- zj];congr 1;omega
   rw[zj] at h2;simp only[Array.size_append,hrest,hzs,h1,hrl];omega
  cases vs with
  | aa1=>
   simp only at h;split at h
   ·rename_i h0;cases h;subst h0;exact ⟨_,ρ,w,al7 ht hxt hi hlen hf1 (by simpa using hrl) (zd _),hs,.aa1,Ext.refl _ _ _,ah9.refl _ _⟩
   ·split at h
    ·rename_i h0 h1;cases h;have:=fresh zg 0 0 #[] [] ρ σ hs (Ext.refl _ _ _) (ah9.refl _ _) hno hlt ⟨rfl,λi hi=>by simp at hi⟩ hcr (by simp) (by simp[Builtin.firstCells]) om om
     simpa using this
    ·cases h
  | ac6 ad=>
   simp only at h;split at h
   ·rename_i h0;cases h;subst h0;exact ⟨_,ρ,w,al7 ht hxt hi hlen hf1 (by simpa using hrl) (zd _),hs,.ac6 ad,Ext.refl _ _ _,ah9.refl _ _⟩
   ·split at h
    ·rename_i h0 h1;cases h;have:=fresh (zc ad) 0 0 #[] [] ρ σ hs (Ext.refl _ _ _) (ah9.refl _ _) hno hlt ⟨rfl,λi hi=>by simp at hi⟩ hcr (by simp) (by simp[Builtin.firstCells,loadCells,loadCellsFrom]) om om
     simpa using this
    ·cases h
  | ci3=>
   simp only at h;split at h
   ·rename_i h0;cases h;subst h0;exact ⟨_,ρ,w,al7 ht hxt hi hlen hf1 (by simpa using hrl) (zd _),hs,.ci3,Ext.refl _ _ _,ah9.refl _ _⟩
   ·cases h
  | aa3 es b o cap esz' sp vs hf hsz hc hv hle=>
   simp only at h;split at h
   ·rename_i h0;cases h;subst h0;exact ⟨_,ρ,w,al7 ht hxt hi hlen hf1 (by simpa using hrl) hle,hs,.aa3 es b o cap esz' sp vs hf hsz hc hv hle,Ext.refl _ _ _,ah9.refl _ _⟩
   ·cases h
  | slice did off len e B d cap rc el' fz hid hbk hsz hle=>
   simp only at h;obtain ⟨ob,hob,hor⟩:=hs.obj did B d hid;rw[hob] at h
   cases ob with
   | row cs=>
    simp only at h;split at h
    ·rename_i h0;obtain ⟨rfl,h0⟩:=h0;cases h;subst h0;exact ⟨_,ρ,w,al7 ht hxt hi hlen hf1 (by simpa using hrl) hle,hs,.slice did off len e B d cap rc el' fz hid hbk hsz hle,Ext.refl _ _ _,ah9.refl _ _⟩
    ·split at h
     ·rename_i h0 h1;obtain ⟨rfl,h2,h3,h4⟩:=h1
      have hn1:0<n:=by
       rcases zo n with hh|hh
       ·exact absurd ⟨rfl,hh⟩ h0
       ·exact hh
      cases h;obtain ⟨rc',el2,hb2,hsz2,hvs⟩:=hor;rw[hbk] at hb2;cases hb2;by_cases hfit:len+n<=cap
      ·-- in place
       have hcap:(len+n)*e<=cap*e:=Nat.mul_le_mul_right e hfit;rw[zj] at hcap;have hin:=dx8 (ty:=ty) (B:=B) (o:=d+off) (sCap:=cap) ht hxt hi hlen hf1 hfit hbk (by rw[hrl,hesz];omega) hone;rw[hesz] at hin;generalize hnew:(rc.toList.take (d+off+len*e)++rcs.toList++rc.toList.drop (d+off+len*e+rcs.toList.length)).toArray=new at hin;have hnsz:new.size=rc.size:=by rw[<- hnew];simp;omega
       have hx:=ax1 (n:=0) (new:=new) hid hbk hnsz
       have hsim:Sim E ρ (w.setRow B new) (σ.put did (.row (cs++xs))):=by
        refine bs2 hs hid hbk hnsz ⟨new,el',setRow_heap w B rc new el' (0,0) hbk,?_,λk hk=>?_⟩
        ·rw[hnsz];simp[hxl];omega
        ·simp only[zh] at hk;by_cases hk1:k<cs.length
         ·have e1:(cs++xs).getD k .undef=cs.getD k .undef:=by simp[za,ze,hk1]
          have e2:new.getD (d+k) undef=rc.getD (d+k) undef:=by
           rw[<- hnew,da9 _ _ _ _ (by simp;omega),if_neg om]
          rw[e1,e2];exact (hvs k hk1).mono hx
         ·have e1:(cs++xs).getD k .undef=xs.getD (k-cs.length) .undef:=by simp[za,ze,hk1]
          have e2:new.getD (d+k) undef=rcs.getD (k-cs.length) undef:=by
           rw[<- hnew,da9 _ _ _ _ (by simp;omega),if_pos (by simp;omega),show d+k-(d+off+len*e)=k-cs.length from by omega];simp[zb,za]
          rw[e1,e2];exact (hcr.2 (k-cs.length) om).mono hx
       have hsim2:=fs1 (off:=off) (cs:=cs++xs) hsim hid (by simp[Store.put]) hno hlt (by rw[zh];omega);have hxr:=dl3 (n:=n0) (w:=w.setRow B new) (off:=off) hid hno hn0;refine ⟨_,_,_,hin,?_,?_,(ax1 (n:=n0) (new:=new) hid hbk hnsz).trans hxr (zd _),(ah9.kill hid _).trans (ah9.put _ _ _)⟩
       ·have e1:((σ.put did (.row (cs++xs))).kill did).put id (.row ((cs++xs).drop off))=(σ.kill did).put id (.row (cs.drop off++xs)):=by
         rw[List.drop_append_of_le_length om];unfold Store.put Store.kill;congr 1;funext k;simp only;split
         ·rfl
         ·split
          ·rfl
          ·rename_i h5;simp[h5]
        rw[<- e1];exact hsim2
       ·rw[show d+off=d+off+0 from rfl];exact .slice id 0 (len+n) e B (d+off) cap new el' (0,0) (by simp[Rho.put]) (setRow_heap w B rc new el' (0,0) hbk) (by rw[hnsz];omega) hfit
      ·-- a new row
       have hk:=dx7 hs hid;have hkx:=cc4 (n:=n0) (w:=w) hid;have hne:id≠did:=λe=>by subst e;rw[hid] at hno;cases hno
       have hco:CR (ρ.put did .dead) w (cs.drop off) ((zl (len*e)).map λk=>rc.getD (d+(off+k)) undef).toArray:=by
        refine ⟨by simp;omega,λk hk'=>?_⟩;simp at hk';rw[an8,ae4 _ _ _ (by simp;omega)];have:=(hvs (off+k) om).mono hkx
        simpa using this
       have hfo:(Builtin.firstCells i.size len (.slice (zc ⟨B,d+off,zg⟩) len cap)).run P w.drew=.ok ((zl (len*e)).map λk=>rc.getD (d+(off+k)) undef).toArray w.drew:=by
        have hcell:∀k,k<len*e->w.drew.cell? ((⟨B,d+off,zg⟩:Addr).add k)=zc (rc.getD (d+(off+k)) undef):=λk hk=>by
         rw[ay8];show w.cell? _=_;have hlt:d+off+k<rc.size:=om;simp only[World.cell?,hbk,zk,zm,if_false];rw[ae4 _ _ _ om,zf hlt];congr 2;omega
        have hl:=run_loadCells (P:=P) (w:=w.drew) ⟨B,d+off,zg⟩ (len*e) (λk=>rc.getD (d+(off+k)) undef) hcell;rw[hesz]
        simpa [Builtin.firstCells] using hl
       exact fresh (zc ⟨B,d+off,zg⟩) len cap _ _ _ _ hk hkx (ah9.kill hid _) (by simp[Rho.put,hne,hno]) hlt hco ⟨hcr.1,λk hk'=>(hcr.2 k hk').mono hkx⟩ (by simp;omega) hfo om h3
     ·cases h
   | _=>simp at h
  | am6 did off e B d ad hid=>
   simp only at h;obtain ⟨ob,hob,hor⟩:=hs.obj did B d hid;rw[hob] at h
   cases ob with
   | row cs=>
    simp only at h;split at h
    ·rename_i h0;obtain ⟨rfl,h0⟩:=h0;cases h;subst h0;exact ⟨_,ρ,w,al7 ht hxt hi hlen hf1 (by simpa using hrl) (zd _),hs,.am6 did off e B d ad hid,Ext.refl _ _ _,ah9.refl _ _⟩
    ·split at h
     ·rename_i h0 h1;obtain ⟨rfl,h2,h3,h4⟩:=h1
      have hn1:0<n:=by
       rcases zo n with hh|hh
       ·exact absurd ⟨rfl,hh⟩ h0
       ·exact hh
      cases h;have hk:=dx7 hs hid;have hkx:=cc4 (n:=n0) (w:=w) hid;have hne:id≠did:=λe=>by subst e;rw[hid] at hno;cases hno
      have hd0:cs.drop off=[]:=List.drop_of_length_le om;rw[hd0];have:=fresh (zc ad) 0 0 #[] [] _ _ hk hkx (ah9.kill hid _) (by simp[Rho.put,hne,hno]) hlt ⟨rfl,λi hi=>by simp at hi⟩ ⟨hcr.1,λk hk'=>(hcr.2 k hk').mono hkx⟩ (by simp) (by simp[Builtin.firstCells,loadCells,loadCellsFrom]) om om
      simpa using this
     ·cases h
   | _=>simp at h
  | al5 did off len e cap ad hid hle=>simp[hs.dead did hid] at h
  | aq3 did off len e ad hid=>simp[hs.dead did hid] at h
  | ag6 did off len e B d rc el' fz hid hbk hsz=>
   simp only at h;obtain ⟨ob,hob,hor⟩:=hs.obj did B d hid;rw[hob] at h
   cases ob with
   | row cs=>
    simp only at h;split at h
    ·rename_i h0;obtain ⟨rfl,h0⟩:=h0;cases h;subst h0;exact ⟨_,ρ,w,al7 ht hxt hi hlen hf1 (by simpa using hrl) (zd _),hs,.slice did off len e B d len rc el' fz hid hbk hsz (zd _),Ext.refl _ _ _,ah9.refl _ _⟩
    ·split at h
     ·rename_i h0 h1;obtain ⟨rfl,h2,h3,h4⟩:=h1;cases h;obtain ⟨rc',el2,hb2,hsz2,hvs⟩:=hor;rw[hbk] at hb2;cases hb2
      have hco:CR ρ w ((cs.drop off).take (len*e)) ((zl (len*e)).map λk=>rc.getD (d+(off+k)) undef).toArray:=by
       refine ⟨by simp;omega,λk hk'=>?_⟩;simp at hk';rw[getD_take' _ _ _ _ om,an8,ae4 _ _ _ (by simp;omega)];have:=hvs (off+k) om
       simpa using this
      have hfo:(Builtin.firstCells i.size len (.slice (zc ⟨B,d+off,zg⟩) len len)).run P w.drew=.ok ((zl (len*e)).map λk=>rc.getD (d+(off+k)) undef).toArray w.drew:=by
       have hcell:∀k,k<len*e->w.drew.cell? ((⟨B,d+off,zg⟩:Addr).add k)=zc (rc.getD (d+(off+k)) undef):=λk hk=>by
        rw[ay8];show w.cell? _=_;have hlt:d+off+k<rc.size:=om;simp only[World.cell?,hbk,zk,zm,if_false];rw[ae4 _ _ _ om,zf hlt];congr 2;omega
       have hl:=run_loadCells (P:=P) (w:=w.drew) ⟨B,d+off,zg⟩ (len*e) (λk=>rc.getD (d+(off+k)) undef) hcell;rw[hesz]
       simpa [Builtin.firstCells] using hl
      exact fresh (zc ⟨B,d+off,zg⟩) len len _ _ ρ σ hs (Ext.refl _ _ _) (ah9.refl _ _) hno hlt hco hcr (by simp;omega) hfo om h3
     ·cases h
   | _=>simp at h
  | _=>simp at h
end Go.Id
namespace Go.Id
open Go
variable {P:Program} {w w':World} {ρ ρ':Rho} {E:Nat->IV} {σ:Store} {N:Nat} {fr:Frm} {a:Act}
theorem cc5 (w:World)(r b:Nat)(o:Obj)(h:b≠r):(w.putObj r o).heap[b]? = w.heap[b]?:=World.putObj_heap_other h
theorem bh6 {n id B d:Nat}{old o:Obj}(hid:ρ id=.at B d)(hb:w.heap[B]? = zc old)(hc:∀rcs el fz,old≠.cells rcs el fz)(hl:∀L,old≠.loop L):Ext n ρ w ρ (w.putObj B o) where
 size:=by rw[World.putObj_size];exact zd _
 keep:=λb hfb=>cc5 w B b o (λh=>by subst h;exact hfb.2 id d hid)
 shape:=λb rcs el' fz' hb'=>by
  by_cases h:b=B
  ·subst h;rw[hb] at hb';exact absurd (zc.inj hb') (hc _ _ _)
  ·exact ⟨rcs,by rw[cc5 w B b o h];exact hb',rfl⟩
 img:=λi B' d' h=>.inl ⟨i,d',h⟩
 at_:=λ_ _ _ h=>.inl h
 dead:=λ_ h=>h
 no:=λ_ _ h=>h
 output:=rfl
 os:=rfl
 tape:=⟨rfl,zd _⟩
 loops:=λl L h=>by
  by_cases h':l=B
  ·subst h';rw[hb] at h;exact absurd (zc.inj h) (hl L)
  ·exact ⟨L,by rw[cc5 w B l o h'];exact h⟩
 X:=rfl
theorem cj6 {id B d:Nat}{old ro:Obj}{o:aj2}(hs:Sim E ρ w σ)(hid:ρ id=.at B d)(hb:w.heap[B]? = zc old)(hc:∀rcs el fz,old≠.cells rcs el fz)(hl:∀L,old≠.loop L)
  (ho:OR ρ (w.putObj B ro) B d o):Sim E ρ (w.putObj B ro) (σ.put id o) where
 inj:=hs.inj
 lt:=λi B' d' h=>by rw[World.putObj_size];exact hs.lt i B' d' h
 obj:=λi B' d' hi=>by
  simp only[Store.put];by_cases h:i=id
  ·subst h;rw[hid] at hi;cases hi;exact ⟨o,by simp,ho⟩
  ·obtain ⟨o',h1,h2⟩:=hs.obj i B' d' hi;have hne:B'≠B:=λe=>h (hs.inj i id B d' d (by rw[hi,e]) hid)
   exact ⟨o',by simp[h,h1],h2.mono (bh6 (n:=0) hid hb hc hl) (cc5 w B B' ro hne)⟩
 dead:=λi hi=>by
  have:i≠id:=λe=>by subst e;rw[hid] at hi;cases hi
  simp[Store.put,this,hs.dead i hi]
 fresh:=λi hi=>hs.fresh i hi
 av3:=λi hi=>by
  have:i≠id:=λe=>by subst e;rw[hid] at hi;cases hi
  simp[Store.put,this,hs.av3 i hi]
 env:=λg=>(hs.env g).mono (bh6 (n:=0) hid hb hc hl)
 nx:=hs.nx
 xlt:=λb hX=>by rw[World.putObj_size];exact hs.xlt b hX
theorem fs2 {t:TypeId}{id n:Nat}(hs:Sim E ρ w σ)(hno:ρ id=.no)(hlt:id<σ.next)(hn:n<=id) :
  cu3 P E id n ρ w a (.makeMap t zg) (.map id) (σ.put id (.map [])):=by
 intro o ho;refine ⟨.value (.map (zc w.heap.size)),.map (zc w.heap.size),ρ.put id (.at w.heap.size 0),w.alloc (.map #[] 0),?_,.inl rfl,bz1 hs hno hlt ?_,.map id w.heap.size 0 (by simp[Rho.put]),al6 hno hn,ah9.put _ _ _⟩
 ·unfold execOp;rw[ho];simp[Instr.makeMap]
 ·exact ⟨#[],0,by show (w.heap.push _)[w.heap.size]? = _;simp,rfl,rfl,λi hi=>by simp at hi,λi hi=>by simp at hi,λi j _ hj=>by simp at hj⟩
def eg6 (tag:Nat)(k v:IV):List (IV×IV)->Option (List (IV×IV))
 | []=>match kOK tag k with
  | true=>zc [(k,v)]
  | false=>zg
 | e::es=>match ao8 tag k e.1 with
  | some true=>zc ((k,v)::es)
  | some false=>(eg6 tag k v es).map (e::·)
  | none=>zg
def ao9 (σ:Store)(tag:Nat)(x k v:IV):Option Store :=
 match x with
 | .map id=>match σ.obj id with
  | some (.map es)=>(eg6 tag k v es).map λes'=>σ.put id (.map es')
  | _=>zg
 | _=>zg
theorem ix3 {tag:Nat}{k v:IV}{es es':List (IV×IV)}(h:eg6 tag k v es=zc es'):kOK tag k=true:=by
 cases es with
 | nil=>
  simp only[eg6] at h;split at h
  ·assumption
  ·cases h
 | cons e es=>
  simp only[eg6] at h
  cases hq:ao8 tag k e.1 with
  | none=>rw[hq] at h;cases h
  | some b=>exact ip3 hq
theorem ix4 {tag:Nat}{k v:IV}:∀(es es':List (IV×IV)),eg6 tag k v es=zc es'->∃q:Option Nat,(q=zg->∀e∈es,ao8 tag k e.1=zc false)/\(∀j,q=zc j->j<es.length/\ao8 tag k (es.getD j (.undef,.undef)).1=zc true/\∀i,i<j->ao8 tag k (es.getD i (.undef,.undef)).1=zc false) /\
  es'=(match q with|none=>es++[(k,v)]|some j=>es.set j (k,v)):=by
 intro es
 induction es with
 | nil=>
  intro es' h;refine ⟨zg,(λ_ e he=>by cases he),(λj hj=>by cases hj),?_⟩;simp only[eg6] at h;split at h<;>cases h
  rfl
 | cons e es ih=>
  intro es' h;simp only[eg6] at h
  cases hq:ao8 tag k e.1 with
  | none=>rw[hq] at h;cases h
  | some b=>
   rw[hq] at h
   cases b with
   | true=>cases h;exact ⟨zc 0,(λh=>by cases h),(λj hj=>by cases hj;exact ⟨by simp,by simpa using hq,λi hi=>absurd hi (Nat.not_lt_zero _)⟩),rfl⟩
   | false=>
    obtain ⟨es2,h3,h4⟩:=map_some h;subst h4;obtain ⟨q,h1,h2,h3⟩:=ih es2 h3;refine ⟨q.map (·+1),λh=>?_,λj hj=>?_,?_⟩
    ·cases q with
     | none=>intro x hx;rcases List.mem_cons.1 hx with rfl|hx;exact hq;exact h1 rfl x hx
     | some j=>cases h
    ·cases q with
     | none=>cases hj
     | some j0=>
      cases hj;obtain ⟨g1,g2,g3⟩:=h2 j0 rfl;refine ⟨by simpa using g1,by simpa using g2,λi hi=>?_⟩;have hi:i<j0+1:=hi
      cases i with
      | zero=>simpa using hq
      | succ i=>have:=g3 i om;simpa using this
    ·rw[h3];cases q<;>simp
theorem gl7 {tag:Nat}{k e:IV}{rk re:Value}(m:Nat)(h:ak4 tag k e=zc true)(hk:VR ρ w k rk)(he:VR ρ w e re):re=rk/\Instr.sameBits m re rk=true:=by
 unfold ak4 at h;split at h
 ·cases hk;cases he;simp at h;subst h;exact ⟨rfl,by simp[Instr.sameBits]⟩
 ·cases hk;cases he;split at h
  ·rename_i hkk;simp at h;subst h;subst hkk;exact ⟨rfl,by simp[Instr.sameBits]⟩
  ·cases h
 ·cases hk;cases he;simp at h;subst h;exact ⟨rfl,by simp[Instr.sameBits,ip4]⟩
 ·cases h
theorem hu6 {tag:Nat}{k e:IV}{rk re:Value}(h:ao8 tag k e=zc true)(hk:VR ρ w k rk)(he:VR ρ w e re):re=rk/\Instr.sameBits 10000 re rk=true:=by
 by_cases h3:tag<3
 ·rw[cc1 h3] at h;exact gl7 _ h hk he
 ·obtain ⟨n,rfl⟩:∃n,tag=n+3:=⟨tag-3,om⟩;obtain ⟨xs,ys,rfl,rfl,h1⟩:=bo4 h;obtain ⟨ks,as,bs,l1,l2,l3,rfl,rfl,hb⟩:=br9 h1;have hab:as=bs:=by simpa using hb
  subst hab;generalize hxs:(ks.zip as).map (λp=>IV.int p.1 p.2)=xs at hk he
  have hint:∀x∈xs,∃k n,x=.int k n:=by
   subst hxs;intro x hx;obtain ⟨p,_,rfl⟩:=List.mem_map.1 hx;exact ⟨_,_,rfl⟩
  cases hk with
  | agg _ rxs hx vx=>
   cases he with
   | agg _ rys hy vy=>
    have hall:∀i,i<rxs.size->∃k n,rxs[i]? = zc (.int k n)/\rys[i]? = zc (.int k n):=by
     intro i hi;have hi2:i<xs.length:=om;obtain ⟨k,n,hkn⟩:=hint (xs.getD i .undef) (by rw[za,zu hi2];exact zp hi2);have v1:=vx i hi2;have v2:=vy i hi2;rw[hkn] at v1 v2
     have e1:rxs.getD i undef=.int k n:=by
      generalize rxs.getD i undef=z at v1;cases v1;rfl
     have e2:rys.getD i undef=.int k n:=by
      generalize rys.getD i undef=z at v2;cases v2;rfl
     refine ⟨k,n,?_,?_⟩
     ·rw[ae4 _ _ _ hi] at e1;rw[zf hi,e1]
     ·rw[ae4 _ _ _ om] at e2;rw[zf om,e2]
    have heq:rys=rxs:=by
     apply Array.ext_getElem?;intro i;by_cases hi:i<rxs.size
     ·obtain ⟨k,n,h1,h2⟩:=hall i hi;rw[h1,h2]
     ·rw[zv om,zv om]
    subst heq;refine ⟨rfl,?_⟩;rw[show (10000:Nat)=9999+1 from rfl,Instr.sameBits];simp only[beq_self_eq_true,Bool.true_and,zq];intro p hp;obtain ⟨i,hi,hpi⟩:=z0.1 hp;simp only[List.length_zip,z1,Nat.min_self] at hi;obtain ⟨k,n,h1,_⟩:=hall i hi;have e1:rys[i]=.int k n:=by rw[zf hi] at h1;exact zc.inj h1
    have:p=(rys[i],rys[i]):=by rw[<- hpi];simp
    rw[this,e1];simp[Instr.sameBits]
theorem db1 {t kt et:TypeId}{tag:Nat}{x k v:Operand}{ix ik iv:IX}{n id0:Nat}{σ':Store}(hu:P.underlying t=zc (.map kt et))(ht:ho9 P kt=zc tag)
  (hx:ai9 x=zc ix) (hk:ai9 k=zc ik) (hv:ai9 v=zc iv) (h:ao9 σ tag (ix.ev E fr) (ik.ev E fr) (iv.ev E fr)=zc σ')
  (hs:Sim E ρ w σ) (hf:FR ρ w N fr a.tmps):cu3 P E id0 n ρ w a (.mapUpdate t x k v) .undef σ':=by
 intro o ho;have vx:=aa9 hx hs hf;have vk:=aa9 hk hs hf;have vv:=aa9 hv hs hf;generalize ix.ev E fr=ax at vx h;generalize ik.ev E fr=ak at vk h;generalize iv.ev E fr=av at vv h;generalize hrx:a.eval x=rx at vx;generalize hrk:a.eval k=rk at vk;generalize hrv:a.eval v=rv at vv
 cases vx with
 | map id B dd hid=>
  simp only[ao9] at h;obtain ⟨ob,hob,hor⟩:=hs.obj id B dd hid;rw[hob] at h
  cases ob with
  | map es=>
   simp only at h;obtain ⟨es',hes',rfl⟩:=map_some h;obtain ⟨mes,clock,g1,g0,g2,g3,g4,g5⟩:=hor;have toL:∀(i:Nat),mes.toList.getD i default=mes.getD i default:=λi=>by simp[za,zb]
   have hE:EsR ρ w es mes.toList:=⟨by simpa using g2,λi hi=>by rw[toL];exact g3 i hi⟩;obtain ⟨r',q1,q2,h2⟩:=ix4 es es' hes';have hck:∀b,(Instr.checkKey b 10000 kt rk).run P w=.ok () w:=λb=>cu1 ht (ix3 hes') vk
   have h1:=dx5 ht vk es mes.toList hE r' q1 q2;have hg:(getObj B).run P w=.ok (.map mes clock) w:=by simp[getObj,Sem.run,g1]
   have hset:∀o,(setObj B o).run P w=.ok () (w.putObj B o):=λo=>by simp[setObj,Sem.run,g1,World.putObj]
   have hlt:=hs.lt id B dd hid;have nc:∀(rcs:Array Value) (el:TypeId) (fz:Nat×Nat),Obj.map mes clock≠.cells rcs el fz:=λ_ _ _ h=>by cases h
   have nl:∀L,Obj.map mes clock≠.loop L:=λ_ h=>by cases h
   have hx:∀(n:Nat) (o:Obj),Ext n ρ w ρ (w.putObj B o):=λn o=>bh6 hid g1 nc nl
   have fin:∀(mes':Array MapEntry) (clock':Nat),(Instr.mapUpdate t (.map (zc B)) rk rv).run P w=.ok () (w.putObj B (.map mes' clock'))->es'.length=mes'.size ->
     (∀i,i<es'.length->VR ρ w (es'.getD i (.undef,.undef)).1 (mes'.getD i default).key/\VR ρ w (es'.getD i (.undef,.undef)).2 (mes'.getD i default).val) ->
     (∀i,i<mes'.size->(mes'.getD i default).born<clock')->(∀i j,i<j->j<mes'.size->(mes'.getD i default).born≠(mes'.getD j default).born) ->
     ∃(x:Next) (r:Value) (ρ':Rho) (w':World),(execOp a.eval o).run P w=.ok x w'/\((x=.value r)\/(x=.skip/\r=undef))/\Sim E ρ' w' (σ.put id (.map es'))/\VR ρ' w' .undef r/\Ext n ρ w ρ' w'/\ah9 id0 ρ ρ':=by
    intro mes' clock' hrun hl hvs hb1 hb2;refine ⟨.skip,undef,ρ,w.putObj B (.map mes' clock'),?_,.inr ⟨rfl,rfl⟩,cj6 hs hid g1 nc nl ?_,.undef _,hx n _,ah9.refl _ _⟩
    ·unfold execOp;rw[ho];simp only[hrx,hrk,hrv,Sem.run_bind,hrun,Result.andThen_ok];rfl
    ·exact ⟨mes',clock',World.putObj_heap_same hlt,g0,hl,λi hi=>⟨(hvs i hi).1.mono (hx 0 _),(hvs i hi).2.mono (hx 0 _)⟩,hb1,hb2⟩
   cases r' with
   | none=>
    simp only at h2;subst h2;refine fin (mes.push { key:=rk,val:=rv,born:=clock }) (clock+1) ?_ (by simp[g2]) ?_ ?_ ?_
    ·simp[Instr.mapUpdate,run_underlying hu,hg,hck,h1,hset]
    ·intro i hi;by_cases hi2:i<es.length
     ·have e1:(es++[(ak,av)]).getD i (.undef,.undef)=es.getD i (.undef,.undef):=by simp[za,ze,hi2]
      have e2:(mes.push { key:=rk,val:=rv,born:=clock }).getD i default=mes.getD i default:=by
       have:i<mes.size:=om;have h3:i≠mes.size:=om;simp[zb,zi,h3]
      rw[e1,e2];exact g3 i hi2
     ·have hie:i=es.length:=by simp at hi;omega
      subst hie;have e1:(es++[(ak,av)]).getD es.length (.undef,.undef)=(ak,av):=by simp[za]
      have e2:(mes.push { key:=rk,val:=rv,born:=clock }).getD es.length default={ key:=rk,val:=rv,born:=clock }:=by
       rw[g2];simp[zb]
      rw[e1,e2];exact ⟨vk,vv⟩
    ·intro i hi;by_cases hi2:i<mes.size
     ·have e2:(mes.push { key:=rk,val:=rv,born:=clock }).getD i default=mes.getD i default:=by
       have h3:i≠mes.size:=om;simp[zb,zi,h3]
      rw[e2];have:=g4 i hi2;omega
     ·have hie:i=mes.size:=by simp at hi;omega
      subst hie;simp[zb]
    ·intro i j hij hj;have hi2:i<mes.size:=by simp at hj;omega
     have e2:(mes.push { key:=rk,val:=rv,born:=clock }).getD i default=mes.getD i default:=by
      have h3:i≠mes.size:=om;simp[zb,zi,h3]
     rw[e2];by_cases hj2:j<mes.size
     ·have e3:(mes.push { key:=rk,val:=rv,born:=clock }).getD j default=mes.getD j default:=by
       have h3:j≠mes.size:=om;simp[zb,zi,h3]
      rw[e3];exact g5 i j hij hj2
     ·have hje:j=mes.size:=by simp at hj;omega
      subst hje;have e3:(mes.push { key:=rk,val:=rv,born:=clock }).getD mes.size default={ key:=rk,val:=rv,born:=clock }:=by simp[zb]
      rw[e3];have:=g4 i hi2;show (mes.getD i default).born≠clock;omega
   | some j=>
    obtain ⟨q2,q4,_⟩:=q2 j rfl;simp only at h2;subst h2;obtain ⟨k1,k2⟩:=hu6 q4 vk (g3 j q2).1;have hjm:j<mes.size:=om
    have hgd:∀(i:Nat),(mes.modify j λe=>{ e with key:=rk,val:=rv }).getD i default=if i=j then { mes.getD j default with key:=rk,val:=rv } else mes.getD i default:=by
     intro i;by_cases hij:i=j
     ·subst hij;simp[zb,Array.getElem_modify,hjm]
     ·have:¬j=i:=λe=>hij e.symm
      simp[zb,zx,hij,this]
    have hborn:∀(i:Nat),((mes.modify j λe=>{ e with key:=rk,val:=rv }).getD i default).born=(mes.getD i default).born:=by
     intro i;rw[hgd i];by_cases hij:i=j
     ·subst hij;rw[if_pos rfl]
     ·rw[if_neg hij]
    refine fin (mes.modify j λe=>{ e with key:=rk,val:=rv }) clock ?_ (by simp[g2]) ?_ ?_ ?_
    ·have hkk:((mes[j]?).map (·.key)).getD rk=rk:=by
      have:(mes[j]?).map (·.key)=zc (mes.getD j default).key:=by simp[zb,hjm]
      rw[this,k1];rfl
     have hk3:Instr.sameBits 10000 rk rk=true:=by rw[k1] at k2;exact k2
     simp[Instr.mapUpdate,run_underlying hu,hg,hck,h1,hset,Instr.keyThatStays,hkk,hk3]
    ·intro i hi;simp only[List.length_set] at hi;rw[hgd i];by_cases hij:i=j
     ·subst hij;have e1:(es.set i (ak,av)).getD i (.undef,.undef)=(ak,av):=by simp[za,hi]
      rw[e1,if_pos rfl];exact ⟨vk,vv⟩
     ·have:¬j=i:=λe=>hij e.symm
      have e1:(es.set j (ak,av)).getD i (.undef,.undef)=es.getD i (.undef,.undef):=by simp[za,List.getElem?_set,this]
      rw[e1,if_neg hij];exact g3 i hi
    ·intro i hi;rw[hborn i];simp only[z4] at hi;exact g4 i hi
    ·intro i i2 hij hj;simp only[z4] at hj;rw[hborn i,hborn i2]
     exact g5 i i2 hij hj
  | _=>simp at h
 | mapD id B hid=>simp[ao9,hs.dead id hid] at h
 | _=>simp[ao9] at h
theorem et6 {t:TypeId}{x:Operand}{ix:IX}{s:List UInt8}{id n:Nat}(hu:P.underlying t=zc .string)(hx:ai9 x=zc ix)(he:ix.ev E fr=.str s)(hs:Sim E ρ w σ)(hf:FR ρ w N fr a.tmps)(hno:ρ id=.no)(hlt:id<σ.next)(hn:n<=id) :
  cu3 P E id n ρ w a (.range t x) (.ptr id 0) (σ.put id (.bg3 s 0)):=by
 intro o ho;have vx:=aa9 hx hs hf;rw[he] at vx;generalize hrx:a.eval x=rx at vx
 cases vx with
 | str _=>
  refine ⟨.value (.pointer (zc ⟨w.heap.size,0,zg⟩)),.pointer (zc ⟨w.heap.size,0,zg⟩),ρ.put id (.at w.heap.size 0),w.alloc (.stringIter ⟨s.toArray⟩ 0),?_,.inl rfl,bz1 hs hno hlt ?_,.ptr id 0 w.heap.size 0 (by simp[Rho.put]),al6 hno hn,ah9.put _ _ _⟩
  ·unfold execOp;rw[ho];simp[Instr.range,run_underlying hu,hrx]
  ·exact ⟨by show (w.heap.push _)[w.heap.size]? = _;simp,rfl⟩
def bo5 (σ:Store):IV->Option (IV×Store)
 | .ptr id off=>if off=0 then match σ.obj id with
  | some (.bg3 s pos)=>if pos<s.length then zc (.tuple [.bool true,.int .i64 pos,.int .i32 (Utf8.decode ⟨s.toArray⟩ pos).1],σ.put id (.bg3 s (pos+(Utf8.decode ⟨s.toArray⟩ pos).2))) else zc (.tuple [.bool false],σ)
  | _=>zg
  else zg
 | _=>zg
theorem et7 {x v:IV}{σ':Store}(h:bo5 σ x=zc (v,σ')):σ'.next=σ.next:=by
 unfold bo5 at h;split at h
 ·split at h
  ·split at h
   ·split at h<;>cases h<;>rfl
   ·cases h
  ·cases h
 ·cases h
theorem fs3 {x:Operand}{ix:IX}{id0 n:Nat}{v:IV}{σ':Store}(hx:ai9 x=zc ix)(h:bo5 σ (ix.ev E fr)=zc (v,σ'))(hs:Sim E ρ w σ)(hf:FR ρ w N fr a.tmps) :
  cu3 P E id0 n ρ w a (.next x true) v σ':=by
 intro o ho;have vx:=aa9 hx hs hf;generalize ix.ev E fr=ax at vx h;generalize hrx:a.eval x=rx at vx
 cases vx with
 | ptr id off B d hid=>
  simp only[bo5] at h;by_cases h0:off=0
  ·subst h0;rw[if_pos rfl] at h;obtain ⟨ob,hob,hor⟩:=hs.obj id B d hid;rw[hob] at h
   cases ob with
   | bg3 s pos=>
    obtain ⟨g1,rfl⟩:=hor;have hg:(getObj B).run P w=.ok (.stringIter ⟨s.toArray⟩ pos) w:=by simp[getObj,Sem.run,g1]
    have hset:∀o,(setObj B o).run P w=.ok () (w.putObj B o):=λo=>by simp[setObj,Sem.run,g1,World.putObj]
    have nc:∀(rcs:Array Value) (el:TypeId) (fz:Nat×Nat),Obj.stringIter ⟨s.toArray⟩ pos≠.cells rcs el fz:=λ_ _ _ h=>by cases h
    have nl:∀L,Obj.stringIter ⟨s.toArray⟩ pos≠.loop L:=λ_ h=>by cases h
    simp only at h;split at h
    ·rename_i hlt;cases h
     refine ⟨.value (.tuple #[.bool true,.int .i64 pos,.int .i32 (Utf8.decode ⟨s.toArray⟩ pos).1]),.tuple #[.bool true,.int .i64 pos,.int .i32 (Utf8.decode ⟨s.toArray⟩ pos).1],ρ,w.putObj B (.stringIter ⟨s.toArray⟩ (pos+(Utf8.decode ⟨s.toArray⟩ pos).2)),?_,.inl rfl,
      cj6 hs hid g1 nc nl ⟨World.putObj_heap_same (hs.lt id B 0 hid),rfl⟩,?_,bh6 hid g1 nc nl,ah9.refl _ _⟩
     ·unfold execOp;rw[ho];have hsz:pos<(z6 s.toArray).size:=by rw[size_mk];exact hlt
      simp[Instr.next,hrx,hg,hsz,hset,goInt]
     ·refine .tuple _ _ rfl λi hi=>?_
      match i,hi with
      | 0,_=>exact .bool true
      | 1,_=>exact .int _ _
      | 2,_=>exact .int _ _
    ·rename_i hlt;cases h;refine ⟨.value (.tuple #[.bool false]),.tuple #[.bool false],ρ,w,?_,.inl rfl,hs,?_,Ext.refl _ _ _,ah9.refl _ _⟩
     ·unfold execOp;rw[ho];have hsz:¬pos<(z6 s.toArray).size:=by rw[size_mk];exact hlt
      simp[Instr.next,hrx,hg,hsz]
     ·refine .tuple _ _ rfl λi hi=>?_
      match i,hi with
      | 0,_=>exact .bool false
   | _=>cases h
  ·rw[if_neg h0] at h;cases h
 | cx8 id off ad hid=>
  simp only[bo5,hs.dead id hid] at h
  split at h<;>cases h
 | _=>cases h
end Go.Id
