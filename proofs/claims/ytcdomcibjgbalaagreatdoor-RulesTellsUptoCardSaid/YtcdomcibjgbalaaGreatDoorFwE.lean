/- What a value names; blocks that are let go become trees. Conditions: none; over any program. -/
import Derived.Test.YtcdomcibjgbalaaGreatDoorFwD4
open Option renaming some→za,none→zg,map_some→zp
open List renaming getD_eq_getElem?_getD→zb,length_eq_zero_iff→ze,length_eraseIdx→zm,getD_cons_succ→zn,mem_filter→zv,getElem?_eq_getElem→zw,eraseIdx_cons_succ→zx,mem_iff_getElem→z0,filter_eq_self→z2
open Nat renaming le_refl→zc,lt_of_lt_of_le→zh,lt_succ_self→zi,mul_le_mul_right→zj,add_zero→zl,le_trans→zo,one_mul→zt,add_mul→zu,zero_mul→zy,zero_add→zz
open Array renaming getD_eq_getD_getElem?→zd,range→zf,toList_filter→z1
open Bool renaming false_eq_true→zk
open Classical renaming byContradiction→zq
set_option linter.all false
namespace Go.Id
open Go
variable {P:Program} {w w' w'':World} {ρ ρ' ρ'':Rho} {E:Nat->IV} {σ σ':Store} {N n n':Nat} {S:Nat->Prop}
inductive Nm (S:Nat->Prop):IV->Prop
 | undef:Nm S .undef
 | bool (b:Bool):Nm S (.bool b)
 | int (k:IntKind) (x:Int):Nm S (.int k x)
 | str (s:List UInt8):Nm S (.str s)
 | ae3:Nm S .ae3
 | ptr (id off:Nat) (h:S id):Nm S (.ptr id off)
 | ab8 (cs:List IV) (h:∀c∈cs,Nm S c):Nm S (.ab8 cs)
 | aa1:Nm S .aa1
 | ac6:Nm S .ac6
 | af6:Nm S .af6
 | slice (id off len esz:Nat) (h:S id):Nm S (.slice id off len esz)
 | aa3 (es:List (List IV)) (h:∀e∈es,∀c∈e,Nm S c):Nm S (.aa3 es)
 | ah7:Nm S .ah7
 | map (id:Nat) (h:S id):Nm S (.map id)
 | al4 (es:List (IV×IV)) (h1:∀e∈es,Nm S e.1) (h2:∀e∈es,Nm S e.2):Nm S (.al4 es)
 | func (fn:Fn) (first cap:List IV) (h1:∀c∈first,Nm S c) (h2:∀c∈cap,Nm S c):Nm S (.func fn first cap)
 | yield (id:Nat) (h:S id):Nm S (.yield id)
 | ad7:Nm S .ad7
 | iface (t:Nat) (v:IV) (h:Nm S v):Nm S (.iface t v)
 | ah2:Nm S .ah2
 | agg (cs:List IV) (h:∀c∈cs,Nm S c):Nm S (.agg cs)
 | tuple (cs:List IV) (h:∀c∈cs,Nm S c):Nm S (.tuple cs)
 | ag6 (id off len esz:Nat) (h:S id):Nm S (.ag6 id off len esz)
 | ak5 (id off len room esz:Nat) (h:S id):Nm S (.ak5 id off len room esz)
theorem ai1 {α:Type}{l:List α}{c d:α}(h:c∈l):∃i,i<l.length/\l.getD i d=c:=by
 obtain ⟨i,hi,he⟩:=z0.1 h;exact ⟨i,hi,by rw[zb,zw hi];exact he⟩
theorem ad3 {α:Type}{l:List α}{i:Nat}(d:α)(h:i<l.length):l.getD i d∈l:=by
 rw[zb,zw h];exact List.getElem_mem h
theorem VR.nm {v:IV}{r:Value}(hf:∀i,ρ i≠.no->S i)(h:VR ρ w v r):Nm S v:=by
 induction h with
 | undef r=>exact .undef
 | bool b=>exact .bool b
 | int k n=>exact .int k n
 | str s=>exact .str s
 | ae3=>exact .ae3
 | ptr id off B d hi=>exact .ptr id off (hf _ (by rw[hi];intro h;cases h))
 | cx8 id off ad hi=>exact .ptr id off (hf _ (by rw[hi];intro h;cases h))
 | ab8 cs b o vs _ _ _ ih=>exact .ab8 cs λc hc=>let ⟨i,hi,he⟩:=ai1 (d:=.undef) hc;he▸ih i hi
 | aa1=>exact .aa1
 | ac6 a=>exact .ac6
 | af6 a c=>exact .af6
 | slice id off len esz B d cap rcs el fz hi _ _ _=>exact .slice id off len esz (hf _ (by rw[hi];intro h;cases h))
 | am6 id off esz B d a hi=>exact .slice id off 0 esz (hf _ (by rw[hi];intro h;cases h))
 | al5 id off len esz cap ad hi _=>exact .slice id off len esz (hf _ (by rw[hi];intro h;cases h))
 | ag6 id off len esz B d rcs el fz hi _ _=>exact .ag6 id off len esz (hf _ (by rw[hi];intro h;cases h))
 | aq3 id off len esz ad hi=>exact .ag6 id off len esz (hf _ (by rw[hi];intro h;cases h))
 | ak5 id off len room esz B d cap rcs el fz hi _ _ _ _=>exact .ak5 id off len room esz (hf _ (by rw[hi];intro h;cases h))
 | aw9 id off len room esz cap ad hi _ _=>exact .ak5 id off len room esz (hf _ (by rw[hi];intro h;cases h))
 | aa3 es b o cap esz sp vs _ hs _ _ _ ih=>
  refine .aa3 es λe he c hc=>?_
  obtain ⟨i,hi,hie⟩:=ai1 (d:=[]) he;subst hie;obtain ⟨j,hj,hje⟩:=ai1 (d:=.undef) hc;rw[<- hje]
  exact ih i hi j (by rw[<- hs i hi];exact hj)
 | ci3=>exact .aa3 [] (λe he=>by cases he)
 | ah7=>exact .ah7
 | map id B d hi=>exact .map id (hf _ (by rw[hi];intro h;cases h))
 | mapD id B hi=>exact .map id (hf _ (by rw[hi];intro h;cases h))
 | al4 es es' b mes clock hp _ _ _ _ _ _ _ _ ihk ihv=>
  have he':∀e∈es,e∈es':=λe he=>hp.symm.subset he
  exact .al4 es (λe he=>let ⟨i,hi,hie⟩:=ai1 (d:=(.undef,.undef)) (he' e he);hie▸ihk i hi) (λe he=>let ⟨i,hi,hie⟩:=ai1 (d:=(.undef,.undef)) (he' e he);hie▸ihv i hi)
 | func fn first cap rf rc _ _ _ _ _ ihf ihc=>
  exact .func fn first cap (λc hc=>let ⟨i,hi,he⟩:=ai1 (d:=.undef) hc;he▸ihf i hi) (λc hc=>let ⟨i,hi,he⟩:=ai1 (d:=.undef) hc;he▸ihc i hi)
 | yield id B d hi=>exact .yield id (hf _ (by rw[hi];intro h;cases h))
 | bc4 id B hi=>exact .yield id (hf _ (by rw[hi];intro h;cases h))
 | ad7=>exact .ad7
 | iface t v r _ ih=>exact .iface t v ih
 | ah2=>exact .ah2
 | agg cs rs _ _ ih=>exact .agg cs λc hc=>let ⟨i,hi,he⟩:=ai1 (d:=.undef) hc;he▸ih i hi
 | tuple cs rs _ _ ih=>exact .tuple cs λc hc=>let ⟨i,hi,he⟩:=ai1 (d:=.undef) hc;he▸ih i hi
structure cj7 (S:Nat->Prop) (ρ ρ':Rho):Prop where
 on:∀i,S i->ρ' i=ρ i
 off:∀i,¬S i->ρ' i=.no
 X:∀b,ρ'.X b->ρ.X b\/∃i d,¬S i/\ρ i=.at b d
theorem cj7.at {i B d:Nat}(hk:cj7 S ρ ρ')(h:ρ' i=.at B d):S i/\ρ i=.at B d:=by
 by_cases hs:S i
 ·exact ⟨hs,by rw[<- hk.on i hs];exact h⟩
 ·rw[hk.off i hs] at h;cases h
theorem FB.cut {b:Nat}(hk:cj7 S ρ ρ')(h:FB ρ w b):FB ρ' w b:=⟨h.1,λi d hi=>h.2 i d (hk.at hi).2,λhx=>(hk.X b hx).elim h.3 λ⟨i,d,_,hi⟩=>h.2 i d hi⟩
theorem VR.cut {v:IV}{r:Value}(hk:cj7 S ρ ρ')(h:VR ρ w v r):Nm S v->VR ρ' w v r:=by
 induction h with
 | undef r=>exact λ_=>.undef r
 | bool b=>exact λ_=>.bool b
 | int k n=>exact λ_=>.int k n
 | str s=>exact λ_=>.str s
 | ae3=>exact λ_=>.ae3
 | ptr id off B d hi=>intro hb;cases hb with|ptr _ _ h=>exact .ptr id off B d (by rw[hk.on _ h];exact hi)
 | cx8 id off ad hi=>intro hb;cases hb with|ptr _ _ h=>exact .cx8 id off ad (by rw[hk.on _ h];exact hi)
 | ab8 cs b o vs hf hc _ ih=>intro hb;cases hb with|ab8 _ h=>exact .ab8 cs b o vs (hf.cut hk) hc λj hj=>ih j hj (h _ (ad3 _ hj))
 | aa1=>exact λ_=>.aa1
 | ac6 a=>exact λ_=>.ac6 a
 | af6 a c=>exact λ_=>.af6 a c
 | slice id off len esz B d cap rcs el fz hi h1 h2 h3=>intro hb;cases hb with|slice _ _ _ _ h=>exact .slice id off len esz B d cap rcs el fz (by rw[hk.on _ h];exact hi) h1 h2 h3
 | am6 id off esz B d a hi=>intro hb;cases hb with|slice _ _ _ _ h=>exact .am6 id off esz B d a (by rw[hk.on _ h];exact hi)
 | al5 id off len esz cap ad hi hl=>intro hb;cases hb with|slice _ _ _ _ h=>exact .al5 id off len esz cap ad (by rw[hk.on _ h];exact hi) hl
 | ag6 id off len esz B d rcs el fz hi h1 h2=>intro hb;cases hb with|ag6 _ _ _ _ h=>exact .ag6 id off len esz B d rcs el fz (by rw[hk.on _ h];exact hi) h1 h2
 | aq3 id off len esz ad hi=>intro hb;cases hb with|ag6 _ _ _ _ h=>exact .aq3 id off len esz ad (by rw[hk.on _ h];exact hi)
 | ak5 id off len room esz B d cap rcs el fz hi h1 h2 h3 h4=>intro hb;cases hb with|ak5 _ _ _ _ _ h=>exact .ak5 id off len room esz B d cap rcs el fz (by rw[hk.on _ h];exact hi) h1 h2 h3 h4
 | aw9 id off len room esz cap ad hi hl hr=>intro hb;cases hb with|ak5 _ _ _ _ _ h=>exact .aw9 id off len room esz cap ad (by rw[hk.on _ h];exact hi) hl hr
 | aa3 es b o cap esz sp vs hf hs hc _ hle ih=>
  intro hb
  cases hb with
  | aa3 _ h=>exact .aa3 es b o cap esz sp vs (λhne=>⟨((hf hne).1.cut hk),(hf hne).2⟩) hs hc (λi hi j hj=>ih i hi j hj (h _ (ad3 _ hi) _ (ad3 _ (by rw[hs i hi];exact hj)))) hle
 | ci3=>exact λ_=>.ci3
 | ah7=>exact λ_=>.ah7
 | map id B d hi=>intro hb;cases hb with|map _ h=>exact .map id B d (by rw[hk.on _ h];exact hi)
 | mapD id B hi=>intro hb;cases hb with|map _ h=>exact .mapD id B (by rw[hk.on _ h];exact hi)
 | al4 es es' b mes clock hp hd hf hh hl _ _ h4 h5 ihk ihv=>
  intro hb
  cases hb with
  | al4 _ h1 h2=>exact .al4 es es' b mes clock hp hd (hf.cut hk) hh hl (λi hi=>ihk i hi (h1 _ (hp.subset (ad3 _ hi)))) (λi hi=>ihv i hi (h2 _ (hp.subset (ad3 _ hi)))) h4 h5
 | func fn first cap rf rc hy h1 h2 _ _ ihf ihc=>
  intro hb
  cases hb with
  | func _ _ _ b1 b2=>exact .func fn first cap rf rc hy h1 h2 (λi hi=>ihf i hi (b1 _ (ad3 _ hi))) (λi hi=>ihc i hi (b2 _ (ad3 _ hi)))
 | yield id B d hi=>intro hb;cases hb with|yield _ h=>exact .yield id B d (by rw[hk.on _ h];exact hi)
 | bc4 id B hi=>intro hb;cases hb with|yield _ h=>exact .bc4 id B (by rw[hk.on _ h];exact hi)
 | ad7=>exact λ_=>.ad7
 | iface t v r _ ih=>intro hb;cases hb with|iface _ _ h=>exact .iface t v r (ih h)
 | ah2=>exact λ_=>.ah2
 | agg cs rs h1 _ ih=>intro hb;cases hb with|agg _ h=>exact .agg cs rs h1 λi hi=>ih i hi (h _ (ad3 _ hi))
 | tuple cs rs h1 _ ih=>intro hb;cases hb with|tuple _ h=>exact .tuple cs rs h1 λi hi=>ih i hi (h _ (ad3 _ hi))
def isCells (σ:Store)(id:Nat)(cs:List IV):Prop:=σ.obj id=za (.cells cs)\/σ.obj id=za (.row cs)
inductive Frz (σ:Store) (S:Nat->Prop):IV->IV->Prop
 | keep (v:IV) (h:Nm S v):Frz σ S v v
 | zs:Frz σ S .ac6 (.aa3 [])
 | es:Frz σ S .af6 (.aa3 [])
 | bz3:Frz σ S .aa1 (.aa3 [])
 | ptr (id off:Nat) (cs cs':List IV) (hid:¬S id) (ho:isCells σ id cs) (hl:off+cs'.length<=cs.length)
   (h:∀j,j<cs'.length->Frz σ S (cs.getD (off+j) .undef) (cs'.getD j .undef)):Frz σ S (.ptr id off) (.ab8 cs')
 | dl5 (id off esz:Nat) (h:σ.obj id≠zg):Frz σ S (.slice id off 0 esz) (.aa3 [])
 | ix6 (id off esz:Nat) (h:σ.obj id≠zg):Frz σ S (.slice id off 0 esz) .af6
 | slice (id off len esz:Nat) (cs:List IV) (es:List (List IV)) (hid:¬S id) (ho:isCells σ id cs) (hlen:es.length=len) (hle:off+len*esz<=cs.length) (hsz:∀i,i<len->(es.getD i []).length=esz)
   (h:∀i,i<len->∀j,j<esz->Frz σ S (cs.getD (off+(i*esz+j)) .undef) ((es.getD i []).getD j .undef)):Frz σ S (.slice id off len esz) (.aa3 es)
 | aa3 (es es':List (List IV)) (hl:es'.length=es.length) (hs:∀i,i<es.length->(es'.getD i []).length=(es.getD i []).length)
   (h:∀i,i<es.length->∀j,j<(es.getD i []).length->Frz σ S ((es.getD i []).getD j .undef) ((es'.getD i []).getD j .undef)):Frz σ S (.aa3 es) (.aa3 es')
 | ab8 (cs cs':List IV) (hl:cs'.length=cs.length) (h:∀j,j<cs.length->Frz σ S (cs.getD j .undef) (cs'.getD j .undef)):Frz σ S (.ab8 cs) (.ab8 cs')
 | map (id:Nat) (es es' et:List (IV×IV)) (hid:¬S id) (ho:σ.obj id=za (.map es)) (hl:es'.length=es.length) (hp:es'.Perm et) (hd:da2 et)
   (h1:∀i,i<es.length->Frz σ S (es.getD i (.undef,.undef)).1 (es'.getD i (.undef,.undef)).1) (h2:∀i,i<es.length->Frz σ S (es.getD i (.undef,.undef)).2 (es'.getD i (.undef,.undef)).2):Frz σ S (.map id) (.al4 et)
 | func (fn:Fn) (first first' cap cap':List IV) (hl1:first'.length=first.length) (hl2:cap'.length=cap.length) (h1:∀i,i<first.length->Frz σ S (first.getD i .undef) (first'.getD i .undef)) (h2:∀i,i<cap.length->Frz σ S (cap.getD i .undef) (cap'.getD i .undef)):Frz σ S (.func fn first cap) (.func fn first' cap')
 | iface (t:Nat) (v v':IV) (h:Frz σ S v v'):Frz σ S (.iface t v) (.iface t v')
 | agg (cs cs':List IV) (hl:cs'.length=cs.length) (h:∀i,i<cs.length->Frz σ S (cs.getD i .undef) (cs'.getD i .undef)):Frz σ S (.agg cs) (.agg cs')
 | tuple (cs cs':List IV) (hl:cs'.length=cs.length) (h:∀i,i<cs.length->Frz σ S (cs.getD i .undef) (cs'.getD i .undef)):Frz σ S (.tuple cs) (.tuple cs')
theorem fe7 {id B d:Nat}{cs:List IV}(hs:Sim E ρ w σ)(hi:ρ id=.at B d)(ho:isCells σ id cs):aq6 ρ w B d cs:=by
 obtain ⟨o,h1,h2⟩:=hs.obj id B d hi;rcases ho with ho|ho<;>rw[ho] at h1<;>cases h1<;>exact h2
theorem fe8 {id:Nat}{cs:List IV}(h:σ.obj id=zg)(ho:isCells σ id cs):False:=by
 rcases ho with ho|ho<;>rw[ho] at h<;>cases h
theorem gl8 {id B d:Nat}(hk:cj7 S ρ ρ')(hX:ρ'.X=ρ.X)(hs:Sim E ρ w σ)(hi:ρ id=.at B d)(hn:¬S id):FB ρ' w B:=by
 refine ⟨hs.lt id B d hi,λi d' h=>?_,by rw[hX];exact hs.nx id B d hi⟩;obtain ⟨h1,h2⟩:=hk.at h;have:=hs.inj i id B d' d h2 hi;exact hn (this▸h1)
theorem ip7 {B o:Nat}{rcs:Array Value}{el:TypeId}{fz:Nat×Nat}(h:w.heap[B]? = za (.cells rcs el fz))(ho:o<rcs.size):w.cell? ⟨B,o,zg⟩=za (rcs.getD o undef):=by
 unfold World.cell?;simp[h,ho]
theorem Frz.vr {v v':IV}(hk:cj7 S ρ ρ')(hX:ρ'.X=ρ.X)(hs:Sim E ρ w σ)(h:Frz σ S v v'):∀r,VR ρ w v r->VR ρ' w v' r:=by
 induction h with
 | keep v hb=>exact λr hv=>hv.cut hk hb
 | bz3=>
  intro r hv
  cases hv with
  | aa1=>exact .ci3
 | zs=>
  intro r hv
  cases hv with
  | ac6 a=>obtain ⟨b,o,sp⟩:=a;exact .aa3 [] b o 0 0 sp (λ_ _=>undef) (λh=>absurd rfl h) (λi hi=>by simp at hi) (λi hi=>by simp at hi) (λi hi=>by simp at hi) (by simp)
 | es=>
  intro r hv
  cases hv with
  | af6 a cp=>obtain ⟨b,o,sp⟩:=a;exact .aa3 [] b o cp 0 sp (λ_ _=>undef) (λh=>absurd rfl h) (λi hi=>by simp at hi) (λi hi=>by simp at hi) (λi hi=>by simp at hi) (by simp)
 | ptr id off cs cs' hid ho hl _ ih=>
  intro r hv
  cases hv with
  | ptr _ _ B d hi=>
   obtain ⟨rcs,el,h1,h2,h3⟩:=fe7 hs hi ho;refine .ab8 cs' B (d+off) (λj=>rcs.getD (d+off+j) undef) (gl8 hk hX hs hi hid) (λj hj=>ip7 h1 (by omega)) (λj hj=>ih j hj _ ?_);have:=h3 (off+j) (by omega)
   rwa [<- Nat.add_assoc] at this
  | cx8 _ _ ad hi=>exact (fe8 (hs.dead _ hi) ho).elim
 | dl5 id off esz hob=>
  intro r hv
  cases hv with
  | slice _ _ _ _ B d cap rcs el fz hi h1 h2 h3=>exact .aa3 [] B (d+off) cap 0 zg (λ_ _=>undef) (λh=>absurd rfl h) (λi hi=>by simp at hi) (λi hi=>by simp at hi) (λi hi=>by simp at hi) (by simp)
  | am6 _ _ _ B d a hi=>obtain ⟨b,o,sp⟩:=a;exact .aa3 [] b o 0 0 sp (λ_ _=>undef) (λh=>absurd rfl h) (λi hi=>by simp at hi) (λi hi=>by simp at hi) (λi hi=>by simp at hi) (by simp)
  | al5 _ _ _ _ cap ad hi hl=>exact absurd (hs.dead _ hi) hob
 | ix6 id off esz hob=>
  intro r hv
  cases hv with
  | slice _ _ _ _ B d cap rcs el fz hi h1 h2 h3=>exact .af6 _ cap
  | am6 _ _ _ B d a hi=>exact .af6 a 0
  | al5 _ _ _ _ cap ad hi hl=>exact .af6 ad cap
 | slice id off len esz cs es hid ho hlen hle hsz _ ih=>
  intro r hv
  cases hv with
  | slice _ _ _ _ B d cap rcs el fz hi g1 g2 g3=>
   obtain ⟨rcs',el',h1,h2,h3⟩:=fe7 hs hi ho;rw[<- hlen]
   have key:∀i,i<es.length->∀j,j<esz->off+(i*esz+j)<cs.length:=by
    intro i hi j hj;have:(i+1)*esz<=len*esz:=zj _ (by omega);rw[zu,zt] at this;omega
   refine .aa3 es B (d+off) cap esz zg (λi j=>rcs'.getD (d+off+(i*esz+j)) undef) (λ_=>⟨gl8 hk hX hs hi hid,rfl⟩) (λi hi=>hsz i (by omega)) (λi hi j hj=>ip7 h1 (by have:=key i hi j hj;omega)) (λi hi j hj=>ih i (by omega) j hj _ ?_) (by omega);show VR ρ w _ (rcs'.getD (d+off+(i*esz+j)) undef);rw[Nat.add_assoc d off _]
   exact h3 (off+(i*esz+j)) (key i hi j hj)
  | am6 _ _ _ B d a hi=>
   have:es=[]:=ze.1 hlen;subst this;obtain ⟨b,o,sp⟩:=a
   exact .aa3 [] b o 0 0 sp (λ_ _=>undef) (λh=>absurd rfl h) (λi hi=>by simp at hi) (λi hi=>by simp at hi) (λi hi=>by simp at hi) (by simp)
  | al5 _ _ _ _ cap ad hi hl=>exact (fe8 (hs.dead _ hi) ho).elim
 | aa3 es es' hl hsz _ ih=>
  intro r hv
  cases hv with
  | ci3=>
   have:es'=[]:=ze.1 hl;subst this
   exact .ci3
  | aa3 _ b o cap esz sp vs hf hs' hc hv hle=>
   rw[<- hl]
   refine .aa3 es' b o cap esz sp vs (λhne=>⟨((hf (λe=>hne (by subst e;exact ze.1 hl))).1.cut hk),(hf (λe=>hne (by subst e;exact ze.1 hl))).2⟩) (λi hi=>by rw[hsz i (by omega),hs' i (by omega)]) (λi hi=>hc i (by omega)) (λi hi j hj=>ih i (by omega) j (by rw[hs' i (by omega)];exact hj) _ (hv i (by omega) j hj)) (by omega)
 | ab8 cs cs' hl _ ih=>
  intro r hv
  cases hv with
  | ab8 _ b o vs hf hc hv=>exact .ab8 cs' b o vs (hf.cut hk) (λj hj=>hc j (by omega)) (λj hj=>ih j (by omega) _ (hv j (by omega)))
 | map id es es' et hid ho hl hp hd _ _ ihk ihv=>
  intro r hv
  cases hv with
  | map _ B d hi=>
   obtain ⟨o,h1,h2⟩:=hs.obj id B d hi;rw[ho] at h1;cases h1;obtain ⟨mes,clock,g1,g0,g2,g3,g4,g5⟩:=h2
   exact .al4 et es' B mes clock hp hd (gl8 hk hX hs hi hid) g1 (by omega) (λi hi=>ihk i (by omega) _ (g3 i (by omega)).1) (λi hi=>ihv i (by omega) _ (g3 i (by omega)).2) g4 g5
  | mapD _ B hi=>rw[hs.dead _ hi] at ho;cases ho
 | func fn first first' cap cap' hl1 hl2 _ _ ih1 ih2=>
  intro r hv
  cases hv with
  | func _ _ _ rf rc hy g1 g2 v1 v2=>exact .func fn first' cap' rf rc hy (by omega) (by omega) (λi hi=>ih1 i (by omega) _ (v1 i (by omega))) (λi hi=>ih2 i (by omega) _ (v2 i (by omega)))
 | iface t v v' _ ih=>intro r hv;cases hv with|iface _ _ r' h=>exact .iface t v' r' (ih _ h)
 | agg cs cs' hl _ ih=>intro r hv;cases hv with|agg _ rs h1 h2=>exact .agg cs' rs (by omega) λi hi=>ih i (by omega) _ (h2 i (by omega))
 | tuple cs cs' hl _ ih=>intro r hv;cases hv with|tuple _ rs h1 h2=>exact .tuple cs' rs (by omega) λi hi=>ih i (by omega) _ (h2 i (by omega))
def NmO (S:Nat->Prop):aj2->Prop
 | .cells cs|.row cs=>∀c∈cs,Nm S c
 | .map es=>(∀e∈es,Nm S e.1)/\∀e∈es,Nm S e.2
 | .bg3 _ _=>True
 | .loop _ tmps _ _ _ _ _=>∀t,Nm S ((tmps.lookup t).getD .undef)
 | .as1 left cur=>(∀e∈left,Nm S e.1)/\(∀e∈left,Nm S e.2)/\∀c,cur=za c->Nm S c.1/\Nm S c.2
theorem OR.nm {B d:Nat}{o:aj2}(hf:∀i,ρ i≠.no->S i)(h:OR ρ w B d o):NmO S o:=by
 have key:∀cs,aq6 ρ w B d cs->∀c∈cs,Nm S c:=λcs ⟨rcs,el,_,_,h3⟩ c hc=>let ⟨i,hi,he⟩:=ai1 (d:=.undef) hc;he▸(h3 i hi).nm hf
 cases o with
 | cells cs=>exact key cs h
 | row cs=>exact key cs h
 | map es=>
  obtain ⟨mes,clock,h1,h0,h2,h3,h4,h5⟩:=h
  exact ⟨λe he=>let ⟨i,hi,hie⟩:=ai1 (d:=(.undef,.undef)) he;hie▸(h3 i hi).1.nm hf,λe he=>let ⟨i,hi,hie⟩:=ai1 (d:=(.undef,.undef)) he;hie▸(h3 i hi).2.nm hf⟩
 | bg3 s pos=>trivial
 | loop N tmps params assign body st pend=>
  obtain ⟨hd,l,h1,h2,h3,h4,h5,h6,h7,h8⟩:=h
  exact λt=>(h8 t).nm hf
 | as1 left cur=>
  obtain ⟨hd,mb,last,seen,mes,clock,lft,h1,h2,h3,h4,h5,h6,h7,h8,hc,h9⟩:=h;exact ⟨λe he=>let ⟨i,hi,hie⟩:=ai1 (d:=(.undef,.undef)) (h8.symm.subset he);hie▸(h9 i hi).1.nm hf,λe he=>let ⟨i,hi,hie⟩:=ai1 (d:=(.undef,.undef)) (h8.symm.subset he);hie▸(h9 i hi).2.nm hf,λc e=>let ⟨i,g1,g2,g3,g4⟩:=hc c e;⟨g3.nm hf,g4.nm hf⟩⟩
theorem OR.cut {B d:Nat}{o:aj2}(hk:cj7 S ρ ρ')(hb:NmO S o)(h:OR ρ w B d o):OR ρ' w B d o:=by
 have key:∀cs,(∀c∈cs,Nm S c)->aq6 ρ w B d cs->aq6 ρ' w B d cs:=λcs hb ⟨rcs,el,h1,h2,h3⟩=>⟨rcs,el,h1,h2,λi hi=>(h3 i hi).cut hk (hb _ (ad3 _ hi))⟩
 cases o with
 | cells cs=>exact key cs hb h
 | row cs=>exact key cs hb h
 | map es=>
  obtain ⟨mes,clock,h1,h0,h2,h3,h4,h5⟩:=h
  exact ⟨mes,clock,h1,h0,h2,λi hi=>⟨(h3 i hi).1.cut hk (hb.1 _ (ad3 _ hi)),(h3 i hi).2.cut hk (hb.2 _ (ad3 _ hi))⟩,h4,h5⟩
 | bg3 s pos=>exact h
 | loop N tmps params assign body st pend=>
  obtain ⟨hd,l,h1,h2,h3,h4,h5,h6,h7,h8⟩:=h
  exact ⟨hd,l,h1,h2,h3,h4,h5,h6,h7,λt=>(h8 t).cut hk (hb t)⟩
 | as1 left cur=>
  obtain ⟨hd,mb,last,seen,mes,clock,lft,h1,h2,h3,h4,h5,h6,h7,h8,hc,h9⟩:=h;exact ⟨hd,mb,last,seen,mes,clock,lft,h1,h2.cut hk,h3,h4,h5,h6,h7,h8,λc e=>let ⟨i,g1,g2,g3,g4⟩:=hc c e;⟨i,g1,g2,g3.cut hk (hb.2.2 c e).1,g4.cut hk (hb.2.2 c e).2⟩,λi hi=>⟨(h9 i hi).1.cut hk (hb.1 _ (h8.subset (ad3 _ hi))),(h9 i hi).2.cut hk (hb.2.1 _ (h8.subset (ad3 _ hi)))⟩⟩
theorem Sim.jz5 (hk:cj7 S ρ ρ')(hs:Sim E ρ w σ')(hob:∀i,S i->σ'.obj i=σ.obj i)(hno:∀i,¬S i->σ.obj i=zg)(hb:∀i o,S i->σ.obj i=za o->NmO S o)(hnx:∀i,σ.next<=i->ρ' i=.no)(he:∀g,Nm S (E g)):Sim E ρ' w σ:=by
 refine ⟨?_,?_,?_,?_,hnx,?_,λg=>(hs.env g).cut hk (he g),λi B d h hx=>(hk.X B hx).elim (hs.nx i B d (hk.at h).2) λ⟨j,d',hj,hj'⟩=>hj (hs.inj i j B d d' (hk.at h).2 hj'▸(hk.at h).1),
  λb hx=>(hk.X b hx).elim (hs.xlt b) λ⟨j,d',_,hj'⟩=>hs.lt j b d' hj'⟩
 ·intro i j B d d' h1 h2;exact hs.inj i j B d d' (hk.at h1).2 (hk.at h2).2
 ·intro i B d h;exact hs.lt i B d (hk.at h).2
 ·intro i B d h;obtain ⟨h1,h2⟩:=hk.at h;obtain ⟨o,h3,h4⟩:=hs.obj i B d h2;rw[hob i h1] at h3;exact ⟨o,h3,h4.cut hk (hb i o h1 h3)⟩
 ·intro i h;by_cases hi:S i
  ·rw[<- hob i hi];rw[hk.on i hi] at h;exact hs.dead i h
  ·rw[hk.off i hi] at h;cases h
 ·intro i h;by_cases hi:S i
  ·rw[<- hob i hi];rw[hk.on i hi] at h;exact hs.av3 i h
  ·exact hno i hi
theorem Sim.nmO (hs:Sim E ρ w σ)(hf:∀i,ρ i≠.no->S i)(i:Nat)(o:aj2)(ho:σ.obj i=za o):NmO S o:=by
 rcases hr:ρ i with _|_|⟨B,d⟩
 ·rw[hs.av3 i hr] at ho;cases ho
 ·rw[hs.dead i hr] at ho;cases ho
 ·obtain ⟨o',h1,h2⟩:=hs.obj i B d hr;rw[ho] at h1;cases h1;exact h2.nm hf
theorem VR.refs {v:IV}{r:Value}(hr:∀i,ρ i≠.no->ρ' i=ρ i)(hfb:∀b,FB ρ w b->FB ρ' w b)(h:VR ρ w v r):VR ρ' w v r:=by
 have at_:∀ {i B d},ρ i=.at B d->ρ' i=.at B d:=λ{i B d} h=>by rw[hr i (by rw[h];intro h;cases h)];exact h
 have dd:∀ {i},ρ i=.dead->ρ' i=.dead:=λ{i} h=>by rw[hr i (by rw[h];intro h;cases h)];exact h
 induction h with
 | undef r=>exact .undef r
 | bool b=>exact .bool b
 | int k n=>exact .int k n
 | str s=>exact .str s
 | ae3=>exact .ae3
 | ptr id off B d hi=>exact .ptr id off B d (at_ hi)
 | cx8 id off ad hi=>exact .cx8 id off ad (dd hi)
 | ab8 cs b o vs hf hc _ ih=>exact .ab8 cs b o vs (hfb _ hf) hc ih
 | aa1=>exact .aa1
 | ac6 a=>exact .ac6 a
 | af6 a c=>exact .af6 a c
 | slice id off len esz B d cap rcs el fz hi hb hsz hle=>exact .slice id off len esz B d cap rcs el fz (at_ hi) hb hsz hle
 | am6 id off esz B d a hi=>exact .am6 id off esz B d a (at_ hi)
 | al5 id off len esz cap ad hi hle=>exact .al5 id off len esz cap ad (dd hi) hle
 | ag6 id off len esz B d rcs el fz hi hb hsz=>exact .ag6 id off len esz B d rcs el fz (at_ hi) hb hsz
 | aq3 id off len esz ad hi=>exact .aq3 id off len esz ad (dd hi)
 | ak5 id off len room esz B d cap rcs el fz hi hb hsz hle hr'=>exact .ak5 id off len room esz B d cap rcs el fz (at_ hi) hb hsz hle hr'
 | aw9 id off len room esz cap ad hi hle hr'=>exact .aw9 id off len room esz cap ad (dd hi) hle hr'
 | aa3 es b o cap esz sp vs hf hsz hc _ hle ih=>exact .aa3 es b o cap esz sp vs (λhne=>⟨hfb _ (hf hne).1,(hf hne).2⟩) hsz hc ih hle
 | ci3=>exact .ci3
 | ah7=>exact .ah7
 | map id B d hi=>exact .map id B d (at_ hi)
 | mapD id B hi=>exact .mapD id B (dd hi)
 | al4 es es' b mes clock hp hd hf hb hl _ _ h4 h5 ihk ihv=>exact .al4 es es' b mes clock hp hd (hfb _ hf) hb hl ihk ihv h4 h5
 | func fn first cap rf rc hy h1 h2 _ _ ihf ihc=>exact .func fn first cap rf rc hy h1 h2 ihf ihc
 | yield id B d hi=>exact .yield id B d (at_ hi)
 | bc4 id B hi=>exact .bc4 id B (dd hi)
 | ad7=>exact .ad7
 | iface t v r _ ih=>exact .iface t v r ih
 | ah2=>exact .ah2
 | agg cs rs h1 _ ih=>exact .agg cs rs h1 ih
 | tuple cs rs h1 _ ih=>exact .tuple cs rs h1 ih
theorem OR.refs {B d:Nat}{o:aj2}(hr:∀i,ρ i≠.no->ρ' i=ρ i)(hfb:∀b,FB ρ w b->FB ρ' w b)(h:OR ρ w B d o):OR ρ' w B d o:=by
 have key:∀cs,aq6 ρ w B d cs->aq6 ρ' w B d cs:=λcs ⟨rcs,el,h1,h2,h3⟩=>⟨rcs,el,h1,h2,λi hi=>(h3 i hi).refs hr hfb⟩
 cases o with
 | cells cs=>exact key cs h
 | row cs=>exact key cs h
 | map es=>
  obtain ⟨mes,clock,h1,h0,h2,h3,h4,h5⟩:=h
  exact ⟨mes,clock,h1,h0,h2,λi hi=>⟨(h3 i hi).1.refs hr hfb,(h3 i hi).2.refs hr hfb⟩,h4,h5⟩
 | bg3 s pos=>exact h
 | loop N tmps params assign body st pend=>
  obtain ⟨hd,l,h1,h2,h3,h4,h5,h6,h7,h8⟩:=h
  exact ⟨hd,l,h1,h2,h3,h4,h5,h6,h7,λt=>(h8 t).refs hr hfb⟩
 | as1 left cur=>
  obtain ⟨hd,mb,last,seen,mes,clock,lft,h1,h2,h3,h4,h5,h6,h7,h8,hc,h9⟩:=h;exact ⟨hd,mb,last,seen,mes,clock,lft,h1,hfb _ h2,h3,h4,h5,h6,h7,h8,λc e=>let ⟨i,g1,g2,g3,g4⟩:=hc c e;⟨i,g1,g2,g3.refs hr hfb,g4.refs hr hfb⟩,λi hi=>⟨(h9 i hi).1.refs hr hfb,(h9 i hi).2.refs hr hfb⟩⟩
theorem Nm.weak {S S':Nat->Prop}{v:IV}(h:Nm S v)(hS:∀i,S i->S' i):Nm S' v:=by
 induction h with
 | undef=>exact .undef
 | bool b=>exact .bool b
 | int k x=>exact .int k x
 | str s=>exact .str s
 | ae3=>exact .ae3
 | ptr id off h=>exact .ptr id off (hS _ h)
 | ab8 cs _ ih=>exact .ab8 cs ih
 | aa1=>exact .aa1
 | ac6=>exact .ac6
 | af6=>exact .af6
 | slice id off len esz h=>exact .slice id off len esz (hS _ h)
 | ag6 id off len esz h=>exact .ag6 id off len esz (hS _ h)
 | ak5 id off len room esz h=>exact .ak5 id off len room esz (hS _ h)
 | aa3 es _ ih=>exact .aa3 es ih
 | ah7=>exact .ah7
 | map id h=>exact .map id (hS _ h)
 | al4 es _ _ ih1 ih2=>exact .al4 es ih1 ih2
 | func fn first cap _ _ ih1 ih2=>exact .func fn first cap ih1 ih2
 | yield id h=>exact .yield id (hS _ h)
 | ad7=>exact .ad7
 | iface t v _ ih=>exact .iface t v ih
 | ah2=>exact .ah2
 | agg cs _ ih=>exact .agg cs ih
 | tuple cs _ ih=>exact .tuple cs ih
end Go.Id
namespace Go.Id
open Go
variable {P:Program} {w w':World} {ρ ρ':Rho} {E:Nat->IV} {σ σ':Store} {N:Nat} {fr:Frm} {a:Act}
def chunk (esz:Nat):Nat->List IV->List (List IV)
 | 0,_=>[]
 | n+1,l=>l.take esz::chunk esz n (l.drop esz)
theorem cu4 (esz:Nat):∀(n:Nat) (l:List IV),(chunk esz n l).length=n:=by
 intro n
 induction n with
 | zero=>intro l;rfl
 | succ n ih=>intro l;simp[chunk,ih]
theorem bs3 (esz:Nat):∀(n:Nat) (l:List IV) (i:Nat),i<n->(chunk esz n l).getD i []=(l.drop (i*esz)).take esz:=by
 intro n
 induction n with
 | zero=>intro l i h;omega
 | succ n ih=>
  intro l i h
  cases i with
  | zero=>simp[chunk]
  | succ i=>
   have:=ih (l.drop esz) i (by omega);simp only[chunk,zn,this,List.drop_drop];rw[zu,zt,Nat.add_comm]
theorem cy2 {op:Op}{v v':IV}{ob:aj2}{n:Nat}(hs:Sim E ρ w σ)(hn:n<=σ.next)
  (h:Sim E ρ w ⟨σ.next+1,σ.obj⟩->cu3 P E σ.next n ρ w a op v (Store.put ⟨σ.next+1,σ.obj⟩ σ.next ob))
  (hf:Frz (Store.put ⟨σ.next+1,σ.obj⟩ σ.next ob) (λi=>i≠σ.next) v v'):cu3 P E σ.next n ρ w a op v' σ:=by
 have hs0:Sim E ρ w ⟨σ.next+1,σ.obj⟩:=⟨hs.inj,hs.lt,hs.obj,hs.dead,λi hi=>hs.fresh i (Nat.le_of_succ_le hi),hs.av3,hs.env,hs.nx,hs.xlt⟩;have hno:ρ σ.next=.no:=hs.fresh _ (zc _);intro o ho;obtain ⟨x,r,ρ',w',hrun,hx,hs',hv',he,hnb⟩:=h hs0 o ho
 have hk:cj7 (λi=>i≠σ.next) ρ' ⟨λi=>if i=σ.next then .no else ρ' i,ρ'.X⟩:=⟨λi h=>by show (if i=σ.next then eg5.no else ρ' i)=_;rw[if_neg h],λi h=>by
  have:i=σ.next:=zq λe=>h e
  show (if i=σ.next then eg5.no else ρ' i)=_;rw[if_pos this],λ_ h=>.inl h⟩
 have hlv:∀i,ρ i≠.no->i≠σ.next:=λi h e=>h (by rw[e];exact hno)
 refine ⟨x,r,_,w',hrun,hx,hs'.jz5 hk (λi hi=>by simp[Store.put,hi]) (λi hi=>?_) (λi o' _ ho'=>hs.nmO hlv i o' ho') (λi hi=>?_) (λg=>(hs.env g).nm hlv),hf.vr hk rfl hs' r hv',?_,?_⟩
 ·have:i=σ.next:=zq λe=>hi e
  rw[this];exact hs.av3 _ hno
 ·show (if i=σ.next then eg5.no else ρ' i)=_;split
  ·rfl
  ·exact hs'.fresh i (by have:σ.next<=i:=hi;show σ.next+1<=i;omega)
 ·refine ⟨he.size,he.keep,he.shape,λi B d hi=>he.img i B d (hk.at hi).2,λi B d hi=>?_,λi hi=>?_,λi hi h0=>?_,he.output,he.os,he.tape,he.loops,he.X⟩
  ·show (if i=σ.next then eg5.no else ρ' i)=_\/(if i=σ.next then eg5.no else ρ' i)=_;have:i≠σ.next:=hlv i (by rw[hi];intro h;cases h);rw[if_neg this];exact he.at_ i B d hi
  ·show (if i=σ.next then eg5.no else ρ' i)=_;have:i≠σ.next:=hlv i (by rw[hi];intro h;cases h);rw[if_neg this];exact he.dead i hi
  ·show (if i=σ.next then eg5.no else ρ' i)=_;split
   ·rfl
   ·exact he.no i hi h0
 ·intro i hi h0;show (if i=σ.next then eg5.no else ρ' i)=_;split
  ·rfl
  ·exact hnb i hi h0
theorem Nm.cs {S:Nat->Prop}{v:IV}(h:Nm S v):∀c∈v.cs,Nm S c:=by
 by_cases ha:∃zs,v=.agg zs
 ·obtain ⟨zs,rfl⟩:=ha;cases h with|agg _ h=>exact h
 ·rw[IV.by2 λzs e=>ha ⟨zs,e⟩];intro c hc;rw[List.mem_singleton.1 hc];exact h
theorem hu7 {S:Nat->Prop}:∀(ps:List (Nat×Nat×IV)) (z out:List IV),at7 z ps=za out->(∀c∈z,Nm S c)->(∀p∈ps,Nm S p.2.2)->∀c∈out,Nm S c:=by
 intro ps
 induction ps with
 | nil=>intro z out h hz _;cases h;exact hz
 | cons p ps ih=>
  intro z out h hz hp;obtain ⟨off,size,v⟩:=p;simp only[at7] at h;split at h
  ·refine ih _ _ h (λc hc=>?_) (λq hq=>hp q (List.mem_cons_of_mem _ hq));unfold be4 at hc;simp only[List.mem_append] at hc;rcases hc with (hc|hc)|hc
   ·exact hz c (List.mem_of_mem_take hc)
   ·exact (hp _ (List.mem_cons_self ..)).cs c hc
   ·exact hz c (List.mem_of_mem_drop hc)
  ·cases h
theorem ip8 {S:Nat->Prop}{z:List IV}(h:∀c∈z,Nm S c):∀n,∀c∈rep z n,Nm S c:=by
 intro n
 induction n with
 | zero=>intro c hc;cases hc
 | succ n ih=>
  intro c hc;simp only[rep,List.mem_append] at hc;rcases hc with hc|hc
  ·exact h c hc
  ·exact ih c hc
theorem ei9:∀(ps:List (Nat×Nat×IV)) (z out:List IV),at7 z ps=za out->out.length=z.length:=by
 intro ps
 induction ps with
 | nil=>intro z out h;cases h;rfl
 | cons p ps ih=>
  intro z out h;obtain ⟨off,size,v⟩:=p;simp only[at7] at h;split at h
  ·rename_i hc;rw[ih _ _ h,ah3 (by omega)]
  ·cases h
theorem gl9 {t:TypeId}{x:Operand}{y:IX}{n:Nat}(hx:ai9 x=za y)(hl:(y.ev E fr).cs.all IV.leaf=true)(hs:Sim E ρ w σ)(hf:FR ρ w N fr a.tmps)(hn:n<=σ.next) :
  cu3 P E σ.next n ρ w a (.box t x) (.ab8 (y.ev E fr).cs) σ:=by
 have hno:ρ σ.next=.no:=hs.fresh _ (zc _);have hlv:∀i,ρ i≠.no->i≠σ.next:=λi h e=>h (by rw[e];exact hno)
 have hv:=(aa9 (a:=a) hx hs hf).nm hlv;refine cy2 hs hn (λhs0=>fe5 hx hl hs0 hf hno (zi _) hn) ?_;refine .ptr σ.next 0 (y.ev E fr).cs (y.ev E fr).cs (λh=>h rfl) (.inl (by simp[Store.put])) (by omega) (λj hj=>?_);rw[zz];exact .keep _ (hv.cs _ (ad3 _ hj))
theorem gm1 {t el:TypeId}{len:Nat}{parts:Array (Nat×Operand)}{z out:List IV}{ps:List (Nat×Nat×IX)}{esz n:Nat}(hu:P.underlying t=za (.slice el))(hsz:szT P el=za esz)(hpos:0<esz)(hz:bk7 P el=za z)(hzl:z.length=esz)
  (hbig:len*esz<=2^24) (hp:ay5 P (λi=>za (i*esz,esz)) parts.toList=za ps) (hv:at7 (rep z len) (ps.map λp=>(p.1,p.2.1,p.2.2.ev E fr))=za out)
  (hs:Sim E ρ w σ) (hf:FR ρ w N fr a.tmps) (hn:n<=σ.next) :
  cu3 P E σ.next n ρ w a (.buildSlice t len parts) (.aa3 (chunk esz len out)) σ:=by
 have hno:ρ σ.next=.no:=hs.fresh _ (zc _);have hlv:∀i,ρ i≠.no->i≠σ.next:=λi h e=>h (by rw[e];exact hno)
 obtain ⟨zr,hzr,hcr⟩:=aq8 (w:=w) (ρ:=ρ) hz;obtain ⟨hl,hpl⟩:=bk8 (a:=a) parts.toList ps hp hs hf;have hol:out.length=len*esz:=by rw[ei9 _ _ _ hv,ar3,hzl]
 have hnm:∀c∈out,Nm (λi=>i≠σ.next) c:=hu7 _ _ _ hv (ip8 (λc hc=>by
   obtain ⟨i,hi,rfl⟩:=ai1 (d:=.undef) hc;exact (hcr.2 i hi).nm hlv) _) (λp hp'=>by
   obtain ⟨i,hi,rfl⟩:=ai1 (d:=(0,0,.undef)) hp';exact (hpl i (by simpa using hi)).2.nm hlv)
 refine cy2 hs hn (λhs0=>fe6 hu hsz hpos hz hzl hbig hp hv hs0 hf hno (zi _) hn) ?_
 have key:∀i,i<len->i*esz+esz<=out.length:=λi hi=>by
  have:(i+1)*esz<=len*esz:=zj _ (by omega);rw[zu,zt] at this;omega
 refine .slice σ.next 0 len esz out _ (λh=>h rfl) (.inr (by simp[Store.put])) (cu4 _ _ _) (by omega) (λi hi=>?_) (λi hi j hj=>?_)
 ·rw[bs3 _ _ _ _ hi];have:=key i hi;simp;omega
 ·rw[bs3 _ _ _ _ hi,getD_take' _ _ _ _ hj,an8,zz];exact .keep _ (hnm _ (ad3 _ (by have:=key i hi;omega)))
theorem gm2 {t el:TypeId}{parts:Array (Nat×Operand)}{z out:List IV}{ps:List (Nat×Nat×IX)}{esz id n:Nat}(hu:P.underlying t=za (.slice el))(hsz:szT P el=za esz)(hpos:0<esz)(hz:bk7 P el=za z)(hzl:z.length=esz)
  (hp:ay5 P (λi=>za (i*esz,esz)) parts.toList=za ps) (hv:at7 (rep z 0) (ps.map λp=>(p.1,p.2.1,p.2.2.ev E fr))=za out)
  (hs:Sim E ρ w σ) (hf:FR ρ w N fr a.tmps) (hno:ρ id=.no) (hlt:id<σ.next) (hn:n<=id) :
  cu3 P E id n ρ w a (.buildSlice t 0 parts) .ac6 (σ.put id (.row out)):=by
 intro o ho;obtain ⟨zr,hzr,hcr⟩:=aq8 (w:=w) (ρ:=ρ) hz;have hcz:=cc3 hcr 0 (.inl (by omega));rw[hzl] at hcz;obtain ⟨hl,hpl⟩:=bk8 parts.toList ps hp hs hf;obtain ⟨rout,hr,hro⟩:=ci9 (place:=λi=>za (i*esz,esz)) _ (parts.toList.map λp=>(p.1,a.eval p.2)) _ out _ hcz (by simp[hl]) (λj hj=>hpl j (by simpa using hj)) hv;have hpt:(parts.map λ(i,x)=>(i,a.eval x)).toList=parts.toList.map λp=>(p.1,a.eval p.2):=by simp
 have hol:out.length=0*esz:=by
  have:∀(ps:List (Nat×Nat×IV)) (l o:List IV),at7 l ps=za o->o.length=l.length:=by
   intro ps
   induction ps with
   | nil=>intro l o h;cases h;rfl
   | cons p ps ih=>
    intro l o h;obtain ⟨off,s,v⟩:=p;simp only[at7] at h;split at h
    ·rename_i hh;rw[ih _ _ h,ah3 (by omega)]
    ·cases h
  rw[this _ _ _ hv,ar3,hzl]
 have hsim:=cj5 (el:=el) hs hno hlt hro;refine ⟨.value (.slice (za ⟨w.heap.size,0,zg⟩) 0 0),.slice (za ⟨w.heap.size,0,zg⟩) 0 0,ρ.put id (.at w.heap.size 0),w.alloc (.cells rout el),?_,.inl rfl,hsim,?_,al6 hno hn,ah9.put _ _ _⟩
 ·unfold execOp;rw[ho];have hb:¬(0*esz>2^24):=by rw[zy];decide
  have e0:∀f:Nat->Value,(zf 0).map f=#[]:=λf=>by simp[zf]
  by_cases h0:0*esz=0
  ·have hfill:Instr.fill (λi=>za (i*esz,esz)) #[] ((parts.map λ(i,x)=>(i,a.eval x)).toList)=za rout:=by
    rw[hpt,<- hr,h0,e0]
   simp only[Instr.buildSlice,Sem.run_bind,run_underlying hu,Result.andThen_ok,run_sizeOf hsz,if_neg hb,if_pos h0,Sem.run_pure,h0,e0,hfill];simp[newRow]
  ·have hfill:Instr.fill (λi=>za (i*esz,esz)) ((zf (0*esz)).map (zr.cells[· % zr.cells.size]!)) ((parts.map λ(i,x)=>(i,a.eval x)).toList)=za rout:=by
    rw[hpt,<- hr]
   simp only[Instr.buildSlice,Sem.run_bind,run_underlying hu,Result.andThen_ok,run_sizeOf hsz,if_neg hb,if_neg h0,hzr,Sem.run_pure,hfill];simp[newRow]
 ·exact .ac6 _
theorem hu8 {t el:TypeId}{parts:Array (Nat×Operand)}{z out:List IV}{ps:List (Nat×Nat×IX)}{esz n:Nat}(hu:P.underlying t=za (.slice el))(hsz:szT P el=za esz)(hpos:0<esz)(hz:bk7 P el=za z)(hzl:z.length=esz)
  (hp:ay5 P (λi=>za (i*esz,esz)) parts.toList=za ps) (hv:at7 (rep z 0) (ps.map λp=>(p.1,p.2.1,p.2.2.ev E fr))=za out)
  (hs:Sim E ρ w σ) (hf:FR ρ w N fr a.tmps) (hn:n<=σ.next) :
  cu3 P E σ.next n ρ w a (.buildSlice t 0 parts) .ac6 σ :=
 cy2 hs hn (λhs0=>gm2 hu hsz hpos hz hzl hp hv hs0 hf (hs.fresh _ (zc _)) (zi _) hn) (.keep _ .ac6)
theorem et8 {t kt et:TypeId}{x:Operand}{ix:IX}{es:List (IV×IV)}{id n:Nat}(hu:P.underlying t=za (.map kt et))(hx:ai9 x=za ix)(he:ix.ev E fr=.al4 es)(hs:Sim E ρ w σ)(hf:FR ρ w N fr a.tmps)(hno:ρ id=.no)(hlt:id<σ.next)(hn:n<=id) :
  cu3 P E id n ρ w a (.range t x) (.ptr id 0) (σ.put id (.as1 es zg)):=by
 intro o ho;have vx:=aa9 (a:=a) hx hs hf;rw[he] at vx;generalize hrx:a.eval x=rx at vx
 cases vx with
 | al4 _ es' b mes clock hp hd hfb hb hl hk hv h4 h5=>
  have hg:(getObj b).run P w=.ok (.map mes clock) w:=by simp[getObj,Sem.run,hb]
  have hxa:Ext 0 ρ w (ρ.put id (.at w.heap.size 0)) (w.alloc (.mapIter (za b) clock #[] clock)):=al6 hno (Nat.zero_le _);refine ⟨.value (.pointer (za ⟨w.heap.size,0,zg⟩)),.pointer (za ⟨w.heap.size,0,zg⟩),ρ.put id (.at w.heap.size 0),w.alloc (.mapIter (za b) clock #[] clock),?_,.inl rfl,bz1 hs hno hlt ?_,.ptr id 0 w.heap.size 0 (by simp[Rho.put]),al6 hno hn,ah9.put _ _ _⟩
  ·unfold execOp;rw[ho];simp[Instr.range,run_underlying hu,hrx,hg]
  ·have hflt:(mes.toList.filter λe=>!(#[]:Array Nat).contains e.born)=mes.toList:=by simp
   refine ⟨rfl,b,clock,#[],mes,clock,es',by show (w.heap.push _)[w.heap.size]? = _;simp,hxa.fb hfb,by rw[hxa.keep b hfb.ub];exact hb,h4,h5,rfl,by rw[hflt];simpa using hl,hp,(λc e=>by cases e),λi hi=>?_⟩;rw[hflt];have e:mes.toList.getD i default=mes.getD i default:=by simp[zb,zd]
   rw[e];exact ⟨(hk i hi).mono hxa,(hv i hi).mono hxa⟩
def bo6 (σ:Store):IV->Option (Nat×List (IV×IV))
 | .ptr id 0=>match σ.obj id with
  | some (.as1 left _)=>za (id,left)
  | _=>zg
 | _=>zg
theorem ej1:∀(ls:List MapEntry) (j:Nat),j<ls.length->ls.Pairwise (λx y=>x.born≠y.born)->(ls.filter λe=>!(e.born==(ls.getD j default).born))=ls.eraseIdx j:=by
 intro ls
 induction ls with
 | nil=>intro j h;simp at h
 | cons x xs ih=>
  intro j hj hp;obtain ⟨h1,h2⟩:=List.pairwise_cons.1 hp
  cases j with
  | zero=>
   simp only[List.getD_cons_zero,List.eraseIdx_cons_zero];rw[List.filter_cons_of_neg (by simp)];refine z2.2 λy hy=>?_
   have:=h1 y hy
   simp;omega
  | succ j=>
   simp only[zn,zx];have hj':j<xs.length:=by simpa using hj
   have hx:=h1 _ (ad3 default hj');have hne:x.born≠(xs.getD j default).born:=by omega
   rw[List.filter_cons_of_pos (by simpa using hne),ih j hj' h2]
theorem dx9 {mes:Array MapEntry}(h5:∀i j,i<j->j<mes.size->(mes.getD i default).born≠(mes.getD j default).born):mes.toList.Pairwise (λx y=>x.born≠y.born):=by
 rw[List.pairwise_iff_getElem];intro i j hi hj hij;have:=h5 i j hij (by simpa using hj);rw[ae4 _ _ _ (by simpa using hi),ae4 _ _ _ (by simpa using hj)] at this
 simpa using this
theorem et9 {n:Nat}(hn:0<n):∃k,k<n/\((choose (.mapNext n)).run P w=.ok k w\/(choose (.mapNext n)).run P w=.ok k w.drew):=by
 by_cases h1:n<=1
 ·exact ⟨0,hn,.inl (by simp[choose,Sem.run,Question.forced,h1])⟩
 ·have hf:(Question.mapNext n).forced=false:=by simp only[Question.forced];simpa using h1
  refine ⟨w.tape w.drawn (.mapNext n)%n,Nat.mod_lt _ hn,.inr ?_⟩;show Sem.run P (.choose (.mapNext n) .pure) w=_;unfold Sem.run;rw[hf];rfl
theorem Ext.le0 {n:Nat}(h:Ext n ρ w ρ' w'):Ext 0 ρ w ρ' w' :=
 ⟨h.size,h.keep,h.shape,h.img,h.at_,h.dead,λi hi=>absurd hi (Nat.not_lt_zero _),h.output,h.os,h.tape,h.loops,h.X⟩
theorem dl4 {α:Type}(d:α):∀(l:List α) (k:Nat),k<l.length->(l.getD k d::l.eraseIdx k).Perm l:=by
 intro l
 induction l with
 | nil=>intro k h;simp at h
 | cons a l ih=>
  intro k h
  cases k with
  | zero=>simp
  | succ k=>
   simp only[zn,zx];exact (List.Perm.swap _ _ _).trans ((ih k (by simpa using h)).cons a)
theorem fs4 {x:Operand} {ix:IX} {id n id0:Nat} {left:List (IV×IV)} (hx:ai9 x=za ix) (h:bo6 σ (ix.ev E fr)=za (id,left)) (hs:Sim E ρ w σ) (hf:FR ρ w N fr a.tmps) :
  (left=[]/\cu3 P E id0 n ρ w a (.next x false) (.tuple [.bool false]) σ) \/
  ∃j,j<left.length/\cu3 P E id0 n ρ w a (.next x false) (.tuple [.bool true,(left.getD j (.undef,.undef)).1,(left.getD j (.undef,.undef)).2]) (σ.put id (.as1 (left.eraseIdx j) (za (left.getD j (.undef,.undef))))):=by
 have vx:=aa9 (a:=a) hx hs hf;generalize ix.ev E fr=ax at vx h;generalize hrx:a.eval x=rx at vx
 cases vx with
 | ptr id' off B d hid=>
  unfold bo6 at h;split at h
  ·rename_i id1 heq;cases heq;split at h
   ·rename_i left' hob;cases h;obtain ⟨ob,hob',hor⟩:=hs.obj _ B d hid;rw[hob] at hob';cases hob';obtain ⟨hd,mb,clock,seen,mes,ck,lft,h1,h2,h3,h4,h5,h6,h7,h8,hc0,h9⟩:=hor;subst hd;subst h6;have hgm:∀w',w'.heap=w.heap->(getObj mb).run P w'=.ok (.map mes clock) w':=λw' e=>by simp[getObj,Sem.run,e,h3]
    have hgi:(getObj B).run P w=.ok (.mapIter (za mb) clock seen clock) w:=by simp[getObj,Sem.run,h1]
    have hborn:∀e∈mes.toList,e.born<clock:=λe he=>by
     obtain ⟨i,hi,rfl⟩:=ai1 (d:=default) he;have:=h4 i (by simpa using hi)
     simpa [zb,zd] using this
    have hnot:(!seen.isEmpty&&!mes.isEmpty&&mes.all (·.born≥clock))=false:=by
     by_cases hm:mes.isEmpty=true
     ·simp[hm]
     ·have:0<mes.size:=by
       rcases Nat.eq_zero_or_pos mes.size with h|h
       ·exact absurd (by simpa [Array.isEmpty] using h) hm
       ·exact h
      have h0:=h4 0 this
      have:mes.all (·.born≥clock)=false:=by
       rw[Bool.eq_false_iff];intro hall;rw[Array.all_eq_true] at hall;have:=hall 0 this;rw[ae4 _ _ _ (by assumption)] at h0;simp at this;omega
      simp[this]
    generalize hls:(mes.toList.filter λe=>!seen.contains e.born)=ls at h7 h9;have hleftA:(mes.filter λe=>!seen.contains e.born).toList=ls:=by rw[<- hls];simp
    have hold:((mes.filter λe=>!seen.contains e.born).filter (·.born<clock)).toList=ls:=by
     rw[z1,hleftA]
     exact z2.2 λe he=>by
      have:e∈mes.toList:=by rw[<- hls] at he;exact (zv.1 he).1
      simpa using hborn e this
    have hnew:((mes.filter λe=>!seen.contains e.born).filter (·.born≥clock)).toList=[]:=by
     rw[z1,hleftA]
     exact List.filter_eq_nil_iff.2 λe he=>by
      have:e∈mes.toList:=by rw[<- hls] at he;exact (zv.1 he).1
      have:=hborn e this;simp;omega
    have hO:((mes.filter λe=>!seen.contains e.born).filter (·.born<clock))=ls.toArray:=by rw[<- hold]
    have hN:((mes.filter λe=>!seen.contains e.born).filter (·.born≥clock))=#[]:=by
     apply Array.toList_inj.1;rw[hnew]
    by_cases he:ls=[]
    ·left;have hl0:left=[]:=ze.1 (by rw[<- h8.length_eq,h7,he];rfl);refine ⟨hl0,?_⟩;intro o ho;have hch:(choose (.mapNext 1)).run P w=.ok 0 w:=by simp[choose,Sem.run,Question.forced]
     refine ⟨.value (.tuple #[.bool false]),.tuple #[.bool false],ρ,w,?_,.inl rfl,hs,?_,Ext.refl _ _ _,ah9.refl _ _⟩
     ·unfold execOp;rw[ho];simp only[hrx,Instr.next,Sem.run_bind,zl,hgi,Result.andThen_ok,hgm w rfl,hnot,zk,if_false,hO,hN];have hc2:((if ls.toArray.isEmpty=true then #[zg] else #[])++(ls.toArray++#[]).map za:Array (Option MapEntry))=#[zg]:=by rw[he];simp
      simp only[hc2];have hc:(choose (.mapNext (#[zg]:Array (Option MapEntry)).size)).run P w=.ok 0 w:=hch;simp only[hc,Sem.run_pure,Result.andThen_ok];simp
     ·refine .tuple _ _ rfl λi hi=>?_
      match i,hi with
      | 0,_=>exact .bool false
    ·right;have hpos:0<ls.length:=by cases ls with|nil=>exact absurd rfl he|cons _ _=>simp
     have hne:ls.toArray.isEmpty=false:=by cases ls with|nil=>exact absurd rfl he|cons _ _=>simp
     obtain ⟨k,hk,hch⟩:=et9 (P:=P) (w:=w) (n:=ls.length) hpos;have hkl:k<lft.length:=by omega
     obtain ⟨j,hj,hje⟩:=ai1 (d:=((.undef,.undef):IV×IV)) (h8.subset (ad3 (.undef,.undef) hkl))
     have hpe:(lft.eraseIdx k).Perm (left.eraseIdx j):=by
      have p1:=dl4 ((.undef,.undef):IV×IV) lft k hkl;have p2:=dl4 ((.undef,.undef):IV×IV) left j hj;rw[hje] at p2;exact List.Perm.cons_inv ((p1.trans h8).trans p2.symm)
     refine ⟨j,hj,?_⟩;rw[hje];intro o ho;have hp:ls.Pairwise (λx y=>x.born≠y.born):=by rw[<- hls];exact (dx9 h5).sublist List.filter_sublist
     have hc2:((if ls.toArray.isEmpty=true then #[zg] else #[])++(ls.toArray++#[]).map za:Array (Option MapEntry))=(ls.map za).toArray:=by
      rw[hne];simp
     have hck:((ls.map za).toArray)[k]? = za (za (ls.getD k default)):=by
      simp[zb,hk]
     have nc:∀(rcs:Array Value) (el:TypeId) (fz:Nat×Nat),Obj.mapIter (za mb) clock seen clock≠.cells rcs el fz:=λ_ _ _ h=>by cases h
     have nl:∀L,Obj.mapIter (za mb) clock seen clock≠.loop L:=λ_ h=>by cases h
     have fin:∀w1:World,w1.heap=w.heap->Sim E ρ w1 σ->Ext n ρ w ρ w1->(choose (.mapNext ls.length)).run P w=.ok k w1 ->
       ∃(x:Next) (r:Value) (ρ':Rho) (w':World),(execOp a.eval o).run P w=.ok x w'/\((x=.value r)\/(x=.skip/\r=undef))/\Sim E ρ' w' (σ.put id (.as1 (left.eraseIdx j) (za (lft.getD k (.undef,.undef))))) /\
        VR ρ' w' (.tuple [.bool true,(lft.getD k (.undef,.undef)).1,(lft.getD k (.undef,.undef)).2]) r/\Ext n ρ w ρ' w'/\ah9 id0 ρ ρ':=by
      intro w1 hw1 hs1 hx1 hch;have hset:∀ob,(setObj B ob).run P w1=.ok () (w1.putObj B ob):=λob=>by simp[setObj,Sem.run,hw1,h1,World.putObj]
      have h1':w1.heap[B]? = za (.mapIter (za mb) clock seen clock):=by rw[hw1];exact h1
      have hmB:mb≠B:=λe=>by rw[e,h1] at h3;cases h3
      have hxp:∀m (ob:Obj),Ext m ρ w1 ρ (w1.putObj B ob):=λm ob=>bh6 hid h1' nc nl
      have hx1':Ext 0 ρ w ρ w1:=hx1.le0;refine ⟨.value (.tuple #[.bool true,(ls.getD k default).key,(ls.getD k default).val]),.tuple #[.bool true,(ls.getD k default).key,(ls.getD k default).val],ρ,w1.putObj B (.mapIter (za mb) clock (seen.push (ls.getD k default).born) clock),?_,.inl rfl,cj6 hs1 hid h1' nc nl ?_,?_,hx1.trans (hxp n _) (zc _),ah9.refl _ _⟩
      ·unfold execOp;rw[ho];simp only[hrx,Instr.next,Sem.run_bind,zl,hgi,Result.andThen_ok,hgm w rfl,hnot,zk,if_false,hO,hN,hc2];have hc:(choose (.mapNext (ls.map za).toArray.size)).run P w=.ok k w1:=by simpa using hch
       simp only[hc,Result.andThen_ok,hck,hset,Sem.run_pure,Sem.run_bind]
      ·have hxa:Ext 0 ρ w ρ (w1.putObj B (.mapIter (za mb) clock (seen.push (ls.getD k default).born) clock)):=hx1'.trans (hxp 0 _) (zc _)
       have hflt:(mes.toList.filter λe=>!(seen.push (ls.getD k default).born).contains e.born)=ls.eraseIdx k:=by
        rw[<- ej1 ls k hk hp];generalize (ls.getD k default).born=bb;rw[<- hls,List.filter_filter];congr 1;funext e;rw[Bool.eq_iff_iff];simp[and_comm,not_or]
       refine ⟨rfl,mb,clock,_,mes,clock,lft.eraseIdx k,World.putObj_heap_same (hs1.lt _ _ _ hid),hxa.fb h2,?_,h4,h5,rfl,?_,hpe,?_,λi hi=>?_⟩
       ·rw[World.putObj_heap_other hmB,hw1];exact h3
       ·rw[hflt,zm,zm,h7]
       ·intro c hc1;obtain rfl:=za.inj hc1
        have hm:ls.getD k default∈mes.toList:=by
         have:=ad3 (default:MapEntry) hk;rw[<- hls] at this ⊢;exact (zv.1 this).1
        obtain ⟨i,hi,hie⟩:=ai1 (d:=(default:MapEntry)) hm;have e:mes.getD i default=ls.getD k default:=by rw[<- hie];simp[zb,zd]
        refine ⟨i,by simpa using hi,?_,?_,?_⟩
        ·rw[e];simp
        ·rw[e];exact (h9 k hkl).1.mono hxa
        ·rw[e];exact (h9 k hkl).2.mono hxa
       ·rw[hflt]
        have e1:∀ {α:Type} (l:List α) (d:α),(l.eraseIdx k).getD i d=l.getD (if i<k then i else i+1) d:=λl d=>by
         simp only[zb,List.getElem?_eraseIdx];split<;>simp
        rw[e1,e1]
        have hi':i<lft.length-1:=by
         rw[zm,if_pos hkl] at hi;exact hi
        have:=h9 (if i<k then i else i+1) (by split<;>omega);exact ⟨this.1.mono hxa,this.2.mono hxa⟩
      ·have hxa:Ext 0 ρ w ρ (w1.putObj B (.mapIter (za mb) clock (seen.push (ls.getD k default).born) clock)):=hx1'.trans (hxp 0 _) (zc _);refine .tuple _ _ rfl λi hi=>?_
       match i,hi with
       | 0,_=>exact .bool true
       | 1,_=>exact (h9 k hkl).1.mono hxa
       | 2,_=>exact (h9 k hkl).2.mono hxa
     rcases hch with hch|hch
     ·exact fin w rfl hs (Ext.refl _ _ _) hch
     ·exact fin w.drew rfl (cy1 hs) (ba7 n) hch
   ·cases h
  ·cases h
 | cx8 id' off ad hid=>
  unfold bo6 at h;split at h
  ·rename_i id1 heq;cases heq;rw[hs.dead _ hid] at h;cases h
  ·cases h
 | _=>simp[bo6] at h
def cw4 (σ:Store):IV->Option IV
 | .ptr id 0=>match σ.obj id with
  | some (.as1 _ (za c))=>za (.tuple [c.1,c.2])
  | _=>zg
 | _=>zg
theorem gm3 {x:Operand}{ix:IX}{n id0:Nat}{v:IV}(hx:ai9 x=za ix)(h:cw4 σ (ix.ev E fr)=za v)(hs:Sim E ρ w σ)(hf:FR ρ w N fr a.tmps):cu3 P E id0 n ρ w a (.entry x) v σ:=by
 have vx:=aa9 (a:=a) hx hs hf;generalize ix.ev E fr=ax at vx h;generalize hrx:a.eval x=rx at vx
 cases vx with
 | ptr id' off B d hid=>
  unfold cw4 at h;split at h
  ·rename_i id1 heq;cases heq;split at h
   ·rename_i left c hob;cases h;obtain ⟨ob,hob',hor⟩:=hs.obj _ B d hid;rw[hob] at hob';cases hob';obtain ⟨hd,mb,clock,seen,mes,ck,lft,h1,h2,h3,h4,h5,h6,h7,h8,hc,h9⟩:=hor;subst hd;subst h6;obtain ⟨i,g1,g2,g3,g4⟩:=hc c rfl;intro o ho;refine ⟨.value (.tuple #[(mes.getD i default).key,(mes.getD i default).val]),.tuple #[(mes.getD i default).key,(mes.getD i default).val],ρ,w,?_,.inl rfl,hs,?_,Ext.refl _ _ _,ah9.refl _ _⟩
    ·have hgm:(getObj mb).run P w=.ok (.map mes clock) w:=by simp[getObj,Sem.run,h3]
     have hgi:(getObj B).run P w=.ok (.mapIter (za mb) clock seen clock) w:=by simp[getObj,Sem.run,h1]
     have hfind:mes.find? (λe=>e.born==(mes.getD i default).born)=za (mes.getD i default):=by
      rw[<- Array.find?_toList];have hi':i<mes.toList.length:=by simpa using g1
      have hmem:mes.getD i default∈mes.toList:=by
       have:=ad3 (default:MapEntry) hi'
       simpa [zb,zd] using this
      cases hq:mes.toList.find? (λe=>e.born==(mes.getD i default).born) with
      | none=>exact absurd (List.find?_eq_none.1 hq _ hmem) (by simp)
      | some e=>
       have he:=List.mem_of_find?_eq_some hq;have hb:e.born=(mes.getD i default).born:=by simpa using List.find?_some hq
       obtain ⟨j,hj,hje⟩:=ai1 (d:=(default:MapEntry)) he;have ej:mes.getD j default=e:=by rw[<- hje];simp[zb,zd]
       have hj':j<mes.size:=by simpa using hj
       rw[<- ej] at hb ⊢;congr 1;rcases Nat.lt_trichotomy j i with h|h|h
       ·have:=h5 j i h g1;omega
       ·rw[h]
       ·have:=h5 i j h hj';omega
     unfold execOp;rw[ho];simp only[hrx,Instr.entry,Sem.run_bind,zl,hgi,Result.andThen_ok,g2,hgm,bne_self_eq_false,zk,if_false,hfind,Sem.run_pure]
    ·refine .tuple _ _ rfl λi hi=>?_
     match i,hi with
     | 0,_=>exact g3
     | 1,_=>exact g4
   ·cases h
  ·cases h
 | cx8 id' off ad hid=>
  unfold cw4 at h;split at h
  ·rename_i id1 heq;cases heq;rw[hs.dead _ hid] at h;cases h
  ·cases h
 | _=>simp[cw4] at h
end Go.Id
namespace Go.Id
open Go
variable {P:Program} {w w':World} {ρ ρ':Rho} {E:Nat->IV} {σ σ':Store} {N:Nat} {fr:Frm} {a:Act}
theorem eu1 {t:TypeId}{m k v:Operand}{x:IV}{id n:Nat}(h:cu3 P E id n ρ w a (.mapUpdate t m k v) x σ'):cu3 P E id n ρ w a (.insert t m k v) x σ':=by
 intro o ho;obtain ⟨y,r,ρ',w',hrun,rest⟩:=h { o with op:=.mapUpdate t m k v } rfl;refine ⟨y,r,ρ',w',?_,rest⟩;rw[<- hrun];unfold execOp;rw[ho]
def db2:IV->Option Nat
 | .int _ n=>if 0<=n/\n<=2147483648 then za n.toNat else zg
 | _=>zg
def db3:Operand->Operand->Bool
 | .tmp a,.tmp b=>a==b
 | .const (.int k n),.const (.int k' n')=>decide (k=k')&&decide (n=n')
 | _,_=>false
theorem fs5 {x y:Operand}(h:db3 x y=true):y=x:=by
 unfold db3 at h;split at h
 ·simp at h;rw[h]
 ·simp at h;rw[h.1,h.2]
 ·cases h
theorem ej2 {t el:TypeId}{x y:Operand}{ix:IX}{i:TypeInfo}{z:List IV}{len id n:Nat}(hu:P.underlying t=za (.slice el))(hi:P.info? el=za i)(hz:bk7 P el=za z)(hzl:z.length=i.size)(hpos:0<i.size)(hb:i.bytes<=4096)
  (hx:ai9 x=za ix) (hy:db3 x y=true) (h:db2 (ix.ev E fr)=za len) (hs:Sim E ρ w σ) (hf:FR ρ w N fr a.tmps) (hno:ρ id=.no) (hlt:id<σ.next) (hn:n<=id) :
  cu3 P E id n ρ w a (.makeSlice t x y) (.slice id 0 len i.size) (σ.put id (.row (rep z len))):=by
 intro o ho;rw[fs5 hy] at ho;have vx:=aa9 (a:=a) hx hs hf;generalize ix.ev E fr=ax at vx h;generalize hrx:a.eval x=rx at vx;unfold db2 at h;split at h
 ·rename_i k m;split at h
  ·rename_i hm;cases h;cases vx;obtain ⟨zr,hzr,hcr⟩:=aq8 (w:=w) (ρ:=ρ) hz;have hcz:=cc3 hcr m.toNat (.inl (by omega));rw[hzl] at hcz
   have hwr:IntKind.i64.wrap m=m:=by
    simp[IntKind.wrap,IntKind.bits,IntKind.signed];omega
   have hsim:=cj5 (el:=el) hs hno hlt hcz;have hsz:szT P el=za i.size:=by simp[szT,hi]
   have hbig:¬((i.bytes:Int)*m>2^48):=by
    have h1:(i.bytes:Int)*m<=4096*2147483648:=Int.mul_le_mul (by omega) hm.2 hm.1 (by omega);omega
   refine ⟨.value (.slice (za ⟨w.heap.size,0,zg⟩) m.toNat m.toNat),.slice (za ⟨w.heap.size,0,zg⟩) m.toNat m.toNat,ρ.put id (.at w.heap.size 0),w.alloc (.cells ((zf (m.toNat*i.size)).map (zr.cells[· % zr.cells.size]!)) el),?_,.inl rfl,hsim,?_,al6 hno hn,ah9.put _ _ _⟩
   ·unfold execOp;rw[ho];have hti:(typeInfo el).run P w=.ok i w:=by simp[typeInfo,hi]
    have h0:decide (m<0)=false:=by simp;omega
    have h1:decide ((i.bytes:Int)*m>2^48)=false:=by simpa using hbig
    simp only[hrx,Instr.makeSlice,Sem.run_bind,run_underlying hu,Result.andThen_ok,asInt,asIntOf,Sem.run_pure,hti,hwr,h0,h1,Bool.or_false,Bool.false_or];have h2:decide (m>m)=false:=by simp
    simp only[h2,zk,if_false,Sem.run_bind,run_askRoom,Result.andThen_ok,run_sizeOf hsz,Sem.run_pure];by_cases h3:m.toNat*i.size=0
    ·have e0:∀f:Nat->Value,(zf 0).map f=#[]:=λf=>by simp[zf]
     simp only[h3,if_true,Sem.run_pure,Result.andThen_ok,e0];simp[newRow]
    ·simp only[h3,if_false,Sem.run_bind,hzr,Result.andThen_ok,Sem.run_pure];simp[newRow]
   ·exact .slice id 0 m.toNat i.size w.heap.size 0 m.toNat ((zf (m.toNat*i.size)).map (zr.cells[· % zr.cells.size]!)) el (0,0) (by simp[Rho.put]) (by show (w.heap.push _)[w.heap.size]? = _;simp) (by simp) (zc _)
  ·cases h
 ·cases h
theorem fs6 {t el:TypeId}{x y:Operand}{ix:IX}{i:TypeInfo}{z:List IV}{len n:Nat}(hu:P.underlying t=za (.slice el))(hi:P.info? el=za i)(hz:bk7 P el=za z)(hzl:z.length=i.size)(hpos:0<i.size)(hb:i.bytes<=4096)
  (hx:ai9 x=za ix) (hy:db3 x y=true) (h:db2 (ix.ev E fr)=za len) (hs:Sim E ρ w σ) (hf:FR ρ w N fr a.tmps) (hn:n<=σ.next) :
  cu3 P E σ.next n ρ w a (.makeSlice t x y) (.aa3 (chunk i.size len (rep z len))) σ:=by
 have hno:ρ σ.next=.no:=hs.fresh _ (zc _);have hlv:∀i,ρ i≠.no->i≠σ.next:=λi h e=>h (by rw[e];exact hno)
 obtain ⟨zr,hzr,hcr⟩:=aq8 (w:=w) (ρ:=ρ) hz;have hol:(rep z len).length=len*i.size:=by rw[ar3,hzl]
 have hnm:∀c∈rep z len,Nm (λi=>i≠σ.next) c:=ip8 (λc hc=>by
   obtain ⟨i,hi,rfl⟩:=ai1 (d:=.undef) hc;exact (hcr.2 i hi).nm hlv) _
 refine cy2 hs hn (λhs0=>ej2 hu hi hz hzl hpos hb hx hy h hs0 hf hno (zi _) hn) ?_
 have key:∀j,j<len->j*i.size+i.size<=(rep z len).length:=λj hj=>by
  have:(j+1)*i.size<=len*i.size:=zj _ (by omega);rw[zu,zt] at this;omega
 refine .slice σ.next 0 len i.size (rep z len) _ (λh=>h rfl) (.inr (by simp[Store.put])) (cu4 _ _ _) (by omega) (λj hj=>?_) (λj hj k hk=>?_)
 ·rw[bs3 _ _ _ _ hj];have:=key j hj;simp;omega
 ·rw[bs3 _ _ _ _ hj,getD_take' _ _ _ _ hk,an8,zz];exact .keep _ (hnm _ (ad3 _ (by have:=key j hj;omega)))
def gm4 (σ:Store)(esz:Nat)(z:List IV):IV->Option Store
 | .aa1|.ac6=>za σ
 | .aa3 []=>za σ
 | .slice id off len e=>if len=0 then za σ else match σ.obj id with
  | some (.row cs)=>if e=esz/\off+len*esz<=cs.length/\z.all IV.leaf=true then za (σ.put id (.row (be4 cs off (rep z len)))) else zg
  | _=>zg
 | _=>zg
theorem ix5 {z:List IV}(h:z.all IV.leaf=true):∀n,(rep z n).all IV.leaf=true:=by
 intro n
 induction n with
 | zero=>rfl
 | succ n ih=>simp only[rep,List.all_append,h,ih,Bool.and_self]
theorem hu9 {t el:TypeId} {x:Operand} {ix:IX} {z:List IV} {esz n id0:Nat} (hu:P.underlying t=za (.slice el)) (hsz:szT P el=za esz) (hz:bk7 P el=za z) (hzl:z.length=esz) (hpos:0<esz)
  (hx:ai9 x=za ix) (h:gm4 σ esz z (ix.ev E fr)=za σ') (hs:Sim E ρ w σ) (hf:FR ρ w N fr a.tmps):cu3 P E id0 n ρ w a (.call { callee:=.builtin .clear,args:=#[x],argTypes:=#[t] }) .undef σ':=by
 intro o ho;have vx:=aa9 (a:=a) hx hs hf;generalize ix.ev E fr=ax at vx h;generalize hrx:a.eval x=rx at vx
 have nop:σ'=σ->(Builtin.clear_ #[t] o.type #[rx]).run P w=.ok (.tuple #[]) w ->
   ∃(x:Next) (r:Value) (ρ':Rho) (w':World),(execOp a.eval o).run P w=.ok x w'/\((x=.value r)\/(x=.skip/\r=undef))/\Sim E ρ' w' σ'/\VR ρ' w' .undef r/\Ext n ρ w ρ' w'/\ah9 id0 ρ ρ':=by
  rintro rfl hr;refine ⟨.value (.tuple #[]),.tuple #[],ρ,w,?_,.inl rfl,hs,.undef _,Ext.refl _ _ _,ah9.refl _ _⟩;unfold execOp;rw[ho];simp[resolve,invoke,builtin,hrx,hr]
 cases vx with
 | aa1=>cases h;exact nop rfl (by simp[Builtin.clear_,run_underlying hu])
 | ac6 ad=>cases h;exact nop rfl (by simp[Builtin.clear_,run_underlying hu])
 | ci3=>cases h;exact nop rfl (by simp[Builtin.clear_,run_underlying hu])
 | aa3 es b o' cap esz' sp vs hfb hsz' hc hv hle=>
  unfold gm4 at h;split at h<;>first|(cases h;done)|skip
  ·rename_i heq;cases heq
  ·rename_i heq;cases heq
  ·rename_i heq;cases heq;cases h;exact nop rfl (by simp[Builtin.clear_,run_underlying hu])
  ·rename_i heq;cases heq
 | slice id off len e B d cap rcs el' fz hid hbk hszk hle=>
  simp only[gm4] at h;split at h
  ·rename_i h0;subst h0;cases h;exact nop rfl (by simp[Builtin.clear_,run_underlying hu])
  ·rename_i h0;obtain ⟨ob,hob,hor⟩:=hs.obj id B d hid;rw[hob] at h
   cases ob with
   | row cs=>
    simp only at h;split at h
    ·rename_i hc;obtain ⟨rfl,h2,h3⟩:=hc;cases h;obtain ⟨rcs',el2,hb,hsz',hvs⟩:=hor;obtain ⟨zr,hzr,hcr⟩:=aq8 (w:=w) (ρ:=ρ) hz;have hcz:=cc3 hcr len (.inl (by omega));have hzs:zr.cells.size=e:=by rw[<- hcr.1,hzl]
     have hzc:Builtin.zeroCells zr.cells len=(zf (len*z.length)).map (zr.cells[· % zr.cells.size]!):=by
      unfold Builtin.zeroCells;rw[hzs,hzl]
     generalize (zf (len*z.length)).map (zr.cells[· % zr.cells.size]!)=news at hcz hzc;have hrl:(rep z len).length=len*e:=by rw[ar3,hzl]
     have hnl:news.size=len*e:=by rw[<- hcz.1,hrl]
     have hone:∀v∈news.toList,v.oneCell'=true:=λq hq=>by
      obtain ⟨k,hk,rfl⟩:=z0.1 hq;have hk':k<(rep z len).length:=by rw[hcz.1];simpa using hk
      have hl:((rep z len).getD k .undef).leaf=true:=List.all_eq_true.1 (ix5 h3 len) _ (ad3 _ hk');have:=(cx9 hl (hcz.2 k hk')).1;rw[ae4 _ _ _ (by simpa using hk)] at this
      simpa using this
     have hst:=run_storeCells_at (P:=P) B (d+off) el2 news.toList 0 rcs' w hb (by simp[hnl];omega) hone;simp only[zl] at hst;generalize hnew:(rcs'.toList.take (d+off)++news.toList++rcs'.toList.drop (d+off+news.toList.length)).toArray=new at hst
     have hnsz:new.size=rcs'.size:=by
      rw[<- hnew];simp[hnl];omega
     have hx:∀n,Ext n ρ w ρ (w.setRow B new):=λn=>ax1 (n:=n) (new:=new) hid hb hnsz
     refine ⟨.value (.tuple #[]),.tuple #[],ρ,w.setRow B new,?_,.inl rfl,bs2 hs hid hb hnsz ?_,.undef _,hx n,ah9.refl _ _⟩
     ·unfold execOp;rw[ho]
      cases len with
      | zero=>exact absurd rfl h0
      | succ m=>
       have hr:(Builtin.clear_ #[t] o.type #[Value.slice (za ⟨B,d+off,zg⟩) (m+1) cap]).run P w=.ok (.tuple #[]) (w.setRow B new):=by
        simp[Builtin.clear_,run_underlying hu,hzr,hzc,hst]
       simp[resolve,invoke,builtin,hrx,hr]
     ·refine ⟨new,el2,setRow_heap w B rcs' new el2 (0,0) hb,?_,?_⟩
      ·rw[hnsz,ah3 (by omega)];exact hsz'
      ·intro i hi;rw[ah3 (by omega)] at hi
       have:=jl7 (w:=w) (ρ:=ρ) (cs:=cs) (vs:=rep z len) (old:=rcs') (news:=news.toList) (d:=d) (k:=off) hvs hsz' (by simp[hrl,hnl])
        (λi hi=>by have:=hcz.2 i hi;simpa [zd,zb] using this) (by omega) i hi
       rw[hnew] at this;exact this.mono (hx 0)
    ·cases h
   | _=>cases h
 | am6 id off e B d ad hid=>
  simp only[gm4] at h
  cases h;exact nop rfl (by simp[Builtin.clear_,run_underlying hu])
 | al5 id off len e cap ad hid hle=>
  simp only[gm4] at h;split at h
  ·rename_i h0;subst h0;cases h;exact nop rfl (by simp[Builtin.clear_,run_underlying hu])
  ·rw[hs.dead id hid] at h;cases h
 | _=>simp[gm4] at h
end Go.Id
namespace Go.Id
open Go
variable {P:Program} {w w' w'':World} {ρ ρ' ρ'':Rho} {E:Nat->IV} {σ σ':Store} {N:Nat} {fr:Frm} {a:Act}
inductive SK where
 | ks3 (tag:Nat)
 | nev
 | cpy (esz:Nat)
 | sl3 (esz:Nat) (chk:Bool)
 | rlp (esz:Nat)
 | apr (esz:Nat)
 deriving Inhabited
def stI (_:SK)(_:Nat)(_:Store)(_:List IV):Option (IV×Store):=zg
theorem dy1 {k:SK}{id:Nat}{vs:List IV}{v:IV}(h:stI k id σ vs=za (v,σ')):σ'.next=σ.next :=
 nomatch (show (zg:Option (IV×Store))=za (v,σ') from h)
theorem eu2 {len cap l h m:Nat}{rlo:Option Value}{rh rm:Value}(hl:(rlo=zg/\l=0)\/∃k,rlo=za (.int k (l:Int)))(hh:∃k,rh=.int k (h:Int))(hm:∃k,rm=.int k (m:Int))(h1:l<=h)(h2:h<=m)(h3:m<=cap) :
  (Instr.sliceBounds true len cap rlo (za rh) (za rm)).run P w=.ok (l,h,m) w:=by
 obtain ⟨k1,rfl⟩:=hh;obtain ⟨k2,rfl⟩:=hm;have a1:(h:Int)<=(m:Int):=by omega
 have a2:(m:Int)<=(cap:Int):=by omega
 have a3:(l:Int)<=(h:Int):=by omega
 rcases hl with ⟨rfl,rfl⟩|⟨k,rfl⟩
 ·have:¬m<h:=by omega
  simp[Instr.sliceBounds,Instr.sliceBound,asIntOf,a2,h2,this]
 ·simp[Instr.sliceBounds,Instr.sliceBound,asIntOf,a2,h1,h2]
theorem hv8 {t el:TypeId}{x oh om:Operand}{olo:Option Operand}{ix ilo ih im:IX}{esz id n:Nat}{v:IV}(hu:P.underlying t=za (.slice el))(hsz:szT P el=za esz)
  (hx:ai9 x=za ix) (hlo:(olo=zg/\ilo=.c (.int .i64 0))\/∃o,olo=za o/\ai9 o=za ilo) (hh:ai9 oh=za ih) (hm:ai9 om=za im)
  (h:kb3 esz (ix.ev E fr) (ilo.ev E fr) (ih.ev E fr) (im.ev E fr)=za v) (hs:Sim E ρ w σ) (hf:FR ρ w N fr a.tmps) :
  cu3 P E id n ρ w a (.slice t x olo (za oh) (za om)) v σ:=by
 intro o ho;have vx:=aa9 (a:=a) hx hs hf;have vh:=aa9 (a:=a) hh hs hf;have vm:=aa9 (a:=a) hm hs hf;unfold kb3 at h;split at h
 ·rename_i hb m e1 e2 e3
  have bl:(olo.map a.eval=zg/\0=0)\/∃k,olo.map a.eval=za (.int k ((0:Nat):Int)):=by
   rcases hlo with ⟨rfl,rfl⟩|⟨o2,rfl,ho2⟩
   ·exact .inl ⟨rfl,rfl⟩
   ·obtain ⟨k,hk⟩:=br8 e1 (aa9 (a:=a) ho2 hs hf);exact .inr ⟨k,by simp[hk]⟩
  have bh:=br8 e2 vh;have bm:=br8 e3 vm;generalize ix.ev E fr=ax at vx h;generalize hrx:a.eval x=rx at vx
  have run:∀(ad:Option Addr) (len cap:Nat),rx=.slice ad len cap->hb<=m->m<=cap->(execOp a.eval o).run P w=.ok (.value (.slice (if m=0 then ad else ad.map (·.add (0*esz))) (hb-0) (m-0))) w:=by
   intro ad len cap hr a2 a3;have hbd:=eu2 (P:=P) (w:=w) (len:=len) bl bh bm (Nat.zero_le _) a2 a3;unfold execOp;rw[ho];simp only[hrx,hr,zp];simp[Instr.sliceAt,Instr.slice,run_underlying hu,hbd,run_sizeOf hsz]
  split at h
  ·rename_i hhm;subst hhm
   cases vx with
   | aa1=>
    simp only at h;split at h
    ·rename_i h0;cases h;subst h0;exact ⟨_,_,ρ,w,run zg 0 0 rfl (zc _) (zc _),.inl rfl,hs,.aa1,Ext.refl _ _ _,ah9.refl _ _⟩
    ·cases h
   | ac6 ad=>
    simp only at h;split at h
    ·rename_i h0;cases h;subst h0;exact ⟨_,_,ρ,w,run (za ad) 0 0 rfl (zc _) (zc _),.inl rfl,hs,.ac6 ad,Ext.refl _ _ _,ah9.refl _ _⟩
    ·cases h
   | slice did off len e B d cap rcs elt fz hid hbk hsz' hle=>
    simp only at h;split at h
    ·rename_i hc;obtain ⟨rfl,hhl⟩:=hc;have hr:=run (za ⟨B,d+off,zg⟩) len cap rfl (zc _) (by omega);split at h
     ·rename_i h0;cases h;subst h0;exact ⟨_,_,ρ,w,hr,.inl rfl,hs,.ac6 _,Ext.refl _ _ _,ah9.refl _ _⟩
     ·rename_i h0;cases h;refine ⟨_,_,ρ,w,hr,.inl rfl,hs,?_,Ext.refl _ _ _,ah9.refl _ _⟩;rw[if_neg h0,zp,ay8,zy,zl,Nat.sub_zero];have h2:hb*e<=cap*e:=zj _ (by omega);exact .ag6 did off hb e B d rcs elt fz hid hbk (by omega)
    ·cases h
   | am6 did off e B d ad hid=>
    simp only at h;split at h
    ·rename_i hc;obtain ⟨rfl,hhl⟩:=hc;have hb0:hb=0:=by omega
     subst hb0;simp only[if_true] at h;cases h;exact ⟨_,_,ρ,w,run (za ad) 0 0 rfl (zc _) (zc _),.inl rfl,hs,.ac6 ad,Ext.refl _ _ _,ah9.refl _ _⟩
    ·cases h
   | al5 did off len e cap ad hid hle=>
    simp only at h;split at h
    ·rename_i hc;obtain ⟨rfl,hhl⟩:=hc;have hr:=run (za ad) len cap rfl (zc _) (by omega);split at h
     ·rename_i h0;cases h;subst h0;exact ⟨_,_,ρ,w,hr,.inl rfl,hs,.ac6 _,Ext.refl _ _ _,ah9.refl _ _⟩
     ·rename_i h0;cases h;refine ⟨_,_,ρ,w,hr,.inl rfl,hs,?_,Ext.refl _ _ _,ah9.refl _ _⟩;rw[if_neg h0,zp,zy,Nat.sub_zero];exact .aq3 did off hb e _ hid
    ·cases h
   | _=>simp at h
  ·cases h
 ·cases h
end Go.Id
namespace Go.Id
open Go
structure bg5 (n:Nat) (ρ:Rho) (w:World) (ρ':Rho) (w':World):Prop where
 size:w.heap.size<=w'.heap.size
 keep:∀b,UB ρ w b->w'.heap[b]? = w.heap[b]?
 shape:∀(b:Nat) (rcs:Array Value) (el:TypeId) (fz:Nat×Nat),w.heap[b]? = za (.cells rcs el fz)->∃rcs':Array Value,w'.heap[b]? = za (.cells rcs' el fz)/\rcs'.size=rcs.size
 img:∀i B d,ρ' i=.at B d->(∃j d',ρ j=.at B d')\/w.heap.size<=B
 at_:∀i B d,i<n->ρ i=.at B d->ρ' i=.at B d\/ρ' i=.dead
 dead:∀i,i<n->ρ i=.dead->ρ' i=.dead
 no:∀i,i<n->ρ i=.no->ρ' i=.no
 output:w'.output=w.output
 os:w'.os=w.os
 tape:w'.tape=w.tape/\w.drawn<=w'.drawn
 loops:∀(l:Nat) (L:Loop),w.heap[l]? = za (Obj.loop L)->∃L':Loop,w'.heap[l]? = za (Obj.loop L')
 X:ρ'.X=ρ.X
variable {P:Program} {w w' w'':World} {ρ ρ' ρ'':Rho} {E:Nat->IV} {σ σ':Store} {N n n':Nat} {fr:Frm} {a:Act}
theorem Ext.weak (h:Ext n ρ w ρ' w')(hn:n'<=n):bg5 n' ρ w ρ' w' :=
 ⟨h.size,h.keep,h.shape,h.img,λi B d _ hi=>h.at_ i B d hi,λi _ hi=>h.dead i hi,λi hi h0=>h.no i (zh hi hn) h0,h.output,h.os,h.tape,h.loops,h.X⟩
theorem bg5.refl (n:Nat)(ρ:Rho)(w:World):bg5 n ρ w ρ w:=(Ext.refl n ρ w).weak (zc _)
theorem bg5.le (h:bg5 n ρ w ρ' w')(hn:n'<=n):bg5 n' ρ w ρ' w' :=
 ⟨h.size,h.keep,h.shape,h.img,λi B d hi=>h.at_ i B d (zh hi hn),λi hi=>h.dead i (zh hi hn),λi hi=>h.no i (zh hi hn),h.output,h.os,h.tape,h.loops,h.X⟩
theorem bg5.ub (h:bg5 n ρ w ρ' w'){b:Nat}(hb:UB ρ w b):UB ρ' w' b:=by
 refine ⟨zh hb.1 h.size,λi d hi=>?_⟩;rcases h.img i b d hi with ⟨j,d',hj⟩|hlt
 ·exact hb.2 j d' hj
 ·exact absurd hb.1 (Nat.not_lt.2 hlt)
theorem bg5.trans (h:bg5 n ρ w ρ' w')(h':bg5 n ρ' w' ρ'' w''):bg5 n ρ w ρ'' w'' where
 size:=zo h.size h'.size
 keep:=λb hb=>by rw[h'.keep b (h.ub hb),h.keep b hb]
 shape:=λb rcs el fz hb=>by
  obtain ⟨r1,h1,s1⟩:=h.shape b rcs el fz hb;obtain ⟨r2,h2,s2⟩:=h'.shape b r1 el fz h1;exact ⟨r2,h2,by rw[s2,s1]⟩
 img:=λi B d hi=>by
  rcases h'.img i B d hi with ⟨j,d',hj⟩|hlt
  ·exact h.img j B d' hj
  ·exact .inr (zo h.size hlt)
 at_:=λi B d hn hi=>by
  rcases h.at_ i B d hn hi with h1|h1
  ·exact h'.at_ i B d hn h1
  ·exact .inr (h'.dead i hn h1)
 dead:=λi hn hi=>h'.dead i hn (h.dead i hn hi)
 no:=λi hi h0=>h'.no i hi (h.no i hi h0)
 output:=by rw[h'.output,h.output]
 os:=by rw[h'.os,h.os]
 tape:=⟨by rw[h'.tape.1,h.tape.1],zo h.tape.2 h'.tape.2⟩
 loops:=λl L hl=>let ⟨L',h1⟩:=h.loops l L hl;h'.loops l L' h1
 X:=by rw[h'.X,h.X]
theorem bg5.ext (h:bg5 n ρ w ρ' w')(hf:∀i,n<=i->ρ i=.no):Ext n ρ w ρ' w' :=
 ⟨h.size,h.keep,h.shape,h.img,
  λi B d hi=>h.at_ i B d (Nat.lt_of_not_le λhle=>by rw[hf i hle] at hi;cases hi) hi,
  λi hi=>h.dead i (Nat.lt_of_not_le λhle=>by rw[hf i hle] at hi;cases hi) hi,
  h.no,h.output,h.os,h.tape,h.loops,h.X⟩
def fw (ro:Option Nat):Fence:={ Fence.wide with round:=ro }
def RO (ro:Option Nat)(w:World):Prop:=∀l,ro=za l->∃L:Loop,w.heap[l]? = za (.loop L)
inductive DF (h0:Nat) (ρ:Rho) (w:World):List Deferred->Prop
 | nil (hz:h0<=w.heap.size):DF h0 ρ w []
 | cons (r:Nat) (ds:List Deferred) (hr:w.heap[r]? = za (.deferred (za []))) (hb:UB ρ w r) (hh:h0<=r) (hn:∀d∈ds,d.target=.collected r->False) (h:DF h0 ρ w ds):DF h0 ρ w ({ target:=.collected r,args:=#[] }::ds)
theorem DF.mono {h0:Nat}{ds:List Deferred}(hx:bg5 n ρ w ρ' w')(h:DF h0 ρ w ds):DF h0 ρ' w' ds:=by
 induction h with
 | nil hz=>exact .nil (zo hz hx.size)
 | cons r ds hr hb hh hn _ ih=>exact .cons r ds (by rw[hx.keep r hb];exact hr) (hx.ub hb) hh hn ih
theorem DF.size {h0:Nat}{ds:List Deferred}(h:DF h0 ρ w ds):h0<=w.heap.size:=by
 induction h with
 | nil hz=>exact hz
 | cons r ds _ _ _ _ _ ih=>exact ih
theorem RO.mono {ro:Option Nat}(h:RO ro w)(hl:bg5 n ρ w ρ' w'):RO ro w':=λl e=>let ⟨L,h1⟩:=h l e;hl.loops l L h1
def C (P:Program)(E:Nat->IV)(f:FuncId)(args:List IV)(σ:Store)(Q:IV->Store->Prop):Prop :=
 ∀(ρ:Rho) (w:World) (rargs:Array Value),Sim E ρ w σ->CR ρ w args rargs->CallsIn Fence.wide 0 P f rargs w λe w'=>
  ∃v r ρ' σ',e=.returned r/\Q v σ'/\Sim E ρ' w' σ'/\VR ρ' w' v r/\bg5 σ.next ρ w ρ' w'
def R (P:Program)(E:Nat->IV)(N n0:Nat)(c:Code)(fr:Frm)(σ:Store)(Q:Exit->Frm->Store->Prop):Prop :=
 n0<=σ.next->∀(ro:Option Nat) (h0:Nat) (ρ:Rho) (w:World) (a:Act),Sim E ρ w σ->FR ρ w N fr a.tmps->DF h0 ρ w a.defers->RO ro w ->
  c.wpIn (fw ro) 0 P (λe a' w'=>∃fr' σ' ρ',n0<=σ'.next/\Q e fr' σ'/\Sim E ρ' w' σ'/\FR ρ' w' N fr' a'.tmps/\DF h0 ρ' w' a'.defers/\RO ro w'/\bg5 n0 ρ w ρ' w') a w
theorem C.mono {f:FuncId}{args:List IV}{Q Q':IV->Store->Prop}(h:C P E f args σ Q)(hq:∀v σ',Q v σ'->Q' v σ'):C P E f args σ Q' :=
 λρ w rargs hs hc=>(h ρ w rargs hs hc).mono λ_ _ ⟨v,r,ρ',σ',he,q,rest⟩=>⟨v,r,ρ',σ',he,hq v σ' q,rest⟩
theorem R.mono {n0:Nat}{c:Code}{Q Q':Exit->Frm->Store->Prop}(h:R P E N n0 c fr σ Q)(hq:∀e fr σ,Q e fr σ->Q' e fr σ):R P E N n0 c fr σ Q' :=
 λhn ro h0 ρ w a hs hf hd hr=>wpIn_mono (h hn ro h0 ρ w a hs hf hd hr) λ_ _ _ ⟨fr',σ',ρ',hn',q,rest⟩=>⟨fr',σ',ρ',hn',hq _ _ _ q,rest⟩
def kb4 (P:Program)(E:Nat->IV)(N n0:Nat)(y:Code)(Q:Exit->Frm->Store->Prop):Exit->Frm->Store->Prop
 | .normal,fr,σ=>R P E N n0 y fr σ Q
 | e,fr,σ=>Q e fr σ
theorem jl8 {n0:Nat}{x y:Code}{Q:Exit->Frm->Store->Prop}(h:R P E N n0 x fr σ (kb4 P E N n0 y Q)):R P E N n0 (.seq x y) fr σ Q:=by
 intro hn ro h0 ρ w a hs hf hd hr;refine wpIn_seq (wpIn_mono (h hn ro h0 ρ w a hs hf hd hr) ?_);rintro e a' w' ⟨fr',σ',ρ',hn',q,hs',hf',hd',hr',hx⟩
 cases e with
 | normal=>
  refine wpIn_mono (q hn' ro h0 ρ' w' a' hs' hf' hd' hr') ?_;rintro e a'' w'' ⟨fr'',σ'',ρ'',hn'',q',hs'',hf'',hd'',hr'',hx'⟩
  exact ⟨fr'',σ'',ρ'',hn'',q',hs'',hf'',hd'',hr'',hx.trans hx'⟩
 | _=>exact ⟨fr',σ',ρ',hn',q,hs',hf',hd',hr',hx⟩
theorem jl9 {n0:Nat}{Q:Exit->Frm->Store->Prop}(h:Q .normal fr σ):R P E N n0 .skip fr σ Q :=
 λhn _ _ ρ w _ hs hf hd hr=>wpIn_skip ⟨fr,σ,ρ,hn,h,hs,hf,hd,hr,bg5.refl _ _ _⟩
theorem ix7 {n0 l:Nat}{Q:Exit->Frm->Store->Prop}(h:Q .normal fr σ):R P E N n0 (.label l) fr σ Q :=
 λhn _ _ ρ w _ hs hf hd hr=>wpIn_label ⟨fr,σ,ρ,hn,h,hs,hf,hd,hr,bg5.refl _ _ _⟩
theorem jm1 {n0 id:Nat}{Q:Exit->Frm->Store->Prop}(h:Q (.exit id) fr σ):R P E N n0 (.exit id) fr σ Q :=
 λhn _ _ ρ w _ hs hf hd hr=>wpIn_exit ⟨fr,σ,ρ,hn,h,hs,hf,hd,hr,bg5.refl _ _ _⟩
theorem kb5 {n0:Nat}{Q:Exit->Frm->Store->Prop}(h:Q .ret fr σ):R P E N n0 .ret fr σ Q :=
 λhn _ _ ρ w _ hs hf hd hr=>wpIn_ret ⟨fr,σ,ρ,hn,h,hs,hf,hd,hr,bg5.refl _ _ _⟩
theorem jm2 {n0:Nat}{c:Operand}{ic:IX}{x y:Code}{b:Bool}{Q:Exit->Frm->Store->Prop}(hc:ai9 c=za ic)(hb:ic.ev E fr=.bool b)(h:R P E N n0 (if b then x else y) fr σ Q):R P E N n0 (.cond c x y) fr σ Q:=by
 intro hn ro h0 ρ w a hs hf hd hr;have hv:=aa9 (a:=a) hc hs hf;rw[hb] at hv;generalize hr':a.eval c=r at hv;cases hv;exact wpIn_cond hr' (h hn ro h0 ρ w a hs hf hd hr)
def by3 (id:Nat)(Q:Exit->Frm->Store->Prop):Exit->Frm->Store->Prop
 | .exit id',fr,σ=>if id'=id then Q .normal fr σ else Q (.exit id') fr σ
 | e,fr,σ=>Q e fr σ
theorem gm5 {n0 id:Nat}{c:Code}{Q:Exit->Frm->Store->Prop}(h:R P E N n0 c fr σ (by3 id Q)):R P E N n0 (.block id c) fr σ Q:=by
 intro hn ro h0 ρ w a hs hf hd hr;refine wpIn_block (wpIn_mono (h hn ro h0 ρ w a hs hf hd hr) ?_);rintro e a' w' ⟨fr',σ',ρ',hn',q,rest⟩
 cases e with
 | exit id'=>
  simp only[Exit.inBlock];simp only[by3] at q;split
  ·rename_i hid;rw[if_pos hid] at q;exact ⟨fr',σ',ρ',hn',q,rest⟩
  ·rename_i hid;rw[if_neg hid] at q;exact ⟨fr',σ',ρ',hn',q,rest⟩
 | _=>exact ⟨fr',σ',ρ',hn',q,rest⟩
def eu3 (I:Nat->Frm->Store->Prop)(m:Nat)(Q:Exit->Frm->Store->Prop):Exit->Frm->Store->Prop
 | .normal,fr,σ=>∃m',m'<m/\I m' fr σ
 | e,fr,σ=>Q e fr σ
theorem ip9 {n0:Nat}{c:Code}{Q:Exit->Frm->Store->Prop}(I:Nat->Frm->Store->Prop)(m:Nat)(h:I m fr σ)(hI:∀m fr σ,I m fr σ->R P E N n0 c fr σ (eu3 I m Q)):R P E N n0 (.loop c) fr σ Q:=by
 intro hn ro h0 ρ w a hs hf hd hr
 have key:∀(k m:Nat),m<k->∀(fr:Frm) (σ:Store) (ρ1:Rho) (w1:World) (a:Act),n0<=σ.next->I m fr σ->Sim E ρ1 w1 σ->FR ρ1 w1 N fr a.tmps->DF h0 ρ1 w1 a.defers->RO ro w1->bg5 n0 ρ w ρ1 w1 ->
   Code.roundsIn (fw ro) 0 P c (λe a' w'=>∃fr' σ' ρ',n0<=σ'.next/\Q e fr' σ'/\Sim E ρ' w' σ'/\FR ρ' w' N fr' a'.tmps/\DF h0 ρ' w' a'.defers/\RO ro w'/\bg5 n0 ρ w ρ' w') k a w1:=by
  intro k
  induction k with
  | zero=>intro m hm;omega
  | succ k ih=>
   intro m hm fr σ ρ1 w1 a hn1 hI0 hs1 hf1 hd1 hr1 hx1;refine wpIn_mono (hI m fr σ hI0 hn1 ro h0 ρ1 w1 a hs1 hf1 hd1 hr1) ?_;rintro e a' w' ⟨fr',σ',ρ',hn',q,hs',hf',hd',hr',hx⟩
   cases e with
   | normal=>
    obtain ⟨m',hm',hI'⟩:=q
    exact ih m' (by omega) fr' σ' ρ' w' a' hn' hI' hs' hf' hd' hr' (hx1.trans hx)
   | _=>exact ⟨fr',σ',ρ',hn',q,hs',hf',hd',hr',hx1.trans hx⟩
 exact wpIn_loop_rounds (m+1) (key (m+1) m (zi m) fr σ ρ w a hn h hs hf hd hr (bg5.refl _ _ _))
theorem ax2 {P:Program}{b:Frame}{a:Act}{k:List Go.Item}{cs:List Frame}{w:World}{c:Code}:step P (lone (b.atR a (.code (.scope c)::k)) cs w)=.next (lone (b.atR a (.code c::.inScope c::k)) cs w):=
 step_lone_go (by simp[stepG,stepG.exec,Frame.atR])
theorem dy2 {P:Program}{b:Frame}{a:Act}{k:List Go.Item}{cs:List Frame}{w:World}{c:Code}:step P (lone (b.atR a (.inScope c::k)) cs w)=.next (lone (b.atR a k) cs w):=
 step_lone_go (by simp[stepG,stepG.exec,Frame.atR])
def ks2 (Q:Exit->Act->World->Prop):Exit->Act->World->Prop
 | .goto _,_,_=>False
 | e,a,w=>Q e a w
theorem fs7 {F:Fence}{n:Nat}{Q:Exit->Act->World->Prop}{c:Code}(h:c.wpIn F n P (ks2 Q) a w):(Code.scope c).wpIn F n P Q a w:=by
 intro b k cs hro hb hr;have h0:(lone (b.atR a (.code (.scope c)::k)) cs w).fenced P F:=fenced_calm hb hr rfl;obtain ⟨e,a₁,w₁,hq,harr⟩:=h b (.inScope c::k) cs hro hb hr
 cases e with
 | normal=>exact ⟨.normal,a₁,w₁,hq,.head h0 ax2 (StepsIn.trans harr (.one (fenced_calm hb hr rfl) dy2))⟩
 | exit id=>
  have hx:exitTo id (.inScope c::k)=exitTo id k:=by simp[exitTo]
  exact ⟨.exit id,a₁,w₁,hq,λk' hk=>.head h0 ax2 (harr.1 k' (by rw[hx];exact hk)),
   λhr' hk=>let ⟨k₁,h1,h2⟩:=harr.2 hr' (by rw[hx];exact hk);⟨k₁,h1,.head h0 ax2 h2⟩⟩
 | goto l=>exact hq.elim
 | ret=>exact ⟨_,a₁,w₁,hq,.of_steps (.one h0 ax2) harr⟩
 | panic ch=>exact ⟨_,a₁,w₁,hq,.of_steps (.one h0 ax2) harr⟩
 | outgrown=>exact ⟨_,a₁,w₁,hq,.of_steps (.one h0 ax2) harr⟩
def gm6 (Q:Exit->Frm->Store->Prop):Exit->Frm->Store->Prop
 | .goto _,_,_=>False
 | e,fr,σ=>Q e fr σ
theorem ix8 {n0:Nat}{c:Code}{Q:Exit->Frm->Store->Prop}(h:R P E N n0 c fr σ (gm6 Q)):R P E N n0 (.scope c) fr σ Q:=by
 intro hn ro h0 ρ w a hs hf hd hr;refine fs7 (wpIn_mono (h hn ro h0 ρ w a hs hf hd hr) ?_);rintro e a' w' ⟨fr',σ',ρ',hn',q,rest⟩
 cases e with
 | goto l=>exact q.elim
 | _=>exact ⟨fr',σ',ρ',hn',q,rest⟩
end Go.Id
