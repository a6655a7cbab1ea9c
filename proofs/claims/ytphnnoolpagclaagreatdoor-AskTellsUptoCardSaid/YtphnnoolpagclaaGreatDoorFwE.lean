/- More operations that write: entries struck from a map; slices with a bound on their room. Conditions: none; over any program. -/
import Derived.Test.YtphnnoolpagclaaGreatDoorFwD7
set_option linter.all false
namespace Go.Id
open Go
variable {P:Program} {w w' w'':World} {ρ ρ' ρ'':Rho} {E:Nat->IV} {σ σ':Store} {N:Nat} {fr:Frm} {a:Act}
inductive SK where
 | ik3 (tag:Nat)
 | nev
 | cpy (esz:Nat)
 | sl3 (esz:Nat) (chk:Bool)
 | rlp (esz:Nat)
 | apr (esz:Nat)
 deriving Inhabited
def stI (_:SK)(_:Nat)(_:Store)(_:List IV):Option (IV×Store):=none
theorem dd4 {k:SK}{id:Nat}{vs:List IV}{v:IV}(h:stI k id σ vs=some (v,σ')):σ'.next=σ.next :=
 nomatch (show (none:Option (IV×Store))=some (v,σ') from h)
theorem du9 {len cap l h m:Nat}{rlo:Option Value}{rh rm:Value}(hl:(rlo=none/\l=0)\/∃ k,rlo=some (.int k (l:Int)))(hh:∃ k,rh=.int k (h:Int))(hm:∃ k,rm=.int k (m:Int))(h1:l<=h)(h2:h<=m)(h3:m<=cap) :
  (Instr.sliceBounds true len cap rlo (some rh) (some rm)).run P w=.ok (l,h,m) w:=by
 obtain ⟨k1,rfl⟩:=hh;obtain ⟨k2,rfl⟩:=hm;have a1:(h:Int)<=(m:Int):=by omega
 have a2:(m:Int)<=(cap:Int):=by omega
 have a3:(l:Int)<=(h:Int):=by omega
 rcases hl with ⟨rfl,rfl⟩|⟨k,rfl⟩
 ·have:¬ m<h:=by omega
  simp[Instr.sliceBounds,Instr.sliceBound,asIntOf,a2,h2,this]
 ·simp[Instr.sliceBounds,Instr.sliceBound,asIntOf,a2,h1,h2]
theorem fw2 {t el:TypeId}{x oh om:Operand}{olo:Option Operand}{ix ilo ih im:IX}{esz id n:Nat}{v:IV}(hu:P.underlying t=some (.slice el))(hsz:szT P el=some esz)
  (hx:ah7 x=some ix) (hlo:(olo=none/\ilo=.c (.int .i64 0))\/∃ o,olo=some o/\ah7 o=some ilo) (hh:ah7 oh=some ih) (hm:ah7 om=some im)
  (h:ia1 esz (ix.ev E fr) (ilo.ev E fr) (ih.ev E fr) (im.ev E fr)=some v) (hs:Sim E ρ w σ) (hf:FR ρ w N fr a.tmps) :
  ch4 P E id n ρ w a (.slice t x olo (some oh) (some om)) v σ:=by
 intro o ho;have vx:=aa9 (a:=a) hx hs hf;have vh:=aa9 (a:=a) hh hs hf;have vm:=aa9 (a:=a) hm hs hf;unfold ia1 at h;split at h
 ·rename_i hb m e1 e2 e3
  have bl:(olo.map a.eval=none/\0=0)\/∃ k,olo.map a.eval=some (.int k ((0:Nat):Int)):=by
   rcases hlo with ⟨rfl,rfl⟩|⟨o2,rfl,ho2⟩
   ·exact .inl ⟨rfl,rfl⟩
   ·obtain ⟨k,hk⟩:=bi2 e1 (aa9 (a:=a) ho2 hs hf);exact .inr ⟨k,by simp[hk]⟩
  have bh:=bi2 e2 vh;have bm:=bi2 e3 vm;generalize ix.ev E fr=ax at vx h;generalize hrx:a.eval x=rx at vx
  have run:∀ (ad:Option Addr) (len cap:Nat),rx=.slice ad len cap->hb<=m->m<=cap->(execOp a.eval o).run P w=.ok (.value (.slice (if m=0 then ad else ad.map (·.add (0*esz))) (hb-0) (m-0))) w:=by
   intro ad len cap hr a2 a3;have hbd:=du9 (P:=P) (w:=w) (len:=len) bl bh bm (Nat.zero_le _) a2 a3;unfold execOp;rw[ho];simp only[hrx,hr,Option.map_some];simp[Instr.sliceAt,Instr.slice,run_underlying hu,hbd,run_sizeOf hsz]
  split at h
  ·rename_i hhm;subst hhm
   cases vx with
   | aa1=>
    simp only at h;split at h
    ·rename_i h0; cases h; subst h0;exact ⟨_,_,ρ,w,run none 0 0 rfl (Nat.le_refl _) (Nat.le_refl _),.inl rfl,hs,.aa1,Ext.refl _ _ _,ah3.refl _ _⟩
    ·cases h
   | ac5 ad=>
    simp only at h;split at h
    ·rename_i h0; cases h; subst h0;exact ⟨_,_,ρ,w,run (some ad) 0 0 rfl (Nat.le_refl _) (Nat.le_refl _),.inl rfl,hs,.ac5 ad,Ext.refl _ _ _,ah3.refl _ _⟩
    ·cases h
   | slice did off len e B d cap rcs elt fz hid hbk hsz' hle=>
    simp only at h;split at h
    ·rename_i hc;obtain ⟨rfl,hhl⟩:=hc;have hr:=run (some ⟨B,d+off,none⟩) len cap rfl (Nat.le_refl _) (by omega);split at h
     ·rename_i h0; cases h; subst h0;exact ⟨_,_,ρ,w,hr,.inl rfl,hs,.ac5 _,Ext.refl _ _ _,ah3.refl _ _⟩
     ·rename_i h0;cases h;refine ⟨_,_,ρ,w,hr,.inl rfl,hs,?_,Ext.refl _ _ _,ah3.refl _ _⟩;rw[if_neg h0,Option.map_some,au5,Nat.zero_mul,Nat.add_zero,Nat.sub_zero];have h2:hb*e<=cap*e:=Nat.mul_le_mul_right _ (by omega);exact .af7 did off hb e B d rcs elt fz hid hbk (by omega)
    ·cases h
   | ak3 did off e B d ad hid=>
    simp only at h;split at h
    ·rename_i hc;obtain ⟨rfl,hhl⟩:=hc;have hb0:hb=0:=by omega
     subst hb0;simp only[if_true] at h;cases h;exact ⟨_,_,ρ,w,run (some ad) 0 0 rfl (Nat.le_refl _) (Nat.le_refl _),.inl rfl,hs,.ac5 ad,Ext.refl _ _ _,ah3.refl _ _⟩
    ·cases h
   | aj3 did off len e cap ad hid hle=>
    simp only at h;split at h
    ·rename_i hc;obtain ⟨rfl,hhl⟩:=hc;have hr:=run (some ad) len cap rfl (Nat.le_refl _) (by omega);split at h
     ·rename_i h0; cases h; subst h0;exact ⟨_,_,ρ,w,hr,.inl rfl,hs,.ac5 _,Ext.refl _ _ _,ah3.refl _ _⟩
     ·rename_i h0;cases h;refine ⟨_,_,ρ,w,hr,.inl rfl,hs,?_,Ext.refl _ _ _,ah3.refl _ _⟩;rw[if_neg h0,Option.map_some,Nat.zero_mul,Nat.sub_zero];exact .am8 did off hb e _ hid
    ·cases h
   | _=>simp at h
  ·cases h
 ·cases h
end Go.Id
/- Contracts,codes,regions: the ideal semantics over the kit's calculus. Conditions: none; over any program. -/
namespace Go.Id
open Go
structure bb8 (n:Nat) (ρ:Rho) (w:World) (ρ':Rho) (w':World):Prop where
 size:w.heap.size<=w'.heap.size
 keep:∀ b,UB ρ w b->w'.heap[b]? = w.heap[b]?
 shape:∀ (b:Nat) (rcs:Array Value) (el:TypeId) (fz:Nat×Nat),w.heap[b]? = some (.cells rcs el fz)->∃ rcs':Array Value,w'.heap[b]? = some (.cells rcs' el fz)/\rcs'.size=rcs.size
 img:∀ i B d,ρ' i=.at B d->(∃ j d',ρ j=.at B d')\/w.heap.size<=B
 at_:∀ i B d,i<n->ρ i=.at B d->ρ' i=.at B d\/ρ' i=.dead
 dead:∀ i,i<n->ρ i=.dead->ρ' i=.dead
 no:∀ i,i<n->ρ i=.no->ρ' i=.no
 output:w'.output=w.output
 os:w'.os=w.os
 tape:w'.tape=w.tape/\w.drawn<=w'.drawn
 loops:∀ (l:Nat) (L:Loop),w.heap[l]? = some (Obj.loop L)->∃ L':Loop,w'.heap[l]? = some (Obj.loop L')
 X:ρ'.X=ρ.X
variable {P:Program} {w w' w'':World} {ρ ρ' ρ'':Rho} {E:Nat->IV} {σ σ':Store} {N n n':Nat} {fr:Frm} {a:Act}
theorem Ext.weak (h:Ext n ρ w ρ' w')(hn:n'<=n):bb8 n' ρ w ρ' w' :=
 ⟨h.size,h.keep,h.shape,h.img,fun i B d _ hi=>h.at_ i B d hi,fun i _ hi=>h.dead i hi,fun i hi h0=>h.no i (Nat.lt_of_lt_of_le hi hn) h0,h.output,h.os,h.tape,h.loops,h.X⟩
theorem bb8.refl (n:Nat)(ρ:Rho)(w:World):bb8 n ρ w ρ w:=(Ext.refl n ρ w).weak (Nat.le_refl _)
theorem bb8.le (h:bb8 n ρ w ρ' w')(hn:n'<=n):bb8 n' ρ w ρ' w' :=
 ⟨h.size,h.keep,h.shape,h.img,fun i B d hi=>h.at_ i B d (Nat.lt_of_lt_of_le hi hn),fun i hi=>h.dead i (Nat.lt_of_lt_of_le hi hn),fun i hi=>h.no i (Nat.lt_of_lt_of_le hi hn),h.output,h.os,h.tape,h.loops,h.X⟩
theorem bb8.ub (h:bb8 n ρ w ρ' w'){b:Nat}(hb:UB ρ w b):UB ρ' w' b:=by
 refine ⟨Nat.lt_of_lt_of_le hb.1 h.size,fun i d hi=>?_⟩;rcases h.img i b d hi with ⟨j,d',hj⟩|hlt
 ·exact hb.2 j d' hj
 ·exact absurd hb.1 (Nat.not_lt.2 hlt)
theorem bb8.trans (h:bb8 n ρ w ρ' w')(h':bb8 n ρ' w' ρ'' w''):bb8 n ρ w ρ'' w'' where
 size:=Nat.le_trans h.size h'.size
 keep:=fun b hb=>by rw[h'.keep b (h.ub hb),h.keep b hb]
 shape:=fun b rcs el fz hb=>by
  obtain ⟨r1,h1,s1⟩:=h.shape b rcs el fz hb;obtain ⟨r2,h2,s2⟩:=h'.shape b r1 el fz h1;exact ⟨r2,h2,by rw[s2,s1]⟩
 img:=fun i B d hi=>by
  rcases h'.img i B d hi with ⟨j,d',hj⟩|hlt
  ·exact h.img j B d' hj
  ·exact .inr (Nat.le_trans h.size hlt)
 at_:=fun i B d hn hi=>by
  rcases h.at_ i B d hn hi with h1|h1
  ·exact h'.at_ i B d hn h1
  ·exact .inr (h'.dead i hn h1)
 dead:=fun i hn hi=>h'.dead i hn (h.dead i hn hi)
 no:=fun i hi h0=>h'.no i hi (h.no i hi h0)
 output:=by rw[h'.output,h.output]
 os:=by rw[h'.os,h.os]
 tape:=⟨by rw[h'.tape.1,h.tape.1],Nat.le_trans h.tape.2 h'.tape.2⟩
 loops:=fun l L hl=>let ⟨L',h1⟩:=h.loops l L hl; h'.loops l L' h1
 X:=by rw[h'.X,h.X]
theorem bb8.ext (h:bb8 n ρ w ρ' w')(hf:∀ i,n<=i->ρ i=.no):Ext n ρ w ρ' w' :=
 ⟨h.size,h.keep,h.shape,h.img,
  fun i B d hi=>h.at_ i B d (Nat.lt_of_not_le fun hle=>by rw[hf i hle] at hi; cases hi) hi,
  fun i hi=>h.dead i (Nat.lt_of_not_le fun hle=>by rw[hf i hle] at hi; cases hi) hi,
  h.no,h.output,h.os,h.tape,h.loops,h.X⟩
def fw (ro:Option Nat):Fence:={ Fence.wide with round:=ro }
def RO (ro:Option Nat)(w:World):Prop:=∀ l,ro=some l->∃ L:Loop,w.heap[l]? = some (.loop L)
inductive DF (h0:Nat) (ρ:Rho) (w:World):List Deferred->Prop
 | nil (hz:h0<=w.heap.size):DF h0 ρ w []
 | cons (r:Nat) (ds:List Deferred) (hr:w.heap[r]? = some (.deferred (some []))) (hb:UB ρ w r) (hh:h0<=r) (hn:∀ d∈ds,d.target=.collected r->False) (h:DF h0 ρ w ds):DF h0 ρ w ({ target:=.collected r,args:=#[] }::ds)
theorem DF.mono {h0:Nat}{ds:List Deferred}(hx:bb8 n ρ w ρ' w')(h:DF h0 ρ w ds):DF h0 ρ' w' ds:=by
 induction h with
 | nil hz=>exact .nil (Nat.le_trans hz hx.size)
 | cons r ds hr hb hh hn _ ih=>exact .cons r ds (by rw[hx.keep r hb]; exact hr) (hx.ub hb) hh hn ih
theorem DF.size {h0:Nat}{ds:List Deferred}(h:DF h0 ρ w ds):h0<=w.heap.size:=by
 induction h with
 | nil hz=>exact hz
 | cons r ds _ _ _ _ _ ih=>exact ih
theorem RO.mono {ro:Option Nat}(h:RO ro w)(hl:bb8 n ρ w ρ' w'):RO ro w':=fun l e=>let ⟨L,h1⟩:=h l e; hl.loops l L h1
def C (P:Program)(E:Nat->IV)(f:FuncId)(args:List IV)(σ:Store)(Q:IV->Store->Prop):Prop :=
 ∀ (ρ:Rho) (w:World) (rargs:Array Value),Sim E ρ w σ->CR ρ w args rargs->CallsIn Fence.wide 0 P f rargs w fun e w'=>
  ∃ v r ρ' σ',e=.returned r/\Q v σ'/\Sim E ρ' w' σ'/\VR ρ' w' v r/\bb8 σ.next ρ w ρ' w'
def R (P:Program)(E:Nat->IV)(N n0:Nat)(c:Code)(fr:Frm)(σ:Store)(Q:Exit->Frm->Store->Prop):Prop :=
 n0<=σ.next->∀ (ro:Option Nat) (h0:Nat) (ρ:Rho) (w:World) (a:Act),Sim E ρ w σ->FR ρ w N fr a.tmps->DF h0 ρ w a.defers->RO ro w ->
  c.wpIn (fw ro) 0 P (fun e a' w'=>∃ fr' σ' ρ',n0<=σ'.next/\Q e fr' σ'/\Sim E ρ' w' σ'/\FR ρ' w' N fr' a'.tmps/\DF h0 ρ' w' a'.defers/\RO ro w'/\bb8 n0 ρ w ρ' w') a w
theorem C.mono {f:FuncId}{args:List IV}{Q Q':IV->Store->Prop}(h:C P E f args σ Q)(hq:∀ v σ',Q v σ'->Q' v σ'):C P E f args σ Q' :=
 fun ρ w rargs hs hc=>(h ρ w rargs hs hc).mono fun _ _ ⟨v,r,ρ',σ',he,q,rest⟩=>⟨v,r,ρ',σ',he,hq v σ' q,rest⟩
theorem R.mono {n0:Nat}{c:Code}{Q Q':Exit->Frm->Store->Prop}(h:R P E N n0 c fr σ Q)(hq:∀ e fr σ,Q e fr σ->Q' e fr σ):R P E N n0 c fr σ Q' :=
 fun hn ro h0 ρ w a hs hf hd hr=>wpIn_mono (h hn ro h0 ρ w a hs hf hd hr) fun _ _ _ ⟨fr',σ',ρ',hn',q,rest⟩=>⟨fr',σ',ρ',hn',hq _ _ _ q,rest⟩
def ia2 (P:Program)(E:Nat->IV)(N n0:Nat)(y:Code)(Q:Exit->Frm->Store->Prop):Exit->Frm->Store->Prop
 | .normal,fr,σ=>R P E N n0 y fr σ Q
 | e,fr,σ=>Q e fr σ
theorem ia3 {n0:Nat}{x y:Code}{Q:Exit->Frm->Store->Prop}(h:R P E N n0 x fr σ (ia2 P E N n0 y Q)):R P E N n0 (.seq x y) fr σ Q:=by
 intro hn ro h0 ρ w a hs hf hd hr;refine wpIn_seq (wpIn_mono (h hn ro h0 ρ w a hs hf hd hr) ?_);rintro e a' w' ⟨fr',σ',ρ',hn',q,hs',hf',hd',hr',hx⟩
 cases e with
 | normal=>
  refine wpIn_mono (q hn' ro h0 ρ' w' a' hs' hf' hd' hr') ?_;rintro e a'' w'' ⟨fr'',σ'',ρ'',hn'',q',hs'',hf'',hd'',hr'',hx'⟩
  exact ⟨fr'',σ'',ρ'',hn'',q',hs'',hf'',hd'',hr'',hx.trans hx'⟩
 | _=>exact ⟨fr',σ',ρ',hn',q,hs',hf',hd',hr',hx⟩
theorem ha9 {n0:Nat}{Q:Exit->Frm->Store->Prop}(h:Q .normal fr σ):R P E N n0 .skip fr σ Q :=
 fun hn _ _ ρ w _ hs hf hd hr=>wpIn_skip ⟨fr,σ,ρ,hn,h,hs,hf,hd,hr,bb8.refl _ _ _⟩
theorem go6 {n0 l:Nat}{Q:Exit->Frm->Store->Prop}(h:Q .normal fr σ):R P E N n0 (.label l) fr σ Q :=
 fun hn _ _ ρ w _ hs hf hd hr=>wpIn_label ⟨fr,σ,ρ,hn,h,hs,hf,hd,hr,bb8.refl _ _ _⟩
theorem hb7 {n0 id:Nat}{Q:Exit->Frm->Store->Prop}(h:Q (.exit id) fr σ):R P E N n0 (.exit id) fr σ Q :=
 fun hn _ _ ρ w _ hs hf hd hr=>wpIn_exit ⟨fr,σ,ρ,hn,h,hs,hf,hd,hr,bb8.refl _ _ _⟩
theorem ia4 {n0:Nat}{Q:Exit->Frm->Store->Prop}(h:Q .ret fr σ):R P E N n0 .ret fr σ Q :=
 fun hn _ _ ρ w _ hs hf hd hr=>wpIn_ret ⟨fr,σ,ρ,hn,h,hs,hf,hd,hr,bb8.refl _ _ _⟩
theorem hb8 {n0:Nat}{c:Operand}{ic:IX}{x y:Code}{b:Bool}{Q:Exit->Frm->Store->Prop}(hc:ah7 c=some ic)(hb:ic.ev E fr=.bool b)(h:R P E N n0 (if b then x else y) fr σ Q):R P E N n0 (.cond c x y) fr σ Q:=by
 intro hn ro h0 ρ w a hs hf hd hr;have hv:=aa9 (a:=a) hc hs hf;rw[hb] at hv;generalize hr':a.eval c=r at hv;cases hv;exact wpIn_cond hr' (h hn ro h0 ρ w a hs hf hd hr)
def bq9 (id:Nat)(Q:Exit->Frm->Store->Prop):Exit->Frm->Store->Prop
 | .exit id',fr,σ=>if id'=id then Q .normal fr σ else Q (.exit id') fr σ
 | e,fr,σ=>Q e fr σ
theorem go7 {n0 id:Nat}{c:Code}{Q:Exit->Frm->Store->Prop}(h:R P E N n0 c fr σ (bq9 id Q)):R P E N n0 (.block id c) fr σ Q:=by
 intro hn ro h0 ρ w a hs hf hd hr;refine wpIn_block (wpIn_mono (h hn ro h0 ρ w a hs hf hd hr) ?_);rintro e a' w' ⟨fr',σ',ρ',hn',q,rest⟩
 cases e with
 | exit id'=>
  simp only[Exit.inBlock];simp only[bq9] at q;split
  ·rename_i hid; rw[if_pos hid] at q; exact ⟨fr',σ',ρ',hn',q,rest⟩
  ·rename_i hid; rw[if_neg hid] at q; exact ⟨fr',σ',ρ',hn',q,rest⟩
 | _=>exact ⟨fr',σ',ρ',hn',q,rest⟩
def em8 (I:Nat->Frm->Store->Prop)(m:Nat)(Q:Exit->Frm->Store->Prop):Exit->Frm->Store->Prop
 | .normal,fr,σ=>∃ m',m'<m/\I m' fr σ
 | e,fr,σ=>Q e fr σ
theorem hb9 {n0:Nat}{c:Code}{Q:Exit->Frm->Store->Prop}(I:Nat->Frm->Store->Prop)(m:Nat)(h:I m fr σ)(hI:∀ m fr σ,I m fr σ->R P E N n0 c fr σ (em8 I m Q)):R P E N n0 (.loop c) fr σ Q:=by
 intro hn ro h0 ρ w a hs hf hd hr
 have key:∀ (k m:Nat),m<k->∀ (fr:Frm) (σ:Store) (ρ1:Rho) (w1:World) (a:Act),n0<=σ.next->I m fr σ->Sim E ρ1 w1 σ->FR ρ1 w1 N fr a.tmps->DF h0 ρ1 w1 a.defers->RO ro w1->bb8 n0 ρ w ρ1 w1 ->
   Code.roundsIn (fw ro) 0 P c (fun e a' w'=>∃ fr' σ' ρ',n0<=σ'.next/\Q e fr' σ'/\Sim E ρ' w' σ'/\FR ρ' w' N fr' a'.tmps/\DF h0 ρ' w' a'.defers/\RO ro w'/\bb8 n0 ρ w ρ' w') k a w1:=by
  intro k
  induction k with
  | zero=>intro m hm; omega
  | succ k ih=>
   intro m hm fr σ ρ1 w1 a hn1 hI0 hs1 hf1 hd1 hr1 hx1;refine wpIn_mono (hI m fr σ hI0 hn1 ro h0 ρ1 w1 a hs1 hf1 hd1 hr1) ?_;rintro e a' w' ⟨fr',σ',ρ',hn',q,hs',hf',hd',hr',hx⟩
   cases e with
   | normal=>
    obtain ⟨m',hm',hI'⟩:=q
    exact ih m' (by omega) fr' σ' ρ' w' a' hn' hI' hs' hf' hd' hr' (hx1.trans hx)
   | _=>exact ⟨fr',σ',ρ',hn',q,hs',hf',hd',hr',hx1.trans hx⟩
 exact wpIn_loop_rounds (m+1) (key (m+1) m (Nat.lt_succ_self m) fr σ ρ w a hn h hs hf hd hr (bb8.refl _ _ _))
theorem as8 {P:Program}{b:Frame}{a:Act}{k:List Go.Item}{cs:List Frame}{w:World}{c:Code}:step P (lone (b.atR a (.code (.scope c)::k)) cs w)=.next (lone (b.atR a (.code c::.inScope c::k)) cs w):=
 step_lone_go (by simp[stepG,stepG.exec,Frame.atR])
theorem dd5 {P:Program}{b:Frame}{a:Act}{k:List Go.Item}{cs:List Frame}{w:World}{c:Code}:step P (lone (b.atR a (.inScope c::k)) cs w)=.next (lone (b.atR a k) cs w):=
 step_lone_go (by simp[stepG,stepG.exec,Frame.atR])
def ik2 (Q:Exit->Act->World->Prop):Exit->Act->World->Prop
 | .goto _,_,_=>False
 | e,a,w=>Q e a w
theorem em9 {F:Fence}{n:Nat}{Q:Exit->Act->World->Prop}{c:Code}(h:c.wpIn F n P (ik2 Q) a w):(Code.scope c).wpIn F n P Q a w:=by
 intro b k cs hro hb hr;have h0:(lone (b.atR a (.code (.scope c)::k)) cs w).fenced P F:=fenced_calm hb hr rfl;obtain ⟨e,a₁,w₁,hq,harr⟩:=h b (.inScope c::k) cs hro hb hr
 cases e with
 | normal=>exact ⟨.normal,a₁,w₁,hq,.head h0 as8 (StepsIn.trans harr (.one (fenced_calm hb hr rfl) dd5))⟩
 | exit id=>
  have hx:exitTo id (.inScope c::k)=exitTo id k:=by simp[exitTo]
  exact ⟨.exit id,a₁,w₁,hq,fun k' hk=>.head h0 as8 (harr.1 k' (by rw[hx]; exact hk)),
   fun hr' hk=>let ⟨k₁,h1,h2⟩:=harr.2 hr' (by rw[hx]; exact hk); ⟨k₁,h1,.head h0 as8 h2⟩⟩
 | goto l=>exact hq.elim
 | ret=>exact ⟨_,a₁,w₁,hq,.of_steps (.one h0 as8) harr⟩
 | panic ch=>exact ⟨_,a₁,w₁,hq,.of_steps (.one h0 as8) harr⟩
 | outgrown=>exact ⟨_,a₁,w₁,hq,.of_steps (.one h0 as8) harr⟩
def fg5 (Q:Exit->Frm->Store->Prop):Exit->Frm->Store->Prop
 | .goto _,_,_=>False
 | e,fr,σ=>Q e fr σ
theorem go8 {n0:Nat}{c:Code}{Q:Exit->Frm->Store->Prop}(h:R P E N n0 c fr σ (fg5 Q)):R P E N n0 (.scope c) fr σ Q:=by
 intro hn ro h0 ρ w a hs hf hd hr;refine em9 (wpIn_mono (h hn ro h0 ρ w a hs hf hd hr) ?_);rintro e a' w' ⟨fr',σ',ρ',hn',q,rest⟩
 cases e with
 | goto l=>exact q.elim
 | _=>exact ⟨fr',σ',ρ',hn',q,rest⟩
end Go.Id
