/- Open regions whose readers are taken ahead; what was read is read again behind what may write. Conditions: none; over any program. -/
import Derived.Test.YtjpdjifjokldlaaDoorFwN
set_option linter.all false
namespace Go.Id
open Go
variable {P:Program} {w w' w'':World} {ρ ρ' ρ'':Rho} {E:Nat→IV} {σ σ':Store} {N n n':Nat} {fr:Frm} {a:Act} {pf:List Nat}
def IK.cls:IK→Nat
 | .q u=>match u.kind with
  | 0=>0
  | _=>1
 | .aj4 _ _|.av2 _ _ _ _|.ar7 _=>0
 | _=>2
theorem cd6 {op:IK}(h:op.cls=0):op.kind=0:=by
 cases op with
 | q u=>
  simp only[IK.cls] at h;split at h
  ·rename_i hk; exact hk
  ·cases h
 | aj4 f xs=>rfl
 | av2 _ _ _ _=>rfl
 | ar7 _=>rfl
 | _=>cases h
theorem gt8 {op:IK}(h:op.cls≤1):(∃ q,op=.q q)∨op.cls=0:=by
 cases op with
 | q u=>exact .inl ⟨u,rfl⟩
 | aj4 f xs=>exact .inr rfl
 | av2 _ _ _ _=>exact .inr rfl
 | ar7 _=>exact .inr rfl
 | _=>simp[IK.cls] at h
theorem cd7 {op:IK}{id:Nat}{K:IV→Store→Prop}(h:op.cls≤1):opR P E op id fr σ K↔∃ v,bc5 P E op id fr σ v σ∧K v σ:=by
 cases op with
 | q q=>exact ⟨fun ⟨v,h,k⟩=>⟨v,⟨h,rfl⟩,k⟩,fun ⟨v,⟨h,_⟩,k⟩=>⟨v,h,k⟩⟩
 | aj4 f xs=>exact ⟨fun ⟨v,h,k⟩=>⟨v,⟨h,rfl⟩,k⟩,fun ⟨v,⟨h,_⟩,k⟩=>⟨v,h,k⟩⟩
 | av2 e n z ps=>exact ⟨fun ⟨out,h,k⟩=>⟨_,⟨out,h,rfl,rfl⟩,k⟩,fun ⟨_,⟨out,h,e1,_⟩,k⟩=>by subst e1; exact ⟨out,h,k⟩⟩
 | ar7 x=>exact ⟨fun ⟨h,k⟩=>⟨_,⟨h,rfl,rfl⟩,k⟩,fun ⟨_,⟨h,e1,_⟩,k⟩=>by subst e1; exact ⟨h,k⟩⟩
 | _=>simp[IK.cls] at h
theorem ev6 {op:IK}{id:Nat}{v:IV}(hk:op.cls≤1)(h:bc5 P E op id fr σ v σ'):σ'=σ:=by
 cases op with
 | q q=>exact h.2
 | aj4 f xs=>exact h.2
 | av2 e n z ps=>obtain ⟨_,_,_,h⟩:=h; exact h
 | ar7 x=>exact h.2.2
 | _=>simp[IK.cls] at hk
def cg9 (E:Nat→IV)(fr:Frm):IQ→IQ
 | .load a x=>.load a (.c (x.ev E fr))
 | .lkp t z ok x k=>.lkp t z ok (.c (x.ev E fr)) (.c (k.ev E fr))
 | .len k x=>.len k (.c (x.ev E fr))
 | q=>q
theorem fn4 {q:IQ}(f:Frm)(h:q.kind≠0):evq E f σ (cg9 E fr q)=evq E fr σ q:=by
 cases q with
 | load a x=>rfl
 | lkp t z ok x k=>rfl
 | len k x=>rfl
 | _=>exact absurd rfl h
theorem fn5 {fr fr':Frm}{q:IQ}(h:∀ t∈q.ops.flatMap IX.uses,fr.get t=fr'.get t):cg9 E fr q=cg9 E fr' q:=by
 cases q with
 | load a x=>simp only[cg9]; rw[af6 (x:=x) (fun t ht=>h t (by simp[IQ.ops,ht]))]
 | lkp t z ok x k=>simp only[cg9]; rw[af6 (x:=x) (fun t ht=>h t (by simp[IQ.ops,ht])),af6 (x:=k) (fun t ht=>h t (by simp[IQ.ops,ht]))]
 | len k x=>simp only[cg9]; rw[af6 (x:=x) (fun t ht=>h t (by simp[IQ.ops,ht]))]
 | _=>rfl
abbrev LE:=Nat×IQ×IV
def ap1 (E:Nat→IV)(fr:Frm)(i:Nat)(op:IK)(v:IV)(L:List LE):List LE :=
 match op with
 | .q q=>if q.kind=0 then L else (i,cg9 E fr q,v)::L
 | _=>L
theorem bq1 {fr fr':Frm}{i:Nat}{op:IK}{v:IV}{L:List LE}(h:∀ t∈op.ops.flatMap IX.uses,fr.get t=fr'.get t):ap1 E fr i op v L=ap1 E fr' i op v L:=by
 cases op with
 | q q=>simp only[ap1]; rw[fn5 (q:=q) (fun t ht=>h t ht)]
 | _=>rfl
theorem bc6 {i:Nat}{op:IK}{v:IV}{L:List LE}:∀ e∈L,e∈ap1 E fr i op v L:=by
 intro e he;unfold ap1;split
 ·split
  ·exact he
  ·exact List.mem_cons_of_mem _ he
 ·exact he
theorem ev7 {i:Nat}{op:IK}{v:IV}{L L':List LE}(h:∀ e∈L',e∈L):∀ e∈ap1 E fr i op v L',e∈ap1 E fr i op v L:=by
 intro e he
 cases op with
 | q q=>
  simp only[ap1] at he ⊢;by_cases hk:q.kind=0
  ·rw[if_pos hk] at he ⊢; exact h e he
  ·rw[if_neg hk] at he ⊢;rcases List.mem_cons.1 he with rfl|he
   ·exact List.mem_cons_self ..
   ·exact List.mem_cons_of_mem _ (h e he)
 | _=>exact h e he
theorem cd8 {i:Nat}{op:IK}{v:IV}{L:List LE}(h:¬ op.cls≤1):ap1 E fr i op v L=L:=by
 cases op with
 | q q=>exfalso; apply h; simp only[IK.cls]; split<;>omega
 | _=>rfl
theorem fn6 {i j:Nat}{op op':IK}{v v':IV}{L:List LE}{fr':Frm}(e:LE):e∈ap1 E fr i op v (ap1 E fr' j op' v' L)↔e∈ap1 E fr' j op' v' (ap1 E fr i op v L):=by
 have key:∀ (fr:Frm) (i:Nat) (op:IK) (v:IV),(∃ x:LE,∀ L,ap1 E fr i op v L=x::L)∨∀ L,ap1 E fr i op v L=L:=by
  intro fr i op v
  cases op with
  | q q=>
   by_cases hk:q.kind=0
   ·exact .inr fun L=>by simp only[ap1,hk,if_true]
   ·exact .inl ⟨(i,cg9 E fr q,v),fun L=>by simp only[ap1,hk,if_false]⟩
  | _=>exact .inr fun _=>rfl
 rcases key fr i op v with ⟨x,hx⟩|hx<;>rcases key fr' j op' v' with ⟨y,hy⟩|hy<;>simp only[hx,hy]
 simp only[List.mem_cons];constructor
 ·rintro (h|h|h)
  ·exact .inr (.inl h)
  ·exact .inl h
  ·exact .inr (.inr h)
 ·rintro (h|h|h)
  ·exact .inr (.inl h)
  ·exact .inl h
  ·exact .inr (.inr h)
def ev8 (E:Nat→IV)(L:List LE)(m:Nat)(σ:Store):Prop:=∀ e∈L,m.testBit e.1=true→evq E [] σ e.2.1=some e.2.2
theorem aw7 {L:List LE}:ev8 E L 0 σ:=fun e _ h=>by simp at h
theorem ay7 {L L':List LE}{m:Nat}(h:∀ e∈L',e∈L)(hc:ev8 E L m σ):ev8 E L' m σ:=fun e he=>hc e (h e he)
abbrev ch1:=Nat×ac6×Nat×Nat
def hq7 (P:Program)(E:Nat→IV)(o:ac6)(id m:Nat)(L:List LE)(fr:Frm)(σ:Store)(K:IV→Store→Prop)(Ks:Prop):Prop :=
 (ar6 o fr=some true∧opR P E o.op id fr σ (fun v σ'=>ev8 E L m σ'∧K v σ'))∨(ar6 o fr=some false∧Ks)
def an3 (P:Program)(E:Nat→IV):List ch1→List LE→Frm→Store→(Frm→Store→Prop)→Prop
 | [],_,fr,σ,K=>K fr σ
 | (i,o,id,m)::rest,L,fr,σ,K=>hq7 P E o id m L fr σ (fun v σ'=>an3 P E rest (ap1 E fr i o.op v L) (fr.ah5 o.dst v) σ' K) (an3 P E rest L (fr.ah5 o.dst skV) σ K)
theorem ev9 {K:Frm→Store→Prop}:∀ (its:List ch1) (L L':List LE) (fr:Frm) (σ:Store),(∀ e∈L',e∈L)→an3 P E its L fr σ K→an3 P E its L' fr σ K:=by
 intro its
 induction its with
 | nil=>exact fun _ _ _ _ _ h=>h
 | cons it its ih=>
  obtain ⟨i,o,id,m⟩:=it;rintro L L' fr σ hs (⟨ha,h⟩|⟨ha,h⟩)
  ·exact .inl ⟨ha,ai1 (fun v s ⟨c,k⟩=>⟨ay7 hs c,ih _ _ _ _ (ev7 hs) k⟩) h⟩
  ·exact .inr ⟨ha,ih _ _ _ _ hs h⟩
theorem aw8 {K:Frm→Store→Prop}(hK:∀ f f' s,FEq f f'→K f s→K f' s):∀ (its:List ch1) (L:List LE) (fr fr':Frm) (σ:Store),FEq fr fr'→an3 P E its L fr σ K→an3 P E its L fr' σ K:=by
 intro its
 induction its with
 | nil=>exact fun _ fr fr' σ h k=>hK _ _ _ h k
 | cons it its ih=>
  obtain ⟨i,o,id,m⟩:=it;rintro L fr fr' σ hf (⟨ha,h⟩|⟨ha,h⟩)
  ·refine .inl ⟨by rw[← ay6 (fun t _=>hf t)]; exact ha,ai1 (fun v s ⟨c,k⟩=>⟨c,?_⟩) (eu5 hf h)⟩;show an3 P E its (ap1 E fr' i o.op v L) _ s K;rw[← bq1 (fr:=fr) (fun t _=>hf t)]; exact ih _ _ _ _ (ca7 hf _ _) k
  ·exact .inr ⟨by rw[← ay6 (fun t _=>hf t)]; exact ha,ih _ _ _ _ (ca7 hf _ _) h⟩
theorem ea9 {K K':Frm→Store→Prop}:∀ (its:List ch1) (L:List LE) (fr:Frm) (σ:Store),(∀ f s,K f s→K' f s)→an3 P E its L fr σ K→an3 P E its L fr σ K':=by
 intro its
 induction its with
 | nil=>exact fun _ _ _ hk h=>hk _ _ h
 | cons it its ih=>
  obtain ⟨i,o,id,m⟩:=it;rintro L fr σ hk (⟨ha,h⟩|⟨ha,h⟩)
  ·exact .inl ⟨ha,ai1 (fun v s ⟨c,k⟩=>⟨c,ih _ _ _ hk k⟩) h⟩
  ·exact .inr ⟨ha,ih _ _ _ hk h⟩
theorem ew1 {op:IK}{id:Nat}{fr fr':Frm}{K:IV→Store→Prop}(h:∀ t∈op.ops.flatMap IX.uses,fr.get t=fr'.get t):opR P E op id fr σ K→opR P E op id fr' σ K:=by
 cases op with
 | q q=>simp only[opR]; rw[eu1 (fun t ht=>h t ht)]; exact fun h=>h
 | alloc z=>exact fun h=>h
 | box x=>simp only[opR]; rw[af6 (x:=x) (fun t ht=>h t (by simp[IK.ops,ht]))]; exact fun h=>h
 | bsl e n z ps=>simp only[opR]; rw[am1 (fun t ht=>h t ht)]; exact fun h=>h
 | store e x y=>simp only[opR]; rw[af6 (x:=x) (fun t ht=>h t (by simp[IK.ops,ht])),af6 (x:=y) (fun t ht=>h t (by simp[IK.ops,ht]))]; exact fun h=>h
 | app e x y=>simp only[opR]; rw[af6 (x:=x) (fun t ht=>h t (by simp[IK.ops,ht])),af6 (x:=y) (fun t ht=>h t (by simp[IK.ops,ht]))]; exact fun h=>h
 | bm5=>exact fun h=>h
 | av1 x=>simp only[opR]; rw[af6 (x:=x) (fun t ht=>h t (by simp[IK.ops,ht]))]; exact fun h=>h
 | bq6 x=>simp only[opR]; rw[af6 (x:=x) (fun t ht=>h t (by simp[IK.ops,ht]))]; exact fun h=>h
 | de4 t x y z=>simp only[opR]; rw[af6 (x:=x) (fun t ht=>h t (by simp[IK.ops,ht])),af6 (x:=y) (fun t ht=>h t (by simp[IK.ops,ht])),af6 (x:=z) (fun t ht=>h t (by simp[IK.ops,ht]))]; exact fun h=>h
 | call f xs=>simp only[opR]; rw[ap8 (xs:=xs) h]; exact fun h=>h
 | aj4 f xs=>simp only[opR]; rw[ap8 (xs:=xs) h]; exact fun h=>h
 | an7 x xs=>
  simp only[IK.ops,List.flatMap_cons,List.mem_append] at h
  simp only[opR]; rw[ap8 (xs:=xs) (fun t ht=>h t (.inr ht)),af6 (x:=x) (fun t ht=>h t (.inl ht))]; exact fun h=>h
 | av2 e n z ps=>simp only[opR]; rw[am1 (fun t ht=>h t ht)]; exact fun h=>h
 | ar7 x=>simp only[opR]; rw[af6 (x:=x) (fun t ht=>h t (by simp[IK.ops,ht]))]; exact fun h=>h
 | aq9 x=>simp only[opR]; rw[af6 (x:=x) (fun t ht=>h t (by simp[IK.ops,ht]))]; exact fun h=>h
 | bj2 x=>simp only[opR]; rw[af6 (x:=x) (fun t ht=>h t (by simp[IK.ops,ht]))]; exact fun h=>h
 | dn5 x=>simp only[opR]; rw[af6 (x:=x) (fun t ht=>h t (by simp[IK.ops,ht]))]; exact fun h=>h
 | cj5 e z x=>simp only[opR]; rw[af6 (x:=x) (fun t ht=>h t (by simp[IK.ops,ht]))]; exact fun h=>h
 | clr e z x=>simp only[opR]; rw[af6 (x:=x) (fun t ht=>h t (by simp[IK.ops,ht]))]; exact fun h=>h
 | st k xs=>simp only[opR]; rw[ap8 (xs:=xs) h]; exact fun h=>h
def ew2 (p x:ch1):Prop :=
 eu6 p.2.1 x.2.1∧(p.2.1.op.cls≤1∧p.2.2.2=0∧(p.2.1.op.cls=0∨x.2.1.op.cls≤1∨x.2.2.2.testBit p.1=true∨cd2 false p.2.1.op.kind x.2.1.op.kind=true) ∨
  ¬ p.2.1.op.cls≤1∧cd2 false p.2.1.op.kind x.2.1.op.kind=true∧x.2.2.2=0∧(p.2.2.2=0∨x.2.1.op.cls≤1∧p.2.2.2.testBit x.1=false))
theorem fn8 {i m:Nat}{op:IK}{v:IV}{L:List LE}(h:ev8 E L m σ)(hb:m.testBit i=false):ev8 E (ap1 E fr i op v L) m σ:=by
 intro e he hm;unfold ap1 at he;split at he
 ·split at he
  ·exact h e he hm
  ·rcases List.mem_cons.1 he with rfl|he
   ·simp only at hm; rw[hb] at hm; cases hm
   ·exact h e he hm
 ·exact h e he hm
theorem hq9 {K:Frm→Store→Prop} (hK:∀ f f' s,FEq f f'→K f s→K f' s) {ix:Nat} {x:ac6} {kx mx:Nat} {post:List ch1} :
  ∀ (pre:List ch1) (L:List LE) (fr:Frm) (σ:Store),(∀ p∈pre,ew2 p (ix,x,kx,mx))→(∀ p∈pre,p.2.2.1≠kx∧σ.obj p.2.2.1=none)→(pre.map (·.2.2.1)).Nodup→(pre≠[]→σ.obj kx=none) →
   (∀ p∈pre,p.2.1.op.kind=2→∀ y∈x.op.ops,az9 p.2.2.1 (y.ev E fr)) →
   an3 P E (pre++(ix,x,kx,mx)::post) L fr σ K →
   hq7 P E x kx mx L fr σ (fun v σ'=>an3 P E (pre++post) (ap1 E fr ix x.op v L) (fr.ah5 x.dst v) σ' K) (an3 P E (pre++post) L (fr.ah5 x.dst skV) σ K):=by
 intro pre
 induction pre with
 | nil=>intro L fr σ _ _ _ _ _ h; exact h
 | cons p pre ih=>
  intro L fr σ hfree hids hnd hnx hH h;obtain ⟨ip,p,kp,mp⟩:=p;obtain ⟨hap,hfr⟩:=hfree _ (List.mem_cons_self ..);obtain ⟨hpx,hkp⟩:=hids _ (List.mem_cons_self ..);simp only at hap hfr hpx hkp;have hnx0:=hnx (by simp);have hnd':=List.nodup_cons.1 (show (kp::pre.map (·.2.2.1)).Nodup from hnd)
  have hfx:∀ vp,∀ t∈x.uses,(fr.ah5 p.dst vp).get t=fr.get t:=fun vp t ht=>by
   rw[au8,if_neg]; intro e; exact hap.2 t e ht
  have hfxo:∀ vp,∀ t∈x.op.ops.flatMap IX.uses,(fr.ah5 p.dst vp).get t=fr.get t:=fun vp t ht=>hfx vp t (ar4 ht)
  have hfp:∀ vx,∀ t∈p.uses,fr.get t=(fr.ah5 x.dst vx).get t:=fun vx t ht=>by
   rw[au8,if_neg]; intro e; exact (hap.1 t e).1 ht
  have hfpo:∀ vx,∀ t∈p.op.ops.flatMap IX.uses,fr.get t=(fr.ah5 x.dst vx).get t:=fun vx t ht=>hfp vx t (ar4 ht)
  have feq:∀ vp vx,FEq ((fr.ah5 p.dst vp).ah5 x.dst vx) ((fr.ah5 x.dst vx).ah5 p.dst vp):=fun vp vx t=>by
   simp only[au8];by_cases h1:x.dst=some t
   ·have h2:p.dst≠some t:=(hap.1 t h1).2;simp[h1,h2]
   ·simp[h1]
  have hactx:∀ vp ax,ar6 x (fr.ah5 p.dst vp)=some ax→ar6 x fr=some ax:=fun vp ax h=>by rw[← ay6 (hfx vp)]; exact h
  have hactp:∀ {ap:Bool},ar6 p fr=some ap→∀ vx,ar6 p (fr.ah5 x.dst vx)=some ap:=fun hact vx=>by rw[← ay6 (hfp vx)]; exact hact
  -- the rest,at a store where the fresh ones are fresh
  have IH:∀ (vp:IV) (L1:List LE) (σ1:Store),(∀ i,i≠kp→σ.obj i=none→σ1.obj i=none)→an3 P E (pre++(ix,x,kx,mx)::post) L1 (fr.ah5 p.dst vp) σ1 K →
    hq7 P E x kx mx L1 (fr.ah5 p.dst vp) σ1 (fun v σ'=>an3 P E (pre++post) (ap1 E (fr.ah5 p.dst vp) ix x.op v L1) ((fr.ah5 p.dst vp).ah5 x.dst v) σ' K) (an3 P E (pre++post) L1 ((fr.ah5 p.dst vp).ah5 x.dst skV) σ1 K):=by
   intro vp L1 σ1 fresh1 ht
   exact ih L1 (fr.ah5 p.dst vp) σ1 (fun q hq=>hfree q (List.mem_cons_of_mem _ hq))
    (fun q hq=>⟨(hids q (List.mem_cons_of_mem _ hq)).1,fresh1 _ (fun e=>hnd'.1 (by rw[← e]; exact List.mem_map.2 ⟨q,hq,rfl⟩)) (hids q (List.mem_cons_of_mem _ hq)).2⟩)
    hnd'.2 (fun _=>fresh1 kx (fun e=>hpx e.symm) hnx0)
    (fun q hq hk2 y hy=>by
     have:y.ev E (fr.ah5 p.dst vp)=y.ev E fr:=af6 fun t ht=>hfxo vp t (List.mem_flatMap.2 ⟨y,hy,ht⟩)
     rw[this]; exact hH q (List.mem_cons_of_mem _ hq) hk2 y hy) ht
  rcases h with ⟨hact,hh⟩|⟨hact,hh⟩
  ·rcases hfr with ⟨kp1,hmp,hc⟩|⟨kp2,hfk,hmx,hc⟩
   ·-- p reads at most
    subst hmp;obtain ⟨vp,hd,_,htree⟩:=(cd7 kp1).1 hh;have hde:∀ {s:Store} vx,bc5 P E p.op kp fr s vp s→bc5 P E p.op kp (fr.ah5 x.dst vx) s vp s:=fun vx h=>ba7 (hfpo vx) h
    rcases IH vp _ σ (fun _ _ h=>h) htree with ⟨h1,h2⟩|⟨h1,h2⟩
    ·have h3:=ew1 (hfxo vp) h2
     have h4:opR P E x.op kx fr σ (fun v σ'=>bc5 P E p.op kp fr σ' vp σ'∧ev8 E L mx σ'∧an3 P E (pre++post) (ap1 E (fr.ah5 p.dst vp) ix x.op v (ap1 E fr ip p.op vp L)) ((fr.ah5 p.dst vp).ah5 x.dst v) σ' K):=by
      rcases hc with c0|cx|cm|ck
      ·exact ai1 (fun v s ⟨c,k⟩=>⟨(bl9 (cd6 c0) hd).2 s,ay7 bc6 c,k⟩) h3
      ·obtain ⟨vx,e1,c,k⟩:=(cd7 cx).1 h3;exact (cd7 cx).2 ⟨vx,e1,hd,ay7 bc6 c,k⟩
      ·rcases gt8 kp1 with ⟨q,hq⟩|c0
       ·by_cases hk0:q.kind=0
        ·have c0:p.op.cls=0:=by rw[hq]; simp only[IK.cls,hk0]
         exact ai1 (fun v s ⟨c,k⟩=>⟨(bl9 (cd6 c0) hd).2 s,ay7 bc6 c,k⟩) h3
        ·refine ai1 (fun v s ⟨c,k⟩=>⟨?_,ay7 bc6 c,k⟩) h3;rw[hq];refine ⟨?_,rfl⟩
         have hmem:(ip,cg9 E fr q,vp)∈ap1 E fr ip p.op vp L:=by
          rw[hq];simp only[ap1,hk0,if_false];exact List.mem_cons_self ..
         have:=c _ hmem cm;rw[fn4 _ hk0] at this;exact this
       ·exact ai1 (fun v s ⟨c,k⟩=>⟨(bl9 (cd6 c0) hd).2 s,ay7 bc6 c,k⟩) h3
      ·obtain ⟨kp5,kx5⟩:=cu6 ck;obtain ⟨vx,σ2,e1,c,k⟩:=(as8 kx5).1 h3;have e1':bc5 P E x.op kx (fr.ah5 p.dst vp) σ vx σ2:=ba7 (fun t ht=>(hfxo vp t ht).symm) e1;obtain ⟨σ1',s1,_,s3,_⟩:=cu5 (B:=false) hd (fun h=>by cases h) e1' (fun h=>by cases h) ck (hfxo vp) (hfpo vx) hpx hkp hnx0 (hH _ (List.mem_cons_self ..));have hs:σ2=σ1':=ev6 kp1 s3;subst hs;exact (as8 kx5).2 ⟨vx,σ2,s1,ba7 (fun t ht=>(hfpo vx t ht).symm) s3,ay7 bc6 c,k⟩
     refine .inl ⟨hactx _ _ h1,ai1 (fun v s ⟨hd',c,k⟩=>⟨c,?_⟩) h4⟩;refine .inl ⟨hactp hact v,(cd7 kp1).2 ⟨vp,hde v hd',aw7,?_⟩⟩;rw[bq1 (fr':=fr) (hfxo vp)] at k;have k2:=aw8 hK _ _ _ _ _ (feq vp v) k;show an3 P E (pre++post) (ap1 E (fr.ah5 x.dst v) ip p.op vp (ap1 E fr ix x.op v L)) _ s K;rw[← bq1 (fr:=fr) (hfpo v)];exact ev9 _ _ _ _ _ (fun e he=>(fn6 e).1 he) k2
    ·refine .inr ⟨hactx _ _ h1,.inl ⟨hactp hact skV,(cd7 kp1).2 ⟨vp,hde skV hd,aw7,?_⟩⟩⟩;show an3 P E (pre++post) (ap1 E (fr.ah5 x.dst skV) ip p.op vp L) _ σ K;rw[← bq1 (fr:=fr) (hfpo skV)];exact aw8 hK _ _ _ _ _ (feq vp skV) h2
   ·-- p writes,or lays
    obtain ⟨kp5,kx5⟩:=cu6 hfk;obtain ⟨vp,σ1,hd,hchk,htree⟩:=(as8 kp5).1 hh;subst hmx;rw[cd8 kp2] at htree;rcases IH vp _ σ1 (fun i hi h0=>dd2 kp5 hi hd h0) htree with ⟨h1,h2⟩|⟨h1,h2⟩
    ·obtain ⟨vx,σ2,e1,_,k⟩:=(as8 kx5).1 h2;obtain ⟨σ1',s1,_,s3,_⟩:=cu5 (B:=false) hd (fun h=>by cases h) e1 (fun h=>by cases h) hfk (hfxo vp) (hfpo vx) hpx hkp hnx0 (hH _ (List.mem_cons_self ..));refine .inl ⟨hactx _ _ h1,(as8 kx5).2 ⟨vx,σ1',s1,aw7,.inl ⟨hactp hact vx,(as8 kp5).2 ⟨vp,σ2,s3,?_,?_⟩⟩⟩⟩
     ·rcases hc with h0|⟨cx,hb⟩
      ·subst h0; exact aw7
      ·have hs:σ2=σ1:=ev6 cx e1;subst hs;exact fn8 hchk hb
     ·show an3 P E (pre++post) (ap1 E _ ip p.op vp (ap1 E fr ix x.op vx L)) _ σ2 K;rw[cd8 kp2];rw[bq1 (fr':=fr) (hfxo vp)] at k;exact aw8 hK _ _ _ _ _ (feq vp vx) k
    ·refine .inr ⟨hactx _ _ h1,.inl ⟨hactp hact skV,(as8 kp5).2 ⟨vp,σ1,ba7 (hfpo skV) hd,hchk,?_⟩⟩⟩;show an3 P E (pre++post) (ap1 E _ ip p.op vp L) _ σ1 K;rw[cd8 kp2];exact aw8 hK _ _ _ _ _ (feq vp skV) h2
  ·rcases IH skV L σ (fun _ _ h=>h) hh with ⟨h1,h2⟩|⟨h1,h2⟩
   ·refine .inl ⟨hactx _ _ h1,ai1 (fun v s ⟨c,k⟩=>⟨c,?_⟩) (ew1 (hfxo skV) h2)⟩;refine .inr ⟨hactp hact v,?_⟩;replace k:an3 P E (pre++post) (ap1 E (fr.ah5 p.dst skV) ix x.op v L) ((fr.ah5 p.dst skV).ah5 x.dst v) s K:=k;rw[bq1 (fr':=fr) (hfxo skV)] at k;exact aw8 hK _ _ _ _ _ (feq skV v) k
   ·exact .inr ⟨hactx _ _ h1,.inr ⟨hactp hact skV,aw8 hK _ _ _ _ _ (feq skV skV) h2⟩⟩
end Go.Id
/- Open regions whose readers are taken ahead: the check,and the rule. Conditions: none; over any program. -/
namespace Go.Id
open Go
variable {P:Program} {w w' w'':World} {ρ ρ' ρ'':Rho} {E:Nat→IV} {σ σ':Store} {N n n':Nat} {fr:Frm} {a:Act} {pf:List Nat}
structure if6 (P:Program) (pf:List Nat) (N:Nat) (ops:Array Oper) (anc:Nat→Nat→Prop) (base:Nat) (rem:List ch1) (listed:Array Bool):Prop where
 size:listed.size=ops.size
 un:∀ j,j<ops.size→(listed.getD j true=false↔∃ it∈rem,it.1=j)
 its:∀ it∈rem,∃ o,ops[it.1]? = some o∧bq3 P pf N ops o=some it.2.1∧it.2.2.1=base+it.1∧∀ y∈it.2.1.op.ops,IX.quiet y=true
 pw:rem.Pairwise fun p x=>(anc p.1 x.1∨ew2 p x)∧p.1≠x.1∧∀ o,ops[p.1]? = some o→∀ e∈o.after,Region.binds .any e=true→e.on≠x.1
 dc:∀ j,listed.getD j false=true→∀ k,anc k j→listed.getD k false=true
theorem eb1 {ops:Array Oper} {anc:Nat→Nat→Prop} {n0 base:Nat} {ro:Option Nat} {Qw:Exit→Act→World→Prop} {K:Frm→Store→Prop} {ρ0:Rho} {w0:World} {ds:List Deferred}
  (hKf:∀ f f' s,FEq f f'→K f s→K f' s)
  (hfin:∀ fr σ ρ w a,n0≤σ.next→K fr σ→Sim E ρ w σ→FR ρ w N fr a.tmps→a.defers=ds→au7 n0 ρ0 w0 ρ w→Qw .normal a w)
  (hed:∀ j o,ops[j]? = some o→∀ e∈o.after,Region.binds .any e=true→e.on<ops.size∧e.on≠j)
  (hanc:∀ k j,anc k j→∀ o,ops[j]? = some o→∃ e∈o.after,Region.binds .any e=true∧(e.on=k∨anc k e.on)) :
  ∀ (fuel:Nat) (rem:List ch1) (L:List LE) (listed:Array Bool) (fr:Frm) (σ:Store) (ρ:Rho) (w:World) (a:Act),rem.length=fuel→if6 P pf N ops anc base rem listed→an3 P E rem L fr σ K →
   Sim E ρ w σ→FR ρ w N fr a.tmps→a.defers=ds→au7 n0 ρ0 w0 ρ w→n0≤base→base+ops.size≤σ.next→(∀ it∈rem,ρ it.2.2.1=.no) →
   wpAnyIn (fw ro) 0 P .any ops Qw fuel listed a w:=by
 intro fuel
 induction fuel with
 | zero=>
  intro rem L listed fr σ ρ w a hlen hr h hs hf hd hx hn0 hnx hno;have:rem=[]:=List.length_eq_zero_iff.1 hlen;subst this;refine ⟨?_,hfin fr σ ρ w a (by omega) h hs hf hd hx⟩;rw[List.eq_nil_iff_forall_not_mem];intro j hj;obtain ⟨h0,_⟩:=mem_ready.1 hj;obtain ⟨it,hit,_⟩:=(hr.un j (by rw[← hr.size]; exact getD_lt h0)).1 h0
  cases hit
 | succ fuel ih=>
  intro rem L listed fr σ ρ w a hlen hr h hs hf hd hx hn0 hnx hno;refine ⟨fun hemp=>?_,fun i hi=>?_⟩
  ·exfalso
   cases rem with
   | nil=>cases hlen
   | cons it rem=>
    obtain ⟨o,ho,hc,hid,_⟩:=hr.its it (List.mem_cons_self ..)
    have hlt:it.1<ops.size:=by
     rcases Nat.lt_or_ge it.1 ops.size with h'|h'
     ·exact h'
     ·simp[Array.getElem?_eq_none h'] at ho
    have:it.1∈Region.ready .any ops listed:=by
     refine mem_ready.2 ⟨(hr.un _ hlt).2 ⟨it,List.mem_cons_self ..,rfl⟩,o,ho,fun e he hb=>?_⟩;obtain ⟨h1,h2⟩:=hed _ o ho e he hb;have hj:e.on<listed.size:=by rw[hr.size]; exact h1
     by_cases hL:listed.getD e.on true=false
     ·obtain ⟨jt,hjt,hje⟩:=(hr.un _ h1).1 hL;rcases List.mem_cons.1 hjt with rfl|hjt
      ·exact absurd hje.symm h2
      ·exact absurd hje.symm (((List.pairwise_cons.1 hr.pw).1 jt hjt).2.2 o ho e he hb)
     ·simp[hj] at hL ⊢; exact hL
    rw[hemp] at this;cases this
  ·obtain ⟨h0,o,ho,hall⟩:=mem_ready.1 hi;have hlt:i<ops.size:=by rw[← hr.size]; exact getD_lt h0
   obtain ⟨it,hit,hie⟩:=(hr.un i hlt).1 h0;obtain ⟨pre,post,rfl⟩:=List.append_of_mem hit;obtain ⟨ix,x,kx,mx⟩:=it;simp only at hie;subst hie;obtain ⟨o',ho',hc,hkx,hqx⟩:=hr.its _ hit;simp only at ho' hc hkx hqx;rw[ho] at ho';cases ho';obtain ⟨hpp,hxp,hcross⟩:=List.pairwise_append.1 hr.pw;have hcx:=fun p hp=>hcross p hp _ (List.mem_cons_self ..)
   have hnotL:∀ p∈pre,listed.getD p.1 false≠true:=fun p hp hL=>by
    obtain ⟨op,hop,_⟩:=hr.its p (List.mem_append_left _ hp)
    have hpl:p.1<ops.size:=by
     rcases Nat.lt_or_ge p.1 ops.size with h'|h'
     ·exact h'
     ·simp[Array.getElem?_eq_none h'] at hop
    have:=(hr.un p.1 hpl).2 ⟨p,List.mem_append_left _ hp,rfl⟩;rw[eu8 hL] at this;cases this
   have hfree:∀ p∈pre,ew2 p (ix,x,kx,mx):=fun p hp=>by
    rcases (hcx p hp).1 with ha|hf
    ·exfalso;obtain ⟨e,he,hb,heq⟩:=hanc _ _ ha o ho;have hle:=hall e he hb;rcases heq with heq|ha'
     ·exact hnotL p hp (by rw[← heq]; exact hle)
     ·exact hnotL p hp (hr.dc _ hle _ ha')
    ·exact hf
   have hidp:∀ p∈pre,p.2.2.1=base+p.1:=fun p hp=>by
    obtain ⟨_,_,_,h1,_⟩:=hr.its p (List.mem_append_left _ hp);exact h1
   have hpull:=hq9 (P:=P) (E:=E) (K:=K) hKf (ix:=ix) (x:=x) (kx:=kx) (mx:=mx) (post:=post) pre L fr σ hfree
    (fun p hp=>⟨by rw[hidp p hp,hkx]; have:=(hcx p hp).2.1; omega,hs.ak6 _ (hno p (List.mem_append_left _ hp))⟩)
    (by
     rw[List.nodup_iff_pairwise_ne,List.pairwise_map];refine (List.Pairwise.and_mem.1 hpp).imp ?_;intro p q ⟨hp,hq,h1⟩;rw[hidp p hp,hidp q hq];have:=h1.2.1;omega)
    (fun _=>hs.ak6 _ (hno _ hit))
    (fun p hp _ y hy=>IX.cd3 (hqx y hy) hs hf (hno p (List.mem_append_left _ hp))) h
   obtain ⟨⟨fz,hk⟩,hdst,hdN,hg⟩:=bj1 hc;have hidx:kx<σ.next∧n0≤kx:=by rw[hkx]; omega
   have hmem:∀ it∈pre++post,it∈pre++(ix,x,kx,mx)::post:=fun it h=>by
    rcases List.mem_append.1 h with h|h
    ·exact List.mem_append_left _ h
    ·exact List.mem_append_right _ (List.mem_cons_of_mem _ h)
   have hne:∀ it∈pre++post,it.1≠ix:=fun it h=>by
    rcases List.mem_append.1 h with h|h
    ·exact (hcx it h).2.1
    ·exact fun e=>((List.pairwise_cons.1 hxp).1 it h).2.1 e.symm
   have hrem:if6 P pf N ops anc base (pre++post) (listed.setIfInBounds ix true):=by
    refine ⟨by simp[hr.size],fun j hj=>?_,fun it hit=>hr.its it (hmem it hit),?_,?_⟩
    ·by_cases hji:j=ix
     ·subst hji;have:j<listed.size:=by rw[hr.size]; exact hj
      constructor
      ·intro h; simp[this] at h
      ·rintro ⟨it,h1,h2⟩; exact absurd h2 (hne it h1)
     ·rw[getD_set_ne true (Ne.symm hji),hr.un j hj];constructor
      ·rintro ⟨it,h1,h2⟩;refine ⟨it,?_,h2⟩;rcases List.mem_append.1 h1 with h1|h1
       ·exact List.mem_append_left _ h1
       ·rcases List.mem_cons.1 h1 with rfl|h1
        ·exact absurd h2.symm hji
        ·exact List.mem_append_right _ h1
      ·rintro ⟨it,h1,h2⟩; exact ⟨it,hmem it h1,h2⟩
    ·exact hr.pw.sublist (List.Sublist.append (List.Sublist.refl _) (List.sublist_cons_self _ _))
    ·intro j hj k hk;by_cases hji:j=ix
     ·subst hji;obtain ⟨e,he,hb,heq⟩:=hanc _ _ hk o ho;have hle:=hall e he hb;rcases heq with rfl|ha'
      ·exact getD_set_true hle
      ·exact getD_set_true (hr.dc _ hle _ ha')
     ·rw[getD_set_ne false (Ne.symm hji)] at hj;exact getD_set_true (hr.dc _ hj _ hk)
   have hlen':(pre++post).length=fuel:=by simp at hlen ⊢; omega
   have hne2:∀ it∈pre++post,it.2.2.1≠kx:=fun it h=>by
    obtain ⟨_,_,_,h1,_⟩:=hr.its it (hmem it h);rw[h1,hkx];have:=hne it h;omega
   unfold wpOpIn;simp only[ho]
   have run:opR P E x.op kx fr σ (fun v σ'=>ev8 E L mx σ'∧an3 P E (pre++post) (ap1 E fr ix x.op v L) (fr.ah5 x.dst v) σ' K)→o.wpIn (fw ro) 0 P a w (wpAnyIn (fw ro) 0 P .any ops Qw fuel (listed.setIfInBounds ix true)) Qw:=by
    intro hop;refine cv6 hk hop hs hf (by omega) (fun hl=>⟨hno _ hit,hidx.1,hidx.2⟩) ?_;intro v σ' r ρ' w' hnx' hK hs' hv' hx' hno';refine ih (pre++post) _ _ _ σ' ρ' w' (a.put o.dst r) hlen' hrem hK.2 hs' ?_ (by rw[put_defers]; exact hd) (hx.trans (hx'.weak (Nat.le_refl _))) hn0 (by omega) ?_
    ·rw[hdst]; exact FR.ah5 (hf.mono hx') hdN hv'
    ·intro jt hjt;obtain ⟨jo,hjo,_,h1,_⟩:=hr.its jt (hmem jt hjt)
     have hjl:jt.1<ops.size:=by
      rcases Nat.lt_or_ge jt.1 ops.size with h'|h'
      ·exact h'
      ·simp[Array.getElem?_eq_none h'] at hjo
     exact hno' _ (by rw[h1]; omega) (fun _=>hne2 jt hjt) (hno _ (hmem jt hjt))
   rcases hg with ⟨hg1,hg2⟩|⟨j,want,s,hg1,hgs,hg2⟩
   ·have hw:Region.wanted o (yielded ops a.tmps)=true:=by unfold Region.wanted; rw[hg1]
    rw[if_pos hw];rcases hpull with ⟨hact,hh⟩|⟨hact,hh⟩
    ·exact run hh
    ·simp[ar6,hg2] at hact
   ·rcases hpull with ⟨hact,hh⟩|⟨hact,hh⟩
    ·simp only[ar6,hg2] at hact;have hw:=bm3 hg1 hgs hf hact;rw[hw];exact run hh
    ·simp only[ar6,hg2] at hact;have hw:=bm3 hg1 hgs hf hact;rw[hw];refine ⟨fun f _=>trivial,?_⟩;exact ih (pre++post) _ _ _ σ ρ w (a.put o.dst undef) hlen' hrem hh hs (by rw[hdst]; exact FR.ah5 hf hdN ez8) (by rw[put_defers]; exact hd) hx hn0 hnx (fun jt hjt=>hno _ (hmem jt hjt))
/-! ### The row in which they are taken,and the check -/
abbrev YO:=Nat×ac6×Nat
def fi9 (base:Nat)(l:List YO):List ch1:=l.map fun y=>(y.1,y.2.1,base+y.1,y.2.2)
def gf8 (m i:Nat):Bool:=Nat.beq (Nat.land (Nat.shiftRight m i) 1) 1
theorem fn9 (m i:Nat):gf8 m i=m.testBit i:=by
 unfold gf8 Nat.testBit;show Nat.beq ((m >>> i) &&& 1) 1=(1 &&& (m >>> i) != 0);rw[Nat.and_comm];have:1 &&& (m >>> i)=(m >>> i)%2:=by rw[Nat.and_comm,Nat.and_one_is_mod]
 rw[this];rcases Nat.mod_two_eq_zero_or_one (m >>> i) with h|h<;>rw[h]<;>rfl
def ew3 (p x:YO):Bool :=
 ds9 p.2.1 x.2.1&&((decide (p.2.1.op.cls≤1)&&p.2.2==0&&(p.2.1.op.cls==0||decide (x.2.1.op.cls≤1)||x.2.2.testBit p.1||cd2 false p.2.1.op.kind x.2.1.op.kind)) ||
  (!decide (p.2.1.op.cls≤1)&&cd2 false p.2.1.op.kind x.2.1.op.kind&&x.2.2==0&&(p.2.2==0||decide (x.2.1.op.cls≤1)&&!p.2.2.testBit x.1)))
theorem dl7 {p x:YO}{a b:Nat}(h:ew3 p x=true):ew2 (p.1,p.2.1,a,p.2.2) (x.1,x.2.1,b,x.2.2):=by
 unfold ew3 at h;simp only[Bool.and_eq_true,Bool.or_eq_true,decide_eq_true_eq,beq_iff_eq,Bool.not_eq_true',decide_eq_false_iff_not] at h;refine ⟨cd4 h.1,?_⟩;rcases h.2 with ⟨⟨h1,h2⟩,h3⟩|⟨⟨⟨h1,h2⟩,h3⟩,h4⟩
 ·refine .inl ⟨h1,h2,?_⟩;rcases h3 with ((h3|h3)|h3)|h3
  ·exact .inl h3
  ·exact .inr (.inl h3)
  ·exact .inr (.inr (.inl h3))
  ·exact .inr (.inr (.inr h3))
 ·exact .inr ⟨h1,h2,h3,h4⟩
def dt4 (ess:List (List Nat))(ms:List Nat):List YO→Bool
 | []=>true
 | p::xs=>xs.all (fun x=>((ms.getD x.1 0).testBit p.1||ew3 p x)&&p.1 != x.1&&!(ess.getD p.1 []).contains x.1)&&dt4 ess ms xs
theorem dl8 {ess:List (List Nat)}{ms:List Nat}{base:Nat}:∀ l:List YO,dt4 ess ms l=true→(fi9 base l).Pairwise fun p x=>((ms.getD x.1 0).testBit p.1=true∨ew2 p x)∧p.1≠x.1∧x.1 ∉ ess.getD p.1 []:=by
 intro l
 induction l with
 | nil=>intro _; exact .nil
 | cons p xs ih=>
  intro h;simp only[dt4,Bool.and_eq_true,List.all_eq_true] at h;refine List.pairwise_cons.2 ⟨fun it hit=>?_,ih h.2⟩;obtain ⟨x,hx,rfl⟩:=List.mem_map.1 hit;obtain ⟨⟨h1,h2⟩,h3⟩:=h.1 x hx;refine ⟨?_,by simpa using h2,by simpa using h3⟩;rw[Bool.or_eq_true] at h1;rcases h1 with h1|h1
  ·exact .inl h1
  ·exact .inr (dl7 h1)
def fy7 (ios:List ac6)(l:List (Nat×Nat)):List YO:=l.map fun q=>(q.1,ios.getD q.1 default,q.2)
def yOK (ess:List (List Nat))(ios:List ac6)(l:List (Nat×Nat)):Bool :=
 let ms:=ev1 ess
 gt6 0 ess&&gt7 ms 0 ess&&dt4 ess ms (fy7 ios l)&&(ios.all fun o=>o.op.ops.all IX.quiet) &&
  l.all (fun q=>decide (q.1<ios.length))&&(List.range ios.length).all (fun j=>l.any fun q=>q.1==j)&&l.length==ios.length
theorem ew4 {n0 id:Nat}{ops:Array Oper}{ios:List ac6}{l:List (Nat×Nat)}{Q:Exit→Frm→Store→Prop}{ks:List Nat}(hm:P.follows .mixedOrders=true)(hc:ba8 P pf N ops ops.toList=some ios)
  (hok:yOK (ops.toList.map ah1) ios l=true)
  (h:an3 P E (fi9 σ.next (fy7 ios l)) [] fr { σ with next:=σ.next+l.length } (fun fr' σ'=>Q .normal (fr'.keep ks) σ')):R P E N n0 (.region id ops true) fr σ Q:=by
 intro hn ro h0 ρ w a hs hf hd hr;refine wpIn_region_any hm ?_;have hlen:ios.length=ops.size:=by rw[cj3 _ _ hc]; simp
 unfold yOK at hok;simp only[Bool.and_eq_true,List.all_eq_true,beq_iff_eq,decide_eq_true_eq] at hok;obtain ⟨⟨⟨⟨⟨⟨hed,hms⟩,hpr⟩,hq⟩,hlt⟩,hall⟩,hll⟩:=hok;generalize ev1 (ops.toList.map ah1)=ms at hms hpr;have hes:∀ (j:Nat) (o:Oper),ops[j]? = some o→(ops.toList.map ah1)[j]? = some (ah1 o):=fun j o ho=>by simp[ho]
 have hme:∀ (o:Oper) (k:Nat),k∈ah1 o→∃ e∈o.after,Region.binds .any e=true∧e.on=k:=fun o k hk=>by
  unfold ah1 at hk;obtain ⟨e,he,rfl⟩:=List.mem_map.1 hk;obtain ⟨h1,h2⟩:=List.mem_filter.1 he;exact ⟨e,by simpa using h1,h2,rfl⟩
 have hem:∀ (o:Oper) (e:Edge),e∈o.after→Region.binds .any e=true→e.on∈ah1 o:=fun o e he hb=>
  List.mem_map.2 ⟨e,List.mem_filter.2 ⟨by simpa using he,hb⟩,rfl⟩
 have hmemI:∀ it∈fi9 σ.next (fy7 ios l),∃ q∈l,it=(q.1,ios.getD q.1 default,σ.next+q.1,q.2):=fun it hit=>by
  obtain ⟨y,hy,rfl⟩:=List.mem_map.1 hit;obtain ⟨q,hq',rfl⟩:=List.mem_map.1 hy;exact ⟨q,hq',rfl⟩
 refine eb1 (E:=E) (pf:=pf) (N:=N) (anc:=fun k j=>(ms.getD j 0).testBit k=true) (n0:=n0) (base:=σ.next) (ρ0:=ρ) (w0:=w) (ds:=a.defers) (K:=fun fr' σ'=>Q .normal (fr'.keep ks) σ') ?_ ?_ ?_ ?_
  ops.size (fi9 σ.next (fy7 ios l)) [] _ fr { σ with next:=σ.next+l.length } ρ w.drew a (by simp[fi9,fy7,hll,hlen]) ?_ h
  (cv4 (ca4 hs) (fun i hi=>hs.fresh i (by omega))) (hf.mono (ar3 0)) rfl ((ar3 n0).weak (Nat.le_refl _)) hn (by rw[hll,hlen]; exact Nat.le_refl _) ?_
 ·intro f f' s hff hK
  have:f'.keep ks=f.keep ks:=by
   unfold Frm.keep;exact List.map_congr_left fun k _=>by rw[hff k]
  rw[this]; exact hK
 ·intro fr' σ' ρ' w' a' hn' hK hs' hf' hd' hx;exact ⟨fr'.keep ks,σ',ρ',hn',hK,hs',hf'.keep ks,by rw[hd']; exact hd.mono hx,hr.mono hx,hx⟩
 ·intro j o ho e he hb;have:=cd5 _ _ hed j _ (hes j o ho) _ (hem o e he hb)
  have hj:j<ops.size:=by
   rcases Nat.lt_or_ge j ops.size with h'|h'
   ·exact h'
   ·simp[Array.getElem?_eq_none h'] at ho
  omega
 ·intro k j hk o ho;have:=dd4 _ _ hms j _ (hes j o ho);simp only[Nat.zero_add] at this;rw[this] at hk;rcases ev2 _ _ hk with h1|⟨e,he,h1⟩
  ·simp at h1
  ·obtain ⟨ed,hed1,hb,heq⟩:=hme o e he;exact ⟨ed,hed1,hb,by rw[heq]; exact h1⟩
 ·refine ⟨by simp,fun j hj=>?_,fun it hit=>?_,?_,?_⟩
  ·constructor
   ·intro _;have:=hall j (by simp[List.mem_range,hlen,hj]);obtain ⟨q,hq',he⟩:=List.any_eq_true.1 this;have he:q.1=j:=by simpa using he
    exact ⟨(q.1,ios.getD q.1 default,σ.next+q.1,q.2),List.mem_map.2 ⟨_,List.mem_map.2 ⟨q,hq',rfl⟩,rfl⟩,he⟩
   ·intro _; simp[hj]
  ·obtain ⟨q,hq',rfl⟩:=hmemI it hit;have hql:=hlt q hq';have hqs:q.1<ops.size:=by omega
   obtain ⟨jt,hjt,hje⟩:=dt2 (base:=σ.next) ios 0 q.1 (Nat.zero_le _) (by omega);obtain ⟨o,h1,h2⟩:=dt3 ops.toList ios 0 rfl hc jt hjt
   have hget:ios[q.1]? = some jt.2.1:=by
    have:∀ (ios:List ac6) (i:Nat),∀ it∈dl5 σ.next i ios,ios[it.1-i]? = some it.2.1:=by
     intro ios
     induction ios with
     | nil=>intro i it h; cases h
     | cons o os ih=>
      intro i it h;rcases List.mem_cons.1 h with rfl|h
      ·simp
      ·have h1:=ev3 os _ it h;have h2:=ih _ it h;rw[show it.1-i=(it.1-(i+1))+1 from by omega]
       simpa using h2
    have:=this ios 0 jt hjt;rw[hje] at this
    simpa using this
   have hd:ios.getD q.1 default=jt.2.1:=by simp[List.getD_eq_getElem?_getD,hget]
   rw[hje] at h1;refine ⟨o,h1,by simp only[hd]; exact h2,rfl,?_⟩;simp only[hd];exact hq _ (List.mem_of_getElem? hget)
  ·refine (dl8 (base:=σ.next) _ hpr).imp ?_;intro p x ⟨h1,h2,h3⟩;refine ⟨h1,h2,fun o ho e he hb heq=>h3 ?_⟩;have:(ops.toList.map ah1).getD p.1 []=ah1 o:=by rw[List.getD_eq_getElem?_getD,hes p.1 o ho]; rfl
   rw[this,← heq];exact hem o e he hb
  ·intro j hj;exfalso;by_cases hlt:j<ops.size
   ·simp[hlt] at hj
   ·simp[hlt] at hj
 ·intro it hit;obtain ⟨q,hq',rfl⟩:=hmemI it hit;exact hs.fresh _ (by show σ.next≤σ.next+q.1; omega)
def fy8 (ess:List (List Nat))(done:List Nat)(j:Nat):Bool:=(ess.getD j []).all fun e=>done.contains e
def hr5 (ess:List (List Nat))(ios:List ac6)(done:List Nat):Option Nat :=
 match (List.range ios.length).find? (fun j=>!done.contains j&&fy8 ess done j&&decide ((ios.getD j default).op.cls≤1)) with
 | some j=>some j
 | none=>(List.range ios.length).find? fun j=>!done.contains j&&fy8 ess done j
def fy9 (ess:List (List Nat))(ios:List ac6):Nat→List Nat→List Nat
 | 0,done=>done
 | n+1,done=>match hr5 ess ios done with
  | some j=>fy9 ess ios n (done++[j])
  | none=>done
def gf9 (ms:List Nat)(ios:List ac6)(j:Nat):List Nat→Nat
 | []=>0
 | p::ps=>if (ios.getD p default).op.cls=1&&!(ms.getD j 0).testBit p&&!cd2 false (ios.getD p default).op.kind (ios.getD j default).op.kind then 2^p ||| gf9 ms ios j ps else gf9 ms ios j ps
def fz1 (ms:List Nat)(ios:List ac6):List Nat→List Nat→List (Nat×Nat)
 | _,[]=>[]
 | ahead,j::js=>(j,if (ios.getD j default).op.cls≤1 then 0 else gf9 ms ios j ahead)::fz1 ms ios (j::ahead) js
def ew5 (ess:List (List Nat))(ios:List ac6):List (Nat×Nat):=fz1 (ev1 ess) ios [] (fy9 ess ios ios.length [])
end Go.Id
set_option linter.all false
namespace Go.Id
open Go
variable {P:Program} {w w' w'':World} {ρ ρ' ρ'':Rho} {E:Nat→IV} {σ σ':Store} {N n n':Nat} {fr:Frm} {a:Act} {pf:List Nat}
inductive IC where
 | skip
 | reg (id:Nat) (ops:List ac6) (keep:List Nat)
 | dreg (id:Nat) (ops:List ac6) (B:Bool) (keep:List Nat)
 | oreg (id:Nat) (ops:List YO) (keep:List Nat)
 | seq (a b:IC)
 | cond (x:IX) (a b:IC)
 | block (id:Nat) (a:IC)
 | loop (a:IC)
 | exit (id:Nat)
 | ret
 | rfunc (g:IX) (ps:List Nat) (asg a:IC)
 | scope (a:IC)
 deriving Inhabited
abbrev Ann:=List (Nat×List Nat)
abbrev gf5:IC:=.reg 0 [⟨none,none,.st .nev []⟩] []
def am4 (P:Program)(pf:List Nat)(N:Nat)(an:Ann):Code→Option IC
 | .skip=>some .skip
 | .label _=>some .skip
 | .region id ops draw=>match draw,ba8 P pf N ops ops.toList with
  | false,some ios=>some (.reg id ios ((an.lookup id).getD []))
  | true,some ios=>if P.follows .mixedOrders=true∧hm6 (ops.toList.map ah1) ios (dd3 ios)=true∧(pf.contains 2000000&&dd3 ios)=false then some (.dreg id ios (dd3 ios) ((an.lookup id).getD [])) else
   if P.follows .mixedOrders=true∧yOK (ops.toList.map ah1) ios (ew5 (ops.toList.map ah1) ios)=true then some (.oreg id (fy7 ios (ew5 (ops.toList.map ah1) ios)) ((an.lookup id).getD [])) else some gf5
  | _,_=>some gf5
 | .seq a b=>match am4 P pf N an a,am4 P pf N an b with
  | some x,some y=>some (.seq x y)
  | _,_=>none
 | .cond c a b=>match af8 c,am4 P pf N an a,am4 P pf N an b with
  | some i,some x,some y=>some (.cond i x y)
  | _,_,_=>some gf5
 | .block id a=>(am4 P pf N an a).map (.block id)
 | .loop a=>(am4 P pf N an a).map .loop
 | .exit id=>some (.exit id)
 | .ret=>some .ret
 | .rangeFunc g ps assign body=>match am4 P pf N an assign,af8 g,am4 P pf N an body with
  | some y,some i,some x=>if ps.toList.all (fun p=>decide (p<N)) then some (.rfunc i ps.toList y x) else some gf5
  | _,_,_=>some gf5
 | .scope a=>(am4 P pf N an a).map .scope
 | _=>some gf5
def RI (P:Program)(E:Nat→IV)(N n0:Nat)(ic:IC)(fr:Frm)(σ:Store)(Q:Exit→Frm→Store→Prop):Prop :=
 ∀ (pf:List Nat) (an:Ann) (c:Code),am4 P pf N an c=some ic→R P E N n0 c fr σ Q
def wpI (P:Program)(E:Nat→IV)(N n0:Nat):IC→Frm→Store→(Exit→Frm→Store→Prop)→Prop
 | .skip,fr,σ,Q=>Q .normal fr σ
 | .reg _ ops keep,fr,σ,Q=>bg9 P E ops σ.next fr { σ with next:=σ.next+ax1 ops } (fun fr' σ'=>Q .normal (fr'.keep keep) σ')
 | .dreg _ ops B keep,fr,σ,Q=>bg8 P E B (dl5 σ.next 0 ops) fr { σ with next:=σ.next+ops.length } (fun fr' σ'=>Q .normal (fr'.keep keep) σ')
 | .oreg _ ops keep,fr,σ,Q=>an3 P E (fi9 σ.next ops) [] fr { σ with next:=σ.next+ops.length } (fun fr' σ'=>Q .normal (fr'.keep keep) σ')
 | .seq a b,fr,σ,Q=>wpI P E N n0 a fr σ (fun e fr' σ'=>match e with|.normal=>wpI P E N n0 b fr' σ' Q|e=>Q e fr' σ')
 | .cond x a b,fr,σ,Q=>∃ t,x.ev E fr=.bool t∧if t then wpI P E N n0 a fr σ Q else wpI P E N n0 b fr σ Q
 | .block id a,fr,σ,Q=>wpI P E N n0 a fr σ (ba6 id Q)
 | .loop a,fr,σ,Q=>RI P E N n0 (.loop a) fr σ Q
 | .exit id,fr,σ,Q=>Q (.exit id) fr σ
 | .ret,fr,σ,Q=>Q .ret fr σ
 | .rfunc g ps y a,fr,σ,Q=>RI P E N n0 (.rfunc g ps y a) fr σ Q
 | .scope a,fr,σ,Q=>wpI P E N n0 a fr σ (ds5 Q)
theorem gf6 {n0:Nat}{c:Code}{ks:List Nat}{Q:Exit→Frm→Store→Prop}(h:R P E N n0 c fr σ (fun e fr' σ'=>Q e (fr'.keep ks) σ')):R P E N n0 c fr σ Q :=
 fun hn ro h0 ρ w a hs hf hd hr=>wpIn_mono (h hn ro h0 ρ w a hs hf hd hr) fun _ _ _ ⟨fr',σ',ρ',hn',q,hs',hf',rest⟩=>⟨fr'.keep ks,σ',ρ',hn',q,hs',hf'.keep ks,rest⟩
theorem aw6 {n0:Nat}{Q:Exit→Frm→Store→Prop}(h:wpI P E N n0 gf5 fr σ Q):False:=by
 obtain ⟨act,ha,h⟩:=h;cases ha;obtain ⟨r,hr,_⟩:=h;cases hr
theorem fm6 {n0:Nat}{an:Ann}:∀ (c:Code) (ic:IC) (fr:Frm) (σ:Store) (Q:Exit→Frm→Store→Prop),am4 P pf N an c=some ic→wpI P E N n0 ic fr σ Q→R P E N n0 c fr σ Q:=by
 intro c
 induction c with
 | skip=>intro ic fr σ Q hc h; cases hc; exact gs9 h
 | label l=>intro ic fr σ Q hc h; cases hc; exact gf4 h
 | region id ops draw=>
  intro ic fr σ Q hc h;simp only[am4] at hc;split at hc
  ·rename_i ios hios;cases hc;exact gf6 (fq5 (Q:=fun e fr' σ'=>Q e (fr'.keep _) σ') hios h)
  ·rename_i ios hios;by_cases hok:P.follows .mixedOrders=true∧hm6 (ops.toList.map ah1) ios (dd3 ios)=true∧(pf.contains 2000000&&dd3 ios)=false
   ·rw[if_pos hok] at hc;cases hc;exact ev5 hok.1 hios hok.2.1 h
   ·rw[if_neg hok] at hc;by_cases hoy:P.follows .mixedOrders=true∧yOK (ops.toList.map ah1) ios (ew5 (ops.toList.map ah1) ios)=true
    ·rw[if_pos hoy] at hc;cases hc;have hl:(fy7 ios (ew5 (ops.toList.map ah1) ios)).length=(ew5 (ops.toList.map ah1) ios).length:=by simp[fy7]
     refine ew4 (ks:=(an.lookup id).getD []) hoy.1 hios hoy.2 ?_;rw[← hl];exact h
    ·rw[if_neg hoy] at hc; cases hc; exact (aw6 h).elim
  ·cases hc; exact (aw6 h).elim
 | seq a b iha ihb=>
  intro ic fr σ Q hc h;simp only[am4] at hc;split at hc
  ·rename_i x y hx hy;cases hc;refine gf3 ((iha _ fr σ _ hx h).mono ?_);intro e fr' σ' q
   cases e with
   | normal=>exact ihb _ fr' σ' Q hy q
   | _=>exact q
  ·cases hc
 | cond c a b iha ihb=>
  intro ic fr σ Q hc h;simp only[am4] at hc;split at hc
  ·rename_i i x y hi hx hy;cases hc;obtain ⟨t,ht,h⟩:=h;refine fy5 hi ht ?_
   cases t with
   | true=>exact iha _ fr σ Q hx h
   | false=>exact ihb _ fr σ Q hy h
  ·cases hc; exact (aw6 h).elim
 | block id a ih=>
  intro ic fr σ Q hc h;obtain ⟨y,hy,he⟩:=map_some hc;cases he
  exact et7 (ih _ fr σ _ hy h)
 | loop a ih=>
  intro ic fr σ Q hc h;have hc':=hc;obtain ⟨y,hy,he⟩:=map_some hc;cases he
  exact h pf an _ hc'
 | scope a ih=>
  intro ic fr σ Q hc h;obtain ⟨y,hy,he⟩:=map_some hc;cases he
  exact et8 (ih _ fr σ _ hy h)
 | exit id=>intro ic fr σ Q hc h; cases hc; exact gt1 h
 | ret=>intro ic fr σ Q hc h; cases hc; exact hq5 h
 | rangeFunc g ps assign body _ _=>
  intro ic fr σ Q hc h;have hc':=hc;simp only[am4] at hc;split at hc
  ·split at hc
   ·cases hc;exact h pf an _ hc'
   ·cases hc; exact (aw6 h).elim
  ·cases hc; exact (aw6 h).elim
 | _=>intro ic fr σ Q hc h; cases hc; exact (aw6 h).elim
theorem ap7 {n0:Nat}(ic:IC)(fr:Frm)(σ:Store)(Q:Exit→Frm→Store→Prop)(h:wpI P E N n0 ic fr σ Q):RI P E N n0 ic fr σ Q :=
 fun pf an c hc=>fm6 (pf:=pf) (an:=an) c ic fr σ Q hc h
theorem et9 {n0:Nat}{x:IC}{Q:Exit→Frm→Store→Prop}(I:Nat→Frm→Store→Prop)(m:Nat)(h:I m fr σ)(hI:∀ m fr σ,I m fr σ→wpI P E N n0 x fr σ (dl3 I m Q)):RI P E N n0 (.loop x) fr σ Q:=by
 intro pf an c hc
 cases c with
 | loop c=>
  obtain ⟨y,hy,he⟩:=map_some hc;cases he
  exact fy6 I m h (fun m fr σ hi=>ap7 _ _ _ _ (hI m fr σ hi) pf an _ hy)
 | region id ops draw=>
  exfalso;simp only[am4] at hc;split at hc
  ·cases hc
  ·split at hc<;>first|(cases hc; done)|(split at hc<;>cases hc)
  ·cases hc
 | seq a b=>simp only[am4] at hc; split at hc<;>cases hc
 | cond c a b=>simp only[am4] at hc; split at hc<;>cases hc
 | block id a=>obtain ⟨_,_,h⟩:=map_some hc; cases h
 | scope a=>obtain ⟨_,_,h⟩:=map_some hc; cases h
 | rangeFunc g ps assign body=>
  exfalso;simp only[am4] at hc;split at hc
  ·split at hc<;>cases hc
  ·cases hc
 | _=>cases hc
/-! ### Ranging over a function,compiled -/
inductive JX where
 | ret
 | exit (i:Nat)
 deriving Inhabited
def JX.code:JX→Code
 | .ret=>.ret
 | .exit i=>.exit i
def fm7 (Q:Exit→Frm→Store→Prop)(fr:Frm)(σ:Store):Option JX→Prop
 | none=>Q .normal fr σ
 | some .ret=>Q .ret fr σ
 | some (.exit i)=>Q (.exit i) fr σ
def cd1 (id:Nat)(L:LoopState→Option JX→ah2)(K:IV→Store→Prop):Exit→Frm→Store→Prop
 | .normal,_,σ=>σ.obj id=some (L .busy none)∧K (.bool true) (σ.put id (L .ready none))
 | .ret,_,σ=>σ.obj id=some (L .busy none)∧K (.bool false) (σ.put id (L .done (some .ret)))
 | .exit i,_,σ=>σ.obj id=some (L .busy none)∧K (.bool false) (σ.put id (L .done (some (.exit i))))
 | _,_,_=>False
theorem cu4 {n0:Nat}{g:IX}{ps:List Nat}{y x:IC}{Q:Exit→Frm→Store→Prop}
  (h:∀ L:LoopState→Option JX→ah2,
   (∀ (σ':Store) (args:List IV) (K:IV→Store→Prop),args.length=ps.length→σ'.obj σ.next=some (L .ready none) →
    RI P E N σ'.next y (bq5 fr ps args) σ' (fun e f s=>e=.normal∧s.obj σ.next=some (L .ready none)∧RI P E N σ'.next x f (s.put σ.next (L .busy none)) (cd1 σ.next L K))→CYd P E σ.next args σ' K) →
   CVf P E (g.ev E fr) [.yield σ.next] ⟨σ.next+1,(σ.put σ.next (L .ready none)).obj⟩ fun _ σ2=>
    σ.next≤σ2.next∧∃ st pend,st≠.busy∧σ2.obj σ.next=some (L st pend)∧fm7 Q fr (σ2.kill σ.next) pend) :
  RI P E N n0 (.rfunc g ps y x) fr σ Q:=by
 intro pf an c hc
 cases c with
 | rangeFunc go psA assign body=>
  simp only[am4] at hc;split at hc
  ·rename_i ya i yb hasg hi hy;split at hc
   ·rename_i hall;cases hc;have hps:∀ p∈psA.toList,p<N:=fun p hp=>by simpa using List.all_eq_true.1 hall p hp
    have h':=h (fun s p=>.loop N fr psA.toList.toArray assign body s (p.map JX.code)) (fun σ' args K hl ho hR=>by
     refine hb9 hps hl ho ((hR pf an assign hasg).mono fun e f s q=>⟨q.1,q.2.1,(q.2.2 pf an body hy).mono fun e f s q=>?_⟩)
     cases e with
     | normal=>exact q
     | ret=>exact q
     | exit i=>exact q
     | _=>exact q.elim)
    exact dn4 (n0:=n0) (Q:=Q) (ps:=psA.toList) (asg:=assign) (body:=body) (E:=E) (fr:=fr) (σ:=σ) (N:=N) hi (h'.mono (by
     rintro v s ⟨hn,st,pend,hst,hob,hq⟩;refine ⟨hn,st,pend.map JX.code,hst,hob,?_⟩
     cases pend with
     | none=>exact hq
     | some j=>cases j<;>exact hq))
   ·cases hc
  ·cases hc
 | region id ops draw=>
  exfalso;simp only[am4] at hc;split at hc
  ·cases hc
  ·split at hc<;>first|(cases hc; done)|(split at hc<;>cases hc)
  ·cases hc
 | seq a b=>simp only[am4] at hc; split at hc<;>cases hc
 | cond c a b=>simp only[am4] at hc; split at hc<;>cases hc
 | block id a=>obtain ⟨_,_,h⟩:=map_some hc; cases h
 | scope a=>obtain ⟨_,_,h⟩:=map_some hc; cases h
 | loop a=>obtain ⟨_,_,h⟩:=map_some hc; cases h
 | _=>cases hc
theorem al9 {n0:Nat}{x:IC}{Q Q':Exit→Frm→Store→Prop}(h:RI P E N n0 x fr σ Q)(hq:∀ e fr σ,Q e fr σ→Q' e fr σ):RI P E N n0 x fr σ Q' :=
 fun pf an c hc=>(h pf an c hc).mono hq
end Go.Id
