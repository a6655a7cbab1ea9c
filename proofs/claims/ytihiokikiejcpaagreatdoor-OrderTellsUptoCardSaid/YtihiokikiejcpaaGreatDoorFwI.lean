/- Open regions whose readers are taken ahead; what was read is read again behind what may write. Conditions: none; over any program. -/
import Derived.Test.YtihiokikiejcpaaGreatDoorFwN
set_option linter.all false
namespace Go.Id
open Go
variable {P:Program} {w w' w'':World} {ρ ρ' ρ'':Rho} {E:Nat->IV} {σ σ':Store} {N n n':Nat} {fr:Frm} {a:Act} {pf:List Nat}
def IK.cls:IK->Nat
 | .q u=>match u.kind with
  | 0=>0
  | _=>1
 | .ah5 _ _|.aw2 _ _ _ _|.ak7 _=>0
 | _=>2
theorem cm6 {op:IK}(h:op.cls=0):op.kind=0:=by
 cases op with
 | q u=>
  simp only[IK.cls] at h;split at h
  ·rename_i hk; exact hk
  ·cases h
 | ah5 f xs=>rfl
 | aw2 _ _ _ _=>rfl
 | ak7 _=>rfl
 | _=>cases h
theorem hu6 {op:IK}(h:op.cls<=1):(∃ q,op=.q q)\/op.cls=0:=by
 cases op with
 | q u=>exact .inl ⟨u,rfl⟩
 | ah5 f xs=>exact .inr rfl
 | aw2 _ _ _ _=>exact .inr rfl
 | ak7 _=>exact .inr rfl
 | _=>simp[IK.cls] at h
theorem cm7 {op:IK}{id:Nat}{K:IV->Store->Prop}(h:op.cls<=1):opR P E op id fr σ K↔∃ v,bi7 P E op id fr σ v σ/\K v σ:=by
 cases op with
 | q q=>exact ⟨fun ⟨v,h,k⟩=>⟨v,⟨h,rfl⟩,k⟩,fun ⟨v,⟨h,_⟩,k⟩=>⟨v,h,k⟩⟩
 | ah5 f xs=>exact ⟨fun ⟨v,h,k⟩=>⟨v,⟨h,rfl⟩,k⟩,fun ⟨v,⟨h,_⟩,k⟩=>⟨v,h,k⟩⟩
 | aw2 e n z ps=>exact ⟨fun ⟨out,h,k⟩=>⟨_,⟨out,h,rfl,rfl⟩,k⟩,fun ⟨_,⟨out,h,e1,_⟩,k⟩=>by subst e1; exact ⟨out,h,k⟩⟩
 | ak7 x=>exact ⟨fun ⟨h,k⟩=>⟨_,⟨h,rfl,rfl⟩,k⟩,fun ⟨_,⟨h,e1,_⟩,k⟩=>by subst e1; exact ⟨h,k⟩⟩
 | _=>simp[IK.cls] at h
theorem fk2 {op:IK}{id:Nat}{v:IV}(hk:op.cls<=1)(h:bi7 P E op id fr σ v σ'):σ'=σ:=by
 cases op with
 | q q=>exact h.2
 | ah5 f xs=>exact h.2
 | aw2 e n z ps=>obtain ⟨_,_,_,h⟩:=h; exact h
 | ak7 x=>exact h.2.2
 | _=>simp[IK.cls] at hk
def cq8 (E:Nat->IV)(fr:Frm):IQ->IQ
 | .load a x=>.load a (.c (x.ev E fr))
 | .lkp t z ok x k=>.lkp t z ok (.c (x.ev E fr)) (.c (k.ev E fr))
 | .len k x=>.len k (.c (x.ev E fr))
 | q=>q
theorem gb8 {q:IQ}(f:Frm)(h:q.kind≠0):evq E f σ (cq8 E fr q)=evq E fr σ q:=by
 cases q with
 | load a x=>rfl
 | lkp t z ok x k=>rfl
 | len k x=>rfl
 | _=>exact absurd rfl h
theorem gb9 {fr fr':Frm}{q:IQ}(h:∀ t∈q.ops.flatMap IX.uses,fr.get t=fr'.get t):cq8 E fr q=cq8 E fr' q:=by
 cases q with
 | load a x=>simp only[cq8]; rw[af4 (x:=x) (fun t ht=>h t (by simp[IQ.ops,ht]))]
 | lkp t z ok x k=>simp only[cq8]; rw[af4 (x:=x) (fun t ht=>h t (by simp[IQ.ops,ht])),af4 (x:=k) (fun t ht=>h t (by simp[IQ.ops,ht]))]
 | len k x=>simp only[cq8]; rw[af4 (x:=x) (fun t ht=>h t (by simp[IQ.ops,ht]))]
 | _=>rfl
abbrev LE:=Nat×IQ×IV
def ax6 (E:Nat->IV)(fr:Frm)(i:Nat)(op:IK)(v:IV)(L:List LE):List LE :=
 match op with
 | .q q=>if q.kind=0 then L else (i,cq8 E fr q,v)::L
 | _=>L
theorem bx2 {fr fr':Frm}{i:Nat}{op:IK}{v:IV}{L:List LE}(h:∀ t∈op.ops.flatMap IX.uses,fr.get t=fr'.get t):ax6 E fr i op v L=ax6 E fr' i op v L:=by
 cases op with
 | q q=>simp only[ax6]; rw[gb9 (q:=q) (fun t ht=>h t ht)]
 | _=>rfl
theorem bi8 {i:Nat}{op:IK}{v:IV}{L:List LE}:∀ e∈L,e∈ax6 E fr i op v L:=by
 intro e he;unfold ax6;split
 ·split
  ·exact he
  ·exact List.mem_cons_of_mem _ he
 ·exact he
theorem fk3 {i:Nat}{op:IK}{v:IV}{L L':List LE}(h:∀ e∈L',e∈L):∀ e∈ax6 E fr i op v L',e∈ax6 E fr i op v L:=by
 intro e he
 cases op with
 | q q=>
  simp only[ax6] at he ⊢;by_cases hk:q.kind=0
  ·rw[if_pos hk] at he ⊢; exact h e he
  ·rw[if_neg hk] at he ⊢;rcases List.mem_cons.1 he with rfl|he
   ·exact List.mem_cons_self ..
   ·exact List.mem_cons_of_mem _ (h e he)
 | _=>exact h e he
theorem cm8 {i:Nat}{op:IK}{v:IV}{L:List LE}(h:¬ op.cls<=1):ax6 E fr i op v L=L:=by
 cases op with
 | q q=>exfalso; apply h; simp only[IK.cls]; split<;>omega
 | _=>rfl
theorem gc1 {i j:Nat}{op op':IK}{v v':IV}{L:List LE}{fr':Frm}(e:LE):e∈ax6 E fr i op v (ax6 E fr' j op' v' L)↔e∈ax6 E fr' j op' v' (ax6 E fr i op v L):=by
 have key:∀ (fr:Frm) (i:Nat) (op:IK) (v:IV),(∃ x:LE,∀ L,ax6 E fr i op v L=x::L)\/∀ L,ax6 E fr i op v L=L:=by
  intro fr i op v
  cases op with
  | q q=>
   by_cases hk:q.kind=0
   ·exact .inr fun L=>by simp only[ax6,hk,if_true]
   ·exact .inl ⟨(i,cq8 E fr q,v),fun L=>by simp only[ax6,hk,if_false]⟩
  | _=>exact .inr fun _=>rfl
 rcases key fr i op v with ⟨x,hx⟩|hx<;>rcases key fr' j op' v' with ⟨y,hy⟩|hy<;>simp only[hx,hy]
 simp only[List.mem_cons];constructor
 ·rintro (h|h|h)
  ·exact .inr (.inl h)
  ·exact .inl h
  ·exact .inr (.inr h)
 ·rintro (h|h|h)
  ·exact .inr (.inl h)
  ·exact .inl h
  ·exact .inr (.inr h)
def gc2 (E:Nat->IV)(L:List LE)(m:Nat)(σ:Store):Prop:=∀ e∈L,m.testBit e.1=true->evq E [] σ e.2.1=some e.2.2
theorem bf9 {L:List LE}:gc2 E L 0 σ:=fun e _ h=>by simp at h
theorem bd2 {L L':List LE}{m:Nat}(h:∀ e∈L',e∈L)(hc:gc2 E L m σ):gc2 E L' m σ:=fun e he=>hc e (h e he)
abbrev cq9:=Nat×ad9×Nat×Nat
def il6 (P:Program)(E:Nat->IV)(o:ad9)(id m:Nat)(L:List LE)(fr:Frm)(σ:Store)(K:IV->Store->Prop)(Ks:Prop):Prop :=
 (ba6 o fr=some true/\opR P E o.op id fr σ (fun v σ'=>gc2 E L m σ'/\K v σ'))\/(ba6 o fr=some false/\Ks)
def aq9 (P:Program)(E:Nat->IV):List cq9->List LE->Frm->Store->(Frm->Store->Prop)->Prop
 | [],_,fr,σ,K=>K fr σ
 | (i,o,id,m)::rest,L,fr,σ,K=>il6 P E o id m L fr σ (fun v σ'=>aq9 P E rest (ax6 E fr i o.op v L) (fr.ak3 o.dst v) σ' K) (aq9 P E rest L (fr.ak3 o.dst skV) σ K)
theorem fk4 {K:Frm->Store->Prop}:∀ (its:List cq9) (L L':List LE) (fr:Frm) (σ:Store),(∀ e∈L',e∈L)->aq9 P E its L fr σ K->aq9 P E its L' fr σ K:=by
 intro its
 induction its with
 | nil=>exact fun _ _ _ _ _ h=>h
 | cons it its ih=>
  obtain ⟨i,o,id,m⟩:=it;rintro L L' fr σ hs (⟨ha,h⟩|⟨ha,h⟩)
  ·exact .inl ⟨ha,ai7 (fun v s ⟨c,k⟩=>⟨bd2 hs c,ih _ _ _ _ (fk3 hs) k⟩) h⟩
  ·exact .inr ⟨ha,ih _ _ _ _ hs h⟩
theorem ba4 {K:Frm->Store->Prop}(hK:∀ f f' s,FEq f f'->K f s->K f' s):∀ (its:List cq9) (L:List LE) (fr fr':Frm) (σ:Store),FEq fr fr'->aq9 P E its L fr σ K->aq9 P E its L fr' σ K:=by
 intro its
 induction its with
 | nil=>exact fun _ fr fr' σ h k=>hK _ _ _ h k
 | cons it its ih=>
  obtain ⟨i,o,id,m⟩:=it;rintro L fr fr' σ hf (⟨ha,h⟩|⟨ha,h⟩)
  ·refine .inl ⟨by rw[<- bd1 (fun t _=>hf t)]; exact ha,ai7 (fun v s ⟨c,k⟩=>⟨c,?_⟩) (fi9 hf h)⟩;show aq9 P E its (ax6 E fr' i o.op v L) _ s K;rw[<- bx2 (fr:=fr) (fun t _=>hf t)]; exact ih _ _ _ _ (cj6 hf _ _) k
  ·exact .inr ⟨by rw[<- bd1 (fun t _=>hf t)]; exact ha,ih _ _ _ _ (cj6 hf _ _) h⟩
theorem en8 {K K':Frm->Store->Prop}:∀ (its:List cq9) (L:List LE) (fr:Frm) (σ:Store),(∀ f s,K f s->K' f s)->aq9 P E its L fr σ K->aq9 P E its L fr σ K':=by
 intro its
 induction its with
 | nil=>exact fun _ _ _ hk h=>hk _ _ h
 | cons it its ih=>
  obtain ⟨i,o,id,m⟩:=it;rintro L fr σ hk (⟨ha,h⟩|⟨ha,h⟩)
  ·exact .inl ⟨ha,ai7 (fun v s ⟨c,k⟩=>⟨c,ih _ _ _ hk k⟩) h⟩
  ·exact .inr ⟨ha,ih _ _ _ hk h⟩
theorem fk5 {op:IK}{id:Nat}{fr fr':Frm}{K:IV->Store->Prop}(h:∀ t∈op.ops.flatMap IX.uses,fr.get t=fr'.get t):opR P E op id fr σ K->opR P E op id fr' σ K:=by
 cases op with
 | q q=>simp only[opR]; rw[fi5 (fun t ht=>h t ht)]; exact fun h=>h
 | alloc z=>exact fun h=>h
 | box x=>simp only[opR]; rw[af4 (x:=x) (fun t ht=>h t (by simp[IK.ops,ht]))]; exact fun h=>h
 | bsl e n z ps=>simp only[opR]; rw[ap7 (fun t ht=>h t ht)]; exact fun h=>h
 | store e x y=>simp only[opR]; rw[af4 (x:=x) (fun t ht=>h t (by simp[IK.ops,ht])),af4 (x:=y) (fun t ht=>h t (by simp[IK.ops,ht]))]; exact fun h=>h
 | app e x y=>simp only[opR]; rw[af4 (x:=x) (fun t ht=>h t (by simp[IK.ops,ht])),af4 (x:=y) (fun t ht=>h t (by simp[IK.ops,ht]))]; exact fun h=>h
 | bg3=>exact fun h=>h
 | be3 x=>simp only[opR]; rw[af4 (x:=x) (fun t ht=>h t (by simp[IK.ops,ht]))]; exact fun h=>h
 | cn4 x=>simp only[opR]; rw[af4 (x:=x) (fun t ht=>h t (by simp[IK.ops,ht]))]; exact fun h=>h
 | cr3 t x y z=>simp only[opR]; rw[af4 (x:=x) (fun t ht=>h t (by simp[IK.ops,ht])),af4 (x:=y) (fun t ht=>h t (by simp[IK.ops,ht])),af4 (x:=z) (fun t ht=>h t (by simp[IK.ops,ht]))]; exact fun h=>h
 | call f xs=>simp only[opR]; rw[au1 (xs:=xs) h]; exact fun h=>h
 | ah5 f xs=>simp only[opR]; rw[au1 (xs:=xs) h]; exact fun h=>h
 | aj3 x xs=>
  simp only[IK.ops,List.flatMap_cons,List.mem_append] at h
  simp only[opR]; rw[au1 (xs:=xs) (fun t ht=>h t (.inr ht)),af4 (x:=x) (fun t ht=>h t (.inl ht))]; exact fun h=>h
 | aw2 e n z ps=>simp only[opR]; rw[ap7 (fun t ht=>h t ht)]; exact fun h=>h
 | ak7 x=>simp only[opR]; rw[af4 (x:=x) (fun t ht=>h t (by simp[IK.ops,ht]))]; exact fun h=>h
 | ba7 x=>simp only[opR]; rw[af4 (x:=x) (fun t ht=>h t (by simp[IK.ops,ht]))]; exact fun h=>h
 | ch6 x=>simp only[opR]; rw[af4 (x:=x) (fun t ht=>h t (by simp[IK.ops,ht]))]; exact fun h=>h
 | fc9 x=>simp only[opR]; rw[af4 (x:=x) (fun t ht=>h t (by simp[IK.ops,ht]))]; exact fun h=>h
 | dk4 e z x=>simp only[opR]; rw[af4 (x:=x) (fun t ht=>h t (by simp[IK.ops,ht]))]; exact fun h=>h
 | clr e z x=>simp only[opR]; rw[af4 (x:=x) (fun t ht=>h t (by simp[IK.ops,ht]))]; exact fun h=>h
 | st k xs=>simp only[opR]; rw[au1 (xs:=xs) h]; exact fun h=>h
def fk6 (p x:cq9):Prop :=
 fj1 p.2.1 x.2.1/\(p.2.1.op.cls<=1/\p.2.2.2=0/\(p.2.1.op.cls=0\/x.2.1.op.cls<=1\/x.2.2.2.testBit p.1=true\/cm2 false p.2.1.op.kind x.2.1.op.kind=true) \/
  ¬ p.2.1.op.cls<=1/\cm2 false p.2.1.op.kind x.2.1.op.kind=true/\x.2.2.2=0/\(p.2.2.2=0\/x.2.1.op.cls<=1/\p.2.2.2.testBit x.1=false))
theorem gc3 {i m:Nat}{op:IK}{v:IV}{L:List LE}(h:gc2 E L m σ)(hb:m.testBit i=false):gc2 E (ax6 E fr i op v L) m σ:=by
 intro e he hm;unfold ax6 at he;split at he
 ·split at he
  ·exact h e he hm
  ·rcases List.mem_cons.1 he with rfl|he
   ·simp only at hm; rw[hb] at hm; cases hm
   ·exact h e he hm
 ·exact h e he hm
theorem il7 {K:Frm->Store->Prop} (hK:∀ f f' s,FEq f f'->K f s->K f' s) {ix:Nat} {x:ad9} {kx mx:Nat} {post:List cq9} :
  ∀ (pre:List cq9) (L:List LE) (fr:Frm) (σ:Store),(∀ p∈pre,fk6 p (ix,x,kx,mx))->(∀ p∈pre,p.2.2.1≠kx/\σ.obj p.2.2.1=none)->(pre.map (·.2.2.1)).Nodup->(pre≠[]->σ.obj kx=none) ->
   (∀ p∈pre,p.2.1.op.kind=2->∀ y∈x.op.ops,be9 p.2.2.1 (y.ev E fr)) ->
   aq9 P E (pre++(ix,x,kx,mx)::post) L fr σ K ->
   il6 P E x kx mx L fr σ (fun v σ'=>aq9 P E (pre++post) (ax6 E fr ix x.op v L) (fr.ak3 x.dst v) σ' K) (aq9 P E (pre++post) L (fr.ak3 x.dst skV) σ K):=by
 intro pre
 induction pre with
 | nil=>intro L fr σ _ _ _ _ _ h; exact h
 | cons p pre ih=>
  intro L fr σ hfree hids hnd hnx hH h;obtain ⟨ip,p,kp,mp⟩:=p;obtain ⟨hap,hfr⟩:=hfree _ (List.mem_cons_self ..);obtain ⟨hpx,hkp⟩:=hids _ (List.mem_cons_self ..);simp only at hap hfr hpx hkp;have hnx0:=hnx (by simp);have hnd':=List.nodup_cons.1 (show (kp::pre.map (·.2.2.1)).Nodup from hnd)
  have hfx:∀ vp,∀ t∈x.uses,(fr.ak3 p.dst vp).get t=fr.get t:=fun vp t ht=>by
   rw[ay2,if_neg]; intro e; exact hap.2 t e ht
  have hfxo:∀ vp,∀ t∈x.op.ops.flatMap IX.uses,(fr.ak3 p.dst vp).get t=fr.get t:=fun vp t ht=>hfx vp t (av6 ht)
  have hfp:∀ vx,∀ t∈p.uses,fr.get t=(fr.ak3 x.dst vx).get t:=fun vx t ht=>by
   rw[ay2,if_neg]; intro e; exact (hap.1 t e).1 ht
  have hfpo:∀ vx,∀ t∈p.op.ops.flatMap IX.uses,fr.get t=(fr.ak3 x.dst vx).get t:=fun vx t ht=>hfp vx t (av6 ht)
  have feq:∀ vp vx,FEq ((fr.ak3 p.dst vp).ak3 x.dst vx) ((fr.ak3 x.dst vx).ak3 p.dst vp):=fun vp vx t=>by
   simp only[ay2];by_cases h1:x.dst=some t
   ·have h2:p.dst≠some t:=(hap.1 t h1).2;simp[h1,h2]
   ·simp[h1]
  have hactx:∀ vp ax,ba6 x (fr.ak3 p.dst vp)=some ax->ba6 x fr=some ax:=fun vp ax h=>by rw[<- bd1 (hfx vp)]; exact h
  have hactp:∀ {ap:Bool},ba6 p fr=some ap->∀ vx,ba6 p (fr.ak3 x.dst vx)=some ap:=fun hact vx=>by rw[<- bd1 (hfp vx)]; exact hact
  -- the rest,at a store where the fresh ones are fresh
  have IH:∀ (vp:IV) (L1:List LE) (σ1:Store),(∀ i,i≠kp->σ.obj i=none->σ1.obj i=none)->aq9 P E (pre++(ix,x,kx,mx)::post) L1 (fr.ak3 p.dst vp) σ1 K ->
    il6 P E x kx mx L1 (fr.ak3 p.dst vp) σ1 (fun v σ'=>aq9 P E (pre++post) (ax6 E (fr.ak3 p.dst vp) ix x.op v L1) ((fr.ak3 p.dst vp).ak3 x.dst v) σ' K) (aq9 P E (pre++post) L1 ((fr.ak3 p.dst vp).ak3 x.dst skV) σ1 K):=by
   intro vp L1 σ1 fresh1 ht
   exact ih L1 (fr.ak3 p.dst vp) σ1 (fun q hq=>hfree q (List.mem_cons_of_mem _ hq))
    (fun q hq=>⟨(hids q (List.mem_cons_of_mem _ hq)).1,fresh1 _ (fun e=>hnd'.1 (by rw[<- e]; exact List.mem_map.2 ⟨q,hq,rfl⟩)) (hids q (List.mem_cons_of_mem _ hq)).2⟩)
    hnd'.2 (fun _=>fresh1 kx (fun e=>hpx e.symm) hnx0)
    (fun q hq hk2 y hy=>by
     have:y.ev E (fr.ak3 p.dst vp)=y.ev E fr:=af4 fun t ht=>hfxo vp t (List.mem_flatMap.2 ⟨y,hy,ht⟩)
     rw[this]; exact hH q (List.mem_cons_of_mem _ hq) hk2 y hy) ht
  rcases h with ⟨hact,hh⟩|⟨hact,hh⟩
  ·rcases hfr with ⟨kp1,hmp,hc⟩|⟨kp2,hfk,hmx,hc⟩
   ·-- p reads at most
    subst hmp;obtain ⟨vp,hd,_,htree⟩:=(cm7 kp1).1 hh;have hde:∀ {s:Store} vx,bi7 P E p.op kp fr s vp s->bi7 P E p.op kp (fr.ak3 x.dst vx) s vp s:=fun vx h=>bf8 (hfpo vx) h
    rcases IH vp _ σ (fun _ _ h=>h) htree with ⟨h1,h2⟩|⟨h1,h2⟩
    ·have h3:=fk5 (hfxo vp) h2
     have h4:opR P E x.op kx fr σ (fun v σ'=>bi7 P E p.op kp fr σ' vp σ'/\gc2 E L mx σ'/\aq9 P E (pre++post) (ax6 E (fr.ak3 p.dst vp) ix x.op v (ax6 E fr ip p.op vp L)) ((fr.ak3 p.dst vp).ak3 x.dst v) σ' K):=by
      rcases hc with c0|cx|cm|ck
      ·exact ai7 (fun v s ⟨c,k⟩=>⟨(br9 (cm6 c0) hd).2 s,bd2 bi8 c,k⟩) h3
      ·obtain ⟨vx,e1,c,k⟩:=(cm7 cx).1 h3;exact (cm7 cx).2 ⟨vx,e1,hd,bd2 bi8 c,k⟩
      ·rcases hu6 kp1 with ⟨q,hq⟩|c0
       ·by_cases hk0:q.kind=0
        ·have c0:p.op.cls=0:=by rw[hq]; simp only[IK.cls,hk0]
         exact ai7 (fun v s ⟨c,k⟩=>⟨(br9 (cm6 c0) hd).2 s,bd2 bi8 c,k⟩) h3
        ·refine ai7 (fun v s ⟨c,k⟩=>⟨?_,bd2 bi8 c,k⟩) h3;rw[hq];refine ⟨?_,rfl⟩
         have hmem:(ip,cq8 E fr q,vp)∈ax6 E fr ip p.op vp L:=by
          rw[hq];simp only[ax6,hk0,if_false];exact List.mem_cons_self ..
         have:=c _ hmem cm;rw[gb8 _ hk0] at this;exact this
       ·exact ai7 (fun v s ⟨c,k⟩=>⟨(br9 (cm6 c0) hd).2 s,bd2 bi8 c,k⟩) h3
      ·obtain ⟨kp5,kx5⟩:=de1 ck;obtain ⟨vx,σ2,e1,c,k⟩:=(aw7 kx5).1 h3;have e1':bi7 P E x.op kx (fr.ak3 p.dst vp) σ vx σ2:=bf8 (fun t ht=>(hfxo vp t ht).symm) e1;obtain ⟨σ1',s1,_,s3,_⟩:=dd9 (B:=false) hd (fun h=>by cases h) e1' (fun h=>by cases h) ck (hfxo vp) (hfpo vx) hpx hkp hnx0 (hH _ (List.mem_cons_self ..));have hs:σ2=σ1':=fk2 kp1 s3;subst hs;exact (aw7 kx5).2 ⟨vx,σ2,s1,bf8 (fun t ht=>(hfpo vx t ht).symm) s3,bd2 bi8 c,k⟩
     refine .inl ⟨hactx _ _ h1,ai7 (fun v s ⟨hd',c,k⟩=>⟨c,?_⟩) h4⟩;refine .inl ⟨hactp hact v,(cm7 kp1).2 ⟨vp,hde v hd',bf9,?_⟩⟩;rw[bx2 (fr':=fr) (hfxo vp)] at k;have k2:=ba4 hK _ _ _ _ _ (feq vp v) k;show aq9 P E (pre++post) (ax6 E (fr.ak3 x.dst v) ip p.op vp (ax6 E fr ix x.op v L)) _ s K;rw[<- bx2 (fr:=fr) (hfpo v)];exact fk4 _ _ _ _ _ (fun e he=>(gc1 e).1 he) k2
    ·refine .inr ⟨hactx _ _ h1,.inl ⟨hactp hact skV,(cm7 kp1).2 ⟨vp,hde skV hd,bf9,?_⟩⟩⟩;show aq9 P E (pre++post) (ax6 E (fr.ak3 x.dst skV) ip p.op vp L) _ σ K;rw[<- bx2 (fr:=fr) (hfpo skV)];exact ba4 hK _ _ _ _ _ (feq vp skV) h2
   ·-- p writes,or lays
    obtain ⟨kp5,kx5⟩:=de1 hfk;obtain ⟨vp,σ1,hd,hchk,htree⟩:=(aw7 kp5).1 hh;subst hmx;rw[cm8 kp2] at htree;rcases IH vp _ σ1 (fun i hi h0=>dn4 kp5 hi hd h0) htree with ⟨h1,h2⟩|⟨h1,h2⟩
    ·obtain ⟨vx,σ2,e1,_,k⟩:=(aw7 kx5).1 h2;obtain ⟨σ1',s1,_,s3,_⟩:=dd9 (B:=false) hd (fun h=>by cases h) e1 (fun h=>by cases h) hfk (hfxo vp) (hfpo vx) hpx hkp hnx0 (hH _ (List.mem_cons_self ..));refine .inl ⟨hactx _ _ h1,(aw7 kx5).2 ⟨vx,σ1',s1,bf9,.inl ⟨hactp hact vx,(aw7 kp5).2 ⟨vp,σ2,s3,?_,?_⟩⟩⟩⟩
     ·rcases hc with h0|⟨cx,hb⟩
      ·subst h0; exact bf9
      ·have hs:σ2=σ1:=fk2 cx e1;subst hs;exact gc3 hchk hb
     ·show aq9 P E (pre++post) (ax6 E _ ip p.op vp (ax6 E fr ix x.op vx L)) _ σ2 K;rw[cm8 kp2];rw[bx2 (fr':=fr) (hfxo vp)] at k;exact ba4 hK _ _ _ _ _ (feq vp vx) k
    ·refine .inr ⟨hactx _ _ h1,.inl ⟨hactp hact skV,(aw7 kp5).2 ⟨vp,σ1,bf8 (hfpo skV) hd,hchk,?_⟩⟩⟩;show aq9 P E (pre++post) (ax6 E _ ip p.op vp L) _ σ1 K;rw[cm8 kp2];exact ba4 hK _ _ _ _ _ (feq vp skV) h2
  ·rcases IH skV L σ (fun _ _ h=>h) hh with ⟨h1,h2⟩|⟨h1,h2⟩
   ·refine .inl ⟨hactx _ _ h1,ai7 (fun v s ⟨c,k⟩=>⟨c,?_⟩) (fk5 (hfxo skV) h2)⟩;refine .inr ⟨hactp hact v,?_⟩;replace k:aq9 P E (pre++post) (ax6 E (fr.ak3 p.dst skV) ix x.op v L) ((fr.ak3 p.dst skV).ak3 x.dst v) s K:=k;rw[bx2 (fr':=fr) (hfxo skV)] at k;exact ba4 hK _ _ _ _ _ (feq skV v) k
   ·exact .inr ⟨hactx _ _ h1,.inr ⟨hactp hact skV,ba4 hK _ _ _ _ _ (feq skV skV) h2⟩⟩
end Go.Id
/- Open regions whose readers are taken ahead: the check,and the rule. Conditions: none; over any program. -/
namespace Go.Id
open Go
variable {P:Program} {w w' w'':World} {ρ ρ' ρ'':Rho} {E:Nat->IV} {σ σ':Store} {N n n':Nat} {fr:Frm} {a:Act} {pf:List Nat}
structure it6 (P:Program) (pf:List Nat) (N:Nat) (ops:Array Oper) (anc:Nat->Nat->Prop) (base:Nat) (rem:List cq9) (listed:Array Bool):Prop where
 size:listed.size=ops.size
 un:∀ j,j<ops.size->(listed.getD j true=false↔∃ it∈rem,it.1=j)
 its:∀ it∈rem,∃ o,ops[it.1]? = some o/\bx5 P pf N ops o=some it.2.1/\it.2.2.1=base+it.1/\∀ y∈it.2.1.op.ops,IX.quiet y=true
 pw:rem.Pairwise fun p x=>(anc p.1 x.1\/fk6 p x)/\p.1≠x.1/\∀ o,ops[p.1]? = some o->∀ e∈o.after,Region.binds .any e=true->e.on≠x.1
 dc:∀ j,listed.getD j false=true->∀ k,anc k j->listed.getD k false=true
theorem en9 {ops:Array Oper} {anc:Nat->Nat->Prop} {n0 base:Nat} {ro:Option Nat} {Qw:Exit->Act->World->Prop} {K:Frm->Store->Prop} {ρ0:Rho} {w0:World} {ds:List Deferred}
  (hKf:∀ f f' s,FEq f f'->K f s->K f' s)
  (hfin:∀ fr σ ρ w a,n0<=σ.next->K fr σ->Sim E ρ w σ->FR ρ w N fr a.tmps->a.defers=ds->ay1 n0 ρ0 w0 ρ w->Qw .normal a w)
  (hed:∀ j o,ops[j]? = some o->∀ e∈o.after,Region.binds .any e=true->e.on<ops.size/\e.on≠j)
  (hanc:∀ k j,anc k j->∀ o,ops[j]? = some o->∃ e∈o.after,Region.binds .any e=true/\(e.on=k\/anc k e.on)) :
  ∀ (fuel:Nat) (rem:List cq9) (L:List LE) (listed:Array Bool) (fr:Frm) (σ:Store) (ρ:Rho) (w:World) (a:Act),rem.length=fuel->it6 P pf N ops anc base rem listed->aq9 P E rem L fr σ K ->
   Sim E ρ w σ->FR ρ w N fr a.tmps->a.defers=ds->ay1 n0 ρ0 w0 ρ w->n0<=base->base+ops.size<=σ.next->(∀ it∈rem,ρ it.2.2.1=.no) ->
   wpAnyIn (fw ro) 0 P .any ops Qw fuel listed a w:=by
 intro fuel
 induction fuel with
 | zero=>
  intro rem L listed fr σ ρ w a hlen hr h hs hf hd hx hn0 hnx hno;have:rem=[]:=List.length_eq_zero_iff.1 hlen;subst this;refine ⟨?_,hfin fr σ ρ w a (by omega) h hs hf hd hx⟩;rw[List.eq_nil_iff_forall_not_mem];intro j hj;obtain ⟨h0,_⟩:=mem_ready.1 hj;obtain ⟨it,hit,_⟩:=(hr.un j (by rw[<- hr.size]; exact getD_lt h0)).1 h0
  cases hit
 | succ fuel ih=>
  intro rem L listed fr σ ρ w a hlen hr h hs hf hd hx hn0 hnx hno;refine ⟨fun hemp=>?_,fun i hi=>?_⟩
  ·exfalso
   cases rem with
   | nil=>cases hlen
   | cons it rem=>
    obtain ⟨o,ho,hc,hid,_⟩:=hr.its it (List.mem_cons_self ..)
    have hlt:it.1<ops.size:=by
     rcases Nat.lt_or_ge it.1 ops.size with h'|h'
     ·exact h'
     ·simp[Array.getElem?_eq_none h'] at ho
    have:it.1∈Region.ready .any ops listed:=by
     refine mem_ready.2 ⟨(hr.un _ hlt).2 ⟨it,List.mem_cons_self ..,rfl⟩,o,ho,fun e he hb=>?_⟩;obtain ⟨h1,h2⟩:=hed _ o ho e he hb;have hj:e.on<listed.size:=by rw[hr.size]; exact h1
     by_cases hL:listed.getD e.on true=false
     ·obtain ⟨jt,hjt,hje⟩:=(hr.un _ h1).1 hL;rcases List.mem_cons.1 hjt with rfl|hjt
      ·exact absurd hje.symm h2
      ·exact absurd hje.symm (((List.pairwise_cons.1 hr.pw).1 jt hjt).2.2 o ho e he hb)
     ·simp[hj] at hL ⊢; exact hL
    rw[hemp] at this;cases this
  ·obtain ⟨h0,o,ho,hall⟩:=mem_ready.1 hi;have hlt:i<ops.size:=by rw[<- hr.size]; exact getD_lt h0
   obtain ⟨it,hit,hie⟩:=(hr.un i hlt).1 h0;obtain ⟨pre,post,rfl⟩:=List.append_of_mem hit;obtain ⟨ix,x,kx,mx⟩:=it;simp only at hie;subst hie;obtain ⟨o',ho',hc,hkx,hqx⟩:=hr.its _ hit;simp only at ho' hc hkx hqx;rw[ho] at ho';cases ho';obtain ⟨hpp,hxp,hcross⟩:=List.pairwise_append.1 hr.pw;have hcx:=fun p hp=>hcross p hp _ (List.mem_cons_self ..)
   have hnotL:∀ p∈pre,listed.getD p.1 false≠true:=fun p hp hL=>by
    obtain ⟨op,hop,_⟩:=hr.its p (List.mem_append_left _ hp)
    have hpl:p.1<ops.size:=by
     rcases Nat.lt_or_ge p.1 ops.size with h'|h'
     ·exact h'
     ·simp[Array.getElem?_eq_none h'] at hop
    have:=(hr.un p.1 hpl).2 ⟨p,List.mem_append_left _ hp,rfl⟩;rw[fj4 hL] at this;cases this
   have hfree:∀ p∈pre,fk6 p (ix,x,kx,mx):=fun p hp=>by
    rcases (hcx p hp).1 with ha|hf
    ·exfalso;obtain ⟨e,he,hb,heq⟩:=hanc _ _ ha o ho;have hle:=hall e he hb;rcases heq with heq|ha'
     ·exact hnotL p hp (by rw[<- heq]; exact hle)
     ·exact hnotL p hp (hr.dc _ hle _ ha')
    ·exact hf
   have hidp:∀ p∈pre,p.2.2.1=base+p.1:=fun p hp=>by
    obtain ⟨_,_,_,h1,_⟩:=hr.its p (List.mem_append_left _ hp);exact h1
   have hpull:=il7 (P:=P) (E:=E) (K:=K) hKf (ix:=ix) (x:=x) (kx:=kx) (mx:=mx) (post:=post) pre L fr σ hfree
    (fun p hp=>⟨by rw[hidp p hp,hkx]; have:=(hcx p hp).2.1; omega,hs.ao5 _ (hno p (List.mem_append_left _ hp))⟩)
    (by
     rw[List.nodup_iff_pairwise_ne,List.pairwise_map];refine (List.Pairwise.and_mem.1 hpp).imp ?_;intro p q ⟨hp,hq,h1⟩;rw[hidp p hp,hidp q hq];have:=h1.2.1;omega)
    (fun _=>hs.ao5 _ (hno _ hit))
    (fun p hp _ y hy=>IX.cm3 (hqx y hy) hs hf (hno p (List.mem_append_left _ hp))) h
   obtain ⟨⟨fz,hk⟩,hdst,hdN,hg⟩:=bp3 hc;have hidx:kx<σ.next/\n0<=kx:=by rw[hkx]; omega
   have hmem:∀ it∈pre++post,it∈pre++(ix,x,kx,mx)::post:=fun it h=>by
    rcases List.mem_append.1 h with h|h
    ·exact List.mem_append_left _ h
    ·exact List.mem_append_right _ (List.mem_cons_of_mem _ h)
   have hne:∀ it∈pre++post,it.1≠ix:=fun it h=>by
    rcases List.mem_append.1 h with h|h
    ·exact (hcx it h).2.1
    ·exact fun e=>((List.pairwise_cons.1 hxp).1 it h).2.1 e.symm
   have hrem:it6 P pf N ops anc base (pre++post) (listed.setIfInBounds ix true):=by
    refine ⟨by simp[hr.size],fun j hj=>?_,fun it hit=>hr.its it (hmem it hit),?_,?_⟩
    ·by_cases hji:j=ix
     ·subst hji;have:j<listed.size:=by rw[hr.size]; exact hj
      constructor
      ·intro h; simp[this] at h
      ·rintro ⟨it,h1,h2⟩; exact absurd h2 (hne it h1)
     ·rw[getD_set_ne true (Ne.symm hji),hr.un j hj];constructor
      ·rintro ⟨it,h1,h2⟩;refine ⟨it,?_,h2⟩;rcases List.mem_append.1 h1 with h1|h1
       ·exact List.mem_append_left _ h1
       ·rcases List.mem_cons.1 h1 with rfl|h1
        ·exact absurd h2.symm hji
        ·exact List.mem_append_right _ h1
      ·rintro ⟨it,h1,h2⟩; exact ⟨it,hmem it h1,h2⟩
    ·exact hr.pw.sublist (List.Sublist.append (List.Sublist.refl _) (List.sublist_cons_self _ _))
    ·intro j hj k hk;by_cases hji:j=ix
     ·subst hji;obtain ⟨e,he,hb,heq⟩:=hanc _ _ hk o ho;have hle:=hall e he hb;rcases heq with rfl|ha'
      ·exact getD_set_true hle
      ·exact getD_set_true (hr.dc _ hle _ ha')
     ·rw[getD_set_ne false (Ne.symm hji)] at hj;exact getD_set_true (hr.dc _ hj _ hk)
   have hlen':(pre++post).length=fuel:=by simp at hlen ⊢; omega
   have hne2:∀ it∈pre++post,it.2.2.1≠kx:=fun it h=>by
    obtain ⟨_,_,_,h1,_⟩:=hr.its it (hmem it h);rw[h1,hkx];have:=hne it h;omega
   unfold wpOpIn;simp only[ho]
   have run:opR P E x.op kx fr σ (fun v σ'=>gc2 E L mx σ'/\aq9 P E (pre++post) (ax6 E fr ix x.op v L) (fr.ak3 x.dst v) σ' K)->o.wpIn (fw ro) 0 P a w (wpAnyIn (fw ro) 0 P .any ops Qw fuel (listed.setIfInBounds ix true)) Qw:=by
    intro hop;refine de9 hk hop hs hf (by omega) (fun hl=>⟨hno _ hit,hidx.1,hidx.2⟩) ?_;intro v σ' r ρ' w' hnx' hK hs' hv' hx' hno';refine ih (pre++post) _ _ _ σ' ρ' w' (a.put o.dst r) hlen' hrem hK.2 hs' ?_ (by rw[put_defers]; exact hd) (hx.trans (hx'.weak (Nat.le_refl _))) hn0 (by omega) ?_
    ·rw[hdst]; exact FR.ak3 (hf.mono hx') hdN hv'
    ·intro jt hjt;obtain ⟨jo,hjo,_,h1,_⟩:=hr.its jt (hmem jt hjt)
     have hjl:jt.1<ops.size:=by
      rcases Nat.lt_or_ge jt.1 ops.size with h'|h'
      ·exact h'
      ·simp[Array.getElem?_eq_none h'] at hjo
     exact hno' _ (by rw[h1]; omega) (fun _=>hne2 jt hjt) (hno _ (hmem jt hjt))
   rcases hg with ⟨hg1,hg2⟩|⟨j,want,s,hg1,hgs,hg2⟩
   ·have hw:Region.wanted o (yielded ops a.tmps)=true:=by unfold Region.wanted; rw[hg1]
    rw[if_pos hw];rcases hpull with ⟨hact,hh⟩|⟨hact,hh⟩
    ·exact run hh
    ·simp[ba6,hg2] at hact
   ·rcases hpull with ⟨hact,hh⟩|⟨hact,hh⟩
    ·simp only[ba6,hg2] at hact;have hw:=bs4 hg1 hgs hf hact;rw[hw];exact run hh
    ·simp only[ba6,hg2] at hact;have hw:=bs4 hg1 hgs hf hact;rw[hw];refine ⟨fun f _=>trivial,?_⟩;exact ih (pre++post) _ _ _ σ ρ w (a.put o.dst undef) hlen' hrem hh hs (by rw[hdst]; exact FR.ak3 hf hdN fm2) (by rw[put_defers]; exact hd) hx hn0 hnx (fun jt hjt=>hno _ (hmem jt hjt))
abbrev YO:=Nat×ad9×Nat
def gc4 (base:Nat)(l:List YO):List cq9:=l.map fun y=>(y.1,y.2.1,base+y.1,y.2.2)
def fk7 (p x:YO):Bool :=
 ed8 p.2.1 x.2.1&&((decide (p.2.1.op.cls<=1)&&p.2.2==0&&(p.2.1.op.cls==0||decide (x.2.1.op.cls<=1)||x.2.2.testBit p.1||cm2 false p.2.1.op.kind x.2.1.op.kind)) ||
  (!decide (p.2.1.op.cls<=1)&&cm2 false p.2.1.op.kind x.2.1.op.kind&&x.2.2==0&&(p.2.2==0||decide (x.2.1.op.cls<=1)&&!p.2.2.testBit x.1)))
theorem dw3 {p x:YO}{a b:Nat}(h:fk7 p x=true):fk6 (p.1,p.2.1,a,p.2.2) (x.1,x.2.1,b,x.2.2):=by
 unfold fk7 at h;simp only[Bool.and_eq_true,Bool.or_eq_true,decide_eq_true_eq,beq_iff_eq,Bool.not_eq_true',decide_eq_false_iff_not] at h;refine ⟨cm4 h.1,?_⟩;rcases h.2 with ⟨⟨h1,h2⟩,h3⟩|⟨⟨⟨h1,h2⟩,h3⟩,h4⟩
 ·refine .inl ⟨h1,h2,?_⟩;rcases h3 with ((h3|h3)|h3)|h3
  ·exact .inl h3
  ·exact .inr (.inl h3)
  ·exact .inr (.inr (.inl h3))
  ·exact .inr (.inr (.inr h3))
 ·exact .inr ⟨h1,h2,h3,h4⟩
def ee3 (ess:List (List Nat))(ms:List Nat):List YO->Bool
 | []=>true
 | p::xs=>xs.all (fun x=>((ms.getD x.1 0).testBit p.1||fk7 p x)&&p.1 != x.1&&!(ess.getD p.1 []).contains x.1)&&ee3 ess ms xs
theorem dw4 {ess:List (List Nat)}{ms:List Nat}{base:Nat}:∀ l:List YO,ee3 ess ms l=true->(gc4 base l).Pairwise fun p x=>((ms.getD x.1 0).testBit p.1=true\/fk6 p x)/\p.1≠x.1/\x.1 ∉ ess.getD p.1 []:=by
 intro l
 induction l with
 | nil=>intro _; exact .nil
 | cons p xs ih=>
  intro h;simp only[ee3,Bool.and_eq_true,List.all_eq_true] at h;refine List.pairwise_cons.2 ⟨fun it hit=>?_,ih h.2⟩;obtain ⟨x,hx,rfl⟩:=List.mem_map.1 hit;obtain ⟨⟨h1,h2⟩,h3⟩:=h.1 x hx;refine ⟨?_,by simpa using h2,by simpa using h3⟩;rw[Bool.or_eq_true] at h1;rcases h1 with h1|h1
  ·exact .inl h1
  ·exact .inr (dw3 h1)
def gq1 (ios:List ad9)(l:List (Nat×Nat)):List YO:=l.map fun q=>(q.1,ios.getD q.1 default,q.2)
def yOK (ess:List (List Nat))(ios:List ad9)(l:List (Nat×Nat)):Bool :=
 let ms:=fj6 ess
 hu4 0 ess&&hu5 ms 0 ess&&ee3 ess ms (gq1 ios l)&&(ios.all fun o=>o.op.ops.all IX.quiet) &&
  l.all (fun q=>decide (q.1<ios.length))&&(List.range ios.length).all (fun j=>l.any fun q=>q.1==j)&&l.length==ios.length
theorem fk8 {n0 id:Nat}{ops:Array Oper}{ios:List ad9}{l:List (Nat×Nat)}{Q:Exit->Frm->Store->Prop}{ks:List Nat}(hm:P.follows .mixedOrders=true)(hc:bg2 P pf N ops ops.toList=some ios)
  (hok:yOK (ops.toList.map ah3) ios l=true)
  (h:aq9 P E (gc4 σ.next (gq1 ios l)) [] fr { σ with next:=σ.next+l.length } (fun fr' σ'=>Q .normal (fr'.keep ks) σ')):R P E N n0 (.region id ops true) fr σ Q:=by
 intro hn ro h0 ρ w a hs hf hd hr;refine wpIn_region_any hm ?_;have hlen:ios.length=ops.size:=by rw[ct5 _ _ hc]; simp
 unfold yOK at hok;simp only[Bool.and_eq_true,List.all_eq_true,beq_iff_eq,decide_eq_true_eq] at hok;obtain ⟨⟨⟨⟨⟨⟨hed,hms⟩,hpr⟩,hq⟩,hlt⟩,hall⟩,hll⟩:=hok;generalize fj6 (ops.toList.map ah3)=ms at hms hpr;have hes:∀ (j:Nat) (o:Oper),ops[j]? = some o->(ops.toList.map ah3)[j]? = some (ah3 o):=fun j o ho=>by simp[ho]
 have hme:∀ (o:Oper) (k:Nat),k∈ah3 o->∃ e∈o.after,Region.binds .any e=true/\e.on=k:=fun o k hk=>by
  unfold ah3 at hk;obtain ⟨e,he,rfl⟩:=List.mem_map.1 hk;obtain ⟨h1,h2⟩:=List.mem_filter.1 he;exact ⟨e,by simpa using h1,h2,rfl⟩
 have hem:∀ (o:Oper) (e:Edge),e∈o.after->Region.binds .any e=true->e.on∈ah3 o:=fun o e he hb=>
  List.mem_map.2 ⟨e,List.mem_filter.2 ⟨by simpa using he,hb⟩,rfl⟩
 have hmemI:∀ it∈gc4 σ.next (gq1 ios l),∃ q∈l,it=(q.1,ios.getD q.1 default,σ.next+q.1,q.2):=fun it hit=>by
  obtain ⟨y,hy,rfl⟩:=List.mem_map.1 hit;obtain ⟨q,hq',rfl⟩:=List.mem_map.1 hy;exact ⟨q,hq',rfl⟩
 refine en9 (E:=E) (pf:=pf) (N:=N) (anc:=fun k j=>(ms.getD j 0).testBit k=true) (n0:=n0) (base:=σ.next) (ρ0:=ρ) (w0:=w) (ds:=a.defers) (K:=fun fr' σ'=>Q .normal (fr'.keep ks) σ') ?_ ?_ ?_ ?_
  ops.size (gc4 σ.next (gq1 ios l)) [] _ fr { σ with next:=σ.next+l.length } ρ w.drew a (by simp[gc4,gq1,hll,hlen]) ?_ h
  (de7 (cj3 hs) (fun i hi=>hs.fresh i (by omega))) (hf.mono (av5 0)) rfl ((av5 n0).weak (Nat.le_refl _)) hn (by rw[hll,hlen]; exact Nat.le_refl _) ?_
 ·intro f f' s hff hK
  have:f'.keep ks=f.keep ks:=by
   unfold Frm.keep;exact List.map_congr_left fun k _=>by rw[hff k]
  rw[this]; exact hK
 ·intro fr' σ' ρ' w' a' hn' hK hs' hf' hd' hx;exact ⟨fr'.keep ks,σ',ρ',hn',hK,hs',hf'.keep ks,by rw[hd']; exact hd.mono hx,hr.mono hx,hx⟩
 ·intro j o ho e he hb;have:=cm5 _ _ hed j _ (hes j o ho) _ (hem o e he hb)
  have hj:j<ops.size:=by
   rcases Nat.lt_or_ge j ops.size with h'|h'
   ·exact h'
   ·simp[Array.getElem?_eq_none h'] at ho
  omega
 ·intro k j hk o ho;have:=dn6 _ _ hms j _ (hes j o ho);simp only[Nat.zero_add] at this;rw[this] at hk;rcases fj7 _ _ hk with h1|⟨e,he,h1⟩
  ·simp at h1
  ·obtain ⟨ed,hed1,hb,heq⟩:=hme o e he;exact ⟨ed,hed1,hb,by rw[heq]; exact h1⟩
 ·refine ⟨by simp,fun j hj=>?_,fun it hit=>?_,?_,?_⟩
  ·constructor
   ·intro _;have:=hall j (by simp[List.mem_range,hlen,hj]);obtain ⟨q,hq',he⟩:=List.any_eq_true.1 this;have he:q.1=j:=by simpa using he
    exact ⟨(q.1,ios.getD q.1 default,σ.next+q.1,q.2),List.mem_map.2 ⟨_,List.mem_map.2 ⟨q,hq',rfl⟩,rfl⟩,he⟩
   ·intro _; simp[hj]
  ·obtain ⟨q,hq',rfl⟩:=hmemI it hit;have hql:=hlt q hq';have hqs:q.1<ops.size:=by omega
   obtain ⟨jt,hjt,hje⟩:=ee1 (base:=σ.next) ios 0 q.1 (Nat.zero_le _) (by omega);obtain ⟨o,h1,h2⟩:=ee2 ops.toList ios 0 rfl hc jt hjt
   have hget:ios[q.1]? = some jt.2.1:=by
    have:∀ (ios:List ad9) (i:Nat),∀ it∈ed7 σ.next i ios,ios[it.1-i]? = some it.2.1:=by
     intro ios
     induction ios with
     | nil=>intro i it h; cases h
     | cons o os ih=>
      intro i it h;rcases List.mem_cons.1 h with rfl|h
      ·simp
      ·have h1:=fj8 os _ it h;have h2:=ih _ it h;rw[show it.1-i=(it.1-(i+1))+1 from by omega]
       simpa using h2
    have:=this ios 0 jt hjt;rw[hje] at this
    simpa using this
   have hd:ios.getD q.1 default=jt.2.1:=by simp[List.getD_eq_getElem?_getD,hget]
   rw[hje] at h1;refine ⟨o,h1,by simp only[hd]; exact h2,rfl,?_⟩;simp only[hd];exact hq _ (List.mem_of_getElem? hget)
  ·refine (dw4 (base:=σ.next) _ hpr).imp ?_;intro p x ⟨h1,h2,h3⟩;refine ⟨h1,h2,fun o ho e he hb heq=>h3 ?_⟩;have:(ops.toList.map ah3).getD p.1 []=ah3 o:=by rw[List.getD_eq_getElem?_getD,hes p.1 o ho]; rfl
   rw[this,<- heq];exact hem o e he hb
  ·intro j hj;exfalso;by_cases hlt:j<ops.size
   ·simp[hlt] at hj
   ·simp[hlt] at hj
 ·intro it hit;obtain ⟨q,hq',rfl⟩:=hmemI it hit;exact hs.fresh _ (by show σ.next<=σ.next+q.1; omega)
def gq2 (ess:List (List Nat))(done:List Nat)(j:Nat):Bool:=(ess.getD j []).all fun e=>done.contains e
def il8 (ess:List (List Nat))(ios:List ad9)(done:List Nat):Option Nat :=
 match (List.range ios.length).find? (fun j=>!done.contains j&&gq2 ess done j&&decide ((ios.getD j default).op.cls<=1)) with
 | some j=>some j
 | none=>(List.range ios.length).find? fun j=>!done.contains j&&gq2 ess done j
def gq3 (ess:List (List Nat))(ios:List ad9):Nat->List Nat->List Nat
 | 0,done=>done
 | n+1,done=>match il8 ess ios done with
  | some j=>gq3 ess ios n (done++[j])
  | none=>done
def gx3 (ms:List Nat)(ios:List ad9)(j:Nat):List Nat->Nat
 | []=>0
 | p::ps=>if (ios.getD p default).op.cls=1&&!(ms.getD j 0).testBit p&&!cm2 false (ios.getD p default).op.kind (ios.getD j default).op.kind then 2^p ||| gx3 ms ios j ps else gx3 ms ios j ps
def gq4 (ms:List Nat)(ios:List ad9):List Nat->List Nat->List (Nat×Nat)
 | _,[]=>[]
 | ahead,j::js=>(j,if (ios.getD j default).op.cls<=1 then 0 else gx3 ms ios j ahead)::gq4 ms ios (j::ahead) js
def fk9 (ess:List (List Nat))(ios:List ad9):List (Nat×Nat):=gq4 (fj6 ess) ios [] (gq3 ess ios ios.length [])
end Go.Id
set_option linter.all false
namespace Go.Id
open Go
variable {P:Program} {w w' w'':World} {ρ ρ' ρ'':Rho} {E:Nat->IV} {σ σ':Store} {N n n':Nat} {fr:Frm} {a:Act} {pf:List Nat}
inductive IC where
 | skip
 | reg (id:Nat) (ops:List ad9) (keep:List Nat)
 | an7 (id:Nat) (ops:List ad9) (B:Bool) (keep:List Nat)
 | en3 (id:Nat) (ops:List YO) (keep:List Nat)
 | seq (a b:IC)
 | cond (x:IX) (a b:IC)
 | block (id:Nat) (a:IC)
 | loop (a:IC)
 | exit (id:Nat)
 | ret
 | be8 (g:IX) (ps:List Nat) (asg a:IC)
 | scope (a:IC)
 deriving Inhabited
abbrev Ann:=List (Nat×List Nat)
abbrev gw8:IC:=.reg 0 [⟨none,none,.st .nev []⟩] []
def az9 (P:Program)(pf:List Nat)(N:Nat)(an:Ann):Code->Option IC
 | .skip=>some .skip
 | .label _=>some .skip
 | .region id ops draw=>match draw,bg2 P pf N ops ops.toList with
  | false,some ios=>some (.reg id ios ((an.lookup id).getD []))
  | true,some ios=>if P.follows .mixedOrders=true/\ij4 (ops.toList.map ah3) ios (dn5 ios)=true/\(pf.contains 2000000&&dn5 ios)=false then some (.an7 id ios (dn5 ios) ((an.lookup id).getD [])) else
   if P.follows .mixedOrders=true/\yOK (ops.toList.map ah3) ios (fk9 (ops.toList.map ah3) ios)=true then some (.en3 id (gq1 ios (fk9 (ops.toList.map ah3) ios)) ((an.lookup id).getD [])) else some gw8
  | _,_=>some gw8
 | .seq a b=>match az9 P pf N an a,az9 P pf N an b with
  | some x,some y=>some (.seq x y)
  | _,_=>none
 | .cond c a b=>match af6 c,az9 P pf N an a,az9 P pf N an b with
  | some i,some x,some y=>some (.cond i x y)
  | _,_,_=>some gw8
 | .block id a=>(az9 P pf N an a).map (.block id)
 | .loop a=>(az9 P pf N an a).map .loop
 | .exit id=>some (.exit id)
 | .ret=>some .ret
 | .rangeFunc g ps assign body=>match az9 P pf N an assign,af6 g,az9 P pf N an body with
  | some y,some i,some x=>if ps.toList.all (fun p=>decide (p<N)) then some (.be8 i ps.toList y x) else some gw8
  | _,_,_=>some gw8
 | .scope a=>(az9 P pf N an a).map .scope
 | _=>some gw8
def RI (P:Program)(E:Nat->IV)(N n0:Nat)(ic:IC)(fr:Frm)(σ:Store)(Q:Exit->Frm->Store->Prop):Prop :=
 ∀ (pf:List Nat) (an:Ann) (c:Code),az9 P pf N an c=some ic->R P E N n0 c fr σ Q
def wpI (P:Program)(E:Nat->IV)(N n0:Nat):IC->Frm->Store->(Exit->Frm->Store->Prop)->Prop
 | .skip,fr,σ,Q=>Q .normal fr σ
 | .reg _ ops keep,fr,σ,Q=>bs2 P E ops σ.next fr { σ with next:=σ.next+bs3 ops } (fun fr' σ'=>Q .normal (fr'.keep keep) σ')
 | .an7 _ ops B keep,fr,σ,Q=>bp2 P E B (ed7 σ.next 0 ops) fr { σ with next:=σ.next+ops.length } (fun fr' σ'=>Q .normal (fr'.keep keep) σ')
 | .en3 _ ops keep,fr,σ,Q=>aq9 P E (gc4 σ.next ops) [] fr { σ with next:=σ.next+ops.length } (fun fr' σ'=>Q .normal (fr'.keep keep) σ')
 | .seq a b,fr,σ,Q=>wpI P E N n0 a fr σ (fun e fr' σ'=>match e with|.normal=>wpI P E N n0 b fr' σ' Q|e=>Q e fr' σ')
 | .cond x a b,fr,σ,Q=>∃ t,x.ev E fr=.bool t/\if t then wpI P E N n0 a fr σ Q else wpI P E N n0 b fr σ Q
 | .block id a,fr,σ,Q=>wpI P E N n0 a fr σ (bn9 id Q)
 | .loop a,fr,σ,Q=>RI P E N n0 (.loop a) fr σ Q
 | .exit id,fr,σ,Q=>Q (.exit id) fr σ
 | .ret,fr,σ,Q=>Q .ret fr σ
 | .be8 g ps y a,fr,σ,Q=>RI P E N n0 (.be8 g ps y a) fr σ Q
 | .scope a,fr,σ,Q=>wpI P E N n0 a fr σ (fi2 Q)
theorem gw9 {n0:Nat}{c:Code}{ks:List Nat}{Q:Exit->Frm->Store->Prop}(h:R P E N n0 c fr σ (fun e fr' σ'=>Q e (fr'.keep ks) σ')):R P E N n0 c fr σ Q :=
 fun hn ro h0 ρ w a hs hf hd hr=>wpIn_mono (h hn ro h0 ρ w a hs hf hd hr) fun _ _ _ ⟨fr',σ',ρ',hn',q,hs',hf',rest⟩=>⟨fr'.keep ks,σ',ρ',hn',q,hs',hf'.keep ks,rest⟩
theorem ba3 {n0:Nat}{Q:Exit->Frm->Store->Prop}(h:wpI P E N n0 gw8 fr σ Q):False:=by
 obtain ⟨act,ha,h⟩:=h;cases ha;obtain ⟨r,hr,_⟩:=h;cases hr
theorem gb1 {n0:Nat}{an:Ann}:∀ (c:Code) (ic:IC) (fr:Frm) (σ:Store) (Q:Exit->Frm->Store->Prop),az9 P pf N an c=some ic->wpI P E N n0 ic fr σ Q->R P E N n0 c fr σ Q:=by
 intro c
 induction c with
 | skip=>intro ic fr σ Q hc h; cases hc; exact hs9 h
 | label l=>intro ic fr σ Q hc h; cases hc; exact gw6 h
 | region id ops draw=>
  intro ic fr σ Q hc h;simp only[az9] at hc;split at hc
  ·rename_i ios hios;cases hc;exact gw9 (ge1 (Q:=fun e fr' σ'=>Q e (fr'.keep _) σ') hios h)
  ·rename_i ios hios;by_cases hok:P.follows .mixedOrders=true/\ij4 (ops.toList.map ah3) ios (dn5 ios)=true/\(pf.contains 2000000&&dn5 ios)=false
   ·rw[if_pos hok] at hc;cases hc;exact fk1 hok.1 hios hok.2.1 h
   ·rw[if_neg hok] at hc;by_cases hoy:P.follows .mixedOrders=true/\yOK (ops.toList.map ah3) ios (fk9 (ops.toList.map ah3) ios)=true
    ·rw[if_pos hoy] at hc;cases hc;have hl:(gq1 ios (fk9 (ops.toList.map ah3) ios)).length=(fk9 (ops.toList.map ah3) ios).length:=by simp[gq1]
     refine fk8 (ks:=(an.lookup id).getD []) hoy.1 hios hoy.2 ?_;rw[<- hl];exact h
    ·rw[if_neg hoy] at hc; cases hc; exact (ba3 h).elim
  ·cases hc; exact (ba3 h).elim
 | seq a b iha ihb=>
  intro ic fr σ Q hc h;simp only[az9] at hc;split at hc
  ·rename_i x y hx hy;cases hc;refine hs8 ((iha _ fr σ _ hx h).mono ?_);intro e fr' σ' q
   cases e with
   | normal=>exact ihb _ fr' σ' Q hy q
   | _=>exact q
  ·cases hc
 | cond c a b iha ihb=>
  intro ic fr σ Q hc h;simp only[az9] at hc;split at hc
  ·rename_i i x y hi hx hy;cases hc;obtain ⟨t,ht,h⟩:=h;refine ht5 hi ht ?_
   cases t with
   | true=>exact iha _ fr σ Q hx h
   | false=>exact ihb _ fr σ Q hy h
  ·cases hc; exact (ba3 h).elim
 | block id a ih=>
  intro ic fr σ Q hc h;obtain ⟨y,hy,he⟩:=map_some hc;cases he
  exact fi1 (ih _ fr σ _ hy h)
 | loop a ih=>
  intro ic fr σ Q hc h;have hc':=hc;obtain ⟨y,hy,he⟩:=map_some hc;cases he
  exact h pf an _ hc'
 | scope a ih=>
  intro ic fr σ Q hc h;obtain ⟨y,hy,he⟩:=map_some hc;cases he
  exact gw7 (ih _ fr σ _ hy h)
 | exit id=>intro ic fr σ Q hc h; cases hc; exact ht4 h
 | ret=>intro ic fr σ Q hc h; cases hc; exact il5 h
 | rangeFunc g ps assign body _ _=>
  intro ic fr σ Q hc h;have hc':=hc;simp only[az9] at hc;split at hc
  ·split at hc
   ·cases hc;exact h pf an _ hc'
   ·cases hc; exact (ba3 h).elim
  ·cases hc; exact (ba3 h).elim
 | _=>intro ic fr σ Q hc h; cases hc; exact (ba3 h).elim
theorem bf6 {n0:Nat}(ic:IC)(fr:Frm)(σ:Store)(Q:Exit->Frm->Store->Prop)(h:wpI P E N n0 ic fr σ Q):RI P E N n0 ic fr σ Q :=
 fun pf an c hc=>gb1 (pf:=pf) (an:=an) c ic fr σ Q hc h
theorem fi3 {n0:Nat}{x:IC}{Q:Exit->Frm->Store->Prop}(I:Nat->Frm->Store->Prop)(m:Nat)(h:I m fr σ)(hI:∀ m fr σ,I m fr σ->wpI P E N n0 x fr σ (dv9 I m Q)):RI P E N n0 (.loop x) fr σ Q:=by
 intro pf an c hc
 cases c with
 | loop c=>
  obtain ⟨y,hy,he⟩:=map_some hc;cases he
  exact gp9 I m h (fun m fr σ hi=>bf6 _ _ _ _ (hI m fr σ hi) pf an _ hy)
 | region id ops draw=>
  exfalso;simp only[az9] at hc;split at hc
  ·cases hc
  ·split at hc<;>first|(cases hc; done)|(split at hc<;>cases hc)
  ·cases hc
 | seq a b=>simp only[az9] at hc; split at hc<;>cases hc
 | cond c a b=>simp only[az9] at hc; split at hc<;>cases hc
 | block id a=>obtain ⟨_,_,h⟩:=map_some hc; cases h
 | scope a=>obtain ⟨_,_,h⟩:=map_some hc; cases h
 | rangeFunc g ps assign body=>
  exfalso;simp only[az9] at hc;split at hc
  ·split at hc<;>cases hc
  ·cases hc
 | _=>cases hc
inductive JX where
 | ret
 | exit (i:Nat)
 deriving Inhabited
def JX.code:JX->Code
 | .ret=>.ret
 | .exit i=>.exit i
def gx1 (Q:Exit->Frm->Store->Prop)(fr:Frm)(σ:Store):Option JX->Prop
 | none=>Q .normal fr σ
 | some .ret=>Q .ret fr σ
 | some (.exit i)=>Q (.exit i) fr σ
def cm1 (id:Nat)(L:LoopState->Option JX->ak4)(K:IV->Store->Prop):Exit->Frm->Store->Prop
 | .normal,_,σ=>σ.obj id=some (L .busy none)/\K (.bool true) (σ.put id (L .ready none))
 | .ret,_,σ=>σ.obj id=some (L .busy none)/\K (.bool false) (σ.put id (L .done (some .ret)))
 | .exit i,_,σ=>σ.obj id=some (L .busy none)/\K (.bool false) (σ.put id (L .done (some (.exit i))))
 | _,_,_=>False
theorem gb2 {n0:Nat}{g:IX}{ps:List Nat}{y x:IC}{Q:Exit->Frm->Store->Prop}
  (h:∀ L:LoopState->Option JX->ak4,
   (∀ (σ':Store) (args:List IV) (K:IV->Store->Prop),args.length=ps.length->σ'.obj σ.next=some (L .ready none) ->
    RI P E N σ'.next y (cr2 fr ps args) σ' (fun e f s=>e=.normal/\s.obj σ.next=some (L .ready none)/\RI P E N σ'.next x f (s.put σ.next (L .busy none)) (cm1 σ.next L K))->CYd P E σ.next args σ' K) ->
   CVf P E (g.ev E fr) [.yield σ.next] ⟨σ.next+1,(σ.put σ.next (L .ready none)).obj⟩ fun _ σ2=>
    σ.next<=σ2.next/\∃ st pend,st≠.busy/\σ2.obj σ.next=some (L st pend)/\gx1 Q fr (σ2.kill σ.next) pend) :
  RI P E N n0 (.be8 g ps y x) fr σ Q:=by
 intro pf an c hc
 cases c with
 | rangeFunc go psA assign body=>
  simp only[az9] at hc;split at hc
  ·rename_i ya i yb hasg hi hy;split at hc
   ·rename_i hall;cases hc;have hps:∀ p∈psA.toList,p<N:=fun p hp=>by simpa using List.all_eq_true.1 hall p hp
    have h':=h (fun s p=>.loop N fr psA.toList.toArray assign body s (p.map JX.code)) (fun σ' args K hl ho hR=>by
     refine ia9 hps hl ho ((hR pf an assign hasg).mono fun e f s q=>⟨q.1,q.2.1,(q.2.2 pf an body hy).mono fun e f s q=>?_⟩)
     cases e with
     | normal=>exact q
     | ret=>exact q
     | exit i=>exact q
     | _=>exact q.elim)
    exact dx2 (n0:=n0) (Q:=Q) (ps:=psA.toList) (asg:=assign) (body:=body) (E:=E) (fr:=fr) (σ:=σ) (N:=N) hi (h'.mono (by
     rintro v s ⟨hn,st,pend,hst,hob,hq⟩;refine ⟨hn,st,pend.map JX.code,hst,hob,?_⟩
     cases pend with
     | none=>exact hq
     | some j=>cases j<;>exact hq))
   ·cases hc
  ·cases hc
 | region id ops draw=>
  exfalso;simp only[az9] at hc;split at hc
  ·cases hc
  ·split at hc<;>first|(cases hc; done)|(split at hc<;>cases hc)
  ·cases hc
 | seq a b=>simp only[az9] at hc; split at hc<;>cases hc
 | cond c a b=>simp only[az9] at hc; split at hc<;>cases hc
 | block id a=>obtain ⟨_,_,h⟩:=map_some hc; cases h
 | scope a=>obtain ⟨_,_,h⟩:=map_some hc; cases h
 | loop a=>obtain ⟨_,_,h⟩:=map_some hc; cases h
 | _=>cases hc
theorem az4 {n0:Nat}{x:IC}{Q Q':Exit->Frm->Store->Prop}(h:RI P E N n0 x fr σ Q)(hq:∀ e fr σ,Q e fr σ->Q' e fr σ):RI P E N n0 x fr σ Q' :=
 fun pf an c hc=>(h pf an c hc).mono hq
end Go.Id
