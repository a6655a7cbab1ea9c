/- Regions whose order is open: which operations may be taken ahead of which. Conditions: none; over any program. -/
import Derived.Test.YtcdakaadeghccaaGreatDoorFwR
import Derived.OrdersIn
open Option renaming some→za,none→zg,map_some→zp
open List renaming mem_cons_self→zb,mem_cons_of_mem→zc,mem_append_left→zd,mem_append→zh,mem_cons→zi,map_congr_left→zl,flatMap_append→zm,pairwise_cons→zn,mem_map→zo,mem_flatMap→zq,all_eq_true→zr,mem_append_right→zt,flatMap_cons→zv
open Bool renaming and_eq_true→ze,or_eq_true→zj
open Array renaming getElem?_eq_none→zf
open Nat renaming lt_or_ge→zk,le_refl→zs
open Iff renaming rfl→zu
set_option linter.all false
private theorem om{P:Prop}(h:P:=by omega):P:=h
namespace Go.Id
open Go
variable {P:Program} {w w' w'':World} {ρ ρ' ρ'':Rho} {E:Nat->IV} {σ σ':Store} {N n n':Nat} {fr:Frm} {a:Act} {pf:List Nat}
def IQ.kind:IQ->Nat
 | .load _ _=>1
 | .len 0 _=>0
 | .len 1 _=>0
 | .len _ _=>6
 | .lkp _ _ _ _ _=>5
 | _=>0
def SK.kind:SK->Nat
 | .nev=>0
 | _=>6
def IK.kind:IK->Nat
 | .q u=>u.kind
 | .alloc _|.box _|.bsl _ _ _ _|.dr2 _ _ _=>2
 | .app _ _ _=>3
 | .bi6 _ _|.ax8 _ _ _ _|.dc4 _=>0
 | .store _ _ _=>4
 | .st k _=>k.kind
 | _=>6
def IX.uses:IX->List Nat
 | .t n=>[n]
 | _=>[]
def IQ.ops:IQ->List IX
 | .mov x|.not x|.neg x|.ba5 _ _ x|.conv _ x|.gv5 x|.len _ x|.bd9 _ x|.fld _ _ x|.slz x|.ext _ x|.load _ x|.ldt _ x|.ig7 x=>[x]
 | .pick c a b=>[c,a,b]
 | .bin _ x y|.eqs _ _ _ x y|.dy1 _ x y|.dy2 _ _ x y|.idx _ _ _ x y|.ig6 x y|.mm _ x y|.lkp _ _ _ x y|.ibs x y=>[x,y]
 | .slc _ x lo hi|.gv6 x lo hi=>x::(lo.toList++hi.toList)
 | .clp _ x lo hi mx=>[x,lo,hi,mx]
 | .mkf _ f c=>f++c
 | .bld _ ps=>ps.map (·.2.2)
def IK.ops:IK->List IX
 | .q u=>u.ops
 | .alloc _=>[]
 | .box x=>[x]
 | .bsl _ _ _ ps=>ps.map (·.2.2)
 | .store _ x y=>[x,y]
 | .app _ s x=>[s,x]
 | .bu8=>[]
 | .bm5 x|.dc3 x=>[x]
 | .dw4 _ x k v=>[x,k,v]
 | .call _ xs|.bi6 _ xs=>xs
 | .cx2 x xs=>x::xs
 | .ax8 _ _ _ ps=>ps.map (·.2.2)
 | .dc4 x|.bf4 x|.cs6 x|.fw8 x|.dr2 _ _ x|.clr _ _ x=>[x]
 | .st _ xs=>xs
def af7.uses (o:af7):List Nat:=(o.op.ops.flatMap IX.uses)++(match o.guard with|some (s,_)=>[s]|none=>[])
def FEq (fr fr':Frm):Prop:=∀ t,fr.get t=fr'.get t
theorem FEq.refl (fr:Frm):FEq fr fr:=fun _=>rfl
theorem ao1 {fr fr':Frm}{x:IX}(h:∀ t∈x.uses,fr.get t=fr'.get t):x.ev E fr=x.ev E fr':=by
 cases x with
 | t n=>exact h n (by simp[IX.uses])
 | _=>rfl
theorem by7 {fr fr':Frm}{xs:List IX}(h:∀ t∈xs.flatMap IX.uses,fr.get t=fr'.get t):xs.map (·.ev E fr)=xs.map (·.ev E fr'):=
 zl fun x hx=>ao1 fun t ht=>h t (zq.2 ⟨x,hx,ht⟩)
theorem by8 {fr fr':Frm}{x:Option IX}(h:∀ t∈x.toList.flatMap IX.uses,fr.get t=fr'.get t):x.map (·.ev E fr)=x.map (·.ev E fr'):=by
 cases x with
 | none=>rfl
 | some x=>simp only[zp]; rw[ao1 (fun t ht=>h t (by simpa using ht))]
theorem ba6 {fr fr':Frm}{ps:List (Nat×Nat×IX)}(h:∀ t∈(ps.map (·.2.2)).flatMap IX.uses,fr.get t=fr'.get t) :
  (ps.map fun p=>(p.1,p.2.1,p.2.2.ev E fr))=ps.map fun p=>(p.1,p.2.1,p.2.2.ev E fr'):=
 zl fun p hp=>by
  have:p.2.2.ev E fr=p.2.2.ev E fr':=ao1 fun t ht=>h t (zq.2 ⟨p.2.2,zo.2 ⟨p,hp,rfl⟩,ht⟩)
  rw[this]
theorem ia3 {fr fr':Frm}{q:IQ}(h:∀ t∈q.ops.flatMap IX.uses,fr.get t=fr'.get t):evq E fr σ q=evq E fr' σ q:=by
 cases q with
 | mkf f fs cs=>
  simp only[IQ.ops,zm,zh] at h;simp only[evq]
  rw[by7 (fun t ht=>h t (.inl ht)),by7 (fun t ht=>h t (.inr ht))]
 | bld z ps=>simp only[evq]; rw[ba6 h]
 | slc e x lo hi=>
  simp only[IQ.ops,zv,zm,zh] at h;simp only[evq]
  rw[ao1 (x:=x) (fun t ht=>h t (.inl ht)),by8 (x:=lo) (fun t ht=>h t (.inr (.inl ht))),by8 (x:=hi) (fun t ht=>h t (.inr (.inr ht)))]
 | gv6 x lo hi=>
  simp only[IQ.ops,zv,zm,zh] at h;simp only[evq]
  rw[ao1 (x:=x) (fun t ht=>h t (.inl ht)),by8 (x:=lo) (fun t ht=>h t (.inr (.inl ht))),by8 (x:=hi) (fun t ht=>h t (.inr (.inr ht)))]
 | clp e x lo hi mx=>
  simp only[evq]
  rw[ao1 (x:=x) (fun t ht=>h t (by simp[IQ.ops,ht])),ao1 (x:=lo) (fun t ht=>h t (by simp[IQ.ops,ht])),ao1 (x:=hi) (fun t ht=>h t (by simp[IQ.ops,ht])),ao1 (x:=mx) (fun t ht=>h t (by simp[IQ.ops,ht]))]
 | pick c x y=>
  simp only[evq]
  rw[ao1 (x:=c) (fun t ht=>h t (by simp[IQ.ops,ht])),ao1 (x:=x) (fun t ht=>h t (by simp[IQ.ops,ht])),ao1 (x:=y) (fun t ht=>h t (by simp[IQ.ops,ht]))]
 | bin op x y=>simp only[evq]; rw[ao1 (x:=x) (fun t ht=>h t (by simp[IQ.ops,ht])),ao1 (x:=y) (fun t ht=>h t (by simp[IQ.ops,ht]))]
 | eqs a b c x y=>simp only[evq]; rw[ao1 (x:=x) (fun t ht=>h t (by simp[IQ.ops,ht])),ao1 (x:=y) (fun t ht=>h t (by simp[IQ.ops,ht]))]
 | dy1 a x y=>simp only[evq]; rw[ao1 (x:=x) (fun t ht=>h t (by simp[IQ.ops,ht])),ao1 (x:=y) (fun t ht=>h t (by simp[IQ.ops,ht]))]
 | dy2 a b x y=>simp only[evq]; rw[ao1 (x:=x) (fun t ht=>h t (by simp[IQ.ops,ht])),ao1 (x:=y) (fun t ht=>h t (by simp[IQ.ops,ht]))]
 | idx a b c x y=>simp only[evq]; rw[ao1 (x:=x) (fun t ht=>h t (by simp[IQ.ops,ht])),ao1 (x:=y) (fun t ht=>h t (by simp[IQ.ops,ht]))]
 | lkp a b c x y=>simp only[evq]; rw[ao1 (x:=x) (fun t ht=>h t (by simp[IQ.ops,ht])),ao1 (x:=y) (fun t ht=>h t (by simp[IQ.ops,ht]))]
 | mm a x y=>simp only[evq]; rw[ao1 (x:=x) (fun t ht=>h t (by simp[IQ.ops,ht])),ao1 (x:=y) (fun t ht=>h t (by simp[IQ.ops,ht]))]
 | ibs x y=>simp only[evq]; rw[ao1 (x:=x) (fun t ht=>h t (by simp[IQ.ops,ht])),ao1 (x:=y) (fun t ht=>h t (by simp[IQ.ops,ht]))]
 | ig6 x y=>simp only[evq]; rw[ao1 (x:=x) (fun t ht=>h t (by simp[IQ.ops,ht])),ao1 (x:=y) (fun t ht=>h t (by simp[IQ.ops,ht]))]
 | _=>simp only[evq]; rw[ao1 (fun t ht=>h t (by simp[IQ.ops,ht]))]
theorem gw7 {q:IQ}(h:q.kind=0):evq E fr σ q=evq E fr σ' q:=by
 cases q with
 | load a x=>simp[IQ.kind] at h
 | lkp a b c x y=>simp[IQ.kind] at h
 | len k x=>
  simp only[evq]
  match k,h with
  | 0,_=>unfold db4; split<;>first|rfl|simp_all [gu1]
  | 1,_=>unfold db4; split<;>first|rfl|simp_all [gu1]
  | k+2,h=>simp[IQ.kind] at h
 | _=>rfl
def ce1 (P:Program)(E:Nat->IV)(op:IK)(id:Nat)(fr:Frm)(σ:Store)(v:IV)(σ':Store):Prop :=
 match op with
 | .q q=>evq E fr σ q=za v/\σ'=σ
 | .alloc z=>v=.ptr id 0/\σ'=σ.put id (.cells z)
 | .box x=>(x.ev E fr).cs.all IV.leaf=true/\v=.ptr id 0/\σ'=σ.put id (.cells (x.ev E fr).cs)
 | .bsl esz n z parts=>∃ out,as8 (rep z n) (parts.map fun p=>(p.1,p.2.1,p.2.2.ev E fr))=za out/\v=.slice id 0 n esz/\σ'=σ.put id (.row out)
 | .app esz s x=>as5 σ id esz (s.ev E fr) (x.ev E fr)=za (v,σ')
 | .store sz x y=>ar1 σ sz (x.ev E fr) (y.ev E fr)=za σ'/\v=.undef
 | .bi6 f args=>PC P E f (args.map (·.ev E fr)) v/\σ'=σ
 | .ax8 esz n z parts=>∃ out,as8 (rep z n) (parts.map fun p=>(p.1,p.2.1,p.2.2.ev E fr))=za out/\v=.aa4 (chunk esz n out)/\σ'=σ
 | .dc4 x=>(x.ev E fr).cs.all IV.leaf=true/\v=.ab5 (x.ev E fr).cs/\σ'=σ
 | .dr2 esz z x=>∃ n,dp8 (x.ev E fr)=za n/\v=.slice id 0 n esz/\σ'=σ.put id (.row (rep z n))
 | _=>False
theorem dq3 {op:IK}{id:Nat}{K:IV->Store->Prop}(hk:op.kind<=5):opR P E op id fr σ K↔∃ v σ',ce1 P E op id fr σ v σ'/\K v σ':=by
 cases op with
 | q q=>exact ⟨fun ⟨v,h,k⟩=>⟨v,σ,⟨h,rfl⟩,k⟩,fun ⟨v,_,⟨h,e⟩,k⟩=>by subst e; exact ⟨v,h,k⟩⟩
 | alloc z=>exact ⟨fun k=>⟨_,_,⟨rfl,rfl⟩,k⟩,fun ⟨_,_,⟨e1,e2⟩,k⟩=>by subst e1; subst e2; exact k⟩
 | box x=>exact ⟨fun ⟨h,k⟩=>⟨_,_,⟨h,rfl,rfl⟩,k⟩,fun ⟨_,_,⟨h,e1,e2⟩,k⟩=>by subst e1; subst e2; exact ⟨h,k⟩⟩
 | bsl e n z ps=>exact ⟨fun ⟨out,h,k⟩=>⟨_,_,⟨out,h,rfl,rfl⟩,k⟩,fun ⟨_,_,⟨out,h,e1,e2⟩,k⟩=>by subst e1; subst e2; exact ⟨out,h,k⟩⟩
 | app e s x=>exact ⟨fun ⟨r,h,k⟩=>⟨r.1,r.2,h,k⟩,fun ⟨v,σ',h,k⟩=>⟨(v,σ'),h,k⟩⟩
 | store e x y=>exact ⟨fun ⟨s,h,k⟩=>⟨_,s,⟨h,rfl⟩,k⟩,fun ⟨v,s,⟨h,e⟩,k⟩=>by subst e; exact ⟨s,h,k⟩⟩
 | bi6 f xs=>exact ⟨fun ⟨v,h,k⟩=>⟨v,σ,⟨h,rfl⟩,k⟩,fun ⟨v,_,⟨h,e⟩,k⟩=>by subst e; exact ⟨v,h,k⟩⟩
 | ax8 e n z ps=>exact ⟨fun ⟨out,h,k⟩=>⟨_,_,⟨out,h,rfl,rfl⟩,k⟩,fun ⟨_,_,⟨out,h,e1,e2⟩,k⟩=>by subst e1; subst e2; exact ⟨out,h,k⟩⟩
 | dr2 e z x=>exact ⟨fun ⟨n,h,k⟩=>⟨_,_,⟨n,h,rfl,rfl⟩,k⟩,fun ⟨_,_,⟨n,h,e1,e2⟩,k⟩=>by subst e1; subst e2; exact ⟨n,h,k⟩⟩
 | dc4 x=>exact ⟨fun ⟨h,k⟩=>⟨_,_,⟨h,rfl,rfl⟩,k⟩,fun ⟨_,_,⟨h,e1,e2⟩,k⟩=>by subst e1; subst e2; exact ⟨h,k⟩⟩
 | st k xs=>cases k with
  | nev=>exact ⟨fun ⟨r,h,_⟩=>by (cases h),fun ⟨_,_,h,_⟩=>h.elim⟩
  | _=>exact absurd hk (by simp[IK.kind,SK.kind])
 | _=>exact absurd hk (by simp[IK.kind])
theorem dq4 {op:IK}{id:Nat}{fr fr':Frm}{v:IV}(h:∀ t∈op.ops.flatMap IX.uses,fr.get t=fr'.get t):ce1 P E op id fr σ v σ'->ce1 P E op id fr' σ v σ':=by
 cases op with
 | q q=>simp only[ce1]; rw[ia3 h]; exact fun h=>h
 | alloc z=>exact fun h=>h
 | box x=>simp only[ce1]; rw[ao1 (x:=x) (fun t ht=>h t (by simp[IK.ops,ht]))]; exact fun h=>h
 | bsl e n z ps=>simp only[ce1]; rw[ba6 h]; exact fun h=>h
 | app e s x=>simp only[ce1]; rw[ao1 (x:=s) (fun t ht=>h t (by simp[IK.ops,ht])),ao1 (x:=x) (fun t ht=>h t (by simp[IK.ops,ht]))]; exact fun h=>h
 | store e x y=>simp only[ce1]; rw[ao1 (x:=x) (fun t ht=>h t (by simp[IK.ops,ht])),ao1 (x:=y) (fun t ht=>h t (by simp[IK.ops,ht]))]; exact fun h=>h
 | bi6 f xs=>simp only[ce1]; rw[by7 (xs:=xs) h]; exact fun h=>h
 | ax8 e n z ps=>simp only[ce1]; rw[ba6 h]; exact fun h=>h
 | dr2 e z x=>simp only[ce1]; rw[ao1 (x:=x) (fun t ht=>h t (by simp[IK.ops,ht]))]; exact fun h=>h
 | dc4 x=>simp only[ce1]; rw[ao1 (x:=x) (fun t ht=>h t (by simp[IK.ops,ht]))]; exact fun h=>h
 | _=>exact fun h=>h
def bm4 (id:Nat):IV->Prop
 | .ptr i _|.slice i _ _ _|.map i|.ag9 i _ _ _|.ak7 i _ _ _ _=>i≠id
 | _=>True
theorem eu9 {id:Nat}{v:IV}{r:Value}(hv:VR ρ w v r)(h:ρ id=.no):bm4 id v:=by
 cases hv<;>simp only[bm4]<;>first|trivial|(intro e; subst e; simp_all)
theorem put_comm (i j:Nat)(x y:al8)(h:i≠j):(σ.put i x).put j y=(σ.put j y).put i x:=by
 unfold Store.put;congr 1;funext k;simp only;split
 ·rename_i h1;split
  ·rename_i h2; exact absurd (h2.symm.trans h1) h
  ·rfl
 ·rfl
theorem ag4 {id i:Nat}{o:al8}(h:i≠id):(σ.put id o).obj i=σ.obj i:=by simp[Store.put,h]
theorem gb7 {tag id:Nat}{ob:al8}{zero x k:IV}{ok:Bool}(h:bm4 id x):de1 (σ.put id ob) tag zero ok x k=de1 σ tag zero ok x k:=by
 have:cr9 (σ.put id ob) x=cr9 σ x:=by
  cases x<;>try rfl
  simp only[cr9,ag4 h]
 unfold de1;rw[this]
theorem gb8 {tag id:Nat}{zero x k v:IV}{ok:Bool}(hn:σ.obj id=zg)(h:de1 σ tag zero ok x k=za v):bm4 id x:=by
 cases x<;>simp only[bm4]<;>try trivial
 all_goals (intro e; subst e; simp[de1,cr9,hn] at h)
theorem ev1 {agg:Option Nat}{id:Nat}{ob:al8}{ad:IV}(h:bm4 id ad):aw4 (σ.put id ob) agg ad=aw4 σ agg ad:=by
 have:aq8 (σ.put id ob) ad=aq8 σ ad:=by
  cases ad<;>simp only[aq8];rename_i i off;rw[ag4 h]
 unfold aw4;rw[this]
theorem fh3 {agg:Option Nat}{id:Nat}{ad v:IV}(hn:σ.obj id=zg)(h:aw4 σ agg ad=za v):bm4 id ad:=by
 cases ad with
 | ptr i off=>
  intro e;subst e
  simp[aw4,aq8,hn] at h
 | slice i o l e=>simp[aw4,aq8] at h
 | _=>trivial
theorem ii3 {id2 esz:Nat}{ob:al8}{x:IV}(hx:bm4 id2 x):bl8 (σ.put id2 ob) esz x=bl8 σ esz x:=by
 cases x<;>simp only[bl8]
 all_goals (rename_i i o l e; rw[ag4 hx])
theorem gw8 {id2 did:Nat}{ob:al8}(h:did≠id2):(σ.put id2 ob).kill did=(σ.kill did).put id2 ob:=by
 unfold Store.put Store.kill;congr 1;funext k;simp only;split
 ·rename_i h1;split
  ·rename_i h2; exact absurd (h1.symm.trans h2) h
  ·rfl
 ·rfl
theorem de5 {id id2 esz:Nat}{ob:al8}{s x:IV}(hs:bm4 id2 s)(hx:bm4 id2 x)(hne:id2≠id) :
  as5 (σ.put id2 ob) id esz s x=(as5 σ id esz s x).map fun r=>(r.1,r.2.put id2 ob):=by
 unfold as5;rw[ii3 hx]
 cases bl8 σ esz x with
 | none=>rfl
 | some p=>
  obtain ⟨n,xs⟩:=p;simp only;split
  ·rfl
  ·cases s with
   | aa1=>
    simp only;split
    ·rfl
    ·split
     ·simp[put_comm id2 id _ _ hne]
     ·rfl
   | ac8=>
    simp only;split
    ·rfl
    ·split
     ·simp[put_comm id2 id _ _ hne]
     ·rfl
   | aa4 es=>simp only; split<;>rfl
   | slice did off len e=>
    simp only;have hd:did≠id2:=hs;rw[ag4 hd]
    cases σ.obj did with
    | none=>rfl
    | some o=>
     cases o with
     | row cs=>
      simp only;split
      ·rfl
      ·split
       ·simp[gw8 hd,put_comm id2 id _ _ hne]
       ·rfl
     | _=>rfl
   | ag9 did off len e=>
    simp only;have hd:did≠id2:=hs;rw[ag4 hd]
    cases σ.obj did with
    | none=>rfl
    | some o=>
     cases o with
     | row cs=>
      simp only;split
      ·rfl
      ·split
       ·simp[put_comm id2 id _ _ hne]
       ·rfl
     | _=>rfl
   | _=>rfl
theorem gb9 {id id2 esz:Nat}{s x v:IV}(hn:σ.obj id2=zg)(h:as5 σ id esz s x=za (v,σ')):bm4 id2 s/\bm4 id2 x:=by
 unfold as5 at h;split at h
 ·cases h
 ·rename_i n xs hsrc;constructor
  ·split at h
   ·cases h
   ·split at h<;>first|trivial|skip
    ·rename_i did off len e;intro e2;subst e2;rw[hn] at h;simp at h
    ·rename_i did off len e;intro e2;subst e2;rw[hn] at h;simp at h
  ·cases x with
   | slice i o l e=>
    intro e2;subst e2
    simp[bl8,hn] at hsrc
   | ag9 i o l e=>
    intro e2;subst e2
    simp[bl8,hn] at hsrc
   | ptr i o=>simp[bl8] at hsrc
   | _=>trivial
theorem by9 {id esz:Nat}{s x v:IV}(hn:σ.obj id=zg)(h:as5 σ id esz s x=za (v,σ'))(i:Nat)(cs:List IV):σ.obj i=za (.cells cs)↔σ'.obj i=za (.cells cs):=by
 have put:∀ (σ:Store) (l:List IV),σ.obj id=zg->(σ.obj i=za (.cells cs)↔(σ.put id (.row l)).obj i=za (.cells cs)):=by
  intro σ l hn;by_cases hi:i=id
  ·subst hi; simp[Store.put,hn]
  ·rw[ag4 hi]
 unfold as5 at h;split at h
 ·cases h
 ·split at h
  ·cases h
  ·split at h
   ·split at h
    ·cases h; exact zu
    ·split at h
     ·cases h; exact put σ _ hn
     ·cases h
   ·split at h
    ·cases h; exact zu
    ·split at h
     ·cases h; exact put σ _ hn
     ·cases h
   ·split at h
    ·cases h; exact zu
    ·cases h
   ·rename_i did off len e;split at h
    ·rename_i cs' hd;split at h
     ·cases h; exact zu
     ·split at h
      ·cases h;have hk:(σ.kill did).obj id=zg:=by simp[Store.kill,hn]
       refine Iff.trans ?_ (put (σ.kill did) _ hk);by_cases hi:i=did
       ·subst hi; simp[Store.kill,hd]
       ·simp[Store.kill,hi]
      ·cases h
    ·cases h
   ·rename_i did off len e;split at h
    ·rename_i cs' hd;split at h
     ·cases h; exact zu
     ·split at h
      ·cases h; exact put σ _ hn
      ·cases h
    ·cases h
   ·cases h
end Go.Id
namespace Go.Id
open Go
variable {P:Program} {w w' w'':World} {ρ ρ' ρ'':Rho} {E:Nat->IV} {σ σ':Store} {N n n':Nat} {fr:Frm} {a:Act} {pf:List Nat}
def be2 (E:Nat->IV)(fr:Frm)(σ:Store):IK->Prop
 | .q (.load _ x)=>match x.ev E fr with
  | .ab5 _=>True
  | .ptr i _=>∃ cs,σ.obj i=za (.cells cs)
  | _=>False
 | _=>True
def jj4 (P:Program)(E:Nat->IV)(B act:Bool)(op:IK)(id:Nat)(fr:Frm)(σ:Store)(v:IV)(σ':Store):Prop :=
 if act then ce1 P E op id fr σ v σ'/\(B=true->be2 E fr σ op) else v=skV/\σ'=σ
def ev2 (B:Bool)(i j:Nat):Bool :=
 i==0&&j<=5||j==0&&i<=5||i==1&&j==1||i==1&&j==2||i==2&&j==2||i==3&&j==2||B&&i==1&&j==3||B&&i==3&&j==1||i==2&&j==1||i==2&&j==3||i==1&&j==5||i==5&&j==1||i==5&&j==5||i==5&&j==2||i==2&&j==5
def ea1 (B:Bool)(i j:Nat):Bool:=ev2 B i j||i==2&&j==4||i==4&&j==2
theorem fh4 {q:IQ}(h:q.kind=1):∃ ag x,q=.load ag x:=by
 cases q with
 | load ag x=>exact ⟨ag,x,rfl⟩
 | len k x=>
  exfalso
  match k,h with
  | 0,h=>simp[IQ.kind] at h
  | 1,h=>simp[IQ.kind] at h
  | k+2,h=>simp[IQ.kind] at h
 | _=>simp[IQ.kind] at h
theorem fh5 {op:IK}(h:op.kind=1):∃ ag x,op=.q (.load ag x):=by
 cases op with
 | q q=>obtain ⟨ag,x,rfl⟩:=fh4 h; exact ⟨ag,x,rfl⟩
 | st k xs=>cases k<;>simp[IK.kind,SK.kind] at h
 | _=>simp[IK.kind] at h
theorem bw4 (q:IQ):q.kind=0\/q.kind=1\/q.kind=5\/q.kind=6:=by
 cases q with
 | load ag x=>simp[IQ.kind]
 | len k x=>
  match k with
  | 0=>simp[IQ.kind]
  | 1=>simp[IQ.kind]
  | k+2=>simp[IQ.kind]
 | _=>simp[IQ.kind]
theorem ix3 {op:IK}(h:op.kind=1\/op.kind=5):∃ q,op=.q q:=by
 cases op with
 | q q=>exact ⟨q,rfl⟩
 | st k xs=>cases k<;>simp[IK.kind,SK.kind] at h
 | _=>simp[IK.kind] at h
theorem ix4 {op:IK}(h:op.kind=5):∃ t z ok x k,op=.q (.lkp t z ok x k):=by
 cases op with
 | q q=>
  cases q with
  | lkp t z ok x k=>exact ⟨t,z,ok,x,k,rfl⟩
  | len k x=>
   exfalso
   match k,h with
   | 0,h=>simp[IK.kind,IQ.kind] at h
   | 1,h=>simp[IK.kind,IQ.kind] at h
   | k+2,h=>simp[IK.kind,IQ.kind] at h
  | _=>simp[IK.kind,IQ.kind] at h
 | st k xs=>cases k<;>simp[IK.kind,SK.kind] at h
 | _=>simp[IK.kind] at h
theorem gw9 {op:IK}(h:op.kind=3):∃ e s x,op=.app e s x:=by
 cases op with
 | q q=>rcases bw4 q with h'|h'|h'|h'<;>simp[IK.kind,h'] at h
 | app e s x=>exact ⟨e,s,x,rfl⟩
 | st k xs=>cases k<;>simp[IK.kind,SK.kind] at h
 | _=>simp[IK.kind] at h
theorem ix5 {op:IK}(h:op.kind=4):∃ e a y,op=.store e a y:=by
 cases op with
 | q q=>rcases bw4 q with h'|h'|h'|h'<;>simp[IK.kind,h'] at h
 | store e a y=>exact ⟨e,a,y,rfl⟩
 | st k xs=>cases k<;>simp[IK.kind,SK.kind] at h
 | _=>simp[IK.kind] at h
theorem ea2 {id sz:Nat}{ob:al8}{a v:IV}(h:bm4 id a):ar1 (σ.put id ob) sz a v=(ar1 σ sz a v).map (·.put id ob):=by
 cases a with
 | ptr i off=>
  have hi:i≠id:=h;simp only[ar1,ag4 hi]
  cases hc:σ.obj i with
  | none=>rfl
  | some o=>
   cases o with
   | cells cs=>
    simp only;split
    ·simp only[zp]; rw[put_comm id i _ _ (fun e=>hi e.symm)]
    ·rfl
   | row cs=>
    simp only;split
    ·simp only[zp]; rw[put_comm id i _ _ (fun e=>hi e.symm)]
    ·rfl
   | _=>rfl
 | _=>rfl
theorem ek8 {id sz:Nat}{a v:IV}(hn:σ.obj id=zg)(h:ar1 σ sz a v=za σ'):bm4 id a:=by
 cases a with
 | ptr i off=>intro e; subst e; simp[ar1,hn] at h
 | slice i o l e=>simp[ar1] at h
 | map i=>simp[ar1] at h
 | ag9 i o l e=>simp[ar1] at h
 | ak7 i o l r e=>simp[ar1] at h
 | _=>trivial
theorem ev3 {op:IK}{id:Nat}{v:IV}(hk:op.kind=0)(h:ce1 P E op id fr σ v σ'):σ'=σ/\∀ σ2,ce1 P E op id fr σ2 v σ2:=by
 cases op with
 | q q=>exact ⟨h.2,fun σ2=>⟨by rw[gw7 (σ':=σ) hk]; exact h.1,rfl⟩⟩
 | bi6 f xs=>exact ⟨h.2,fun σ2=>⟨h.1,rfl⟩⟩
 | ax8 e n z ps=>obtain ⟨out,h1,h2,h3⟩:=h; exact ⟨h3,fun _=>⟨out,h1,h2,rfl⟩⟩
 | dc4 x=>obtain ⟨h1,h2,h3⟩:=h; exact ⟨h3,fun _=>⟨h1,h2,rfl⟩⟩
 | st k xs=>exact h.elim
 | _=>simp[IK.kind] at hk
theorem ar9 {op:IK}{id:Nat}{v:IV}(hk:op.kind=2)(h:ce1 P E op id fr σ v σ'):∃ ob,σ'=σ.put id ob/\∀ σ2,ce1 P E op id fr σ2 v (σ2.put id ob):=by
 cases op with
 | q q=>rcases bw4 q with h'|h'|h'|h'<;>simp[IK.kind,h'] at hk
 | alloc z=>exact ⟨_,h.2,fun σ2=>⟨h.1,rfl⟩⟩
 | box x=>exact ⟨_,h.2.2,fun σ2=>⟨h.1,h.2.1,rfl⟩⟩
 | bsl e n z ps=>obtain ⟨out,h1,h2,h3⟩:=h; exact ⟨_,h3,fun σ2=>⟨out,h1,h2,rfl⟩⟩
 | dr2 e z x=>obtain ⟨n,h1,h2,h3⟩:=h; exact ⟨_,h3,fun σ2=>⟨n,h1,h2,rfl⟩⟩
 | st k xs=>exact h.elim
 | _=>simp[IK.kind] at hk
theorem bz1 {op:IK}{fr fr':Frm}(h:∀ t∈op.ops.flatMap IX.uses,fr.get t=fr'.get t):be2 E fr σ op->be2 E fr' σ op:=by
 cases op with
 | q q=>
  cases q with
  | load ag x=>simp only[be2]; rw[ao1 (x:=x) (fun t ht=>h t (by simp[IK.ops,IQ.ops,ht]))]; exact fun h=>h
  | _=>exact fun h=>h
 | _=>exact fun h=>h
theorem cf3 {op:IK}{σ2:Store}(h:∀ i cs,σ.obj i=za (.cells cs)->∃ cs',σ2.obj i=za (.cells cs')):be2 E fr σ op->be2 E fr σ2 op:=by
 cases op with
 | q q=>
  cases q with
  | load ag x=>
   simp only[be2];split
   ·exact fun h=>h
   ·rintro ⟨cs,hc⟩; exact h _ cs hc
   ·exact fun h=>h
  | _=>exact fun h=>h
 | _=>exact fun h=>h
theorem al6 {op:IK}{σ2:Store}(hk:op.kind≠1):be2 E fr σ2 op:=by
 cases op with
 | q q=>
  cases q with
  | load ag x=>exact absurd rfl hk
  | _=>trivial
 | _=>trivial
theorem gx1 {B:Bool}{p x:IK}{ip ix:Nat}{fr1 fr2:Frm}{σ1 σ2:Store}{vp vx:IV}(hp:ce1 P E p ip fr σ vp σ1)(hpb:B=true->be2 E fr σ p)(hx:ce1 P E x ix fr1 σ1 vx σ2)(hxb:B=true->be2 E fr1 σ1 x)
  (hfree:ea1 B p.kind x.kind=true) (hfx:∀ t∈x.ops.flatMap IX.uses,fr1.get t=fr.get t) (hfp:∀ t∈p.ops.flatMap IX.uses,fr.get t=fr2.get t)
  (hne:ip≠ix) (hnp:σ.obj ip=zg) (hnx:σ.obj ix=zg) (hH:p.kind=2->∀ y∈x.ops,bm4 ip (y.ev E fr)) :
  ∃ σ1',ce1 P E x ix fr σ vx σ1'/\(B=true->be2 E fr σ x)/\ce1 P E p ip fr2 σ1' vp σ2/\(B=true->be2 E fr2 σ1' p):=by
 have hx':=dq4 hfx hx;have hxb':B=true->be2 E fr σ1 x:=fun hb=>bz1 hfx (hxb hb)
 have hp':∀ {s s' v},ce1 P E p ip fr s v s'->ce1 P E p ip fr2 s v s':=fun h=>dq4 hfp h
 have hpb':∀ {s},be2 E fr s p->be2 E fr2 s p:=fun h=>bz1 hfp h
 by_cases kp0:p.kind=0
 ·obtain ⟨rfl,hall⟩:=ev3 kp0 hp;exact ⟨σ2,hx',hxb',hp' (hall σ2),fun _=>hpb' (al6 om)⟩
 by_cases kx0:x.kind=0
 ·obtain ⟨rfl,hall⟩:=ev3 kx0 hx';exact ⟨σ,hall σ,fun _=>al6 om,hp' hp,fun hb=>hpb' (hpb hb)⟩
 by_cases n1:p.kind=2/\x.kind=4
 ·obtain ⟨k1,k2⟩:=n1;obtain ⟨ob,rfl,hall⟩:=ar9 k1 hp;obtain ⟨e,a,y,rfl⟩:=ix5 k2;have r1:=hH k1 a (by simp[IK.ops]);simp only[ce1] at hx';obtain ⟨hx1,rfl⟩:=hx';rw[ea2 r1] at hx1;obtain ⟨s,h1,rfl⟩:=map_some hx1;exact ⟨s,⟨h1,rfl⟩,fun _=>trivial,hp' (hall s),fun _=>al6 om⟩
 by_cases n2:p.kind=4/\x.kind=2
 ·obtain ⟨k1,k2⟩:=n2;obtain ⟨e,a,y,rfl⟩:=ix5 k1;obtain ⟨ob,rfl,hall⟩:=ar9 k2 hx';obtain ⟨h1,rfl⟩:=hp;refine ⟨σ.put ix ob,hall σ,fun _=>al6 om,hp' ⟨?_,rfl⟩,fun _=>trivial⟩;rw[ea2 (ek8 hnx h1),h1];rfl
 have hfree:ev2 B p.kind x.kind=true:=by
  unfold ea1 at hfree;simp only[zj,ze,beq_iff_eq] at hfree;rcases hfree with (h|h)|h
  ·exact h
  ·exact absurd h n1
  ·exact absurd h n2
 have hcases:(p.kind=1/\x.kind=1)\/(p.kind=1/\x.kind=2)\/(p.kind=2/\x.kind=2)\/(p.kind=3/\x.kind=2)\/(B=true/\p.kind=1/\x.kind=3)\/(B=true/\p.kind=3/\x.kind=1)\/(p.kind=2/\x.kind=1)\/(p.kind=2/\x.kind=3)\/((p.kind=1\/p.kind=5)/\(x.kind=1\/x.kind=5))\/(p.kind=5/\x.kind=2)\/(p.kind=2/\x.kind=5):=by
  unfold ev2 at hfree;simp only[zj,ze,beq_iff_eq,decide_eq_true_eq] at hfree;rcases hfree with ((((((((((((((h|h)|h)|h)|h)|h)|h)|h)|h)|h)|h)|h)|h)|h)|h)
  ·exact absurd h.1 kp0
  ·exact absurd h.1 kx0
  ·exact .inl h
  ·exact .inr (.inl h)
  ·exact .inr (.inr (.inl h))
  ·exact .inr (.inr (.inr (.inl h)))
  ·exact .inr (.inr (.inr (.inr (.inl ⟨h.1.1,h.1.2,h.2⟩))))
  ·exact .inr (.inr (.inr (.inr (.inr (.inl ⟨h.1.1,h.1.2,h.2⟩)))))
  ·exact .inr (.inr (.inr (.inr (.inr (.inr (.inl h))))))
  ·exact .inr (.inr (.inr (.inr (.inr (.inr (.inr (.inl h)))))))
  ·exact .inr (.inr (.inr (.inr (.inr (.inr (.inr (.inr (.inl ⟨.inl h.1,.inr h.2⟩))))))))
  ·exact .inr (.inr (.inr (.inr (.inr (.inr (.inr (.inr (.inl ⟨.inr h.1,.inl h.2⟩))))))))
  ·exact .inr (.inr (.inr (.inr (.inr (.inr (.inr (.inr (.inl ⟨.inr h.1,.inr h.2⟩))))))))
  ·exact .inr (.inr (.inr (.inr (.inr (.inr (.inr (.inr (.inr (.inl h)))))))))
  ·exact .inr (.inr (.inr (.inr (.inr (.inr (.inr (.inr (.inr (.inr h)))))))))
 rcases hcases with ⟨k1,k2⟩|⟨k1,k2⟩|⟨k1,k2⟩|⟨k1,k2⟩|⟨hB,k1,k2⟩|⟨hB,k1,k2⟩|⟨k1,k2⟩|⟨k1,k2⟩|⟨k1,k2⟩|⟨k1,k2⟩|⟨k1,k2⟩
 ·obtain ⟨ag,y,rfl⟩:=fh5 k1;obtain ⟨ag',y',rfl⟩:=fh5 k2;obtain ⟨h1,rfl⟩:=hp;obtain ⟨h2,rfl⟩:=hx';exact ⟨_,⟨h2,rfl⟩,hxb',hp' ⟨h1,rfl⟩,fun hb=>hpb' (hpb hb)⟩
 ·obtain ⟨ag,y,rfl⟩:=fh5 k1;obtain ⟨h1,rfl⟩:=hp;obtain ⟨ob,rfl,hall⟩:=ar9 k2 hx';refine ⟨σ1.put ix ob,hall σ1,fun _=>al6 om,hp' ⟨?_,rfl⟩,fun hb=>hpb' (cf3 (fun i cs hc=>⟨cs,by rw[ag4 (fun e=>by subst e; rw[hnx] at hc; cases hc)]; exact hc⟩) (hpb hb))⟩;simp only[evq] at h1 ⊢;rw[ev1 (fh3 hnx h1)]; exact h1
 ·obtain ⟨ob,rfl,hall⟩:=ar9 k1 hp;obtain ⟨ob',rfl,hall'⟩:=ar9 k2 hx';refine ⟨σ.put ix ob',hall' σ,fun _=>al6 om,?_,fun _=>al6 om⟩;rw[put_comm ip ix _ _ hne];exact hp' (hall _)
 ·obtain ⟨e,s,y,rfl⟩:=gw9 k1;obtain ⟨ob,rfl,hall⟩:=ar9 k2 hx';refine ⟨σ.put ix ob,hall σ,fun _=>al6 om,hp' ?_,fun _=>al6 om⟩;obtain ⟨n1,n2⟩:=gb9 (id2:=ix) hnx hp;simp only[ce1] at hp ⊢;rw[de5 n1 n2 (fun e=>hne e.symm),hp];rfl
 ·obtain ⟨ag,y,rfl⟩:=fh5 k1;obtain ⟨e,s,z,rfl⟩:=gw9 k2;obtain ⟨h1,rfl⟩:=hp;have hb:=hpb hB;refine ⟨σ2,hx',fun _=>trivial,hp' ⟨?_,rfl⟩,fun _=>hpb' (cf3 (fun i cs hc=>⟨cs,(by9 hnx hx' i cs).1 hc⟩) hb)⟩;simp only[evq] at h1 ⊢;rw[<- h1];simp only[be2] at hb;split at hb
  ·rename_i he; rw[he]; rfl
  ·rename_i i off he;obtain ⟨cs,hc⟩:=hb;have hc':=(by9 hnx hx' i cs).1 hc;rw[he];simp[aw4,aq8,hc,hc']
  ·exact hb.elim
 ·obtain ⟨e,s,z,rfl⟩:=gw9 k1;obtain ⟨ag,y,rfl⟩:=fh5 k2;obtain ⟨h2,rfl⟩:=hx';have hb:=hxb' hB;refine ⟨σ,⟨?_,rfl⟩,fun _=>cf3 (fun i cs hc=>⟨cs,(by9 hnp hp i cs).2 hc⟩) hb,hp' hp,fun _=>trivial⟩;simp only[evq] at h2 ⊢;rw[<- h2];simp only[be2] at hb;split at hb
  ·rename_i he; rw[he]; rfl
  ·rename_i i off he;obtain ⟨cs,hc⟩:=hb;have hc':=(by9 hnp hp i cs).2 hc;rw[he];simp[aw4,aq8,hc,hc']
  ·exact hb.elim
 ·obtain ⟨ob,rfl,hall⟩:=ar9 k1 hp;obtain ⟨ag,y,rfl⟩:=fh5 k2;obtain ⟨h2,rfl⟩:=hx';have hr:=hH k1 y (by simp[IK.ops,IQ.ops]);refine ⟨σ,⟨?_,rfl⟩,fun hb=>?_,hp' hp,fun _=>al6 om⟩
  ·simp only[evq] at h2 ⊢;rw[ev1 hr] at h2; exact h2
  ·have:=hxb' hb;simp only[be2] at this ⊢;split
   ·trivial
   ·rename_i i off he;rw[he] at this hr;obtain ⟨cs,hc⟩:=this;exact ⟨cs,by rw[ag4 hr] at hc; exact hc⟩
   ·rename_i h1 h2;generalize y.ev E fr=q at *;cases q<;>first|exact this|exact (h1 _ rfl).elim|exact (h2 _ _ rfl).elim
 ·obtain ⟨ob,rfl,hall⟩:=ar9 k1 hp;obtain ⟨e,s,z,rfl⟩:=gw9 k2;have r1:=hH k1 s (by simp[IK.ops]);have r2:=hH k1 z (by simp[IK.ops]);simp only[ce1] at hx';rw[de5 r1 r2 hne] at hx';obtain ⟨⟨v',s'⟩,h1,h2⟩:=map_some hx';cases h2;exact ⟨s',h1,fun _=>trivial,hp' (hall _),fun _=>al6 om⟩
 ·obtain ⟨q1,rfl⟩:=ix3 k1;obtain ⟨q2,rfl⟩:=ix3 k2;obtain ⟨h1,rfl⟩:=hp;obtain ⟨h2,rfl⟩:=hx';exact ⟨_,⟨h2,rfl⟩,hxb',hp' ⟨h1,rfl⟩,fun hb=>hpb' (hpb hb)⟩
 ·obtain ⟨t,z,ok,y,k,rfl⟩:=ix4 k1;obtain ⟨h1,rfl⟩:=hp;obtain ⟨ob,rfl,hall⟩:=ar9 k2 hx';refine ⟨σ1.put ix ob,hall σ1,fun _=>al6 om,hp' ⟨?_,rfl⟩,fun hb=>trivial⟩;simp only[evq] at h1 ⊢;rw[gb7 (gb8 hnx h1)]; exact h1
 ·obtain ⟨ob,rfl,hall⟩:=ar9 k1 hp;obtain ⟨t,z,ok,y,k,rfl⟩:=ix4 k2;obtain ⟨h2,rfl⟩:=hx';have hr:=hH k1 y (by simp[IK.ops,IQ.ops]);refine ⟨σ,⟨?_,rfl⟩,fun hb=>trivial,hp' hp,fun _=>al6 om⟩;simp only[evq] at h2 ⊢;rw[gb7 hr] at h2; exact h2
end Go.Id
namespace Go.Id
open Go
variable {P:Program} {w w' w'':World} {ρ ρ' ρ'':Rho} {E:Nat->IV} {σ σ':Store} {N n n':Nat} {fr:Frm} {a:Act} {pf:List Nat}
abbrev Item:=Nat×af7×Nat
def ix6 (P:Program)(E:Nat->IV)(B:Bool)(o:af7)(id:Nat)(fr:Frm)(σ:Store)(K:Frm->Store->Prop):Prop :=
 ∃ act,cf5 o fr=za act/\(if act then opR P E o.op id fr σ (fun v σ'=>K (fr.bc2 o.dst v) σ')/\(B=true->be2 E fr σ o.op) else K (fr.bc2 o.dst skV) σ)
def bw5 (P:Program)(E:Nat->IV)(B:Bool):List Item->Frm->Store->(Frm->Store->Prop)->Prop
 | [],fr,σ,K=>K fr σ
 | (_,o,id)::rest,fr,σ,K=>ix6 P E B o id fr σ fun fr' σ'=>bw5 P E B rest fr' σ' K
theorem bz2 (fr:Frm)(d:Option Nat)(v:IV)(t:Nat):(fr.bc2 d v).get t=if d=za t then v else fr.get t:=by
 cases d with
 | none=>simp[Frm.bc2]
 | some d=>
  simp only[Frm.bc2,Frm.ce4,za.injEq];by_cases h:t=d
  ·subst h; simp
  ·have:¬ d=t:=fun e=>h e.symm
   simp[h,this]
theorem ev4 {fr fr':Frm}(h:FEq fr fr')(d:Option Nat)(v:IV):FEq (fr.bc2 d v) (fr'.bc2 d v):=fun t=>by rw[bz2,bz2,h t]
theorem ii4 {op:IK}{id:Nat}{fr fr':Frm}{K:IV->Store->Prop}(h:FEq fr fr'):opR P E op id fr σ K->opR P E op id fr' σ K:=by
 have hev:∀ x:IX,x.ev E fr=x.ev E fr':=fun x=>ao1 fun t _=>h t
 have hmap:∀ xs:List IX,xs.map (·.ev E fr)=xs.map (·.ev E fr'):=fun xs=>by7 fun t _=>h t
 cases op with
 | q q=>simp only[opR]; rw[ia3 (fun t _=>h t)]; exact fun h=>h
 | alloc z=>exact fun h=>h
 | box x=>simp only[opR]; rw[hev x]; exact fun h=>h
 | bsl e n z ps=>simp only[opR]; rw[ba6 (fun t _=>h t)]; exact fun h=>h
 | store e x y=>simp only[opR]; rw[hev x,hev y]; exact fun h=>h
 | app e x y=>simp only[opR]; rw[hev x,hev y]; exact fun h=>h
 | bu8=>exact fun h=>h
 | bm5 x=>simp only[opR]; rw[hev x]; exact fun h=>h
 | dc3 x=>simp only[opR]; rw[hev x]; exact fun h=>h
 | dw4 t x y z=>simp only[opR]; rw[hev x,hev y,hev z]; exact fun h=>h
 | call f xs=>simp only[opR]; rw[hmap]; exact fun h=>h
 | bi6 f xs=>simp only[opR]; rw[hmap]; exact fun h=>h
 | cx2 x xs=>simp only[opR]; rw[hmap,hev]; exact fun h=>h
 | ax8 e n z ps=>simp only[opR]; rw[ba6 (fun t _=>h t)]; exact fun h=>h
 | dc4 x=>simp only[opR]; rw[hev x]; exact fun h=>h
 | bf4 x=>simp only[opR]; rw[hev x]; exact fun h=>h
 | cs6 x=>simp only[opR]; rw[hev x]; exact fun h=>h
 | fw8 x=>simp only[opR]; rw[hev x]; exact fun h=>h
 | dr2 e z x=>simp only[opR]; rw[hev x]; exact fun h=>h
 | clr e z x=>simp only[opR]; rw[hev x]; exact fun h=>h
 | st k xs=>simp only[opR]; rw[hmap]; exact fun h=>h
theorem bc4 {op:IK}{id:Nat}{K K':IV->Store->Prop}(hK:∀ v σ,K v σ->K' v σ):opR P E op id fr σ K->opR P E op id fr σ K':=by
 cases op with
 | q q=>exact fun ⟨v,h,k⟩=>⟨v,h,hK _ _ k⟩
 | alloc z=>exact fun k=>hK _ _ k
 | box x=>exact fun ⟨h,k⟩=>⟨h,hK _ _ k⟩
 | bsl e n z ps=>exact fun ⟨out,h,k⟩=>⟨out,h,hK _ _ k⟩
 | store e x y=>exact fun ⟨s,h,k⟩=>⟨s,h,hK _ _ k⟩
 | app e x y=>exact fun ⟨r,h,k⟩=>⟨r,h,hK _ _ k⟩
 | bu8=>exact fun k=>hK _ _ k
 | bm5 x=>exact fun ⟨s,h,k⟩=>⟨s,h,hK _ _ k⟩
 | dc3 x=>exact fun ⟨s,h,k⟩=>⟨s,h,hK _ _ k⟩
 | dw4 t x y z=>exact fun ⟨s,h,k⟩=>⟨s,h,hK _ _ k⟩
 | call f xs=>exact fun ⟨Q,h,k⟩=>⟨Q,h,fun v s q=>⟨(k v s q).1,hK _ _ (k v s q).2⟩⟩
 | bi6 f xs=>exact fun ⟨v,h,k⟩=>⟨v,h,hK _ _ k⟩
 | cx2 x xs=>exact fun ⟨Q,h,k⟩=>⟨Q,h,fun v s q=>⟨(k v s q).1,hK _ _ (k v s q).2⟩⟩
 | ax8 e n z ps=>exact fun ⟨out,h,k⟩=>⟨out,h,hK _ _ k⟩
 | dc4 x=>exact fun ⟨h,k⟩=>⟨h,hK _ _ k⟩
 | bf4 x=>exact fun ⟨s,h,k⟩=>⟨s,h,hK _ _ k⟩
 | fw8 x=>exact fun ⟨v,h,k⟩=>⟨v,h,hK _ _ k⟩
 | dr2 e z x=>exact fun ⟨n,h,k⟩=>⟨n,h,hK _ _ k⟩
 | clr e z x=>exact fun ⟨s,h,hn,k⟩=>⟨s,h,hn,hK _ _ k⟩
 | st e xs=>exact fun ⟨r,h,k⟩=>⟨r,h,hK _ _ k⟩
 | cs6 x=>exact fun ⟨i,l,h,k1,k2⟩=>⟨i,l,h,fun e=>hK _ _ (k1 e),fun j hj=>hK _ _ (k2 j hj)⟩
theorem dq5 {o:af7}{fr fr':Frm}(h:∀ t∈o.uses,fr.get t=fr'.get t):cf5 o fr=cf5 o fr':=by
 unfold cf5
 cases hg:o.guard with
 | none=>rfl
 | some p=>
  obtain ⟨s,want⟩:=p;simp only;rw[h s (by simp[af7.uses,hg])]
theorem gx2 {B:Bool}{o:af7}{id:Nat}{fr fr':Frm}{K K':Frm->Store->Prop}(h:FEq fr fr')(hK:∀ f f' s,FEq f f'->K f s->K' f' s):ix6 P E B o id fr σ K->ix6 P E B o id fr' σ K':=by
 rintro ⟨act,ha,hh⟩;refine ⟨act,by rw[<- dq5 (fun t _=>h t)]; exact ha,?_⟩
 cases act with
 | true=>
  obtain ⟨h1,h2⟩:=hh
  exact ⟨bc4 (fun v s k=>hK _ _ _ (ev4 h _ _) k) (ii4 h h1),fun hb=>bz1 (fun t _=>h t) (h2 hb)⟩
 | false=>exact hK _ _ _ (ev4 h _ _) hh
theorem ea3 {B:Bool}{K:Frm->Store->Prop}(hK:∀ f f' s,FEq f f'->K f s->K f' s):∀ (its:List Item) (fr fr':Frm) (σ:Store),FEq fr fr'->bw5 P E B its fr σ K->bw5 P E B its fr' σ K:=by
 intro its
 induction its with
 | nil=>exact fun fr fr' σ h k=>hK _ _ _ h k
 | cons it its ih=>
  obtain ⟨i,o,id⟩:=it;exact fun fr fr' σ h k=>gx2 h (fun f f' s hf kk=>ih f f' s hf kk) k
def gc1 (p x:af7):Prop :=
 (∀ d,x.dst=za d->d ∉ p.uses/\p.dst≠za d)/\(∀ d,p.dst=za d->d ∉ x.uses)
def gc2 (B:Bool)(p x:af7):Prop:=ea1 B p.op.kind x.op.kind=true/\gc1 p x
theorem gx3 {B:Bool}{i j:Nat}(h:ea1 B i j=true):i<=5/\j<=5:=by
 unfold ea1 ev2 at h;simp only[zj,ze,beq_iff_eq,decide_eq_true_eq] at h;omega
theorem gc3 {op:IK}{id i:Nat}{v:IV}(hk:op.kind<=5)(hi:i≠id)(h:ce1 P E op id fr σ v σ')(hn:σ.obj i=zg):σ'.obj i=zg:=by
 cases op with
 | q q=>rw[h.2]; exact hn
 | alloc z=>rw[h.2,ag4 hi]; exact hn
 | box x=>rw[h.2.2,ag4 hi]; exact hn
 | bsl e n z ps=>obtain ⟨out,_,_,h3⟩:=h; rw[h3,ag4 hi]; exact hn
 | store e x y=>
  obtain ⟨h,_⟩:=h;unfold ar1 at h;split at h
  ·rename_i j off hx;split at h
   ·rename_i cs hc;split at h
    ·cases h;rw[ag4 (fun e=>by subst e; rw[hn] at hc; cases hc)]; exact hn
    ·cases h
   ·rename_i cs hc;split at h
    ·cases h;rw[ag4 (fun e=>by subst e; rw[hn] at hc; cases hc)]; exact hn
    ·cases h
   ·cases h
  ·cases h
 | bi6 f xs=>rw[h.2]; exact hn
 | app e s x=>
  simp only[ce1] at h;unfold as5 at h;split at h
  ·cases h
  ·split at h
   ·cases h
   ·split at h
    ·split at h
     ·cases h; exact hn
     ·split at h
      ·cases h; rw[ag4 hi]; exact hn
      ·cases h
    ·split at h
     ·cases h; exact hn
     ·split at h
      ·cases h; rw[ag4 hi]; exact hn
      ·cases h
    ·split at h
     ·cases h; exact hn
     ·cases h
    ·split at h
     ·split at h
      ·cases h; exact hn
      ·split at h
       ·cases h; rw[ag4 hi]; simp only[Store.kill]; split<;>simp[hn]
       ·cases h
     ·cases h
    ·split at h
     ·split at h
      ·cases h; exact hn
      ·split at h
       ·cases h; rw[ag4 hi]; exact hn
       ·cases h
     ·cases h
    ·cases h
 | ax8 e n z ps=>obtain ⟨_,_,_,rfl⟩:=h; exact hn
 | dc4 x=>obtain ⟨_,_,rfl⟩:=h; exact hn
 | dr2 e z x=>obtain ⟨_,_,_,rfl⟩:=h; rw[ag4 hi]; exact hn
 | st k xs=>exact h.elim
 | _=>exact absurd hk (by simp[IK.kind])
theorem bi2 {o:af7}{t:Nat}(h:t∈o.op.ops.flatMap IX.uses):t∈o.uses:=by unfold af7.uses; exact zd _ h
theorem ka2 {B:Bool}{K:Frm->Store->Prop}(hK:∀ f f' s,FEq f f'->K f s->K f' s){ix:Nat}{x:af7}{kx:Nat}{post:List Item} :
  ∀ (pre:List Item) (fr:Frm) (σ:Store),(∀ p∈pre,gc2 B p.2.1 x)->(∀ p∈pre,p.2.2≠kx/\σ.obj p.2.2=zg)->(pre.map (·.2.2)).Nodup->(pre≠[]->σ.obj kx=zg) ->
   (∀ p∈pre,p.2.1.op.kind=2->∀ y∈x.op.ops,bm4 p.2.2 (y.ev E fr)) ->
   bw5 P E B (pre++(ix,x,kx)::post) fr σ K->ix6 P E B x kx fr σ fun fr' σ'=>bw5 P E B (pre++post) fr' σ' K:=by
 intro pre
 induction pre with
 | nil=>intro fr σ _ _ _ _ _ h; exact h
 | cons p pre ih=>
  intro fr σ hfree hids hnd hnx hH h;obtain ⟨ip,p,kp⟩:=p;obtain ⟨hk,hap⟩:=hfree _ (zb ..);obtain ⟨hpx,hkp⟩:=hids _ (zb ..);simp only at hk hap hpx hkp;obtain ⟨kp3,kx3⟩:=gx3 hk;have hnx:=hnx (by simp);obtain ⟨ap,hact,hh⟩:=h
  -- what p gives
  have hp:∃ vp σ1,jj4 P E B ap p.op kp fr σ vp σ1/\bw5 P E B (pre++(ix,x,kx)::post) (fr.bc2 p.dst vp) σ1 K:=by
   cases ap with
   | true=>
    obtain ⟨h1,h2⟩:=hh;obtain ⟨vp,σ1,hd,k⟩:=(dq3 kp3).1 h1
    exact ⟨vp,σ1,⟨hd,h2⟩,k⟩
   | false=>exact ⟨skV,σ,⟨rfl,rfl⟩,hh⟩
  obtain ⟨vp,σ1,hd,htree⟩:=hp
  have hfx:∀ t∈x.uses,(fr.bc2 p.dst vp).get t=fr.get t:=fun t ht=>by
   rw[bz2,if_neg]; intro e; exact hap.2 t e ht
  have fresh1:∀ i,i≠kp->σ.obj i=zg->σ1.obj i=zg:=fun i hi h0=>by
   cases ap with
   | true=>exact gc3 kp3 hi hd.1 h0
   | false=>obtain ⟨_,rfl⟩:=hd; exact h0
  have hnd':=List.nodup_cons.1 (show (kp::pre.map (·.2.2)).Nodup from hnd)
  obtain ⟨ax,hactx,hhx⟩:=ih (fr.bc2 p.dst vp) σ1 (fun q hq=>hfree q (zc _ hq))
   (fun q hq=>⟨(hids q (zc _ hq)).1,fresh1 _ (fun e=>hnd'.1 (by rw[<- e]; exact zo.2 ⟨q,hq,rfl⟩)) (hids q (zc _ hq)).2⟩)
   hnd'.2 (fun _=>fresh1 kx (fun e=>hpx e.symm) hnx)
   (fun q hq hk2 y hy=>by
    have:y.ev E (fr.bc2 p.dst vp)=y.ev E fr:=ao1 fun t ht=>hfx t (bi2 (zq.2 ⟨y,hy,ht⟩))
    rw[this]; exact hH q (zc _ hq) hk2 y hy) htree
  have hx:∃ vx σ2,jj4 P E B ax x.op kx (fr.bc2 p.dst vp) σ1 vx σ2/\bw5 P E B (pre++post) ((fr.bc2 p.dst vp).bc2 x.dst vx) σ2 K:=by
   cases ax with
   | true=>
    obtain ⟨h1,h2⟩:=hhx;obtain ⟨vx,σ2,hd,k⟩:=(dq3 kx3).1 h1
    exact ⟨vx,σ2,⟨hd,h2⟩,k⟩
   | false=>exact ⟨skV,σ1,⟨rfl,rfl⟩,hhx⟩
  obtain ⟨vx,σ2,hdx,htree2⟩:=hx;have hactx':cf5 x fr=za ax:=by rw[<- dq5 hfx]; exact hactx
  have hfp:∀ t∈p.uses,fr.get t=(fr.bc2 x.dst vx).get t:=fun t ht=>by
   rw[bz2,if_neg]; intro e; exact (hap.1 t e).1 ht
  have hactp':cf5 p (fr.bc2 x.dst vx)=za ap:=by rw[<- dq5 hfp]; exact hact
  have feq:FEq ((fr.bc2 p.dst vp).bc2 x.dst vx) ((fr.bc2 x.dst vx).bc2 p.dst vp):=fun t=>by
   simp only[bz2];by_cases h1:x.dst=za t
   ·have h2:p.dst≠za t:=(hap.1 t h1).2;simp[h1,h2]
   ·simp[h1]
  have swap:∃ σ1',jj4 P E B ax x.op kx fr σ vx σ1'/\jj4 P E B ap p.op kp (fr.bc2 x.dst vx) σ1' vp σ2:=by
   cases ap with
   | true=>
    cases ax with
    | true=>
     obtain ⟨σ1',s1,s2,s3,s4⟩:=gx1 hd.1 hd.2 hdx.1 hdx.2 hk (fun t ht=>hfx t (bi2 ht)) (fun t ht=>hfp t (bi2 ht)) hpx hkp hnx (hH _ (zb ..))
     exact ⟨σ1',⟨s1,s2⟩,⟨s3,s4⟩⟩
    | false=>
     obtain ⟨rfl,rfl⟩:=hdx
     exact ⟨σ,⟨rfl,rfl⟩,dq4 (fun t ht=>hfp t (bi2 ht)) hd.1,fun hb=>bz1 (fun t ht=>hfp t (bi2 ht)) (hd.2 hb)⟩
   | false=>
    obtain ⟨rfl,rfl⟩:=hd
    cases ax with
    | true=>exact ⟨σ2,⟨dq4 (fun t ht=>hfx t (bi2 ht)) hdx.1,fun hb=>bz1 (fun t ht=>hfx t (bi2 ht)) (hdx.2 hb)⟩,rfl,rfl⟩
    | false=>obtain ⟨rfl,rfl⟩:=hdx; exact ⟨_,⟨rfl,rfl⟩,rfl,rfl⟩
  obtain ⟨σ1',d1,d2⟩:=swap
  have inner:ix6 P E B p kp (fr.bc2 x.dst vx) σ1' fun fr' σ'=>bw5 P E B (pre++post) fr' σ' K:=by
   refine ⟨ap,hactp',?_⟩
   cases ap with
   | true=>exact ⟨(dq3 kp3).2 ⟨vp,σ2,d2.1,ea3 hK _ _ _ _ feq htree2⟩,d2.2⟩
   | false=>obtain ⟨rfl,rfl⟩:=d2; exact ea3 hK _ _ _ _ feq htree2
  refine ⟨ax,hactx',?_⟩
  cases ax with
  | true=>exact ⟨(dq3 kx3).2 ⟨vx,σ1',d1.1,inner⟩,d1.2⟩
  | false=>obtain ⟨rfl,rfl⟩:=d1; exact inner
end Go.Id
namespace Go.Id
open Go
variable {P:Program} {w w' w'':World} {ρ ρ' ρ'':Rho} {E:Nat->IV} {σ σ':Store} {N n n':Nat} {fr:Frm} {a:Act} {pf:List Nat}
def IX.quiet:IX->Bool
 | .c (.ptr _ _)=>false
 | .c (.slice _ _ _ _)=>false
 | .c (.map _)=>false
 | .c (.ag9 _ _ _ _)=>false
 | .c (.ak7 _ _ _ _ _)=>false
 | _=>true
theorem IX.ek9 {x:IX}{id:Nat}(hq:x.quiet=true)(hs:Sim E ρ w σ)(hf:FR ρ w N fr a.tmps)(h:ρ id=.no):bm4 id (x.ev E fr):=by
 cases x with
 | t n=>exact eu9 (hf.get n) h
 | c v=>cases v<;>first|trivial|cases hq
 | g n=>exact eu9 (hs.env n) h
 | f n=>trivial
structure Rem (P:Program) (pf:List Nat) (N:Nat) (ops:Array Oper) (B:Bool) (anc:Nat->Nat->Prop) (base:Nat) (rem:List Item) (listed:Array Bool):Prop where
 size:listed.size=ops.size
 un:∀ j,j<ops.size->(listed.getD j true=false↔∃ it∈rem,it.1=j)
 its:∀ it∈rem,∃ o,ops[it.1]? = za o/\cf6 P pf N ops o=za it.2.1/\it.2.2=base+it.1/\∀ y∈it.2.1.op.ops,IX.quiet y=true
 pw:rem.Pairwise fun p x=>(anc p.1 x.1\/gc2 B p.2.1 x.2.1)/\p.1≠x.1/\∀ o,ops[p.1]? = za o->∀ e∈o.after,Region.binds .any e=true->e.on≠x.1
 dc:∀ j,listed.getD j false=true->∀ k,anc k j->listed.getD k false=true
theorem getD_lt {l:Array Bool}{j:Nat}(h:l.getD j true=false):j<l.size:=by
 rcases zk j l.size with h'|h'
 ·exact h'
 ·simp[zf h'] at h
theorem ii5 {l:Array Bool}{j:Nat}(h:l.getD j false=true):l.getD j true=true:=by
 rcases zk j l.size with h'|h'
 ·simp[h'] at h ⊢; exact h
 ·simp[zf h'] at h
theorem gc4 {ops:Array Oper} {B:Bool} {anc:Nat->Nat->Prop} {n0 base:Nat} {ro:Option Nat} {Qw:Exit->Act->World->Prop} {K:Frm->Store->Prop} {ρ0:Rho} {w0:World} {ds:List Deferred}
  (hKf:∀ f f' s,FEq f f'->K f s->K f' s)
  (hfin:∀ fr σ ρ w a,n0<=σ.next->K fr σ->Sim E ρ w σ->FR ρ w N fr a.tmps->a.defers=ds->bf1 n0 ρ0 w0 ρ w->Qw .normal a w)
  (hed:∀ j o,ops[j]? = za o->∀ e∈o.after,Region.binds .any e=true->e.on<ops.size/\e.on≠j)
  (hanc:∀ k j,anc k j->∀ o,ops[j]? = za o->∃ e∈o.after,Region.binds .any e=true/\(e.on=k\/anc k e.on)) :
  ∀ (fuel:Nat) (rem:List Item) (listed:Array Bool) (fr:Frm) (σ:Store) (ρ:Rho) (w:World) (a:Act),rem.length=fuel->Rem P pf N ops B anc base rem listed->bw5 P E B rem fr σ K ->
   Sim E ρ w σ->FR ρ w N fr a.tmps->a.defers=ds->bf1 n0 ρ0 w0 ρ w->n0<=base->base+ops.size<=σ.next->(∀ it∈rem,ρ it.2.2=.no) ->
   wpAnyIn (fw ro) 0 P .any ops Qw fuel listed a w:=by
 intro fuel
 induction fuel with
 | zero=>
  intro rem listed fr σ ρ w a hlen hr h hs hf hd hx hn0 hnx hno;have:rem=[]:=List.length_eq_zero_iff.1 hlen;subst this;refine ⟨?_,hfin fr σ ρ w a om h hs hf hd hx⟩;rw[List.eq_nil_iff_forall_not_mem];intro j hj;obtain ⟨h0,_⟩:=mem_ready.1 hj;obtain ⟨it,hit,_⟩:=(hr.un j (by rw[<- hr.size]; exact getD_lt h0)).1 h0
  cases hit
 | succ fuel ih=>
  intro rem listed fr σ ρ w a hlen hr h hs hf hd hx hn0 hnx hno;refine ⟨fun hemp=>?_,fun i hi=>?_⟩
  ·exfalso
   cases rem with
   | nil=>cases hlen
   | cons it rem=>
    obtain ⟨o,ho,hc,hid,_⟩:=hr.its it (zb ..)
    have hlt:it.1<ops.size:=by
     rcases zk it.1 ops.size with h'|h'
     ·exact h'
     ·simp[zf h'] at ho
    have:it.1∈Region.ready .any ops listed:=by
     refine mem_ready.2 ⟨(hr.un _ hlt).2 ⟨it,zb ..,rfl⟩,o,ho,fun e he hb=>?_⟩;obtain ⟨h1,h2⟩:=hed _ o ho e he hb;have hj:e.on<listed.size:=by rw[hr.size]; exact h1
     by_cases hL:listed.getD e.on true=false
     ·obtain ⟨jt,hjt,hje⟩:=(hr.un _ h1).1 hL;rcases zi.1 hjt with rfl|hjt
      ·exact absurd hje.symm h2
      ·exact absurd hje.symm (((zn.1 hr.pw).1 jt hjt).2.2 o ho e he hb)
     ·simp[hj] at hL ⊢; exact hL
    rw[hemp] at this;cases this
  ·obtain ⟨h0,o,ho,hall⟩:=mem_ready.1 hi;have hlt:i<ops.size:=by rw[<- hr.size]; exact getD_lt h0
   obtain ⟨it,hit,hie⟩:=(hr.un i hlt).1 h0;obtain ⟨pre,post,rfl⟩:=List.append_of_mem hit;obtain ⟨ix,x,kx⟩:=it;simp only at hie;subst hie;obtain ⟨o',ho',hc,hkx,hqx⟩:=hr.its _ hit;simp only at ho' hc hkx hqx;rw[ho] at ho';cases ho';obtain ⟨hpp,hxp,hcross⟩:=List.pairwise_append.1 hr.pw;have hcx:=fun p hp=>hcross p hp _ (zb ..)
   have hnotL:∀ p∈pre,listed.getD p.1 false≠true:=fun p hp hL=>by
    obtain ⟨op,hop,_⟩:=hr.its p (zd _ hp)
    have hpl:p.1<ops.size:=by
     rcases zk p.1 ops.size with h'|h'
     ·exact h'
     ·simp[zf h'] at hop
    have:=(hr.un p.1 hpl).2 ⟨p,zd _ hp,rfl⟩;rw[ii5 hL] at this;cases this
   have hfree:∀ p∈pre,gc2 B p.2.1 x:=fun p hp=>by
    rcases (hcx p hp).1 with ha|hf
    ·exfalso;obtain ⟨e,he,hb,heq⟩:=hanc _ _ ha o ho;have hle:=hall e he hb;rcases heq with heq|ha'
     ·exact hnotL p hp (by rw[<- heq]; exact hle)
     ·exact hnotL p hp (hr.dc _ hle _ ha')
    ·exact hf
   have hidp:∀ p∈pre,p.2.2=base+p.1:=fun p hp=>by
    obtain ⟨_,_,_,h1,_⟩:=hr.its p (zd _ hp);exact h1
   have hpull:=ka2 (P:=P) (E:=E) (B:=B) (K:=K) hKf (ix:=ix) (x:=x) (kx:=kx) (post:=post) pre fr σ hfree
    (fun p hp=>⟨by rw[hidp p hp,hkx]; have:=(hcx p hp).2.1; omega,hs.av7 _ (hno p (zd _ hp))⟩)
    (by
     rw[List.nodup_iff_pairwise_ne,List.pairwise_map];refine (List.Pairwise.and_mem.1 hpp).imp ?_;intro p q ⟨hp,hq,h1⟩;rw[hidp p hp,hidp q hq];have:=h1.2.1;omega)
    (fun _=>hs.av7 _ (hno _ hit))
    (fun p hp _ y hy=>IX.ek9 (hqx y hy) hs hf (hno p (zd _ hp))) h
   obtain ⟨⟨fz,hk⟩,hdst,hdN,hg⟩:=cx1 hc;have hidx:kx<σ.next/\n0<=kx:=by rw[hkx]; omega
   have hmem:∀ it∈pre++post,it∈pre++(ix,x,kx)::post:=fun it h=>by
    rcases zh.1 h with h|h
    ·exact zd _ h
    ·exact zt _ (zc _ h)
   have hne:∀ it∈pre++post,it.1≠ix:=fun it h=>by
    rcases zh.1 h with h|h
    ·exact (hcx it h).2.1
    ·exact fun e=>((zn.1 hxp).1 it h).2.1 e.symm
   have hrem:Rem P pf N ops B anc base (pre++post) (listed.setIfInBounds ix true):=by
    refine ⟨by simp[hr.size],fun j hj=>?_,fun it hit=>hr.its it (hmem it hit),?_,?_⟩
    ·by_cases hji:j=ix
     ·subst hji;have:j<listed.size:=by rw[hr.size]; exact hj
      constructor
      ·intro h; simp[this] at h
      ·rintro ⟨it,h1,h2⟩; exact absurd h2 (hne it h1)
     ·rw[getD_set_ne true (Ne.symm hji),hr.un j hj];constructor
      ·rintro ⟨it,h1,h2⟩;refine ⟨it,?_,h2⟩;rcases zh.1 h1 with h1|h1
       ·exact zd _ h1
       ·rcases zi.1 h1 with rfl|h1
        ·exact absurd h2.symm hji
        ·exact zt _ h1
      ·rintro ⟨it,h1,h2⟩; exact ⟨it,hmem it h1,h2⟩
    ·exact hr.pw.sublist (List.Sublist.append (List.Sublist.refl _) (List.sublist_cons_self _ _))
    ·intro j hj k hk;by_cases hji:j=ix
     ·subst hji;obtain ⟨e,he,hb,heq⟩:=hanc _ _ hk o ho;have hle:=hall e he hb;rcases heq with rfl|ha'
      ·exact getD_set_true hle
      ·exact getD_set_true (hr.dc _ hle _ ha')
     ·rw[getD_set_ne false (Ne.symm hji)] at hj;exact getD_set_true (hr.dc _ hj _ hk)
   have hlen':(pre++post).length=fuel:=by simp at hlen ⊢; omega
   have hne2:∀ it∈pre++post,it.2.2≠kx:=fun it h=>by
    obtain ⟨_,_,_,h1,_⟩:=hr.its it (hmem it h);rw[h1,hkx];have:=hne it h;omega
   unfold wpOpIn;simp only[ho];obtain ⟨act,hact,hh⟩:=hpull
   have run:opR P E x.op kx fr σ (fun v σ'=>bw5 P E B (pre++post) (fr.bc2 x.dst v) σ' K)->o.wpIn (fw ro) 0 P a w (wpAnyIn (fw ro) 0 P .any ops Qw fuel (listed.setIfInBounds ix true)) Qw:=by
    intro hop;refine ew2 hk hop hs hf om (fun hl=>⟨hno _ hit,hidx.1,hidx.2⟩) ?_;intro v σ' r ρ' w' hnx' hK hs' hv' hx' hno';refine ih (pre++post) _ _ σ' ρ' w' (a.put o.dst r) hlen' hrem hK hs' ?_ (by rw[put_defers]; exact hd) (hx.trans (hx'.weak (zs _))) hn0 om ?_
    ·rw[hdst]; exact FR.bc2 (hf.mono hx') hdN hv'
    ·intro jt hjt;obtain ⟨jo,hjo,_,h1,_⟩:=hr.its jt (hmem jt hjt)
     have hjl:jt.1<ops.size:=by
      rcases zk jt.1 ops.size with h'|h'
      ·exact h'
      ·simp[zf h'] at hjo
     exact hno' _ (by rw[h1]; omega) (fun _=>hne2 jt hjt) (hno _ (hmem jt hjt))
   rcases hg with ⟨hg1,hg2⟩|⟨j,want,s,hg1,hgs,hg2⟩
   ·have hw:Region.wanted o (yielded ops a.tmps)=true:=by unfold Region.wanted; rw[hg1]
    rw[if_pos hw];simp only[cf5,hg2,za.injEq] at hact;subst hact;exact run hh.1
   ·simp only[cf5,hg2] at hact;have hw:=eb1 hg1 hgs hf hact;rw[hw]
    cases act with
    | true=>exact run hh.1
    | false=>
     refine ⟨fun f _=>trivial,?_⟩;exact ih (pre++post) _ _ σ ρ w (a.put o.dst undef) hlen' hrem hh hs (by rw[hdst]; exact FR.bc2 hf hdN ia8) (by rw[put_defers]; exact hd) hx hn0 hnx (fun jt hjt=>hno _ (hmem jt hjt))
end Go.Id
namespace Go.Id
open Go
variable {P:Program} {w w' w'':World} {ρ ρ' ρ'':Rho} {E:Nat->IV} {σ σ':Store} {N n n':Nat} {fr:Frm} {a:Act} {pf:List Nat}
def fh6 (base:Nat):Nat->List af7->List Item
 | _,[]=>[]
 | i,o::os=>(i,o,base+i)::fh6 base (i+1) os
def bi3 (o:Oper):List Nat:=(o.after.toList.filter (Region.binds .any)).map (·.on)
def orF (ms:List Nat)(es:List Nat):Nat:=es.foldl (fun s e=>s ||| (2^e ||| ms.getD e 0)) 0
def ix7 (ess:List (List Nat)):List Nat:=ess.foldl (fun acc es=>acc++[orF acc es]) []
def gc5 (p x:af7):Bool :=
 (match x.dst with|none=>true|some d=>!p.uses.contains d&&p.dst != za d)&&(match p.dst with|none=>true|some d=>!x.uses.contains d)
def ev5 (B:Bool)(ms:List Nat)(i:Nat)(p:af7):Nat->List af7->Bool
 | _,[]=>true
 | j,x::xs=>((ms.getD j 0).testBit i||(ea1 B p.op.kind x.op.kind&&gc5 p x))&&ev5 B ms i p (j+1) xs
def dq6 (B:Bool)(ms:List Nat):Nat->List af7->Bool
 | _,[]=>true
 | i,o::os=>ev5 B ms i o (i+1) os&&dq6 B ms (i+1) os
def jj5:Nat->List (List Nat)->Bool
 | _,[]=>true
 | j,es::r=>es.all (fun e=>decide (e<j))&&jj5 (j+1) r
def jj6 (ms:List Nat):Nat->List (List Nat)->Bool
 | _,[]=>true
 | j,es::r=>ms.getD j 0==orF ms es&&jj6 ms (j+1) r
def jj7 (ess:List (List Nat))(ios:List af7)(B:Bool):Bool :=
 let ms:=ix7 ess
 jj5 0 ess&&jj6 ms 0 ess&&dq6 B ms 0 ios&&ios.all fun o=>o.op.ops.all IX.quiet
def ea4 (ios:List af7):Bool:=ios.any fun o=>o.op.kind==3
theorem ii6 {ms:List Nat}{k:Nat}:∀ (es:List Nat) (s:Nat),(es.foldl (fun s e=>s ||| (2^e ||| ms.getD e 0)) s).testBit k=true->s.testBit k=true\/∃ e∈es,e=k\/(ms.getD e 0).testBit k=true:=by
 intro es
 induction es with
 | nil=>exact fun s h=>.inl h
 | cons e es ih=>
  intro s h;rcases ih _ h with h1|⟨e',he,h1⟩
  ·rw[Nat.testBit_or,Nat.testBit_or,Nat.testBit_two_pow] at h1;simp only[zj,decide_eq_true_eq] at h1;rcases h1 with h1|h1|h1
   ·exact .inl h1
   ·exact .inr ⟨e,zb ..,.inl h1⟩
   ·exact .inr ⟨e,zb ..,.inr h1⟩
  ·exact .inr ⟨e',zc _ he,h1⟩
theorem el1 {p x:af7}(h:gc5 p x=true):gc1 p x:=by
 unfold gc5 at h;simp only[ze] at h;obtain ⟨h1,h2⟩:=h;refine ⟨fun d hd=>?_,fun d hd=>?_⟩
 ·rw[hd] at h1
  simpa using h1
 ·rw[hd] at h2
  simpa using h2
theorem ii7 {base:Nat}:∀ (ios:List af7) (i:Nat),∀ it∈fh6 base i ios,i<=it.1:=by
 intro ios
 induction ios with
 | nil=>intro i it h; cases h
 | cons o os ih=>
  intro i it h;rcases zi.1 h with rfl|h
  ·exact zs _
  ·have:=ih _ it h; omega
theorem gx4 {base:Nat}:∀ (ios:List af7) (i:Nat),(fh6 base i ios).length=ios.length:=by
 intro ios
 induction ios with
 | nil=>intro i; rfl
 | cons o os ih=>intro i; simp[fh6,ih]
theorem gx5 {base:Nat}:∀ (ios:List af7) (i j:Nat),i<=j->j<i+ios.length->∃ it∈fh6 base i ios,it.1=j:=by
 intro ios
 induction ios with
 | nil=>intro i j h1 h2; simp at h2; omega
 | cons o os ih=>
  intro i j h1 h2;by_cases h:i=j
  ·exact ⟨_,zb ..,h⟩
  ·obtain ⟨it,h3,h4⟩:=ih (i+1) j om (by simp at h2; omega);exact ⟨it,zc _ h3,h4⟩
theorem gc6 {base:Nat}:∀ (ios:List af7) (i:Nat),∀ it∈fh6 base i ios,it.2.2=base+it.1/\it.2.1∈ios:=by
 intro ios
 induction ios with
 | nil=>intro i it h; cases h
 | cons o os ih=>
  intro i it h;rcases zi.1 h with rfl|h
  ·exact ⟨rfl,zb ..⟩
  ·obtain ⟨h1,h2⟩:=ih _ it h;exact ⟨h1,zc _ h2⟩
theorem gx6 {base:Nat}{ops:Array Oper}:∀ (os:List Oper) (ios:List af7) (i:Nat),ops.toList.drop i=os->bv4 P pf N ops os=za ios->∀ it∈fh6 base i ios,∃ o,ops[it.1]? = za o/\cf6 P pf N ops o=za it.2.1:=by
 intro os
 induction os with
 | nil=>intro ios i _ hc it hit; cases hc; cases hit
 | cons o os ih=>
  intro ios i hdrop hc it hit;simp only[bv4] at hc;split at hc
  ·rename_i io ios' hio hios;cases hc
   have hi:ops[i]? = za o:=by
    have:=congrArg (fun l=>l[0]?) hdrop
    simpa [List.getElem?_drop] using this
   have hdrop':ops.toList.drop (i+1)=os:=by
    have:=congrArg (List.drop 1) hdrop
    simpa [List.drop_drop] using this
   rcases zi.1 hit with rfl|hit
   ·exact ⟨o,hi,hio⟩
   ·exact ih ios' (i+1) hdrop' hios it hit
  ·cases hc
theorem fh7 {ops:Array Oper}:∀ (os:List Oper) (ios:List af7),bv4 P pf N ops os=za ios->ios.length=os.length:=by
 intro os
 induction os with
 | nil=>intro ios h; cases h; rfl
 | cons o os ih=>
  intro ios h;simp only[bv4] at h;split at h
  ·rename_i io ios' hio hios;cases h;simp[ih _ hios]
  ·cases h
theorem el3 {B:Bool}{ms:List Nat}{i base:Nat}{p:af7}:∀ (xs:List af7) (j:Nat),ev5 B ms i p j xs=true->∀ it∈fh6 base j xs,(ms.getD it.1 0).testBit i=true\/gc2 B p it.2.1:=by
 intro xs
 induction xs with
 | nil=>intro j _ it h; cases h
 | cons x xs ih=>
  intro j h it hit;simp only[ev5,ze,zj] at h;rcases zi.1 hit with rfl|hit
  ·rcases h.1 with h1|h1
   ·exact .inl h1
   ·exact .inr ⟨h1.1,el1 h1.2⟩
  ·exact ih _ h.2 it hit
theorem fh8 {B:Bool}{ms:List Nat}{base:Nat}:∀ (xs:List af7) (i:Nat),dq6 B ms i xs=true->(fh6 base i xs).Pairwise fun p x=>((ms.getD x.1 0).testBit p.1=true\/gc2 B p.2.1 x.2.1)/\p.1<x.1:=by
 intro xs
 induction xs with
 | nil=>intro i _; exact .nil
 | cons x xs ih=>
  intro i h;simp only[dq6,ze] at h;refine zn.2 ⟨fun it hit=>⟨el3 xs _ h.1 it hit,?_⟩,ih _ h.2⟩;have:=ii7 xs _ it hit;simp only;omega
theorem ea5:∀ (ess:List (List Nat)) (i:Nat),jj5 i ess=true->∀ j es,ess[j]? = za es->∀ e∈es,e<i+j:=by
 intro ess
 induction ess with
 | nil=>intro i _ j es h; simp at h
 | cons x ess ih=>
  intro i h j es hj e he;simp only[jj5,ze,zr,decide_eq_true_eq] at h
  cases j with
  | zero=>simp at hj; subst hj; exact h.1 e he
  | succ j=>have:=ih (i+1) h.2 j es (by simpa using hj) e he; omega
theorem gc7 {ms:List Nat}:∀ (ess:List (List Nat)) (i:Nat),jj6 ms i ess=true->∀ j es,ess[j]? = za es->ms.getD (i+j) 0=orF ms es:=by
 intro ess
 induction ess with
 | nil=>intro i _ j es h; simp at h
 | cons x ess ih=>
  intro i h j es hj;simp only[jj6,ze,beq_iff_eq] at h
  cases j with
  | zero=>simp at hj; subst hj; exact h.1
  | succ j=>
   have:=ih (i+1) h.2 j es (by simpa using hj);rw[<- this]; congr 1; omega
theorem gc8 {n0 id:Nat}{ops:Array Oper}{ios:List af7}{B:Bool}{Q:Exit->Frm->Store->Prop}{ks:List Nat}(hm:P.follows .mixedOrders=true)(hc:bv4 P pf N ops ops.toList=za ios)
  (hok:jj7 (ops.toList.map bi3) ios B=true)
  (h:bw5 P E B (fh6 σ.next 0 ios) fr { σ with next:=σ.next+ios.length } (fun fr' σ'=>Q .normal (fr'.keep ks) σ')):R P E N n0 (.region id ops true) fr σ Q:=by
 intro hn ro h0 ρ w a hs hf hd hr;refine wpIn_region_any hm ?_;have hlen:ios.length=ops.size:=by rw[fh7 _ _ hc]; simp
 unfold jj7 at hok;simp only[ze,zr] at hok;obtain ⟨⟨⟨hed,hms⟩,hpr⟩,hq⟩:=hok;generalize ix7 (ops.toList.map bi3)=ms at hms hpr;have hes:∀ (j:Nat) (o:Oper),ops[j]? = za o->(ops.toList.map bi3)[j]? = za (bi3 o):=fun j o ho=>by simp[ho]
 have hme:∀ (o:Oper) (k:Nat),k∈bi3 o->∃ e∈o.after,Region.binds .any e=true/\e.on=k:=fun o k hk=>by
  unfold bi3 at hk;obtain ⟨e,he,rfl⟩:=zo.1 hk;obtain ⟨h1,h2⟩:=List.mem_filter.1 he;exact ⟨e,by simpa using h1,h2,rfl⟩
 have hem:∀ (o:Oper) (e:Edge),e∈o.after->Region.binds .any e=true->e.on∈bi3 o:=fun o e he hb=>
  zo.2 ⟨e,List.mem_filter.2 ⟨by simpa using he,hb⟩,rfl⟩
 refine gc4 (E:=E) (pf:=pf) (N:=N) (B:=B) (anc:=fun k j=>(ms.getD j 0).testBit k=true) (n0:=n0) (base:=σ.next) (ρ0:=ρ) (w0:=w) (ds:=a.defers) (K:=fun fr' σ'=>Q .normal (fr'.keep ks) σ') ?_ ?_ ?_ ?_
  ops.size (fh6 σ.next 0 ios) _ fr { σ with next:=σ.next+ios.length } ρ w.drew a (by rw[gx4,hlen]) ?_ h
  (ew1 (dp3 hs) (fun i hi=>hs.fresh i om)) (hf.mono (bi1 0)) rfl ((bi1 n0).weak (zs _)) hn (by rw[hlen]; exact zs _) ?_
 ·intro f f' s hff hK
  have:f'.keep ks=f.keep ks:=by
   unfold Frm.keep;exact zl fun k _=>by rw[hff k]
  rw[this]; exact hK
 ·intro fr' σ' ρ' w' a' hn' hK hs' hf' hd' hx;exact ⟨fr'.keep ks,σ',ρ',hn',hK,hs',hf'.keep ks,by rw[hd']; exact hd.mono hx,hr.mono hx,hx⟩
 ·intro j o ho e he hb;have:=ea5 _ _ hed j _ (hes j o ho) _ (hem o e he hb)
  have hj:j<ops.size:=by
   rcases zk j ops.size with h'|h'
   ·exact h'
   ·simp[zf h'] at ho
  omega
 ·intro k j hk o ho;have:=gc7 _ _ hms j _ (hes j o ho);simp only[Nat.zero_add] at this;rw[this] at hk;rcases ii6 _ _ hk with h1|⟨e,he,h1⟩
  ·simp at h1
  ·obtain ⟨ed,hed1,hb,heq⟩:=hme o e he;exact ⟨ed,hed1,hb,by rw[heq]; exact h1⟩
 ·refine ⟨by simp,fun j hj=>?_,fun it hit=>?_,?_,?_⟩
  ·constructor
   ·intro _;exact gx5 ios 0 j (Nat.zero_le _) om
   ·intro _; simp[hj]
  ·obtain ⟨o,h1,h2⟩:=gx6 ops.toList ios 0 rfl hc it hit;obtain ⟨h3,h4⟩:=gc6 ios 0 it hit;exact ⟨o,h1,h2,h3,hq _ h4⟩
  ·refine (fh8 ios 0 hpr).imp ?_;intro p x ⟨h1,h2⟩;refine ⟨h1,om,fun o ho e he hb=>?_⟩;have:=ea5 _ _ hed p.1 _ (hes p.1 o ho) _ (hem o e he hb);omega
  ·intro j hj;exfalso;by_cases hlt:j<ops.size
   ·simp[hlt] at hj
   ·simp[hlt] at hj
 ·intro it hit;exact hs.fresh _ (by rw[(gc6 ios 0 it hit).1]; omega)
end Go.Id
namespace Go.Id
open Go
variable {P:Program} {w w' w'':World} {ρ ρ' ρ'':Rho} {E:Nat->IV} {σ σ':Store} {N n n':Nat} {fr:Frm} {a:Act} {pf:List Nat}
def IK.cls:IK->Nat
 | .q u=>match u.kind with
  | 0=>0
  | _=>1
 | .bi6 _ _|.ax8 _ _ _ _|.dc4 _=>0
 | _=>2
def jl3 (E:Nat->IV)(fr:Frm):IQ->IQ
 | .load a x=>.load a (.c (x.ev E fr))
 | .lkp t z ok x k=>.lkp t z ok (.c (x.ev E fr)) (.c (k.ev E fr))
 | .len k x=>.len k (.c (x.ev E fr))
 | q=>q
abbrev LE:=Nat×IQ×IV
def ka3 (E:Nat->IV)(fr:Frm)(i:Nat)(op:IK)(v:IV)(L:List LE):List LE :=
 match op with
 | .q q=>if q.kind=0 then L else (i,jl3 E fr q,v)::L
 | _=>L
def ka4 (E:Nat->IV)(L:List LE)(m:Nat)(σ:Store):Prop:=∀ e∈L,m.testBit e.1=true->evq E [] σ e.2.1=za e.2.2
abbrev gc9:=Nat×af7×Nat×Nat
def ka5 (P:Program)(E:Nat->IV)(o:af7)(id m:Nat)(L:List LE)(fr:Frm)(σ:Store)(K:IV->Store->Prop)(Ks:Prop):Prop :=
 (cf5 o fr=za true/\opR P E o.op id fr σ (fun v σ'=>ka4 E L m σ'/\K v σ'))\/(cf5 o fr=za false/\Ks)
def fh9 (P:Program)(E:Nat->IV):List gc9->List LE->Frm->Store->(Frm->Store->Prop)->Prop
 | [],_,fr,σ,K=>K fr σ
 | (i,o,id,m)::rest,L,fr,σ,K=>ka5 P E o id m L fr σ (fun v σ'=>fh9 P E rest (ka3 E fr i o.op v L) (fr.bc2 o.dst v) σ' K) (fh9 P E rest L (fr.bc2 o.dst skV) σ K)
theorem fi1 {K K':Frm->Store->Prop}:∀ (its:List gc9) (L:List LE) (fr:Frm) (σ:Store),(∀ f s,K f s->K' f s)->fh9 P E its L fr σ K->fh9 P E its L fr σ K':=by
 intro its
 induction its with
 | nil=>exact fun _ _ _ hk h=>hk _ _ h
 | cons it its ih=>
  obtain ⟨i,o,id,m⟩:=it;rintro L fr σ hk (⟨ha,h⟩|⟨ha,h⟩)
  ·exact .inl ⟨ha,bc4 (fun v s ⟨c,k⟩=>⟨c,ih _ _ _ hk k⟩) h⟩
  ·exact .inr ⟨ha,ih _ _ _ hk h⟩
def jl4 (p x:gc9):Prop :=
 gc1 p.2.1 x.2.1/\(p.2.1.op.cls<=1/\p.2.2.2=0/\(p.2.1.op.cls=0\/x.2.1.op.cls<=1\/x.2.2.2.testBit p.1=true\/ea1 false p.2.1.op.kind x.2.1.op.kind=true) \/
  ¬ p.2.1.op.cls<=1/\ea1 false p.2.1.op.kind x.2.1.op.kind=true/\x.2.2.2=0/\(p.2.2.2=0\/x.2.1.op.cls<=1/\p.2.2.2.testBit x.1=false))
end Go.Id
namespace Go.Id
open Go
variable {P:Program} {w w' w'':World} {ρ ρ' ρ'':Rho} {E:Nat->IV} {σ σ':Store} {N n n':Nat} {fr:Frm} {a:Act} {pf:List Nat}
structure kg2 (P:Program) (pf:List Nat) (N:Nat) (ops:Array Oper) (anc:Nat->Nat->Prop) (base:Nat) (rem:List gc9) (listed:Array Bool):Prop where
 size:listed.size=ops.size
 un:∀ j,j<ops.size->(listed.getD j true=false↔∃ it∈rem,it.1=j)
 its:∀ it∈rem,∃ o,ops[it.1]? = za o/\cf6 P pf N ops o=za it.2.1/\it.2.2.1=base+it.1/\∀ y∈it.2.1.op.ops,IX.quiet y=true
 pw:rem.Pairwise fun p x=>(anc p.1 x.1\/jl4 p x)/\p.1≠x.1/\∀ o,ops[p.1]? = za o->∀ e∈o.after,Region.binds .any e=true->e.on≠x.1
 dc:∀ j,listed.getD j false=true->∀ k,anc k j->listed.getD k false=true
abbrev YO:=Nat×af7×Nat
def js8 (base:Nat)(l:List YO):List gc9:=l.map fun y=>(y.1,y.2.1,base+y.1,y.2.2)
end Go.Id
namespace Go.Id
open Go
variable {P:Program} {w w' w'':World} {ρ ρ' ρ'':Rho} {E:Nat->IV} {σ σ':Store} {N n n':Nat} {fr:Frm} {a:Act} {pf:List Nat}
inductive IC where
 | skip
 | reg (id:Nat) (ops:List af7) (keep:List Nat)
 | gw6 (id:Nat) (ops:List af7) (B:Bool) (keep:List Nat)
 | ix2 (id:Nat) (ops:List YO) (keep:List Nat)
 | seq (a b:IC)
 | cond (x:IX) (a b:IC)
 | block (id:Nat) (a:IC)
 | loop (a:IC)
 | exit (id:Nat)
 | ret
 | bm3 (g:IX) (ps:List Nat) (asg a:IC)
 | scope (a:IC)
 deriving Inhabited
abbrev Ann:=List (Nat×List Nat)
abbrev ih9:IC:=.reg 0 [⟨zg,zg,.st .nev []⟩] []
def be7 (P:Program)(pf:List Nat)(N:Nat)(an:Ann):Code->Option IC
 | .skip=>za .skip
 | .label _=>za .skip
 | .region id ops draw=>match draw,bv4 P pf N ops ops.toList with
  | false,za ios=>za (.reg id ios ((an.lookup id).getD []))
  | true,za ios=>if P.follows .mixedOrders=true/\jj7 (ops.toList.map bi3) ios (ea4 ios)=true/\(pf.contains 2000000&&ea4 ios)=false then za (.gw6 id ios (ea4 ios) ((an.lookup id).getD [])) else za ih9
  | _,_=>za ih9
 | .seq a b=>match be7 P pf N an a,be7 P pf N an b with
  | some x,za y=>za (.seq x y)
  | _,_=>zg
 | .cond c a b=>match aj7 c,be7 P pf N an a,be7 P pf N an b with
  | some i,za x,za y=>za (.cond i x y)
  | _,_,_=>za ih9
 | .block id a=>(be7 P pf N an a).map (.block id)
 | .loop a=>(be7 P pf N an a).map .loop
 | .exit id=>za (.exit id)
 | .ret=>za .ret
 | .rangeFunc g ps assign body=>match be7 P pf N an assign,aj7 g,be7 P pf N an body with
  | some y,za i,za x=>if ps.toList.all (fun p=>decide (p<N)) then za (.bm3 i ps.toList y x) else za ih9
  | _,_,_=>za ih9
 | .scope a=>(be7 P pf N an a).map .scope
 | _=>za ih9
def RI (P:Program)(E:Nat->IV)(N n0:Nat)(ic:IC)(fr:Frm)(σ:Store)(Q:Exit->Frm->Store->Prop):Prop :=
 ∀ (pf:List Nat) (an:Ann) (c:Code),be7 P pf N an c=za ic->R P E N n0 c fr σ Q
def wpI (P:Program)(E:Nat->IV)(N n0:Nat):IC->Frm->Store->(Exit->Frm->Store->Prop)->Prop
 | .skip,fr,σ,Q=>Q .normal fr σ
 | .reg _ ops keep,fr,σ,Q=>bz4 P E ops σ.next fr { σ with next:=σ.next+bz5 ops } (fun fr' σ'=>Q .normal (fr'.keep keep) σ')
 | .gw6 _ ops B keep,fr,σ,Q=>bw5 P E B (fh6 σ.next 0 ops) fr { σ with next:=σ.next+ops.length } (fun fr' σ'=>Q .normal (fr'.keep keep) σ')
 | .ix2 _ ops keep,fr,σ,Q=>fh9 P E (js8 σ.next ops) [] fr { σ with next:=σ.next+ops.length } (fun fr' σ'=>Q .normal (fr'.keep keep) σ')
 | .seq a b,fr,σ,Q=>wpI P E N n0 a fr σ (fun e fr' σ'=>match e with|.normal=>wpI P E N n0 b fr' σ' Q|e=>Q e fr' σ')
 | .cond x a b,fr,σ,Q=>∃ t,x.ev E fr=.bool t/\if t then wpI P E N n0 a fr σ Q else wpI P E N n0 b fr σ Q
 | .block id a,fr,σ,Q=>wpI P E N n0 a fr σ (bv3 id Q)
 | .loop a,fr,σ,Q=>RI P E N n0 (.loop a) fr σ Q
 | .exit id,fr,σ,Q=>Q (.exit id) fr σ
 | .ret,fr,σ,Q=>Q .ret fr σ
 | .bm3 g ps y a,fr,σ,Q=>RI P E N n0 (.bm3 g ps y a) fr σ Q
 | .scope a,fr,σ,Q=>wpI P E N n0 a fr σ (gb4 Q)
theorem ii1 {n0:Nat}{c:Code}{ks:List Nat}{Q:Exit->Frm->Store->Prop}(h:R P E N n0 c fr σ (fun e fr' σ'=>Q e (fr'.keep ks) σ')):R P E N n0 c fr σ Q :=
 fun hn ro h0 ρ w a hs hf hd hr=>wpIn_mono (h hn ro h0 ρ w a hs hf hd hr) fun _ _ _ ⟨fr',σ',ρ',hn',q,hs',hf',rest⟩=>⟨fr'.keep ks,σ',ρ',hn',q,hs',hf'.keep ks,rest⟩
theorem bf2 {n0:Nat}{Q:Exit->Frm->Store->Prop}(h:wpI P E N n0 ih9 fr σ Q):False:=by
 obtain ⟨act,ha,h⟩:=h;cases ha;obtain ⟨r,hr,_⟩:=h;cases hr
theorem gw4 {n0:Nat}{an:Ann}:∀ (c:Code) (ic:IC) (fr:Frm) (σ:Store) (Q:Exit->Frm->Store->Prop),be7 P pf N an c=za ic->wpI P E N n0 ic fr σ Q->R P E N n0 c fr σ Q:=by
 intro c
 induction c with
 | skip=>intro ic fr σ Q hc h; cases hc; exact iw8 h
 | label l=>intro ic fr σ Q hc h; cases hc; exact ih7 h
 | region id ops draw=>
  intro ic fr σ Q hc h;simp only[be7] at hc;split at hc
  ·rename_i ios hios;cases hc;exact ii1 (gy9 (Q:=fun e fr' σ'=>Q e (fr'.keep _) σ') hios h)
  ·rename_i ios hios;by_cases hok:P.follows .mixedOrders=true/\jj7 (ops.toList.map bi3) ios (ea4 ios)=true/\(pf.contains 2000000&&ea4 ios)=false
   ·rw[if_pos hok] at hc;cases hc;exact gc8 hok.1 hios hok.2.1 h
   ·rw[if_neg hok] at hc;cases hc; exact (bf2 h).elim
  ·cases hc; exact (bf2 h).elim
 | seq a b iha ihb=>
  intro ic fr σ Q hc h;simp only[be7] at hc;split at hc
  ·rename_i x y hx hy;cases hc;refine iw7 ((iha _ fr σ _ hx h).mono ?_);intro e fr' σ' q
   cases e with
   | normal=>exact ihb _ fr' σ' Q hy q
   | _=>exact q
  ·cases hc
 | cond c a b iha ihb=>
  intro ic fr σ Q hc h;simp only[be7] at hc;split at hc
  ·rename_i i x y hi hx hy;cases hc;obtain ⟨t,ht,h⟩:=h;refine ix1 hi ht ?_
   cases t with
   | true=>exact iha _ fr σ Q hx h
   | false=>exact ihb _ fr σ Q hy h
  ·cases hc; exact (bf2 h).elim
 | block id a ih=>
  intro ic fr σ Q hc h;obtain ⟨y,hy,he⟩:=map_some hc;cases he
  exact gb3 (ih _ fr σ _ hy h)
 | loop a ih=>
  intro ic fr σ Q hc h;have hc':=hc;obtain ⟨y,hy,he⟩:=map_some hc;cases he
  exact h pf an _ hc'
 | scope a ih=>
  intro ic fr σ Q hc h;obtain ⟨y,hy,he⟩:=map_some hc;cases he
  exact ih8 (ih _ fr σ _ hy h)
 | exit id=>intro ic fr σ Q hc h; cases hc; exact iw9 h
 | ret=>intro ic fr σ Q hc h; cases hc; exact jl2 h
 | rangeFunc g ps assign body _ _=>
  intro ic fr σ Q hc h;have hc':=hc;simp only[be7] at hc;split at hc
  ·split at hc
   ·cases hc;exact h pf an _ hc'
   ·cases hc; exact (bf2 h).elim
  ·cases hc; exact (bf2 h).elim
 | _=>intro ic fr σ Q hc h; cases hc; exact (bf2 h).elim
theorem bm2 {n0:Nat}(ic:IC)(fr:Frm)(σ:Store)(Q:Exit->Frm->Store->Prop)(h:wpI P E N n0 ic fr σ Q):RI P E N n0 ic fr σ Q :=
 fun pf an c hc=>gw4 (pf:=pf) (an:=an) c ic fr σ Q hc h
theorem gb5 {n0:Nat}{x:IC}{Q:Exit->Frm->Store->Prop}(I:Nat->Frm->Store->Prop)(m:Nat)(h:I m fr σ)(hI:∀ m fr σ,I m fr σ->wpI P E N n0 x fr σ (ek7 I m Q)):RI P E N n0 (.loop x) fr σ Q:=by
 intro pf an c hc
 cases c with
 | loop c=>
  obtain ⟨y,hy,he⟩:=map_some hc;cases he
  exact ia2 I m h (fun m fr σ hi=>bm2 _ _ _ _ (hI m fr σ hi) pf an _ hy)
 | region id ops draw=>
  exfalso;simp only[be7] at hc;split at hc
  ·cases hc
  ·split at hc<;>first|(cases hc; done)|(split at hc<;>cases hc)
  ·cases hc
 | seq a b=>simp only[be7] at hc; split at hc<;>cases hc
 | cond c a b=>simp only[be7] at hc; split at hc<;>cases hc
 | block id a=>obtain ⟨_,_,h⟩:=map_some hc; cases h
 | scope a=>obtain ⟨_,_,h⟩:=map_some hc; cases h
 | rangeFunc g ps assign body=>
  exfalso;simp only[be7] at hc;split at hc
  ·split at hc<;>cases hc
  ·cases hc
 | _=>cases hc
inductive JX where
 | ret
 | exit (i:Nat)
 deriving Inhabited
def JX.code:JX->Code
 | .ret=>.ret
 | .exit i=>.exit i
def ii2 (Q:Exit->Frm->Store->Prop)(fr:Frm)(σ:Store):Option JX->Prop
 | none=>Q .normal fr σ
 | some .ret=>Q .ret fr σ
 | some (.exit i)=>Q (.exit i) fr σ
def cw6 (id:Nat)(L:LoopState->Option JX->al8)(K:IV->Store->Prop):Exit->Frm->Store->Prop
 | .normal,_,σ=>σ.obj id=za (L .busy zg)/\K (.bool true) (σ.put id (L .ready zg))
 | .ret,_,σ=>σ.obj id=za (L .busy zg)/\K (.bool false) (σ.put id (L .done (za .ret)))
 | .exit i,_,σ=>σ.obj id=za (L .busy zg)/\K (.bool false) (σ.put id (L .done (za (.exit i))))
 | _,_,_=>False
theorem gw5 {n0:Nat}{g:IX}{ps:List Nat}{y x:IC}{Q:Exit->Frm->Store->Prop}
  (h:∀ L:LoopState->Option JX->al8,
   (∀ (σ':Store) (args:List IV) (K:IV->Store->Prop),args.length=ps.length->σ'.obj σ.next=za (L .ready zg) ->
    RI P E N σ'.next y (dc2 fr ps args) σ' (fun e f s=>e=.normal/\s.obj σ.next=za (L .ready zg)/\RI P E N σ'.next x f (s.put σ.next (L .busy zg)) (cw6 σ.next L K))->CYd P E σ.next args σ' K) ->
   CVf P E (g.ev E fr) [.yield σ.next] ⟨σ.next+1,(σ.put σ.next (L .ready zg)).obj⟩ fun _ σ2=>
    σ.next<=σ2.next/\∃ st pend,st≠.busy/\σ2.obj σ.next=za (L st pend)/\ii2 Q fr (σ2.kill σ.next) pend) :
  RI P E N n0 (.bm3 g ps y x) fr σ Q:=by
 intro pf an c hc
 cases c with
 | rangeFunc go psA assign body=>
  simp only[be7] at hc;split at hc
  ·rename_i ya i yb hasg hi hy;split at hc
   ·rename_i hall;cases hc;have hps:∀ p∈psA.toList,p<N:=fun p hp=>by simpa using zr.1 hall p hp
    have h':=h (fun s p=>.loop N fr psA.toList.toArray assign body s (p.map JX.code)) (fun σ' args K hl ho hR=>by
     refine ja8 hps hl ho ((hR pf an assign hasg).mono fun e f s q=>⟨q.1,q.2.1,(q.2.2 pf an body hy).mono fun e f s q=>?_⟩)
     cases e with
     | normal=>exact q
     | ret=>exact q
     | exit i=>exact q
     | _=>exact q.elim)
    exact el7 (n0:=n0) (Q:=Q) (ps:=psA.toList) (asg:=assign) (body:=body) (E:=E) (fr:=fr) (σ:=σ) (N:=N) hi (h'.mono (by
     rintro v s ⟨hn,st,pend,hst,hob,hq⟩;refine ⟨hn,st,pend.map JX.code,hst,hob,?_⟩
     cases pend with
     | none=>exact hq
     | some j=>cases j<;>exact hq))
   ·cases hc
  ·cases hc
 | region id ops draw=>
  exfalso;simp only[be7] at hc;split at hc
  ·cases hc
  ·split at hc<;>first|(cases hc; done)|(split at hc<;>cases hc)
  ·cases hc
 | seq a b=>simp only[be7] at hc; split at hc<;>cases hc
 | cond c a b=>simp only[be7] at hc; split at hc<;>cases hc
 | block id a=>obtain ⟨_,_,h⟩:=map_some hc; cases h
 | scope a=>obtain ⟨_,_,h⟩:=map_some hc; cases h
 | loop a=>obtain ⟨_,_,h⟩:=map_some hc; cases h
 | _=>cases hc
theorem be1 {n0:Nat}{x:IC}{Q Q':Exit->Frm->Store->Prop}(h:RI P E N n0 x fr σ Q)(hq:∀ e fr σ,Q e fr σ->Q' e fr σ):RI P E N n0 x fr σ Q' :=
 fun pf an c hc=>(h pf an c hc).mono hq
end Go.Id
