/- Regions whose order is open: which operations may be taken ahead of which. Conditions: none; over any program. -/
import Derived.Test.YtiplpeflonpcmaaGreatDoorFwR
import Derived.OrdersIn
open List renaming mem_cons_self→za,mem_cons_of_mem→zb,mem_append_left→zc,mem_cons→zg,mem_append→zh,mem_map→zi,pairwise_cons→zl,mem_append_right→zn,all_eq_true→zo,map_congr_left→zq,mem_flatMap→zr,mem_filter→zs,flatMap_append→zt,flatMap_cons→zu,Sublist→zv,eq_nil_iff_forall_not_mem→zx,nodup_iff_pairwise_ne→zy,getD_eq_getElem?_getD→zz,length_eq_zero_iff→z0,sublist_cons_self→z1,pairwise_append→z3,range→z4,append_of_mem→z5,pairwise_map→z6
open Option renaming some→zd,none→zk,map_some→zw
open Array renaming getElem?_eq_none→ze
open Bool renaming and_eq_true→zf,or_eq_true→zm
open Nat renaming lt_or_ge→zj,le_refl→zp
open Iff renaming rfl→z2
set_option linter.all false
private theorem om{P:Prop}(h:P:=by omega):P:=h
namespace Go.Id
open Go
variable {P:Program} {w w' w'':World} {ρ ρ' ρ'':Rho} {E:Nat->IV} {σ σ':Store} {N n n':Nat} {fr:Frm} {a:Act} {pf:List Nat}
def IQ.kind:IQ->Nat
 | .load _ _=>1
 | .len 0 _=>0
 | .len 1 _=>0
 | .len _ _=>6
 | .lkp _ _ _ _ _=>5
 | _=>0
def SK.kind:SK->Nat
 | .nev=>0
 | _=>6
def IK.kind:IK->Nat
 | .q u=>u.kind
 | .alloc _|.box _|.bsl _ _ _ _|.dd2 _ _ _=>2
 | .app _ _ _=>3
 | .bb6 _ _|.an5 _ _ _ _|.ck3 _=>0
 | .store _ _ _=>4
 | .st k _=>k.kind
 | _=>6
def IX.uses:IX->List Nat
 | .t n=>[n]
 | _=>[]
def IQ.ops:IQ->List IX
 | .mov x|.not x|.neg x|.aq4 _ _ x|.conv _ x|.ho7 x|.len _ x|.bg6 _ x|.fld _ _ x|.slz x|.ext _ x|.load _ x|.ldt _ x|.io5 x=>[x]
 | .pick c a b=>[c,a,b]
 | .bin _ x y|.eqs _ _ _ x y|.ej6 _ x y|.cw2 _ _ x y|.idx _ _ _ x y|.iv3 x y|.mm _ x y|.lkp _ _ _ x y|.ibs x y=>[x,y]
 | .slc _ x lo hi|.hk8 x lo hi=>x::(lo.toList++hi.toList)
 | .clp _ x lo hi mx=>[x,lo,hi,mx]
 | .mkf _ f c=>f++c
 | .bld _ ps=>ps.map (·.2.2)
def IK.ops:IK->List IX
 | .q u=>u.ops
 | .alloc _=>[]
 | .box x=>[x]
 | .bsl _ _ _ ps=>ps.map (·.2.2)
 | .store _ x y=>[x,y]
 | .app _ s x=>[s,x]
 | .cj9=>[]
 | .bn9 x|.dc9 x=>[x]
 | .ch7 _ x k v=>[x,k,v]
 | .call _ xs|.bb6 _ xs=>xs
 | .cw6 x xs=>x::xs
 | .an5 _ _ _ ps=>ps.map (·.2.2)
 | .ck3 x|.bf3 x|.ck4 x|.fs1 x|.dd2 _ _ x|.clr _ _ x=>[x]
 | .st _ xs=>xs
def ae4.uses (o:ae4):List Nat:=(o.op.ops.flatMap IX.uses)++(match o.guard with|some (s,_)=>[s]|none=>[])
def FEq (fr fr':Frm):Prop:=∀ t,fr.get t=fr'.get t
theorem FEq.refl (fr:Frm):FEq fr fr:=fun _=>rfl
theorem ah5 {fr fr':Frm}{x:IX}(h:∀ t∈x.uses,fr.get t=fr'.get t):x.ev E fr=x.ev E fr':=by
 cases x with
 | t n=>exact h n (by simp[IX.uses])
 | _=>rfl
theorem az7 {fr fr':Frm}{xs:List IX}(h:∀ t∈xs.flatMap IX.uses,fr.get t=fr'.get t):xs.map (·.ev E fr)=xs.map (·.ev E fr'):=
 zq fun x hx=>ah5 fun t ht=>h t (zr.2 ⟨x,hx,ht⟩)
theorem cc9 {fr fr':Frm}{x:Option IX}(h:∀ t∈x.toList.flatMap IX.uses,fr.get t=fr'.get t):x.map (·.ev E fr)=x.map (·.ev E fr'):=by
 cases x with
 | none=>rfl
 | some x=>simp only[zw]; rw[ah5 (fun t ht=>h t (by simpa using ht))]
theorem au5 {fr fr':Frm}{ps:List (Nat×Nat×IX)}(h:∀ t∈(ps.map (·.2.2)).flatMap IX.uses,fr.get t=fr'.get t) :
  (ps.map fun p=>(p.1,p.2.1,p.2.2.ev E fr))=ps.map fun p=>(p.1,p.2.1,p.2.2.ev E fr'):=
 zq fun p hp=>by
  have:p.2.2.ev E fr=p.2.2.ev E fr':=ah5 fun t ht=>h t (zr.2 ⟨p.2.2,zi.2 ⟨p,hp,rfl⟩,ht⟩)
  rw[this]
theorem gl1 {fr fr':Frm}{q:IQ}(h:∀ t∈q.ops.flatMap IX.uses,fr.get t=fr'.get t):evq E fr σ q=evq E fr' σ q:=by
 cases q with
 | mkf f fs cs=>
  simp only[IQ.ops,zt,zh] at h;simp only[evq]
  rw[az7 (fun t ht=>h t (.inl ht)),az7 (fun t ht=>h t (.inr ht))]
 | bld z ps=>simp only[evq]; rw[au5 h]
 | slc e x lo hi=>
  simp only[IQ.ops,zu,zt,zh] at h;simp only[evq]
  rw[ah5 (x:=x) (fun t ht=>h t (.inl ht)),cc9 (x:=lo) (fun t ht=>h t (.inr (.inl ht))),cc9 (x:=hi) (fun t ht=>h t (.inr (.inr ht)))]
 | hk8 x lo hi=>
  simp only[IQ.ops,zu,zt,zh] at h;simp only[evq]
  rw[ah5 (x:=x) (fun t ht=>h t (.inl ht)),cc9 (x:=lo) (fun t ht=>h t (.inr (.inl ht))),cc9 (x:=hi) (fun t ht=>h t (.inr (.inr ht)))]
 | clp e x lo hi mx=>
  simp only[evq]
  rw[ah5 (x:=x) (fun t ht=>h t (by simp[IQ.ops,ht])),ah5 (x:=lo) (fun t ht=>h t (by simp[IQ.ops,ht])),ah5 (x:=hi) (fun t ht=>h t (by simp[IQ.ops,ht])),ah5 (x:=mx) (fun t ht=>h t (by simp[IQ.ops,ht]))]
 | pick c x y=>
  simp only[evq]
  rw[ah5 (x:=c) (fun t ht=>h t (by simp[IQ.ops,ht])),ah5 (x:=x) (fun t ht=>h t (by simp[IQ.ops,ht])),ah5 (x:=y) (fun t ht=>h t (by simp[IQ.ops,ht]))]
 | bin op x y=>simp only[evq]; rw[ah5 (x:=x) (fun t ht=>h t (by simp[IQ.ops,ht])),ah5 (x:=y) (fun t ht=>h t (by simp[IQ.ops,ht]))]
 | eqs a b c x y=>simp only[evq]; rw[ah5 (x:=x) (fun t ht=>h t (by simp[IQ.ops,ht])),ah5 (x:=y) (fun t ht=>h t (by simp[IQ.ops,ht]))]
 | ej6 a x y=>simp only[evq]; rw[ah5 (x:=x) (fun t ht=>h t (by simp[IQ.ops,ht])),ah5 (x:=y) (fun t ht=>h t (by simp[IQ.ops,ht]))]
 | cw2 a b x y=>simp only[evq]; rw[ah5 (x:=x) (fun t ht=>h t (by simp[IQ.ops,ht])),ah5 (x:=y) (fun t ht=>h t (by simp[IQ.ops,ht]))]
 | idx a b c x y=>simp only[evq]; rw[ah5 (x:=x) (fun t ht=>h t (by simp[IQ.ops,ht])),ah5 (x:=y) (fun t ht=>h t (by simp[IQ.ops,ht]))]
 | lkp a b c x y=>simp only[evq]; rw[ah5 (x:=x) (fun t ht=>h t (by simp[IQ.ops,ht])),ah5 (x:=y) (fun t ht=>h t (by simp[IQ.ops,ht]))]
 | mm a x y=>simp only[evq]; rw[ah5 (x:=x) (fun t ht=>h t (by simp[IQ.ops,ht])),ah5 (x:=y) (fun t ht=>h t (by simp[IQ.ops,ht]))]
 | ibs x y=>simp only[evq]; rw[ah5 (x:=x) (fun t ht=>h t (by simp[IQ.ops,ht])),ah5 (x:=y) (fun t ht=>h t (by simp[IQ.ops,ht]))]
 | iv3 x y=>simp only[evq]; rw[ah5 (x:=x) (fun t ht=>h t (by simp[IQ.ops,ht])),ah5 (x:=y) (fun t ht=>h t (by simp[IQ.ops,ht]))]
 | _=>simp only[evq]; rw[ah5 (fun t ht=>h t (by simp[IQ.ops,ht]))]
theorem hr5 {q:IQ}(h:q.kind=0):evq E fr σ q=evq E fr σ' q:=by
 cases q with
 | load a x=>simp[IQ.kind] at h
 | lkp a b c x y=>simp[IQ.kind] at h
 | len k x=>
  simp only[evq]
  match k,h with
  | 0,_=>unfold cc5; split<;>first|rfl|simp_all [hj9]
  | 1,_=>unfold cc5; split<;>first|rfl|simp_all [hj9]
  | k+2,h=>simp[IQ.kind] at h
 | _=>rfl
def bs9 (P:Program)(E:Nat->IV)(op:IK)(id:Nat)(fr:Frm)(σ:Store)(v:IV)(σ':Store):Prop :=
 match op with
 | .q q=>evq E fr σ q=zd v/\σ'=σ
 | .alloc z=>v=.ptr id 0/\σ'=σ.put id (.cells z)
 | .box x=>(x.ev E fr).cs.all IV.leaf=true/\v=.ptr id 0/\σ'=σ.put id (.cells (x.ev E fr).cs)
 | .bsl esz n z parts=>∃ out,au4 (rep z n) (parts.map fun p=>(p.1,p.2.1,p.2.2.ev E fr))=zd out/\v=.slice id 0 n esz/\σ'=σ.put id (.row out)
 | .app esz s x=>be9 σ id esz (s.ev E fr) (x.ev E fr)=zd (v,σ')
 | .store sz x y=>aq5 σ sz (x.ev E fr) (y.ev E fr)=zd σ'/\v=.undef
 | .bb6 f args=>PC P E f (args.map (·.ev E fr)) v/\σ'=σ
 | .an5 esz n z parts=>∃ out,au4 (rep z n) (parts.map fun p=>(p.1,p.2.1,p.2.2.ev E fr))=zd out/\v=.aa4 (chunk esz n out)/\σ'=σ
 | .ck3 x=>(x.ev E fr).cs.all IV.leaf=true/\v=.ab9 (x.ev E fr).cs/\σ'=σ
 | .dd2 esz z x=>∃ n,db5 (x.ev E fr)=zd n/\v=.slice id 0 n esz/\σ'=σ.put id (.row (rep z n))
 | _=>False
theorem bd4 {op:IK}{id:Nat}{K:IV->Store->Prop}(hk:op.kind<=5):opR P E op id fr σ K↔∃ v σ',bs9 P E op id fr σ v σ'/\K v σ':=by
 cases op with
 | q q=>exact ⟨fun ⟨v,h,k⟩=>⟨v,σ,⟨h,rfl⟩,k⟩,fun ⟨v,_,⟨h,e⟩,k⟩=>by subst e; exact ⟨v,h,k⟩⟩
 | alloc z=>exact ⟨fun k=>⟨_,_,⟨rfl,rfl⟩,k⟩,fun ⟨_,_,⟨e1,e2⟩,k⟩=>by subst e1; subst e2; exact k⟩
 | box x=>exact ⟨fun ⟨h,k⟩=>⟨_,_,⟨h,rfl,rfl⟩,k⟩,fun ⟨_,_,⟨h,e1,e2⟩,k⟩=>by subst e1; subst e2; exact ⟨h,k⟩⟩
 | bsl e n z ps=>exact ⟨fun ⟨out,h,k⟩=>⟨_,_,⟨out,h,rfl,rfl⟩,k⟩,fun ⟨_,_,⟨out,h,e1,e2⟩,k⟩=>by subst e1; subst e2; exact ⟨out,h,k⟩⟩
 | app e s x=>exact ⟨fun ⟨r,h,k⟩=>⟨r.1,r.2,h,k⟩,fun ⟨v,σ',h,k⟩=>⟨(v,σ'),h,k⟩⟩
 | store e x y=>exact ⟨fun ⟨s,h,k⟩=>⟨_,s,⟨h,rfl⟩,k⟩,fun ⟨v,s,⟨h,e⟩,k⟩=>by subst e; exact ⟨s,h,k⟩⟩
 | bb6 f xs=>exact ⟨fun ⟨v,h,k⟩=>⟨v,σ,⟨h,rfl⟩,k⟩,fun ⟨v,_,⟨h,e⟩,k⟩=>by subst e; exact ⟨v,h,k⟩⟩
 | an5 e n z ps=>exact ⟨fun ⟨out,h,k⟩=>⟨_,_,⟨out,h,rfl,rfl⟩,k⟩,fun ⟨_,_,⟨out,h,e1,e2⟩,k⟩=>by subst e1; subst e2; exact ⟨out,h,k⟩⟩
 | dd2 e z x=>exact ⟨fun ⟨n,h,k⟩=>⟨_,_,⟨n,h,rfl,rfl⟩,k⟩,fun ⟨_,_,⟨n,h,e1,e2⟩,k⟩=>by subst e1; subst e2; exact ⟨n,h,k⟩⟩
 | ck3 x=>exact ⟨fun ⟨h,k⟩=>⟨_,_,⟨h,rfl,rfl⟩,k⟩,fun ⟨_,_,⟨h,e1,e2⟩,k⟩=>by subst e1; subst e2; exact ⟨h,k⟩⟩
 | st k xs=>cases k with
  | nev=>exact ⟨fun ⟨r,h,_⟩=>by (cases h),fun ⟨_,_,h,_⟩=>h.elim⟩
  | _=>exact absurd hk (by simp[IK.kind,SK.kind])
 | _=>exact absurd hk (by simp[IK.kind])
theorem bp7 {op:IK}{id:Nat}{fr fr':Frm}{v:IV}(h:∀ t∈op.ops.flatMap IX.uses,fr.get t=fr'.get t):bs9 P E op id fr σ v σ'->bs9 P E op id fr' σ v σ':=by
 cases op with
 | q q=>simp only[bs9]; rw[gl1 h]; exact fun h=>h
 | alloc z=>exact fun h=>h
 | box x=>simp only[bs9]; rw[ah5 (x:=x) (fun t ht=>h t (by simp[IK.ops,ht]))]; exact fun h=>h
 | bsl e n z ps=>simp only[bs9]; rw[au5 h]; exact fun h=>h
 | app e s x=>simp only[bs9]; rw[ah5 (x:=s) (fun t ht=>h t (by simp[IK.ops,ht])),ah5 (x:=x) (fun t ht=>h t (by simp[IK.ops,ht]))]; exact fun h=>h
 | store e x y=>simp only[bs9]; rw[ah5 (x:=x) (fun t ht=>h t (by simp[IK.ops,ht])),ah5 (x:=y) (fun t ht=>h t (by simp[IK.ops,ht]))]; exact fun h=>h
 | bb6 f xs=>simp only[bs9]; rw[az7 (xs:=xs) h]; exact fun h=>h
 | an5 e n z ps=>simp only[bs9]; rw[au5 h]; exact fun h=>h
 | dd2 e z x=>simp only[bs9]; rw[ah5 (x:=x) (fun t ht=>h t (by simp[IK.ops,ht]))]; exact fun h=>h
 | ck3 x=>simp only[bs9]; rw[ah5 (x:=x) (fun t ht=>h t (by simp[IK.ops,ht]))]; exact fun h=>h
 | _=>exact fun h=>h
def bo6 (id:Nat):IV->Prop
 | .ptr i _|.slice i _ _ _|.map i|.ag4 i _ _ _|.ak5 i _ _ _ _=>i≠id
 | _=>True
theorem fe8 {id:Nat}{v:IV}{r:Value}(hv:VR ρ w v r)(h:ρ id=.no):bo6 id v:=by
 cases hv<;>simp only[bo6]<;>first|trivial|(intro e; subst e; simp_all)
theorem put_comm (i j:Nat)(x y:aj5)(h:i≠j):(σ.put i x).put j y=(σ.put j y).put i x:=by
 unfold Store.put;congr 1;funext k;simp only;split
 ·rename_i h1;split
  ·rename_i h2; exact absurd (h2.symm.trans h1) h
  ·rfl
 ·rfl
theorem ag3 {id i:Nat}{o:aj5}(h:i≠id):(σ.put id o).obj i=σ.obj i:=by simp[Store.put,h]
theorem gl2 {tag id:Nat}{ob:aj5}{zero x k:IV}{ok:Bool}(h:bo6 id x):cc3 (σ.put id ob) tag zero ok x k=cc3 σ tag zero ok x k:=by
 have:bz3 (σ.put id ob) x=bz3 σ x:=by
  cases x<;>try rfl
  simp only[bz3,ag3 h]
 unfold cc3;rw[this]
theorem gl3 {tag id:Nat}{zero x k v:IV}{ok:Bool}(hn:σ.obj id=zk)(h:cc3 σ tag zero ok x k=zd v):bo6 id x:=by
 cases x<;>simp only[bo6]<;>try trivial
 all_goals (intro e; subst e; simp[cc3,bz3,hn] at h)
theorem fe9 {agg:Option Nat}{id:Nat}{ob:aj5}{ad:IV}(h:bo6 id ad):az4 (σ.put id ob) agg ad=az4 σ agg ad:=by
 have:aq2 (σ.put id ob) ad=aq2 σ ad:=by
  cases ad<;>simp only[aq2];rename_i i off;rw[ag3 h]
 unfold az4;rw[this]
theorem fq5 {agg:Option Nat}{id:Nat}{ad v:IV}(hn:σ.obj id=zk)(h:az4 σ agg ad=zd v):bo6 id ad:=by
 cases ad with
 | ptr i off=>
  intro e;subst e
  simp[az4,aq2,hn] at h
 | slice i o l e=>simp[az4,aq2] at h
 | _=>trivial
theorem iw5 {id2 esz:Nat}{ob:aj5}{x:IV}(hx:bo6 id2 x):ci8 (σ.put id2 ob) esz x=ci8 σ esz x:=by
 cases x<;>simp only[ci8]
 all_goals (rename_i i o l e; rw[ag3 hx])
theorem hr6 {id2 did:Nat}{ob:aj5}(h:did≠id2):(σ.put id2 ob).kill did=(σ.kill did).put id2 ob:=by
 unfold Store.put Store.kill;congr 1;funext k;simp only;split
 ·rename_i h1;split
  ·rename_i h2; exact absurd (h1.symm.trans h2) h
  ·rfl
 ·rfl
theorem dm4 {id id2 esz:Nat}{ob:aj5}{s x:IV}(hs:bo6 id2 s)(hx:bo6 id2 x)(hne:id2≠id) :
  be9 (σ.put id2 ob) id esz s x=(be9 σ id esz s x).map fun r=>(r.1,r.2.put id2 ob):=by
 unfold be9;rw[iw5 hx]
 cases ci8 σ esz x with
 | none=>rfl
 | some p=>
  obtain ⟨n,xs⟩:=p;simp only;split
  ·rfl
  ·cases s with
   | aa1=>
    simp only;split
    ·rfl
    ·split
     ·simp[put_comm id2 id _ _ hne]
     ·rfl
   | ac6=>
    simp only;split
    ·rfl
    ·split
     ·simp[put_comm id2 id _ _ hne]
     ·rfl
   | aa4 es=>simp only; split<;>rfl
   | slice did off len e=>
    simp only;have hd:did≠id2:=hs;rw[ag3 hd]
    cases σ.obj did with
    | none=>rfl
    | some o=>
     cases o with
     | row cs=>
      simp only;split
      ·rfl
      ·split
       ·simp[hr6 hd,put_comm id2 id _ _ hne]
       ·rfl
     | _=>rfl
   | ag4 did off len e=>
    simp only;have hd:did≠id2:=hs;rw[ag3 hd]
    cases σ.obj did with
    | none=>rfl
    | some o=>
     cases o with
     | row cs=>
      simp only;split
      ·rfl
      ·split
       ·simp[put_comm id2 id _ _ hne]
       ·rfl
     | _=>rfl
   | _=>rfl
theorem gl4 {id id2 esz:Nat}{s x v:IV}(hn:σ.obj id2=zk)(h:be9 σ id esz s x=zd (v,σ')):bo6 id2 s/\bo6 id2 x:=by
 unfold be9 at h;split at h
 ·cases h
 ·rename_i n xs hsrc;constructor
  ·split at h
   ·cases h
   ·split at h<;>first|trivial|skip
    ·rename_i did off len e;intro e2;subst e2;rw[hn] at h;simp at h
    ·rename_i did off len e;intro e2;subst e2;rw[hn] at h;simp at h
  ·cases x with
   | slice i o l e=>
    intro e2;subst e2
    simp[ci8,hn] at hsrc
   | ag4 i o l e=>
    intro e2;subst e2
    simp[ci8,hn] at hsrc
   | ptr i o=>simp[ci8] at hsrc
   | _=>trivial
theorem cd1 {id esz:Nat}{s x v:IV}(hn:σ.obj id=zk)(h:be9 σ id esz s x=zd (v,σ'))(i:Nat)(cs:List IV):σ.obj i=zd (.cells cs)↔σ'.obj i=zd (.cells cs):=by
 have put:∀ (σ:Store) (l:List IV),σ.obj id=zk->(σ.obj i=zd (.cells cs)↔(σ.put id (.row l)).obj i=zd (.cells cs)):=by
  intro σ l hn;by_cases hi:i=id
  ·subst hi; simp[Store.put,hn]
  ·rw[ag3 hi]
 unfold be9 at h;split at h
 ·cases h
 ·split at h
  ·cases h
  ·split at h
   ·split at h
    ·cases h; exact z2
    ·split at h
     ·cases h; exact put σ _ hn
     ·cases h
   ·split at h
    ·cases h; exact z2
    ·split at h
     ·cases h; exact put σ _ hn
     ·cases h
   ·split at h
    ·cases h; exact z2
    ·cases h
   ·rename_i did off len e;split at h
    ·rename_i cs' hd;split at h
     ·cases h; exact z2
     ·split at h
      ·cases h;have hk:(σ.kill did).obj id=zk:=by simp[Store.kill,hn]
       refine Iff.trans ?_ (put (σ.kill did) _ hk);by_cases hi:i=did
       ·subst hi; simp[Store.kill,hd]
       ·simp[Store.kill,hi]
      ·cases h
    ·cases h
   ·rename_i did off len e;split at h
    ·rename_i cs' hd;split at h
     ·cases h; exact z2
     ·split at h
      ·cases h; exact put σ _ hn
      ·cases h
    ·cases h
   ·cases h
end Go.Id
namespace Go.Id
open Go
variable {P:Program} {w w' w'':World} {ρ ρ' ρ'':Rho} {E:Nat->IV} {σ σ':Store} {N n n':Nat} {fr:Frm} {a:Act} {pf:List Nat}
def bg8 (E:Nat->IV)(fr:Frm)(σ:Store):IK->Prop
 | .q (.load _ x)=>match x.ev E fr with
  | .ab9 _=>True
  | .ptr i _=>∃ cs,σ.obj i=zd (.cells cs)
  | _=>False
 | _=>True
def jy4 (P:Program)(E:Nat->IV)(B act:Bool)(op:IK)(id:Nat)(fr:Frm)(σ:Store)(v:IV)(σ':Store):Prop :=
 if act then bs9 P E op id fr σ v σ'/\(B=true->bg8 E fr σ op) else v=skV/\σ'=σ
def ff1 (B:Bool)(i j:Nat):Bool :=
 i==0&&j<=5||j==0&&i<=5||i==1&&j==1||i==1&&j==2||i==2&&j==2||i==3&&j==2||B&&i==1&&j==3||B&&i==3&&j==1||i==2&&j==1||i==2&&j==3||i==1&&j==5||i==5&&j==1||i==5&&j==5||i==5&&j==2||i==2&&j==5
def db9 (B:Bool)(i j:Nat):Bool:=ff1 B i j||i==2&&j==4||i==4&&j==2
theorem fq6 {q:IQ}(h:q.kind=1):∃ ag x,q=.load ag x:=by
 cases q with
 | load ag x=>exact ⟨ag,x,rfl⟩
 | len k x=>
  exfalso
  match k,h with
  | 0,h=>simp[IQ.kind] at h
  | 1,h=>simp[IQ.kind] at h
  | k+2,h=>simp[IQ.kind] at h
 | _=>simp[IQ.kind] at h
theorem fq7 {op:IK}(h:op.kind=1):∃ ag x,op=.q (.load ag x):=by
 cases op with
 | q q=>obtain ⟨ag,x,rfl⟩:=fq6 h; exact ⟨ag,x,rfl⟩
 | st k xs=>cases k<;>simp[IK.kind,SK.kind] at h
 | _=>simp[IK.kind] at h
theorem bz7 (q:IQ):q.kind=0\/q.kind=1\/q.kind=5\/q.kind=6:=by
 cases q with
 | load ag x=>simp[IQ.kind]
 | len k x=>
  match k with
  | 0=>simp[IQ.kind]
  | 1=>simp[IQ.kind]
  | k+2=>simp[IQ.kind]
 | _=>simp[IQ.kind]
theorem jk8 {op:IK}(h:op.kind=1\/op.kind=5):∃ q,op=.q q:=by
 cases op with
 | q q=>exact ⟨q,rfl⟩
 | st k xs=>cases k<;>simp[IK.kind,SK.kind] at h
 | _=>simp[IK.kind] at h
theorem jk9 {op:IK}(h:op.kind=5):∃ t z ok x k,op=.q (.lkp t z ok x k):=by
 cases op with
 | q q=>
  cases q with
  | lkp t z ok x k=>exact ⟨t,z,ok,x,k,rfl⟩
  | len k x=>
   exfalso
   match k,h with
   | 0,h=>simp[IK.kind,IQ.kind] at h
   | 1,h=>simp[IK.kind,IQ.kind] at h
   | k+2,h=>simp[IK.kind,IQ.kind] at h
  | _=>simp[IK.kind,IQ.kind] at h
 | st k xs=>cases k<;>simp[IK.kind,SK.kind] at h
 | _=>simp[IK.kind] at h
theorem hr7 {op:IK}(h:op.kind=3):∃ e s x,op=.app e s x:=by
 cases op with
 | q q=>rcases bz7 q with h'|h'|h'|h'<;>simp[IK.kind,h'] at h
 | app e s x=>exact ⟨e,s,x,rfl⟩
 | st k xs=>cases k<;>simp[IK.kind,SK.kind] at h
 | _=>simp[IK.kind] at h
theorem jl1 {op:IK}(h:op.kind=4):∃ e a y,op=.store e a y:=by
 cases op with
 | q q=>rcases bz7 q with h'|h'|h'|h'<;>simp[IK.kind,h'] at h
 | store e a y=>exact ⟨e,a,y,rfl⟩
 | st k xs=>cases k<;>simp[IK.kind,SK.kind] at h
 | _=>simp[IK.kind] at h
theorem ek4 {id sz:Nat}{ob:aj5}{a v:IV}(h:bo6 id a):aq5 (σ.put id ob) sz a v=(aq5 σ sz a v).map (·.put id ob):=by
 cases a with
 | ptr i off=>
  have hi:i≠id:=h;simp only[aq5,ag3 hi]
  cases hc:σ.obj i with
  | none=>rfl
  | some o=>
   cases o with
   | cells cs=>
    simp only;split
    ·simp only[zw]; rw[put_comm id i _ _ (fun e=>hi e.symm)]
    ·rfl
   | row cs=>
    simp only;split
    ·simp only[zw]; rw[put_comm id i _ _ (fun e=>hi e.symm)]
    ·rfl
   | _=>rfl
 | _=>rfl
theorem eu5 {id sz:Nat}{a v:IV}(hn:σ.obj id=zk)(h:aq5 σ sz a v=zd σ'):bo6 id a:=by
 cases a with
 | ptr i off=>intro e; subst e; simp[aq5,hn] at h
 | slice i o l e=>simp[aq5] at h
 | map i=>simp[aq5] at h
 | ag4 i o l e=>simp[aq5] at h
 | ak5 i o l r e=>simp[aq5] at h
 | _=>trivial
theorem cd2 {op:IK}{id:Nat}{v:IV}(hk:op.kind=0)(h:bs9 P E op id fr σ v σ'):σ'=σ/\∀ σ2,bs9 P E op id fr σ2 v σ2:=by
 cases op with
 | q q=>exact ⟨h.2,fun σ2=>⟨by rw[hr5 (σ':=σ) hk]; exact h.1,rfl⟩⟩
 | bb6 f xs=>exact ⟨h.2,fun σ2=>⟨h.1,rfl⟩⟩
 | an5 e n z ps=>obtain ⟨out,h1,h2,h3⟩:=h; exact ⟨h3,fun _=>⟨out,h1,h2,rfl⟩⟩
 | ck3 x=>obtain ⟨h1,h2,h3⟩:=h; exact ⟨h3,fun _=>⟨h1,h2,rfl⟩⟩
 | st k xs=>exact h.elim
 | _=>simp[IK.kind] at hk
theorem as4 {op:IK}{id:Nat}{v:IV}(hk:op.kind=2)(h:bs9 P E op id fr σ v σ'):∃ ob,σ'=σ.put id ob/\∀ σ2,bs9 P E op id fr σ2 v (σ2.put id ob):=by
 cases op with
 | q q=>rcases bz7 q with h'|h'|h'|h'<;>simp[IK.kind,h'] at hk
 | alloc z=>exact ⟨_,h.2,fun σ2=>⟨h.1,rfl⟩⟩
 | box x=>exact ⟨_,h.2.2,fun σ2=>⟨h.1,h.2.1,rfl⟩⟩
 | bsl e n z ps=>obtain ⟨out,h1,h2,h3⟩:=h; exact ⟨_,h3,fun σ2=>⟨out,h1,h2,rfl⟩⟩
 | dd2 e z x=>obtain ⟨n,h1,h2,h3⟩:=h; exact ⟨_,h3,fun σ2=>⟨n,h1,h2,rfl⟩⟩
 | st k xs=>exact h.elim
 | _=>simp[IK.kind] at hk
theorem cd3 {op:IK}{fr fr':Frm}(h:∀ t∈op.ops.flatMap IX.uses,fr.get t=fr'.get t):bg8 E fr σ op->bg8 E fr' σ op:=by
 cases op with
 | q q=>
  cases q with
  | load ag x=>simp only[bg8]; rw[ah5 (x:=x) (fun t ht=>h t (by simp[IK.ops,IQ.ops,ht]))]; exact fun h=>h
  | _=>exact fun h=>h
 | _=>exact fun h=>h
theorem cj3 {op:IK}{σ2:Store}(h:∀ i cs,σ.obj i=zd (.cells cs)->∃ cs',σ2.obj i=zd (.cells cs')):bg8 E fr σ op->bg8 E fr σ2 op:=by
 cases op with
 | q q=>
  cases q with
  | load ag x=>
   simp only[bg8];split
   ·exact fun h=>h
   ·rintro ⟨cs,hc⟩; exact h _ cs hc
   ·exact fun h=>h
  | _=>exact fun h=>h
 | _=>exact fun h=>h
theorem al1 {op:IK}{σ2:Store}(hk:op.kind≠1):bg8 E fr σ2 op:=by
 cases op with
 | q q=>
  cases q with
  | load ag x=>exact absurd rfl hk
  | _=>trivial
 | _=>trivial
theorem ea1 {B:Bool}{p x:IK}{ip ix:Nat}{fr1 fr2:Frm}{σ1 σ2:Store}{vp vx:IV}(hp:bs9 P E p ip fr σ vp σ1)(hpb:B=true->bg8 E fr σ p)(hx:bs9 P E x ix fr1 σ1 vx σ2)(hxb:B=true->bg8 E fr1 σ1 x)
  (hfree:db9 B p.kind x.kind=true) (hfx:∀ t∈x.ops.flatMap IX.uses,fr1.get t=fr.get t) (hfp:∀ t∈p.ops.flatMap IX.uses,fr.get t=fr2.get t)
  (hne:ip≠ix) (hnp:σ.obj ip=zk) (hnx:σ.obj ix=zk) (hH:p.kind=2->∀ y∈x.ops,bo6 ip (y.ev E fr)) :
  ∃ σ1',bs9 P E x ix fr σ vx σ1'/\(B=true->bg8 E fr σ x)/\bs9 P E p ip fr2 σ1' vp σ2/\(B=true->bg8 E fr2 σ1' p):=by
 have hx':=bp7 hfx hx;have hxb':B=true->bg8 E fr σ1 x:=fun hb=>cd3 hfx (hxb hb)
 have hp':∀ {s s' v},bs9 P E p ip fr s v s'->bs9 P E p ip fr2 s v s':=fun h=>bp7 hfp h
 have hpb':∀ {s},bg8 E fr s p->bg8 E fr2 s p:=fun h=>cd3 hfp h
 by_cases kp0:p.kind=0
 ·obtain ⟨rfl,hall⟩:=cd2 kp0 hp;exact ⟨σ2,hx',hxb',hp' (hall σ2),fun _=>hpb' (al1 om)⟩
 by_cases kx0:x.kind=0
 ·obtain ⟨rfl,hall⟩:=cd2 kx0 hx';exact ⟨σ,hall σ,fun _=>al1 om,hp' hp,fun hb=>hpb' (hpb hb)⟩
 by_cases n1:p.kind=2/\x.kind=4
 ·obtain ⟨k1,k2⟩:=n1;obtain ⟨ob,rfl,hall⟩:=as4 k1 hp;obtain ⟨e,a,y,rfl⟩:=jl1 k2;have r1:=hH k1 a (by simp[IK.ops]);simp only[bs9] at hx';obtain ⟨hx1,rfl⟩:=hx';rw[ek4 r1] at hx1;obtain ⟨s,h1,rfl⟩:=map_some hx1;exact ⟨s,⟨h1,rfl⟩,fun _=>trivial,hp' (hall s),fun _=>al1 om⟩
 by_cases n2:p.kind=4/\x.kind=2
 ·obtain ⟨k1,k2⟩:=n2;obtain ⟨e,a,y,rfl⟩:=jl1 k1;obtain ⟨ob,rfl,hall⟩:=as4 k2 hx';obtain ⟨h1,rfl⟩:=hp;refine ⟨σ.put ix ob,hall σ,fun _=>al1 om,hp' ⟨?_,rfl⟩,fun _=>trivial⟩;rw[ek4 (eu5 hnx h1),h1];rfl
 have hfree:ff1 B p.kind x.kind=true:=by
  unfold db9 at hfree;simp only[zm,zf,beq_iff_eq] at hfree;rcases hfree with (h|h)|h
  ·exact h
  ·exact absurd h n1
  ·exact absurd h n2
 have hcases:(p.kind=1/\x.kind=1)\/(p.kind=1/\x.kind=2)\/(p.kind=2/\x.kind=2)\/(p.kind=3/\x.kind=2)\/(B=true/\p.kind=1/\x.kind=3)\/(B=true/\p.kind=3/\x.kind=1)\/(p.kind=2/\x.kind=1)\/(p.kind=2/\x.kind=3)\/((p.kind=1\/p.kind=5)/\(x.kind=1\/x.kind=5))\/(p.kind=5/\x.kind=2)\/(p.kind=2/\x.kind=5):=by
  unfold ff1 at hfree;simp only[zm,zf,beq_iff_eq,decide_eq_true_eq] at hfree;rcases hfree with ((((((((((((((h|h)|h)|h)|h)|h)|h)|h)|h)|h)|h)|h)|h)|h)|h)
  ·exact absurd h.1 kp0
  ·exact absurd h.1 kx0
  ·exact .inl h
  ·exact .inr (.inl h)
  ·exact .inr (.inr (.inl h))
  ·exact .inr (.inr (.inr (.inl h)))
  ·exact .inr (.inr (.inr (.inr (.inl ⟨h.1.1,h.1.2,h.2⟩))))
  ·exact .inr (.inr (.inr (.inr (.inr (.inl ⟨h.1.1,h.1.2,h.2⟩)))))
  ·exact .inr (.inr (.inr (.inr (.inr (.inr (.inl h))))))
  ·exact .inr (.inr (.inr (.inr (.inr (.inr (.inr (.inl h)))))))
  ·exact .inr (.inr (.inr (.inr (.inr (.inr (.inr (.inr (.inl ⟨.inl h.1,.inr h.2⟩))))))))
  ·exact .inr (.inr (.inr (.inr (.inr (.inr (.inr (.inr (.inl ⟨.inr h.1,.inl h.2⟩))))))))
  ·exact .inr (.inr (.inr (.inr (.inr (.inr (.inr (.inr (.inl ⟨.inr h.1,.inr h.2⟩))))))))
  ·exact .inr (.inr (.inr (.inr (.inr (.inr (.inr (.inr (.inr (.inl h)))))))))
  ·exact .inr (.inr (.inr (.inr (.inr (.inr (.inr (.inr (.inr (.inr h)))))))))
 rcases hcases with ⟨k1,k2⟩|⟨k1,k2⟩|⟨k1,k2⟩|⟨k1,k2⟩|⟨hB,k1,k2⟩|⟨hB,k1,k2⟩|⟨k1,k2⟩|⟨k1,k2⟩|⟨k1,k2⟩|⟨k1,k2⟩|⟨k1,k2⟩
 ·obtain ⟨ag,y,rfl⟩:=fq7 k1;obtain ⟨ag',y',rfl⟩:=fq7 k2;obtain ⟨h1,rfl⟩:=hp;obtain ⟨h2,rfl⟩:=hx';exact ⟨_,⟨h2,rfl⟩,hxb',hp' ⟨h1,rfl⟩,fun hb=>hpb' (hpb hb)⟩
 ·obtain ⟨ag,y,rfl⟩:=fq7 k1;obtain ⟨h1,rfl⟩:=hp;obtain ⟨ob,rfl,hall⟩:=as4 k2 hx';refine ⟨σ1.put ix ob,hall σ1,fun _=>al1 om,hp' ⟨?_,rfl⟩,fun hb=>hpb' (cj3 (fun i cs hc=>⟨cs,by rw[ag3 (fun e=>by subst e; rw[hnx] at hc; cases hc)]; exact hc⟩) (hpb hb))⟩;simp only[evq] at h1 ⊢;rw[fe9 (fq5 hnx h1)]; exact h1
 ·obtain ⟨ob,rfl,hall⟩:=as4 k1 hp;obtain ⟨ob',rfl,hall'⟩:=as4 k2 hx';refine ⟨σ.put ix ob',hall' σ,fun _=>al1 om,?_,fun _=>al1 om⟩;rw[put_comm ip ix _ _ hne];exact hp' (hall _)
 ·obtain ⟨e,s,y,rfl⟩:=hr7 k1;obtain ⟨ob,rfl,hall⟩:=as4 k2 hx';refine ⟨σ.put ix ob,hall σ,fun _=>al1 om,hp' ?_,fun _=>al1 om⟩;obtain ⟨n1,n2⟩:=gl4 (id2:=ix) hnx hp;simp only[bs9] at hp ⊢;rw[dm4 n1 n2 (fun e=>hne e.symm),hp];rfl
 ·obtain ⟨ag,y,rfl⟩:=fq7 k1;obtain ⟨e,s,z,rfl⟩:=hr7 k2;obtain ⟨h1,rfl⟩:=hp;have hb:=hpb hB;refine ⟨σ2,hx',fun _=>trivial,hp' ⟨?_,rfl⟩,fun _=>hpb' (cj3 (fun i cs hc=>⟨cs,(cd1 hnx hx' i cs).1 hc⟩) hb)⟩;simp only[evq] at h1 ⊢;rw[<- h1];simp only[bg8] at hb;split at hb
  ·rename_i he; rw[he]; rfl
  ·rename_i i off he;obtain ⟨cs,hc⟩:=hb;have hc':=(cd1 hnx hx' i cs).1 hc;rw[he];simp[az4,aq2,hc,hc']
  ·exact hb.elim
 ·obtain ⟨e,s,z,rfl⟩:=hr7 k1;obtain ⟨ag,y,rfl⟩:=fq7 k2;obtain ⟨h2,rfl⟩:=hx';have hb:=hxb' hB;refine ⟨σ,⟨?_,rfl⟩,fun _=>cj3 (fun i cs hc=>⟨cs,(cd1 hnp hp i cs).2 hc⟩) hb,hp' hp,fun _=>trivial⟩;simp only[evq] at h2 ⊢;rw[<- h2];simp only[bg8] at hb;split at hb
  ·rename_i he; rw[he]; rfl
  ·rename_i i off he;obtain ⟨cs,hc⟩:=hb;have hc':=(cd1 hnp hp i cs).2 hc;rw[he];simp[az4,aq2,hc,hc']
  ·exact hb.elim
 ·obtain ⟨ob,rfl,hall⟩:=as4 k1 hp;obtain ⟨ag,y,rfl⟩:=fq7 k2;obtain ⟨h2,rfl⟩:=hx';have hr:=hH k1 y (by simp[IK.ops,IQ.ops]);refine ⟨σ,⟨?_,rfl⟩,fun hb=>?_,hp' hp,fun _=>al1 om⟩
  ·simp only[evq] at h2 ⊢;rw[fe9 hr] at h2; exact h2
  ·have:=hxb' hb;simp only[bg8] at this ⊢;split
   ·trivial
   ·rename_i i off he;rw[he] at this hr;obtain ⟨cs,hc⟩:=this;exact ⟨cs,by rw[ag3 hr] at hc; exact hc⟩
   ·rename_i h1 h2;generalize y.ev E fr=q at *;cases q<;>first|exact this|exact (h1 _ rfl).elim|exact (h2 _ _ rfl).elim
 ·obtain ⟨ob,rfl,hall⟩:=as4 k1 hp;obtain ⟨e,s,z,rfl⟩:=hr7 k2;have r1:=hH k1 s (by simp[IK.ops]);have r2:=hH k1 z (by simp[IK.ops]);simp only[bs9] at hx';rw[dm4 r1 r2 hne] at hx';obtain ⟨⟨v',s'⟩,h1,h2⟩:=map_some hx';cases h2;exact ⟨s',h1,fun _=>trivial,hp' (hall _),fun _=>al1 om⟩
 ·obtain ⟨q1,rfl⟩:=jk8 k1;obtain ⟨q2,rfl⟩:=jk8 k2;obtain ⟨h1,rfl⟩:=hp;obtain ⟨h2,rfl⟩:=hx';exact ⟨_,⟨h2,rfl⟩,hxb',hp' ⟨h1,rfl⟩,fun hb=>hpb' (hpb hb)⟩
 ·obtain ⟨t,z,ok,y,k,rfl⟩:=jk9 k1;obtain ⟨h1,rfl⟩:=hp;obtain ⟨ob,rfl,hall⟩:=as4 k2 hx';refine ⟨σ1.put ix ob,hall σ1,fun _=>al1 om,hp' ⟨?_,rfl⟩,fun hb=>trivial⟩;simp only[evq] at h1 ⊢;rw[gl2 (gl3 hnx h1)]; exact h1
 ·obtain ⟨ob,rfl,hall⟩:=as4 k1 hp;obtain ⟨t,z,ok,y,k,rfl⟩:=jk9 k2;obtain ⟨h2,rfl⟩:=hx';have hr:=hH k1 y (by simp[IK.ops,IQ.ops]);refine ⟨σ,⟨?_,rfl⟩,fun hb=>trivial,hp' hp,fun _=>al1 om⟩;simp only[evq] at h2 ⊢;rw[gl2 hr] at h2; exact h2
end Go.Id
namespace Go.Id
open Go
variable {P:Program} {w w' w'':World} {ρ ρ' ρ'':Rho} {E:Nat->IV} {σ σ':Store} {N n n':Nat} {fr:Frm} {a:Act} {pf:List Nat}
abbrev Item:=Nat×ae4×Nat
def jl2 (P:Program)(E:Nat->IV)(B:Bool)(o:ae4)(id:Nat)(fr:Frm)(σ:Store)(K:Frm->Store->Prop):Prop :=
 ∃ act,bi3 o fr=zd act/\(if act then opR P E o.op id fr σ (fun v σ'=>K (fr.ao5 o.dst v) σ')/\(B=true->bg8 E fr σ o.op) else K (fr.ao5 o.dst skV) σ)
def bz8 (P:Program)(E:Nat->IV)(B:Bool):List Item->Frm->Store->(Frm->Store->Prop)->Prop
 | [],fr,σ,K=>K fr σ
 | (_,o,id)::rest,fr,σ,K=>jl2 P E B o id fr σ fun fr' σ'=>bz8 P E B rest fr' σ' K
theorem bf2 (fr:Frm)(d:Option Nat)(v:IV)(t:Nat):(fr.ao5 d v).get t=if d=zd t then v else fr.get t:=by
 cases d with
 | none=>simp[Frm.ao5]
 | some d=>
  simp only[Frm.ao5,Frm.ci3,zd.injEq];by_cases h:t=d
  ·subst h; simp
  ·have:¬ d=t:=fun e=>h e.symm
   simp[h,this]
theorem cy5 {fr fr':Frm}(h:FEq fr fr')(d:Option Nat)(v:IV):FEq (fr.ao5 d v) (fr'.ao5 d v):=fun t=>by rw[bf2,bf2,h t]
theorem gl5 {op:IK}{id:Nat}{fr fr':Frm}{K:IV->Store->Prop}(h:FEq fr fr'):opR P E op id fr σ K->opR P E op id fr' σ K:=by
 have hev:∀ x:IX,x.ev E fr=x.ev E fr':=fun x=>ah5 fun t _=>h t
 have hmap:∀ xs:List IX,xs.map (·.ev E fr)=xs.map (·.ev E fr'):=fun xs=>az7 fun t _=>h t
 cases op with
 | q q=>simp only[opR]; rw[gl1 (fun t _=>h t)]; exact fun h=>h
 | alloc z=>exact fun h=>h
 | box x=>simp only[opR]; rw[hev x]; exact fun h=>h
 | bsl e n z ps=>simp only[opR]; rw[au5 (fun t _=>h t)]; exact fun h=>h
 | store e x y=>simp only[opR]; rw[hev x,hev y]; exact fun h=>h
 | app e x y=>simp only[opR]; rw[hev x,hev y]; exact fun h=>h
 | cj9=>exact fun h=>h
 | bn9 x=>simp only[opR]; rw[hev x]; exact fun h=>h
 | dc9 x=>simp only[opR]; rw[hev x]; exact fun h=>h
 | ch7 t x y z=>simp only[opR]; rw[hev x,hev y,hev z]; exact fun h=>h
 | call f xs=>simp only[opR]; rw[hmap]; exact fun h=>h
 | bb6 f xs=>simp only[opR]; rw[hmap]; exact fun h=>h
 | cw6 x xs=>simp only[opR]; rw[hmap,hev]; exact fun h=>h
 | an5 e n z ps=>simp only[opR]; rw[au5 (fun t _=>h t)]; exact fun h=>h
 | ck3 x=>simp only[opR]; rw[hev x]; exact fun h=>h
 | bf3 x=>simp only[opR]; rw[hev x]; exact fun h=>h
 | ck4 x=>simp only[opR]; rw[hev x]; exact fun h=>h
 | fs1 x=>simp only[opR]; rw[hev x]; exact fun h=>h
 | dd2 e z x=>simp only[opR]; rw[hev x]; exact fun h=>h
 | clr e z x=>simp only[opR]; rw[hev x]; exact fun h=>h
 | st k xs=>simp only[opR]; rw[hmap]; exact fun h=>h
theorem am4 {op:IK}{id:Nat}{K K':IV->Store->Prop}(hK:∀ v σ,K v σ->K' v σ):opR P E op id fr σ K->opR P E op id fr σ K':=by
 cases op with
 | q q=>exact fun ⟨v,h,k⟩=>⟨v,h,hK _ _ k⟩
 | alloc z=>exact fun k=>hK _ _ k
 | box x=>exact fun ⟨h,k⟩=>⟨h,hK _ _ k⟩
 | bsl e n z ps=>exact fun ⟨out,h,k⟩=>⟨out,h,hK _ _ k⟩
 | store e x y=>exact fun ⟨s,h,k⟩=>⟨s,h,hK _ _ k⟩
 | app e x y=>exact fun ⟨r,h,k⟩=>⟨r,h,hK _ _ k⟩
 | cj9=>exact fun k=>hK _ _ k
 | bn9 x=>exact fun ⟨s,h,k⟩=>⟨s,h,hK _ _ k⟩
 | dc9 x=>exact fun ⟨s,h,k⟩=>⟨s,h,hK _ _ k⟩
 | ch7 t x y z=>exact fun ⟨s,h,k⟩=>⟨s,h,hK _ _ k⟩
 | call f xs=>exact fun ⟨Q,h,k⟩=>⟨Q,h,fun v s q=>⟨(k v s q).1,hK _ _ (k v s q).2⟩⟩
 | bb6 f xs=>exact fun ⟨v,h,k⟩=>⟨v,h,hK _ _ k⟩
 | cw6 x xs=>exact fun ⟨Q,h,k⟩=>⟨Q,h,fun v s q=>⟨(k v s q).1,hK _ _ (k v s q).2⟩⟩
 | an5 e n z ps=>exact fun ⟨out,h,k⟩=>⟨out,h,hK _ _ k⟩
 | ck3 x=>exact fun ⟨h,k⟩=>⟨h,hK _ _ k⟩
 | bf3 x=>exact fun ⟨s,h,k⟩=>⟨s,h,hK _ _ k⟩
 | fs1 x=>exact fun ⟨v,h,k⟩=>⟨v,h,hK _ _ k⟩
 | dd2 e z x=>exact fun ⟨n,h,k⟩=>⟨n,h,hK _ _ k⟩
 | clr e z x=>exact fun ⟨s,h,hn,k⟩=>⟨s,h,hn,hK _ _ k⟩
 | st e xs=>exact fun ⟨r,h,k⟩=>⟨r,h,hK _ _ k⟩
 | ck4 x=>exact fun ⟨i,l,h,k1,k2⟩=>⟨i,l,h,fun e=>hK _ _ (k1 e),fun j hj=>hK _ _ (k2 j hj)⟩
theorem bl5 {o:ae4}{fr fr':Frm}(h:∀ t∈o.uses,fr.get t=fr'.get t):bi3 o fr=bi3 o fr':=by
 unfold bi3
 cases hg:o.guard with
 | none=>rfl
 | some p=>
  obtain ⟨s,want⟩:=p;simp only;rw[h s (by simp[ae4.uses,hg])]
theorem hr8 {B:Bool}{o:ae4}{id:Nat}{fr fr':Frm}{K K':Frm->Store->Prop}(h:FEq fr fr')(hK:∀ f f' s,FEq f f'->K f s->K' f' s):jl2 P E B o id fr σ K->jl2 P E B o id fr' σ K':=by
 rintro ⟨act,ha,hh⟩;refine ⟨act,by rw[<- bl5 (fun t _=>h t)]; exact ha,?_⟩
 cases act with
 | true=>
  obtain ⟨h1,h2⟩:=hh
  exact ⟨am4 (fun v s k=>hK _ _ _ (cy5 h _ _) k) (gl5 h h1),fun hb=>cd3 (fun t _=>h t) (h2 hb)⟩
 | false=>exact hK _ _ _ (cy5 h _ _) hh
theorem ek5 {B:Bool}{K:Frm->Store->Prop}(hK:∀ f f' s,FEq f f'->K f s->K f' s):∀ (its:List Item) (fr fr':Frm) (σ:Store),FEq fr fr'->bz8 P E B its fr σ K->bz8 P E B its fr' σ K:=by
 intro its
 induction its with
 | nil=>exact fun fr fr' σ h k=>hK _ _ _ h k
 | cons it its ih=>
  obtain ⟨i,o,id⟩:=it;exact fun fr fr' σ h k=>hr8 h (fun f f' s hf kk=>ih f f' s hf kk) k
def gl6 (p x:ae4):Prop :=
 (∀ d,x.dst=zd d->d ∉ p.uses/\p.dst≠zd d)/\(∀ d,p.dst=zd d->d ∉ x.uses)
def gl7 (B:Bool)(p x:ae4):Prop:=db9 B p.op.kind x.op.kind=true/\gl6 p x
theorem ea2 {B:Bool}{i j:Nat}(h:db9 B i j=true):i<=5/\j<=5:=by
 unfold db9 ff1 at h;simp only[zm,zf,beq_iff_eq,decide_eq_true_eq] at h;omega
theorem ek6 {op:IK}{id i:Nat}{v:IV}(hk:op.kind<=5)(hi:i≠id)(h:bs9 P E op id fr σ v σ')(hn:σ.obj i=zk):σ'.obj i=zk:=by
 cases op with
 | q q=>rw[h.2]; exact hn
 | alloc z=>rw[h.2,ag3 hi]; exact hn
 | box x=>rw[h.2.2,ag3 hi]; exact hn
 | bsl e n z ps=>obtain ⟨out,_,_,h3⟩:=h; rw[h3,ag3 hi]; exact hn
 | store e x y=>
  obtain ⟨h,_⟩:=h;unfold aq5 at h;split at h
  ·rename_i j off hx;split at h
   ·rename_i cs hc;split at h
    ·cases h;rw[ag3 (fun e=>by subst e; rw[hn] at hc; cases hc)]; exact hn
    ·cases h
   ·rename_i cs hc;split at h
    ·cases h;rw[ag3 (fun e=>by subst e; rw[hn] at hc; cases hc)]; exact hn
    ·cases h
   ·cases h
  ·cases h
 | bb6 f xs=>rw[h.2]; exact hn
 | app e s x=>
  simp only[bs9] at h;unfold be9 at h;split at h
  ·cases h
  ·split at h
   ·cases h
   ·split at h
    ·split at h
     ·cases h; exact hn
     ·split at h
      ·cases h; rw[ag3 hi]; exact hn
      ·cases h
    ·split at h
     ·cases h; exact hn
     ·split at h
      ·cases h; rw[ag3 hi]; exact hn
      ·cases h
    ·split at h
     ·cases h; exact hn
     ·cases h
    ·split at h
     ·split at h
      ·cases h; exact hn
      ·split at h
       ·cases h; rw[ag3 hi]; simp only[Store.kill]; split<;>simp[hn]
       ·cases h
     ·cases h
    ·split at h
     ·split at h
      ·cases h; exact hn
      ·split at h
       ·cases h; rw[ag3 hi]; exact hn
       ·cases h
     ·cases h
    ·cases h
 | an5 e n z ps=>obtain ⟨_,_,_,rfl⟩:=h; exact hn
 | ck3 x=>obtain ⟨_,_,rfl⟩:=h; exact hn
 | dd2 e z x=>obtain ⟨_,_,_,rfl⟩:=h; rw[ag3 hi]; exact hn
 | st k xs=>exact h.elim
 | _=>exact absurd hk (by simp[IK.kind])
theorem bb5 {o:ae4}{t:Nat}(h:t∈o.op.ops.flatMap IX.uses):t∈o.uses:=by unfold ae4.uses; exact zc _ h
theorem kq3 {B:Bool}{K:Frm->Store->Prop}(hK:∀ f f' s,FEq f f'->K f s->K f' s){ix:Nat}{x:ae4}{kx:Nat}{post:List Item} :
  ∀ (pre:List Item) (fr:Frm) (σ:Store),(∀ p∈pre,gl7 B p.2.1 x)->(∀ p∈pre,p.2.2≠kx/\σ.obj p.2.2=zk)->(pre.map (·.2.2)).Nodup->(pre≠[]->σ.obj kx=zk) ->
   (∀ p∈pre,p.2.1.op.kind=2->∀ y∈x.op.ops,bo6 p.2.2 (y.ev E fr)) ->
   bz8 P E B (pre++(ix,x,kx)::post) fr σ K->jl2 P E B x kx fr σ fun fr' σ'=>bz8 P E B (pre++post) fr' σ' K:=by
 intro pre
 induction pre with
 | nil=>intro fr σ _ _ _ _ _ h; exact h
 | cons p pre ih=>
  intro fr σ hfree hids hnd hnx hH h;obtain ⟨ip,p,kp⟩:=p;obtain ⟨hk,hap⟩:=hfree _ (za ..);obtain ⟨hpx,hkp⟩:=hids _ (za ..);simp only at hk hap hpx hkp;obtain ⟨kp3,kx3⟩:=ea2 hk;have hnx:=hnx (by simp);obtain ⟨ap,hact,hh⟩:=h
  -- what p gives
  have hp:∃ vp σ1,jy4 P E B ap p.op kp fr σ vp σ1/\bz8 P E B (pre++(ix,x,kx)::post) (fr.ao5 p.dst vp) σ1 K:=by
   cases ap with
   | true=>
    obtain ⟨h1,h2⟩:=hh;obtain ⟨vp,σ1,hd,k⟩:=(bd4 kp3).1 h1
    exact ⟨vp,σ1,⟨hd,h2⟩,k⟩
   | false=>exact ⟨skV,σ,⟨rfl,rfl⟩,hh⟩
  obtain ⟨vp,σ1,hd,htree⟩:=hp
  have hfx:∀ t∈x.uses,(fr.ao5 p.dst vp).get t=fr.get t:=fun t ht=>by
   rw[bf2,if_neg]; intro e; exact hap.2 t e ht
  have fresh1:∀ i,i≠kp->σ.obj i=zk->σ1.obj i=zk:=fun i hi h0=>by
   cases ap with
   | true=>exact ek6 kp3 hi hd.1 h0
   | false=>obtain ⟨_,rfl⟩:=hd; exact h0
  have hnd':=List.nodup_cons.1 (show (kp::pre.map (·.2.2)).Nodup from hnd)
  obtain ⟨ax,hactx,hhx⟩:=ih (fr.ao5 p.dst vp) σ1 (fun q hq=>hfree q (zb _ hq))
   (fun q hq=>⟨(hids q (zb _ hq)).1,fresh1 _ (fun e=>hnd'.1 (by rw[<- e]; exact zi.2 ⟨q,hq,rfl⟩)) (hids q (zb _ hq)).2⟩)
   hnd'.2 (fun _=>fresh1 kx (fun e=>hpx e.symm) hnx)
   (fun q hq hk2 y hy=>by
    have:y.ev E (fr.ao5 p.dst vp)=y.ev E fr:=ah5 fun t ht=>hfx t (bb5 (zr.2 ⟨y,hy,ht⟩))
    rw[this]; exact hH q (zb _ hq) hk2 y hy) htree
  have hx:∃ vx σ2,jy4 P E B ax x.op kx (fr.ao5 p.dst vp) σ1 vx σ2/\bz8 P E B (pre++post) ((fr.ao5 p.dst vp).ao5 x.dst vx) σ2 K:=by
   cases ax with
   | true=>
    obtain ⟨h1,h2⟩:=hhx;obtain ⟨vx,σ2,hd,k⟩:=(bd4 kx3).1 h1
    exact ⟨vx,σ2,⟨hd,h2⟩,k⟩
   | false=>exact ⟨skV,σ1,⟨rfl,rfl⟩,hhx⟩
  obtain ⟨vx,σ2,hdx,htree2⟩:=hx;have hactx':bi3 x fr=zd ax:=by rw[<- bl5 hfx]; exact hactx
  have hfp:∀ t∈p.uses,fr.get t=(fr.ao5 x.dst vx).get t:=fun t ht=>by
   rw[bf2,if_neg]; intro e; exact (hap.1 t e).1 ht
  have hactp':bi3 p (fr.ao5 x.dst vx)=zd ap:=by rw[<- bl5 hfp]; exact hact
  have feq:FEq ((fr.ao5 p.dst vp).ao5 x.dst vx) ((fr.ao5 x.dst vx).ao5 p.dst vp):=fun t=>by
   simp only[bf2];by_cases h1:x.dst=zd t
   ·have h2:p.dst≠zd t:=(hap.1 t h1).2;simp[h1,h2]
   ·simp[h1]
  have swap:∃ σ1',jy4 P E B ax x.op kx fr σ vx σ1'/\jy4 P E B ap p.op kp (fr.ao5 x.dst vx) σ1' vp σ2:=by
   cases ap with
   | true=>
    cases ax with
    | true=>
     obtain ⟨σ1',s1,s2,s3,s4⟩:=ea1 hd.1 hd.2 hdx.1 hdx.2 hk (fun t ht=>hfx t (bb5 ht)) (fun t ht=>hfp t (bb5 ht)) hpx hkp hnx (hH _ (za ..))
     exact ⟨σ1',⟨s1,s2⟩,⟨s3,s4⟩⟩
    | false=>
     obtain ⟨rfl,rfl⟩:=hdx
     exact ⟨σ,⟨rfl,rfl⟩,bp7 (fun t ht=>hfp t (bb5 ht)) hd.1,fun hb=>cd3 (fun t ht=>hfp t (bb5 ht)) (hd.2 hb)⟩
   | false=>
    obtain ⟨rfl,rfl⟩:=hd
    cases ax with
    | true=>exact ⟨σ2,⟨bp7 (fun t ht=>hfx t (bb5 ht)) hdx.1,fun hb=>cd3 (fun t ht=>hfx t (bb5 ht)) (hdx.2 hb)⟩,rfl,rfl⟩
    | false=>obtain ⟨rfl,rfl⟩:=hdx; exact ⟨_,⟨rfl,rfl⟩,rfl,rfl⟩
  obtain ⟨σ1',d1,d2⟩:=swap
  have inner:jl2 P E B p kp (fr.ao5 x.dst vx) σ1' fun fr' σ'=>bz8 P E B (pre++post) fr' σ' K:=by
   refine ⟨ap,hactp',?_⟩
   cases ap with
   | true=>exact ⟨(bd4 kp3).2 ⟨vp,σ2,d2.1,ek5 hK _ _ _ _ feq htree2⟩,d2.2⟩
   | false=>obtain ⟨rfl,rfl⟩:=d2; exact ek5 hK _ _ _ _ feq htree2
  refine ⟨ax,hactx',?_⟩
  cases ax with
  | true=>exact ⟨(bd4 kx3).2 ⟨vx,σ1',d1.1,inner⟩,d1.2⟩
  | false=>obtain ⟨rfl,rfl⟩:=d1; exact inner
end Go.Id
namespace Go.Id
open Go
variable {P:Program} {w w' w'':World} {ρ ρ' ρ'':Rho} {E:Nat->IV} {σ σ':Store} {N n n':Nat} {fr:Frm} {a:Act} {pf:List Nat}
def IX.quiet:IX->Bool
 | .c (.ptr _ _)=>false
 | .c (.slice _ _ _ _)=>false
 | .c (.map _)=>false
 | .c (.ag4 _ _ _ _)=>false
 | .c (.ak5 _ _ _ _ _)=>false
 | _=>true
theorem IX.dc1 {x:IX}{id:Nat}(hq:x.quiet=true)(hs:Sim E ρ w σ)(hf:FR ρ w N fr a.tmps)(h:ρ id=.no):bo6 id (x.ev E fr):=by
 cases x with
 | t n=>exact fe8 (hf.get n) h
 | c v=>cases v<;>first|trivial|cases hq
 | g n=>exact fe8 (hs.env n) h
 | f n=>trivial
structure Rem (P:Program) (pf:List Nat) (N:Nat) (ops:Array Oper) (B:Bool) (anc:Nat->Nat->Prop) (base:Nat) (rem:List Item) (listed:Array Bool):Prop where
 size:listed.size=ops.size
 un:∀ j,j<ops.size->(listed.getD j true=false↔∃ it∈rem,it.1=j)
 its:∀ it∈rem,∃ o,ops[it.1]? = zd o/\cj7 P pf N ops o=zd it.2.1/\it.2.2=base+it.1/\∀ y∈it.2.1.op.ops,IX.quiet y=true
 pw:rem.Pairwise fun p x=>(anc p.1 x.1\/gl7 B p.2.1 x.2.1)/\p.1≠x.1/\∀ o,ops[p.1]? = zd o->∀ e∈o.after,Region.binds .any e=true->e.on≠x.1
 dc:∀ j,listed.getD j false=true->∀ k,anc k j->listed.getD k false=true
theorem getD_lt {l:Array Bool}{j:Nat}(h:l.getD j true=false):j<l.size:=by
 rcases zj j l.size with h'|h'
 ·exact h'
 ·simp[ze h'] at h
theorem gl8 {l:Array Bool}{j:Nat}(h:l.getD j false=true):l.getD j true=true:=by
 rcases zj j l.size with h'|h'
 ·simp[h'] at h ⊢; exact h
 ·simp[ze h'] at h
theorem gl9 {ops:Array Oper} {B:Bool} {anc:Nat->Nat->Prop} {n0 base:Nat} {ro:Option Nat} {Qw:Exit->Act->World->Prop} {K:Frm->Store->Prop} {ρ0:Rho} {w0:World} {ds:List Deferred}
  (hKf:∀ f f' s,FEq f f'->K f s->K f' s)
  (hfin:∀ fr σ ρ w a,n0<=σ.next->K fr σ->Sim E ρ w σ->FR ρ w N fr a.tmps->a.defers=ds->bg7 n0 ρ0 w0 ρ w->Qw .normal a w)
  (hed:∀ j o,ops[j]? = zd o->∀ e∈o.after,Region.binds .any e=true->e.on<ops.size/\e.on≠j)
  (hanc:∀ k j,anc k j->∀ o,ops[j]? = zd o->∃ e∈o.after,Region.binds .any e=true/\(e.on=k\/anc k e.on)) :
  ∀ (fuel:Nat) (rem:List Item) (listed:Array Bool) (fr:Frm) (σ:Store) (ρ:Rho) (w:World) (a:Act),rem.length=fuel->Rem P pf N ops B anc base rem listed->bz8 P E B rem fr σ K ->
   Sim E ρ w σ->FR ρ w N fr a.tmps->a.defers=ds->bg7 n0 ρ0 w0 ρ w->n0<=base->base+ops.size<=σ.next->(∀ it∈rem,ρ it.2.2=.no) ->
   wpAnyIn (fw ro) 0 P .any ops Qw fuel listed a w:=by
 intro fuel
 induction fuel with
 | zero=>
  intro rem listed fr σ ρ w a hlen hr h hs hf hd hx hn0 hnx hno;have:rem=[]:=z0.1 hlen;subst this;refine ⟨?_,hfin fr σ ρ w a om h hs hf hd hx⟩;rw[zx];intro j hj;obtain ⟨h0,_⟩:=mem_ready.1 hj;obtain ⟨it,hit,_⟩:=(hr.un j (by rw[<- hr.size]; exact getD_lt h0)).1 h0
  cases hit
 | succ fuel ih=>
  intro rem listed fr σ ρ w a hlen hr h hs hf hd hx hn0 hnx hno;refine ⟨fun hemp=>?_,fun i hi=>?_⟩
  ·exfalso
   cases rem with
   | nil=>cases hlen
   | cons it rem=>
    obtain ⟨o,ho,hc,hid,_⟩:=hr.its it (za ..)
    have hlt:it.1<ops.size:=by
     rcases zj it.1 ops.size with h'|h'
     ·exact h'
     ·simp[ze h'] at ho
    have:it.1∈Region.ready .any ops listed:=by
     refine mem_ready.2 ⟨(hr.un _ hlt).2 ⟨it,za ..,rfl⟩,o,ho,fun e he hb=>?_⟩;obtain ⟨h1,h2⟩:=hed _ o ho e he hb;have hj:e.on<listed.size:=by rw[hr.size]; exact h1
     by_cases hL:listed.getD e.on true=false
     ·obtain ⟨jt,hjt,hje⟩:=(hr.un _ h1).1 hL;rcases zg.1 hjt with rfl|hjt
      ·exact absurd hje.symm h2
      ·exact absurd hje.symm (((zl.1 hr.pw).1 jt hjt).2.2 o ho e he hb)
     ·simp[hj] at hL ⊢; exact hL
    rw[hemp] at this;cases this
  ·obtain ⟨h0,o,ho,hall⟩:=mem_ready.1 hi;have hlt:i<ops.size:=by rw[<- hr.size]; exact getD_lt h0
   obtain ⟨it,hit,hie⟩:=(hr.un i hlt).1 h0;obtain ⟨pre,post,rfl⟩:=z5 hit;obtain ⟨ix,x,kx⟩:=it;simp only at hie;subst hie;obtain ⟨o',ho',hc,hkx,hqx⟩:=hr.its _ hit;simp only at ho' hc hkx hqx;rw[ho] at ho';cases ho';obtain ⟨hpp,hxp,hcross⟩:=z3.1 hr.pw;have hcx:=fun p hp=>hcross p hp _ (za ..)
   have hnotL:∀ p∈pre,listed.getD p.1 false≠true:=fun p hp hL=>by
    obtain ⟨op,hop,_⟩:=hr.its p (zc _ hp)
    have hpl:p.1<ops.size:=by
     rcases zj p.1 ops.size with h'|h'
     ·exact h'
     ·simp[ze h'] at hop
    have:=(hr.un p.1 hpl).2 ⟨p,zc _ hp,rfl⟩;rw[gl8 hL] at this;cases this
   have hfree:∀ p∈pre,gl7 B p.2.1 x:=fun p hp=>by
    rcases (hcx p hp).1 with ha|hf
    ·exfalso;obtain ⟨e,he,hb,heq⟩:=hanc _ _ ha o ho;have hle:=hall e he hb;rcases heq with heq|ha'
     ·exact hnotL p hp (by rw[<- heq]; exact hle)
     ·exact hnotL p hp (hr.dc _ hle _ ha')
    ·exact hf
   have hidp:∀ p∈pre,p.2.2=base+p.1:=fun p hp=>by
    obtain ⟨_,_,_,h1,_⟩:=hr.its p (zc _ hp);exact h1
   have hpull:=kq3 (P:=P) (E:=E) (B:=B) (K:=K) hKf (ix:=ix) (x:=x) (kx:=kx) (post:=post) pre fr σ hfree
    (fun p hp=>⟨by rw[hidp p hp,hkx]; have:=(hcx p hp).2.1; omega,hs.aw1 _ (hno p (zc _ hp))⟩)
    (by
     rw[zy,z6];refine (List.Pairwise.and_mem.1 hpp).imp ?_;intro p q ⟨hp,hq,h1⟩;rw[hidp p hp,hidp q hq];have:=h1.2.1;omega)
    (fun _=>hs.aw1 _ (hno _ hit))
    (fun p hp _ y hy=>IX.dc1 (hqx y hy) hs hf (hno p (zc _ hp))) h
   obtain ⟨⟨fz,hk⟩,hdst,hdN,hg⟩:=bz9 hc;have hidx:kx<σ.next/\n0<=kx:=by rw[hkx]; omega
   have hmem:∀ it∈pre++post,it∈pre++(ix,x,kx)::post:=fun it h=>by
    rcases zh.1 h with h|h
    ·exact zc _ h
    ·exact zn _ (zb _ h)
   have hne:∀ it∈pre++post,it.1≠ix:=fun it h=>by
    rcases zh.1 h with h|h
    ·exact (hcx it h).2.1
    ·exact fun e=>((zl.1 hxp).1 it h).2.1 e.symm
   have hrem:Rem P pf N ops B anc base (pre++post) (listed.setIfInBounds ix true):=by
    refine ⟨by simp[hr.size],fun j hj=>?_,fun it hit=>hr.its it (hmem it hit),?_,?_⟩
    ·by_cases hji:j=ix
     ·subst hji;have:j<listed.size:=by rw[hr.size]; exact hj
      constructor
      ·intro h; simp[this] at h
      ·rintro ⟨it,h1,h2⟩; exact absurd h2 (hne it h1)
     ·rw[getD_set_ne true (Ne.symm hji),hr.un j hj];constructor
      ·rintro ⟨it,h1,h2⟩;refine ⟨it,?_,h2⟩;rcases zh.1 h1 with h1|h1
       ·exact zc _ h1
       ·rcases zg.1 h1 with rfl|h1
        ·exact absurd h2.symm hji
        ·exact zn _ h1
      ·rintro ⟨it,h1,h2⟩; exact ⟨it,hmem it h1,h2⟩
    ·exact hr.pw.sublist (zv.append (zv.refl _) (z1 _ _))
    ·intro j hj k hk;by_cases hji:j=ix
     ·subst hji;obtain ⟨e,he,hb,heq⟩:=hanc _ _ hk o ho;have hle:=hall e he hb;rcases heq with rfl|ha'
      ·exact getD_set_true hle
      ·exact getD_set_true (hr.dc _ hle _ ha')
     ·rw[getD_set_ne false (Ne.symm hji)] at hj;exact getD_set_true (hr.dc _ hj _ hk)
   have hlen':(pre++post).length=fuel:=by simp at hlen ⊢; omega
   have hne2:∀ it∈pre++post,it.2.2≠kx:=fun it h=>by
    obtain ⟨_,_,_,h1,_⟩:=hr.its it (hmem it h);rw[h1,hkx];have:=hne it h;omega
   unfold wpOpIn;simp only[ho];obtain ⟨act,hact,hh⟩:=hpull
   have run:opR P E x.op kx fr σ (fun v σ'=>bz8 P E B (pre++post) (fr.ao5 x.dst v) σ' K)->o.wpIn (fw ro) 0 P a w (wpAnyIn (fw ro) 0 P .any ops Qw fuel (listed.setIfInBounds ix true)) Qw:=by
    intro hop;refine ea9 hk hop hs hf om (fun hl=>⟨hno _ hit,hidx.1,hidx.2⟩) ?_;intro v σ' r ρ' w' hnx' hK hs' hv' hx' hno';refine ih (pre++post) _ _ σ' ρ' w' (a.put o.dst r) hlen' hrem hK hs' ?_ (by rw[put_defers]; exact hd) (hx.trans (hx'.weak (zp _))) hn0 om ?_
    ·rw[hdst]; exact FR.ao5 (hf.mono hx') hdN hv'
    ·intro jt hjt;obtain ⟨jo,hjo,_,h1,_⟩:=hr.its jt (hmem jt hjt)
     have hjl:jt.1<ops.size:=by
      rcases zj jt.1 ops.size with h'|h'
      ·exact h'
      ·simp[ze h'] at hjo
     exact hno' _ (by rw[h1]; omega) (fun _=>hne2 jt hjt) (hno _ (hmem jt hjt))
   rcases hg with ⟨hg1,hg2⟩|⟨j,want,s,hg1,hgs,hg2⟩
   ·have hw:Region.wanted o (yielded ops a.tmps)=true:=by unfold Region.wanted; rw[hg1]
    rw[if_pos hw];simp only[bi3,hg2,zd.injEq] at hact;subst hact;exact run hh.1
   ·simp only[bi3,hg2] at hact;have hw:=cd7 hg1 hgs hf hact;rw[hw]
    cases act with
    | true=>exact run hh.1
    | false=>
     refine ⟨fun f _=>trivial,?_⟩;exact ih (pre++post) _ _ σ ρ w (a.put o.dst undef) hlen' hrem hh hs (by rw[hdst]; exact FR.ao5 hf hdN go5) (by rw[put_defers]; exact hd) hx hn0 hnx (fun jt hjt=>hno _ (hmem jt hjt))
end Go.Id
namespace Go.Id
open Go
variable {P:Program} {w w' w'':World} {ρ ρ' ρ'':Rho} {E:Nat->IV} {σ σ':Store} {N n n':Nat} {fr:Frm} {a:Act} {pf:List Nat}
def ff2 (base:Nat):Nat->List ae4->List Item
 | _,[]=>[]
 | i,o::os=>(i,o,base+i)::ff2 base (i+1) os
def ak2 (o:Oper):List Nat:=(o.after.toList.filter (Region.binds .any)).map (·.on)
def orF (ms:List Nat)(es:List Nat):Nat:=es.foldl (fun s e=>s ||| (2^e ||| ms.getD e 0)) 0
def gm1 (ess:List (List Nat)):List Nat:=ess.foldl (fun acc es=>acc++[orF acc es]) []
def ff3 (p x:ae4):Bool :=
 (match x.dst with|none=>true|some d=>!p.uses.contains d&&p.dst != zd d)&&(match p.dst with|none=>true|some d=>!x.uses.contains d)
def ff4 (B:Bool)(ms:List Nat)(i:Nat)(p:ae4):Nat->List ae4->Bool
 | _,[]=>true
 | j,x::xs=>((ms.getD j 0).testBit i||(db9 B p.op.kind x.op.kind&&ff3 p x))&&ff4 B ms i p (j+1) xs
def ea3 (B:Bool)(ms:List Nat):Nat->List ae4->Bool
 | _,[]=>true
 | i,o::os=>ff4 B ms i o (i+1) os&&ea3 B ms (i+1) os
def jl3:Nat->List (List Nat)->Bool
 | _,[]=>true
 | j,es::r=>es.all (fun e=>decide (e<j))&&jl3 (j+1) r
def jl4 (ms:List Nat):Nat->List (List Nat)->Bool
 | _,[]=>true
 | j,es::r=>ms.getD j 0==orF ms es&&jl4 ms (j+1) r
def jy5 (ess:List (List Nat))(ios:List ae4)(B:Bool):Bool :=
 let ms:=gm1 ess
 jl3 0 ess&&jl4 ms 0 ess&&ea3 B ms 0 ios&&ios.all fun o=>o.op.ops.all IX.quiet
def ek7 (ios:List ae4):Bool:=ios.any fun o=>o.op.kind==3
theorem gm2 {ms:List Nat}{k:Nat}:∀ (es:List Nat) (s:Nat),(es.foldl (fun s e=>s ||| (2^e ||| ms.getD e 0)) s).testBit k=true->s.testBit k=true\/∃ e∈es,e=k\/(ms.getD e 0).testBit k=true:=by
 intro es
 induction es with
 | nil=>exact fun s h=>.inl h
 | cons e es ih=>
  intro s h;rcases ih _ h with h1|⟨e',he,h1⟩
  ·rw[Nat.testBit_or,Nat.testBit_or,Nat.testBit_two_pow] at h1;simp only[zm,decide_eq_true_eq] at h1;rcases h1 with h1|h1|h1
   ·exact .inl h1
   ·exact .inr ⟨e,za ..,.inl h1⟩
   ·exact .inr ⟨e,za ..,.inr h1⟩
  ·exact .inr ⟨e',zb _ he,h1⟩
theorem dc2 {p x:ae4}(h:ff3 p x=true):gl6 p x:=by
 unfold ff3 at h;simp only[zf] at h;obtain ⟨h1,h2⟩:=h;refine ⟨fun d hd=>?_,fun d hd=>?_⟩
 ·rw[hd] at h1
  simpa using h1
 ·rw[hd] at h2
  simpa using h2
theorem gm3 {base:Nat}:∀ (ios:List ae4) (i:Nat),∀ it∈ff2 base i ios,i<=it.1:=by
 intro ios
 induction ios with
 | nil=>intro i it h; cases h
 | cons o os ih=>
  intro i it h;rcases zg.1 h with rfl|h
  ·exact zp _
  ·have:=ih _ it h; omega
theorem hr9 {base:Nat}:∀ (ios:List ae4) (i:Nat),(ff2 base i ios).length=ios.length:=by
 intro ios
 induction ios with
 | nil=>intro i; rfl
 | cons o os ih=>intro i; simp[ff2,ih]
theorem ff5 {base:Nat}:∀ (ios:List ae4) (i j:Nat),i<=j->j<i+ios.length->∃ it∈ff2 base i ios,it.1=j:=by
 intro ios
 induction ios with
 | nil=>intro i j h1 h2; simp at h2; omega
 | cons o os ih=>
  intro i j h1 h2;by_cases h:i=j
  ·exact ⟨_,za ..,h⟩
  ·obtain ⟨it,h3,h4⟩:=ih (i+1) j om (by simp at h2; omega);exact ⟨it,zb _ h3,h4⟩
theorem gm4 {base:Nat}:∀ (ios:List ae4) (i:Nat),∀ it∈ff2 base i ios,it.2.2=base+it.1/\it.2.1∈ios:=by
 intro ios
 induction ios with
 | nil=>intro i it h; cases h
 | cons o os ih=>
  intro i it h;rcases zg.1 h with rfl|h
  ·exact ⟨rfl,za ..⟩
  ·obtain ⟨h1,h2⟩:=ih _ it h;exact ⟨h1,zb _ h2⟩
theorem ff6 {base:Nat}{ops:Array Oper}:∀ (os:List Oper) (ios:List ae4) (i:Nat),ops.toList.drop i=os->bq2 P pf N ops os=zd ios->∀ it∈ff2 base i ios,∃ o,ops[it.1]? = zd o/\cj7 P pf N ops o=zd it.2.1:=by
 intro os
 induction os with
 | nil=>intro ios i _ hc it hit; cases hc; cases hit
 | cons o os ih=>
  intro ios i hdrop hc it hit;simp only[bq2] at hc;split at hc
  ·rename_i io ios' hio hios;cases hc
   have hi:ops[i]? = zd o:=by
    have:=congrArg (fun l=>l[0]?) hdrop
    simpa [List.getElem?_drop] using this
   have hdrop':ops.toList.drop (i+1)=os:=by
    have:=congrArg (List.drop 1) hdrop
    simpa [List.drop_drop] using this
   rcases zg.1 hit with rfl|hit
   ·exact ⟨o,hi,hio⟩
   ·exact ih ios' (i+1) hdrop' hios it hit
  ·cases hc
theorem dm5 {ops:Array Oper}:∀ (os:List Oper) (ios:List ae4),bq2 P pf N ops os=zd ios->ios.length=os.length:=by
 intro os
 induction os with
 | nil=>intro ios h; cases h; rfl
 | cons o os ih=>
  intro ios h;simp only[bq2] at h;split at h
  ·rename_i io ios' hio hios;cases h;simp[ih _ hios]
  ·cases h
theorem eu6 {B:Bool}{ms:List Nat}{i base:Nat}{p:ae4}:∀ (xs:List ae4) (j:Nat),ff4 B ms i p j xs=true->∀ it∈ff2 base j xs,(ms.getD it.1 0).testBit i=true\/gl7 B p it.2.1:=by
 intro xs
 induction xs with
 | nil=>intro j _ it h; cases h
 | cons x xs ih=>
  intro j h it hit;simp only[ff4,zf,zm] at h;rcases zg.1 hit with rfl|hit
  ·rcases h.1 with h1|h1
   ·exact .inl h1
   ·exact .inr ⟨h1.1,dc2 h1.2⟩
  ·exact ih _ h.2 it hit
theorem fq8 {B:Bool}{ms:List Nat}{base:Nat}:∀ (xs:List ae4) (i:Nat),ea3 B ms i xs=true->(ff2 base i xs).Pairwise fun p x=>((ms.getD x.1 0).testBit p.1=true\/gl7 B p.2.1 x.2.1)/\p.1<x.1:=by
 intro xs
 induction xs with
 | nil=>intro i _; exact .nil
 | cons x xs ih=>
  intro i h;simp only[ea3,zf] at h;refine zl.2 ⟨fun it hit=>⟨eu6 xs _ h.1 it hit,?_⟩,ih _ h.2⟩;have:=gm3 xs _ it hit;simp only;omega
theorem dc3:∀ (ess:List (List Nat)) (i:Nat),jl3 i ess=true->∀ j es,ess[j]? = zd es->∀ e∈es,e<i+j:=by
 intro ess
 induction ess with
 | nil=>intro i _ j es h; simp at h
 | cons x ess ih=>
  intro i h j es hj e he;simp only[jl3,zf,zo,decide_eq_true_eq] at h
  cases j with
  | zero=>simp at hj; subst hj; exact h.1 e he
  | succ j=>have:=ih (i+1) h.2 j es (by simpa using hj) e he; omega
theorem ek8 {ms:List Nat}:∀ (ess:List (List Nat)) (i:Nat),jl4 ms i ess=true->∀ j es,ess[j]? = zd es->ms.getD (i+j) 0=orF ms es:=by
 intro ess
 induction ess with
 | nil=>intro i _ j es h; simp at h
 | cons x ess ih=>
  intro i h j es hj;simp only[jl4,zf,beq_iff_eq] at h
  cases j with
  | zero=>simp at hj; subst hj; exact h.1
  | succ j=>
   have:=ih (i+1) h.2 j es (by simpa using hj);rw[<- this]; congr 1; omega
theorem gm5 {n0 id:Nat}{ops:Array Oper}{ios:List ae4}{B:Bool}{Q:Exit->Frm->Store->Prop}{ks:List Nat}(hm:P.follows .mixedOrders=true)(hc:bq2 P pf N ops ops.toList=zd ios)
  (hok:jy5 (ops.toList.map ak2) ios B=true)
  (h:bz8 P E B (ff2 σ.next 0 ios) fr { σ with next:=σ.next+ios.length } (fun fr' σ'=>Q .normal (fr'.keep ks) σ')):R P E N n0 (.region id ops true) fr σ Q:=by
 intro hn ro h0 ρ w a hs hf hd hr;refine wpIn_region_any hm ?_;have hlen:ios.length=ops.size:=by rw[dm5 _ _ hc]; simp
 unfold jy5 at hok;simp only[zf,zo] at hok;obtain ⟨⟨⟨hed,hms⟩,hpr⟩,hq⟩:=hok;generalize gm1 (ops.toList.map ak2)=ms at hms hpr;have hes:∀ (j:Nat) (o:Oper),ops[j]? = zd o->(ops.toList.map ak2)[j]? = zd (ak2 o):=fun j o ho=>by simp[ho]
 have hme:∀ (o:Oper) (k:Nat),k∈ak2 o->∃ e∈o.after,Region.binds .any e=true/\e.on=k:=fun o k hk=>by
  unfold ak2 at hk;obtain ⟨e,he,rfl⟩:=zi.1 hk;obtain ⟨h1,h2⟩:=zs.1 he;exact ⟨e,by simpa using h1,h2,rfl⟩
 have hem:∀ (o:Oper) (e:Edge),e∈o.after->Region.binds .any e=true->e.on∈ak2 o:=fun o e he hb=>
  zi.2 ⟨e,zs.2 ⟨by simpa using he,hb⟩,rfl⟩
 refine gl9 (E:=E) (pf:=pf) (N:=N) (B:=B) (anc:=fun k j=>(ms.getD j 0).testBit k=true) (n0:=n0) (base:=σ.next) (ρ0:=ρ) (w0:=w) (ds:=a.defers) (K:=fun fr' σ'=>Q .normal (fr'.keep ks) σ') ?_ ?_ ?_ ?_
  ops.size (ff2 σ.next 0 ios) _ fr { σ with next:=σ.next+ios.length } ρ w.drew a (by rw[hr9,hlen]) ?_ h
  (ea7 (cy3 hs) (fun i hi=>hs.fresh i om)) (hf.mono (bb4 0)) rfl ((bb4 n0).weak (zp _)) hn (by rw[hlen]; exact zp _) ?_
 ·intro f f' s hff hK
  have:f'.keep ks=f.keep ks:=by
   unfold Frm.keep;exact zq fun k _=>by rw[hff k]
  rw[this]; exact hK
 ·intro fr' σ' ρ' w' a' hn' hK hs' hf' hd' hx;exact ⟨fr'.keep ks,σ',ρ',hn',hK,hs',hf'.keep ks,by rw[hd']; exact hd.mono hx,hr.mono hx,hx⟩
 ·intro j o ho e he hb;have:=dc3 _ _ hed j _ (hes j o ho) _ (hem o e he hb)
  have hj:j<ops.size:=by
   rcases zj j ops.size with h'|h'
   ·exact h'
   ·simp[ze h'] at ho
  omega
 ·intro k j hk o ho;have:=ek8 _ _ hms j _ (hes j o ho);simp only[Nat.zero_add] at this;rw[this] at hk;rcases gm2 _ _ hk with h1|⟨e,he,h1⟩
  ·simp at h1
  ·obtain ⟨ed,hed1,hb,heq⟩:=hme o e he;exact ⟨ed,hed1,hb,by rw[heq]; exact h1⟩
 ·refine ⟨by simp,fun j hj=>?_,fun it hit=>?_,?_,?_⟩
  ·constructor
   ·intro _;exact ff5 ios 0 j (Nat.zero_le _) om
   ·intro _; simp[hj]
  ·obtain ⟨o,h1,h2⟩:=ff6 ops.toList ios 0 rfl hc it hit;obtain ⟨h3,h4⟩:=gm4 ios 0 it hit;exact ⟨o,h1,h2,h3,hq _ h4⟩
  ·refine (fq8 ios 0 hpr).imp ?_;intro p x ⟨h1,h2⟩;refine ⟨h1,om,fun o ho e he hb=>?_⟩;have:=dc3 _ _ hed p.1 _ (hes p.1 o ho) _ (hem o e he hb);omega
  ·intro j hj;exfalso;by_cases hlt:j<ops.size
   ·simp[hlt] at hj
   ·simp[hlt] at hj
 ·intro it hit;exact hs.fresh _ (by rw[(gm4 ios 0 it hit).1]; omega)
end Go.Id
namespace Go.Id
open Go
variable {P:Program} {w w' w'':World} {ρ ρ' ρ'':Rho} {E:Nat->IV} {σ σ':Store} {N n n':Nat} {fr:Frm} {a:Act} {pf:List Nat}
def IK.cls:IK->Nat
 | .q u=>match u.kind with
  | 0=>0
  | _=>1
 | .bb6 _ _|.an5 _ _ _ _|.ck3 _=>0
 | _=>2
theorem dc4 {op:IK}(h:op.cls=0):op.kind=0:=by
 cases op with
 | q u=>
  simp only[IK.cls] at h;split at h
  ·rename_i hk; exact hk
  ·cases h
 | bb6 f xs=>rfl
 | an5 _ _ _ _=>rfl
 | ck3 _=>rfl
 | _=>cases h
theorem jl5 {op:IK}(h:op.cls<=1):(∃ q,op=.q q)\/op.cls=0:=by
 cases op with
 | q u=>exact .inl ⟨u,rfl⟩
 | bb6 f xs=>exact .inr rfl
 | an5 _ _ _ _=>exact .inr rfl
 | ck3 _=>exact .inr rfl
 | _=>simp[IK.cls] at h
theorem dc5 {op:IK}{id:Nat}{K:IV->Store->Prop}(h:op.cls<=1):opR P E op id fr σ K↔∃ v,bs9 P E op id fr σ v σ/\K v σ:=by
 cases op with
 | q q=>exact ⟨fun ⟨v,h,k⟩=>⟨v,⟨h,rfl⟩,k⟩,fun ⟨v,⟨h,_⟩,k⟩=>⟨v,h,k⟩⟩
 | bb6 f xs=>exact ⟨fun ⟨v,h,k⟩=>⟨v,⟨h,rfl⟩,k⟩,fun ⟨v,⟨h,_⟩,k⟩=>⟨v,h,k⟩⟩
 | an5 e n z ps=>exact ⟨fun ⟨out,h,k⟩=>⟨_,⟨out,h,rfl,rfl⟩,k⟩,fun ⟨_,⟨out,h,e1,_⟩,k⟩=>by subst e1; exact ⟨out,h,k⟩⟩
 | ck3 x=>exact ⟨fun ⟨h,k⟩=>⟨_,⟨h,rfl,rfl⟩,k⟩,fun ⟨_,⟨h,e1,_⟩,k⟩=>by subst e1; exact ⟨h,k⟩⟩
 | _=>simp[IK.cls] at h
theorem gm6 {op:IK}{id:Nat}{v:IV}(hk:op.cls<=1)(h:bs9 P E op id fr σ v σ'):σ'=σ:=by
 cases op with
 | q q=>exact h.2
 | bb6 f xs=>exact h.2
 | an5 e n z ps=>obtain ⟨_,_,_,h⟩:=h; exact h
 | ck3 x=>exact h.2.2
 | _=>simp[IK.cls] at hk
def ea4 (E:Nat->IV)(fr:Frm):IQ->IQ
 | .load a x=>.load a (.c (x.ev E fr))
 | .lkp t z ok x k=>.lkp t z ok (.c (x.ev E fr)) (.c (k.ev E fr))
 | .len k x=>.len k (.c (x.ev E fr))
 | q=>q
theorem hs8 {q:IQ}(f:Frm)(h:q.kind≠0):evq E f σ (ea4 E fr q)=evq E fr σ q:=by
 cases q with
 | load a x=>rfl
 | lkp t z ok x k=>rfl
 | len k x=>rfl
 | _=>exact absurd rfl h
theorem hs9 {fr fr':Frm}{q:IQ}(h:∀ t∈q.ops.flatMap IX.uses,fr.get t=fr'.get t):ea4 E fr q=ea4 E fr' q:=by
 cases q with
 | load a x=>simp only[ea4]; rw[ah5 (x:=x) (fun t ht=>h t (by simp[IQ.ops,ht]))]
 | lkp t z ok x k=>simp only[ea4]; rw[ah5 (x:=x) (fun t ht=>h t (by simp[IQ.ops,ht])),ah5 (x:=k) (fun t ht=>h t (by simp[IQ.ops,ht]))]
 | len k x=>simp only[ea4]; rw[ah5 (x:=x) (fun t ht=>h t (by simp[IQ.ops,ht]))]
 | _=>rfl
abbrev LE:=Nat×IQ×IV
def bp8 (E:Nat->IV)(fr:Frm)(i:Nat)(op:IK)(v:IV)(L:List LE):List LE :=
 match op with
 | .q q=>if q.kind=0 then L else (i,ea4 E fr q,v)::L
 | _=>L
theorem cj4 {fr fr':Frm}{i:Nat}{op:IK}{v:IV}{L:List LE}(h:∀ t∈op.ops.flatMap IX.uses,fr.get t=fr'.get t):bp8 E fr i op v L=bp8 E fr' i op v L:=by
 cases op with
 | q q=>simp only[bp8]; rw[hs9 (q:=q) (fun t ht=>h t ht)]
 | _=>rfl
theorem bt1 {i:Nat}{op:IK}{v:IV}{L:List LE}:∀ e∈L,e∈bp8 E fr i op v L:=by
 intro e he;unfold bp8;split
 ·split
  ·exact he
  ·exact zb _ he
 ·exact he
theorem gm7 {i:Nat}{op:IK}{v:IV}{L L':List LE}(h:∀ e∈L',e∈L):∀ e∈bp8 E fr i op v L',e∈bp8 E fr i op v L:=by
 intro e he
 cases op with
 | q q=>
  simp only[bp8] at he ⊢;by_cases hk:q.kind=0
  ·rw[if_pos hk] at he ⊢; exact h e he
  ·rw[if_neg hk] at he ⊢;rcases zg.1 he with rfl|he
   ·exact za ..
   ·exact zb _ (h e he)
 | _=>exact h e he
theorem dc6 {i:Nat}{op:IK}{v:IV}{L:List LE}(h:¬ op.cls<=1):bp8 E fr i op v L=L:=by
 cases op with
 | q q=>exfalso; apply h; simp only[IK.cls]; split<;>omega
 | _=>rfl
theorem ht4 {i j:Nat}{op op':IK}{v v':IV}{L:List LE}{fr':Frm}(e:LE):e∈bp8 E fr i op v (bp8 E fr' j op' v' L)↔e∈bp8 E fr' j op' v' (bp8 E fr i op v L):=by
 have key:∀ (fr:Frm) (i:Nat) (op:IK) (v:IV),(∃ x:LE,∀ L,bp8 E fr i op v L=x::L)\/∀ L,bp8 E fr i op v L=L:=by
  intro fr i op v
  cases op with
  | q q=>
   by_cases hk:q.kind=0
   ·exact .inr fun L=>by simp only[bp8,hk,if_true]
   ·exact .inl ⟨(i,ea4 E fr q,v),fun L=>by simp only[bp8,hk,if_false]⟩
  | _=>exact .inr fun _=>rfl
 rcases key fr i op v with ⟨x,hx⟩|hx<;>rcases key fr' j op' v' with ⟨y,hy⟩|hy<;>simp only[hx,hy]
 simp only[zg];constructor
 ·rintro (h|h|h)
  ·exact .inr (.inl h)
  ·exact .inl h
  ·exact .inr (.inr h)
 ·rintro (h|h|h)
  ·exact .inr (.inl h)
  ·exact .inl h
  ·exact .inr (.inr h)
def io9 (E:Nat->IV)(L:List LE)(m:Nat)(σ:Store):Prop:=∀ e∈L,m.testBit e.1=true->evq E [] σ e.2.1=zd e.2.2
theorem bp9 {L:List LE}:io9 E L 0 σ:=fun e _ h=>by simp at h
theorem bl6 {L L':List LE}{m:Nat}(h:∀ e∈L',e∈L)(hc:io9 E L m σ):io9 E L' m σ:=fun e he=>hc e (h e he)
abbrev dk5:=Nat×ae4×Nat×Nat
def ka4 (P:Program)(E:Nat->IV)(o:ae4)(id m:Nat)(L:List LE)(fr:Frm)(σ:Store)(K:IV->Store->Prop)(Ks:Prop):Prop :=
 (bi3 o fr=zd true/\opR P E o.op id fr σ (fun v σ'=>io9 E L m σ'/\K v σ'))\/(bi3 o fr=zd false/\Ks)
def ay1 (P:Program)(E:Nat->IV):List dk5->List LE->Frm->Store->(Frm->Store->Prop)->Prop
 | [],_,fr,σ,K=>K fr σ
 | (i,o,id,m)::rest,L,fr,σ,K=>ka4 P E o id m L fr σ (fun v σ'=>ay1 P E rest (bp8 E fr i o.op v L) (fr.ao5 o.dst v) σ' K) (ay1 P E rest L (fr.ao5 o.dst skV) σ K)
theorem gm8 {K:Frm->Store->Prop}:∀ (its:List dk5) (L L':List LE) (fr:Frm) (σ:Store),(∀ e∈L',e∈L)->ay1 P E its L fr σ K->ay1 P E its L' fr σ K:=by
 intro its
 induction its with
 | nil=>exact fun _ _ _ _ _ h=>h
 | cons it its ih=>
  obtain ⟨i,o,id,m⟩:=it;rintro L L' fr σ hs (⟨ha,h⟩|⟨ha,h⟩)
  ·exact .inl ⟨ha,am4 (fun v s ⟨c,k⟩=>⟨bl6 hs c,ih _ _ _ _ (gm7 hs) k⟩) h⟩
  ·exact .inr ⟨ha,ih _ _ _ _ hs h⟩
theorem bi1 {K:Frm->Store->Prop}(hK:∀ f f' s,FEq f f'->K f s->K f' s):∀ (its:List dk5) (L:List LE) (fr fr':Frm) (σ:Store),FEq fr fr'->ay1 P E its L fr σ K->ay1 P E its L fr' σ K:=by
 intro its
 induction its with
 | nil=>exact fun _ fr fr' σ h k=>hK _ _ _ h k
 | cons it its ih=>
  obtain ⟨i,o,id,m⟩:=it;rintro L fr fr' σ hf (⟨ha,h⟩|⟨ha,h⟩)
  ·refine .inl ⟨by rw[<- bl5 (fun t _=>hf t)]; exact ha,am4 (fun v s ⟨c,k⟩=>⟨c,?_⟩) (gl5 hf h)⟩;show ay1 P E its (bp8 E fr' i o.op v L) _ s K;rw[<- cj4 (fr:=fr) (fun t _=>hf t)]; exact ih _ _ _ _ (cy5 hf _ _) k
  ·exact .inr ⟨by rw[<- bl5 (fun t _=>hf t)]; exact ha,ih _ _ _ _ (cy5 hf _ _) h⟩
theorem fq9 {K K':Frm->Store->Prop}:∀ (its:List dk5) (L:List LE) (fr:Frm) (σ:Store),(∀ f s,K f s->K' f s)->ay1 P E its L fr σ K->ay1 P E its L fr σ K':=by
 intro its
 induction its with
 | nil=>exact fun _ _ _ hk h=>hk _ _ h
 | cons it its ih=>
  obtain ⟨i,o,id,m⟩:=it;rintro L fr σ hk (⟨ha,h⟩|⟨ha,h⟩)
  ·exact .inl ⟨ha,am4 (fun v s ⟨c,k⟩=>⟨c,ih _ _ _ hk k⟩) h⟩
  ·exact .inr ⟨ha,ih _ _ _ hk h⟩
theorem gm9 {op:IK}{id:Nat}{fr fr':Frm}{K:IV->Store->Prop}(h:∀ t∈op.ops.flatMap IX.uses,fr.get t=fr'.get t):opR P E op id fr σ K->opR P E op id fr' σ K:=by
 cases op with
 | q q=>simp only[opR]; rw[gl1 (fun t ht=>h t ht)]; exact fun h=>h
 | alloc z=>exact fun h=>h
 | box x=>simp only[opR]; rw[ah5 (x:=x) (fun t ht=>h t (by simp[IK.ops,ht]))]; exact fun h=>h
 | bsl e n z ps=>simp only[opR]; rw[au5 (fun t ht=>h t ht)]; exact fun h=>h
 | store e x y=>simp only[opR]; rw[ah5 (x:=x) (fun t ht=>h t (by simp[IK.ops,ht])),ah5 (x:=y) (fun t ht=>h t (by simp[IK.ops,ht]))]; exact fun h=>h
 | app e x y=>simp only[opR]; rw[ah5 (x:=x) (fun t ht=>h t (by simp[IK.ops,ht])),ah5 (x:=y) (fun t ht=>h t (by simp[IK.ops,ht]))]; exact fun h=>h
 | cj9=>exact fun h=>h
 | bn9 x=>simp only[opR]; rw[ah5 (x:=x) (fun t ht=>h t (by simp[IK.ops,ht]))]; exact fun h=>h
 | dc9 x=>simp only[opR]; rw[ah5 (x:=x) (fun t ht=>h t (by simp[IK.ops,ht]))]; exact fun h=>h
 | ch7 t x y z=>simp only[opR]; rw[ah5 (x:=x) (fun t ht=>h t (by simp[IK.ops,ht])),ah5 (x:=y) (fun t ht=>h t (by simp[IK.ops,ht])),ah5 (x:=z) (fun t ht=>h t (by simp[IK.ops,ht]))]; exact fun h=>h
 | call f xs=>simp only[opR]; rw[az7 (xs:=xs) h]; exact fun h=>h
 | bb6 f xs=>simp only[opR]; rw[az7 (xs:=xs) h]; exact fun h=>h
 | cw6 x xs=>
  simp only[IK.ops,zu,zh] at h
  simp only[opR]; rw[az7 (xs:=xs) (fun t ht=>h t (.inr ht)),ah5 (x:=x) (fun t ht=>h t (.inl ht))]; exact fun h=>h
 | an5 e n z ps=>simp only[opR]; rw[au5 (fun t ht=>h t ht)]; exact fun h=>h
 | ck3 x=>simp only[opR]; rw[ah5 (x:=x) (fun t ht=>h t (by simp[IK.ops,ht]))]; exact fun h=>h
 | bf3 x=>simp only[opR]; rw[ah5 (x:=x) (fun t ht=>h t (by simp[IK.ops,ht]))]; exact fun h=>h
 | ck4 x=>simp only[opR]; rw[ah5 (x:=x) (fun t ht=>h t (by simp[IK.ops,ht]))]; exact fun h=>h
 | fs1 x=>simp only[opR]; rw[ah5 (x:=x) (fun t ht=>h t (by simp[IK.ops,ht]))]; exact fun h=>h
 | dd2 e z x=>simp only[opR]; rw[ah5 (x:=x) (fun t ht=>h t (by simp[IK.ops,ht]))]; exact fun h=>h
 | clr e z x=>simp only[opR]; rw[ah5 (x:=x) (fun t ht=>h t (by simp[IK.ops,ht]))]; exact fun h=>h
 | st k xs=>simp only[opR]; rw[az7 (xs:=xs) h]; exact fun h=>h
def gn1 (p x:dk5):Prop :=
 gl6 p.2.1 x.2.1/\(p.2.1.op.cls<=1/\p.2.2.2=0/\(p.2.1.op.cls=0\/x.2.1.op.cls<=1\/x.2.2.2.testBit p.1=true\/db9 false p.2.1.op.kind x.2.1.op.kind=true) \/
  ¬ p.2.1.op.cls<=1/\db9 false p.2.1.op.kind x.2.1.op.kind=true/\x.2.2.2=0/\(p.2.2.2=0\/x.2.1.op.cls<=1/\p.2.2.2.testBit x.1=false))
theorem ht5 {i m:Nat}{op:IK}{v:IV}{L:List LE}(h:io9 E L m σ)(hb:m.testBit i=false):io9 E (bp8 E fr i op v L) m σ:=by
 intro e he hm;unfold bp8 at he;split at he
 ·split at he
  ·exact h e he hm
  ·rcases zg.1 he with rfl|he
   ·simp only at hm; rw[hb] at hm; cases hm
   ·exact h e he hm
 ·exact h e he hm
theorem ka5 {K:Frm->Store->Prop} (hK:∀ f f' s,FEq f f'->K f s->K f' s) {ix:Nat} {x:ae4} {kx mx:Nat} {post:List dk5} :
  ∀ (pre:List dk5) (L:List LE) (fr:Frm) (σ:Store),(∀ p∈pre,gn1 p (ix,x,kx,mx))->(∀ p∈pre,p.2.2.1≠kx/\σ.obj p.2.2.1=zk)->(pre.map (·.2.2.1)).Nodup->(pre≠[]->σ.obj kx=zk) ->
   (∀ p∈pre,p.2.1.op.kind=2->∀ y∈x.op.ops,bo6 p.2.2.1 (y.ev E fr)) ->
   ay1 P E (pre++(ix,x,kx,mx)::post) L fr σ K ->
   ka4 P E x kx mx L fr σ (fun v σ'=>ay1 P E (pre++post) (bp8 E fr ix x.op v L) (fr.ao5 x.dst v) σ' K) (ay1 P E (pre++post) L (fr.ao5 x.dst skV) σ K):=by
 intro pre
 induction pre with
 | nil=>intro L fr σ _ _ _ _ _ h; exact h
 | cons p pre ih=>
  intro L fr σ hfree hids hnd hnx hH h;obtain ⟨ip,p,kp,mp⟩:=p;obtain ⟨hap,hfr⟩:=hfree _ (za ..);obtain ⟨hpx,hkp⟩:=hids _ (za ..);simp only at hap hfr hpx hkp;have hnx0:=hnx (by simp);have hnd':=List.nodup_cons.1 (show (kp::pre.map (·.2.2.1)).Nodup from hnd)
  have hfx:∀ vp,∀ t∈x.uses,(fr.ao5 p.dst vp).get t=fr.get t:=fun vp t ht=>by
   rw[bf2,if_neg]; intro e; exact hap.2 t e ht
  have hfxo:∀ vp,∀ t∈x.op.ops.flatMap IX.uses,(fr.ao5 p.dst vp).get t=fr.get t:=fun vp t ht=>hfx vp t (bb5 ht)
  have hfp:∀ vx,∀ t∈p.uses,fr.get t=(fr.ao5 x.dst vx).get t:=fun vx t ht=>by
   rw[bf2,if_neg]; intro e; exact (hap.1 t e).1 ht
  have hfpo:∀ vx,∀ t∈p.op.ops.flatMap IX.uses,fr.get t=(fr.ao5 x.dst vx).get t:=fun vx t ht=>hfp vx t (bb5 ht)
  have feq:∀ vp vx,FEq ((fr.ao5 p.dst vp).ao5 x.dst vx) ((fr.ao5 x.dst vx).ao5 p.dst vp):=fun vp vx t=>by
   simp only[bf2];by_cases h1:x.dst=zd t
   ·have h2:p.dst≠zd t:=(hap.1 t h1).2;simp[h1,h2]
   ·simp[h1]
  have hactx:∀ vp ax,bi3 x (fr.ao5 p.dst vp)=zd ax->bi3 x fr=zd ax:=fun vp ax h=>by rw[<- bl5 (hfx vp)]; exact h
  have hactp:∀ {ap:Bool},bi3 p fr=zd ap->∀ vx,bi3 p (fr.ao5 x.dst vx)=zd ap:=fun hact vx=>by rw[<- bl5 (hfp vx)]; exact hact
  -- the rest,at a store where the fresh ones are fresh
  have IH:∀ (vp:IV) (L1:List LE) (σ1:Store),(∀ i,i≠kp->σ.obj i=zk->σ1.obj i=zk)->ay1 P E (pre++(ix,x,kx,mx)::post) L1 (fr.ao5 p.dst vp) σ1 K ->
    ka4 P E x kx mx L1 (fr.ao5 p.dst vp) σ1 (fun v σ'=>ay1 P E (pre++post) (bp8 E (fr.ao5 p.dst vp) ix x.op v L1) ((fr.ao5 p.dst vp).ao5 x.dst v) σ' K) (ay1 P E (pre++post) L1 ((fr.ao5 p.dst vp).ao5 x.dst skV) σ1 K):=by
   intro vp L1 σ1 fresh1 ht
   exact ih L1 (fr.ao5 p.dst vp) σ1 (fun q hq=>hfree q (zb _ hq))
    (fun q hq=>⟨(hids q (zb _ hq)).1,fresh1 _ (fun e=>hnd'.1 (by rw[<- e]; exact zi.2 ⟨q,hq,rfl⟩)) (hids q (zb _ hq)).2⟩)
    hnd'.2 (fun _=>fresh1 kx (fun e=>hpx e.symm) hnx0)
    (fun q hq hk2 y hy=>by
     have:y.ev E (fr.ao5 p.dst vp)=y.ev E fr:=ah5 fun t ht=>hfxo vp t (zr.2 ⟨y,hy,ht⟩)
     rw[this]; exact hH q (zb _ hq) hk2 y hy) ht
  rcases h with ⟨hact,hh⟩|⟨hact,hh⟩
  ·rcases hfr with ⟨kp1,hmp,hc⟩|⟨kp2,hfk,hmx,hc⟩
   ·-- p reads at most
    subst hmp;obtain ⟨vp,hd,_,htree⟩:=(dc5 kp1).1 hh;have hde:∀ {s:Store} vx,bs9 P E p.op kp fr s vp s->bs9 P E p.op kp (fr.ao5 x.dst vx) s vp s:=fun vx h=>bp7 (hfpo vx) h
    rcases IH vp _ σ (fun _ _ h=>h) htree with ⟨h1,h2⟩|⟨h1,h2⟩
    ·have h3:=gm9 (hfxo vp) h2
     have h4:opR P E x.op kx fr σ (fun v σ'=>bs9 P E p.op kp fr σ' vp σ'/\io9 E L mx σ'/\ay1 P E (pre++post) (bp8 E (fr.ao5 p.dst vp) ix x.op v (bp8 E fr ip p.op vp L)) ((fr.ao5 p.dst vp).ao5 x.dst v) σ' K):=by
      rcases hc with c0|cx|cm|ck
      ·exact am4 (fun v s ⟨c,k⟩=>⟨(cd2 (dc4 c0) hd).2 s,bl6 bt1 c,k⟩) h3
      ·obtain ⟨vx,e1,c,k⟩:=(dc5 cx).1 h3;exact (dc5 cx).2 ⟨vx,e1,hd,bl6 bt1 c,k⟩
      ·rcases jl5 kp1 with ⟨q,hq⟩|c0
       ·by_cases hk0:q.kind=0
        ·have c0:p.op.cls=0:=by rw[hq]; simp only[IK.cls,hk0]
         exact am4 (fun v s ⟨c,k⟩=>⟨(cd2 (dc4 c0) hd).2 s,bl6 bt1 c,k⟩) h3
        ·refine am4 (fun v s ⟨c,k⟩=>⟨?_,bl6 bt1 c,k⟩) h3;rw[hq];refine ⟨?_,rfl⟩
         have hmem:(ip,ea4 E fr q,vp)∈bp8 E fr ip p.op vp L:=by
          rw[hq];simp only[bp8,hk0,if_false];exact za ..
         have:=c _ hmem cm;rw[hs8 _ hk0] at this;exact this
       ·exact am4 (fun v s ⟨c,k⟩=>⟨(cd2 (dc4 c0) hd).2 s,bl6 bt1 c,k⟩) h3
      ·obtain ⟨kp5,kx5⟩:=ea2 ck;obtain ⟨vx,σ2,e1,c,k⟩:=(bd4 kx5).1 h3;have e1':bs9 P E x.op kx (fr.ao5 p.dst vp) σ vx σ2:=bp7 (fun t ht=>(hfxo vp t ht).symm) e1;obtain ⟨σ1',s1,_,s3,_⟩:=ea1 (B:=false) hd (fun h=>by cases h) e1' (fun h=>by cases h) ck (hfxo vp) (hfpo vx) hpx hkp hnx0 (hH _ (za ..));have hs:σ2=σ1':=gm6 kp1 s3;subst hs;exact (bd4 kx5).2 ⟨vx,σ2,s1,bp7 (fun t ht=>(hfpo vx t ht).symm) s3,bl6 bt1 c,k⟩
     refine .inl ⟨hactx _ _ h1,am4 (fun v s ⟨hd',c,k⟩=>⟨c,?_⟩) h4⟩;refine .inl ⟨hactp hact v,(dc5 kp1).2 ⟨vp,hde v hd',bp9,?_⟩⟩;rw[cj4 (fr':=fr) (hfxo vp)] at k;have k2:=bi1 hK _ _ _ _ _ (feq vp v) k;show ay1 P E (pre++post) (bp8 E (fr.ao5 x.dst v) ip p.op vp (bp8 E fr ix x.op v L)) _ s K;rw[<- cj4 (fr:=fr) (hfpo v)];exact gm8 _ _ _ _ _ (fun e he=>(ht4 e).1 he) k2
    ·refine .inr ⟨hactx _ _ h1,.inl ⟨hactp hact skV,(dc5 kp1).2 ⟨vp,hde skV hd,bp9,?_⟩⟩⟩;show ay1 P E (pre++post) (bp8 E (fr.ao5 x.dst skV) ip p.op vp L) _ σ K;rw[<- cj4 (fr:=fr) (hfpo skV)];exact bi1 hK _ _ _ _ _ (feq vp skV) h2
   ·-- p writes,or lays
    obtain ⟨kp5,kx5⟩:=ea2 hfk;obtain ⟨vp,σ1,hd,hchk,htree⟩:=(bd4 kp5).1 hh;subst hmx;rw[dc6 kp2] at htree;rcases IH vp _ σ1 (fun i hi h0=>ek6 kp5 hi hd h0) htree with ⟨h1,h2⟩|⟨h1,h2⟩
    ·obtain ⟨vx,σ2,e1,_,k⟩:=(bd4 kx5).1 h2;obtain ⟨σ1',s1,_,s3,_⟩:=ea1 (B:=false) hd (fun h=>by cases h) e1 (fun h=>by cases h) hfk (hfxo vp) (hfpo vx) hpx hkp hnx0 (hH _ (za ..));refine .inl ⟨hactx _ _ h1,(bd4 kx5).2 ⟨vx,σ1',s1,bp9,.inl ⟨hactp hact vx,(bd4 kp5).2 ⟨vp,σ2,s3,?_,?_⟩⟩⟩⟩
     ·rcases hc with h0|⟨cx,hb⟩
      ·subst h0; exact bp9
      ·have hs:σ2=σ1:=gm6 cx e1;subst hs;exact ht5 hchk hb
     ·show ay1 P E (pre++post) (bp8 E _ ip p.op vp (bp8 E fr ix x.op vx L)) _ σ2 K;rw[dc6 kp2];rw[cj4 (fr':=fr) (hfxo vp)] at k;exact bi1 hK _ _ _ _ _ (feq vp vx) k
    ·refine .inr ⟨hactx _ _ h1,.inl ⟨hactp hact skV,(bd4 kp5).2 ⟨vp,σ1,bp7 (hfpo skV) hd,hchk,?_⟩⟩⟩;show ay1 P E (pre++post) (bp8 E _ ip p.op vp L) _ σ1 K;rw[dc6 kp2];exact bi1 hK _ _ _ _ _ (feq vp skV) h2
  ·rcases IH skV L σ (fun _ _ h=>h) hh with ⟨h1,h2⟩|⟨h1,h2⟩
   ·refine .inl ⟨hactx _ _ h1,am4 (fun v s ⟨c,k⟩=>⟨c,?_⟩) (gm9 (hfxo skV) h2)⟩;refine .inr ⟨hactp hact v,?_⟩;replace k:ay1 P E (pre++post) (bp8 E (fr.ao5 p.dst skV) ix x.op v L) ((fr.ao5 p.dst skV).ao5 x.dst v) s K:=k;rw[cj4 (fr':=fr) (hfxo skV)] at k;exact bi1 hK _ _ _ _ _ (feq skV v) k
   ·exact .inr ⟨hactx _ _ h1,.inr ⟨hactp hact skV,bi1 hK _ _ _ _ _ (feq skV skV) h2⟩⟩
end Go.Id
namespace Go.Id
open Go
variable {P:Program} {w w' w'':World} {ρ ρ' ρ'':Rho} {E:Nat->IV} {σ σ':Store} {N n n':Nat} {fr:Frm} {a:Act} {pf:List Nat}
structure ki1 (P:Program) (pf:List Nat) (N:Nat) (ops:Array Oper) (anc:Nat->Nat->Prop) (base:Nat) (rem:List dk5) (listed:Array Bool):Prop where
 size:listed.size=ops.size
 un:∀ j,j<ops.size->(listed.getD j true=false↔∃ it∈rem,it.1=j)
 its:∀ it∈rem,∃ o,ops[it.1]? = zd o/\cj7 P pf N ops o=zd it.2.1/\it.2.2.1=base+it.1/\∀ y∈it.2.1.op.ops,IX.quiet y=true
 pw:rem.Pairwise fun p x=>(anc p.1 x.1\/gn1 p x)/\p.1≠x.1/\∀ o,ops[p.1]? = zd o->∀ e∈o.after,Region.binds .any e=true->e.on≠x.1
 dc:∀ j,listed.getD j false=true->∀ k,anc k j->listed.getD k false=true
theorem fr3 {ops:Array Oper} {anc:Nat->Nat->Prop} {n0 base:Nat} {ro:Option Nat} {Qw:Exit->Act->World->Prop} {K:Frm->Store->Prop} {ρ0:Rho} {w0:World} {ds:List Deferred}
  (hKf:∀ f f' s,FEq f f'->K f s->K f' s)
  (hfin:∀ fr σ ρ w a,n0<=σ.next->K fr σ->Sim E ρ w σ->FR ρ w N fr a.tmps->a.defers=ds->bg7 n0 ρ0 w0 ρ w->Qw .normal a w)
  (hed:∀ j o,ops[j]? = zd o->∀ e∈o.after,Region.binds .any e=true->e.on<ops.size/\e.on≠j)
  (hanc:∀ k j,anc k j->∀ o,ops[j]? = zd o->∃ e∈o.after,Region.binds .any e=true/\(e.on=k\/anc k e.on)) :
  ∀ (fuel:Nat) (rem:List dk5) (L:List LE) (listed:Array Bool) (fr:Frm) (σ:Store) (ρ:Rho) (w:World) (a:Act),rem.length=fuel->ki1 P pf N ops anc base rem listed->ay1 P E rem L fr σ K ->
   Sim E ρ w σ->FR ρ w N fr a.tmps->a.defers=ds->bg7 n0 ρ0 w0 ρ w->n0<=base->base+ops.size<=σ.next->(∀ it∈rem,ρ it.2.2.1=.no) ->
   wpAnyIn (fw ro) 0 P .any ops Qw fuel listed a w:=by
 intro fuel
 induction fuel with
 | zero=>
  intro rem L listed fr σ ρ w a hlen hr h hs hf hd hx hn0 hnx hno;have:rem=[]:=z0.1 hlen;subst this;refine ⟨?_,hfin fr σ ρ w a om h hs hf hd hx⟩;rw[zx];intro j hj;obtain ⟨h0,_⟩:=mem_ready.1 hj;obtain ⟨it,hit,_⟩:=(hr.un j (by rw[<- hr.size]; exact getD_lt h0)).1 h0
  cases hit
 | succ fuel ih=>
  intro rem L listed fr σ ρ w a hlen hr h hs hf hd hx hn0 hnx hno;refine ⟨fun hemp=>?_,fun i hi=>?_⟩
  ·exfalso
   cases rem with
   | nil=>cases hlen
   | cons it rem=>
    obtain ⟨o,ho,hc,hid,_⟩:=hr.its it (za ..)
    have hlt:it.1<ops.size:=by
     rcases zj it.1 ops.size with h'|h'
     ·exact h'
     ·simp[ze h'] at ho
    have:it.1∈Region.ready .any ops listed:=by
     refine mem_ready.2 ⟨(hr.un _ hlt).2 ⟨it,za ..,rfl⟩,o,ho,fun e he hb=>?_⟩;obtain ⟨h1,h2⟩:=hed _ o ho e he hb;have hj:e.on<listed.size:=by rw[hr.size]; exact h1
     by_cases hL:listed.getD e.on true=false
     ·obtain ⟨jt,hjt,hje⟩:=(hr.un _ h1).1 hL;rcases zg.1 hjt with rfl|hjt
      ·exact absurd hje.symm h2
      ·exact absurd hje.symm (((zl.1 hr.pw).1 jt hjt).2.2 o ho e he hb)
     ·simp[hj] at hL ⊢; exact hL
    rw[hemp] at this;cases this
  ·obtain ⟨h0,o,ho,hall⟩:=mem_ready.1 hi;have hlt:i<ops.size:=by rw[<- hr.size]; exact getD_lt h0
   obtain ⟨it,hit,hie⟩:=(hr.un i hlt).1 h0;obtain ⟨pre,post,rfl⟩:=z5 hit;obtain ⟨ix,x,kx,mx⟩:=it;simp only at hie;subst hie;obtain ⟨o',ho',hc,hkx,hqx⟩:=hr.its _ hit;simp only at ho' hc hkx hqx;rw[ho] at ho';cases ho';obtain ⟨hpp,hxp,hcross⟩:=z3.1 hr.pw;have hcx:=fun p hp=>hcross p hp _ (za ..)
   have hnotL:∀ p∈pre,listed.getD p.1 false≠true:=fun p hp hL=>by
    obtain ⟨op,hop,_⟩:=hr.its p (zc _ hp)
    have hpl:p.1<ops.size:=by
     rcases zj p.1 ops.size with h'|h'
     ·exact h'
     ·simp[ze h'] at hop
    have:=(hr.un p.1 hpl).2 ⟨p,zc _ hp,rfl⟩;rw[gl8 hL] at this;cases this
   have hfree:∀ p∈pre,gn1 p (ix,x,kx,mx):=fun p hp=>by
    rcases (hcx p hp).1 with ha|hf
    ·exfalso;obtain ⟨e,he,hb,heq⟩:=hanc _ _ ha o ho;have hle:=hall e he hb;rcases heq with heq|ha'
     ·exact hnotL p hp (by rw[<- heq]; exact hle)
     ·exact hnotL p hp (hr.dc _ hle _ ha')
    ·exact hf
   have hidp:∀ p∈pre,p.2.2.1=base+p.1:=fun p hp=>by
    obtain ⟨_,_,_,h1,_⟩:=hr.its p (zc _ hp);exact h1
   have hpull:=ka5 (P:=P) (E:=E) (K:=K) hKf (ix:=ix) (x:=x) (kx:=kx) (mx:=mx) (post:=post) pre L fr σ hfree
    (fun p hp=>⟨by rw[hidp p hp,hkx]; have:=(hcx p hp).2.1; omega,hs.aw1 _ (hno p (zc _ hp))⟩)
    (by
     rw[zy,z6];refine (List.Pairwise.and_mem.1 hpp).imp ?_;intro p q ⟨hp,hq,h1⟩;rw[hidp p hp,hidp q hq];have:=h1.2.1;omega)
    (fun _=>hs.aw1 _ (hno _ hit))
    (fun p hp _ y hy=>IX.dc1 (hqx y hy) hs hf (hno p (zc _ hp))) h
   obtain ⟨⟨fz,hk⟩,hdst,hdN,hg⟩:=bz9 hc;have hidx:kx<σ.next/\n0<=kx:=by rw[hkx]; omega
   have hmem:∀ it∈pre++post,it∈pre++(ix,x,kx,mx)::post:=fun it h=>by
    rcases zh.1 h with h|h
    ·exact zc _ h
    ·exact zn _ (zb _ h)
   have hne:∀ it∈pre++post,it.1≠ix:=fun it h=>by
    rcases zh.1 h with h|h
    ·exact (hcx it h).2.1
    ·exact fun e=>((zl.1 hxp).1 it h).2.1 e.symm
   have hrem:ki1 P pf N ops anc base (pre++post) (listed.setIfInBounds ix true):=by
    refine ⟨by simp[hr.size],fun j hj=>?_,fun it hit=>hr.its it (hmem it hit),?_,?_⟩
    ·by_cases hji:j=ix
     ·subst hji;have:j<listed.size:=by rw[hr.size]; exact hj
      constructor
      ·intro h; simp[this] at h
      ·rintro ⟨it,h1,h2⟩; exact absurd h2 (hne it h1)
     ·rw[getD_set_ne true (Ne.symm hji),hr.un j hj];constructor
      ·rintro ⟨it,h1,h2⟩;refine ⟨it,?_,h2⟩;rcases zh.1 h1 with h1|h1
       ·exact zc _ h1
       ·rcases zg.1 h1 with rfl|h1
        ·exact absurd h2.symm hji
        ·exact zn _ h1
      ·rintro ⟨it,h1,h2⟩; exact ⟨it,hmem it h1,h2⟩
    ·exact hr.pw.sublist (zv.append (zv.refl _) (z1 _ _))
    ·intro j hj k hk;by_cases hji:j=ix
     ·subst hji;obtain ⟨e,he,hb,heq⟩:=hanc _ _ hk o ho;have hle:=hall e he hb;rcases heq with rfl|ha'
      ·exact getD_set_true hle
      ·exact getD_set_true (hr.dc _ hle _ ha')
     ·rw[getD_set_ne false (Ne.symm hji)] at hj;exact getD_set_true (hr.dc _ hj _ hk)
   have hlen':(pre++post).length=fuel:=by simp at hlen ⊢; omega
   have hne2:∀ it∈pre++post,it.2.2.1≠kx:=fun it h=>by
    obtain ⟨_,_,_,h1,_⟩:=hr.its it (hmem it h);rw[h1,hkx];have:=hne it h;omega
   unfold wpOpIn;simp only[ho]
   have run:opR P E x.op kx fr σ (fun v σ'=>io9 E L mx σ'/\ay1 P E (pre++post) (bp8 E fr ix x.op v L) (fr.ao5 x.dst v) σ' K)->o.wpIn (fw ro) 0 P a w (wpAnyIn (fw ro) 0 P .any ops Qw fuel (listed.setIfInBounds ix true)) Qw:=by
    intro hop;refine ea9 hk hop hs hf om (fun hl=>⟨hno _ hit,hidx.1,hidx.2⟩) ?_;intro v σ' r ρ' w' hnx' hK hs' hv' hx' hno';refine ih (pre++post) _ _ _ σ' ρ' w' (a.put o.dst r) hlen' hrem hK.2 hs' ?_ (by rw[put_defers]; exact hd) (hx.trans (hx'.weak (zp _))) hn0 om ?_
    ·rw[hdst]; exact FR.ao5 (hf.mono hx') hdN hv'
    ·intro jt hjt;obtain ⟨jo,hjo,_,h1,_⟩:=hr.its jt (hmem jt hjt)
     have hjl:jt.1<ops.size:=by
      rcases zj jt.1 ops.size with h'|h'
      ·exact h'
      ·simp[ze h'] at hjo
     exact hno' _ (by rw[h1]; omega) (fun _=>hne2 jt hjt) (hno _ (hmem jt hjt))
   rcases hg with ⟨hg1,hg2⟩|⟨j,want,s,hg1,hgs,hg2⟩
   ·have hw:Region.wanted o (yielded ops a.tmps)=true:=by unfold Region.wanted; rw[hg1]
    rw[if_pos hw];rcases hpull with ⟨hact,hh⟩|⟨hact,hh⟩
    ·exact run hh
    ·simp[bi3,hg2] at hact
   ·rcases hpull with ⟨hact,hh⟩|⟨hact,hh⟩
    ·simp only[bi3,hg2] at hact;have hw:=cd7 hg1 hgs hf hact;rw[hw];exact run hh
    ·simp only[bi3,hg2] at hact;have hw:=cd7 hg1 hgs hf hact;rw[hw];refine ⟨fun f _=>trivial,?_⟩;exact ih (pre++post) _ _ _ σ ρ w (a.put o.dst undef) hlen' hrem hh hs (by rw[hdst]; exact FR.ao5 hf hdN go5) (by rw[put_defers]; exact hd) hx hn0 hnx (fun jt hjt=>hno _ (hmem jt hjt))
abbrev YO:=Nat×ae4×Nat
def ip1 (base:Nat)(l:List YO):List dk5:=l.map fun y=>(y.1,y.2.1,base+y.1,y.2.2)
def gn2 (p x:YO):Bool :=
 ff3 p.2.1 x.2.1&&((decide (p.2.1.op.cls<=1)&&p.2.2==0&&(p.2.1.op.cls==0||decide (x.2.1.op.cls<=1)||x.2.2.testBit p.1||db9 false p.2.1.op.kind x.2.1.op.kind)) ||
  (!decide (p.2.1.op.cls<=1)&&db9 false p.2.1.op.kind x.2.1.op.kind&&x.2.2==0&&(p.2.2==0||decide (x.2.1.op.cls<=1)&&!p.2.2.testBit x.1)))
theorem eu7 {p x:YO}{a b:Nat}(h:gn2 p x=true):gn1 (p.1,p.2.1,a,p.2.2) (x.1,x.2.1,b,x.2.2):=by
 unfold gn2 at h;simp only[zf,zm,decide_eq_true_eq,beq_iff_eq,Bool.not_eq_true',decide_eq_false_iff_not] at h;refine ⟨dc2 h.1,?_⟩;rcases h.2 with ⟨⟨h1,h2⟩,h3⟩|⟨⟨⟨h1,h2⟩,h3⟩,h4⟩
 ·refine .inl ⟨h1,h2,?_⟩;rcases h3 with ((h3|h3)|h3)|h3
  ·exact .inl h3
  ·exact .inr (.inl h3)
  ·exact .inr (.inr (.inl h3))
  ·exact .inr (.inr (.inr h3))
 ·exact .inr ⟨h1,h2,h3,h4⟩
def ff7 (ess:List (List Nat))(ms:List Nat):List YO->Bool
 | []=>true
 | p::xs=>xs.all (fun x=>((ms.getD x.1 0).testBit p.1||gn2 p x)&&p.1 != x.1&&!(ess.getD p.1 []).contains x.1)&&ff7 ess ms xs
theorem eu8 {ess:List (List Nat)}{ms:List Nat}{base:Nat}:∀ l:List YO,ff7 ess ms l=true->(ip1 base l).Pairwise fun p x=>((ms.getD x.1 0).testBit p.1=true\/gn1 p x)/\p.1≠x.1/\x.1 ∉ ess.getD p.1 []:=by
 intro l
 induction l with
 | nil=>intro _; exact .nil
 | cons p xs ih=>
  intro h;simp only[ff7,zf,zo] at h;refine zl.2 ⟨fun it hit=>?_,ih h.2⟩;obtain ⟨x,hx,rfl⟩:=zi.1 hit;obtain ⟨⟨h1,h2⟩,h3⟩:=h.1 x hx;refine ⟨?_,by simpa using h2,by simpa using h3⟩;rw[zm] at h1;rcases h1 with h1|h1
  ·exact .inl h1
  ·exact .inr (eu7 h1)
def ip2 (ios:List ae4)(l:List (Nat×Nat)):List YO:=l.map fun q=>(q.1,ios.getD q.1 default,q.2)
def yOK (ess:List (List Nat))(ios:List ae4)(l:List (Nat×Nat)):Bool :=
 let ms:=gm1 ess
 jl3 0 ess&&jl4 ms 0 ess&&ff7 ess ms (ip2 ios l)&&(ios.all fun o=>o.op.ops.all IX.quiet) &&
  l.all (fun q=>decide (q.1<ios.length))&&(z4 ios.length).all (fun j=>l.any fun q=>q.1==j)&&l.length==ios.length
theorem gn3 {n0 id:Nat}{ops:Array Oper}{ios:List ae4}{l:List (Nat×Nat)}{Q:Exit->Frm->Store->Prop}{ks:List Nat}(hm:P.follows .mixedOrders=true)(hc:bq2 P pf N ops ops.toList=zd ios)
  (hok:yOK (ops.toList.map ak2) ios l=true)
  (h:ay1 P E (ip1 σ.next (ip2 ios l)) [] fr { σ with next:=σ.next+l.length } (fun fr' σ'=>Q .normal (fr'.keep ks) σ')):R P E N n0 (.region id ops true) fr σ Q:=by
 intro hn ro h0 ρ w a hs hf hd hr;refine wpIn_region_any hm ?_;have hlen:ios.length=ops.size:=by rw[dm5 _ _ hc]; simp
 unfold yOK at hok;simp only[zf,zo,beq_iff_eq,decide_eq_true_eq] at hok;obtain ⟨⟨⟨⟨⟨⟨hed,hms⟩,hpr⟩,hq⟩,hlt⟩,hall⟩,hll⟩:=hok;generalize gm1 (ops.toList.map ak2)=ms at hms hpr;have hes:∀ (j:Nat) (o:Oper),ops[j]? = zd o->(ops.toList.map ak2)[j]? = zd (ak2 o):=fun j o ho=>by simp[ho]
 have hme:∀ (o:Oper) (k:Nat),k∈ak2 o->∃ e∈o.after,Region.binds .any e=true/\e.on=k:=fun o k hk=>by
  unfold ak2 at hk;obtain ⟨e,he,rfl⟩:=zi.1 hk;obtain ⟨h1,h2⟩:=zs.1 he;exact ⟨e,by simpa using h1,h2,rfl⟩
 have hem:∀ (o:Oper) (e:Edge),e∈o.after->Region.binds .any e=true->e.on∈ak2 o:=fun o e he hb=>
  zi.2 ⟨e,zs.2 ⟨by simpa using he,hb⟩,rfl⟩
 have hmemI:∀ it∈ip1 σ.next (ip2 ios l),∃ q∈l,it=(q.1,ios.getD q.1 default,σ.next+q.1,q.2):=fun it hit=>by
  obtain ⟨y,hy,rfl⟩:=zi.1 hit;obtain ⟨q,hq',rfl⟩:=zi.1 hy;exact ⟨q,hq',rfl⟩
 refine fr3 (E:=E) (pf:=pf) (N:=N) (anc:=fun k j=>(ms.getD j 0).testBit k=true) (n0:=n0) (base:=σ.next) (ρ0:=ρ) (w0:=w) (ds:=a.defers) (K:=fun fr' σ'=>Q .normal (fr'.keep ks) σ') ?_ ?_ ?_ ?_
  ops.size (ip1 σ.next (ip2 ios l)) [] _ fr { σ with next:=σ.next+l.length } ρ w.drew a (by simp[ip1,ip2,hll,hlen]) ?_ h
  (ea7 (cy3 hs) (fun i hi=>hs.fresh i om)) (hf.mono (bb4 0)) rfl ((bb4 n0).weak (zp _)) hn (by rw[hll,hlen]; exact zp _) ?_
 ·intro f f' s hff hK
  have:f'.keep ks=f.keep ks:=by
   unfold Frm.keep;exact zq fun k _=>by rw[hff k]
  rw[this]; exact hK
 ·intro fr' σ' ρ' w' a' hn' hK hs' hf' hd' hx;exact ⟨fr'.keep ks,σ',ρ',hn',hK,hs',hf'.keep ks,by rw[hd']; exact hd.mono hx,hr.mono hx,hx⟩
 ·intro j o ho e he hb;have:=dc3 _ _ hed j _ (hes j o ho) _ (hem o e he hb)
  have hj:j<ops.size:=by
   rcases zj j ops.size with h'|h'
   ·exact h'
   ·simp[ze h'] at ho
  omega
 ·intro k j hk o ho;have:=ek8 _ _ hms j _ (hes j o ho);simp only[Nat.zero_add] at this;rw[this] at hk;rcases gm2 _ _ hk with h1|⟨e,he,h1⟩
  ·simp at h1
  ·obtain ⟨ed,hed1,hb,heq⟩:=hme o e he;exact ⟨ed,hed1,hb,by rw[heq]; exact h1⟩
 ·refine ⟨by simp,fun j hj=>?_,fun it hit=>?_,?_,?_⟩
  ·constructor
   ·intro _;have:=hall j (by simp[List.mem_range,hlen,hj]);obtain ⟨q,hq',he⟩:=List.any_eq_true.1 this;have he:q.1=j:=by simpa using he
    exact ⟨(q.1,ios.getD q.1 default,σ.next+q.1,q.2),zi.2 ⟨_,zi.2 ⟨q,hq',rfl⟩,rfl⟩,he⟩
   ·intro _; simp[hj]
  ·obtain ⟨q,hq',rfl⟩:=hmemI it hit;have hql:=hlt q hq';have hqs:q.1<ops.size:=om
   obtain ⟨jt,hjt,hje⟩:=ff5 (base:=σ.next) ios 0 q.1 (Nat.zero_le _) om;obtain ⟨o,h1,h2⟩:=ff6 ops.toList ios 0 rfl hc jt hjt
   have hget:ios[q.1]? = zd jt.2.1:=by
    have:∀ (ios:List ae4) (i:Nat),∀ it∈ff2 σ.next i ios,ios[it.1-i]? = zd it.2.1:=by
     intro ios
     induction ios with
     | nil=>intro i it h; cases h
     | cons o os ih=>
      intro i it h;rcases zg.1 h with rfl|h
      ·simp
      ·have h1:=gm3 os _ it h;have h2:=ih _ it h;rw[show it.1-i=(it.1-(i+1))+1 from by omega]
       simpa using h2
    have:=this ios 0 jt hjt;rw[hje] at this
    simpa using this
   have hd:ios.getD q.1 default=jt.2.1:=by simp[zz,hget]
   rw[hje] at h1;refine ⟨o,h1,by simp only[hd]; exact h2,rfl,?_⟩;simp only[hd];exact hq _ (List.mem_of_getElem? hget)
  ·refine (eu8 (base:=σ.next) _ hpr).imp ?_;intro p x ⟨h1,h2,h3⟩;refine ⟨h1,h2,fun o ho e he hb heq=>h3 ?_⟩;have:(ops.toList.map ak2).getD p.1 []=ak2 o:=by rw[zz,hes p.1 o ho]; rfl
   rw[this,<- heq];exact hem o e he hb
  ·intro j hj;exfalso;by_cases hlt:j<ops.size
   ·simp[hlt] at hj
   ·simp[hlt] at hj
 ·intro it hit;obtain ⟨q,hq',rfl⟩:=hmemI it hit;exact hs.fresh _ (by show σ.next<=σ.next+q.1; omega)
def ip3 (ess:List (List Nat))(done:List Nat)(j:Nat):Bool:=(ess.getD j []).all fun e=>done.contains e
def ka6 (ess:List (List Nat))(ios:List ae4)(done:List Nat):Option Nat :=
 match (z4 ios.length).find? (fun j=>!done.contains j&&ip3 ess done j&&decide ((ios.getD j default).op.cls<=1)) with
 | some j=>zd j
 | none=>(z4 ios.length).find? fun j=>!done.contains j&&ip3 ess done j
def ip4 (ess:List (List Nat))(ios:List ae4):Nat->List Nat->List Nat
 | 0,done=>done
 | n+1,done=>match ka6 ess ios done with
  | some j=>ip4 ess ios n (done++[j])
  | none=>done
def iw6 (ms:List Nat)(ios:List ae4)(j:Nat):List Nat->Nat
 | []=>0
 | p::ps=>if (ios.getD p default).op.cls=1&&!(ms.getD j 0).testBit p&&!db9 false (ios.getD p default).op.kind (ios.getD j default).op.kind then 2^p ||| iw6 ms ios j ps else iw6 ms ios j ps
def ip5 (ms:List Nat)(ios:List ae4):List Nat->List Nat->List (Nat×Nat)
 | _,[]=>[]
 | ahead,j::js=>(j,if (ios.getD j default).op.cls<=1 then 0 else iw6 ms ios j ahead)::ip5 ms ios (j::ahead) js
def gn4 (ess:List (List Nat))(ios:List ae4):List (Nat×Nat):=ip5 (gm1 ess) ios [] (ip4 ess ios ios.length [])
end Go.Id
namespace Go.Id
open Go
variable {P:Program} {w w' w'':World} {ρ ρ' ρ'':Rho} {E:Nat->IV} {σ σ':Store} {N n n':Nat} {fr:Frm} {a:Act} {pf:List Nat}
inductive IC where
 | skip
 | reg (id:Nat) (ops:List ae4) (keep:List Nat)
 | hq9 (id:Nat) (ops:List ae4) (B:Bool) (keep:List Nat)
 | hk9 (id:Nat) (ops:List YO) (keep:List Nat)
 | seq (a b:IC)
 | cond (x:IX) (a b:IC)
 | block (id:Nat) (a:IC)
 | loop (a:IC)
 | exit (id:Nat)
 | ret
 | by1 (g:IX) (ps:List Nat) (asg a:IC)
 | scope (a:IC)
 deriving Inhabited
abbrev Ann:=List (Nat×List Nat)
abbrev iw2:IC:=.reg 0 [⟨zk,zk,.st .nev []⟩] []
def bh6 (P:Program)(pf:List Nat)(N:Nat)(an:Ann):Code->Option IC
 | .skip=>zd .skip
 | .label _=>zd .skip
 | .region id ops draw=>match draw,bq2 P pf N ops ops.toList with
  | false,zd ios=>zd (.reg id ios ((an.lookup id).getD []))
  | true,zd ios=>if P.follows .mixedOrders=true/\jy5 (ops.toList.map ak2) ios (ek7 ios)=true/\(pf.contains 2000000&&ek7 ios)=false then zd (.hq9 id ios (ek7 ios) ((an.lookup id).getD [])) else
   if P.follows .mixedOrders=true/\yOK (ops.toList.map ak2) ios (gn4 (ops.toList.map ak2) ios)=true then zd (.hk9 id (ip2 ios (gn4 (ops.toList.map ak2) ios)) ((an.lookup id).getD [])) else zd iw2
  | _,_=>zd iw2
 | .seq a b=>match bh6 P pf N an a,bh6 P pf N an b with
  | some x,zd y=>zd (.seq x y)
  | _,_=>zk
 | .cond c a b=>match aj3 c,bh6 P pf N an a,bh6 P pf N an b with
  | some i,zd x,zd y=>zd (.cond i x y)
  | _,_,_=>zd iw2
 | .block id a=>(bh6 P pf N an a).map (.block id)
 | .loop a=>(bh6 P pf N an a).map .loop
 | .exit id=>zd (.exit id)
 | .ret=>zd .ret
 | .rangeFunc g ps assign body=>match bh6 P pf N an assign,aj3 g,bh6 P pf N an body with
  | some y,zd i,zd x=>if ps.toList.all (fun p=>decide (p<N)) then zd (.by1 i ps.toList y x) else zd iw2
  | _,_,_=>zd iw2
 | .scope a=>(bh6 P pf N an a).map .scope
 | _=>zd iw2
def RI (P:Program)(E:Nat->IV)(N n0:Nat)(ic:IC)(fr:Frm)(σ:Store)(Q:Exit->Frm->Store->Prop):Prop :=
 ∀ (pf:List Nat) (an:Ann) (c:Code),bh6 P pf N an c=zd ic->R P E N n0 c fr σ Q
def wpI (P:Program)(E:Nat->IV)(N n0:Nat):IC->Frm->Store->(Exit->Frm->Store->Prop)->Prop
 | .skip,fr,σ,Q=>Q .normal fr σ
 | .reg _ ops keep,fr,σ,Q=>cd5 P E ops σ.next fr { σ with next:=σ.next+cd6 ops } (fun fr' σ'=>Q .normal (fr'.keep keep) σ')
 | .hq9 _ ops B keep,fr,σ,Q=>bz8 P E B (ff2 σ.next 0 ops) fr { σ with next:=σ.next+ops.length } (fun fr' σ'=>Q .normal (fr'.keep keep) σ')
 | .hk9 _ ops keep,fr,σ,Q=>ay1 P E (ip1 σ.next ops) [] fr { σ with next:=σ.next+ops.length } (fun fr' σ'=>Q .normal (fr'.keep keep) σ')
 | .seq a b,fr,σ,Q=>wpI P E N n0 a fr σ (fun e fr' σ'=>match e with|.normal=>wpI P E N n0 b fr' σ' Q|e=>Q e fr' σ')
 | .cond x a b,fr,σ,Q=>∃ t,x.ev E fr=.bool t/\if t then wpI P E N n0 a fr σ Q else wpI P E N n0 b fr σ Q
 | .block id a,fr,σ,Q=>wpI P E N n0 a fr σ (by4 id Q)
 | .loop a,fr,σ,Q=>RI P E N n0 (.loop a) fr σ Q
 | .exit id,fr,σ,Q=>Q (.exit id) fr σ
 | .ret,fr,σ,Q=>Q .ret fr σ
 | .by1 g ps y a,fr,σ,Q=>RI P E N n0 (.by1 g ps y a) fr σ Q
 | .scope a,fr,σ,Q=>wpI P E N n0 a fr σ (gk7 Q)
theorem iw3 {n0:Nat}{c:Code}{ks:List Nat}{Q:Exit->Frm->Store->Prop}(h:R P E N n0 c fr σ (fun e fr' σ'=>Q e (fr'.keep ks) σ')):R P E N n0 c fr σ Q :=
 fun hn ro h0 ρ w a hs hf hd hr=>wpIn_mono (h hn ro h0 ρ w a hs hf hd hr) fun _ _ _ ⟨fr',σ',ρ',hn',q,hs',hf',rest⟩=>⟨fr'.keep ks,σ',ρ',hn',q,hs',hf'.keep ks,rest⟩
theorem bh9 {n0:Nat}{Q:Exit->Frm->Store->Prop}(h:wpI P E N n0 iw2 fr σ Q):False:=by
 obtain ⟨act,ha,h⟩:=h;cases ha;obtain ⟨r,hr,_⟩:=h;cases hr
theorem hq6 {n0:Nat}{an:Ann}:∀ (c:Code) (ic:IC) (fr:Frm) (σ:Store) (Q:Exit->Frm->Store->Prop),bh6 P pf N an c=zd ic->wpI P E N n0 ic fr σ Q->R P E N n0 c fr σ Q:=by
 intro c
 induction c with
 | skip=>intro ic fr σ Q hc h; cases hc; exact jk5 h
 | label l=>intro ic fr σ Q hc h; cases hc; exact iv9 h
 | region id ops draw=>
  intro ic fr σ Q hc h;simp only[bh6] at hc;split at hc
  ·rename_i ios hios;cases hc;exact iw3 (hw6 (Q:=fun e fr' σ'=>Q e (fr'.keep _) σ') hios h)
  ·rename_i ios hios;by_cases hok:P.follows .mixedOrders=true/\jy5 (ops.toList.map ak2) ios (ek7 ios)=true/\(pf.contains 2000000&&ek7 ios)=false
   ·rw[if_pos hok] at hc;cases hc;exact gm5 hok.1 hios hok.2.1 h
   ·rw[if_neg hok] at hc;by_cases hoy:P.follows .mixedOrders=true/\yOK (ops.toList.map ak2) ios (gn4 (ops.toList.map ak2) ios)=true
    ·rw[if_pos hoy] at hc;cases hc;have hl:(ip2 ios (gn4 (ops.toList.map ak2) ios)).length=(gn4 (ops.toList.map ak2) ios).length:=by simp[ip2]
     refine gn3 (ks:=(an.lookup id).getD []) hoy.1 hios hoy.2 ?_;rw[<- hl];exact h
    ·rw[if_neg hoy] at hc; cases hc; exact (bh9 h).elim
  ·cases hc; exact (bh9 h).elim
 | seq a b iha ihb=>
  intro ic fr σ Q hc h;simp only[bh6] at hc;split at hc
  ·rename_i x y hx hy;cases hc;refine jk4 ((iha _ fr σ _ hx h).mono ?_);intro e fr' σ' q
   cases e with
   | normal=>exact ihb _ fr' σ' Q hy q
   | _=>exact q
  ·cases hc
 | cond c a b iha ihb=>
  intro ic fr σ Q hc h;simp only[bh6] at hc;split at hc
  ·rename_i i x y hi hx hy;cases hc;obtain ⟨t,ht,h⟩:=h;refine jk7 hi ht ?_
   cases t with
   | true=>exact iha _ fr σ Q hx h
   | false=>exact ihb _ fr σ Q hy h
  ·cases hc; exact (bh9 h).elim
 | block id a ih=>
  intro ic fr σ Q hc h;obtain ⟨y,hy,he⟩:=map_some hc;cases he
  exact gk6 (ih _ fr σ _ hy h)
 | loop a ih=>
  intro ic fr σ Q hc h;have hc':=hc;obtain ⟨y,hy,he⟩:=map_some hc;cases he
  exact h pf an _ hc'
 | scope a ih=>
  intro ic fr σ Q hc h;obtain ⟨y,hy,he⟩:=map_some hc;cases he
  exact iw1 (ih _ fr σ _ hy h)
 | exit id=>intro ic fr σ Q hc h; cases hc; exact jk6 h
 | ret=>intro ic fr σ Q hc h; cases hc; exact ka3 h
 | rangeFunc g ps assign body _ _=>
  intro ic fr σ Q hc h;have hc':=hc;simp only[bh6] at hc;split at hc
  ·split at hc
   ·cases hc;exact h pf an _ hc'
   ·cases hc; exact (bh9 h).elim
  ·cases hc; exact (bh9 h).elim
 | _=>intro ic fr σ Q hc h; cases hc; exact (bh9 h).elim
theorem bp6 {n0:Nat}(ic:IC)(fr:Frm)(σ:Store)(Q:Exit->Frm->Store->Prop)(h:wpI P E N n0 ic fr σ Q):RI P E N n0 ic fr σ Q :=
 fun pf an c hc=>hq6 (pf:=pf) (an:=an) c ic fr σ Q hc h
theorem gk8 {n0:Nat}{x:IC}{Q:Exit->Frm->Store->Prop}(I:Nat->Frm->Store->Prop)(m:Nat)(h:I m fr σ)(hI:∀ m fr σ,I m fr σ->wpI P E N n0 x fr σ (eu4 I m Q)):RI P E N n0 (.loop x) fr σ Q:=by
 intro pf an c hc
 cases c with
 | loop c=>
  obtain ⟨y,hy,he⟩:=map_some hc;cases he
  exact io8 I m h (fun m fr σ hi=>bp6 _ _ _ _ (hI m fr σ hi) pf an _ hy)
 | region id ops draw=>
  exfalso;simp only[bh6] at hc;split at hc
  ·cases hc
  ·split at hc<;>first|(cases hc; done)|(split at hc<;>cases hc)
  ·cases hc
 | seq a b=>simp only[bh6] at hc; split at hc<;>cases hc
 | cond c a b=>simp only[bh6] at hc; split at hc<;>cases hc
 | block id a=>obtain ⟨_,_,h⟩:=map_some hc; cases h
 | scope a=>obtain ⟨_,_,h⟩:=map_some hc; cases h
 | rangeFunc g ps assign body=>
  exfalso;simp only[bh6] at hc;split at hc
  ·split at hc<;>cases hc
  ·cases hc
 | _=>cases hc
inductive JX where
 | ret
 | exit (i:Nat)
 deriving Inhabited
def JX.code:JX->Code
 | .ret=>.ret
 | .exit i=>.exit i
def iw4 (Q:Exit->Frm->Store->Prop)(fr:Frm)(σ:Store):Option JX->Prop
 | none=>Q .normal fr σ
 | some .ret=>Q .ret fr σ
 | some (.exit i)=>Q (.exit i) fr σ
def db7 (id:Nat)(L:LoopState->Option JX->aj5)(K:IV->Store->Prop):Exit->Frm->Store->Prop
 | .normal,_,σ=>σ.obj id=zd (L .busy zk)/\K (.bool true) (σ.put id (L .ready zk))
 | .ret,_,σ=>σ.obj id=zd (L .busy zk)/\K (.bool false) (σ.put id (L .done (zd .ret)))
 | .exit i,_,σ=>σ.obj id=zd (L .busy zk)/\K (.bool false) (σ.put id (L .done (zd (.exit i))))
 | _,_,_=>False
theorem hq7 {n0:Nat}{g:IX}{ps:List Nat}{y x:IC}{Q:Exit->Frm->Store->Prop}
  (h:∀ L:LoopState->Option JX->aj5,
   (∀ (σ':Store) (args:List IV) (K:IV->Store->Prop),args.length=ps.length->σ'.obj σ.next=zd (L .ready zk) ->
    RI P E N σ'.next y (dk6 fr ps args) σ' (fun e f s=>e=.normal/\s.obj σ.next=zd (L .ready zk)/\RI P E N σ'.next x f (s.put σ.next (L .busy zk)) (db7 σ.next L K))->CYd P E σ.next args σ' K) ->
   CVf P E (g.ev E fr) [.yield σ.next] ⟨σ.next+1,(σ.put σ.next (L .ready zk)).obj⟩ fun _ σ2=>
    σ.next<=σ2.next/\∃ st pend,st≠.busy/\σ2.obj σ.next=zd (L st pend)/\iw4 Q fr (σ2.kill σ.next) pend) :
  RI P E N n0 (.by1 g ps y x) fr σ Q:=by
 intro pf an c hc
 cases c with
 | rangeFunc go psA assign body=>
  simp only[bh6] at hc;split at hc
  ·rename_i ya i yb hasg hi hy;split at hc
   ·rename_i hall;cases hc;have hps:∀ p∈psA.toList,p<N:=fun p hp=>by simpa using zo.1 hall p hp
    have h':=h (fun s p=>.loop N fr psA.toList.toArray assign body s (p.map JX.code)) (fun σ' args K hl ho hR=>by
     refine jo5 hps hl ho ((hR pf an assign hasg).mono fun e f s q=>⟨q.1,q.2.1,(q.2.2 pf an body hy).mono fun e f s q=>?_⟩)
     cases e with
     | normal=>exact q
     | ret=>exact q
     | exit i=>exact q
     | _=>exact q.elim)
    exact ev5 (n0:=n0) (Q:=Q) (ps:=psA.toList) (asg:=assign) (body:=body) (E:=E) (fr:=fr) (σ:=σ) (N:=N) hi (h'.mono (by
     rintro v s ⟨hn,st,pend,hst,hob,hq⟩;refine ⟨hn,st,pend.map JX.code,hst,hob,?_⟩
     cases pend with
     | none=>exact hq
     | some j=>cases j<;>exact hq))
   ·cases hc
  ·cases hc
 | region id ops draw=>
  exfalso;simp only[bh6] at hc;split at hc
  ·cases hc
  ·split at hc<;>first|(cases hc; done)|(split at hc<;>cases hc)
  ·cases hc
 | seq a b=>simp only[bh6] at hc; split at hc<;>cases hc
 | cond c a b=>simp only[bh6] at hc; split at hc<;>cases hc
 | block id a=>obtain ⟨_,_,h⟩:=map_some hc; cases h
 | scope a=>obtain ⟨_,_,h⟩:=map_some hc; cases h
 | loop a=>obtain ⟨_,_,h⟩:=map_some hc; cases h
 | _=>cases hc
theorem ba6 {n0:Nat}{x:IC}{Q Q':Exit->Frm->Store->Prop}(h:RI P E N n0 x fr σ Q)(hq:∀ e fr σ,Q e fr σ->Q' e fr σ):RI P E N n0 x fr σ Q' :=
 fun pf an c hc=>(h pf an c hc).mono hq
end Go.Id
