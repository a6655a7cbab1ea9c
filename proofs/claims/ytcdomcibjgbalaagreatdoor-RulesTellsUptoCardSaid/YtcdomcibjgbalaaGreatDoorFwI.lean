/- Regions whose order is open: which operations may be taken ahead of which. Conditions: none; over any program. -/
import Derived.Test.YtcdomcibjgbalaaGreatDoorFwR
import Derived.OrdersIn
open List renaming mem_cons_self→za,mem_cons_of_mem→zb,mem_append_left→zc,mem_cons→zg,mem_append→zh,mem_map→zi,pairwise_cons→zl,mem_append_right→zn,all_eq_true→zo,map_congr_left→zq,mem_flatMap→zr,mem_filter→zs,flatMap_append→zt,flatMap_cons→zu,Sublist→zv,eq_nil_iff_forall_not_mem→zx,nodup_iff_pairwise_ne→zy,getD_eq_getElem?_getD→zz,length_eq_zero_iff→z0,sublist_cons_self→z1,pairwise_append→z3,range→z4,append_of_mem→z5,pairwise_map→z6
open Option renaming some→zd,none→zk,map_some→zw
open Array renaming getElem?_eq_none→ze
open Bool renaming and_eq_true→zf,or_eq_true→zm
open Nat renaming lt_or_ge→zj,le_refl→zp
open Iff renaming rfl→z2
set_option linter.all false
private theorem om{P:Prop}(h:P:=by omega):P:=h
namespace Go.Id
open Go
variable {P:Program} {w w' w'':World} {ρ ρ' ρ'':Rho} {E:Nat->IV} {σ σ':Store} {N n n':Nat} {fr:Frm} {a:Act} {pf:List Nat}
def IQ.kind:IQ->Nat
 | .load _ _=>1
 | .len 0 _=>0
 | .len 1 _=>0
 | .len _ _=>6
 | .lkp _ _ _ _ _=>5
 | _=>0
def SK.kind:SK->Nat
 | .nev=>0
 | _=>6
def IK.kind:IK->Nat
 | .q u=>u.kind
 | .alloc _|.box _|.bsl _ _ _ _|.dj2 _ _ _=>2
 | .app _ _ _=>3
 | .bb1 _ _|.aj3 _ _ _ _|.cu6 _=>0
 | .store _ _ _=>4
 | .st k _=>k.kind
 | _=>6
def IX.uses:IX->List Nat
 | .t n=>[n]
 | _=>[]
def IQ.ops:IQ->List IX
 | .mov x|.not x|.neg x|.au1 _ _ x|.conv _ x|.hu4 x|.len _ x|.bg4 _ x|.fld _ _ x|.slz x|.ext _ x|.load _ x|.ldt _ x|.ip6 x=>[x]
 | .pick c a b=>[c,a,b]
 | .bin _ x y|.eqs _ _ _ x y|.ei4 _ x y|.ei5 _ _ x y|.idx _ _ _ x y|.ix1 x y|.mm _ x y|.lkp _ _ _ x y|.ibs x y=>[x,y]
 | .slc _ x lo hi|.gl3 x lo hi=>x::(lo.toList++hi.toList)
 | .clp _ x lo hi mx=>[x,lo,hi,mx]
 | .mkf _ f c=>f++c
 | .bld _ ps=>ps.map (·.2.2)
def IK.ops:IK->List IX
 | .q u=>u.ops
 | .alloc _=>[]
 | .box x=>[x]
 | .bsl _ _ _ ps=>ps.map (·.2.2)
 | .store _ x y=>[x,y]
 | .app _ s x=>[s,x]
 | .ck6=>[]
 | .bn6 x|.dc5 x=>[x]
 | .ci4 _ x k v=>[x,k,v]
 | .call _ xs|.bb1 _ xs=>xs
 | .cw7 x xs=>x::xs
 | .aj3 _ _ _ ps=>ps.map (·.2.2)
 | .cu6 x|.be9 x|.ck7 x|.fu2 x|.dj2 _ _ x|.clr _ _ x=>[x]
 | .st _ xs=>xs
def ae7.uses (o:ae7):List Nat:=(o.op.ops.flatMap IX.uses)++(match o.guard with|some (s,_)=>[s]|none=>[])
def FEq (fr fr':Frm):Prop:=∀t,fr.get t=fr'.get t
theorem FEq.refl (fr:Frm):FEq fr fr:=λ_=>rfl
theorem ah1 {fr fr':Frm}{x:IX}(h:∀t∈x.uses,fr.get t=fr'.get t):x.ev E fr=x.ev E fr':=by
 cases x with
 | t n=>exact h n (by simp[IX.uses])
 | _=>rfl
theorem az2 {fr fr':Frm}{xs:List IX}(h:∀t∈xs.flatMap IX.uses,fr.get t=fr'.get t):xs.map (·.ev E fr)=xs.map (·.ev E fr'):=
 zq λx hx=>ah1 λt ht=>h t (zr.2 ⟨x,hx,ht⟩)
theorem cc6 {fr fr':Frm}{x:Option IX}(h:∀t∈x.toList.flatMap IX.uses,fr.get t=fr'.get t):x.map (·.ev E fr)=x.map (·.ev E fr'):=by
 cases x with
 | none=>rfl
 | some x=>simp only[zw];rw[ah1 (λt ht=>h t (by simpa using ht))]
theorem au2 {fr fr':Frm}{ps:List (Nat×Nat×IX)}(h:∀t∈(ps.map (·.2.2)).flatMap IX.uses,fr.get t=fr'.get t) :
  (ps.map λp=>(p.1,p.2.1,p.2.2.ev E fr))=ps.map λp=>(p.1,p.2.1,p.2.2.ev E fr'):=
 zq λp hp=>by
  have:p.2.2.ev E fr=p.2.2.ev E fr':=ah1 λt ht=>h t (zr.2 ⟨p.2.2,zi.2 ⟨p,hp,rfl⟩,ht⟩)
  rw[this]
theorem gm9 {fr fr':Frm}{q:IQ}(h:∀t∈q.ops.flatMap IX.uses,fr.get t=fr'.get t):evq E fr σ q=evq E fr' σ q:=by
 cases q with
 | mkf f fs cs=>
  simp only[IQ.ops,zt,zh] at h;simp only[evq]
  rw[az2 (λt ht=>h t (.inl ht)),az2 (λt ht=>h t (.inr ht))]
 | bld z ps=>simp only[evq];rw[au2 h]
 | slc e x lo hi=>
  simp only[IQ.ops,zu,zt,zh] at h;simp only[evq]
  rw[ah1 (x:=x) (λt ht=>h t (.inl ht)),cc6 (x:=lo) (λt ht=>h t (.inr (.inl ht))),cc6 (x:=hi) (λt ht=>h t (.inr (.inr ht)))]
 | gl3 x lo hi=>
  simp only[IQ.ops,zu,zt,zh] at h;simp only[evq]
  rw[ah1 (x:=x) (λt ht=>h t (.inl ht)),cc6 (x:=lo) (λt ht=>h t (.inr (.inl ht))),cc6 (x:=hi) (λt ht=>h t (.inr (.inr ht)))]
 | clp e x lo hi mx=>
  simp only[evq]
  rw[ah1 (x:=x) (λt ht=>h t (by simp[IQ.ops,ht])),ah1 (x:=lo) (λt ht=>h t (by simp[IQ.ops,ht])),ah1 (x:=hi) (λt ht=>h t (by simp[IQ.ops,ht])),ah1 (x:=mx) (λt ht=>h t (by simp[IQ.ops,ht]))]
 | pick c x y=>
  simp only[evq]
  rw[ah1 (x:=c) (λt ht=>h t (by simp[IQ.ops,ht])),ah1 (x:=x) (λt ht=>h t (by simp[IQ.ops,ht])),ah1 (x:=y) (λt ht=>h t (by simp[IQ.ops,ht]))]
 | bin op x y=>simp only[evq];rw[ah1 (x:=x) (λt ht=>h t (by simp[IQ.ops,ht])),ah1 (x:=y) (λt ht=>h t (by simp[IQ.ops,ht]))]
 | eqs a b c x y=>simp only[evq];rw[ah1 (x:=x) (λt ht=>h t (by simp[IQ.ops,ht])),ah1 (x:=y) (λt ht=>h t (by simp[IQ.ops,ht]))]
 | ei4 a x y=>simp only[evq];rw[ah1 (x:=x) (λt ht=>h t (by simp[IQ.ops,ht])),ah1 (x:=y) (λt ht=>h t (by simp[IQ.ops,ht]))]
 | ei5 a b x y=>simp only[evq];rw[ah1 (x:=x) (λt ht=>h t (by simp[IQ.ops,ht])),ah1 (x:=y) (λt ht=>h t (by simp[IQ.ops,ht]))]
 | idx a b c x y=>simp only[evq];rw[ah1 (x:=x) (λt ht=>h t (by simp[IQ.ops,ht])),ah1 (x:=y) (λt ht=>h t (by simp[IQ.ops,ht]))]
 | lkp a b c x y=>simp only[evq];rw[ah1 (x:=x) (λt ht=>h t (by simp[IQ.ops,ht])),ah1 (x:=y) (λt ht=>h t (by simp[IQ.ops,ht]))]
 | mm a x y=>simp only[evq];rw[ah1 (x:=x) (λt ht=>h t (by simp[IQ.ops,ht])),ah1 (x:=y) (λt ht=>h t (by simp[IQ.ops,ht]))]
 | ibs x y=>simp only[evq];rw[ah1 (x:=x) (λt ht=>h t (by simp[IQ.ops,ht])),ah1 (x:=y) (λt ht=>h t (by simp[IQ.ops,ht]))]
 | ix1 x y=>simp only[evq];rw[ah1 (x:=x) (λt ht=>h t (by simp[IQ.ops,ht])),ah1 (x:=y) (λt ht=>h t (by simp[IQ.ops,ht]))]
 | _=>simp only[evq];rw[ah1 (λt ht=>h t (by simp[IQ.ops,ht]))]
theorem hx8 {q:IQ}(h:q.kind=0):evq E fr σ q=evq E fr σ' q:=by
 cases q with
 | load a x=>simp[IQ.kind] at h
 | lkp a b c x y=>simp[IQ.kind] at h
 | len k x=>
  simp only[evq]
  match k,h with
  | 0,_=>unfold cc2;split<;>first|rfl|simp_all [ho7]
  | 1,_=>unfold cc2;split<;>first|rfl|simp_all [ho7]
  | k+2,h=>simp[IQ.kind] at h
 | _=>rfl
def bs4 (P:Program)(E:Nat->IV)(op:IK)(id:Nat)(fr:Frm)(σ:Store)(v:IV)(σ':Store):Prop :=
 match op with
 | .q q=>evq E fr σ q=zd v/\σ'=σ
 | .alloc z=>v=.ptr id 0/\σ'=σ.put id (.cells z)
 | .box x=>(x.ev E fr).cs.all IV.leaf=true/\v=.ptr id 0/\σ'=σ.put id (.cells (x.ev E fr).cs)
 | .bsl esz n z parts=>∃out,at7 (rep z n) (parts.map λp=>(p.1,p.2.1,p.2.2.ev E fr))=zd out/\v=.slice id 0 n esz/\σ'=σ.put id (.row out)
 | .app esz s x=>as2 σ id esz (s.ev E fr) (x.ev E fr)=zd (v,σ')
 | .store sz x y=>aq9 σ sz (x.ev E fr) (y.ev E fr)=zd σ'/\v=.undef
 | .bb1 f args=>PC P E f (args.map (·.ev E fr)) v/\σ'=σ
 | .aj3 esz n z parts=>∃out,at7 (rep z n) (parts.map λp=>(p.1,p.2.1,p.2.2.ev E fr))=zd out/\v=.aa3 (chunk esz n out)/\σ'=σ
 | .cu6 x=>(x.ev E fr).cs.all IV.leaf=true/\v=.ab8 (x.ev E fr).cs/\σ'=σ
 | .dj2 esz z x=>∃n,db2 (x.ev E fr)=zd n/\v=.slice id 0 n esz/\σ'=σ.put id (.row (rep z n))
 | _=>False
theorem bc6 {op:IK}{id:Nat}{K:IV->Store->Prop}(hk:op.kind<=5):opR P E op id fr σ K↔∃v σ',bs4 P E op id fr σ v σ'/\K v σ':=by
 cases op with
 | q q=>exact ⟨λ⟨v,h,k⟩=>⟨v,σ,⟨h,rfl⟩,k⟩,λ⟨v,_,⟨h,e⟩,k⟩=>by subst e;exact ⟨v,h,k⟩⟩
 | alloc z=>exact ⟨λk=>⟨_,_,⟨rfl,rfl⟩,k⟩,λ⟨_,_,⟨e1,e2⟩,k⟩=>by subst e1;subst e2;exact k⟩
 | box x=>exact ⟨λ⟨h,k⟩=>⟨_,_,⟨h,rfl,rfl⟩,k⟩,λ⟨_,_,⟨h,e1,e2⟩,k⟩=>by subst e1;subst e2;exact ⟨h,k⟩⟩
 | bsl e n z ps=>exact ⟨λ⟨out,h,k⟩=>⟨_,_,⟨out,h,rfl,rfl⟩,k⟩,λ⟨_,_,⟨out,h,e1,e2⟩,k⟩=>by subst e1;subst e2;exact ⟨out,h,k⟩⟩
 | app e s x=>exact ⟨λ⟨r,h,k⟩=>⟨r.1,r.2,h,k⟩,λ⟨v,σ',h,k⟩=>⟨(v,σ'),h,k⟩⟩
 | store e x y=>exact ⟨λ⟨s,h,k⟩=>⟨_,s,⟨h,rfl⟩,k⟩,λ⟨v,s,⟨h,e⟩,k⟩=>by subst e;exact ⟨s,h,k⟩⟩
 | bb1 f xs=>exact ⟨λ⟨v,h,k⟩=>⟨v,σ,⟨h,rfl⟩,k⟩,λ⟨v,_,⟨h,e⟩,k⟩=>by subst e;exact ⟨v,h,k⟩⟩
 | aj3 e n z ps=>exact ⟨λ⟨out,h,k⟩=>⟨_,_,⟨out,h,rfl,rfl⟩,k⟩,λ⟨_,_,⟨out,h,e1,e2⟩,k⟩=>by subst e1;subst e2;exact ⟨out,h,k⟩⟩
 | dj2 e z x=>exact ⟨λ⟨n,h,k⟩=>⟨_,_,⟨n,h,rfl,rfl⟩,k⟩,λ⟨_,_,⟨n,h,e1,e2⟩,k⟩=>by subst e1;subst e2;exact ⟨n,h,k⟩⟩
 | cu6 x=>exact ⟨λ⟨h,k⟩=>⟨_,_,⟨h,rfl,rfl⟩,k⟩,λ⟨_,_,⟨h,e1,e2⟩,k⟩=>by subst e1;subst e2;exact ⟨h,k⟩⟩
 | st k xs=>cases k with
  | nev=>exact ⟨λ⟨r,h,_⟩=>by (cases h),λ⟨_,_,h,_⟩=>h.elim⟩
  | _=>exact absurd hk (by simp[IK.kind,SK.kind])
 | _=>exact absurd hk (by simp[IK.kind])
theorem bo8 {op:IK}{id:Nat}{fr fr':Frm}{v:IV}(h:∀t∈op.ops.flatMap IX.uses,fr.get t=fr'.get t):bs4 P E op id fr σ v σ'->bs4 P E op id fr' σ v σ':=by
 cases op with
 | q q=>simp only[bs4];rw[gm9 h];exact λh=>h
 | alloc z=>exact λh=>h
 | box x=>simp only[bs4];rw[ah1 (x:=x) (λt ht=>h t (by simp[IK.ops,ht]))];exact λh=>h
 | bsl e n z ps=>simp only[bs4];rw[au2 h];exact λh=>h
 | app e s x=>simp only[bs4];rw[ah1 (x:=s) (λt ht=>h t (by simp[IK.ops,ht])),ah1 (x:=x) (λt ht=>h t (by simp[IK.ops,ht]))];exact λh=>h
 | store e x y=>simp only[bs4];rw[ah1 (x:=x) (λt ht=>h t (by simp[IK.ops,ht])),ah1 (x:=y) (λt ht=>h t (by simp[IK.ops,ht]))];exact λh=>h
 | bb1 f xs=>simp only[bs4];rw[az2 (xs:=xs) h];exact λh=>h
 | aj3 e n z ps=>simp only[bs4];rw[au2 h];exact λh=>h
 | dj2 e z x=>simp only[bs4];rw[ah1 (x:=x) (λt ht=>h t (by simp[IK.ops,ht]))];exact λh=>h
 | cu6 x=>simp only[bs4];rw[ah1 (x:=x) (λt ht=>h t (by simp[IK.ops,ht]))];exact λh=>h
 | _=>exact λh=>h
def bn9 (id:Nat):IV->Prop
 | .ptr i _|.slice i _ _ _|.map i|.ag6 i _ _ _|.ak5 i _ _ _ _=>i≠id
 | _=>True
theorem fe9 {id:Nat}{v:IV}{r:Value}(hv:VR ρ w v r)(h:ρ id=.no):bn9 id v:=by
 cases hv<;>simp only[bn9]<;>first|trivial|(intro e;subst e;simp_all)
theorem put_comm (i j:Nat)(x y:aj2)(h:i≠j):(σ.put i x).put j y=(σ.put j y).put i x:=by
 unfold Store.put;congr 1;funext k;simp only;split
 ·rename_i h1;split
  ·rename_i h2;exact absurd (h2.symm.trans h1) h
  ·rfl
 ·rfl
theorem ag4 {id i:Nat}{o:aj2}(h:i≠id):(σ.put id o).obj i=σ.obj i:=by simp[Store.put,h]
theorem gn1 {tag id:Nat}{ob:aj2}{zero x k:IV}{ok:Bool}(h:bn9 id x):cj1 (σ.put id ob) tag zero ok x k=cj1 σ tag zero ok x k:=by
 have:cb9 (σ.put id ob) x=cb9 σ x:=by
  cases x<;>try rfl
  simp only[cb9,ag4 h]
 unfold cj1;rw[this]
theorem gn2 {tag id:Nat}{zero x k v:IV}{ok:Bool}(hn:σ.obj id=zk)(h:cj1 σ tag zero ok x k=zd v):bn9 id x:=by
 cases x<;>simp only[bn9]<;>try trivial
 all_goals (intro e;subst e;simp[cj1,cb9,hn] at h)
theorem ff1 {agg:Option Nat}{id:Nat}{ob:aj2}{ad:IV}(h:bn9 id ad):ay7 (σ.put id ob) agg ad=ay7 σ agg ad:=by
 have:aq7 (σ.put id ob) ad=aq7 σ ad:=by
  cases ad<;>simp only[aq7];rename_i i off;rw[ag4 h]
 unfold ay7;rw[this]
theorem fs8 {agg:Option Nat}{id:Nat}{ad v:IV}(hn:σ.obj id=zk)(h:ay7 σ agg ad=zd v):bn9 id ad:=by
 cases ad with
 | ptr i off=>
  intro e;subst e
  simp[ay7,aq7,hn] at h
 | slice i o l e=>simp[ay7,aq7] at h
 | _=>trivial
theorem iy3 {id2 esz:Nat}{ob:aj2}{x:IV}(hx:bn9 id2 x):bx4 (σ.put id2 ob) esz x=bx4 σ esz x:=by
 cases x<;>simp only[bx4]
 all_goals (rename_i i o l e;rw[ag4 hx])
theorem hx9 {id2 did:Nat}{ob:aj2}(h:did≠id2):(σ.put id2 ob).kill did=(σ.kill did).put id2 ob:=by
 unfold Store.put Store.kill;congr 1;funext k;simp only;split
 ·rename_i h1;split
  ·rename_i h2;exact absurd (h1.symm.trans h2) h
  ·rfl
 ·rfl
theorem dl6 {id id2 esz:Nat}{ob:aj2}{s x:IV}(hs:bn9 id2 s)(hx:bn9 id2 x)(hne:id2≠id) :
  as2 (σ.put id2 ob) id esz s x=(as2 σ id esz s x).map λr=>(r.1,r.2.put id2 ob):=by
 unfold as2;rw[iy3 hx]
 cases bx4 σ esz x with
 | none=>rfl
 | some p=>
  obtain ⟨n,xs⟩:=p;simp only;split
  ·rfl
  ·cases s with
   | aa1=>
    simp only;split
    ·rfl
    ·split
     ·simp[put_comm id2 id _ _ hne]
     ·rfl
   | ac6=>
    simp only;split
    ·rfl
    ·split
     ·simp[put_comm id2 id _ _ hne]
     ·rfl
   | aa3 es=>simp only;split<;>rfl
   | slice did off len e=>
    simp only;have hd:did≠id2:=hs;rw[ag4 hd]
    cases σ.obj did with
    | none=>rfl
    | some o=>
     cases o with
     | row cs=>
      simp only;split
      ·rfl
      ·split
       ·simp[hx9 hd,put_comm id2 id _ _ hne]
       ·rfl
     | _=>rfl
   | ag6 did off len e=>
    simp only;have hd:did≠id2:=hs;rw[ag4 hd]
    cases σ.obj did with
    | none=>rfl
    | some o=>
     cases o with
     | row cs=>
      simp only;split
      ·rfl
      ·split
       ·simp[put_comm id2 id _ _ hne]
       ·rfl
     | _=>rfl
   | _=>rfl
theorem gn3 {id id2 esz:Nat}{s x v:IV}(hn:σ.obj id2=zk)(h:as2 σ id esz s x=zd (v,σ')):bn9 id2 s/\bn9 id2 x:=by
 unfold as2 at h;split at h
 ·cases h
 ·rename_i n xs hsrc;constructor
  ·split at h
   ·cases h
   ·split at h<;>first|trivial|skip
    ·rename_i did off len e;intro e2;subst e2;rw[hn] at h;simp at h
    ·rename_i did off len e;intro e2;subst e2;rw[hn] at h;simp at h
  ·cases x with
   | slice i o l e=>
    intro e2;subst e2
    simp[bx4,hn] at hsrc
   | ag6 i o l e=>
    intro e2;subst e2
    simp[bx4,hn] at hsrc
   | ptr i o=>simp[bx4] at hsrc
   | _=>trivial
theorem cc7 {id esz:Nat}{s x v:IV}(hn:σ.obj id=zk)(h:as2 σ id esz s x=zd (v,σ'))(i:Nat)(cs:List IV):σ.obj i=zd (.cells cs)↔σ'.obj i=zd (.cells cs):=by
 have put:∀(σ:Store) (l:List IV),σ.obj id=zk->(σ.obj i=zd (.cells cs)↔(σ.put id (.row l)).obj i=zd (.cells cs)):=by
  intro σ l hn;by_cases hi:i=id
  ·subst hi;simp[Store.put,hn]
  ·rw[ag4 hi]
 unfold as2 at h;split at h
 ·cases h
 ·split at h
  ·cases h
  ·split at h
   ·split at h
    ·cases h;exact z2
    ·split at h
     ·cases h;exact put σ _ hn
     ·cases h
   ·split at h
    ·cases h;exact z2
    ·split at h
     ·cases h;exact put σ _ hn
     ·cases h
   ·split at h
    ·cases h;exact z2
    ·cases h
   ·rename_i did off len e;split at h
    ·rename_i cs' hd;split at h
     ·cases h;exact z2
     ·split at h
      ·cases h;have hk:(σ.kill did).obj id=zk:=by simp[Store.kill,hn]
       refine Iff.trans ?_ (put (σ.kill did) _ hk);by_cases hi:i=did
       ·subst hi;simp[Store.kill,hd]
       ·simp[Store.kill,hi]
      ·cases h
    ·cases h
   ·rename_i did off len e;split at h
    ·rename_i cs' hd;split at h
     ·cases h;exact z2
     ·split at h
      ·cases h;exact put σ _ hn
      ·cases h
    ·cases h
   ·cases h
end Go.Id
namespace Go.Id
open Go
variable {P:Program} {w w' w'':World} {ρ ρ' ρ'':Rho} {E:Nat->IV} {σ σ':Store} {N n n':Nat} {fr:Frm} {a:Act} {pf:List Nat}
def bg6 (E:Nat->IV)(fr:Frm)(σ:Store):IK->Prop
 | .q (.load _ x)=>match x.ev E fr with
  | .ab8 _=>True
  | .ptr i _=>∃cs,σ.obj i=zd (.cells cs)
  | _=>False
 | _=>True
def jz6 (P:Program)(E:Nat->IV)(B act:Bool)(op:IK)(id:Nat)(fr:Frm)(σ:Store)(v:IV)(σ':Store):Prop :=
 if act then bs4 P E op id fr σ v σ'/\(B=true->bg6 E fr σ op) else v=skV/\σ'=σ
def ff2 (B:Bool)(i j:Nat):Bool :=
 i==0&&j<=5||j==0&&i<=5||i==1&&j==1||i==1&&j==2||i==2&&j==2||i==3&&j==2||B&&i==1&&j==3||B&&i==3&&j==1||i==2&&j==1||i==2&&j==3||i==1&&j==5||i==5&&j==1||i==5&&j==5||i==5&&j==2||i==2&&j==5
def db5 (B:Bool)(i j:Nat):Bool:=ff2 B i j||i==2&&j==4||i==4&&j==2
theorem fs9 {q:IQ}(h:q.kind=1):∃ag x,q=.load ag x:=by
 cases q with
 | load ag x=>exact ⟨ag,x,rfl⟩
 | len k x=>
  exfalso
  match k,h with
  | 0,h=>simp[IQ.kind] at h
  | 1,h=>simp[IQ.kind] at h
  | k+2,h=>simp[IQ.kind] at h
 | _=>simp[IQ.kind] at h
theorem ft1 {op:IK}(h:op.kind=1):∃ag x,op=.q (.load ag x):=by
 cases op with
 | q q=>obtain ⟨ag,x,rfl⟩:=fs9 h;exact ⟨ag,x,rfl⟩
 | st k xs=>cases k<;>simp[IK.kind,SK.kind] at h
 | _=>simp[IK.kind] at h
theorem bz4 (q:IQ):q.kind=0\/q.kind=1\/q.kind=5\/q.kind=6:=by
 cases q with
 | load ag x=>simp[IQ.kind]
 | len k x=>
  match k with
  | 0=>simp[IQ.kind]
  | 1=>simp[IQ.kind]
  | k+2=>simp[IQ.kind]
 | _=>simp[IQ.kind]
theorem jm3 {op:IK}(h:op.kind=1\/op.kind=5):∃q,op=.q q:=by
 cases op with
 | q q=>exact ⟨q,rfl⟩
 | st k xs=>cases k<;>simp[IK.kind,SK.kind] at h
 | _=>simp[IK.kind] at h
theorem jm4 {op:IK}(h:op.kind=5):∃t z ok x k,op=.q (.lkp t z ok x k):=by
 cases op with
 | q q=>
  cases q with
  | lkp t z ok x k=>exact ⟨t,z,ok,x,k,rfl⟩
  | len k x=>
   exfalso
   match k,h with
   | 0,h=>simp[IK.kind,IQ.kind] at h
   | 1,h=>simp[IK.kind,IQ.kind] at h
   | k+2,h=>simp[IK.kind,IQ.kind] at h
  | _=>simp[IK.kind,IQ.kind] at h
 | st k xs=>cases k<;>simp[IK.kind,SK.kind] at h
 | _=>simp[IK.kind] at h
theorem hy5 {op:IK}(h:op.kind=3):∃e s x,op=.app e s x:=by
 cases op with
 | q q=>rcases bz4 q with h'|h'|h'|h'<;>simp[IK.kind,h'] at h
 | app e s x=>exact ⟨e,s,x,rfl⟩
 | st k xs=>cases k<;>simp[IK.kind,SK.kind] at h
 | _=>simp[IK.kind] at h
theorem jm5 {op:IK}(h:op.kind=4):∃e a y,op=.store e a y:=by
 cases op with
 | q q=>rcases bz4 q with h'|h'|h'|h'<;>simp[IK.kind,h'] at h
 | store e a y=>exact ⟨e,a,y,rfl⟩
 | st k xs=>cases k<;>simp[IK.kind,SK.kind] at h
 | _=>simp[IK.kind] at h
theorem ej4 {id sz:Nat}{ob:aj2}{a v:IV}(h:bn9 id a):aq9 (σ.put id ob) sz a v=(aq9 σ sz a v).map (·.put id ob):=by
 cases a with
 | ptr i off=>
  have hi:i≠id:=h;simp only[aq9,ag4 hi]
  cases hc:σ.obj i with
  | none=>rfl
  | some o=>
   cases o with
   | cells cs=>
    simp only;split
    ·simp only[zw];rw[put_comm id i _ _ (λe=>hi e.symm)]
    ·rfl
   | row cs=>
    simp only;split
    ·simp only[zw];rw[put_comm id i _ _ (λe=>hi e.symm)]
    ·rfl
   | _=>rfl
 | _=>rfl
theorem eu4 {id sz:Nat}{a v:IV}(hn:σ.obj id=zk)(h:aq9 σ sz a v=zd σ'):bn9 id a:=by
 cases a with
 | ptr i off=>intro e;subst e;simp[aq9,hn] at h
 | slice i o l e=>simp[aq9] at h
 | map i=>simp[aq9] at h
 | ag6 i o l e=>simp[aq9] at h
 | ak5 i o l r e=>simp[aq9] at h
 | _=>trivial
theorem cc8 {op:IK}{id:Nat}{v:IV}(hk:op.kind=0)(h:bs4 P E op id fr σ v σ'):σ'=σ/\∀σ2,bs4 P E op id fr σ2 v σ2:=by
 cases op with
 | q q=>exact ⟨h.2,λσ2=>⟨by rw[hx8 (σ':=σ) hk];exact h.1,rfl⟩⟩
 | bb1 f xs=>exact ⟨h.2,λσ2=>⟨h.1,rfl⟩⟩
 | aj3 e n z ps=>obtain ⟨out,h1,h2,h3⟩:=h;exact ⟨h3,λ_=>⟨out,h1,h2,rfl⟩⟩
 | cu6 x=>obtain ⟨h1,h2,h3⟩:=h;exact ⟨h3,λ_=>⟨h1,h2,rfl⟩⟩
 | st k xs=>exact h.elim
 | _=>simp[IK.kind] at hk
theorem as3 {op:IK}{id:Nat}{v:IV}(hk:op.kind=2)(h:bs4 P E op id fr σ v σ'):∃ob,σ'=σ.put id ob/\∀σ2,bs4 P E op id fr σ2 v (σ2.put id ob):=by
 cases op with
 | q q=>rcases bz4 q with h'|h'|h'|h'<;>simp[IK.kind,h'] at hk
 | alloc z=>exact ⟨_,h.2,λσ2=>⟨h.1,rfl⟩⟩
 | box x=>exact ⟨_,h.2.2,λσ2=>⟨h.1,h.2.1,rfl⟩⟩
 | bsl e n z ps=>obtain ⟨out,h1,h2,h3⟩:=h;exact ⟨_,h3,λσ2=>⟨out,h1,h2,rfl⟩⟩
 | dj2 e z x=>obtain ⟨n,h1,h2,h3⟩:=h;exact ⟨_,h3,λσ2=>⟨n,h1,h2,rfl⟩⟩
 | st k xs=>exact h.elim
 | _=>simp[IK.kind] at hk
theorem cc9 {op:IK}{fr fr':Frm}(h:∀t∈op.ops.flatMap IX.uses,fr.get t=fr'.get t):bg6 E fr σ op->bg6 E fr' σ op:=by
 cases op with
 | q q=>
  cases q with
  | load ag x=>simp only[bg6];rw[ah1 (x:=x) (λt ht=>h t (by simp[IK.ops,IQ.ops,ht]))];exact λh=>h
  | _=>exact λh=>h
 | _=>exact λh=>h
theorem cj8 {op:IK}{σ2:Store}(h:∀i cs,σ.obj i=zd (.cells cs)->∃cs',σ2.obj i=zd (.cells cs')):bg6 E fr σ op->bg6 E fr σ2 op:=by
 cases op with
 | q q=>
  cases q with
  | load ag x=>
   simp only[bg6];split
   ·exact λh=>h
   ·rintro ⟨cs,hc⟩;exact h _ cs hc
   ·exact λh=>h
  | _=>exact λh=>h
 | _=>exact λh=>h
theorem al2 {op:IK}{σ2:Store}(hk:op.kind≠1):bg6 E fr σ2 op:=by
 cases op with
 | q q=>
  cases q with
  | load ag x=>exact absurd rfl hk
  | _=>trivial
 | _=>trivial
theorem dy3 {B:Bool}{p x:IK}{ip ix:Nat}{fr1 fr2:Frm}{σ1 σ2:Store}{vp vx:IV}(hp:bs4 P E p ip fr σ vp σ1)(hpb:B=true->bg6 E fr σ p)(hx:bs4 P E x ix fr1 σ1 vx σ2)(hxb:B=true->bg6 E fr1 σ1 x)
  (hfree:db5 B p.kind x.kind=true) (hfx:∀t∈x.ops.flatMap IX.uses,fr1.get t=fr.get t) (hfp:∀t∈p.ops.flatMap IX.uses,fr.get t=fr2.get t)
  (hne:ip≠ix) (hnp:σ.obj ip=zk) (hnx:σ.obj ix=zk) (hH:p.kind=2->∀y∈x.ops,bn9 ip (y.ev E fr)) :
  ∃σ1',bs4 P E x ix fr σ vx σ1'/\(B=true->bg6 E fr σ x)/\bs4 P E p ip fr2 σ1' vp σ2/\(B=true->bg6 E fr2 σ1' p):=by
 have hx':=bo8 hfx hx;have hxb':B=true->bg6 E fr σ1 x:=λhb=>cc9 hfx (hxb hb)
 have hp':∀ {s s' v},bs4 P E p ip fr s v s'->bs4 P E p ip fr2 s v s':=λh=>bo8 hfp h
 have hpb':∀ {s},bg6 E fr s p->bg6 E fr2 s p:=λh=>cc9 hfp h
 by_cases kp0:p.kind=0
 ·obtain ⟨rfl,hall⟩:=cc8 kp0 hp;exact ⟨σ2,hx',hxb',hp' (hall σ2),λ_=>hpb' (al2 om)⟩
 by_cases kx0:x.kind=0
 ·obtain ⟨rfl,hall⟩:=cc8 kx0 hx';exact ⟨σ,hall σ,λ_=>al2 om,hp' hp,λhb=>hpb' (hpb hb)⟩
 by_cases n1:p.kind=2/\x.kind=4
 ·obtain ⟨k1,k2⟩:=n1;obtain ⟨ob,rfl,hall⟩:=as3 k1 hp;obtain ⟨e,a,y,rfl⟩:=jm5 k2;have r1:=hH k1 a (by simp[IK.ops]);simp only[bs4] at hx';obtain ⟨hx1,rfl⟩:=hx';rw[ej4 r1] at hx1;obtain ⟨s,h1,rfl⟩:=map_some hx1;exact ⟨s,⟨h1,rfl⟩,λ_=>trivial,hp' (hall s),λ_=>al2 om⟩
 by_cases n2:p.kind=4/\x.kind=2
 ·obtain ⟨k1,k2⟩:=n2;obtain ⟨e,a,y,rfl⟩:=jm5 k1;obtain ⟨ob,rfl,hall⟩:=as3 k2 hx';obtain ⟨h1,rfl⟩:=hp;refine ⟨σ.put ix ob,hall σ,λ_=>al2 om,hp' ⟨?_,rfl⟩,λ_=>trivial⟩;rw[ej4 (eu4 hnx h1),h1];rfl
 have hfree:ff2 B p.kind x.kind=true:=by
  unfold db5 at hfree;simp only[zm,zf,beq_iff_eq] at hfree;rcases hfree with (h|h)|h
  ·exact h
  ·exact absurd h n1
  ·exact absurd h n2
 have hcases:(p.kind=1/\x.kind=1)\/(p.kind=1/\x.kind=2)\/(p.kind=2/\x.kind=2)\/(p.kind=3/\x.kind=2)\/(B=true/\p.kind=1/\x.kind=3)\/(B=true/\p.kind=3/\x.kind=1)\/(p.kind=2/\x.kind=1)\/(p.kind=2/\x.kind=3)\/((p.kind=1\/p.kind=5)/\(x.kind=1\/x.kind=5))\/(p.kind=5/\x.kind=2)\/(p.kind=2/\x.kind=5):=by
  unfold ff2 at hfree;simp only[zm,zf,beq_iff_eq,decide_eq_true_eq] at hfree;rcases hfree with ((((((((((((((h|h)|h)|h)|h)|h)|h)|h)|h)|h)|h)|h)|h)|h)|h)
  ·exact absurd h.1 kp0
  ·exact absurd h.1 kx0
  ·exact .inl h
  ·exact .inr (.inl h)
  ·exact .inr (.inr (.inl h))
  ·exact .inr (.inr (.inr (.inl h)))
  ·exact .inr (.inr (.inr (.inr (.inl ⟨h.1.1,h.1.2,h.2⟩))))
  ·exact .inr (.inr (.inr (.inr (.inr (.inl ⟨h.1.1,h.1.2,h.2⟩)))))
  ·exact .inr (.inr (.inr (.inr (.inr (.inr (.inl h))))))
  ·exact .inr (.inr (.inr (.inr (.inr (.inr (.inr (.inl h)))))))
  ·exact .inr (.inr (.inr (.inr (.inr (.inr (.inr (.inr (.inl ⟨.inl h.1,.inr h.2⟩))))))))
  ·exact .inr (.inr (.inr (.inr (.inr (.inr (.inr (.inr (.inl ⟨.inr h.1,.inl h.2⟩))))))))
  ·exact .inr (.inr (.inr (.inr (.inr (.inr (.inr (.inr (.inl ⟨.inr h.1,.inr h.2⟩))))))))
  ·exact .inr (.inr (.inr (.inr (.inr (.inr (.inr (.inr (.inr (.inl h)))))))))
  ·exact .inr (.inr (.inr (.inr (.inr (.inr (.inr (.inr (.inr (.inr h)))))))))
 rcases hcases with ⟨k1,k2⟩|⟨k1,k2⟩|⟨k1,k2⟩|⟨k1,k2⟩|⟨hB,k1,k2⟩|⟨hB,k1,k2⟩|⟨k1,k2⟩|⟨k1,k2⟩|⟨k1,k2⟩|⟨k1,k2⟩|⟨k1,k2⟩
 ·obtain ⟨ag,y,rfl⟩:=ft1 k1;obtain ⟨ag',y',rfl⟩:=ft1 k2;obtain ⟨h1,rfl⟩:=hp;obtain ⟨h2,rfl⟩:=hx';exact ⟨_,⟨h2,rfl⟩,hxb',hp' ⟨h1,rfl⟩,λhb=>hpb' (hpb hb)⟩
 ·obtain ⟨ag,y,rfl⟩:=ft1 k1;obtain ⟨h1,rfl⟩:=hp;obtain ⟨ob,rfl,hall⟩:=as3 k2 hx';refine ⟨σ1.put ix ob,hall σ1,λ_=>al2 om,hp' ⟨?_,rfl⟩,λhb=>hpb' (cj8 (λi cs hc=>⟨cs,by rw[ag4 (λe=>by subst e;rw[hnx] at hc;cases hc)];exact hc⟩) (hpb hb))⟩;simp only[evq] at h1 ⊢;rw[ff1 (fs8 hnx h1)];exact h1
 ·obtain ⟨ob,rfl,hall⟩:=as3 k1 hp;obtain ⟨ob',rfl,hall'⟩:=as3 k2 hx';refine ⟨σ.put ix ob',hall' σ,λ_=>al2 om,?_,λ_=>al2 om⟩;rw[put_comm ip ix _ _ hne];exact hp' (hall _)
 ·obtain ⟨e,s,y,rfl⟩:=hy5 k1;obtain ⟨ob,rfl,hall⟩:=as3 k2 hx';refine ⟨σ.put ix ob,hall σ,λ_=>al2 om,hp' ?_,λ_=>al2 om⟩;obtain ⟨n1,n2⟩:=gn3 (id2:=ix) hnx hp;simp only[bs4] at hp ⊢;rw[dl6 n1 n2 (λe=>hne e.symm),hp];rfl
 ·obtain ⟨ag,y,rfl⟩:=ft1 k1;obtain ⟨e,s,z,rfl⟩:=hy5 k2;obtain ⟨h1,rfl⟩:=hp;have hb:=hpb hB;refine ⟨σ2,hx',λ_=>trivial,hp' ⟨?_,rfl⟩,λ_=>hpb' (cj8 (λi cs hc=>⟨cs,(cc7 hnx hx' i cs).1 hc⟩) hb)⟩;simp only[evq] at h1 ⊢;rw[<- h1];simp only[bg6] at hb;split at hb
  ·rename_i he;rw[he];rfl
  ·rename_i i off he;obtain ⟨cs,hc⟩:=hb;have hc':=(cc7 hnx hx' i cs).1 hc;rw[he];simp[ay7,aq7,hc,hc']
  ·exact hb.elim
 ·obtain ⟨e,s,z,rfl⟩:=hy5 k1;obtain ⟨ag,y,rfl⟩:=ft1 k2;obtain ⟨h2,rfl⟩:=hx';have hb:=hxb' hB;refine ⟨σ,⟨?_,rfl⟩,λ_=>cj8 (λi cs hc=>⟨cs,(cc7 hnp hp i cs).2 hc⟩) hb,hp' hp,λ_=>trivial⟩;simp only[evq] at h2 ⊢;rw[<- h2];simp only[bg6] at hb;split at hb
  ·rename_i he;rw[he];rfl
  ·rename_i i off he;obtain ⟨cs,hc⟩:=hb;have hc':=(cc7 hnp hp i cs).2 hc;rw[he];simp[ay7,aq7,hc,hc']
  ·exact hb.elim
 ·obtain ⟨ob,rfl,hall⟩:=as3 k1 hp;obtain ⟨ag,y,rfl⟩:=ft1 k2;obtain ⟨h2,rfl⟩:=hx';have hr:=hH k1 y (by simp[IK.ops,IQ.ops]);refine ⟨σ,⟨?_,rfl⟩,λhb=>?_,hp' hp,λ_=>al2 om⟩
  ·simp only[evq] at h2 ⊢;rw[ff1 hr] at h2;exact h2
  ·have:=hxb' hb;simp only[bg6] at this ⊢;split
   ·trivial
   ·rename_i i off he;rw[he] at this hr;obtain ⟨cs,hc⟩:=this;exact ⟨cs,by rw[ag4 hr] at hc;exact hc⟩
   ·rename_i h1 h2;generalize y.ev E fr=q at *;cases q<;>first|exact this|exact (h1 _ rfl).elim|exact (h2 _ _ rfl).elim
 ·obtain ⟨ob,rfl,hall⟩:=as3 k1 hp;obtain ⟨e,s,z,rfl⟩:=hy5 k2;have r1:=hH k1 s (by simp[IK.ops]);have r2:=hH k1 z (by simp[IK.ops]);simp only[bs4] at hx';rw[dl6 r1 r2 hne] at hx';obtain ⟨⟨v',s'⟩,h1,h2⟩:=map_some hx';cases h2;exact ⟨s',h1,λ_=>trivial,hp' (hall _),λ_=>al2 om⟩
 ·obtain ⟨q1,rfl⟩:=jm3 k1;obtain ⟨q2,rfl⟩:=jm3 k2;obtain ⟨h1,rfl⟩:=hp;obtain ⟨h2,rfl⟩:=hx';exact ⟨_,⟨h2,rfl⟩,hxb',hp' ⟨h1,rfl⟩,λhb=>hpb' (hpb hb)⟩
 ·obtain ⟨t,z,ok,y,k,rfl⟩:=jm4 k1;obtain ⟨h1,rfl⟩:=hp;obtain ⟨ob,rfl,hall⟩:=as3 k2 hx';refine ⟨σ1.put ix ob,hall σ1,λ_=>al2 om,hp' ⟨?_,rfl⟩,λhb=>trivial⟩;simp only[evq] at h1 ⊢;rw[gn1 (gn2 hnx h1)];exact h1
 ·obtain ⟨ob,rfl,hall⟩:=as3 k1 hp;obtain ⟨t,z,ok,y,k,rfl⟩:=jm4 k2;obtain ⟨h2,rfl⟩:=hx';have hr:=hH k1 y (by simp[IK.ops,IQ.ops]);refine ⟨σ,⟨?_,rfl⟩,λhb=>trivial,hp' hp,λ_=>al2 om⟩;simp only[evq] at h2 ⊢;rw[gn1 hr] at h2;exact h2
end Go.Id
namespace Go.Id
open Go
variable {P:Program} {w w' w'':World} {ρ ρ' ρ'':Rho} {E:Nat->IV} {σ σ':Store} {N n n':Nat} {fr:Frm} {a:Act} {pf:List Nat}
abbrev Item:=Nat×ae7×Nat
def jm6 (P:Program)(E:Nat->IV)(B:Bool)(o:ae7)(id:Nat)(fr:Frm)(σ:Store)(K:Frm->Store->Prop):Prop :=
 ∃act,bh9 o fr=zd act/\(if act then opR P E o.op id fr σ (λv σ'=>K (fr.ap3 o.dst v) σ')/\(B=true->bg6 E fr σ o.op) else K (fr.ap3 o.dst skV) σ)
def bz5 (P:Program)(E:Nat->IV)(B:Bool):List Item->Frm->Store->(Frm->Store->Prop)->Prop
 | [],fr,σ,K=>K fr σ
 | (_,o,id)::rest,fr,σ,K=>jm6 P E B o id fr σ λfr' σ'=>bz5 P E B rest fr' σ' K
theorem be8 (fr:Frm)(d:Option Nat)(v:IV)(t:Nat):(fr.ap3 d v).get t=if d=zd t then v else fr.get t:=by
 cases d with
 | none=>simp[Frm.ap3]
 | some d=>
  simp only[Frm.ap3,Frm.ci8,zd.injEq];by_cases h:t=d
  ·subst h;simp
  ·have:¬d=t:=λe=>h e.symm
   simp[h,this]
theorem cy3 {fr fr':Frm}(h:FEq fr fr')(d:Option Nat)(v:IV):FEq (fr.ap3 d v) (fr'.ap3 d v):=λt=>by rw[be8,be8,h t]
theorem gn4 {op:IK}{id:Nat}{fr fr':Frm}{K:IV->Store->Prop}(h:FEq fr fr'):opR P E op id fr σ K->opR P E op id fr' σ K:=by
 have hev:∀x:IX,x.ev E fr=x.ev E fr':=λx=>ah1 λt _=>h t
 have hmap:∀xs:List IX,xs.map (·.ev E fr)=xs.map (·.ev E fr'):=λxs=>az2 λt _=>h t
 cases op with
 | q q=>simp only[opR];rw[gm9 (λt _=>h t)];exact λh=>h
 | alloc z=>exact λh=>h
 | box x=>simp only[opR];rw[hev x];exact λh=>h
 | bsl e n z ps=>simp only[opR];rw[au2 (λt _=>h t)];exact λh=>h
 | store e x y=>simp only[opR];rw[hev x,hev y];exact λh=>h
 | app e x y=>simp only[opR];rw[hev x,hev y];exact λh=>h
 | ck6=>exact λh=>h
 | bn6 x=>simp only[opR];rw[hev x];exact λh=>h
 | dc5 x=>simp only[opR];rw[hev x];exact λh=>h
 | ci4 t x y z=>simp only[opR];rw[hev x,hev y,hev z];exact λh=>h
 | call f xs=>simp only[opR];rw[hmap];exact λh=>h
 | bb1 f xs=>simp only[opR];rw[hmap];exact λh=>h
 | cw7 x xs=>simp only[opR];rw[hmap,hev];exact λh=>h
 | aj3 e n z ps=>simp only[opR];rw[au2 (λt _=>h t)];exact λh=>h
 | cu6 x=>simp only[opR];rw[hev x];exact λh=>h
 | be9 x=>simp only[opR];rw[hev x];exact λh=>h
 | ck7 x=>simp only[opR];rw[hev x];exact λh=>h
 | fu2 x=>simp only[opR];rw[hev x];exact λh=>h
 | dj2 e z x=>simp only[opR];rw[hev x];exact λh=>h
 | clr e z x=>simp only[opR];rw[hev x];exact λh=>h
 | st k xs=>simp only[opR];rw[hmap];exact λh=>h
theorem am7 {op:IK}{id:Nat}{K K':IV->Store->Prop}(hK:∀v σ,K v σ->K' v σ):opR P E op id fr σ K->opR P E op id fr σ K':=by
 cases op with
 | q q=>exact λ⟨v,h,k⟩=>⟨v,h,hK _ _ k⟩
 | alloc z=>exact λk=>hK _ _ k
 | box x=>exact λ⟨h,k⟩=>⟨h,hK _ _ k⟩
 | bsl e n z ps=>exact λ⟨out,h,k⟩=>⟨out,h,hK _ _ k⟩
 | store e x y=>exact λ⟨s,h,k⟩=>⟨s,h,hK _ _ k⟩
 | app e x y=>exact λ⟨r,h,k⟩=>⟨r,h,hK _ _ k⟩
 | ck6=>exact λk=>hK _ _ k
 | bn6 x=>exact λ⟨s,h,k⟩=>⟨s,h,hK _ _ k⟩
 | dc5 x=>exact λ⟨s,h,k⟩=>⟨s,h,hK _ _ k⟩
 | ci4 t x y z=>exact λ⟨s,h,k⟩=>⟨s,h,hK _ _ k⟩
 | call f xs=>exact λ⟨Q,h,k⟩=>⟨Q,h,λv s q=>⟨(k v s q).1,hK _ _ (k v s q).2⟩⟩
 | bb1 f xs=>exact λ⟨v,h,k⟩=>⟨v,h,hK _ _ k⟩
 | cw7 x xs=>exact λ⟨Q,h,k⟩=>⟨Q,h,λv s q=>⟨(k v s q).1,hK _ _ (k v s q).2⟩⟩
 | aj3 e n z ps=>exact λ⟨out,h,k⟩=>⟨out,h,hK _ _ k⟩
 | cu6 x=>exact λ⟨h,k⟩=>⟨h,hK _ _ k⟩
 | be9 x=>exact λ⟨s,h,k⟩=>⟨s,h,hK _ _ k⟩
 | fu2 x=>exact λ⟨v,h,k⟩=>⟨v,h,hK _ _ k⟩
 | dj2 e z x=>exact λ⟨n,h,k⟩=>⟨n,h,hK _ _ k⟩
 | clr e z x=>exact λ⟨s,h,hn,k⟩=>⟨s,h,hn,hK _ _ k⟩
 | st e xs=>exact λ⟨r,h,k⟩=>⟨r,h,hK _ _ k⟩
 | ck7 x=>exact λ⟨i,l,h,k1,k2⟩=>⟨i,l,h,λe=>hK _ _ (k1 e),λj hj=>hK _ _ (k2 j hj)⟩
theorem bk9 {o:ae7}{fr fr':Frm}(h:∀t∈o.uses,fr.get t=fr'.get t):bh9 o fr=bh9 o fr':=by
 unfold bh9
 cases hg:o.guard with
 | none=>rfl
 | some p=>
  obtain ⟨s,want⟩:=p;simp only;rw[h s (by simp[ae7.uses,hg])]
theorem hy6 {B:Bool}{o:ae7}{id:Nat}{fr fr':Frm}{K K':Frm->Store->Prop}(h:FEq fr fr')(hK:∀f f' s,FEq f f'->K f s->K' f' s):jm6 P E B o id fr σ K->jm6 P E B o id fr' σ K':=by
 rintro ⟨act,ha,hh⟩;refine ⟨act,by rw[<- bk9 (λt _=>h t)];exact ha,?_⟩
 cases act with
 | true=>
  obtain ⟨h1,h2⟩:=hh
  exact ⟨am7 (λv s k=>hK _ _ _ (cy3 h _ _) k) (gn4 h h1),λhb=>cc9 (λt _=>h t) (h2 hb)⟩
 | false=>exact hK _ _ _ (cy3 h _ _) hh
theorem ej5 {B:Bool}{K:Frm->Store->Prop}(hK:∀f f' s,FEq f f'->K f s->K f' s):∀(its:List Item) (fr fr':Frm) (σ:Store),FEq fr fr'->bz5 P E B its fr σ K->bz5 P E B its fr' σ K:=by
 intro its
 induction its with
 | nil=>exact λfr fr' σ h k=>hK _ _ _ h k
 | cons it its ih=>
  obtain ⟨i,o,id⟩:=it;exact λfr fr' σ h k=>hy6 h (λf f' s hf kk=>ih f f' s hf kk) k
def gn5 (p x:ae7):Prop :=
 (∀d,x.dst=zd d->d ∉ p.uses/\p.dst≠zd d)/\(∀d,p.dst=zd d->d ∉ x.uses)
def gn6 (B:Bool)(p x:ae7):Prop:=db5 B p.op.kind x.op.kind=true/\gn5 p x
theorem dy4 {B:Bool}{i j:Nat}(h:db5 B i j=true):i<=5/\j<=5:=by
 unfold db5 ff2 at h;simp only[zm,zf,beq_iff_eq,decide_eq_true_eq] at h;omega
theorem ej6 {op:IK}{id i:Nat}{v:IV}(hk:op.kind<=5)(hi:i≠id)(h:bs4 P E op id fr σ v σ')(hn:σ.obj i=zk):σ'.obj i=zk:=by
 cases op with
 | q q=>rw[h.2];exact hn
 | alloc z=>rw[h.2,ag4 hi];exact hn
 | box x=>rw[h.2.2,ag4 hi];exact hn
 | bsl e n z ps=>obtain ⟨out,_,_,h3⟩:=h;rw[h3,ag4 hi];exact hn
 | store e x y=>
  obtain ⟨h,_⟩:=h;unfold aq9 at h;split at h
  ·rename_i j off hx;split at h
   ·rename_i cs hc;split at h
    ·cases h;rw[ag4 (λe=>by subst e;rw[hn] at hc;cases hc)];exact hn
    ·cases h
   ·rename_i cs hc;split at h
    ·cases h;rw[ag4 (λe=>by subst e;rw[hn] at hc;cases hc)];exact hn
    ·cases h
   ·cases h
  ·cases h
 | bb1 f xs=>rw[h.2];exact hn
 | app e s x=>
  simp only[bs4] at h;unfold as2 at h;split at h
  ·cases h
  ·split at h
   ·cases h
   ·split at h
    ·split at h
     ·cases h;exact hn
     ·split at h
      ·cases h;rw[ag4 hi];exact hn
      ·cases h
    ·split at h
     ·cases h;exact hn
     ·split at h
      ·cases h;rw[ag4 hi];exact hn
      ·cases h
    ·split at h
     ·cases h;exact hn
     ·cases h
    ·split at h
     ·split at h
      ·cases h;exact hn
      ·split at h
       ·cases h;rw[ag4 hi];simp only[Store.kill];split<;>simp[hn]
       ·cases h
     ·cases h
    ·split at h
     ·split at h
      ·cases h;exact hn
      ·split at h
       ·cases h;rw[ag4 hi];exact hn
       ·cases h
     ·cases h
    ·cases h
 | aj3 e n z ps=>obtain ⟨_,_,_,rfl⟩:=h;exact hn
 | cu6 x=>obtain ⟨_,_,rfl⟩:=h;exact hn
 | dj2 e z x=>obtain ⟨_,_,_,rfl⟩:=h;rw[ag4 hi];exact hn
 | st k xs=>exact h.elim
 | _=>exact absurd hk (by simp[IK.kind])
theorem ba8 {o:ae7}{t:Nat}(h:t∈o.op.ops.flatMap IX.uses):t∈o.uses:=by unfold ae7.uses;exact zc _ h
theorem ks4 {B:Bool}{K:Frm->Store->Prop}(hK:∀f f' s,FEq f f'->K f s->K f' s){ix:Nat}{x:ae7}{kx:Nat}{post:List Item} :
  ∀(pre:List Item) (fr:Frm) (σ:Store),(∀p∈pre,gn6 B p.2.1 x)->(∀p∈pre,p.2.2≠kx/\σ.obj p.2.2=zk)->(pre.map (·.2.2)).Nodup->(pre≠[]->σ.obj kx=zk) ->
   (∀p∈pre,p.2.1.op.kind=2->∀y∈x.op.ops,bn9 p.2.2 (y.ev E fr)) ->
   bz5 P E B (pre++(ix,x,kx)::post) fr σ K->jm6 P E B x kx fr σ λfr' σ'=>bz5 P E B (pre++post) fr' σ' K:=by
 intro pre
 induction pre with
 | nil=>intro fr σ _ _ _ _ _ h;exact h
 | cons p pre ih=>
  intro fr σ hfree hids hnd hnx hH h;obtain ⟨ip,p,kp⟩:=p;obtain ⟨hk,hap⟩:=hfree _ (za ..);obtain ⟨hpx,hkp⟩:=hids _ (za ..);simp only at hk hap hpx hkp;obtain ⟨kp3,kx3⟩:=dy4 hk;have hnx:=hnx (by simp);obtain ⟨ap,hact,hh⟩:=h
  -- what p gives
  have hp:∃vp σ1,jz6 P E B ap p.op kp fr σ vp σ1/\bz5 P E B (pre++(ix,x,kx)::post) (fr.ap3 p.dst vp) σ1 K:=by
   cases ap with
   | true=>
    obtain ⟨h1,h2⟩:=hh;obtain ⟨vp,σ1,hd,k⟩:=(bc6 kp3).1 h1
    exact ⟨vp,σ1,⟨hd,h2⟩,k⟩
   | false=>exact ⟨skV,σ,⟨rfl,rfl⟩,hh⟩
  obtain ⟨vp,σ1,hd,htree⟩:=hp
  have hfx:∀t∈x.uses,(fr.ap3 p.dst vp).get t=fr.get t:=λt ht=>by
   rw[be8,if_neg];intro e;exact hap.2 t e ht
  have fresh1:∀i,i≠kp->σ.obj i=zk->σ1.obj i=zk:=λi hi h0=>by
   cases ap with
   | true=>exact ej6 kp3 hi hd.1 h0
   | false=>obtain ⟨_,rfl⟩:=hd;exact h0
  have hnd':=List.nodup_cons.1 (show (kp::pre.map (·.2.2)).Nodup from hnd)
  obtain ⟨ax,hactx,hhx⟩:=ih (fr.ap3 p.dst vp) σ1 (λq hq=>hfree q (zb _ hq))
   (λq hq=>⟨(hids q (zb _ hq)).1,fresh1 _ (λe=>hnd'.1 (by rw[<- e];exact zi.2 ⟨q,hq,rfl⟩)) (hids q (zb _ hq)).2⟩)
   hnd'.2 (λ_=>fresh1 kx (λe=>hpx e.symm) hnx)
   (λq hq hk2 y hy=>by
    have:y.ev E (fr.ap3 p.dst vp)=y.ev E fr:=ah1 λt ht=>hfx t (ba8 (zr.2 ⟨y,hy,ht⟩))
    rw[this];exact hH q (zb _ hq) hk2 y hy) htree
  have hx:∃vx σ2,jz6 P E B ax x.op kx (fr.ap3 p.dst vp) σ1 vx σ2/\bz5 P E B (pre++post) ((fr.ap3 p.dst vp).ap3 x.dst vx) σ2 K:=by
   cases ax with
   | true=>
    obtain ⟨h1,h2⟩:=hhx;obtain ⟨vx,σ2,hd,k⟩:=(bc6 kx3).1 h1
    exact ⟨vx,σ2,⟨hd,h2⟩,k⟩
   | false=>exact ⟨skV,σ1,⟨rfl,rfl⟩,hhx⟩
  obtain ⟨vx,σ2,hdx,htree2⟩:=hx;have hactx':bh9 x fr=zd ax:=by rw[<- bk9 hfx];exact hactx
  have hfp:∀t∈p.uses,fr.get t=(fr.ap3 x.dst vx).get t:=λt ht=>by
   rw[be8,if_neg];intro e;exact (hap.1 t e).1 ht
  have hactp':bh9 p (fr.ap3 x.dst vx)=zd ap:=by rw[<- bk9 hfp];exact hact
  have feq:FEq ((fr.ap3 p.dst vp).ap3 x.dst vx) ((fr.ap3 x.dst vx).ap3 p.dst vp):=λt=>by
   simp only[be8];by_cases h1:x.dst=zd t
   ·have h2:p.dst≠zd t:=(hap.1 t h1).2;simp[h1,h2]
   ·simp[h1]
  have swap:∃σ1',jz6 P E B ax x.op kx fr σ vx σ1'/\jz6 P E B ap p.op kp (fr.ap3 x.dst vx) σ1' vp σ2:=by
   cases ap with
   | true=>
    cases ax with
    | true=>
     obtain ⟨σ1',s1,s2,s3,s4⟩:=dy3 hd.1 hd.2 hdx.1 hdx.2 hk (λt ht=>hfx t (ba8 ht)) (λt ht=>hfp t (ba8 ht)) hpx hkp hnx (hH _ (za ..))
     exact ⟨σ1',⟨s1,s2⟩,⟨s3,s4⟩⟩
    | false=>
     obtain ⟨rfl,rfl⟩:=hdx
     exact ⟨σ,⟨rfl,rfl⟩,bo8 (λt ht=>hfp t (ba8 ht)) hd.1,λhb=>cc9 (λt ht=>hfp t (ba8 ht)) (hd.2 hb)⟩
   | false=>
    obtain ⟨rfl,rfl⟩:=hd
    cases ax with
    | true=>exact ⟨σ2,⟨bo8 (λt ht=>hfx t (ba8 ht)) hdx.1,λhb=>cc9 (λt ht=>hfx t (ba8 ht)) (hdx.2 hb)⟩,rfl,rfl⟩
    | false=>obtain ⟨rfl,rfl⟩:=hdx;exact ⟨_,⟨rfl,rfl⟩,rfl,rfl⟩
  obtain ⟨σ1',d1,d2⟩:=swap
  have inner:jm6 P E B p kp (fr.ap3 x.dst vx) σ1' λfr' σ'=>bz5 P E B (pre++post) fr' σ' K:=by
   refine ⟨ap,hactp',?_⟩
   cases ap with
   | true=>exact ⟨(bc6 kp3).2 ⟨vp,σ2,d2.1,ej5 hK _ _ _ _ feq htree2⟩,d2.2⟩
   | false=>obtain ⟨rfl,rfl⟩:=d2;exact ej5 hK _ _ _ _ feq htree2
  refine ⟨ax,hactx',?_⟩
  cases ax with
  | true=>exact ⟨(bc6 kx3).2 ⟨vx,σ1',d1.1,inner⟩,d1.2⟩
  | false=>obtain ⟨rfl,rfl⟩:=d1;exact inner
end Go.Id
namespace Go.Id
open Go
variable {P:Program} {w w' w'':World} {ρ ρ' ρ'':Rho} {E:Nat->IV} {σ σ':Store} {N n n':Nat} {fr:Frm} {a:Act} {pf:List Nat}
def IX.quiet:IX->Bool
 | .c (.ptr _ _)=>false
 | .c (.slice _ _ _ _)=>false
 | .c (.map _)=>false
 | .c (.ag6 _ _ _ _)=>false
 | .c (.ak5 _ _ _ _ _)=>false
 | _=>true
theorem IX.db6 {x:IX}{id:Nat}(hq:x.quiet=true)(hs:Sim E ρ w σ)(hf:FR ρ w N fr a.tmps)(h:ρ id=.no):bn9 id (x.ev E fr):=by
 cases x with
 | t n=>exact fe9 (hf.get n) h
 | c v=>cases v<;>first|trivial|cases hq
 | g n=>exact fe9 (hs.env n) h
 | f n=>trivial
structure Rem (P:Program) (pf:List Nat) (N:Nat) (ops:Array Oper) (B:Bool) (anc:Nat->Nat->Prop) (base:Nat) (rem:List Item) (listed:Array Bool):Prop where
 size:listed.size=ops.size
 un:∀j,j<ops.size->(listed.getD j true=false↔∃it∈rem,it.1=j)
 its:∀it∈rem,∃o,ops[it.1]? = zd o/\ck4 P pf N ops o=zd it.2.1/\it.2.2=base+it.1/\∀y∈it.2.1.op.ops,IX.quiet y=true
 pw:rem.Pairwise λp x=>(anc p.1 x.1\/gn6 B p.2.1 x.2.1)/\p.1≠x.1/\∀o,ops[p.1]? = zd o->∀e∈o.after,Region.binds .any e=true->e.on≠x.1
 dc:∀j,listed.getD j false=true->∀k,anc k j->listed.getD k false=true
theorem getD_lt {l:Array Bool}{j:Nat}(h:l.getD j true=false):j<l.size:=by
 rcases zj j l.size with h'|h'
 ·exact h'
 ·simp[ze h'] at h
theorem gn7 {l:Array Bool}{j:Nat}(h:l.getD j false=true):l.getD j true=true:=by
 rcases zj j l.size with h'|h'
 ·simp[h'] at h ⊢;exact h
 ·simp[ze h'] at h
theorem gn8 {ops:Array Oper} {B:Bool} {anc:Nat->Nat->Prop} {n0 base:Nat} {ro:Option Nat} {Qw:Exit->Act->World->Prop} {K:Frm->Store->Prop} {ρ0:Rho} {w0:World} {ds:List Deferred}
  (hKf:∀f f' s,FEq f f'->K f s->K f' s)
  (hfin:∀fr σ ρ w a,n0<=σ.next->K fr σ->Sim E ρ w σ->FR ρ w N fr a.tmps->a.defers=ds->bg5 n0 ρ0 w0 ρ w->Qw .normal a w)
  (hed:∀j o,ops[j]? = zd o->∀e∈o.after,Region.binds .any e=true->e.on<ops.size/\e.on≠j)
  (hanc:∀k j,anc k j->∀o,ops[j]? = zd o->∃e∈o.after,Region.binds .any e=true/\(e.on=k\/anc k e.on)) :
  ∀(fuel:Nat) (rem:List Item) (listed:Array Bool) (fr:Frm) (σ:Store) (ρ:Rho) (w:World) (a:Act),rem.length=fuel->Rem P pf N ops B anc base rem listed->bz5 P E B rem fr σ K ->
   Sim E ρ w σ->FR ρ w N fr a.tmps->a.defers=ds->bg5 n0 ρ0 w0 ρ w->n0<=base->base+ops.size<=σ.next->(∀it∈rem,ρ it.2.2=.no) ->
   wpAnyIn (fw ro) 0 P .any ops Qw fuel listed a w:=by
 intro fuel
 induction fuel with
 | zero=>
  intro rem listed fr σ ρ w a hlen hr h hs hf hd hx hn0 hnx hno;have:rem=[]:=z0.1 hlen;subst this;refine ⟨?_,hfin fr σ ρ w a om h hs hf hd hx⟩;rw[zx];intro j hj;obtain ⟨h0,_⟩:=mem_ready.1 hj;obtain ⟨it,hit,_⟩:=(hr.un j (by rw[<- hr.size];exact getD_lt h0)).1 h0
  cases hit
 | succ fuel ih=>
  intro rem listed fr σ ρ w a hlen hr h hs hf hd hx hn0 hnx hno;refine ⟨λhemp=>?_,λi hi=>?_⟩
  ·exfalso
   cases rem with
   | nil=>cases hlen
   | cons it rem=>
    obtain ⟨o,ho,hc,hid,_⟩:=hr.its it (za ..)
    have hlt:it.1<ops.size:=by
     rcases zj it.1 ops.size with h'|h'
     ·exact h'
     ·simp[ze h'] at ho
    have:it.1∈Region.ready .any ops listed:=by
     refine mem_ready.2 ⟨(hr.un _ hlt).2 ⟨it,za ..,rfl⟩,o,ho,λe he hb=>?_⟩;obtain ⟨h1,h2⟩:=hed _ o ho e he hb;have hj:e.on<listed.size:=by rw[hr.size];exact h1
     by_cases hL:listed.getD e.on true=false
     ·obtain ⟨jt,hjt,hje⟩:=(hr.un _ h1).1 hL;rcases zg.1 hjt with rfl|hjt
      ·exact absurd hje.symm h2
      ·exact absurd hje.symm (((zl.1 hr.pw).1 jt hjt).2.2 o ho e he hb)
     ·simp[hj] at hL ⊢;exact hL
    rw[hemp] at this;cases this
  ·obtain ⟨h0,o,ho,hall⟩:=mem_ready.1 hi;have hlt:i<ops.size:=by rw[<- hr.size];exact getD_lt h0
   obtain ⟨it,hit,hie⟩:=(hr.un i hlt).1 h0;obtain ⟨pre,post,rfl⟩:=z5 hit;obtain ⟨ix,x,kx⟩:=it;simp only at hie;subst hie;obtain ⟨o',ho',hc,hkx,hqx⟩:=hr.its _ hit;simp only at ho' hc hkx hqx;rw[ho] at ho';cases ho';obtain ⟨hpp,hxp,hcross⟩:=z3.1 hr.pw;have hcx:=λp hp=>hcross p hp _ (za ..)
   have hnotL:∀p∈pre,listed.getD p.1 false≠true:=λp hp hL=>by
    obtain ⟨op,hop,_⟩:=hr.its p (zc _ hp)
    have hpl:p.1<ops.size:=by
     rcases zj p.1 ops.size with h'|h'
     ·exact h'
     ·simp[ze h'] at hop
    have:=(hr.un p.1 hpl).2 ⟨p,zc _ hp,rfl⟩;rw[gn7 hL] at this;cases this
   have hfree:∀p∈pre,gn6 B p.2.1 x:=λp hp=>by
    rcases (hcx p hp).1 with ha|hf
    ·exfalso;obtain ⟨e,he,hb,heq⟩:=hanc _ _ ha o ho;have hle:=hall e he hb;rcases heq with heq|ha'
     ·exact hnotL p hp (by rw[<- heq];exact hle)
     ·exact hnotL p hp (hr.dc _ hle _ ha')
    ·exact hf
   have hidp:∀p∈pre,p.2.2=base+p.1:=λp hp=>by
    obtain ⟨_,_,_,h1,_⟩:=hr.its p (zc _ hp);exact h1
   have hpull:=ks4 (P:=P) (E:=E) (B:=B) (K:=K) hKf (ix:=ix) (x:=x) (kx:=kx) (post:=post) pre fr σ hfree
    (λp hp=>⟨by rw[hidp p hp,hkx];have:=(hcx p hp).2.1;omega,hs.av3 _ (hno p (zc _ hp))⟩)
    (by
     rw[zy,z6];refine (List.Pairwise.and_mem.1 hpp).imp ?_;intro p q ⟨hp,hq,h1⟩;rw[hidp p hp,hidp q hq];have:=h1.2.1;omega)
    (λ_=>hs.av3 _ (hno _ hit))
    (λp hp _ y hy=>IX.db6 (hqx y hy) hs hf (hno p (zc _ hp))) h
   obtain ⟨⟨fz,hk⟩,hdst,hdN,hg⟩:=bz6 hc;have hidx:kx<σ.next/\n0<=kx:=by rw[hkx];omega
   have hmem:∀it∈pre++post,it∈pre++(ix,x,kx)::post:=λit h=>by
    rcases zh.1 h with h|h
    ·exact zc _ h
    ·exact zn _ (zb _ h)
   have hne:∀it∈pre++post,it.1≠ix:=λit h=>by
    rcases zh.1 h with h|h
    ·exact (hcx it h).2.1
    ·exact λe=>((zl.1 hxp).1 it h).2.1 e.symm
   have hrem:Rem P pf N ops B anc base (pre++post) (listed.setIfInBounds ix true):=by
    refine ⟨by simp[hr.size],λj hj=>?_,λit hit=>hr.its it (hmem it hit),?_,?_⟩
    ·by_cases hji:j=ix
     ·subst hji;have:j<listed.size:=by rw[hr.size];exact hj
      constructor
      ·intro h;simp[this] at h
      ·rintro ⟨it,h1,h2⟩;exact absurd h2 (hne it h1)
     ·rw[getD_set_ne true (Ne.symm hji),hr.un j hj];constructor
      ·rintro ⟨it,h1,h2⟩;refine ⟨it,?_,h2⟩;rcases zh.1 h1 with h1|h1
       ·exact zc _ h1
       ·rcases zg.1 h1 with rfl|h1
        ·exact absurd h2.symm hji
        ·exact zn _ h1
      ·rintro ⟨it,h1,h2⟩;exact ⟨it,hmem it h1,h2⟩
    ·exact hr.pw.sublist (zv.append (zv.refl _) (z1 _ _))
    ·intro j hj k hk;by_cases hji:j=ix
     ·subst hji;obtain ⟨e,he,hb,heq⟩:=hanc _ _ hk o ho;have hle:=hall e he hb;rcases heq with rfl|ha'
      ·exact getD_set_true hle
      ·exact getD_set_true (hr.dc _ hle _ ha')
     ·rw[getD_set_ne false (Ne.symm hji)] at hj;exact getD_set_true (hr.dc _ hj _ hk)
   have hlen':(pre++post).length=fuel:=by simp at hlen ⊢;omega
   have hne2:∀it∈pre++post,it.2.2≠kx:=λit h=>by
    obtain ⟨_,_,_,h1,_⟩:=hr.its it (hmem it h);rw[h1,hkx];have:=hne it h;omega
   unfold wpOpIn;simp only[ho];obtain ⟨act,hact,hh⟩:=hpull
   have run:opR P E x.op kx fr σ (λv σ'=>bz5 P E B (pre++post) (fr.ap3 x.dst v) σ' K)->o.wpIn (fw ro) 0 P a w (wpAnyIn (fw ro) 0 P .any ops Qw fuel (listed.setIfInBounds ix true)) Qw:=by
    intro hop;refine ea2 hk hop hs hf om (λhl=>⟨hno _ hit,hidx.1,hidx.2⟩) ?_;intro v σ' r ρ' w' hnx' hK hs' hv' hx' hno';refine ih (pre++post) _ _ σ' ρ' w' (a.put o.dst r) hlen' hrem hK hs' ?_ (by rw[put_defers];exact hd) (hx.trans (hx'.weak (zp _))) hn0 om ?_
    ·rw[hdst];exact FR.ap3 (hf.mono hx') hdN hv'
    ·intro jt hjt;obtain ⟨jo,hjo,_,h1,_⟩:=hr.its jt (hmem jt hjt)
     have hjl:jt.1<ops.size:=by
      rcases zj jt.1 ops.size with h'|h'
      ·exact h'
      ·simp[ze h'] at hjo
     exact hno' _ (by rw[h1];omega) (λ_=>hne2 jt hjt) (hno _ (hmem jt hjt))
   rcases hg with ⟨hg1,hg2⟩|⟨j,want,s,hg1,hgs,hg2⟩
   ·have hw:Region.wanted o (yielded ops a.tmps)=true:=by unfold Region.wanted;rw[hg1]
    rw[if_pos hw];simp only[bh9,hg2,zd.injEq] at hact;subst hact;exact run hh.1
   ·simp only[bh9,hg2] at hact;have hw:=cd5 hg1 hgs hf hact;rw[hw]
    cases act with
    | true=>exact run hh.1
    | false=>
     refine ⟨λf _=>trivial,?_⟩;exact ih (pre++post) _ _ σ ρ w (a.put o.dst undef) hlen' hrem hh hs (by rw[hdst];exact FR.ap3 hf hdN gq5) (by rw[put_defers];exact hd) hx hn0 hnx (λjt hjt=>hno _ (hmem jt hjt))
end Go.Id
namespace Go.Id
open Go
variable {P:Program} {w w' w'':World} {ρ ρ' ρ'':Rho} {E:Nat->IV} {σ σ':Store} {N n n':Nat} {fr:Frm} {a:Act} {pf:List Nat}
def ff3 (base:Nat):Nat->List ae7->List Item
 | _,[]=>[]
 | i,o::os=>(i,o,base+i)::ff3 base (i+1) os
def aj9 (o:Oper):List Nat:=(o.after.toList.filter (Region.binds .any)).map (·.on)
def orF (ms:List Nat)(es:List Nat):Nat:=es.foldl (λs e=>s ||| (2^e ||| ms.getD e 0)) 0
def gn9 (ess:List (List Nat)):List Nat:=ess.foldl (λacc es=>acc++[orF acc es]) []
def ff4 (p x:ae7):Bool :=
 (match x.dst with|none=>true|some d=>!p.uses.contains d&&p.dst != zd d)&&(match p.dst with|none=>true|some d=>!x.uses.contains d)
def ff5 (B:Bool)(ms:List Nat)(i:Nat)(p:ae7):Nat->List ae7->Bool
 | _,[]=>true
 | j,x::xs=>((ms.getD j 0).testBit i||(db5 B p.op.kind x.op.kind&&ff4 p x))&&ff5 B ms i p (j+1) xs
def dy5 (B:Bool)(ms:List Nat):Nat->List ae7->Bool
 | _,[]=>true
 | i,o::os=>ff5 B ms i o (i+1) os&&dy5 B ms (i+1) os
def jm7:Nat->List (List Nat)->Bool
 | _,[]=>true
 | j,es::r=>es.all (λe=>decide (e<j))&&jm7 (j+1) r
def jm8 (ms:List Nat):Nat->List (List Nat)->Bool
 | _,[]=>true
 | j,es::r=>ms.getD j 0==orF ms es&&jm8 ms (j+1) r
def jz7 (ess:List (List Nat))(ios:List ae7)(B:Bool):Bool :=
 let ms:=gn9 ess
 jm7 0 ess&&jm8 ms 0 ess&&dy5 B ms 0 ios&&ios.all λo=>o.op.ops.all IX.quiet
def ej7 (ios:List ae7):Bool:=ios.any λo=>o.op.kind==3
theorem go2 {ms:List Nat}{k:Nat}:∀(es:List Nat) (s:Nat),(es.foldl (λs e=>s ||| (2^e ||| ms.getD e 0)) s).testBit k=true->s.testBit k=true\/∃e∈es,e=k\/(ms.getD e 0).testBit k=true:=by
 intro es
 induction es with
 | nil=>exact λs h=>.inl h
 | cons e es ih=>
  intro s h;rcases ih _ h with h1|⟨e',he,h1⟩
  ·rw[Nat.testBit_or,Nat.testBit_or,Nat.testBit_two_pow] at h1;simp only[zm,decide_eq_true_eq] at h1;rcases h1 with h1|h1|h1
   ·exact .inl h1
   ·exact .inr ⟨e,za ..,.inl h1⟩
   ·exact .inr ⟨e,za ..,.inr h1⟩
  ·exact .inr ⟨e',zb _ he,h1⟩
theorem db7 {p x:ae7}(h:ff4 p x=true):gn5 p x:=by
 unfold ff4 at h;simp only[zf] at h;obtain ⟨h1,h2⟩:=h;refine ⟨λd hd=>?_,λd hd=>?_⟩
 ·rw[hd] at h1
  simpa using h1
 ·rw[hd] at h2
  simpa using h2
theorem go3 {base:Nat}:∀(ios:List ae7) (i:Nat),∀it∈ff3 base i ios,i<=it.1:=by
 intro ios
 induction ios with
 | nil=>intro i it h;cases h
 | cons o os ih=>
  intro i it h;rcases zg.1 h with rfl|h
  ·exact zp _
  ·have:=ih _ it h;omega
theorem hy7 {base:Nat}:∀(ios:List ae7) (i:Nat),(ff3 base i ios).length=ios.length:=by
 intro ios
 induction ios with
 | nil=>intro i;rfl
 | cons o os ih=>intro i;simp[ff3,ih]
theorem ff6 {base:Nat}:∀(ios:List ae7) (i j:Nat),i<=j->j<i+ios.length->∃it∈ff3 base i ios,it.1=j:=by
 intro ios
 induction ios with
 | nil=>intro i j h1 h2;simp at h2;omega
 | cons o os ih=>
  intro i j h1 h2;by_cases h:i=j
  ·exact ⟨_,za ..,h⟩
  ·obtain ⟨it,h3,h4⟩:=ih (i+1) j om (by simp at h2;omega);exact ⟨it,zb _ h3,h4⟩
theorem go4 {base:Nat}:∀(ios:List ae7) (i:Nat),∀it∈ff3 base i ios,it.2.2=base+it.1/\it.2.1∈ios:=by
 intro ios
 induction ios with
 | nil=>intro i it h;cases h
 | cons o os ih=>
  intro i it h;rcases zg.1 h with rfl|h
  ·exact ⟨rfl,za ..⟩
  ·obtain ⟨h1,h2⟩:=ih _ it h;exact ⟨h1,zb _ h2⟩
theorem ff7 {base:Nat}{ops:Array Oper}:∀(os:List Oper) (ios:List ae7) (i:Nat),ops.toList.drop i=os->bp3 P pf N ops os=zd ios->∀it∈ff3 base i ios,∃o,ops[it.1]? = zd o/\ck4 P pf N ops o=zd it.2.1:=by
 intro os
 induction os with
 | nil=>intro ios i _ hc it hit;cases hc;cases hit
 | cons o os ih=>
  intro ios i hdrop hc it hit;simp only[bp3] at hc;split at hc
  ·rename_i io ios' hio hios;cases hc
   have hi:ops[i]? = zd o:=by
    have:=congrArg (λl=>l[0]?) hdrop
    simpa [List.getElem?_drop] using this
   have hdrop':ops.toList.drop (i+1)=os:=by
    have:=congrArg (List.drop 1) hdrop
    simpa [List.drop_drop] using this
   rcases zg.1 hit with rfl|hit
   ·exact ⟨o,hi,hio⟩
   ·exact ih ios' (i+1) hdrop' hios it hit
  ·cases hc
theorem dl7 {ops:Array Oper}:∀(os:List Oper) (ios:List ae7),bp3 P pf N ops os=zd ios->ios.length=os.length:=by
 intro os
 induction os with
 | nil=>intro ios h;cases h;rfl
 | cons o os ih=>
  intro ios h;simp only[bp3] at h;split at h
  ·rename_i io ios' hio hios;cases h;simp[ih _ hios]
  ·cases h
theorem eu5 {B:Bool}{ms:List Nat}{i base:Nat}{p:ae7}:∀(xs:List ae7) (j:Nat),ff5 B ms i p j xs=true->∀it∈ff3 base j xs,(ms.getD it.1 0).testBit i=true\/gn6 B p it.2.1:=by
 intro xs
 induction xs with
 | nil=>intro j _ it h;cases h
 | cons x xs ih=>
  intro j h it hit;simp only[ff5,zf,zm] at h;rcases zg.1 hit with rfl|hit
  ·rcases h.1 with h1|h1
   ·exact .inl h1
   ·exact .inr ⟨h1.1,db7 h1.2⟩
  ·exact ih _ h.2 it hit
theorem ft2 {B:Bool}{ms:List Nat}{base:Nat}:∀(xs:List ae7) (i:Nat),dy5 B ms i xs=true->(ff3 base i xs).Pairwise λp x=>((ms.getD x.1 0).testBit p.1=true\/gn6 B p.2.1 x.2.1)/\p.1<x.1:=by
 intro xs
 induction xs with
 | nil=>intro i _;exact .nil
 | cons x xs ih=>
  intro i h;simp only[dy5,zf] at h;refine zl.2 ⟨λit hit=>⟨eu5 xs _ h.1 it hit,?_⟩,ih _ h.2⟩;have:=go3 xs _ it hit;simp only;omega
theorem db8:∀(ess:List (List Nat)) (i:Nat),jm7 i ess=true->∀j es,ess[j]? = zd es->∀e∈es,e<i+j:=by
 intro ess
 induction ess with
 | nil=>intro i _ j es h;simp at h
 | cons x ess ih=>
  intro i h j es hj e he;simp only[jm7,zf,zo,decide_eq_true_eq] at h
  cases j with
  | zero=>simp at hj;subst hj;exact h.1 e he
  | succ j=>have:=ih (i+1) h.2 j es (by simpa using hj) e he;omega
theorem ej8 {ms:List Nat}:∀(ess:List (List Nat)) (i:Nat),jm8 ms i ess=true->∀j es,ess[j]? = zd es->ms.getD (i+j) 0=orF ms es:=by
 intro ess
 induction ess with
 | nil=>intro i _ j es h;simp at h
 | cons x ess ih=>
  intro i h j es hj;simp only[jm8,zf,beq_iff_eq] at h
  cases j with
  | zero=>simp at hj;subst hj;exact h.1
  | succ j=>
   have:=ih (i+1) h.2 j es (by simpa using hj);rw[<- this];congr 1;omega
theorem go5 {n0 id:Nat}{ops:Array Oper}{ios:List ae7}{B:Bool}{Q:Exit->Frm->Store->Prop}{ks:List Nat}(hm:P.follows .mixedOrders=true)(hc:bp3 P pf N ops ops.toList=zd ios)
  (hok:jz7 (ops.toList.map aj9) ios B=true)
  (h:bz5 P E B (ff3 σ.next 0 ios) fr { σ with next:=σ.next+ios.length } (λfr' σ'=>Q .normal (fr'.keep ks) σ')):R P E N n0 (.region id ops true) fr σ Q:=by
 intro hn ro h0 ρ w a hs hf hd hr;refine wpIn_region_any hm ?_;have hlen:ios.length=ops.size:=by rw[dl7 _ _ hc];simp
 unfold jz7 at hok;simp only[zf,zo] at hok;obtain ⟨⟨⟨hed,hms⟩,hpr⟩,hq⟩:=hok;generalize gn9 (ops.toList.map aj9)=ms at hms hpr;have hes:∀(j:Nat) (o:Oper),ops[j]? = zd o->(ops.toList.map aj9)[j]? = zd (aj9 o):=λj o ho=>by simp[ho]
 have hme:∀(o:Oper) (k:Nat),k∈aj9 o->∃e∈o.after,Region.binds .any e=true/\e.on=k:=λo k hk=>by
  unfold aj9 at hk;obtain ⟨e,he,rfl⟩:=zi.1 hk;obtain ⟨h1,h2⟩:=zs.1 he;exact ⟨e,by simpa using h1,h2,rfl⟩
 have hem:∀(o:Oper) (e:Edge),e∈o.after->Region.binds .any e=true->e.on∈aj9 o:=λo e he hb=>
  zi.2 ⟨e,zs.2 ⟨by simpa using he,hb⟩,rfl⟩
 refine gn8 (E:=E) (pf:=pf) (N:=N) (B:=B) (anc:=λk j=>(ms.getD j 0).testBit k=true) (n0:=n0) (base:=σ.next) (ρ0:=ρ) (w0:=w) (ds:=a.defers) (K:=λfr' σ'=>Q .normal (fr'.keep ks) σ') ?_ ?_ ?_ ?_
  ops.size (ff3 σ.next 0 ios) _ fr { σ with next:=σ.next+ios.length } ρ w.drew a (by rw[hy7,hlen]) ?_ h
  (dy9 (cy1 hs) (λi hi=>hs.fresh i om)) (hf.mono (ba7 0)) rfl ((ba7 n0).weak (zp _)) hn (by rw[hlen];exact zp _) ?_
 ·intro f f' s hff hK
  have:f'.keep ks=f.keep ks:=by
   unfold Frm.keep;exact zq λk _=>by rw[hff k]
  rw[this];exact hK
 ·intro fr' σ' ρ' w' a' hn' hK hs' hf' hd' hx;exact ⟨fr'.keep ks,σ',ρ',hn',hK,hs',hf'.keep ks,by rw[hd'];exact hd.mono hx,hr.mono hx,hx⟩
 ·intro j o ho e he hb;have:=db8 _ _ hed j _ (hes j o ho) _ (hem o e he hb)
  have hj:j<ops.size:=by
   rcases zj j ops.size with h'|h'
   ·exact h'
   ·simp[ze h'] at ho
  omega
 ·intro k j hk o ho;have:=ej8 _ _ hms j _ (hes j o ho);simp only[Nat.zero_add] at this;rw[this] at hk;rcases go2 _ _ hk with h1|⟨e,he,h1⟩
  ·simp at h1
  ·obtain ⟨ed,hed1,hb,heq⟩:=hme o e he;exact ⟨ed,hed1,hb,by rw[heq];exact h1⟩
 ·refine ⟨by simp,λj hj=>?_,λit hit=>?_,?_,?_⟩
  ·constructor
   ·intro _;exact ff6 ios 0 j (Nat.zero_le _) om
   ·intro _;simp[hj]
  ·obtain ⟨o,h1,h2⟩:=ff7 ops.toList ios 0 rfl hc it hit;obtain ⟨h3,h4⟩:=go4 ios 0 it hit;exact ⟨o,h1,h2,h3,hq _ h4⟩
  ·refine (ft2 ios 0 hpr).imp ?_;intro p x ⟨h1,h2⟩;refine ⟨h1,om,λo ho e he hb=>?_⟩;have:=db8 _ _ hed p.1 _ (hes p.1 o ho) _ (hem o e he hb);omega
  ·intro j hj;exfalso;by_cases hlt:j<ops.size
   ·simp[hlt] at hj
   ·simp[hlt] at hj
 ·intro it hit;exact hs.fresh _ (by rw[(go4 ios 0 it hit).1];omega)
end Go.Id
namespace Go.Id
open Go
variable {P:Program} {w w' w'':World} {ρ ρ' ρ'':Rho} {E:Nat->IV} {σ σ':Store} {N n n':Nat} {fr:Frm} {a:Act} {pf:List Nat}
def IK.cls:IK->Nat
 | .q u=>match u.kind with
  | 0=>0
  | _=>1
 | .bb1 _ _|.aj3 _ _ _ _|.cu6 _=>0
 | _=>2
theorem db9 {op:IK}(h:op.cls=0):op.kind=0:=by
 cases op with
 | q u=>
  simp only[IK.cls] at h;split at h
  ·rename_i hk;exact hk
  ·cases h
 | bb1 f xs=>rfl
 | aj3 _ _ _ _=>rfl
 | cu6 _=>rfl
 | _=>cases h
theorem jm9 {op:IK}(h:op.cls<=1):(∃q,op=.q q)\/op.cls=0:=by
 cases op with
 | q u=>exact .inl ⟨u,rfl⟩
 | bb1 f xs=>exact .inr rfl
 | aj3 _ _ _ _=>exact .inr rfl
 | cu6 _=>exact .inr rfl
 | _=>simp[IK.cls] at h
theorem dc1 {op:IK}{id:Nat}{K:IV->Store->Prop}(h:op.cls<=1):opR P E op id fr σ K↔∃v,bs4 P E op id fr σ v σ/\K v σ:=by
 cases op with
 | q q=>exact ⟨λ⟨v,h,k⟩=>⟨v,⟨h,rfl⟩,k⟩,λ⟨v,⟨h,_⟩,k⟩=>⟨v,h,k⟩⟩
 | bb1 f xs=>exact ⟨λ⟨v,h,k⟩=>⟨v,⟨h,rfl⟩,k⟩,λ⟨v,⟨h,_⟩,k⟩=>⟨v,h,k⟩⟩
 | aj3 e n z ps=>exact ⟨λ⟨out,h,k⟩=>⟨_,⟨out,h,rfl,rfl⟩,k⟩,λ⟨_,⟨out,h,e1,_⟩,k⟩=>by subst e1;exact ⟨out,h,k⟩⟩
 | cu6 x=>exact ⟨λ⟨h,k⟩=>⟨_,⟨h,rfl,rfl⟩,k⟩,λ⟨_,⟨h,e1,_⟩,k⟩=>by subst e1;exact ⟨h,k⟩⟩
 | _=>simp[IK.cls] at h
theorem go6 {op:IK}{id:Nat}{v:IV}(hk:op.cls<=1)(h:bs4 P E op id fr σ v σ'):σ'=σ:=by
 cases op with
 | q q=>exact h.2
 | bb1 f xs=>exact h.2
 | aj3 e n z ps=>obtain ⟨_,_,_,h⟩:=h;exact h
 | cu6 x=>exact h.2.2
 | _=>simp[IK.cls] at hk
def dy6 (E:Nat->IV)(fr:Frm):IQ->IQ
 | .load a x=>.load a (.c (x.ev E fr))
 | .lkp t z ok x k=>.lkp t z ok (.c (x.ev E fr)) (.c (k.ev E fr))
 | .len k x=>.len k (.c (x.ev E fr))
 | q=>q
theorem hy8 {q:IQ}(f:Frm)(h:q.kind≠0):evq E f σ (dy6 E fr q)=evq E fr σ q:=by
 cases q with
 | load a x=>rfl
 | lkp t z ok x k=>rfl
 | len k x=>rfl
 | _=>exact absurd rfl h
theorem hy9 {fr fr':Frm}{q:IQ}(h:∀t∈q.ops.flatMap IX.uses,fr.get t=fr'.get t):dy6 E fr q=dy6 E fr' q:=by
 cases q with
 | load a x=>simp only[dy6];rw[ah1 (x:=x) (λt ht=>h t (by simp[IQ.ops,ht]))]
 | lkp t z ok x k=>simp only[dy6];rw[ah1 (x:=x) (λt ht=>h t (by simp[IQ.ops,ht])),ah1 (x:=k) (λt ht=>h t (by simp[IQ.ops,ht]))]
 | len k x=>simp only[dy6];rw[ah1 (x:=x) (λt ht=>h t (by simp[IQ.ops,ht]))]
 | _=>rfl
abbrev LE:=Nat×IQ×IV
def bo9 (E:Nat->IV)(fr:Frm)(i:Nat)(op:IK)(v:IV)(L:List LE):List LE :=
 match op with
 | .q q=>if q.kind=0 then L else (i,dy6 E fr q,v)::L
 | _=>L
theorem cj9 {fr fr':Frm}{i:Nat}{op:IK}{v:IV}{L:List LE}(h:∀t∈op.ops.flatMap IX.uses,fr.get t=fr'.get t):bo9 E fr i op v L=bo9 E fr' i op v L:=by
 cases op with
 | q q=>simp only[bo9];rw[hy9 (q:=q) (λt ht=>h t ht)]
 | _=>rfl
theorem bs5 {i:Nat}{op:IK}{v:IV}{L:List LE}:∀e∈L,e∈bo9 E fr i op v L:=by
 intro e he;unfold bo9;split
 ·split
  ·exact he
  ·exact zb _ he
 ·exact he
theorem go7 {i:Nat}{op:IK}{v:IV}{L L':List LE}(h:∀e∈L',e∈L):∀e∈bo9 E fr i op v L',e∈bo9 E fr i op v L:=by
 intro e he
 cases op with
 | q q=>
  simp only[bo9] at he ⊢;by_cases hk:q.kind=0
  ·rw[if_pos hk] at he ⊢;exact h e he
  ·rw[if_neg hk] at he ⊢;rcases zg.1 he with rfl|he
   ·exact za ..
   ·exact zb _ (h e he)
 | _=>exact h e he
theorem dc2 {i:Nat}{op:IK}{v:IV}{L:List LE}(h:¬op.cls<=1):bo9 E fr i op v L=L:=by
 cases op with
 | q q=>exfalso;apply h;simp only[IK.cls];split<;>omega
 | _=>rfl
theorem hz4 {i j:Nat}{op op':IK}{v v':IV}{L:List LE}{fr':Frm}(e:LE):e∈bo9 E fr i op v (bo9 E fr' j op' v' L)↔e∈bo9 E fr' j op' v' (bo9 E fr i op v L):=by
 have key:∀(fr:Frm) (i:Nat) (op:IK) (v:IV),(∃x:LE,∀L,bo9 E fr i op v L=x::L)\/∀L,bo9 E fr i op v L=L:=by
  intro fr i op v
  cases op with
  | q q=>
   by_cases hk:q.kind=0
   ·exact .inr λL=>by simp only[bo9,hk,if_true]
   ·exact .inl ⟨(i,dy6 E fr q,v),λL=>by simp only[bo9,hk,if_false]⟩
  | _=>exact .inr λ_=>rfl
 rcases key fr i op v with ⟨x,hx⟩|hx<;>rcases key fr' j op' v' with ⟨y,hy⟩|hy<;>simp only[hx,hy]
 simp only[zg];constructor
 ·rintro (h|h|h)
  ·exact .inr (.inl h)
  ·exact .inl h
  ·exact .inr (.inr h)
 ·rintro (h|h|h)
  ·exact .inr (.inl h)
  ·exact .inl h
  ·exact .inr (.inr h)
def iq1 (E:Nat->IV)(L:List LE)(m:Nat)(σ:Store):Prop:=∀e∈L,m.testBit e.1=true->evq E [] σ e.2.1=zd e.2.2
theorem bp1 {L:List LE}:iq1 E L 0 σ:=λe _ h=>by simp at h
theorem bl4 {L L':List LE}{m:Nat}(h:∀e∈L',e∈L)(hc:iq1 E L m σ):iq1 E L' m σ:=λe he=>hc e (h e he)
abbrev di9:=Nat×ae7×Nat×Nat
def kb6 (P:Program)(E:Nat->IV)(o:ae7)(id m:Nat)(L:List LE)(fr:Frm)(σ:Store)(K:IV->Store->Prop)(Ks:Prop):Prop :=
 (bh9 o fr=zd true/\opR P E o.op id fr σ (λv σ'=>iq1 E L m σ'/\K v σ'))\/(bh9 o fr=zd false/\Ks)
def ax3 (P:Program)(E:Nat->IV):List di9->List LE->Frm->Store->(Frm->Store->Prop)->Prop
 | [],_,fr,σ,K=>K fr σ
 | (i,o,id,m)::rest,L,fr,σ,K=>kb6 P E o id m L fr σ (λv σ'=>ax3 P E rest (bo9 E fr i o.op v L) (fr.ap3 o.dst v) σ' K) (ax3 P E rest L (fr.ap3 o.dst skV) σ K)
theorem go8 {K:Frm->Store->Prop}:∀(its:List di9) (L L':List LE) (fr:Frm) (σ:Store),(∀e∈L',e∈L)->ax3 P E its L fr σ K->ax3 P E its L' fr σ K:=by
 intro its
 induction its with
 | nil=>exact λ_ _ _ _ _ h=>h
 | cons it its ih=>
  obtain ⟨i,o,id,m⟩:=it;rintro L L' fr σ hs (⟨ha,h⟩|⟨ha,h⟩)
  ·exact .inl ⟨ha,am7 (λv s ⟨c,k⟩=>⟨bl4 hs c,ih _ _ _ _ (go7 hs) k⟩) h⟩
  ·exact .inr ⟨ha,ih _ _ _ _ hs h⟩
theorem bh8 {K:Frm->Store->Prop}(hK:∀f f' s,FEq f f'->K f s->K f' s):∀(its:List di9) (L:List LE) (fr fr':Frm) (σ:Store),FEq fr fr'->ax3 P E its L fr σ K->ax3 P E its L fr' σ K:=by
 intro its
 induction its with
 | nil=>exact λ_ fr fr' σ h k=>hK _ _ _ h k
 | cons it its ih=>
  obtain ⟨i,o,id,m⟩:=it;rintro L fr fr' σ hf (⟨ha,h⟩|⟨ha,h⟩)
  ·refine .inl ⟨by rw[<- bk9 (λt _=>hf t)];exact ha,am7 (λv s ⟨c,k⟩=>⟨c,?_⟩) (gn4 hf h)⟩;show ax3 P E its (bo9 E fr' i o.op v L) _ s K;rw[<- cj9 (fr:=fr) (λt _=>hf t)];exact ih _ _ _ _ (cy3 hf _ _) k
  ·exact .inr ⟨by rw[<- bk9 (λt _=>hf t)];exact ha,ih _ _ _ _ (cy3 hf _ _) h⟩
theorem ft3 {K K':Frm->Store->Prop}:∀(its:List di9) (L:List LE) (fr:Frm) (σ:Store),(∀f s,K f s->K' f s)->ax3 P E its L fr σ K->ax3 P E its L fr σ K':=by
 intro its
 induction its with
 | nil=>exact λ_ _ _ hk h=>hk _ _ h
 | cons it its ih=>
  obtain ⟨i,o,id,m⟩:=it;rintro L fr σ hk (⟨ha,h⟩|⟨ha,h⟩)
  ·exact .inl ⟨ha,am7 (λv s ⟨c,k⟩=>⟨c,ih _ _ _ hk k⟩) h⟩
  ·exact .inr ⟨ha,ih _ _ _ hk h⟩
theorem go9 {op:IK}{id:Nat}{fr fr':Frm}{K:IV->Store->Prop}(h:∀t∈op.ops.flatMap IX.uses,fr.get t=fr'.get t):opR P E op id fr σ K->opR P E op id fr' σ K:=by
 cases op with
 | q q=>simp only[opR];rw[gm9 (λt ht=>h t ht)];exact λh=>h
 | alloc z=>exact λh=>h
 | box x=>simp only[opR];rw[ah1 (x:=x) (λt ht=>h t (by simp[IK.ops,ht]))];exact λh=>h
 | bsl e n z ps=>simp only[opR];rw[au2 (λt ht=>h t ht)];exact λh=>h
 | store e x y=>simp only[opR];rw[ah1 (x:=x) (λt ht=>h t (by simp[IK.ops,ht])),ah1 (x:=y) (λt ht=>h t (by simp[IK.ops,ht]))];exact λh=>h
 | app e x y=>simp only[opR];rw[ah1 (x:=x) (λt ht=>h t (by simp[IK.ops,ht])),ah1 (x:=y) (λt ht=>h t (by simp[IK.ops,ht]))];exact λh=>h
 | ck6=>exact λh=>h
 | bn6 x=>simp only[opR];rw[ah1 (x:=x) (λt ht=>h t (by simp[IK.ops,ht]))];exact λh=>h
 | dc5 x=>simp only[opR];rw[ah1 (x:=x) (λt ht=>h t (by simp[IK.ops,ht]))];exact λh=>h
 | ci4 t x y z=>simp only[opR];rw[ah1 (x:=x) (λt ht=>h t (by simp[IK.ops,ht])),ah1 (x:=y) (λt ht=>h t (by simp[IK.ops,ht])),ah1 (x:=z) (λt ht=>h t (by simp[IK.ops,ht]))];exact λh=>h
 | call f xs=>simp only[opR];rw[az2 (xs:=xs) h];exact λh=>h
 | bb1 f xs=>simp only[opR];rw[az2 (xs:=xs) h];exact λh=>h
 | cw7 x xs=>
  simp only[IK.ops,zu,zh] at h
  simp only[opR];rw[az2 (xs:=xs) (λt ht=>h t (.inr ht)),ah1 (x:=x) (λt ht=>h t (.inl ht))];exact λh=>h
 | aj3 e n z ps=>simp only[opR];rw[au2 (λt ht=>h t ht)];exact λh=>h
 | cu6 x=>simp only[opR];rw[ah1 (x:=x) (λt ht=>h t (by simp[IK.ops,ht]))];exact λh=>h
 | be9 x=>simp only[opR];rw[ah1 (x:=x) (λt ht=>h t (by simp[IK.ops,ht]))];exact λh=>h
 | ck7 x=>simp only[opR];rw[ah1 (x:=x) (λt ht=>h t (by simp[IK.ops,ht]))];exact λh=>h
 | fu2 x=>simp only[opR];rw[ah1 (x:=x) (λt ht=>h t (by simp[IK.ops,ht]))];exact λh=>h
 | dj2 e z x=>simp only[opR];rw[ah1 (x:=x) (λt ht=>h t (by simp[IK.ops,ht]))];exact λh=>h
 | clr e z x=>simp only[opR];rw[ah1 (x:=x) (λt ht=>h t (by simp[IK.ops,ht]))];exact λh=>h
 | st k xs=>simp only[opR];rw[az2 (xs:=xs) h];exact λh=>h
def gp1 (p x:di9):Prop :=
 gn5 p.2.1 x.2.1/\(p.2.1.op.cls<=1/\p.2.2.2=0/\(p.2.1.op.cls=0\/x.2.1.op.cls<=1\/x.2.2.2.testBit p.1=true\/db5 false p.2.1.op.kind x.2.1.op.kind=true) \/
  ¬p.2.1.op.cls<=1/\db5 false p.2.1.op.kind x.2.1.op.kind=true/\x.2.2.2=0/\(p.2.2.2=0\/x.2.1.op.cls<=1/\p.2.2.2.testBit x.1=false))
theorem hz5 {i m:Nat}{op:IK}{v:IV}{L:List LE}(h:iq1 E L m σ)(hb:m.testBit i=false):iq1 E (bo9 E fr i op v L) m σ:=by
 intro e he hm;unfold bo9 at he;split at he
 ·split at he
  ·exact h e he hm
  ·rcases zg.1 he with rfl|he
   ·simp only at hm;rw[hb] at hm;cases hm
   ·exact h e he hm
 ·exact h e he hm
theorem kb7 {K:Frm->Store->Prop} (hK:∀f f' s,FEq f f'->K f s->K f' s) {ix:Nat} {x:ae7} {kx mx:Nat} {post:List di9} :
  ∀(pre:List di9) (L:List LE) (fr:Frm) (σ:Store),(∀p∈pre,gp1 p (ix,x,kx,mx))->(∀p∈pre,p.2.2.1≠kx/\σ.obj p.2.2.1=zk)->(pre.map (·.2.2.1)).Nodup->(pre≠[]->σ.obj kx=zk) ->
   (∀p∈pre,p.2.1.op.kind=2->∀y∈x.op.ops,bn9 p.2.2.1 (y.ev E fr)) ->
   ax3 P E (pre++(ix,x,kx,mx)::post) L fr σ K ->
   kb6 P E x kx mx L fr σ (λv σ'=>ax3 P E (pre++post) (bo9 E fr ix x.op v L) (fr.ap3 x.dst v) σ' K) (ax3 P E (pre++post) L (fr.ap3 x.dst skV) σ K):=by
 intro pre
 induction pre with
 | nil=>intro L fr σ _ _ _ _ _ h;exact h
 | cons p pre ih=>
  intro L fr σ hfree hids hnd hnx hH h;obtain ⟨ip,p,kp,mp⟩:=p;obtain ⟨hap,hfr⟩:=hfree _ (za ..);obtain ⟨hpx,hkp⟩:=hids _ (za ..);simp only at hap hfr hpx hkp;have hnx0:=hnx (by simp);have hnd':=List.nodup_cons.1 (show (kp::pre.map (·.2.2.1)).Nodup from hnd)
  have hfx:∀vp,∀t∈x.uses,(fr.ap3 p.dst vp).get t=fr.get t:=λvp t ht=>by
   rw[be8,if_neg];intro e;exact hap.2 t e ht
  have hfxo:∀vp,∀t∈x.op.ops.flatMap IX.uses,(fr.ap3 p.dst vp).get t=fr.get t:=λvp t ht=>hfx vp t (ba8 ht)
  have hfp:∀vx,∀t∈p.uses,fr.get t=(fr.ap3 x.dst vx).get t:=λvx t ht=>by
   rw[be8,if_neg];intro e;exact (hap.1 t e).1 ht
  have hfpo:∀vx,∀t∈p.op.ops.flatMap IX.uses,fr.get t=(fr.ap3 x.dst vx).get t:=λvx t ht=>hfp vx t (ba8 ht)
  have feq:∀vp vx,FEq ((fr.ap3 p.dst vp).ap3 x.dst vx) ((fr.ap3 x.dst vx).ap3 p.dst vp):=λvp vx t=>by
   simp only[be8];by_cases h1:x.dst=zd t
   ·have h2:p.dst≠zd t:=(hap.1 t h1).2;simp[h1,h2]
   ·simp[h1]
  have hactx:∀vp ax,bh9 x (fr.ap3 p.dst vp)=zd ax->bh9 x fr=zd ax:=λvp ax h=>by rw[<- bk9 (hfx vp)];exact h
  have hactp:∀ {ap:Bool},bh9 p fr=zd ap->∀vx,bh9 p (fr.ap3 x.dst vx)=zd ap:=λhact vx=>by rw[<- bk9 (hfp vx)];exact hact
  -- the rest,at a store where the fresh ones are fresh
  have IH:∀(vp:IV) (L1:List LE) (σ1:Store),(∀i,i≠kp->σ.obj i=zk->σ1.obj i=zk)->ax3 P E (pre++(ix,x,kx,mx)::post) L1 (fr.ap3 p.dst vp) σ1 K ->
    kb6 P E x kx mx L1 (fr.ap3 p.dst vp) σ1 (λv σ'=>ax3 P E (pre++post) (bo9 E (fr.ap3 p.dst vp) ix x.op v L1) ((fr.ap3 p.dst vp).ap3 x.dst v) σ' K) (ax3 P E (pre++post) L1 ((fr.ap3 p.dst vp).ap3 x.dst skV) σ1 K):=by
   intro vp L1 σ1 fresh1 ht
   exact ih L1 (fr.ap3 p.dst vp) σ1 (λq hq=>hfree q (zb _ hq))
    (λq hq=>⟨(hids q (zb _ hq)).1,fresh1 _ (λe=>hnd'.1 (by rw[<- e];exact zi.2 ⟨q,hq,rfl⟩)) (hids q (zb _ hq)).2⟩)
    hnd'.2 (λ_=>fresh1 kx (λe=>hpx e.symm) hnx0)
    (λq hq hk2 y hy=>by
     have:y.ev E (fr.ap3 p.dst vp)=y.ev E fr:=ah1 λt ht=>hfxo vp t (zr.2 ⟨y,hy,ht⟩)
     rw[this];exact hH q (zb _ hq) hk2 y hy) ht
  rcases h with ⟨hact,hh⟩|⟨hact,hh⟩
  ·rcases hfr with ⟨kp1,hmp,hc⟩|⟨kp2,hfk,hmx,hc⟩
   ·-- p reads at most
    subst hmp;obtain ⟨vp,hd,_,htree⟩:=(dc1 kp1).1 hh;have hde:∀ {s:Store} vx,bs4 P E p.op kp fr s vp s->bs4 P E p.op kp (fr.ap3 x.dst vx) s vp s:=λvx h=>bo8 (hfpo vx) h
    rcases IH vp _ σ (λ_ _ h=>h) htree with ⟨h1,h2⟩|⟨h1,h2⟩
    ·have h3:=go9 (hfxo vp) h2
     have h4:opR P E x.op kx fr σ (λv σ'=>bs4 P E p.op kp fr σ' vp σ'/\iq1 E L mx σ'/\ax3 P E (pre++post) (bo9 E (fr.ap3 p.dst vp) ix x.op v (bo9 E fr ip p.op vp L)) ((fr.ap3 p.dst vp).ap3 x.dst v) σ' K):=by
      rcases hc with c0|cx|cm|ck
      ·exact am7 (λv s ⟨c,k⟩=>⟨(cc8 (db9 c0) hd).2 s,bl4 bs5 c,k⟩) h3
      ·obtain ⟨vx,e1,c,k⟩:=(dc1 cx).1 h3;exact (dc1 cx).2 ⟨vx,e1,hd,bl4 bs5 c,k⟩
      ·rcases jm9 kp1 with ⟨q,hq⟩|c0
       ·by_cases hk0:q.kind=0
        ·have c0:p.op.cls=0:=by rw[hq];simp only[IK.cls,hk0]
         exact am7 (λv s ⟨c,k⟩=>⟨(cc8 (db9 c0) hd).2 s,bl4 bs5 c,k⟩) h3
        ·refine am7 (λv s ⟨c,k⟩=>⟨?_,bl4 bs5 c,k⟩) h3;rw[hq];refine ⟨?_,rfl⟩
         have hmem:(ip,dy6 E fr q,vp)∈bo9 E fr ip p.op vp L:=by
          rw[hq];simp only[bo9,hk0,if_false];exact za ..
         have:=c _ hmem cm;rw[hy8 _ hk0] at this;exact this
       ·exact am7 (λv s ⟨c,k⟩=>⟨(cc8 (db9 c0) hd).2 s,bl4 bs5 c,k⟩) h3
      ·obtain ⟨kp5,kx5⟩:=dy4 ck;obtain ⟨vx,σ2,e1,c,k⟩:=(bc6 kx5).1 h3;have e1':bs4 P E x.op kx (fr.ap3 p.dst vp) σ vx σ2:=bo8 (λt ht=>(hfxo vp t ht).symm) e1;obtain ⟨σ1',s1,_,s3,_⟩:=dy3 (B:=false) hd (λh=>by cases h) e1' (λh=>by cases h) ck (hfxo vp) (hfpo vx) hpx hkp hnx0 (hH _ (za ..));have hs:σ2=σ1':=go6 kp1 s3;subst hs;exact (bc6 kx5).2 ⟨vx,σ2,s1,bo8 (λt ht=>(hfpo vx t ht).symm) s3,bl4 bs5 c,k⟩
     refine .inl ⟨hactx _ _ h1,am7 (λv s ⟨hd',c,k⟩=>⟨c,?_⟩) h4⟩;refine .inl ⟨hactp hact v,(dc1 kp1).2 ⟨vp,hde v hd',bp1,?_⟩⟩;rw[cj9 (fr':=fr) (hfxo vp)] at k;have k2:=bh8 hK _ _ _ _ _ (feq vp v) k;show ax3 P E (pre++post) (bo9 E (fr.ap3 x.dst v) ip p.op vp (bo9 E fr ix x.op v L)) _ s K;rw[<- cj9 (fr:=fr) (hfpo v)];exact go8 _ _ _ _ _ (λe he=>(hz4 e).1 he) k2
    ·refine .inr ⟨hactx _ _ h1,.inl ⟨hactp hact skV,(dc1 kp1).2 ⟨vp,hde skV hd,bp1,?_⟩⟩⟩;show ax3 P E (pre++post) (bo9 E (fr.ap3 x.dst skV) ip p.op vp L) _ σ K;rw[<- cj9 (fr:=fr) (hfpo skV)];exact bh8 hK _ _ _ _ _ (feq vp skV) h2
   ·-- p writes,or lays
    obtain ⟨kp5,kx5⟩:=dy4 hfk;obtain ⟨vp,σ1,hd,hchk,htree⟩:=(bc6 kp5).1 hh;subst hmx;rw[dc2 kp2] at htree;rcases IH vp _ σ1 (λi hi h0=>ej6 kp5 hi hd h0) htree with ⟨h1,h2⟩|⟨h1,h2⟩
    ·obtain ⟨vx,σ2,e1,_,k⟩:=(bc6 kx5).1 h2;obtain ⟨σ1',s1,_,s3,_⟩:=dy3 (B:=false) hd (λh=>by cases h) e1 (λh=>by cases h) hfk (hfxo vp) (hfpo vx) hpx hkp hnx0 (hH _ (za ..));refine .inl ⟨hactx _ _ h1,(bc6 kx5).2 ⟨vx,σ1',s1,bp1,.inl ⟨hactp hact vx,(bc6 kp5).2 ⟨vp,σ2,s3,?_,?_⟩⟩⟩⟩
     ·rcases hc with h0|⟨cx,hb⟩
      ·subst h0;exact bp1
      ·have hs:σ2=σ1:=go6 cx e1;subst hs;exact hz5 hchk hb
     ·show ax3 P E (pre++post) (bo9 E _ ip p.op vp (bo9 E fr ix x.op vx L)) _ σ2 K;rw[dc2 kp2];rw[cj9 (fr':=fr) (hfxo vp)] at k;exact bh8 hK _ _ _ _ _ (feq vp vx) k
    ·refine .inr ⟨hactx _ _ h1,.inl ⟨hactp hact skV,(bc6 kp5).2 ⟨vp,σ1,bo8 (hfpo skV) hd,hchk,?_⟩⟩⟩;show ax3 P E (pre++post) (bo9 E _ ip p.op vp L) _ σ1 K;rw[dc2 kp2];exact bh8 hK _ _ _ _ _ (feq vp skV) h2
  ·rcases IH skV L σ (λ_ _ h=>h) hh with ⟨h1,h2⟩|⟨h1,h2⟩
   ·refine .inl ⟨hactx _ _ h1,am7 (λv s ⟨c,k⟩=>⟨c,?_⟩) (go9 (hfxo skV) h2)⟩;refine .inr ⟨hactp hact v,?_⟩;replace k:ax3 P E (pre++post) (bo9 E (fr.ap3 p.dst skV) ix x.op v L) ((fr.ap3 p.dst skV).ap3 x.dst v) s K:=k;rw[cj9 (fr':=fr) (hfxo skV)] at k;exact bh8 hK _ _ _ _ _ (feq skV v) k
   ·exact .inr ⟨hactx _ _ h1,.inr ⟨hactp hact skV,bh8 hK _ _ _ _ _ (feq skV skV) h2⟩⟩
end Go.Id
namespace Go.Id
open Go
variable {P:Program} {w w' w'':World} {ρ ρ' ρ'':Rho} {E:Nat->IV} {σ σ':Store} {N n n':Nat} {fr:Frm} {a:Act} {pf:List Nat}
structure kj9 (P:Program) (pf:List Nat) (N:Nat) (ops:Array Oper) (anc:Nat->Nat->Prop) (base:Nat) (rem:List di9) (listed:Array Bool):Prop where
 size:listed.size=ops.size
 un:∀j,j<ops.size->(listed.getD j true=false↔∃it∈rem,it.1=j)
 its:∀it∈rem,∃o,ops[it.1]? = zd o/\ck4 P pf N ops o=zd it.2.1/\it.2.2.1=base+it.1/\∀y∈it.2.1.op.ops,IX.quiet y=true
 pw:rem.Pairwise λp x=>(anc p.1 x.1\/gp1 p x)/\p.1≠x.1/\∀o,ops[p.1]? = zd o->∀e∈o.after,Region.binds .any e=true->e.on≠x.1
 dc:∀j,listed.getD j false=true->∀k,anc k j->listed.getD k false=true
theorem ft4 {ops:Array Oper} {anc:Nat->Nat->Prop} {n0 base:Nat} {ro:Option Nat} {Qw:Exit->Act->World->Prop} {K:Frm->Store->Prop} {ρ0:Rho} {w0:World} {ds:List Deferred}
  (hKf:∀f f' s,FEq f f'->K f s->K f' s)
  (hfin:∀fr σ ρ w a,n0<=σ.next->K fr σ->Sim E ρ w σ->FR ρ w N fr a.tmps->a.defers=ds->bg5 n0 ρ0 w0 ρ w->Qw .normal a w)
  (hed:∀j o,ops[j]? = zd o->∀e∈o.after,Region.binds .any e=true->e.on<ops.size/\e.on≠j)
  (hanc:∀k j,anc k j->∀o,ops[j]? = zd o->∃e∈o.after,Region.binds .any e=true/\(e.on=k\/anc k e.on)) :
  ∀(fuel:Nat) (rem:List di9) (L:List LE) (listed:Array Bool) (fr:Frm) (σ:Store) (ρ:Rho) (w:World) (a:Act),rem.length=fuel->kj9 P pf N ops anc base rem listed->ax3 P E rem L fr σ K ->
   Sim E ρ w σ->FR ρ w N fr a.tmps->a.defers=ds->bg5 n0 ρ0 w0 ρ w->n0<=base->base+ops.size<=σ.next->(∀it∈rem,ρ it.2.2.1=.no) ->
   wpAnyIn (fw ro) 0 P .any ops Qw fuel listed a w:=by
 intro fuel
 induction fuel with
 | zero=>
  intro rem L listed fr σ ρ w a hlen hr h hs hf hd hx hn0 hnx hno;have:rem=[]:=z0.1 hlen;subst this;refine ⟨?_,hfin fr σ ρ w a om h hs hf hd hx⟩;rw[zx];intro j hj;obtain ⟨h0,_⟩:=mem_ready.1 hj;obtain ⟨it,hit,_⟩:=(hr.un j (by rw[<- hr.size];exact getD_lt h0)).1 h0
  cases hit
 | succ fuel ih=>
  intro rem L listed fr σ ρ w a hlen hr h hs hf hd hx hn0 hnx hno;refine ⟨λhemp=>?_,λi hi=>?_⟩
  ·exfalso
   cases rem with
   | nil=>cases hlen
   | cons it rem=>
    obtain ⟨o,ho,hc,hid,_⟩:=hr.its it (za ..)
    have hlt:it.1<ops.size:=by
     rcases zj it.1 ops.size with h'|h'
     ·exact h'
     ·simp[ze h'] at ho
    have:it.1∈Region.ready .any ops listed:=by
     refine mem_ready.2 ⟨(hr.un _ hlt).2 ⟨it,za ..,rfl⟩,o,ho,λe he hb=>?_⟩;obtain ⟨h1,h2⟩:=hed _ o ho e he hb;have hj:e.on<listed.size:=by rw[hr.size];exact h1
     by_cases hL:listed.getD e.on true=false
     ·obtain ⟨jt,hjt,hje⟩:=(hr.un _ h1).1 hL;rcases zg.1 hjt with rfl|hjt
      ·exact absurd hje.symm h2
      ·exact absurd hje.symm (((zl.1 hr.pw).1 jt hjt).2.2 o ho e he hb)
     ·simp[hj] at hL ⊢;exact hL
    rw[hemp] at this;cases this
  ·obtain ⟨h0,o,ho,hall⟩:=mem_ready.1 hi;have hlt:i<ops.size:=by rw[<- hr.size];exact getD_lt h0
   obtain ⟨it,hit,hie⟩:=(hr.un i hlt).1 h0;obtain ⟨pre,post,rfl⟩:=z5 hit;obtain ⟨ix,x,kx,mx⟩:=it;simp only at hie;subst hie;obtain ⟨o',ho',hc,hkx,hqx⟩:=hr.its _ hit;simp only at ho' hc hkx hqx;rw[ho] at ho';cases ho';obtain ⟨hpp,hxp,hcross⟩:=z3.1 hr.pw;have hcx:=λp hp=>hcross p hp _ (za ..)
   have hnotL:∀p∈pre,listed.getD p.1 false≠true:=λp hp hL=>by
    obtain ⟨op,hop,_⟩:=hr.its p (zc _ hp)
    have hpl:p.1<ops.size:=by
     rcases zj p.1 ops.size with h'|h'
     ·exact h'
     ·simp[ze h'] at hop
    have:=(hr.un p.1 hpl).2 ⟨p,zc _ hp,rfl⟩;rw[gn7 hL] at this;cases this
   have hfree:∀p∈pre,gp1 p (ix,x,kx,mx):=λp hp=>by
    rcases (hcx p hp).1 with ha|hf
    ·exfalso;obtain ⟨e,he,hb,heq⟩:=hanc _ _ ha o ho;have hle:=hall e he hb;rcases heq with heq|ha'
     ·exact hnotL p hp (by rw[<- heq];exact hle)
     ·exact hnotL p hp (hr.dc _ hle _ ha')
    ·exact hf
   have hidp:∀p∈pre,p.2.2.1=base+p.1:=λp hp=>by
    obtain ⟨_,_,_,h1,_⟩:=hr.its p (zc _ hp);exact h1
   have hpull:=kb7 (P:=P) (E:=E) (K:=K) hKf (ix:=ix) (x:=x) (kx:=kx) (mx:=mx) (post:=post) pre L fr σ hfree
    (λp hp=>⟨by rw[hidp p hp,hkx];have:=(hcx p hp).2.1;omega,hs.av3 _ (hno p (zc _ hp))⟩)
    (by
     rw[zy,z6];refine (List.Pairwise.and_mem.1 hpp).imp ?_;intro p q ⟨hp,hq,h1⟩;rw[hidp p hp,hidp q hq];have:=h1.2.1;omega)
    (λ_=>hs.av3 _ (hno _ hit))
    (λp hp _ y hy=>IX.db6 (hqx y hy) hs hf (hno p (zc _ hp))) h
   obtain ⟨⟨fz,hk⟩,hdst,hdN,hg⟩:=bz6 hc;have hidx:kx<σ.next/\n0<=kx:=by rw[hkx];omega
   have hmem:∀it∈pre++post,it∈pre++(ix,x,kx,mx)::post:=λit h=>by
    rcases zh.1 h with h|h
    ·exact zc _ h
    ·exact zn _ (zb _ h)
   have hne:∀it∈pre++post,it.1≠ix:=λit h=>by
    rcases zh.1 h with h|h
    ·exact (hcx it h).2.1
    ·exact λe=>((zl.1 hxp).1 it h).2.1 e.symm
   have hrem:kj9 P pf N ops anc base (pre++post) (listed.setIfInBounds ix true):=by
    refine ⟨by simp[hr.size],λj hj=>?_,λit hit=>hr.its it (hmem it hit),?_,?_⟩
    ·by_cases hji:j=ix
     ·subst hji;have:j<listed.size:=by rw[hr.size];exact hj
      constructor
      ·intro h;simp[this] at h
      ·rintro ⟨it,h1,h2⟩;exact absurd h2 (hne it h1)
     ·rw[getD_set_ne true (Ne.symm hji),hr.un j hj];constructor
      ·rintro ⟨it,h1,h2⟩;refine ⟨it,?_,h2⟩;rcases zh.1 h1 with h1|h1
       ·exact zc _ h1
       ·rcases zg.1 h1 with rfl|h1
        ·exact absurd h2.symm hji
        ·exact zn _ h1
      ·rintro ⟨it,h1,h2⟩;exact ⟨it,hmem it h1,h2⟩
    ·exact hr.pw.sublist (zv.append (zv.refl _) (z1 _ _))
    ·intro j hj k hk;by_cases hji:j=ix
     ·subst hji;obtain ⟨e,he,hb,heq⟩:=hanc _ _ hk o ho;have hle:=hall e he hb;rcases heq with rfl|ha'
      ·exact getD_set_true hle
      ·exact getD_set_true (hr.dc _ hle _ ha')
     ·rw[getD_set_ne false (Ne.symm hji)] at hj;exact getD_set_true (hr.dc _ hj _ hk)
   have hlen':(pre++post).length=fuel:=by simp at hlen ⊢;omega
   have hne2:∀it∈pre++post,it.2.2.1≠kx:=λit h=>by
    obtain ⟨_,_,_,h1,_⟩:=hr.its it (hmem it h);rw[h1,hkx];have:=hne it h;omega
   unfold wpOpIn;simp only[ho]
   have run:opR P E x.op kx fr σ (λv σ'=>iq1 E L mx σ'/\ax3 P E (pre++post) (bo9 E fr ix x.op v L) (fr.ap3 x.dst v) σ' K)->o.wpIn (fw ro) 0 P a w (wpAnyIn (fw ro) 0 P .any ops Qw fuel (listed.setIfInBounds ix true)) Qw:=by
    intro hop;refine ea2 hk hop hs hf om (λhl=>⟨hno _ hit,hidx.1,hidx.2⟩) ?_;intro v σ' r ρ' w' hnx' hK hs' hv' hx' hno';refine ih (pre++post) _ _ _ σ' ρ' w' (a.put o.dst r) hlen' hrem hK.2 hs' ?_ (by rw[put_defers];exact hd) (hx.trans (hx'.weak (zp _))) hn0 om ?_
    ·rw[hdst];exact FR.ap3 (hf.mono hx') hdN hv'
    ·intro jt hjt;obtain ⟨jo,hjo,_,h1,_⟩:=hr.its jt (hmem jt hjt)
     have hjl:jt.1<ops.size:=by
      rcases zj jt.1 ops.size with h'|h'
      ·exact h'
      ·simp[ze h'] at hjo
     exact hno' _ (by rw[h1];omega) (λ_=>hne2 jt hjt) (hno _ (hmem jt hjt))
   rcases hg with ⟨hg1,hg2⟩|⟨j,want,s,hg1,hgs,hg2⟩
   ·have hw:Region.wanted o (yielded ops a.tmps)=true:=by unfold Region.wanted;rw[hg1]
    rw[if_pos hw];rcases hpull with ⟨hact,hh⟩|⟨hact,hh⟩
    ·exact run hh
    ·simp[bh9,hg2] at hact
   ·rcases hpull with ⟨hact,hh⟩|⟨hact,hh⟩
    ·simp only[bh9,hg2] at hact;have hw:=cd5 hg1 hgs hf hact;rw[hw];exact run hh
    ·simp only[bh9,hg2] at hact;have hw:=cd5 hg1 hgs hf hact;rw[hw];refine ⟨λf _=>trivial,?_⟩;exact ih (pre++post) _ _ _ σ ρ w (a.put o.dst undef) hlen' hrem hh hs (by rw[hdst];exact FR.ap3 hf hdN gq5) (by rw[put_defers];exact hd) hx hn0 hnx (λjt hjt=>hno _ (hmem jt hjt))
abbrev YO:=Nat×ae7×Nat
def iq2 (base:Nat)(l:List YO):List di9:=l.map λy=>(y.1,y.2.1,base+y.1,y.2.2)
def gp2 (p x:YO):Bool :=
 ff4 p.2.1 x.2.1&&((decide (p.2.1.op.cls<=1)&&p.2.2==0&&(p.2.1.op.cls==0||decide (x.2.1.op.cls<=1)||x.2.2.testBit p.1||db5 false p.2.1.op.kind x.2.1.op.kind)) ||
  (!decide (p.2.1.op.cls<=1)&&db5 false p.2.1.op.kind x.2.1.op.kind&&x.2.2==0&&(p.2.2==0||decide (x.2.1.op.cls<=1)&&!p.2.2.testBit x.1)))
theorem eu6 {p x:YO}{a b:Nat}(h:gp2 p x=true):gp1 (p.1,p.2.1,a,p.2.2) (x.1,x.2.1,b,x.2.2):=by
 unfold gp2 at h;simp only[zf,zm,decide_eq_true_eq,beq_iff_eq,Bool.not_eq_true',decide_eq_false_iff_not] at h;refine ⟨db7 h.1,?_⟩;rcases h.2 with ⟨⟨h1,h2⟩,h3⟩|⟨⟨⟨h1,h2⟩,h3⟩,h4⟩
 ·refine .inl ⟨h1,h2,?_⟩;rcases h3 with ((h3|h3)|h3)|h3
  ·exact .inl h3
  ·exact .inr (.inl h3)
  ·exact .inr (.inr (.inl h3))
  ·exact .inr (.inr (.inr h3))
 ·exact .inr ⟨h1,h2,h3,h4⟩
def ff8 (ess:List (List Nat))(ms:List Nat):List YO->Bool
 | []=>true
 | p::xs=>xs.all (λx=>((ms.getD x.1 0).testBit p.1||gp2 p x)&&p.1 != x.1&&!(ess.getD p.1 []).contains x.1)&&ff8 ess ms xs
theorem eu7 {ess:List (List Nat)}{ms:List Nat}{base:Nat}:∀l:List YO,ff8 ess ms l=true->(iq2 base l).Pairwise λp x=>((ms.getD x.1 0).testBit p.1=true\/gp1 p x)/\p.1≠x.1/\x.1 ∉ ess.getD p.1 []:=by
 intro l
 induction l with
 | nil=>intro _;exact .nil
 | cons p xs ih=>
  intro h;simp only[ff8,zf,zo] at h;refine zl.2 ⟨λit hit=>?_,ih h.2⟩;obtain ⟨x,hx,rfl⟩:=zi.1 hit;obtain ⟨⟨h1,h2⟩,h3⟩:=h.1 x hx;refine ⟨?_,by simpa using h2,by simpa using h3⟩;rw[zm] at h1;rcases h1 with h1|h1
  ·exact .inl h1
  ·exact .inr (eu6 h1)
def iq3 (ios:List ae7)(l:List (Nat×Nat)):List YO:=l.map λq=>(q.1,ios.getD q.1 default,q.2)
def yOK (ess:List (List Nat))(ios:List ae7)(l:List (Nat×Nat)):Bool :=
 let ms:=gn9 ess
 jm7 0 ess&&jm8 ms 0 ess&&ff8 ess ms (iq3 ios l)&&(ios.all λo=>o.op.ops.all IX.quiet) &&
  l.all (λq=>decide (q.1<ios.length))&&(z4 ios.length).all (λj=>l.any λq=>q.1==j)&&l.length==ios.length
theorem gp3 {n0 id:Nat}{ops:Array Oper}{ios:List ae7}{l:List (Nat×Nat)}{Q:Exit->Frm->Store->Prop}{ks:List Nat}(hm:P.follows .mixedOrders=true)(hc:bp3 P pf N ops ops.toList=zd ios)
  (hok:yOK (ops.toList.map aj9) ios l=true)
  (h:ax3 P E (iq2 σ.next (iq3 ios l)) [] fr { σ with next:=σ.next+l.length } (λfr' σ'=>Q .normal (fr'.keep ks) σ')):R P E N n0 (.region id ops true) fr σ Q:=by
 intro hn ro h0 ρ w a hs hf hd hr;refine wpIn_region_any hm ?_;have hlen:ios.length=ops.size:=by rw[dl7 _ _ hc];simp
 unfold yOK at hok;simp only[zf,zo,beq_iff_eq,decide_eq_true_eq] at hok;obtain ⟨⟨⟨⟨⟨⟨hed,hms⟩,hpr⟩,hq⟩,hlt⟩,hall⟩,hll⟩:=hok;generalize gn9 (ops.toList.map aj9)=ms at hms hpr;have hes:∀(j:Nat) (o:Oper),ops[j]? = zd o->(ops.toList.map aj9)[j]? = zd (aj9 o):=λj o ho=>by simp[ho]
 have hme:∀(o:Oper) (k:Nat),k∈aj9 o->∃e∈o.after,Region.binds .any e=true/\e.on=k:=λo k hk=>by
  unfold aj9 at hk;obtain ⟨e,he,rfl⟩:=zi.1 hk;obtain ⟨h1,h2⟩:=zs.1 he;exact ⟨e,by simpa using h1,h2,rfl⟩
 have hem:∀(o:Oper) (e:Edge),e∈o.after->Region.binds .any e=true->e.on∈aj9 o:=λo e he hb=>
  zi.2 ⟨e,zs.2 ⟨by simpa using he,hb⟩,rfl⟩
 have hmemI:∀it∈iq2 σ.next (iq3 ios l),∃q∈l,it=(q.1,ios.getD q.1 default,σ.next+q.1,q.2):=λit hit=>by
  obtain ⟨y,hy,rfl⟩:=zi.1 hit;obtain ⟨q,hq',rfl⟩:=zi.1 hy;exact ⟨q,hq',rfl⟩
 refine ft4 (E:=E) (pf:=pf) (N:=N) (anc:=λk j=>(ms.getD j 0).testBit k=true) (n0:=n0) (base:=σ.next) (ρ0:=ρ) (w0:=w) (ds:=a.defers) (K:=λfr' σ'=>Q .normal (fr'.keep ks) σ') ?_ ?_ ?_ ?_
  ops.size (iq2 σ.next (iq3 ios l)) [] _ fr { σ with next:=σ.next+l.length } ρ w.drew a (by simp[iq2,iq3,hll,hlen]) ?_ h
  (dy9 (cy1 hs) (λi hi=>hs.fresh i om)) (hf.mono (ba7 0)) rfl ((ba7 n0).weak (zp _)) hn (by rw[hll,hlen];exact zp _) ?_
 ·intro f f' s hff hK
  have:f'.keep ks=f.keep ks:=by
   unfold Frm.keep;exact zq λk _=>by rw[hff k]
  rw[this];exact hK
 ·intro fr' σ' ρ' w' a' hn' hK hs' hf' hd' hx;exact ⟨fr'.keep ks,σ',ρ',hn',hK,hs',hf'.keep ks,by rw[hd'];exact hd.mono hx,hr.mono hx,hx⟩
 ·intro j o ho e he hb;have:=db8 _ _ hed j _ (hes j o ho) _ (hem o e he hb)
  have hj:j<ops.size:=by
   rcases zj j ops.size with h'|h'
   ·exact h'
   ·simp[ze h'] at ho
  omega
 ·intro k j hk o ho;have:=ej8 _ _ hms j _ (hes j o ho);simp only[Nat.zero_add] at this;rw[this] at hk;rcases go2 _ _ hk with h1|⟨e,he,h1⟩
  ·simp at h1
  ·obtain ⟨ed,hed1,hb,heq⟩:=hme o e he;exact ⟨ed,hed1,hb,by rw[heq];exact h1⟩
 ·refine ⟨by simp,λj hj=>?_,λit hit=>?_,?_,?_⟩
  ·constructor
   ·intro _;have:=hall j (by simp[List.mem_range,hlen,hj]);obtain ⟨q,hq',he⟩:=List.any_eq_true.1 this;have he:q.1=j:=by simpa using he
    exact ⟨(q.1,ios.getD q.1 default,σ.next+q.1,q.2),zi.2 ⟨_,zi.2 ⟨q,hq',rfl⟩,rfl⟩,he⟩
   ·intro _;simp[hj]
  ·obtain ⟨q,hq',rfl⟩:=hmemI it hit;have hql:=hlt q hq';have hqs:q.1<ops.size:=om;obtain ⟨jt,hjt,hje⟩:=ff6 (base:=σ.next) ios 0 q.1 (Nat.zero_le _) om;obtain ⟨o,h1,h2⟩:=ff7 ops.toList ios 0 rfl hc jt hjt
   have hget:ios[q.1]? = zd jt.2.1:=by
    have:∀(ios:List ae7) (i:Nat),∀it∈ff3 σ.next i ios,ios[it.1-i]? = zd it.2.1:=by
     intro ios
     induction ios with
     | nil=>intro i it h;cases h
     | cons o os ih=>
      intro i it h;rcases zg.1 h with rfl|h
      ·simp
      ·have h1:=go3 os _ it h;have h2:=ih _ it h;rw[show it.1-i=(it.1-(i+1))+1 from by omega]
       simpa using h2
    have:=this ios 0 jt hjt;rw[hje] at this
    simpa using this
   have hd:ios.getD q.1 default=jt.2.1:=by simp[zz,hget]
   rw[hje] at h1;refine ⟨o,h1,by simp only[hd];exact h2,rfl,?_⟩;simp only[hd];exact hq _ (List.mem_of_getElem? hget)
  ·refine (eu7 (base:=σ.next) _ hpr).imp ?_;intro p x ⟨h1,h2,h3⟩;refine ⟨h1,h2,λo ho e he hb heq=>h3 ?_⟩;have:(ops.toList.map aj9).getD p.1 []=aj9 o:=by rw[zz,hes p.1 o ho];rfl
   rw[this,<- heq];exact hem o e he hb
  ·intro j hj;exfalso;by_cases hlt:j<ops.size
   ·simp[hlt] at hj
   ·simp[hlt] at hj
 ·intro it hit;obtain ⟨q,hq',rfl⟩:=hmemI it hit;exact hs.fresh _ (by show σ.next<=σ.next+q.1;omega)
def iq4 (ess:List (List Nat))(done:List Nat)(j:Nat):Bool:=(ess.getD j []).all λe=>done.contains e
def kb8 (ess:List (List Nat))(ios:List ae7)(done:List Nat):Option Nat :=
 match (z4 ios.length).find? (λj=>!done.contains j&&iq4 ess done j&&decide ((ios.getD j default).op.cls<=1)) with
 | some j=>zd j
 | none=>(z4 ios.length).find? λj=>!done.contains j&&iq4 ess done j
def iq5 (ess:List (List Nat))(ios:List ae7):Nat->List Nat->List Nat
 | 0,done=>done
 | n+1,done=>match kb8 ess ios done with
  | some j=>iq5 ess ios n (done++[j])
  | none=>done
def iy4 (ms:List Nat)(ios:List ae7)(j:Nat):List Nat->Nat
 | []=>0
 | p::ps=>if (ios.getD p default).op.cls=1&&!(ms.getD j 0).testBit p&&!db5 false (ios.getD p default).op.kind (ios.getD j default).op.kind then 2^p ||| iy4 ms ios j ps else iy4 ms ios j ps
def iq6 (ms:List Nat)(ios:List ae7):List Nat->List Nat->List (Nat×Nat)
 | _,[]=>[]
 | ahead,j::js=>(j,if (ios.getD j default).op.cls<=1 then 0 else iy4 ms ios j ahead)::iq6 ms ios (j::ahead) js
def gp4 (ess:List (List Nat))(ios:List ae7):List (Nat×Nat):=iq6 (gn9 ess) ios [] (iq5 ess ios ios.length [])
end Go.Id
namespace Go.Id
open Go
variable {P:Program} {w w' w'':World} {ρ ρ' ρ'':Rho} {E:Nat->IV} {σ σ':Store} {N n n':Nat} {fr:Frm} {a:Act} {pf:List Nat}
inductive IC where
 | skip
 | reg (id:Nat) (ops:List ae7) (keep:List Nat)
 | hw6 (id:Nat) (ops:List ae7) (B:Bool) (keep:List Nat)
 | hw9 (id:Nat) (ops:List YO) (keep:List Nat)
 | seq (a b:IC)
 | cond (x:IX) (a b:IC)
 | block (id:Nat) (a:IC)
 | loop (a:IC)
 | exit (id:Nat)
 | ret
 | bx5 (g:IX) (ps:List Nat) (asg a:IC)
 | scope (a:IC)
 deriving Inhabited
abbrev Ann:=List (Nat×List Nat)
abbrev ix9:IC:=.reg 0 [⟨zk,zk,.st .nev []⟩] []
def bh3 (P:Program)(pf:List Nat)(N:Nat)(an:Ann):Code->Option IC
 | .skip=>zd .skip
 | .label _=>zd .skip
 | .region id ops draw=>match draw,bp3 P pf N ops ops.toList with
  | false,zd ios=>zd (.reg id ios ((an.lookup id).getD []))
  | true,zd ios=>if P.follows .mixedOrders=true/\jz7 (ops.toList.map aj9) ios (ej7 ios)=true/\(pf.contains 2000000&&ej7 ios)=false then zd (.hw6 id ios (ej7 ios) ((an.lookup id).getD [])) else
   if P.follows .mixedOrders=true/\yOK (ops.toList.map aj9) ios (gp4 (ops.toList.map aj9) ios)=true then zd (.hw9 id (iq3 ios (gp4 (ops.toList.map aj9) ios)) ((an.lookup id).getD [])) else zd ix9
  | _,_=>zd ix9
 | .seq a b=>match bh3 P pf N an a,bh3 P pf N an b with
  | some x,zd y=>zd (.seq x y)
  | _,_=>zk
 | .cond c a b=>match ai9 c,bh3 P pf N an a,bh3 P pf N an b with
  | some i,zd x,zd y=>zd (.cond i x y)
  | _,_,_=>zd ix9
 | .block id a=>(bh3 P pf N an a).map (.block id)
 | .loop a=>(bh3 P pf N an a).map .loop
 | .exit id=>zd (.exit id)
 | .ret=>zd .ret
 | .rangeFunc g ps assign body=>match bh3 P pf N an assign,ai9 g,bh3 P pf N an body with
  | some y,zd i,zd x=>if ps.toList.all (λp=>decide (p<N)) then zd (.bx5 i ps.toList y x) else zd ix9
  | _,_,_=>zd ix9
 | .scope a=>(bh3 P pf N an a).map .scope
 | _=>zd ix9
def RI (P:Program)(E:Nat->IV)(N n0:Nat)(ic:IC)(fr:Frm)(σ:Store)(Q:Exit->Frm->Store->Prop):Prop :=
 ∀(pf:List Nat) (an:Ann) (c:Code),bh3 P pf N an c=zd ic->R P E N n0 c fr σ Q
def wpI (P:Program)(E:Nat->IV)(N n0:Nat):IC->Frm->Store->(Exit->Frm->Store->Prop)->Prop
 | .skip,fr,σ,Q=>Q .normal fr σ
 | .reg _ ops keep,fr,σ,Q=>cd3 P E ops σ.next fr { σ with next:=σ.next+cd4 ops } (λfr' σ'=>Q .normal (fr'.keep keep) σ')
 | .hw6 _ ops B keep,fr,σ,Q=>bz5 P E B (ff3 σ.next 0 ops) fr { σ with next:=σ.next+ops.length } (λfr' σ'=>Q .normal (fr'.keep keep) σ')
 | .hw9 _ ops keep,fr,σ,Q=>ax3 P E (iq2 σ.next ops) [] fr { σ with next:=σ.next+ops.length } (λfr' σ'=>Q .normal (fr'.keep keep) σ')
 | .seq a b,fr,σ,Q=>wpI P E N n0 a fr σ (λe fr' σ'=>match e with|.normal=>wpI P E N n0 b fr' σ' Q|e=>Q e fr' σ')
 | .cond x a b,fr,σ,Q=>∃t,x.ev E fr=.bool t/\if t then wpI P E N n0 a fr σ Q else wpI P E N n0 b fr σ Q
 | .block id a,fr,σ,Q=>wpI P E N n0 a fr σ (by3 id Q)
 | .loop a,fr,σ,Q=>RI P E N n0 (.loop a) fr σ Q
 | .exit id,fr,σ,Q=>Q (.exit id) fr σ
 | .ret,fr,σ,Q=>Q .ret fr σ
 | .bx5 g ps y a,fr,σ,Q=>RI P E N n0 (.bx5 g ps y a) fr σ Q
 | .scope a,fr,σ,Q=>wpI P E N n0 a fr σ (gm6 Q)
theorem iy1 {n0:Nat}{c:Code}{ks:List Nat}{Q:Exit->Frm->Store->Prop}(h:R P E N n0 c fr σ (λe fr' σ'=>Q e (fr'.keep ks) σ')):R P E N n0 c fr σ Q :=
 λhn ro h0 ρ w a hs hf hd hr=>wpIn_mono (h hn ro h0 ρ w a hs hf hd hr) λ_ _ _ ⟨fr',σ',ρ',hn',q,hs',hf',rest⟩=>⟨fr'.keep ks,σ',ρ',hn',q,hs',hf'.keep ks,rest⟩
theorem bh7 {n0:Nat}{Q:Exit->Frm->Store->Prop}(h:wpI P E N n0 ix9 fr σ Q):False:=by
 obtain ⟨act,ha,h⟩:=h;cases ha;obtain ⟨r,hr,_⟩:=h;cases hr
theorem hv9 {n0:Nat}{an:Ann}:∀(c:Code) (ic:IC) (fr:Frm) (σ:Store) (Q:Exit->Frm->Store->Prop),bh3 P pf N an c=zd ic->wpI P E N n0 ic fr σ Q->R P E N n0 c fr σ Q:=by
 intro c
 induction c with
 | skip=>intro ic fr σ Q hc h;cases hc;exact jl9 h
 | label l=>intro ic fr σ Q hc h;cases hc;exact ix7 h
 | region id ops draw=>
  intro ic fr σ Q hc h;simp only[bh3] at hc;split at hc
  ·rename_i ios hios;cases hc;exact iy1 (ib5 (Q:=λe fr' σ'=>Q e (fr'.keep _) σ') hios h)
  ·rename_i ios hios;by_cases hok:P.follows .mixedOrders=true/\jz7 (ops.toList.map aj9) ios (ej7 ios)=true/\(pf.contains 2000000&&ej7 ios)=false
   ·rw[if_pos hok] at hc;cases hc;exact go5 hok.1 hios hok.2.1 h
   ·rw[if_neg hok] at hc;by_cases hoy:P.follows .mixedOrders=true/\yOK (ops.toList.map aj9) ios (gp4 (ops.toList.map aj9) ios)=true
    ·rw[if_pos hoy] at hc;cases hc;have hl:(iq3 ios (gp4 (ops.toList.map aj9) ios)).length=(gp4 (ops.toList.map aj9) ios).length:=by simp[iq3]
     refine gp3 (ks:=(an.lookup id).getD []) hoy.1 hios hoy.2 ?_;rw[<- hl];exact h
    ·rw[if_neg hoy] at hc;cases hc;exact (bh7 h).elim
  ·cases hc;exact (bh7 h).elim
 | seq a b iha ihb=>
  intro ic fr σ Q hc h;simp only[bh3] at hc;split at hc
  ·rename_i x y hx hy;cases hc;refine jl8 ((iha _ fr σ _ hx h).mono ?_);intro e fr' σ' q
   cases e with
   | normal=>exact ihb _ fr' σ' Q hy q
   | _=>exact q
  ·cases hc
 | cond c a b iha ihb=>
  intro ic fr σ Q hc h;simp only[bh3] at hc;split at hc
  ·rename_i i x y hi hx hy;cases hc;obtain ⟨t,ht,h⟩:=h;refine jm2 hi ht ?_
   cases t with
   | true=>exact iha _ fr σ Q hx h
   | false=>exact ihb _ fr σ Q hy h
  ·cases hc;exact (bh7 h).elim
 | block id a ih=>
  intro ic fr σ Q hc h;obtain ⟨y,hy,he⟩:=map_some hc;cases he
  exact gm5 (ih _ fr σ _ hy h)
 | loop a ih=>
  intro ic fr σ Q hc h;have hc':=hc;obtain ⟨y,hy,he⟩:=map_some hc;cases he
  exact h pf an _ hc'
 | scope a ih=>
  intro ic fr σ Q hc h;obtain ⟨y,hy,he⟩:=map_some hc;cases he
  exact ix8 (ih _ fr σ _ hy h)
 | exit id=>intro ic fr σ Q hc h;cases hc;exact jm1 h
 | ret=>intro ic fr σ Q hc h;cases hc;exact kb5 h
 | rangeFunc g ps assign body _ _=>
  intro ic fr σ Q hc h;have hc':=hc;simp only[bh3] at hc;split at hc
  ·split at hc
   ·cases hc;exact h pf an _ hc'
   ·cases hc;exact (bh7 h).elim
  ·cases hc;exact (bh7 h).elim
 | _=>intro ic fr σ Q hc h;cases hc;exact (bh7 h).elim
theorem bo7 {n0:Nat}(ic:IC)(fr:Frm)(σ:Store)(Q:Exit->Frm->Store->Prop)(h:wpI P E N n0 ic fr σ Q):RI P E N n0 ic fr σ Q :=
 λpf an c hc=>hv9 (pf:=pf) (an:=an) c ic fr σ Q hc h
theorem gm7 {n0:Nat}{x:IC}{Q:Exit->Frm->Store->Prop}(I:Nat->Frm->Store->Prop)(m:Nat)(h:I m fr σ)(hI:∀m fr σ,I m fr σ->wpI P E N n0 x fr σ (eu3 I m Q)):RI P E N n0 (.loop x) fr σ Q:=by
 intro pf an c hc
 cases c with
 | loop c=>
  obtain ⟨y,hy,he⟩:=map_some hc;cases he
  exact ip9 I m h (λm fr σ hi=>bo7 _ _ _ _ (hI m fr σ hi) pf an _ hy)
 | region id ops draw=>
  exfalso;simp only[bh3] at hc;split at hc
  ·cases hc
  ·split at hc<;>first|(cases hc;done)|(split at hc<;>cases hc)
  ·cases hc
 | seq a b=>simp only[bh3] at hc;split at hc<;>cases hc
 | cond c a b=>simp only[bh3] at hc;split at hc<;>cases hc
 | block id a=>obtain ⟨_,_,h⟩:=map_some hc;cases h
 | scope a=>obtain ⟨_,_,h⟩:=map_some hc;cases h
 | rangeFunc g ps assign body=>
  exfalso;simp only[bh3] at hc;split at hc
  ·split at hc<;>cases hc
  ·cases hc
 | _=>cases hc
inductive JX where
 | ret
 | exit (i:Nat)
 deriving Inhabited
def JX.code:JX->Code
 | .ret=>.ret
 | .exit i=>.exit i
def iy2 (Q:Exit->Frm->Store->Prop)(fr:Frm)(σ:Store):Option JX->Prop
 | none=>Q .normal fr σ
 | some .ret=>Q .ret fr σ
 | some (.exit i)=>Q (.exit i) fr σ
def db4 (id:Nat)(L:LoopState->Option JX->aj2)(K:IV->Store->Prop):Exit->Frm->Store->Prop
 | .normal,_,σ=>σ.obj id=zd (L .busy zk)/\K (.bool true) (σ.put id (L .ready zk))
 | .ret,_,σ=>σ.obj id=zd (L .busy zk)/\K (.bool false) (σ.put id (L .done (zd .ret)))
 | .exit i,_,σ=>σ.obj id=zd (L .busy zk)/\K (.bool false) (σ.put id (L .done (zd (.exit i))))
 | _,_,_=>False
theorem hw5 {n0:Nat}{g:IX}{ps:List Nat}{y x:IC}{Q:Exit->Frm->Store->Prop}
  (h:∀L:LoopState->Option JX->aj2,
   (∀(σ':Store) (args:List IV) (K:IV->Store->Prop),args.length=ps.length->σ'.obj σ.next=zd (L .ready zk) ->
    RI P E N σ'.next y (dj1 fr ps args) σ' (λe f s=>e=.normal/\s.obj σ.next=zd (L .ready zk)/\RI P E N σ'.next x f (s.put σ.next (L .busy zk)) (db4 σ.next L K))->CYd P E σ.next args σ' K) ->
   CVf P E (g.ev E fr) [.yield σ.next] ⟨σ.next+1,(σ.put σ.next (L .ready zk)).obj⟩ λ_ σ2=>
    σ.next<=σ2.next/\∃st pend,st≠.busy/\σ2.obj σ.next=zd (L st pend)/\iy2 Q fr (σ2.kill σ.next) pend) :
  RI P E N n0 (.bx5 g ps y x) fr σ Q:=by
 intro pf an c hc
 cases c with
 | rangeFunc go psA assign body=>
  simp only[bh3] at hc;split at hc
  ·rename_i ya i yb hasg hi hy;split at hc
   ·rename_i hall;cases hc;have hps:∀p∈psA.toList,p<N:=λp hp=>by simpa using zo.1 hall p hp
    have h':=h (λs p=>.loop N fr psA.toList.toArray assign body s (p.map JX.code)) (λσ' args K hl ho hR=>by
     refine jp9 hps hl ho ((hR pf an assign hasg).mono λe f s q=>⟨q.1,q.2.1,(q.2.2 pf an body hy).mono λe f s q=>?_⟩)
     cases e with
     | normal=>exact q
     | ret=>exact q
     | exit i=>exact q
     | _=>exact q.elim)
    exact ev4 (n0:=n0) (Q:=Q) (ps:=psA.toList) (asg:=assign) (body:=body) (E:=E) (fr:=fr) (σ:=σ) (N:=N) hi (h'.mono (by
     rintro v s ⟨hn,st,pend,hst,hob,hq⟩;refine ⟨hn,st,pend.map JX.code,hst,hob,?_⟩
     cases pend with
     | none=>exact hq
     | some j=>cases j<;>exact hq))
   ·cases hc
  ·cases hc
 | region id ops draw=>
  exfalso;simp only[bh3] at hc;split at hc
  ·cases hc
  ·split at hc<;>first|(cases hc;done)|(split at hc<;>cases hc)
  ·cases hc
 | seq a b=>simp only[bh3] at hc;split at hc<;>cases hc
 | cond c a b=>simp only[bh3] at hc;split at hc<;>cases hc
 | block id a=>obtain ⟨_,_,h⟩:=map_some hc;cases h
 | scope a=>obtain ⟨_,_,h⟩:=map_some hc;cases h
 | loop a=>obtain ⟨_,_,h⟩:=map_some hc;cases h
 | _=>cases hc
theorem an3 {n0:Nat}{x:IC}{Q Q':Exit->Frm->Store->Prop}(h:RI P E N n0 x fr σ Q)(hq:∀e fr σ,Q e fr σ->Q' e fr σ):RI P E N n0 x fr σ Q' :=
 λpf an c hc=>(h pf an c hc).mono hq
end Go.Id
