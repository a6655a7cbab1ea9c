/- Regions whose order is open: which operations may be taken ahead of which. Conditions: none; over any program. -/
import Derived.Test.YthjhfdodeghbpaaGreatDoorFwR
import Derived.OrdersIn
open Option renaming some→za,none→zh,map_some→zr
open List renaming mem_cons_self→zb,mem_cons_of_mem→zc,mem_append_left→zd,mem_append→zf,flatMap_cons→zj,mem_cons→zk,mem_flatMap→zm,map_congr_left→zn,flatMap_append→zo,pairwise_cons→zp,mem_map→zq,all_eq_true→zs,mem_append_right→zu
open Bool renaming and_eq_true→ze,or_eq_true→zi
open Array renaming getElem?_eq_none→zg
open Nat renaming lt_or_ge→zl,le_refl→zt
open Iff renaming rfl→zv
set_option linter.all false
private theorem om{P:Prop}(h:P:=by omega):P:=h
private theorem sm{P:Prop}(h:P:=by simp):P:=h
namespace Go.Id
open Go
variable {P:Program} {w w' w'':World} {ρ ρ' ρ'':Rho} {E:Nat->IV} {σ σ':Store} {N n n':Nat} {fr:Frm} {a:Act} {pf:List Nat}
def IQ.kind:IQ->Nat
 | .load _ _=>1
 | .len 0 _=>0
 | .len 1 _=>0
 | .len _ _=>6
 | .lkp _ _ _ _ _=>5
 | _=>0
def SK.kind:SK->Nat
 | .nev=>0
 | _=>6
def IK.kind:IK->Nat
 | .q u=>u.kind
 | .alloc _|.box _|.bsl _ _ _ _|.dn3 _ _ _=>2
 | .app _ _ _=>3
 | .bo9 _ _|.ay6 _ _|.eb1 _ _ _ _|.el4 _=>0
 | .store _ _ _=>4
 | .st k _=>k.kind
 | _=>6
def IX.uses:IX->List Nat
 | .t n=>[n]
 | _=>[]
def IQ.ops:IQ->List IX
 | .mov x|.not x|.neg x|.fu6 _ _ x|.conv _ x|.gp4 x|.len _ x|.ev1 _ x|.fld _ _ x|.slz x|.ext _ x|.load _ x|.ldt _ x|.jt8 x=>[x]
 | .pick c a b=>[c,a,b]
 | .bin _ x y|.eqs _ _ _ x y|.ev2 _ x y|.fu7 _ _ x y|.idx _ _ _ x y|.jt6 x y|.mm _ x y|.lkp _ _ _ x y|.ibs x y=>[x,y]
 | .slc _ x lo hi|.jt7 x lo hi=>x::(lo.toList++hi.toList)
 | .clp _ x lo hi mx=>[x,lo,hi,mx]
 | .mkf _ f c=>f++c
 | .bld _ ps=>ps.map (·.2.2)
def IK.ops:IK->List IX
 | .q u=>u.ops
 | .alloc _=>[]
 | .box x=>[x]
 | .bsl _ _ _ ps=>ps.map (·.2.2)
 | .store _ x y=>[x,y]
 | .app _ s x=>[s,x]
 | .dc4=>[]
 | .bq1 x|.dj8 x=>[x]
 | .gl8 _ x k v=>[x,k,v]
 | .call _ xs|.bo9 _ xs=>xs
 | .dj9 x xs|.ay6 x xs=>x::xs
 | .eb1 _ _ _ ps=>ps.map (·.2.2)
 | .el4 x|.bo5 x|.dc5 x|.gu4 x|.dn3 _ _ x|.clr _ _ x=>[x]
 | .st _ xs=>xs
def af1.uses (o:af1):List Nat:=(o.op.ops.flatMap IX.uses)++(match o.guard with|some (s,_)=>[s]|none=>[])
def FEq (fr fr':Frm):Prop:=∀t,fr.get t=fr'.get t
def FEq.refl (fr:Frm):FEq fr fr:=λ_=>rfl
def ah8 {fr fr':Frm}{x:IX}(h:∀t∈x.uses,fr.get t=fr'.get t):x.ev E fr=x.ev E fr':=by
 cases x with
 | t n=>exact h n (by simp[IX.uses])
 | _=>rfl
def aw7 {fr fr':Frm}{xs:List IX}(h:∀t∈xs.flatMap IX.uses,fr.get t=fr'.get t):xs.map (·.ev E fr)=xs.map (·.ev E fr'):=
 zn λx b=>ah8 λt c=>h t (zm.2 ⟨x,b,c⟩)
def cd3 {fr fr':Frm}{x:Option IX}(h:∀t∈x.toList.flatMap IX.uses,fr.get t=fr'.get t):x.map (·.ev E fr)=x.map (·.ev E fr'):=by
 cases x with
 | none=>rfl
 | some x=>simp only[zr];rw[ah8 (λt b=>h t (by simpa using b))]
def be2 {fr fr':Frm}{ps:List (Nat×Nat×IX)}(h:∀t∈(ps.map (·.2.2)).flatMap IX.uses,fr.get t=fr'.get t) :
  (ps.map λp=>(p.1,p.2.1,p.2.2.ev E fr))=ps.map λp=>(p.1,p.2.1,p.2.2.ev E fr'):=
 zn λp hp=>by
  have:p.2.2.ev E fr=p.2.2.ev E fr':=ah8 λt b=>h t (zm.2 ⟨p.2.2,zq.2 ⟨p,hp,rfl⟩,b⟩)
  rw[this]
def iy6 {fr fr':Frm}{q:IQ}(h:∀t∈q.ops.flatMap IX.uses,fr.get t=fr'.get t):evq E fr σ q=evq E fr' σ q:=by
 cases q with
 | mkf f fs cs=>
  simp only[IQ.ops,zo,zf] at h;simp only[evq]
  rw[aw7 (λt d=>h t (.inl d)),aw7 (λt d=>h t (.inr d))]
 | bld z ps=>simp only[evq];rw[be2 h]
 | slc e x lo hi=>
  simp only[IQ.ops,zj,zo,zf] at h;simp only[evq]
  rw[ah8 (x:=x) (λt d=>h t (.inl d)),cd3 (x:=lo) (λt d=>h t (.inr (.inl d))),cd3 (x:=hi) (λt d=>h t (.inr (.inr d)))]
 | jt7 x lo hi=>
  simp only[IQ.ops,zj,zo,zf] at h;simp only[evq]
  rw[ah8 (x:=x) (λt d=>h t (.inl d)),cd3 (x:=lo) (λt d=>h t (.inr (.inl d))),cd3 (x:=hi) (λt d=>h t (.inr (.inr d)))]
 | clp e x lo hi mx=>
  simp only[evq]
  rw[ah8 (x:=x) (λt d=>h t (by simp[IQ.ops,d])),ah8 (x:=lo) (λt d=>h t (by simp[IQ.ops,d])),ah8 (x:=hi) (λt d=>h t (by simp[IQ.ops,d])),ah8 (x:=mx) (λt d=>h t (by simp[IQ.ops,d]))]
 | pick c x y=>
  simp only[evq]
  rw[ah8 (x:=c) (λt d=>h t (by simp[IQ.ops,d])),ah8 (x:=x) (λt d=>h t (by simp[IQ.ops,d])),ah8 (x:=y) (λt d=>h t (by simp[IQ.ops,d]))]
 | bin op x y=>simp only[evq];rw[ah8 (x:=x) (λt d=>h t (by simp[IQ.ops,d])),ah8 (x:=y) (λt d=>h t (by simp[IQ.ops,d]))]
 | eqs a b c x y=>simp only[evq];rw[ah8 (x:=x) (λt d=>h t (by simp[IQ.ops,d])),ah8 (x:=y) (λt d=>h t (by simp[IQ.ops,d]))]
 | ev2 a x y=>simp only[evq];rw[ah8 (x:=x) (λt d=>h t (by simp[IQ.ops,d])),ah8 (x:=y) (λt d=>h t (by simp[IQ.ops,d]))]
 | fu7 a b x y=>simp only[evq];rw[ah8 (x:=x) (λt d=>h t (by simp[IQ.ops,d])),ah8 (x:=y) (λt d=>h t (by simp[IQ.ops,d]))]
 | idx a b c x y=>simp only[evq];rw[ah8 (x:=x) (λt d=>h t (by simp[IQ.ops,d])),ah8 (x:=y) (λt d=>h t (by simp[IQ.ops,d]))]
 | lkp a b c x y=>simp only[evq];rw[ah8 (x:=x) (λt d=>h t (by simp[IQ.ops,d])),ah8 (x:=y) (λt d=>h t (by simp[IQ.ops,d]))]
 | mm a x y=>simp only[evq];rw[ah8 (x:=x) (λt d=>h t (by simp[IQ.ops,d])),ah8 (x:=y) (λt d=>h t (by simp[IQ.ops,d]))]
 | ibs x y=>simp only[evq];rw[ah8 (x:=x) (λt d=>h t (by simp[IQ.ops,d])),ah8 (x:=y) (λt d=>h t (by simp[IQ.ops,d]))]
 | jt6 x y=>simp only[evq];rw[ah8 (x:=x) (λt d=>h t (by simp[IQ.ops,d])),ah8 (x:=y) (λt d=>h t (by simp[IQ.ops,d]))]
 | _=>simp only[evq];rw[ah8 (λt d=>h t (by simp[IQ.ops,d]))]
def ig2 {q:IQ}(h:q.kind=0):evq E fr σ q=evq E fr σ' q:=by
 cases q with
 | load a x=>simp[IQ.kind] at h
 | lkp a b c x y=>simp[IQ.kind] at h
 | len k x=>
  simp only[evq]
  match k,h with
  | 0,_=>unfold cx6;split<;>first|rfl|simp_all [ib5]
  | 1,_=>unfold cx6;split<;>first|rfl|simp_all [ib5]
  | k+2,h=>simp[IQ.kind] at h
 | _=>rfl
def cd4 (P:Program)(E:Nat->IV)(op:IK)(id:Nat)(fr:Frm)(σ:Store)(v:IV)(σ':Store):Prop :=
 match op with
 | .q q=>evq E fr σ q=za v/\σ'=σ
 | .alloc z=>v=.ptr id 0/\σ'=σ.put id (.cells z)
 | .box x=>(x.ev E fr).cs.all IV.leaf=true/\v=.ptr id 0/\σ'=σ.put id (.cells (x.ev E fr).cs)
 | .bsl esz n z parts=>∃out,au8 (rep z n) (parts.map λp=>(p.1,p.2.1,p.2.2.ev E fr))=za out/\v=.slice id 0 n esz/\σ'=σ.put id (.row out)
 | .app esz s x=>bb4 σ id esz (s.ev E fr) (x.ev E fr)=za (v,σ')
 | .store sz x y=>ar5 σ sz (x.ev E fr) (y.ev E fr)=za σ'/\v=.undef
 | .bo9 f args=>PC P E f (args.map (·.ev E fr)) v/\σ'=σ
 | .ay6 x args=>PCV P E (x.ev E fr) (args.map (·.ev E fr)) v/\σ'=σ
 | .eb1 esz n z parts=>∃out,au8 (rep z n) (parts.map λp=>(p.1,p.2.1,p.2.2.ev E fr))=za out/\v=.aa2 (chunk esz n out)/\σ'=σ
 | .el4 x=>(x.ev E fr).cs.all IV.leaf=true/\v=.ab5 (x.ev E fr).cs/\σ'=σ
 | .dn3 esz z x=>∃n,db4 (x.ev E fr)=za n/\v=.slice id 0 n esz/\σ'=σ.put id (.row (rep z n))
 | _=>False
def ea2 {op:IK}{id:Nat}{K:IV->Store->Prop}(c:op.kind<=5):opR P E op id fr σ K↔∃v σ',cd4 P E op id fr σ v σ'/\K v σ':=by
 cases op with
 | q q=>exact ⟨λ⟨v,h,k⟩=>⟨v,σ,⟨h,rfl⟩,k⟩,λ⟨v,_,⟨h,e⟩,k⟩=>by subst e;exact ⟨v,h,k⟩⟩
 | alloc z=>exact ⟨λk=>⟨_,_,⟨rfl,rfl⟩,k⟩,λ⟨_,_,⟨e1,e2⟩,k⟩=>by subst e1;subst e2;exact k⟩
 | box x=>exact ⟨λ⟨h,k⟩=>⟨_,_,⟨h,rfl,rfl⟩,k⟩,λ⟨_,_,⟨h,e1,e2⟩,k⟩=>by subst e1;subst e2;exact ⟨h,k⟩⟩
 | bsl e n z ps=>exact ⟨λ⟨b,h,k⟩=>⟨_,_,⟨b,h,rfl,rfl⟩,k⟩,λ⟨_,_,⟨b,h,e1,e2⟩,k⟩=>by subst e1;subst e2;exact ⟨b,h,k⟩⟩
 | app e s x=>exact ⟨λ⟨r,h,k⟩=>⟨r.1,r.2,h,k⟩,λ⟨v,σ',h,k⟩=>⟨(v,σ'),h,k⟩⟩
 | store e x y=>exact ⟨λ⟨s,h,k⟩=>⟨_,s,⟨h,rfl⟩,k⟩,λ⟨v,s,⟨h,e⟩,k⟩=>by subst e;exact ⟨s,h,k⟩⟩
 | ay6 x xs=>exact ⟨λ⟨v,h,k⟩=>⟨v,σ,⟨h,rfl⟩,k⟩,λ⟨v,_,⟨h,e⟩,k⟩=>by subst e;exact ⟨v,h,k⟩⟩
 | bo9 f xs=>exact ⟨λ⟨v,h,k⟩=>⟨v,σ,⟨h,rfl⟩,k⟩,λ⟨v,_,⟨h,e⟩,k⟩=>by subst e;exact ⟨v,h,k⟩⟩
 | eb1 e n z ps=>exact ⟨λ⟨b,h,k⟩=>⟨_,_,⟨b,h,rfl,rfl⟩,k⟩,λ⟨_,_,⟨b,h,e1,e2⟩,k⟩=>by subst e1;subst e2;exact ⟨b,h,k⟩⟩
 | dn3 e z x=>exact ⟨λ⟨n,h,k⟩=>⟨_,_,⟨n,h,rfl,rfl⟩,k⟩,λ⟨_,_,⟨n,h,e1,e2⟩,k⟩=>by subst e1;subst e2;exact ⟨n,h,k⟩⟩
 | el4 x=>exact ⟨λ⟨h,k⟩=>⟨_,_,⟨h,rfl,rfl⟩,k⟩,λ⟨_,_,⟨h,e1,e2⟩,k⟩=>by subst e1;subst e2;exact ⟨h,k⟩⟩
 | st k xs=>cases k with
  | nev=>exact ⟨λ⟨r,h,_⟩=>by (cases h),λ⟨_,_,h,_⟩=>h.elim⟩
  | _=>exact absurd c (by simp[IK.kind,SK.kind])
 | _=>exact absurd c (by simp[IK.kind])
def ea3 {op:IK}{id:Nat}{fr fr':Frm}{v:IV}(h:∀t∈op.ops.flatMap IX.uses,fr.get t=fr'.get t):cd4 P E op id fr σ v σ'->cd4 P E op id fr' σ v σ':=by
 cases op with
 | q q=>simp only[cd4];rw[iy6 h];exact λh=>h
 | alloc z=>exact λh=>h
 | box x=>simp only[cd4];rw[ah8 (x:=x) (λt b=>h t (by simp[IK.ops,b]))];exact λh=>h
 | bsl e n z ps=>simp only[cd4];rw[be2 h];exact λh=>h
 | app e s x=>simp only[cd4];rw[ah8 (x:=s) (λt b=>h t (by simp[IK.ops,b])),ah8 (x:=x) (λt b=>h t (by simp[IK.ops,b]))];exact λh=>h
 | store e x y=>simp only[cd4];rw[ah8 (x:=x) (λt b=>h t (by simp[IK.ops,b])),ah8 (x:=y) (λt b=>h t (by simp[IK.ops,b]))];exact λh=>h
 | bo9 f xs=>simp only[cd4];rw[aw7 (xs:=xs) h];exact λh=>h
 | ay6 x xs=>
  simp only[IK.ops,zj,zf] at h
  simp only[cd4];rw[aw7 (xs:=xs) (λt b=>h t (.inr b)),ah8 (x:=x) (λt b=>h t (.inl b))];exact λh=>h
 | eb1 e n z ps=>simp only[cd4];rw[be2 h];exact λh=>h
 | dn3 e z x=>simp only[cd4];rw[ah8 (x:=x) (λt b=>h t (by simp[IK.ops,b]))];exact λh=>h
 | el4 x=>simp only[cd4];rw[ah8 (x:=x) (λt b=>h t (by simp[IK.ops,b]))];exact λh=>h
 | _=>exact λh=>h
def bo8 (id:Nat):IV->Prop
 | .ptr i _|.slice i _ _ _|.map i|.ag6 i _ _ _|.al2 i _ _ _ _=>i≠id
 | _=>True
def fh6 {id:Nat}{v:IV}{r:Value}(b:VR ρ w v r)(h:ρ id=.no):bo8 id v:=by
 cases b<;>simp only[bo8]<;>first|trivial|(intro e;subst e;simp_all)
def put_comm (i j:Nat)(x y:aj8)(h:i≠j):(σ.put i x).put j y=(σ.put j y).put i x:=by
 unfold Store.put;congr 1;funext k;simp only;split
 .rename_i c;split
  .rename_i b;exact absurd (b.symm.trans c) h
  .rfl
 .rfl
def ag5 {id i:Nat}{o:aj8}(h:i≠id):(σ.put id o).obj i=σ.obj i:=by simp[Store.put,h]
def gr5 {c id:Nat}{d:aj8}{b x k:IV}{ok:Bool}(h:bo8 id x):cj3 (σ.put id d) c b ok x k=cj3 σ c b ok x k:=by
 have:cc7 (σ.put id d) x=cc7 σ x:=by
  cases x<;>try rfl
  simp only[cc7,ag5 h]
 unfold cj3;rw[this]
def gr6 {c id:Nat}{b x k v:IV}{ok:Bool}(d:σ.obj id=zh)(h:cj3 σ c b ok x k=za v):bo8 id x:=by
 cases x<;>simp only[bo8]<;>try trivial
 all_goals (intro e;subst e;simp[cj3,cc7,d] at h)
def fh7 {c:Option Nat}{id:Nat}{d:aj8}{b:IV}(h:bo8 id b):ay8 (σ.put id d) c b=ay8 σ c b:=by
 have:ar3 (σ.put id d) b=ar3 σ b:=by
  cases b<;>simp only[ar3];rename_i i off;rw[ag5 h]
 unfold ay8;rw[this]
def fw1 {b:Option Nat}{id:Nat}{c v:IV}(d:σ.obj id=zh)(h:ay8 σ b c=za v):bo8 id c:=by
 cases c with
 | ptr i off=>
  intro e;subst e
  simp[ay8,ar3,d] at h
 | slice i o l e=>simp[ay8,ar3] at h
 | _=>trivial
def jf9 {id2 esz:Nat}{b:aj8}{x:IV}(c:bo8 id2 x):bz5 (σ.put id2 b) esz x=bz5 σ esz x:=by
 cases x<;>simp only[bz5]
 all_goals (rename_i i o l e;rw[ag5 c])
def ig3 {id2 b:Nat}{c:aj8}(h:b≠id2):(σ.put id2 c).kill b=(σ.kill b).put id2 c:=by
 unfold Store.put Store.kill;congr 1;funext k;simp only;split
 .rename_i e;split
  .rename_i d;exact absurd (e.symm.trans d) h
  .rfl
 .rfl
def dm9 {id id2 esz:Nat}{d:aj8}{s x:IV}(hs:bo8 id2 s)(f:bo8 id2 x)(b:id2≠id) :
  bb4 (σ.put id2 d) id esz s x=(bb4 σ id esz s x).map λr=>(r.1,r.2.put id2 d):=by
 unfold bb4;rw[jf9 f]
 cases bz5 σ esz x with
 | none=>rfl
 | some p=>
  have⟨n,xs⟩:=p;simp only;split
  .rfl
  .cases s with
   | aa5=>
    simp only;split
    .rfl
    .split
     .simp[put_comm id2 id _ _ b]
     .rfl
   | ad2=>
    simp only;split
    .rfl
    .split
     .simp[put_comm id2 id _ _ b]
     .rfl
   | aa2 es=>simp only;split<;>rfl
   | slice did off len e=>
    simp only;have c:did≠id2:=hs;rw[ag5 c]
    cases σ.obj did with
    | none=>rfl
    | some o=>
     cases o with
     | row cs=>
      simp only;split
      .rfl
      .split
       .simp[ig3 c,put_comm id2 id _ _ b]
       .rfl
     | _=>rfl
   | ag6 did off len e=>
    simp only;have c:did≠id2:=hs;rw[ag5 c]
    cases σ.obj did with
    | none=>rfl
    | some o=>
     cases o with
     | row cs=>
      simp only;split
      .rfl
      .split
       .simp[put_comm id2 id _ _ b]
       .rfl
     | _=>rfl
   | _=>rfl
def gr7 {id id2 esz:Nat}{s x v:IV}(c:σ.obj id2=zh)(h:bb4 σ id esz s x=za (v,σ')):bo8 id2 s/\bo8 id2 x:=by
 unfold bb4 at h;split at h
 .cases h
 .rename_i n xs b;constructor
  .split at h
   .cases h
   .split at h<;>first|trivial|skip
    .rename_i d off len e;intro e2;subst e2;rw[c] at h;simp at h
    .rename_i d off len e;intro e2;subst e2;rw[c] at h;simp at h
  .cases x with
   | slice i o l e=>
    intro e2;subst e2
    simp[bz5,c] at b
   | ag6 i o l e=>
    intro e2;subst e2
    simp[bz5,c] at b
   | ptr i o=>simp[bz5] at b
   | _=>trivial
def cd5 {id esz:Nat}{s x v:IV}(c:σ.obj id=zh)(h:bb4 σ id esz s x=za (v,σ'))(i:Nat)(cs:List IV):σ.obj i=za (.cells cs)↔σ'.obj i=za (.cells cs):=by
 have put:∀(σ:Store) (l:List IV),σ.obj id=zh->(σ.obj i=za (.cells cs)↔(σ.put id (.row l)).obj i=za (.cells cs)):=by
  intro σ l c;by_cases hi:i=id
  .subst hi;simp[Store.put,c]
  .rw[ag5 hi]
 unfold bb4 at h;split at h
 .cases h
 .split at h
  .cases h
  .split at h
   .split at h
    .cases h;exact zv
    .split at h
     .cases h;exact put σ _ c
     .cases h
   .split at h
    .cases h;exact zv
    .split at h
     .cases h;exact put σ _ c
     .cases h
   .split at h
    .cases h;exact zv
    .cases h
   .rename_i b off len e;split at h
    .rename_i cs' d;split at h
     .cases h;exact zv
     .split at h
      .cases h;have f:(σ.kill b).obj id=zh:=by simp[Store.kill,c]
       refine Iff.trans ?_ (put (σ.kill b) _ f);by_cases hi:i=b
       .subst hi;simp[Store.kill,d]
       .simp[Store.kill,hi]
      .cases h
    .cases h
   .rename_i b off len e;split at h
    .rename_i cs' d;split at h
     .cases h;exact zv
     .split at h
      .cases h;exact put σ _ c
      .cases h
    .cases h
   .cases h
end Go.Id
namespace Go.Id
open Go
variable {P:Program} {w w' w'':World} {ρ ρ' ρ'':Rho} {E:Nat->IV} {σ σ':Store} {N n n':Nat} {fr:Frm} {a:Act} {pf:List Nat}
def bi1 (E:Nat->IV)(fr:Frm)(σ:Store):IK->Prop
 | .q (.load _ x)=>match x.ev E fr with
  | .ab5 _=>True
  | .ptr i _=>∃cs,σ.obj i=za (.cells cs)
  | _=>False
 | _=>True
def kl3 (P:Program)(E:Nat->IV)(B act:Bool)(op:IK)(id:Nat)(fr:Frm)(σ:Store)(v:IV)(σ':Store):Prop :=
 if act then cd4 P E op id fr σ v σ'/\(B=true->bi1 E fr σ op) else v=skV/\σ'=σ
def ej7 (B:Bool)(i j:Nat):Bool :=
 i==0&&j<=5||j==0&&i<=5||i==1&&j==1||i==1&&j==2||i==2&&j==2||i==3&&j==2||B&&i==1&&j==3||B&&i==3&&j==1||i==2&&j==1||i==2&&j==3||i==1&&j==5||i==5&&j==1||i==5&&j==5||i==5&&j==2||i==2&&j==5
def db7 (B:Bool)(i j:Nat):Bool:=ej7 B i j||i==2&&j==4||i==4&&j==2
def fw2 {q:IQ}(h:q.kind=1):∃b x,q=.load b x:=by
 cases q with
 | load b x=>exact ⟨b,x,rfl⟩
 | len k x=>
  exfalso
  match k,h with
  | 0,h=>simp[IQ.kind] at h
  | 1,h=>simp[IQ.kind] at h
  | k+2,h=>simp[IQ.kind] at h
 | _=>simp[IQ.kind] at h
def fw3 {op:IK}(h:op.kind=1):∃b x,op=.q (.load b x):=by
 cases op with
 | q q=>obtain ⟨b,x,rfl⟩:=fw2 h;exact ⟨b,x,rfl⟩
 | st k xs=>cases k<;>simp[IK.kind,SK.kind] at h
 | _=>simp[IK.kind] at h
def bz7 (q:IQ):q.kind=0\/q.kind=1\/q.kind=5\/q.kind=6:=by
 cases q with
 | load ag x=>simp[IQ.kind]
 | len k x=>
  match k with
  | 0=>simp[IQ.kind]
  | 1=>simp[IQ.kind]
  | k+2=>simp[IQ.kind]
 | _=>simp[IQ.kind]
def jw6 {op:IK}(h:op.kind=1\/op.kind=5):∃q,op=.q q:=by
 cases op with
 | q q=>exact ⟨q,rfl⟩
 | st k xs=>cases k<;>simp[IK.kind,SK.kind] at h
 | _=>simp[IK.kind] at h
def jw7 {op:IK}(h:op.kind=5):∃t z ok x k,op=.q (.lkp t z ok x k):=by
 cases op with
 | q q=>
  cases q with
  | lkp t z ok x k=>exact ⟨t,z,ok,x,k,rfl⟩
  | len k x=>
   exfalso
   match k,h with
   | 0,h=>simp[IK.kind,IQ.kind] at h
   | 1,h=>simp[IK.kind,IQ.kind] at h
   | k+2,h=>simp[IK.kind,IQ.kind] at h
  | _=>simp[IK.kind,IQ.kind] at h
 | st k xs=>cases k<;>simp[IK.kind,SK.kind] at h
 | _=>simp[IK.kind] at h
def ig4 {op:IK}(h:op.kind=3):∃e s x,op=.app e s x:=by
 cases op with
 | q q=>rcases bz7 q with b|b|b|b<;>simp[IK.kind,b] at h
 | app e s x=>exact ⟨e,s,x,rfl⟩
 | st k xs=>cases k<;>simp[IK.kind,SK.kind] at h
 | _=>simp[IK.kind] at h
def jw8 {op:IK}(h:op.kind=4):∃e a y,op=.store e a y:=by
 cases op with
 | q q=>rcases bz7 q with b|b|b|b<;>simp[IK.kind,b] at h
 | store e a y=>exact ⟨e,a,y,rfl⟩
 | st k xs=>cases k<;>simp[IK.kind,SK.kind] at h
 | _=>simp[IK.kind] at h
def ej8 {id b:Nat}{c:aj8}{a v:IV}(h:bo8 id a):ar5 (σ.put id c) b a v=(ar5 σ b a v).map (·.put id c):=by
 cases a with
 | ptr i off=>
  have hi:i≠id:=h;simp only[ar5,ag5 hi]
  cases hc:σ.obj i with
  | none=>rfl
  | some o=>
   cases o with
   | cells cs=>
    simp only;split
    .simp only[zr];rw[put_comm id i _ _ (λe=>hi e.symm)]
    .rfl
   | row cs=>
    simp only;split
    .simp only[zr];rw[put_comm id i _ _ (λe=>hi e.symm)]
    .rfl
   | _=>rfl
 | _=>rfl
def ew4 {id b:Nat}{a v:IV}(c:σ.obj id=zh)(h:ar5 σ b a v=za σ'):bo8 id a:=by
 cases a with
 | ptr i off=>intro e;subst e;simp[ar5,c] at h
 | slice i o l e=>simp[ar5] at h
 | map i=>simp[ar5] at h
 | ag6 i o l e=>simp[ar5] at h
 | al2 i o l r e=>simp[ar5] at h
 | _=>trivial
def fh8 {op:IK}{id:Nat}{v:IV}(j:op.kind=0)(h:cd4 P E op id fr σ v σ'):σ'=σ/\∀b,cd4 P E op id fr b v b:=by
 cases op with
 | q q=>exact ⟨h.2,λσ2=>⟨by rw[ig2 (σ':=σ) j];exact h.1,rfl⟩⟩
 | bo9 f xs=>exact ⟨h.2,λσ2=>⟨h.1,rfl⟩⟩
 | ay6 f xs=>exact ⟨h.2,λσ2=>⟨h.1,rfl⟩⟩
 | eb1 e n z ps=>have⟨c,i,g,d⟩:=h;exact ⟨d,λ_=>⟨c,i,g,rfl⟩⟩
 | el4 x=>have⟨i,g,d⟩:=h;exact ⟨d,λ_=>⟨i,g,rfl⟩⟩
 | st k xs=>exact h.elim
 | _=>simp[IK.kind] at j
def at1 {op:IK}{id:Nat}{v:IV}(m:op.kind=2)(h:cd4 P E op id fr σ v σ'):∃j,σ'=σ.put id j/\∀b,cd4 P E op id fr b v (b.put id j):=by
 cases op with
 | q q=>rcases bz7 q with c|c|c|c<;>simp[IK.kind,c] at m
 | alloc z=>exact ⟨_,h.2,λσ2=>⟨h.1,rfl⟩⟩
 | box x=>exact ⟨_,h.2.2,λσ2=>⟨h.1,h.2.1,rfl⟩⟩
 | bsl e n z ps=>have⟨d,i,g,f⟩:=h;exact ⟨_,f,λσ2=>⟨d,i,g,rfl⟩⟩
 | dn3 e z x=>have⟨n,i,g,f⟩:=h;exact ⟨_,f,λσ2=>⟨n,i,g,rfl⟩⟩
 | st k xs=>exact h.elim
 | _=>simp[IK.kind] at m
def bs9 {op:IK}{fr fr':Frm}(h:∀t∈op.ops.flatMap IX.uses,fr.get t=fr'.get t):bi1 E fr σ op->bi1 E fr' σ op:=by
 cases op with
 | q q=>
  cases q with
  | load ag x=>simp only[bi1];rw[ah8 (x:=x) (λt b=>h t (by simp[IK.ops,IQ.ops,b]))];exact λh=>h
  | _=>exact λh=>h
 | _=>exact λh=>h
def cj9 {op:IK}{b:Store}(h:∀i cs,σ.obj i=za (.cells cs)->∃cs',b.obj i=za (.cells cs')):bi1 E fr σ op->bi1 E fr b op:=by
 cases op with
 | q q=>
  cases q with
  | load ag x=>
   simp only[bi1];split
   .exact λh=>h
   .rintro ⟨cs,hc⟩;exact h _ cs hc
   .exact λh=>h
  | _=>exact λh=>h
 | _=>exact λh=>h
def al8 {op:IK}{b:Store}(c:op.kind≠1):bi1 E fr b op:=by
 cases op with
 | q q=>
  cases q with
  | load ag x=>exact absurd rfl c
  | _=>trivial
 | _=>trivial
def ig5 {B:Bool}{p x:IK}{ip ix:Nat}{fr1 fr2:Frm}{σ1 σ2:Store}{vp vx:IV}(hp:cd4 P E p ip fr σ vp σ1)(hpb:B=true->bi1 E fr σ p)(hx:cd4 P E x ix fr1 σ1 vx σ2)(hxb:B=true->bi1 E fr1 σ1 x)
  (hfree:db7 B p.kind x.kind=true) (hfx:∀t∈x.ops.flatMap IX.uses,fr1.get t=fr.get t) (hfp:∀t∈p.ops.flatMap IX.uses,fr.get t=fr2.get t)
  (hne:ip≠ix) (hnp:σ.obj ip=zh) (hnx:σ.obj ix=zh) (hH:p.kind=2->∀y∈x.ops,bo8 ip (y.ev E fr)) :
  ∃σ1',cd4 P E x ix fr σ vx σ1'/\(B=true->bi1 E fr σ x)/\cd4 P E p ip fr2 σ1' vp σ2/\(B=true->bi1 E fr2 σ1' p):=by
 have hx':=ea3 hfx hx;have hxb':B=true->bi1 E fr σ1 x:=λhb=>bs9 hfx (hxb hb)
 have hp':∀ {s s' v},cd4 P E p ip fr s v s'->cd4 P E p ip fr2 s v s':=λh=>ea3 hfp h
 have hpb':∀ {s},bi1 E fr s p->bi1 E fr2 s p:=λh=>bs9 hfp h
 by_cases kp0:p.kind=0
 .obtain ⟨rfl,hall⟩:=fh8 kp0 hp;exact ⟨σ2,hx',hxb',hp' (hall σ2),λ_=>hpb' (al8 om)⟩
 by_cases kx0:x.kind=0
 .obtain ⟨rfl,hall⟩:=fh8 kx0 hx';exact ⟨σ,hall σ,λ_=>al8 om,hp' hp,λhb=>hpb' (hpb hb)⟩
 by_cases n1:p.kind=2/\x.kind=4
 .have⟨k1,k2⟩:=n1;obtain ⟨ob,rfl,hall⟩:=at1 k1 hp;obtain ⟨e,a,y,rfl⟩:=jw8 k2;have r1:=hH k1 a (by simp[IK.ops]);simp only[cd4] at hx';obtain ⟨hx1,rfl⟩:=hx';rw[ej8 r1] at hx1;obtain ⟨s,h1,rfl⟩:=map_some hx1;exact ⟨s,⟨h1,rfl⟩,λ_=>trivial,hp' (hall s),λ_=>al8 om⟩
 by_cases n2:p.kind=4/\x.kind=2
 .have⟨k1,k2⟩:=n2;obtain ⟨e,a,y,rfl⟩:=jw8 k1;obtain ⟨ob,rfl,hall⟩:=at1 k2 hx';obtain ⟨h1,rfl⟩:=hp;refine ⟨σ.put ix ob,hall σ,λ_=>al8 om,hp' ⟨?_,rfl⟩,λ_=>trivial⟩;rw[ej8 (ew4 hnx h1),h1];rfl
 have hfree:ej7 B p.kind x.kind=true:=by
  unfold db7 at hfree;simp only[zi,ze,beq_iff_eq] at hfree;rcases hfree with (h|h)|h
  .exact h
  .exact absurd h n1
  .exact absurd h n2
 have hcases:(p.kind=1/\x.kind=1)\/(p.kind=1/\x.kind=2)\/(p.kind=2/\x.kind=2)\/(p.kind=3/\x.kind=2)\/(B=true/\p.kind=1/\x.kind=3)\/(B=true/\p.kind=3/\x.kind=1)\/(p.kind=2/\x.kind=1)\/(p.kind=2/\x.kind=3)\/((p.kind=1\/p.kind=5)/\(x.kind=1\/x.kind=5))\/(p.kind=5/\x.kind=2)\/(p.kind=2/\x.kind=5):=by
  unfold ej7 at hfree;simp only[zi,ze,beq_iff_eq,decide_eq_true_eq] at hfree;rcases hfree with ((((((((((((((h|h)|h)|h)|h)|h)|h)|h)|h)|h)|h)|h)|h)|h)|h)
  .exact absurd h.1 kp0
  .exact absurd h.1 kx0
  .exact .inl h
  .exact .inr (.inl h)
  .exact .inr (.inr (.inl h))
  .exact .inr (.inr (.inr (.inl h)))
  .exact .inr (.inr (.inr (.inr (.inl ⟨h.1.1,h.1.2,h.2⟩))))
  .exact .inr (.inr (.inr (.inr (.inr (.inl ⟨h.1.1,h.1.2,h.2⟩)))))
  .exact .inr (.inr (.inr (.inr (.inr (.inr (.inl h))))))
  .exact .inr (.inr (.inr (.inr (.inr (.inr (.inr (.inl h)))))))
  .exact .inr (.inr (.inr (.inr (.inr (.inr (.inr (.inr (.inl ⟨.inl h.1,.inr h.2⟩))))))))
  .exact .inr (.inr (.inr (.inr (.inr (.inr (.inr (.inr (.inl ⟨.inr h.1,.inl h.2⟩))))))))
  .exact .inr (.inr (.inr (.inr (.inr (.inr (.inr (.inr (.inl ⟨.inr h.1,.inr h.2⟩))))))))
  .exact .inr (.inr (.inr (.inr (.inr (.inr (.inr (.inr (.inr (.inl h)))))))))
  .exact .inr (.inr (.inr (.inr (.inr (.inr (.inr (.inr (.inr (.inr h)))))))))
 rcases hcases with ⟨k1,k2⟩|⟨k1,k2⟩|⟨k1,k2⟩|⟨k1,k2⟩|⟨hB,k1,k2⟩|⟨hB,k1,k2⟩|⟨k1,k2⟩|⟨k1,k2⟩|⟨k1,k2⟩|⟨k1,k2⟩|⟨k1,k2⟩
 .obtain ⟨ag,y,rfl⟩:=fw3 k1;obtain ⟨ag',y',rfl⟩:=fw3 k2;obtain ⟨h1,rfl⟩:=hp;obtain ⟨h2,rfl⟩:=hx';exact ⟨_,⟨h2,rfl⟩,hxb',hp' ⟨h1,rfl⟩,λhb=>hpb' (hpb hb)⟩
 .obtain ⟨ag,y,rfl⟩:=fw3 k1;obtain ⟨h1,rfl⟩:=hp;obtain ⟨ob,rfl,hall⟩:=at1 k2 hx';refine ⟨σ1.put ix ob,hall σ1,λ_=>al8 om,hp' ⟨?_,rfl⟩,λhb=>hpb' (cj9 (λi cs hc=>⟨cs,by rw[ag5 (λe=>by subst e;rw[hnx] at hc;cases hc)];exact hc⟩) (hpb hb))⟩;simp only[evq] at h1 ⊢;rw[fh7 (fw1 hnx h1)];exact h1
 .obtain ⟨ob,rfl,hall⟩:=at1 k1 hp;obtain ⟨ob',rfl,hall'⟩:=at1 k2 hx';refine ⟨σ.put ix ob',hall' σ,λ_=>al8 om,?_,λ_=>al8 om⟩;rw[put_comm ip ix _ _ hne];exact hp' (hall _)
 .obtain ⟨e,s,y,rfl⟩:=ig4 k1;obtain ⟨ob,rfl,hall⟩:=at1 k2 hx';refine ⟨σ.put ix ob,hall σ,λ_=>al8 om,hp' ?_,λ_=>al8 om⟩;have⟨n1,n2⟩:=gr7 (id2:=ix) hnx hp;simp only[cd4] at hp ⊢;rw[dm9 n1 n2 (λe=>hne e.symm),hp];rfl
 .obtain ⟨ag,y,rfl⟩:=fw3 k1;obtain ⟨e,s,z,rfl⟩:=ig4 k2;obtain ⟨h1,rfl⟩:=hp;have hb:=hpb hB;refine ⟨σ2,hx',λ_=>trivial,hp' ⟨?_,rfl⟩,λ_=>hpb' (cj9 (λi cs hc=>⟨cs,(cd5 hnx hx' i cs).1 hc⟩) hb)⟩;simp only[evq] at h1 ⊢;rw[<- h1];simp only[bi1] at hb;split at hb
  .rename_i he;rw[he];rfl
  .rename_i i off he;have⟨cs,hc⟩:=hb;have hc':=(cd5 hnx hx' i cs).1 hc;rw[he];simp[ay8,ar3,hc,hc']
  .exact hb.elim
 .obtain ⟨e,s,z,rfl⟩:=ig4 k1;obtain ⟨ag,y,rfl⟩:=fw3 k2;obtain ⟨h2,rfl⟩:=hx';have hb:=hxb' hB;refine ⟨σ,⟨?_,rfl⟩,λ_=>cj9 (λi cs hc=>⟨cs,(cd5 hnp hp i cs).2 hc⟩) hb,hp' hp,λ_=>trivial⟩;simp only[evq] at h2 ⊢;rw[<- h2];simp only[bi1] at hb;split at hb
  .rename_i he;rw[he];rfl
  .rename_i i off he;have⟨cs,hc⟩:=hb;have hc':=(cd5 hnp hp i cs).2 hc;rw[he];simp[ay8,ar3,hc,hc']
  .exact hb.elim
 .obtain ⟨ob,rfl,hall⟩:=at1 k1 hp;obtain ⟨ag,y,rfl⟩:=fw3 k2;obtain ⟨h2,rfl⟩:=hx';have hr:=hH k1 y (by simp[IK.ops,IQ.ops]);refine ⟨σ,⟨?_,rfl⟩,λhb=>?_,hp' hp,λ_=>al8 om⟩
  .simp only[evq] at h2 ⊢;rw[fh7 hr] at h2;exact h2
  .have:=hxb' hb;simp only[bi1] at this ⊢;split
   .trivial
   .rename_i i off he;rw[he] at this hr;have⟨cs,hc⟩:=this;exact ⟨cs,by rw[ag5 hr] at hc;exact hc⟩
   .rename_i h1 h2;generalize y.ev E fr=q at *;cases q<;>first|exact this|exact (h1 _ rfl).elim|exact (h2 _ _ rfl).elim
 .obtain ⟨ob,rfl,hall⟩:=at1 k1 hp;obtain ⟨e,s,z,rfl⟩:=ig4 k2;have r1:=hH k1 s (by simp[IK.ops]);have r2:=hH k1 z (by simp[IK.ops]);simp only[cd4] at hx';rw[dm9 r1 r2 hne] at hx';have⟨⟨v',s'⟩,h1,h2⟩:=map_some hx';cases h2;exact ⟨s',h1,λ_=>trivial,hp' (hall _),λ_=>al8 om⟩
 .obtain ⟨q1,rfl⟩:=jw6 k1;obtain ⟨q2,rfl⟩:=jw6 k2;obtain ⟨h1,rfl⟩:=hp;obtain ⟨h2,rfl⟩:=hx';exact ⟨_,⟨h2,rfl⟩,hxb',hp' ⟨h1,rfl⟩,λhb=>hpb' (hpb hb)⟩
 .obtain ⟨t,z,ok,y,k,rfl⟩:=jw7 k1;obtain ⟨h1,rfl⟩:=hp;obtain ⟨ob,rfl,hall⟩:=at1 k2 hx';refine ⟨σ1.put ix ob,hall σ1,λ_=>al8 om,hp' ⟨?_,rfl⟩,λhb=>trivial⟩;simp only[evq] at h1 ⊢;rw[gr5 (gr6 hnx h1)];exact h1
 .obtain ⟨ob,rfl,hall⟩:=at1 k1 hp;obtain ⟨t,z,ok,y,k,rfl⟩:=jw7 k2;obtain ⟨h2,rfl⟩:=hx';have hr:=hH k1 y (by simp[IK.ops,IQ.ops]);refine ⟨σ,⟨?_,rfl⟩,λhb=>trivial,hp' hp,λ_=>al8 om⟩;simp only[evq] at h2 ⊢;rw[gr5 hr] at h2;exact h2
end Go.Id
namespace Go.Id
open Go
variable {P:Program} {w w' w'':World} {ρ ρ' ρ'':Rho} {E:Nat->IV} {σ σ':Store} {N n n':Nat} {fr:Frm} {a:Act} {pf:List Nat}
abbrev Item:=Nat×af1×Nat
def eu1 (P:Program)(E:Nat->IV)(B:Bool)(o:af1)(id:Nat)(fr:Frm)(σ:Store)(K:Frm->Store->Prop):Prop :=
 ∃act,ck4 o fr=za act/\(if act then opR P E o.op id fr σ (λv σ'=>K (fr.ba3 o.dst v) σ')/\(B=true->bi1 E fr σ o.op) else K (fr.ba3 o.dst skV) σ)
def bi2 (P:Program)(E:Nat->IV)(B:Bool):List Item->Frm->Store->(Frm->Store->Prop)->Prop
 | [],fr,σ,K=>K fr σ
 | (_,o,id)::rest,fr,σ,K=>eu1 P E B o id fr σ λfr' σ'=>bi2 P E B rest fr' σ' K
def bf9 (fr:Frm)(d:Option Nat)(v:IV)(t:Nat):(fr.ba3 d v).get t=if d=za t then v else fr.get t:=by
 cases d with
 | none=>simp[Frm.ba3]
 | some d=>
  simp only[Frm.ba3,Frm.ci8,za.injEq];by_cases h:t=d
  .subst h;simp
  .have:¬d=t:=λe=>h e.symm
   simp[h,this]
def fh9 {fr fr':Frm}(h:FEq fr fr')(d:Option Nat)(v:IV):FEq (fr.ba3 d v) (fr'.ba3 d v):=λt=>by rw[bf9,bf9,h t]
def gr8 {op:IK}{id:Nat}{fr fr':Frm}{K:IV->Store->Prop}(h:∀t∈op.ops.flatMap IX.uses,fr.get t=fr'.get t):opR P E op id fr σ K->opR P E op id fr' σ K:=by
 cases op with
 | q q=>simp only[opR];rw[iy6 (λt b=>h t b)];exact λh=>h
 | alloc z=>exact λh=>h
 | box x=>simp only[opR];rw[ah8 (x:=x) (λt b=>h t (by simp[IK.ops,b]))];exact λh=>h
 | bsl e n z ps=>simp only[opR];rw[be2 (λt b=>h t b)];exact λh=>h
 | store e x y=>simp only[opR];rw[ah8 (x:=x) (λt b=>h t (by simp[IK.ops,b])),ah8 (x:=y) (λt b=>h t (by simp[IK.ops,b]))];exact λh=>h
 | app e x y=>simp only[opR];rw[ah8 (x:=x) (λt b=>h t (by simp[IK.ops,b])),ah8 (x:=y) (λt b=>h t (by simp[IK.ops,b]))];exact λh=>h
 | dc4=>exact λh=>h
 | bq1 x=>simp only[opR];rw[ah8 (x:=x) (λt b=>h t (by simp[IK.ops,b]))];exact λh=>h
 | dj8 x=>simp only[opR];rw[ah8 (x:=x) (λt b=>h t (by simp[IK.ops,b]))];exact λh=>h
 | gl8 t x y z=>simp only[opR];rw[ah8 (x:=x) (λt b=>h t (by simp[IK.ops,b])),ah8 (x:=y) (λt b=>h t (by simp[IK.ops,b])),ah8 (x:=z) (λt b=>h t (by simp[IK.ops,b]))];exact λh=>h
 | call f xs=>simp only[opR];rw[aw7 (xs:=xs) h];exact λh=>h
 | bo9 f xs=>simp only[opR];rw[aw7 (xs:=xs) h];exact λh=>h
 | dj9 x xs=>
  simp only[IK.ops,zj,zf] at h
  simp only[opR];rw[aw7 (xs:=xs) (λt b=>h t (.inr b)),ah8 (x:=x) (λt b=>h t (.inl b))];exact λh=>h
 | ay6 x xs=>
  simp only[IK.ops,zj,zf] at h
  simp only[opR];rw[aw7 (xs:=xs) (λt b=>h t (.inr b)),ah8 (x:=x) (λt b=>h t (.inl b))];exact λh=>h
 | eb1 e n z ps=>simp only[opR];rw[be2 (λt b=>h t b)];exact λh=>h
 | el4 x=>simp only[opR];rw[ah8 (x:=x) (λt b=>h t (by simp[IK.ops,b]))];exact λh=>h
 | bo5 x=>simp only[opR];rw[ah8 (x:=x) (λt b=>h t (by simp[IK.ops,b]))];exact λh=>h
 | dc5 x=>simp only[opR];rw[ah8 (x:=x) (λt b=>h t (by simp[IK.ops,b]))];exact λh=>h
 | gu4 x=>simp only[opR];rw[ah8 (x:=x) (λt b=>h t (by simp[IK.ops,b]))];exact λh=>h
 | dn3 e z x=>simp only[opR];rw[ah8 (x:=x) (λt b=>h t (by simp[IK.ops,b]))];exact λh=>h
 | clr e z x=>simp only[opR];rw[ah8 (x:=x) (λt b=>h t (by simp[IK.ops,b]))];exact λh=>h
 | st k xs=>simp only[opR];rw[aw7 (xs:=xs) h];exact λh=>h
def jg1 {op:IK}{id:Nat}{fr fr':Frm}{K:IV->Store->Prop}(h:FEq fr fr'):opR P E op id fr σ K->opR P E op id fr' σ K:=gr8 λt _=>h t
def bb9 {op:IK}{id:Nat}{K d:IV->Store->Prop}(b:∀v σ,K v σ->d v σ):opR P E op id fr σ K->opR P E op id fr σ d:=by
 cases op with
 | q q=>exact λ⟨v,h,k⟩=>⟨v,h,b _ _ k⟩
 | alloc z=>exact λk=>b _ _ k
 | box x=>exact λ⟨h,k⟩=>⟨h,b _ _ k⟩
 | bsl e n z ps=>exact λ⟨c,h,k⟩=>⟨c,h,b _ _ k⟩
 | store e x y=>exact λ⟨s,h,k⟩=>⟨s,h,b _ _ k⟩
 | app e x y=>exact λ⟨r,h,k⟩=>⟨r,h,b _ _ k⟩
 | dc4=>exact λk=>b _ _ k
 | bq1 x=>exact λ⟨s,h,k⟩=>⟨s,h,b _ _ k⟩
 | dj8 x=>exact λ⟨s,h,k⟩=>⟨s,h,b _ _ k⟩
 | gl8 t x y z=>exact λ⟨s,h,k⟩=>⟨s,h,b _ _ k⟩
 | call f xs=>exact λ⟨Q,h,k⟩=>⟨Q,h,λv s q=>⟨(k v s q).1,b _ _ (k v s q).2⟩⟩
 | bo9 f xs=>exact λ⟨v,h,k⟩=>⟨v,h,b _ _ k⟩
 | ay6 f xs=>exact λ⟨v,h,k⟩=>⟨v,h,b _ _ k⟩
 | dj9 x xs=>exact λ⟨Q,h,k⟩=>⟨Q,h,λv s q=>⟨(k v s q).1,b _ _ (k v s q).2⟩⟩
 | eb1 e n z ps=>exact λ⟨c,h,k⟩=>⟨c,h,b _ _ k⟩
 | el4 x=>exact λ⟨h,k⟩=>⟨h,b _ _ k⟩
 | bo5 x=>exact λ⟨s,h,k⟩=>⟨s,h,b _ _ k⟩
 | gu4 x=>exact λ⟨v,h,k⟩=>⟨v,h,b _ _ k⟩
 | dn3 e z x=>exact λ⟨n,h,k⟩=>⟨n,h,b _ _ k⟩
 | clr e z x=>exact λ⟨s,h,o,k⟩=>⟨s,h,o,b _ _ k⟩
 | st e xs=>exact λ⟨r,h,k⟩=>⟨r,h,b _ _ k⟩
 | dc5 x=>exact λ⟨i,l,h,m,g⟩=>⟨i,l,h,λe=>b _ _ (m e),λj p=>b _ _ (g j p)⟩
def cx8 {o:af1}{fr fr':Frm}(h:∀t∈o.uses,fr.get t=fr'.get t):ck4 o fr=ck4 o fr':=by
 unfold ck4
 cases c:o.guard with
 | none=>rfl
 | some p=>
  have⟨s,b⟩:=p;simp only;rw[h s (by simp[af1.uses,c])]
def ig6 {B:Bool}{o:af1}{id:Nat}{fr fr':Frm}{K K':Frm->Store->Prop}(h:FEq fr fr')(hK:∀f f' s,FEq f f'->K f s->K' f' s):eu1 P E B o id fr σ K->eu1 P E B o id fr' σ K':=by
 rintro ⟨act,ha,hh⟩;refine ⟨act,by rw[<- cx8 (λt _=>h t)];exact ha,?_⟩
 cases act with
 | true=>
  have⟨h1,h2⟩:=hh
  exact ⟨bb9 (λv s k=>hK _ _ _ (fh9 h _ _) k) (jg1 h h1),λhb=>bs9 (λt _=>h t) (h2 hb)⟩
 | false=>exact hK _ _ _ (fh9 h _ _) hh
def db8 {B:Bool}{K:Frm->Store->Prop}(e:∀f c s,FEq f c->K f s->K c s):∀(b:List Item) (fr fr':Frm) (σ:Store),FEq fr fr'->bi2 P E B b fr σ K->bi2 P E B b fr' σ K:=by
 intro b
 induction b with
 | nil=>exact λfr fr' σ h k=>e _ _ _ h k
 | cons it b ih=>
  have⟨i,o,id⟩:=it;exact λfr fr' σ h k=>ig6 h (λf c s hf d=>ih f c s hf d) k
def by3 (p x:af1):Prop :=
 (∀d,x.dst=za d->d ∉ p.uses/\p.dst≠za d)/\(∀d,p.dst=za d->d ∉ x.uses)
def ic1 (o:af1):Bool:=match o.guard,o.op with
 | none,.q (.mov _)=>true
 | _,_=>false
def gr9 (B:Bool)(p x:af1):Prop:=(db7 B p.op.kind x.op.kind=true\/ic1 p=true\/ic1 x=true)/\by3 p x
def fi1 {B:Bool}{i j:Nat}(h:db7 B i j=true):i<=5/\j<=5:=by
 unfold db7 ej7 at h;simp only[zi,ze,beq_iff_eq,decide_eq_true_eq] at h;omega
def gs2 {op:IK}{id i:Nat}{v:IV}(d:op.kind<=5)(hi:i≠id)(h:cd4 P E op id fr σ v σ')(b:σ.obj i=zh):σ'.obj i=zh:=by
 cases op with
 | q q=>rw[h.2];exact b
 | alloc z=>rw[h.2,ag5 hi];exact b
 | box x=>rw[h.2.2,ag5 hi];exact b
 | bsl e n z ps=>have⟨c,_,_,g⟩:=h;rw[g,ag5 hi];exact b
 | store e x y=>
  have⟨h,_⟩:=h;unfold ar5 at h;split at h
  .rename_i j off m;split at h
   .rename_i cs hc;split at h
    .cases h;rw[ag5 (λe=>by subst e;rw[b] at hc;cases hc)];exact b
    .cases h
   .rename_i cs hc;split at h
    .cases h;rw[ag5 (λe=>by subst e;rw[b] at hc;cases hc)];exact b
    .cases h
   .cases h
  .cases h
 | bo9 f xs=>rw[h.2];exact b
 | ay6 f xs=>rw[h.2];exact b
 | app e s x=>
  simp only[cd4] at h;unfold bb4 at h;split at h
  .cases h
  .split at h
   .cases h
   .split at h
    .split at h
     .cases h;exact b
     .split at h
      .cases h;rw[ag5 hi];exact b
      .cases h
    .split at h
     .cases h;exact b
     .split at h
      .cases h;rw[ag5 hi];exact b
      .cases h
    .split at h
     .cases h;exact b
     .cases h
    .split at h
     .split at h
      .cases h;exact b
      .split at h
       .cases h;rw[ag5 hi];simp only[Store.kill];split<;>simp[b]
       .cases h
     .cases h
    .split at h
     .split at h
      .cases h;exact b
      .split at h
       .cases h;rw[ag5 hi];exact b
       .cases h
     .cases h
    .cases h
 | eb1 e n z ps=>obtain ⟨_,_,_,rfl⟩:=h;exact b
 | el4 x=>obtain ⟨_,_,rfl⟩:=h;exact b
 | dn3 e z x=>obtain ⟨_,_,_,rfl⟩:=h;rw[ag5 hi];exact b
 | st k xs=>exact h.elim
 | _=>exact absurd d (by simp[IK.kind])
def ba2 {o:af1}{t:Nat}(h:t∈o.op.ops.flatMap IX.uses):t∈o.uses:=by unfold af1.uses;exact zd _ h
def kw4 {B:Bool}{o:af1}(h:ic1 o=true):o.op.kind=0/\∃y:IX,(∀t∈y.uses,t∈o.uses)/\∀id fr σ K,eu1 P E B o id fr σ K↔K (fr.ba3 o.dst (y.ev E fr)) σ:=by
 have⟨d,g,k⟩:=o;unfold ic1 at h;simp only at h;split at h
 .rename_i y;refine ⟨rfl,y,λt ht=>ba2 (zm.2 ⟨y,List.mem_singleton.2 rfl,ht⟩),λid fr σ K=>⟨?_,λhk=>⟨true,rfl,show opR P E _ id fr σ _/\_ from ⟨⟨_,rfl,hk⟩,λ_=>trivial⟩⟩⟩⟩;rintro ⟨act,ha,hh⟩;cases ha;have⟨⟨v,hv,hk⟩,_⟩:=hh;cases hv;exact hk
 .cases h
def ea4 {B:Bool}{o:af1}{id:Nat}{fr fr':Frm}{K K':Frm->Store->Prop}(h:∀t∈o.uses,fr.get t=fr'.get t)(hK:∀v s,K (fr.ba3 o.dst v) s->K' (fr'.ba3 o.dst v) s):eu1 P E B o id fr σ K->eu1 P E B o id fr' σ K':=by
 rintro ⟨act,ha,hh⟩;refine ⟨act,by rw[<- cx8 h];exact ha,?_⟩
 cases act with
 | true=>
  have⟨h1,h2⟩:=hh
  exact ⟨bb9 (λv s k=>hK v s k) (gr8 (λt ht=>h t (ba2 ht)) h1),λhb=>bs9 (λt ht=>h t (ba2 ht)) (h2 hb)⟩
 | false=>exact hK _ _ hh
def ej9 {fr:Frm}{d c:Option Nat}{v e:IV}(h:∀t,d=za t->c≠za t):FEq ((fr.ba3 d v).ba3 c e) ((fr.ba3 c e).ba3 d v):=λt=>by
 simp only[bf9];by_cases b:d=za t
 .simp[b,h t b]
 .simp[b]
def ek1 {B:Bool}{K:Frm->Store->Prop}(j:∀f m s,FEq f m->K f s->K m s){p x:af1}(b:by3 p x)(q:ic1 x=true){kp kx:Nat}:eu1 P E B p kp fr σ (λf s=>eu1 P E B x kx f s K)↔eu1 P E B x kx fr σ (λf s=>eu1 P E B p kp f s K):=by
 have⟨_,y,o,i⟩:=kw4 (P:=P) (E:=E) (B:=B) q
 have d:∀v,y.ev E (fr.ba3 p.dst v)=y.ev E fr:=λv=>ah8 λt c=>by
  rw[bf9,if_neg];intro e;exact b.2 t e (o t c)
 have g:∀t∈p.uses,fr.get t=(fr.ba3 x.dst (y.ev E fr)).get t:=λt c=>by
  rw[bf9,if_neg];intro e;exact (b.1 t e).1 c
 rw[i];constructor
 .refine λh=>ea4 g (λv s k=>?_) h
  rw[i,d] at k;exact j _ _ _ (λt=>((ej9 λt e=>(b.1 t e).2) t).symm) k
 .refine λh=>ea4 (λt c=>(g t c).symm) (λv s k=>?_) h
  rw[i,d];exact j _ _ _ (ej9 λt e=>(b.1 t e).2) k
def gs3 {B:Bool}{o:af1}{id:Nat}{K b:Frm->Store->Prop}(c:∀f s,K f s->b f s)(h:eu1 P E B o id fr σ K):eu1 P E B o id fr σ b:=ea4 (λ_ _=>rfl) (λ_ _ k=>c _ _ k) h
def by3.symm {p x:af1}(h:by3 p x):by3 x p:=⟨λd b=>⟨h.2 d b,λe=>(h.1 d e).2 b⟩,λd b=>(h.1 d b).1⟩
def kn2 {B:Bool}{K:Frm->Store->Prop}(m:∀f c s,FEq f c->K f s->K c s){ix:Nat}{x:af1}{kx:Nat}{post:List Item} :
  ∀(b:List Item) (fr:Frm) (σ:Store),(∀p∈b,(ic1 p.2.1=true\/ic1 x=true)/\by3 p.2.1 x) ->
   bi2 P E B (b++(ix,x,kx)::post) fr σ K->eu1 P E B x kx fr σ λfr' σ'=>bi2 P E B (b++post) fr' σ' K:=by
 intro b
 induction b with
 | nil=>exact λfr σ _ h=>h
 | cons p b ih=>
  intro fr σ hp h;have h:=gs3 (λf s k=>ih f s (λq j=>hp q (zc _ j)) k) h;have⟨d,g⟩:=hp p (zb ..);have i:∀f c s,FEq f c->bi2 P E B (b++post) f s K->bi2 P E B (b++post) c s K:=λf c s e k=>db8 m _ _ _ _ e k
  rcases d with d|d
  .exact (ek1 i g.symm d).2 h
  .exact (ek1 i g d).1 h
def kn3 {B:Bool}{K:Frm->Store->Prop}(hK:∀f f' s,FEq f f'->K f s->K f' s){ix:Nat}{x:af1}{kx:Nat}{post:List Item} :
  ∀(b:List Item) (fr:Frm) (σ:Store),(∀p∈b,db7 B p.2.1.op.kind x.op.kind=true/\by3 p.2.1 x)->(∀p∈b,p.2.2≠kx/\σ.obj p.2.2=zh)->(b.map (·.2.2)).Nodup->(b≠[]->σ.obj kx=zh) ->
   (∀p∈b,p.2.1.op.kind=2->∀y∈x.op.ops,bo8 p.2.2 (y.ev E fr)) ->
   bi2 P E B (b++(ix,x,kx)::post) fr σ K->eu1 P E B x kx fr σ λfr' σ'=>bi2 P E B (b++post) fr' σ' K:=by
 intro b
 induction b with
 | nil=>intro fr σ _ _ _ _ _ h;exact h
 | cons p b ih=>
  intro fr σ H D ah J hH h;have⟨ip,p,kp⟩:=p;have⟨hk,M⟩:=H _ (zb ..);have⟨ab,ae⟩:=D _ (zb ..);simp only at hk M ab ae;have⟨W,ad⟩:=fi1 hk;have J:=J sm;have⟨V,ac,hh⟩:=h
  -- what p gives
  have hp:∃m d,kl3 P E B V p.op kp fr σ m d/\bi2 P E B (b++(ix,x,kx)::post) (fr.ba3 p.dst m) d K:=by
   cases V with
   | true=>
    have⟨h1,h2⟩:=hh;have⟨m,d,I,k⟩:=(ea2 W).1 h1
    exact ⟨m,d,⟨I,h2⟩,k⟩
   | false=>exact ⟨skV,σ,⟨rfl,rfl⟩,hh⟩
  have⟨m,d,I,X⟩:=hp
  have F:∀t∈x.uses,(fr.ba3 p.dst m).get t=fr.get t:=λt j=>by
   rw[bf9,if_neg];intro e;exact M.2 t e j
  have r:∀i,i≠kp->σ.obj i=zh->d.obj i=zh:=λi hi h0=>by
   cases V with
   | true=>exact gs2 W hi I.1 h0
   | false=>obtain ⟨_,rfl⟩:=I;exact h0
  have T:=List.nodup_cons.1 (show (kp::b.map (·.2.2)).Nodup from ah)
  have⟨U,aa,af⟩:=ih (fr.ba3 p.dst m) d (λq Y=>H q (zc _ Y))
   (λq Y=>⟨(D q (zc _ Y)).1,r _ (λe=>T.1 (by rw[<- e];exact zq.2 ⟨q,Y,rfl⟩)) (D q (zc _ Y)).2⟩)
   T.2 (λ_=>r kx (λe=>ab e.symm) J)
   (λq Y ai y hy=>by
    have:y.ev E (fr.ba3 p.dst m)=y.ev E fr:=ah8 λt j=>F t (ba2 (zm.2 ⟨y,hy,j⟩))
    rw[this];exact hH q (zc _ Y) ai y hy) X
  have hx:∃u g,kl3 P E B U x.op kx (fr.ba3 p.dst m) d u g/\bi2 P E B (b++post) ((fr.ba3 p.dst m).ba3 x.dst u) g K:=by
   cases U with
   | true=>
    have⟨h1,h2⟩:=af;have⟨u,g,I,k⟩:=(ea2 ad).1 h1
    exact ⟨u,g,⟨I,h2⟩,k⟩
   | false=>exact ⟨skV,d,⟨rfl,rfl⟩,af⟩
  have⟨u,g,z,o⟩:=hx;have Q:ck4 x fr=za U:=by rw[<- cx8 F];exact aa
  have L:∀t∈p.uses,fr.get t=(fr.ba3 x.dst u).get t:=λt j=>by
   rw[bf9,if_neg];intro e;exact (M.1 t e).1 j
  have S:ck4 p (fr.ba3 x.dst u)=za V:=by rw[<- cx8 L];exact ac
  have ag:FEq ((fr.ba3 p.dst m).ba3 x.dst u) ((fr.ba3 x.dst u).ba3 p.dst m):=λt=>by
   simp only[bf9];by_cases h1:x.dst=za t
   .have h2:p.dst≠za t:=(M.1 t h1).2;simp[h1,h2]
   .simp[h1]
  have swap:∃c,kl3 P E B U x.op kx fr σ u c/\kl3 P E B V p.op kp (fr.ba3 x.dst u) c m g:=by
   cases V with
   | true=>
    cases U with
    | true=>
     have⟨c,s1,s2,s3,s4⟩:=ig5 I.1 I.2 z.1 z.2 hk (λt j=>F t (ba2 j)) (λt j=>L t (ba2 j)) ab ae J (hH _ (zb ..))
     exact ⟨c,⟨s1,s2⟩,⟨s3,s4⟩⟩
    | false=>
     obtain ⟨rfl,rfl⟩:=z
     exact ⟨σ,⟨rfl,rfl⟩,ea3 (λt j=>L t (ba2 j)) I.1,λhb=>bs9 (λt j=>L t (ba2 j)) (I.2 hb)⟩
   | false=>
    obtain ⟨rfl,rfl⟩:=I
    cases U with
    | true=>exact ⟨g,⟨ea3 (λt j=>F t (ba2 j)) z.1,λhb=>bs9 (λt j=>F t (ba2 j)) (z.2 hb)⟩,rfl,rfl⟩
    | false=>obtain ⟨rfl,rfl⟩:=z;exact ⟨_,⟨rfl,rfl⟩,rfl,rfl⟩
  have⟨c,d1,d2⟩:=swap
  have A:eu1 P E B p kp (fr.ba3 x.dst u) c λfr' σ'=>bi2 P E B (b++post) fr' σ' K:=by
   refine ⟨V,S,?_⟩
   cases V with
   | true=>exact ⟨(ea2 W).2 ⟨m,g,d2.1,db8 hK _ _ _ _ ag o⟩,d2.2⟩
   | false=>obtain ⟨rfl,rfl⟩:=d2;exact db8 hK _ _ _ _ ag o
  refine ⟨U,Q,?_⟩
  cases U with
  | true=>exact ⟨(ea2 ad).2 ⟨u,c,d1.1,A⟩,d1.2⟩
  | false=>obtain ⟨rfl,rfl⟩:=d1;exact A
def ky5 {B:Bool}{K:Frm->Store->Prop}(k:∀f m s,FEq f m->K f s->K m s){ix:Nat}{x:af1}{kx:Nat}{post:List Item} :
  ∀(b:List Item) (fr:Frm) (σ:Store),(∀p∈b,gr9 B p.2.1 x)->(∀p∈b,p.2.2≠kx/\σ.obj p.2.2=zh)->(b.map (·.2.2)).Nodup->(b≠[]->σ.obj kx=zh) ->
   (∀p∈b,p.2.1.op.kind=2->∀y∈x.op.ops,bo8 p.2.2 (y.ev E fr)) ->
   bi2 P E B (b++(ix,x,kx)::post) fr σ K->eu1 P E B x kx fr σ λfr' σ'=>bi2 P E B (b++post) fr' σ' K:=by
 intro b fr σ c g j i o h;by_cases e:ic1 x=true\/5<x.op.kind
 .exact kn2 k b fr σ (λp hp=>⟨by
   rcases e with h|h
   .exact .inr h
   .rcases (c p hp).1 with d|d
    .exact absurd (fi1 d).2 om
    .exact d,(c p hp).2⟩) h
 refine kn3 k b fr σ (show ∀p∈b,db7 B p.2.1.op.kind x.op.kind=true/\by3 p.2.1 x from λp hp=>⟨by
  rcases (c p hp).1 with d|d|d
  .exact d
  .have:=(kw4 (P:=P) (E:=E) (B:=B) d).1;have:x.op.kind<=5:=om
   simp_all [db7,ej7]
  .exact absurd (.inl d) e,(c p hp).2⟩) g j i o h
end Go.Id
namespace Go.Id
open Go
variable {P:Program} {w w' w'':World} {ρ ρ' ρ'':Rho} {E:Nat->IV} {σ σ':Store} {N n n':Nat} {fr:Frm} {a:Act} {pf:List Nat}
def IX.quiet:IX->Bool
 | .c (.ptr _ _)=>false
 | .c (.slice _ _ _ _)=>false
 | .c (.map _)=>false
 | .c (.ag6 _ _ _ _)=>false
 | .c (.al2 _ _ _ _ _)=>false
 | _=>true
def IX.ew5 {x:IX}{id:Nat}(b:x.quiet=true)(hs:Sim E ρ w σ)(hf:FR ρ w N fr a.tmps)(h:ρ id=.no):bo8 id (x.ev E fr):=by
 cases x with
 | t n=>exact fh6 (hf.get n) h
 | c v=>cases v<;>first|trivial|cases b
 | g n=>exact fh6 (hs.env n) h
 | f n=>trivial
structure Rem (P:Program) (pf:List Nat) (N:Nat) (ops:Array Oper) (B:Bool) (anc:Nat->Nat->Prop) (base:Nat) (rem:List Item) (listed:Array Bool):Prop where
 size:listed.size=ops.size
 un:∀j,j<ops.size->(listed.getD j true=false↔∃it∈rem,it.1=j)
 its:∀it∈rem,∃o,ops[it.1]? = za o/\ck5 P pf N ops o=za it.2.1/\it.2.2=base+it.1/\∀y∈it.2.1.op.ops,IX.quiet y=true
 pw:rem.Pairwise λp x=>(anc p.1 x.1\/gr9 B p.2.1 x.2.1)/\p.1≠x.1/\∀o,ops[p.1]? = za o->∀e∈o.after,Region.binds .any e=true->e.on≠x.1
 dc:∀j,listed.getD j false=true->∀k,anc k j->listed.getD k false=true
def getD_lt {l:Array Bool}{j:Nat}(h:l.getD j true=false):j<l.size:=by
 rcases zl j l.size with b|b
 .exact b
 .simp[zg b] at h
def jg2 {l:Array Bool}{j:Nat}(h:l.getD j false=true):l.getD j true=true:=by
 rcases zl j l.size with b|b
 .simp[b] at h ⊢;exact h
 .simp[zg b] at h
def gs4 {ops:Array Oper} {B:Bool} {anc:Nat->Nat->Prop} {n0 base:Nat} {ro:Option Nat} {Qw:Exit->Act->World->Prop} {K:Frm->Store->Prop} {ρ0:Rho} {w0:World} {ds:List Deferred}
  (hKf:∀f f' s,FEq f f'->K f s->K f' s)
  (hfin:∀fr σ ρ w a,n0<=σ.next->K fr σ->Sim E ρ w σ->FR ρ w N fr a.tmps->a.defers=ds->bh8 n0 ρ0 w0 ρ w->Qw .normal a w)
  (hed:∀j o,ops[j]? = za o->∀e∈o.after,Region.binds .any e=true->e.on<ops.size/\e.on≠j)
  (hanc:∀k j,anc k j->∀o,ops[j]? = za o->∃e∈o.after,Region.binds .any e=true/\(e.on=k\/anc k e.on)) :
  ∀(fuel:Nat) (rem:List Item) (listed:Array Bool) (fr:Frm) (σ:Store) (ρ:Rho) (w:World) (a:Act),rem.length=fuel->Rem P pf N ops B anc base rem listed->bi2 P E B rem fr σ K ->
   Sim E ρ w σ->FR ρ w N fr a.tmps->a.defers=ds->bh8 n0 ρ0 w0 ρ w->n0<=base->base+ops.size<=σ.next->(∀it∈rem,ρ it.2.2=.no) ->
   wpAnyIn (fw ro) 0 P .any ops Qw fuel listed a w:=by
 intro fuel
 induction fuel with
 | zero=>
  intro rem listed fr σ ρ w a hlen hr h hs hf hd hx hn0 hnx hno;have:rem=[]:=List.length_eq_zero_iff.1 hlen;subst this;refine ⟨?_,hfin fr σ ρ w a om h hs hf hd hx⟩;rw[List.eq_nil_iff_forall_not_mem];intro j hj;have⟨h0,_⟩:=mem_ready.1 hj;have⟨it,hit,_⟩:=(hr.un j (by rw[<- hr.size];exact getD_lt h0)).1 h0
  cases hit
 | succ fuel ih=>
  intro rem listed fr σ ρ w a hlen hr h hs hf hd hx hn0 hnx hno;refine ⟨λhemp=>?_,λi hi=>?_⟩
  .exfalso
   cases rem with
   | nil=>cases hlen
   | cons it rem=>
    have⟨o,ho,hc,hid,_⟩:=hr.its it (zb ..)
    have hlt:it.1<ops.size:=by
     rcases zl it.1 ops.size with h'|h'
     .exact h'
     .simp[zg h'] at ho
    have:it.1∈Region.ready .any ops listed:=by
     refine mem_ready.2 ⟨(hr.un _ hlt).2 ⟨it,zb ..,rfl⟩,o,ho,λe he hb=>?_⟩;have⟨h1,h2⟩:=hed _ o ho e he hb;have hj:e.on<listed.size:=by rw[hr.size];exact h1
     by_cases hL:listed.getD e.on true=false
     .have⟨jt,hjt,hje⟩:=(hr.un _ h1).1 hL;rcases zk.1 hjt with rfl|hjt
      .exact absurd hje.symm h2
      .exact absurd hje.symm (((zp.1 hr.pw).1 jt hjt).2.2 o ho e he hb)
     .simp[hj] at hL ⊢;exact hL
    rw[hemp] at this;cases this
  .have⟨h0,o,ho,hall⟩:=mem_ready.1 hi;have hlt:i<ops.size:=by rw[<- hr.size];exact getD_lt h0
   have⟨it,hit,hie⟩:=(hr.un i hlt).1 h0;obtain ⟨pre,post,rfl⟩:=List.append_of_mem hit;have⟨ix,x,kx⟩:=it;simp only at hie;subst hie;have⟨o',ho',hc,hkx,hqx⟩:=hr.its _ hit;simp only at ho' hc hkx hqx;rw[ho] at ho';cases ho';have⟨hpp,hxp,hcross⟩:=List.pairwise_append.1 hr.pw;have hcx:=λp hp=>hcross p hp _ (zb ..)
   have hnotL:∀p∈pre,listed.getD p.1 false≠true:=λp hp hL=>by
    have⟨op,hop,_⟩:=hr.its p (zd _ hp)
    have hpl:p.1<ops.size:=by
     rcases zl p.1 ops.size with h'|h'
     .exact h'
     .simp[zg h'] at hop
    have:=(hr.un p.1 hpl).2 ⟨p,zd _ hp,rfl⟩;rw[jg2 hL] at this;cases this
   have hfree:∀p∈pre,gr9 B p.2.1 x:=λp hp=>by
    rcases (hcx p hp).1 with ha|hf
    .exfalso;have⟨e,he,hb,heq⟩:=hanc _ _ ha o ho;have hle:=hall e he hb;rcases heq with heq|ha'
     .exact hnotL p hp (by rw[<- heq];exact hle)
     .exact hnotL p hp (hr.dc _ hle _ ha')
    .exact hf
   have hidp:∀p∈pre,p.2.2=base+p.1:=λp hp=>by
    have⟨_,_,_,h1,_⟩:=hr.its p (zd _ hp);exact h1
   have hpull:=ky5 (P:=P) (E:=E) (B:=B) (K:=K) hKf (ix:=ix) (x:=x) (kx:=kx) (post:=post) pre fr σ hfree
    (λp hp=>⟨by rw[hidp p hp,hkx];have:=(hcx p hp).2.1;omega,hs.aw6 _ (hno p (zd _ hp))⟩)
    (by
     rw[List.nodup_iff_pairwise_ne,List.pairwise_map];refine (List.Pairwise.and_mem.1 hpp).imp ?_;intro p q ⟨hp,hq,h1⟩;rw[hidp p hp,hidp q hq];have:=h1.2.1;omega)
    (λ_=>hs.aw6 _ (hno _ hit))
    (λp hp _ y hy=>IX.ew5 (hqx y hy) hs hf (hno p (zd _ hp))) h
   have⟨⟨fz,hk⟩,hdst,hdN,hg⟩:=dc3 hc;have hidx:kx<σ.next/\n0<=kx:=by rw[hkx];omega
   have hmem:∀it∈pre++post,it∈pre++(ix,x,kx)::post:=λit h=>by
    rcases zf.1 h with h|h
    .exact zd _ h
    .exact zu _ (zc _ h)
   have hne:∀it∈pre++post,it.1≠ix:=λit h=>by
    rcases zf.1 h with h|h
    .exact (hcx it h).2.1
    .exact λe=>((zp.1 hxp).1 it h).2.1 e.symm
   have hrem:Rem P pf N ops B anc base (pre++post) (listed.setIfInBounds ix true):=by
    refine ⟨by simp[hr.size],λj hj=>?_,λit hit=>hr.its it (hmem it hit),?_,?_⟩
    .by_cases hji:j=ix
     .subst hji;have:j<listed.size:=by rw[hr.size];exact hj
      constructor
      .intro h;simp[this] at h
      .rintro ⟨it,h1,h2⟩;exact absurd h2 (hne it h1)
     .rw[getD_set_ne true (Ne.symm hji),hr.un j hj];constructor
      .rintro ⟨it,h1,h2⟩;refine ⟨it,?_,h2⟩;rcases zf.1 h1 with h1|h1
       .exact zd _ h1
       .rcases zk.1 h1 with rfl|h1
        .exact absurd h2.symm hji
        .exact zu _ h1
      .rintro ⟨it,h1,h2⟩;exact ⟨it,hmem it h1,h2⟩
    .exact hr.pw.sublist (List.Sublist.append (List.Sublist.refl _) (List.sublist_cons_self _ _))
    .intro j hj k hk;by_cases hji:j=ix
     .subst hji;have⟨e,he,hb,heq⟩:=hanc _ _ hk o ho;have hle:=hall e he hb;rcases heq with rfl|ha'
      .exact getD_set_true hle
      .exact getD_set_true (hr.dc _ hle _ ha')
     .rw[getD_set_ne false (Ne.symm hji)] at hj;exact getD_set_true (hr.dc _ hj _ hk)
   have hlen':(pre++post).length=fuel:=by simp at hlen ⊢;omega
   have hne2:∀it∈pre++post,it.2.2≠kx:=λit h=>by
    have⟨_,_,_,h1,_⟩:=hr.its it (hmem it h);rw[h1,hkx];have:=hne it h;omega
   unfold wpOpIn;simp only[ho];have⟨act,hact,hh⟩:=hpull
   have run:opR P E x.op kx fr σ (λv σ'=>bi2 P E B (pre++post) (fr.ba3 x.dst v) σ' K)->o.wpIn (fw ro) 0 P a w (wpAnyIn (fw ro) 0 P .any ops Qw fuel (listed.setIfInBounds ix true)) Qw:=by
    intro hop;refine fi7 hk hop hs hf om (λhl=>⟨hno _ hit,hidx.1,hidx.2⟩) ?_;intro v σ' r ρ' w' hnx' hK hs' hv' hx' hno';refine ih (pre++post) _ _ σ' ρ' w' (a.put o.dst r) hlen' hrem hK hs' ?_ (by rw[put_defers];exact hd) (hx.trans (hx'.weak (zt _))) hn0 om ?_
    .rw[hdst];exact FR.ba3 (hf.mono hx') hdN hv'
    .intro jt hjt;have⟨jo,hjo,_,h1,_⟩:=hr.its jt (hmem jt hjt)
     have hjl:jt.1<ops.size:=by
      rcases zl jt.1 ops.size with h'|h'
      .exact h'
      .simp[zg h'] at hjo
     exact hno' _ (by rw[h1];omega) (λ_=>hne2 jt hjt) (hno _ (hmem jt hjt))
   rcases hg with ⟨hg1,hg2⟩|⟨j,want,s,hg1,hgs,hg2⟩
   .have hw:Region.wanted o (yielded ops a.tmps)=true:=by unfold Region.wanted;rw[hg1]
    rw[if_pos hw];simp only[ck4,hg2,za.injEq] at hact;subst hact;exact run hh.1
   .simp only[ck4,hg2] at hact;have hw:=ek8 hg1 hgs hf hact;rw[hw]
    cases act with
    | true=>exact run hh.1
    | false=>
     refine ⟨λf _=>trivial,?_⟩;exact ih (pre++post) _ _ σ ρ w (a.put o.dst undef) hlen' hrem hh hs (by rw[hdst];exact FR.ba3 hf hdN iz2) (by rw[put_defers];exact hd) hx hn0 hnx (λjt hjt=>hno _ (hmem jt hjt))
end Go.Id
namespace Go.Id
open Go
variable {P:Program} {w w' w'':World} {ρ ρ' ρ'':Rho} {E:Nat->IV} {σ σ':Store} {N n n':Nat} {fr:Frm} {a:Act} {pf:List Nat}
def fw4 (base:Nat):Nat->List af1->List Item
 | _,[]=>[]
 | i,o::os=>(i,o,base+i)::fw4 base (i+1) os
def bm3 (o:Oper):List Nat:=(o.after.toList.filter (Region.binds .any)).map (·.on)
def orF (ms:List Nat)(es:List Nat):Nat:=es.foldl (λs e=>s ||| (2^e ||| ms.getD e 0)) 0
def jw9 (ess:List (List Nat)):List Nat:=ess.foldl (λacc es=>acc++[orF acc es]) []
def gs5 (p x:af1):Bool :=
 (match x.dst with|none=>true|some d=>!p.uses.contains d&&p.dst != za d)&&(match p.dst with|none=>true|some d=>!x.uses.contains d)
def fi2 (B:Bool)(ms:List Nat)(i:Nat)(p:af1):Nat->List af1->Bool
 | _,[]=>true
 | j,x::xs=>((ms.getD j 0).testBit i||((db7 B p.op.kind x.op.kind||(ic1 p||ic1 x))&&gs5 p x))&&fi2 B ms i p (j+1) xs
def ea5 (B:Bool)(ms:List Nat):Nat->List af1->Bool
 | _,[]=>true
 | i,o::os=>fi2 B ms i o (i+1) os&&ea5 B ms (i+1) os
def kl4:Nat->List (List Nat)->Bool
 | _,[]=>true
 | j,es::r=>es.all (λe=>decide (e<j))&&kl4 (j+1) r
def kl5 (ms:List Nat):Nat->List (List Nat)->Bool
 | _,[]=>true
 | j,es::r=>ms.getD j 0==orF ms es&&kl5 ms (j+1) r
def kl6 (ess:List (List Nat))(ios:List af1)(B:Bool):Bool :=
 let ms:=jw9 ess
 kl4 0 ess&&kl5 ms 0 ess&&ea5 B ms 0 ios&&ios.all λo=>o.op.ops.all IX.quiet
def ek2 (ios:List af1):Bool:=ios.any λo=>o.op.kind==3
def jg3 {ms:List Nat}{k:Nat}:∀(es:List Nat) (s:Nat),(es.foldl (λs e=>s ||| (2^e ||| ms.getD e 0)) s).testBit k=true->s.testBit k=true\/∃e∈es,e=k\/(ms.getD e 0).testBit k=true:=by
 intro es
 induction es with
 | nil=>exact λs h=>.inl h
 | cons e es ih=>
  intro s h;rcases ih _ h with b|⟨d,c,b⟩
  .rw[Nat.testBit_or,Nat.testBit_or,Nat.testBit_two_pow] at b;simp only[zi,decide_eq_true_eq] at b;rcases b with b|b|b
   .exact .inl b
   .exact .inr ⟨e,zb ..,.inl b⟩
   .exact .inr ⟨e,zb ..,.inr b⟩
  .exact .inr ⟨d,zc _ c,b⟩
def ew6 {p x:af1}(h:gs5 p x=true):by3 p x:=by
 unfold gs5 at h;simp only[ze] at h;have⟨h1,h2⟩:=h;refine ⟨λd hd=>?_,λd hd=>?_⟩
 .rw[hd] at h1
  simpa using h1
 .rw[hd] at h2
  simpa using h2
def jg4 {base:Nat}:∀(b:List af1) (i:Nat),∀c∈fw4 base i b,i<=c.1:=by
 intro b
 induction b with
 | nil=>intro i c h;cases h
 | cons o os ih=>
  intro i c h;rcases zk.1 h with rfl|h
  .exact zt _
  .have:=ih _ c h;omega
def ig7 {base:Nat}:∀(b:List af1) (i:Nat),(fw4 base i b).length=b.length:=by
 intro b
 induction b with
 | nil=>intro i;rfl
 | cons o os ih=>intro i;simp[fw4,ih]
def ig8 {base:Nat}:∀(b:List af1) (i j:Nat),i<=j->j<i+b.length->∃c∈fw4 base i b,c.1=j:=by
 intro b
 induction b with
 | nil=>intro i j g d;simp at d;omega
 | cons o os ih=>
  intro i j g d;by_cases h:i=j
  .exact ⟨_,zb ..,h⟩
  .have⟨c,f,e⟩:=ih (i+1) j om (by simp at d;omega);exact ⟨c,zc _ f,e⟩
def gs6 {base:Nat}:∀(b:List af1) (i:Nat),∀c∈fw4 base i b,c.2.2=base+c.1/\c.2.1∈b:=by
 intro b
 induction b with
 | nil=>intro i c h;cases h
 | cons o os ih=>
  intro i c h;rcases zk.1 h with rfl|h
  .exact ⟨rfl,zb ..⟩
  .have⟨e,d⟩:=ih _ c h;exact ⟨e,zc _ d⟩
def ig9 {base:Nat}{ops:Array Oper}:∀(f:List Oper) (d:List af1) (i:Nat),ops.toList.drop i=f->by4 P pf N ops f=za d->∀g∈fw4 base i d,∃o,ops[g.1]? = za o/\ck5 P pf N ops o=za g.2.1:=by
 intro f
 induction f with
 | nil=>intro d i _ hc g b;cases hc;cases b
 | cons o f ih=>
  intro d i c hc g b;simp only[by4] at hc;split at hc
  .rename_i m h k j;cases hc
   have hi:ops[i]? = za o:=by
    have:=congrArg (λl=>l[0]?) c
    simpa [List.getElem?_drop] using this
   have e:ops.toList.drop (i+1)=f:=by
    have:=congrArg (List.drop 1) c
    simpa [List.drop_drop] using this
   rcases zk.1 b with rfl|b
   .exact ⟨o,hi,k⟩
   .exact ih h (i+1) e j g b
  .cases hc
def fw5 {ops:Array Oper}:∀(c:List Oper) (b:List af1),by4 P pf N ops c=za b->b.length=c.length:=by
 intro c
 induction c with
 | nil=>intro b h;cases h;rfl
 | cons o c ih=>
  intro b h;simp only[by4] at h;split at h
  .rename_i g e f d;cases h;simp[ih _ d]
  .cases h
def ew7 {B:Bool}{ms:List Nat}{i base:Nat}{p:af1}:∀(xs:List af1) (j:Nat),fi2 B ms i p j xs=true->∀c∈fw4 base j xs,(ms.getD c.1 0).testBit i=true\/gr9 B p c.2.1:=by
 intro xs
 induction xs with
 | nil=>intro j _ c h;cases h
 | cons x xs ih=>
  intro j h c b;simp only[fi2,ze,zi] at h;rcases zk.1 b with rfl|b
  .rcases h.1 with d|d
   .exact .inl d
   .exact .inr ⟨by simpa [zi] using d.1,ew6 d.2⟩
  .exact ih _ h.2 c b
def fw6 {B:Bool}{ms:List Nat}{base:Nat}:∀(xs:List af1) (i:Nat),ea5 B ms i xs=true->(fw4 base i xs).Pairwise λp x=>((ms.getD x.1 0).testBit p.1=true\/gr9 B p.2.1 x.2.1)/\p.1<x.1:=by
 intro xs
 induction xs with
 | nil=>intro i _;exact .nil
 | cons x xs ih=>
  intro i h;simp only[ea5,ze] at h;refine zp.2 ⟨λit hit=>⟨ew7 xs _ h.1 it hit,?_⟩,ih _ h.2⟩;have:=jg4 xs _ it hit;simp only;omega
def ek3:∀(b:List (List Nat)) (i:Nat),kl4 i b=true->∀j es,b[j]? = za es->∀e∈es,e<i+j:=by
 intro b
 induction b with
 | nil=>intro i _ j es h;simp at h
 | cons x b ih=>
  intro i h j es c e d;simp only[kl4,ze,zs,decide_eq_true_eq] at h
  cases j with
  | zero=>simp at c;subst c;exact h.1 e d
  | succ j=>have:=ih (i+1) h.2 j es (by simpa using c) e d;omega
def gs7 {ms:List Nat}:∀(b:List (List Nat)) (i:Nat),kl5 ms i b=true->∀j es,b[j]? = za es->ms.getD (i+j) 0=orF ms es:=by
 intro b
 induction b with
 | nil=>intro i _ j es h;simp at h
 | cons x b ih=>
  intro i h j es c;simp only[kl5,ze,beq_iff_eq] at h
  cases j with
  | zero=>simp at c;subst c;exact h.1
  | succ j=>
   have:=ih (i+1) h.2 j es (by simpa using c);rw[<- this];congr 1;omega
def gs8 {n0 id:Nat}{ops:Array Oper}{ios:List af1}{B:Bool}{Q:Exit->Frm->Store->Prop}{ks:List Nat}(hm:P.follows .mixedOrders=true)(hc:by4 P pf N ops ops.toList=za ios)
  (hok:kl6 (ops.toList.map bm3) ios B=true)
  (h:bi2 P E B (fw4 σ.next 0 ios) fr { σ with next:=σ.next+ios.length } (λfr' σ'=>Q .normal (fr'.keep ks) σ')):R P E N n0 (.region id ops true) fr σ Q:=by
 intro hn ro h0 ρ w a hs hf hd hr;refine wpIn_region_any hm ?_;have hlen:ios.length=ops.size:=by rw[fw5 _ _ hc];simp
 unfold kl6 at hok;simp only[ze,zs] at hok;obtain ⟨⟨⟨hed,hms⟩,hpr⟩,hq⟩:=hok;generalize jw9 (ops.toList.map bm3)=ms at hms hpr;have hes:∀(j:Nat) (o:Oper),ops[j]? = za o->(ops.toList.map bm3)[j]? = za (bm3 o):=λj o ho=>by simp[ho]
 have hme:∀(o:Oper) (k:Nat),k∈bm3 o->∃e∈o.after,Region.binds .any e=true/\e.on=k:=λo k hk=>by
  unfold bm3 at hk;obtain ⟨e,he,rfl⟩:=zq.1 hk;have⟨h1,h2⟩:=List.mem_filter.1 he;exact ⟨e,by simpa using h1,h2,rfl⟩
 have hem:∀(o:Oper) (e:Edge),e∈o.after->Region.binds .any e=true->e.on∈bm3 o:=λo e he hb=>
  zq.2 ⟨e,List.mem_filter.2 ⟨by simpa using he,hb⟩,rfl⟩
 refine gs4 (E:=E) (pf:=pf) (N:=N) (B:=B) (anc:=λk j=>(ms.getD j 0).testBit k=true) (n0:=n0) (base:=σ.next) (ρ0:=ρ) (w0:=w) (ds:=a.defers) (K:=λfr' σ'=>Q .normal (fr'.keep ks) σ') ?_ ?_ ?_ ?_
  ops.size (fw4 σ.next 0 ios) _ fr { σ with next:=σ.next+ios.length } ρ w.drew a (by rw[ig7,hlen]) ?_ h
  (fi6 (dz3 hs) (λi hi=>hs.fresh i om)) (hf.mono (bm2 0)) rfl ((bm2 n0).weak (zt _)) hn (by rw[hlen];exact zt _) ?_
 .intro f f' s hff hK
  have:f'.keep ks=f.keep ks:=by
   unfold Frm.keep;exact zn λk _=>by rw[hff k]
  rw[this];exact hK
 .intro fr' σ' ρ' w' a' hn' hK hs' hf' hd' hx;exact ⟨fr'.keep ks,σ',ρ',hn',hK,hs',hf'.keep ks,by rw[hd'];exact hd.mono hx,hr.mono hx,hx⟩
 .intro j o ho e he hb;have:=ek3 _ _ hed j _ (hes j o ho) _ (hem o e he hb)
  have hj:j<ops.size:=by
   rcases zl j ops.size with h'|h'
   .exact h'
   .simp[zg h'] at ho
  omega
 .intro k j hk o ho;have:=gs7 _ _ hms j _ (hes j o ho);simp only[Nat.zero_add] at this;rw[this] at hk;rcases jg3 _ _ hk with h1|⟨e,he,h1⟩
  .simp at h1
  .have⟨ed,hed1,hb,heq⟩:=hme o e he;exact ⟨ed,hed1,hb,by rw[heq];exact h1⟩
 .refine ⟨by simp,λj hj=>?_,λit hit=>?_,?_,?_⟩
  .constructor
   .intro _;exact ig8 ios 0 j (Nat.zero_le _) om
   .intro _;simp[hj]
  .have⟨o,h1,h2⟩:=ig9 ops.toList ios 0 rfl hc it hit;have⟨h3,h4⟩:=gs6 ios 0 it hit;exact ⟨o,h1,h2,h3,hq _ h4⟩
  .refine (fw6 ios 0 hpr).imp ?_;intro p x ⟨h1,h2⟩;refine ⟨h1,om,λo ho e he hb=>?_⟩;have:=ek3 _ _ hed p.1 _ (hes p.1 o ho) _ (hem o e he hb);omega
  .intro j hj;exfalso;by_cases hlt:j<ops.size
   .simp[hlt] at hj
   .simp[hlt] at hj
 .intro it hit;exact hs.fresh _ (by rw[(gs6 ios 0 it hit).1];omega)
end Go.Id
namespace Go.Id
open Go
variable {P:Program} {w w' w'':World} {ρ ρ' ρ'':Rho} {E:Nat->IV} {σ σ':Store} {N n n':Nat} {fr:Frm} {a:Act} {pf:List Nat}
def IK.cls:IK->Nat
 | .q u=>match u.kind with
  | 0=>0
  | _=>1
 | .bo9 _ _|.ay6 _ _|.eb1 _ _ _ _|.el4 _=>0
 | _=>2
def kn4 (E:Nat->IV)(fr:Frm):IQ->IQ
 | .load a x=>.load a (.c (x.ev E fr))
 | .lkp t z ok x k=>.lkp t z ok (.c (x.ev E fr)) (.c (k.ev E fr))
 | .len k x=>.len k (.c (x.ev E fr))
 | q=>q
abbrev LE:=Nat×IQ×IV
def ky6 (E:Nat->IV)(fr:Frm)(i:Nat)(op:IK)(v:IV)(L:List LE):List LE :=
 match op with
 | .q q=>if q.kind=0 then L else (i,kn4 E fr q,v)::L
 | _=>L
def ky7 (E:Nat->IV)(L:List LE)(m:Nat)(σ:Store):Prop:=∀e∈L,m.testBit e.1=true->evq E [] σ e.2.1=za e.2.2
abbrev gs9:=Nat×af1×Nat×Nat
def ky8 (P:Program)(E:Nat->IV)(o:af1)(id m:Nat)(L:List LE)(fr:Frm)(σ:Store)(K:IV->Store->Prop)(Ks:Prop):Prop :=
 (ck4 o fr=za true/\opR P E o.op id fr σ (λv σ'=>ky7 E L m σ'/\K v σ'))\/(ck4 o fr=za false/\Ks)
def fw7 (P:Program)(E:Nat->IV):List gs9->List LE->Frm->Store->(Frm->Store->Prop)->Prop
 | [],_,fr,σ,K=>K fr σ
 | (i,o,id,m)::rest,L,fr,σ,K=>ky8 P E o id m L fr σ (λv σ'=>fw7 P E rest (ky6 E fr i o.op v L) (fr.ba3 o.dst v) σ' K) (fw7 P E rest L (fr.ba3 o.dst skV) σ K)
def fw8 {K g:Frm->Store->Prop}:∀(b:List gs9) (L:List LE) (fr:Frm) (σ:Store),(∀f s,K f s->g f s)->fw7 P E b L fr σ K->fw7 P E b L fr σ g:=by
 intro b
 induction b with
 | nil=>exact λ_ _ _ d h=>d _ _ h
 | cons it b ih=>
  have⟨i,o,id,m⟩:=it;rintro L fr σ d (⟨e,h⟩|⟨e,h⟩)
  .exact .inl ⟨e,bb9 (λv s ⟨c,k⟩=>⟨c,ih _ _ _ d k⟩) h⟩
  .exact .inr ⟨e,ih _ _ _ d h⟩
def kn5 (p x:gs9):Prop :=
 by3 p.2.1 x.2.1/\(p.2.1.op.cls<=1/\p.2.2.2=0/\(p.2.1.op.cls=0\/x.2.1.op.cls<=1\/x.2.2.2.testBit p.1=true\/db7 false p.2.1.op.kind x.2.1.op.kind=true) \/
  ¬p.2.1.op.cls<=1/\db7 false p.2.1.op.kind x.2.1.op.kind=true/\x.2.2.2=0/\(p.2.2.2=0\/x.2.1.op.cls<=1/\p.2.2.2.testBit x.1=false))
end Go.Id
namespace Go.Id
open Go
variable {P:Program} {w w' w'':World} {ρ ρ' ρ'':Rho} {E:Nat->IV} {σ σ':Store} {N n n':Nat} {fr:Frm} {a:Act} {pf:List Nat}
structure le7 (P:Program) (pf:List Nat) (N:Nat) (ops:Array Oper) (anc:Nat->Nat->Prop) (base:Nat) (rem:List gs9) (listed:Array Bool):Prop where
 size:listed.size=ops.size
 un:∀j,j<ops.size->(listed.getD j true=false↔∃it∈rem,it.1=j)
 its:∀it∈rem,∃o,ops[it.1]? = za o/\ck5 P pf N ops o=za it.2.1/\it.2.2.1=base+it.1/\∀y∈it.2.1.op.ops,IX.quiet y=true
 pw:rem.Pairwise λp x=>(anc p.1 x.1\/kn5 p x)/\p.1≠x.1/\∀o,ops[p.1]? = za o->∀e∈o.after,Region.binds .any e=true->e.on≠x.1
 dc:∀j,listed.getD j false=true->∀k,anc k j->listed.getD k false=true
abbrev YO:=Nat×af1×Nat
def kw5 (base:Nat)(l:List YO):List gs9:=l.map λy=>(y.1,y.2.1,base+y.1,y.2.2)
end Go.Id
namespace Go.Id
open Go
variable {P:Program} {w w' w'':World} {ρ ρ' ρ'':Rho} {E:Nat->IV} {σ σ':Store} {N n n':Nat} {fr:Frm} {a:Act} {pf:List Nat}
inductive IC where
 | skip
 | reg (id:Nat) (ops:List af1) (keep:List Nat)
 | ib9 (id:Nat) (ops:List af1) (B:Bool) (keep:List Nat)
 | iy5 (id:Nat) (ops:List YO) (keep:List Nat)
 | seq (a b:IC)
 | cond (x:IX) (a b:IC)
 | block (id:Nat) (a:IC)
 | loop (a:IC)
 | exit (id:Nat)
 | ret
 | bz6 (g:IX) (ps:List Nat) (asg a:IC)
 | scope (a:IC)
 deriving Inhabited
abbrev Ann:=List (Nat×List Nat)
abbrev jf6:IC:=.reg 0 [⟨zh,zh,.st .nev []⟩] []
def bh9 (P:Program)(pf:List Nat)(N:Nat)(an:Ann):Code->Option IC
 | .skip=>za .skip
 | .label _=>za .skip
 | .region id ops draw=>match draw,by4 P pf N ops ops.toList with
  | false,za ios=>za (.reg id ios ((an.lookup id).getD []))
  | true,za ios=>if P.follows .mixedOrders=true/\kl6 (ops.toList.map bm3) ios (ek2 ios)=true/\(pf.contains 2000000&&ek2 ios)=false then za (.ib9 id ios (ek2 ios) ((an.lookup id).getD [])) else za jf6
  | _,_=>za jf6
 | .seq a b=>match bh9 P pf N an a,bh9 P pf N an b with
  | some x,za y=>za (.seq x y)
  | _,_=>zh
 | .cond c a b=>match ak1 c,bh9 P pf N an a,bh9 P pf N an b with
  | some i,za x,za y=>za (.cond i x y)
  | _,_,_=>za jf6
 | .block id a=>(bh9 P pf N an a).map (.block id)
 | .loop a=>(bh9 P pf N an a).map .loop
 | .exit id=>za (.exit id)
 | .ret=>za .ret
 | .rangeFunc g ps assign body=>match bh9 P pf N an assign,ak1 g,bh9 P pf N an body with
  | some y,za i,za x=>if ps.toList.all (λp=>decide (p<N)) then za (.bz6 i ps.toList y x) else za jf6
  | _,_,_=>za jf6
 | .scope a=>(bh9 P pf N an a).map .scope
 | _=>za jf6
def RI (P:Program)(E:Nat->IV)(N n0:Nat)(ic:IC)(fr:Frm)(σ:Store)(Q:Exit->Frm->Store->Prop):Prop :=
 ∀(pf:List Nat) (an:Ann) (c:Code),bh9 P pf N an c=za ic->R P E N n0 c fr σ Q
def wpI (P:Program)(E:Nat->IV)(N n0:Nat):IC->Frm->Store->(Exit->Frm->Store->Prop)->Prop
 | .skip,fr,σ,Q=>Q .normal fr σ
 | .reg _ ops keep,fr,σ,Q=>cd6 P E ops σ.next fr { σ with next:=σ.next+cd7 ops } (λfr' σ'=>Q .normal (fr'.keep keep) σ')
 | .ib9 _ ops B keep,fr,σ,Q=>bi2 P E B (fw4 σ.next 0 ops) fr { σ with next:=σ.next+ops.length } (λfr' σ'=>Q .normal (fr'.keep keep) σ')
 | .iy5 _ ops keep,fr,σ,Q=>fw7 P E (kw5 σ.next ops) [] fr { σ with next:=σ.next+ops.length } (λfr' σ'=>Q .normal (fr'.keep keep) σ')
 | .seq a b,fr,σ,Q=>wpI P E N n0 a fr σ (λe fr' σ'=>match e with|.normal=>wpI P E N n0 b fr' σ' Q|e=>Q e fr' σ')
 | .cond x a b,fr,σ,Q=>∃t,x.ev E fr=.bool t/\if t then wpI P E N n0 a fr σ Q else wpI P E N n0 b fr σ Q
 | .block id a,fr,σ,Q=>wpI P E N n0 a fr σ (by2 id Q)
 | .loop a,fr,σ,Q=>RI P E N n0 (.loop a) fr σ Q
 | .exit id,fr,σ,Q=>Q (.exit id) fr σ
 | .ret,fr,σ,Q=>Q .ret fr σ
 | .bz6 g ps y a,fr,σ,Q=>RI P E N n0 (.bz6 g ps y a) fr σ Q
 | .scope a,fr,σ,Q=>wpI P E N n0 a fr σ (gr2 Q)
def jf7 {n0:Nat}{c:Code}{ks:List Nat}{Q:Exit->Frm->Store->Prop}(h:R P E N n0 c fr σ (λe fr' σ'=>Q e (fr'.keep ks) σ')):R P E N n0 c fr σ Q :=
 λhn ro h0 ρ w a hs hf hd hr=>wpIn_mono (h hn ro h0 ρ w a hs hf hd hr) λ_ _ _ ⟨fr',σ',ρ',hn',q,hs',hf',rest⟩=>⟨fr'.keep ks,σ',ρ',hn',q,hs',hf'.keep ks,rest⟩
def bi9 {n0:Nat}{Q:Exit->Frm->Store->Prop}(h:wpI P E N n0 jf6 fr σ Q):False:=by
 have⟨c,b,h⟩:=h;cases b;have⟨r,hr,_⟩:=h;cases hr
def if9 {n0:Nat}{an:Ann}:∀(c:Code) (d:IC) (fr:Frm) (σ:Store) (Q:Exit->Frm->Store->Prop),bh9 P pf N an c=za d->wpI P E N n0 d fr σ Q->R P E N n0 c fr σ Q:=by
 intro c
 induction c with
 | skip=>intro d fr σ Q hc h;cases hc;exact jw3 h
 | label l=>intro d fr σ Q hc h;cases hc;exact jf4 h
 | region id ops draw=>
  intro d fr σ Q hc h;simp only[bh9] at hc;split at hc
  .rename_i j f;cases hc;exact jf7 (ii7 (Q:=λe fr' σ'=>Q e (fr'.keep _) σ') f h)
  .rename_i j f;by_cases k:P.follows .mixedOrders=true/\kl6 (ops.toList.map bm3) j (ek2 j)=true/\(pf.contains 2000000&&ek2 j)=false
   .rw[if_pos k] at hc;cases hc;exact gs8 k.1 f k.2.1 h
   .rw[if_neg k] at hc;cases hc;exact (bi9 h).elim
  .cases hc;exact (bi9 h).elim
 | seq a b iha ihb=>
  intro d fr σ Q hc h;simp only[bh9] at hc;split at hc
  .rename_i x y r m;cases hc;refine jw2 ((iha _ fr σ _ r h).mono ?_);intro e fr' σ' q
   cases e with
   | normal=>exact ihb _ fr' σ' Q m q
   | _=>exact q
  .cases hc
 | cond c a b iha ihb=>
  intro d fr σ Q hc h;simp only[bh9] at hc;split at hc
  .rename_i i x y hi r m;cases hc;have⟨t,s,h⟩:=h;refine jw5 hi s ?_
   cases t with
   | true=>exact iha _ fr σ Q r h
   | false=>exact ihb _ fr σ Q m h
  .cases hc;exact (bi9 h).elim
 | block id a ih=>
  intro d fr σ Q hc h;have⟨y,m,p⟩:=map_some hc;cases p
  exact gr1 (ih _ fr σ _ m h)
 | loop a ih=>
  intro d fr σ Q hc h;have o:=hc;have⟨y,m,p⟩:=map_some hc;cases p
  exact h pf an _ o
 | scope a ih=>
  intro d fr σ Q hc h;have⟨y,m,p⟩:=map_some hc;cases p
  exact jf5 (ih _ fr σ _ m h)
 | exit id=>intro d fr σ Q hc h;cases hc;exact jw4 h
 | ret=>intro d fr σ Q hc h;cases hc;exact kn1 h
 | rangeFunc g ps assign body _ _=>
  intro d fr σ Q hc h;have o:=hc;simp only[bh9] at hc;split at hc
  .split at hc
   .cases hc;exact h pf an _ o
   .cases hc;exact (bi9 h).elim
  .cases hc;exact (bi9 h).elim
 | _=>intro d fr σ Q hc h;cases hc;exact (bi9 h).elim
def bp7 {n0:Nat}(b:IC)(fr:Frm)(σ:Store)(Q:Exit->Frm->Store->Prop)(h:wpI P E N n0 b fr σ Q):RI P E N n0 b fr σ Q :=
 λpf an c hc=>if9 (pf:=pf) (an:=an) c b fr σ Q hc h
def gr3 {n0:Nat}{x:IC}{Q:Exit->Frm->Store->Prop}(I:Nat->Frm->Store->Prop)(m:Nat)(h:I m fr σ)(f:∀m fr σ,I m fr σ->wpI P E N n0 x fr σ (ew3 I m Q)):RI P E N n0 (.loop x) fr σ Q:=by
 intro pf an c hc
 cases c with
 | loop c=>
  have⟨y,d,e⟩:=map_some hc;cases e
  exact iy4 I m h (λm fr σ hi=>bp7 _ _ _ _ (f m fr σ hi) pf an _ d)
 | region id ops draw=>
  exfalso;simp only[bh9] at hc;split at hc
  .cases hc
  .split at hc<;>first|(cases hc;done)|(split at hc<;>cases hc)
  .cases hc
 | seq a b=>simp only[bh9] at hc;split at hc<;>cases hc
 | cond c a b=>simp only[bh9] at hc;split at hc<;>cases hc
 | block id a=>have⟨_,_,h⟩:=map_some hc;cases h
 | scope a=>have⟨_,_,h⟩:=map_some hc;cases h
 | rangeFunc g ps assign body=>
  exfalso;simp only[bh9] at hc;split at hc
  .split at hc<;>cases hc
  .cases hc
 | _=>cases hc
inductive JX where
 | ret
 | exit (i:Nat)
 deriving Inhabited
def JX.code:JX->Code
 | .ret=>.ret
 | .exit i=>.exit i
def jf8 (Q:Exit->Frm->Store->Prop)(fr:Frm)(σ:Store):Option JX->Prop
 | none=>Q .normal fr σ
 | some .ret=>Q .ret fr σ
 | some (.exit i)=>Q (.exit i) fr σ
def db6 (id:Nat)(L:LoopState->Option JX->aj8)(K:IV->Store->Prop):Exit->Frm->Store->Prop
 | .normal,_,σ=>σ.obj id=za (L .busy zh)/\K (.bool true) (σ.put id (L .ready zh))
 | .ret,_,σ=>σ.obj id=za (L .busy zh)/\K (.bool false) (σ.put id (L .done (za .ret)))
 | .exit i,_,σ=>σ.obj id=za (L .busy zh)/\K (.bool false) (σ.put id (L .done (za (.exit i))))
 | _,_,_=>False
def ig1 {n0:Nat}{g:IX}{ps:List Nat}{y x:IC}{Q:Exit->Frm->Store->Prop}
  (h:∀L:LoopState->Option JX->aj8,
   (∀(σ':Store) (args:List IV) (K:IV->Store->Prop),args.length=ps.length->σ'.obj σ.next=za (L .ready zh) ->
    RI P E N σ'.next y (dj7 fr ps args) σ' (λe f s=>e=.normal/\s.obj σ.next=za (L .ready zh)/\RI P E N σ'.next x f (s.put σ.next (L .busy zh)) (db6 σ.next L K))->CYd P E σ.next args σ' K) ->
   CVf P E (g.ev E fr) [.yield σ.next] ⟨σ.next+1,(σ.put σ.next (L .ready zh)).obj⟩ λ_ k=>
    σ.next<=k.next/\∃st d,st≠.busy/\k.obj σ.next=za (L st d)/\jf8 Q fr (k.kill σ.next) d) :
  RI P E N n0 (.bz6 g ps y x) fr σ Q:=by
 intro pf an c hc
 cases c with
 | rangeFunc go psA assign body=>
  simp only[bh9] at hc;split at hc
  .rename_i M i J m hi A;split at hc
   .rename_i o;cases hc;have t:∀p∈psA.toList,p<N:=λp hp=>by simpa using zs.1 o p hp
    have I:=h (λs p=>.loop N fr psA.toList.toArray assign body s (p.map JX.code)) (λσ' args K F B H=>by
     refine ka2 t F B ((H pf an assign m).mono λe f s q=>⟨q.1,q.2.1,(q.2.2 pf an body A).mono λe f s q=>?_⟩)
     cases e with
     | normal=>exact q
     | ret=>exact q
     | exit i=>exact q
     | _=>exact q.elim)
    exact ex2 (n0:=n0) (Q:=Q) (ps:=psA.toList) (asg:=assign) (body:=body) (E:=E) (fr:=fr) (σ:=σ) (N:=N) hi (I.mono (by
     rintro v s ⟨D,st,d,r,u,z⟩;refine ⟨D,st,d.map JX.code,r,u,?_⟩
     cases d with
     | none=>exact z
     | some j=>cases j<;>exact z))
   .cases hc
  .cases hc
 | region id ops draw=>
  exfalso;simp only[bh9] at hc;split at hc
  .cases hc
  .split at hc<;>first|(cases hc;done)|(split at hc<;>cases hc)
  .cases hc
 | seq a b=>simp only[bh9] at hc;split at hc<;>cases hc
 | cond c a b=>simp only[bh9] at hc;split at hc<;>cases hc
 | block id a=>have⟨_,_,h⟩:=map_some hc;cases h
 | scope a=>have⟨_,_,h⟩:=map_some hc;cases h
 | loop a=>have⟨_,_,h⟩:=map_some hc;cases h
 | _=>cases hc
def ak9 {n0:Nat}{x:IC}{Q Q':Exit->Frm->Store->Prop}(h:RI P E N n0 x fr σ Q)(b:∀e fr σ,Q e fr σ->Q' e fr σ):RI P E N n0 x fr σ Q' :=
 λpf an c hc=>(h pf an c hc).mono b
end Go.Id
