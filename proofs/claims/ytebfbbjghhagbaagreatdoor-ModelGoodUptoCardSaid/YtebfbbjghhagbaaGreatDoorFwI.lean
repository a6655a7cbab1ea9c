/- Regions whose order is open: which operations may be taken ahead of which. Conditions: none; over any program. -/
import Derived.Test.YtebfbbjghhagbaaGreatDoorFwR
import Derived.OrdersIn
set_option linter.all false
namespace Go.Id
open Go
variable {P:Program} {w w' w'':World} {ρ ρ' ρ'':Rho} {E:Nat->IV} {σ σ':Store} {N n n':Nat} {fr:Frm} {a:Act} {pf:List Nat}
def IQ.kind:IQ->Nat
 | .load _ _=>1
 | .len 0 _=>0
 | .len 1 _=>0
 | .len _ _=>6
 | .lkp _ _ _ _ _=>5
 | _=>0
def SK.kind:SK->Nat
 | .nev=>0
 | _=>6
def IK.kind:IK->Nat
 | .q u=>u.kind
 | .alloc _|.box _|.bsl _ _ _ _|.dc6 _ _ _=>2
 | .app _ _ _=>3
 | .af5 _ _|.av4 _ _ _ _|.ag6 _=>0
 | .store _ _ _=>4
 | .st k _=>k.kind
 | _=>6
def IX.uses:IX->List Nat
 | .t n=>[n]
 | _=>[]
def IQ.ops:IQ->List IX
 | .mov x|.not x|.neg x|.ar9 _ _ x|.conv _ x|.gp6 x|.len _ x|.aa6 _ x|.fld _ _ x|.slz x|.ext _ x|.load _ x|.ldt _ x|.ak6 x=>[x]
 | .pick c a b=>[c,a,b]
 | .bin _ x y|.eqs _ _ _ x y|.ac4 _ x y|.cz9 _ _ x y|.idx _ _ _ x y|.eq2 x y|.mm _ x y|.lkp _ _ _ x y|.ibs x y=>[x,y]
 | .slc _ x lo hi|.hk6 x lo hi=>x::(lo.toList++hi.toList)
 | .clp _ x lo hi mx=>[x,lo,hi,mx]
 | .mkf _ f c=>f++c
 | .bld _ ps=>ps.map (·.2.2)
def IK.ops:IK->List IX
 | .q u=>u.ops
 | .alloc _=>[]
 | .box x=>[x]
 | .bsl _ _ _ ps=>ps.map (·.2.2)
 | .store _ x y=>[x,y]
 | .app _ s x=>[s,x]
 | .bm9=>[]
 | .bk1 x|.ct4 x=>[x]
 | .dc5 _ x k v=>[x,k,v]
 | .call _ xs|.af5 _ xs=>xs
 | .ao5 x xs=>x::xs
 | .av4 _ _ _ ps=>ps.map (·.2.2)
 | .ag6 x|.bd3 x|.cd4 x|.fd8 x|.dc6 _ _ x|.clr _ _ x=>[x]
 | .st _ xs=>xs
def ae7.uses (o:ae7):List Nat:=(o.op.ops.flatMap IX.uses)++(match o.guard with|some (s,_)=>[s]|none=>[])
def FEq (fr fr':Frm):Prop:=∀ t,fr.get t=fr'.get t
theorem FEq.refl (fr:Frm):FEq fr fr:=fun _=>rfl
theorem ah7 {fr fr':Frm}{x:IX}(h:∀ t∈x.uses,fr.get t=fr'.get t):x.ev E fr=x.ev E fr':=by
 cases x with
 | t n=>exact h n (by simp[IX.uses])
 | _=>rfl
theorem ay6 {fr fr':Frm}{xs:List IX}(h:∀ t∈xs.flatMap IX.uses,fr.get t=fr'.get t):xs.map (·.ev E fr)=xs.map (·.ev E fr'):=
 List.map_congr_left fun x hx=>ah7 fun t ht=>h t (List.mem_flatMap.2 ⟨x,hx,ht⟩)
theorem bx3 {fr fr':Frm}{x:Option IX}(h:∀ t∈x.toList.flatMap IX.uses,fr.get t=fr'.get t):x.map (·.ev E fr)=x.map (·.ev E fr'):=by
 cases x with
 | none=>rfl
 | some x=>simp only[Option.map_some]; rw[ah7 (fun t ht=>h t (by simpa using ht))]
theorem at7 {fr fr':Frm}{ps:List (Nat×Nat×IX)}(h:∀ t∈(ps.map (·.2.2)).flatMap IX.uses,fr.get t=fr'.get t) :
  (ps.map fun p=>(p.1,p.2.1,p.2.2.ev E fr))=ps.map fun p=>(p.1,p.2.1,p.2.2.ev E fr'):=
 List.map_congr_left fun p hp=>by
  have:p.2.2.ev E fr=p.2.2.ev E fr':=ah7 fun t ht=>h t (List.mem_flatMap.2 ⟨p.2.2,List.mem_map.2 ⟨p,hp,rfl⟩,ht⟩)
  rw[this]
theorem fw6 {fr fr':Frm}{q:IQ}(h:∀ t∈q.ops.flatMap IX.uses,fr.get t=fr'.get t):evq E fr σ q=evq E fr' σ q:=by
 cases q with
 | mkf f fs cs=>
  simp only[IQ.ops,List.flatMap_append,List.mem_append] at h;simp only[evq]
  rw[ay6 (fun t ht=>h t (.inl ht)),ay6 (fun t ht=>h t (.inr ht))]
 | bld z ps=>simp only[evq]; rw[at7 h]
 | slc e x lo hi=>
  simp only[IQ.ops,List.flatMap_cons,List.flatMap_append,List.mem_append] at h;simp only[evq]
  rw[ah7 (x:=x) (fun t ht=>h t (.inl ht)),bx3 (x:=lo) (fun t ht=>h t (.inr (.inl ht))),bx3 (x:=hi) (fun t ht=>h t (.inr (.inr ht)))]
 | hk6 x lo hi=>
  simp only[IQ.ops,List.flatMap_cons,List.flatMap_append,List.mem_append] at h;simp only[evq]
  rw[ah7 (x:=x) (fun t ht=>h t (.inl ht)),bx3 (x:=lo) (fun t ht=>h t (.inr (.inl ht))),bx3 (x:=hi) (fun t ht=>h t (.inr (.inr ht)))]
 | clp e x lo hi mx=>
  simp only[evq]
  rw[ah7 (x:=x) (fun t ht=>h t (by simp[IQ.ops,ht])),ah7 (x:=lo) (fun t ht=>h t (by simp[IQ.ops,ht])),ah7 (x:=hi) (fun t ht=>h t (by simp[IQ.ops,ht])),ah7 (x:=mx) (fun t ht=>h t (by simp[IQ.ops,ht]))]
 | pick c x y=>
  simp only[evq]
  rw[ah7 (x:=c) (fun t ht=>h t (by simp[IQ.ops,ht])),ah7 (x:=x) (fun t ht=>h t (by simp[IQ.ops,ht])),ah7 (x:=y) (fun t ht=>h t (by simp[IQ.ops,ht]))]
 | bin op x y=>simp only[evq]; rw[ah7 (x:=x) (fun t ht=>h t (by simp[IQ.ops,ht])),ah7 (x:=y) (fun t ht=>h t (by simp[IQ.ops,ht]))]
 | eqs a b c x y=>simp only[evq]; rw[ah7 (x:=x) (fun t ht=>h t (by simp[IQ.ops,ht])),ah7 (x:=y) (fun t ht=>h t (by simp[IQ.ops,ht]))]
 | ac4 a x y=>simp only[evq]; rw[ah7 (x:=x) (fun t ht=>h t (by simp[IQ.ops,ht])),ah7 (x:=y) (fun t ht=>h t (by simp[IQ.ops,ht]))]
 | cz9 a b x y=>simp only[evq]; rw[ah7 (x:=x) (fun t ht=>h t (by simp[IQ.ops,ht])),ah7 (x:=y) (fun t ht=>h t (by simp[IQ.ops,ht]))]
 | idx a b c x y=>simp only[evq]; rw[ah7 (x:=x) (fun t ht=>h t (by simp[IQ.ops,ht])),ah7 (x:=y) (fun t ht=>h t (by simp[IQ.ops,ht]))]
 | lkp a b c x y=>simp only[evq]; rw[ah7 (x:=x) (fun t ht=>h t (by simp[IQ.ops,ht])),ah7 (x:=y) (fun t ht=>h t (by simp[IQ.ops,ht]))]
 | mm a x y=>simp only[evq]; rw[ah7 (x:=x) (fun t ht=>h t (by simp[IQ.ops,ht])),ah7 (x:=y) (fun t ht=>h t (by simp[IQ.ops,ht]))]
 | ibs x y=>simp only[evq]; rw[ah7 (x:=x) (fun t ht=>h t (by simp[IQ.ops,ht])),ah7 (x:=y) (fun t ht=>h t (by simp[IQ.ops,ht]))]
 | eq2 x y=>simp only[evq]; rw[ah7 (x:=x) (fun t ht=>h t (by simp[IQ.ops,ht])),ah7 (x:=y) (fun t ht=>h t (by simp[IQ.ops,ht]))]
 | _=>simp only[evq]; rw[ah7 (fun t ht=>h t (by simp[IQ.ops,ht]))]
theorem gq6 {q:IQ}(h:q.kind=0):evq E fr σ q=evq E fr σ' q:=by
 cases q with
 | load a x=>simp[IQ.kind] at h
 | lkp a b c x y=>simp[IQ.kind] at h
 | len k x=>
  simp only[evq]
  match k,h with
  | 0,_=>unfold cl8; split<;>first|rfl|simp_all [gn2]
  | 1,_=>unfold cl8; split<;>first|rfl|simp_all [gn2]
  | k+2,h=>simp[IQ.kind] at h
 | _=>rfl
def bp1 (P:Program)(E:Nat->IV)(op:IK)(id:Nat)(fr:Frm)(σ:Store)(v:IV)(σ':Store):Prop :=
 match op with
 | .q q=>evq E fr σ q=some v/\σ'=σ
 | .alloc z=>v=.ptr id 0/\σ'=σ.put id (.cells z)
 | .box x=>(x.ev E fr).cs.all IV.leaf=true/\v=.ptr id 0/\σ'=σ.put id (.cells (x.ev E fr).cs)
 | .bsl esz n z parts=>∃ out,ax1 (rep z n) (parts.map fun p=>(p.1,p.2.1,p.2.2.ev E fr))=some out/\v=.slice id 0 n esz/\σ'=σ.put id (.row out)
 | .app esz s x=>bf6 σ id esz (s.ev E fr) (x.ev E fr)=some (v,σ')
 | .store sz x y=>aq2 σ sz (x.ev E fr) (y.ev E fr)=some σ'/\v=.undef
 | .af5 f args=>PC P E f (args.map (·.ev E fr)) v/\σ'=σ
 | .av4 esz n z parts=>∃ out,ax1 (rep z n) (parts.map fun p=>(p.1,p.2.1,p.2.2.ev E fr))=some out/\v=.aa5 (chunk esz n out)/\σ'=σ
 | .ag6 x=>(x.ev E fr).cs.all IV.leaf=true/\v=.ab8 (x.ev E fr).cs/\σ'=σ
 | .dc6 esz z x=>∃ n,do2 (x.ev E fr)=some n/\v=.slice id 0 n esz/\σ'=σ.put id (.row (rep z n))
 | _=>False
theorem bb5 {op:IK}{id:Nat}{K:IV->Store->Prop}(hk:op.kind<=5):opR P E op id fr σ K↔∃ v σ',bp1 P E op id fr σ v σ'/\K v σ':=by
 cases op with
 | q q=>exact ⟨fun ⟨v,h,k⟩=>⟨v,σ,⟨h,rfl⟩,k⟩,fun ⟨v,_,⟨h,e⟩,k⟩=>by subst e; exact ⟨v,h,k⟩⟩
 | alloc z=>exact ⟨fun k=>⟨_,_,⟨rfl,rfl⟩,k⟩,fun ⟨_,_,⟨e1,e2⟩,k⟩=>by subst e1; subst e2; exact k⟩
 | box x=>exact ⟨fun ⟨h,k⟩=>⟨_,_,⟨h,rfl,rfl⟩,k⟩,fun ⟨_,_,⟨h,e1,e2⟩,k⟩=>by subst e1; subst e2; exact ⟨h,k⟩⟩
 | bsl e n z ps=>exact ⟨fun ⟨out,h,k⟩=>⟨_,_,⟨out,h,rfl,rfl⟩,k⟩,fun ⟨_,_,⟨out,h,e1,e2⟩,k⟩=>by subst e1; subst e2; exact ⟨out,h,k⟩⟩
 | app e s x=>exact ⟨fun ⟨r,h,k⟩=>⟨r.1,r.2,h,k⟩,fun ⟨v,σ',h,k⟩=>⟨(v,σ'),h,k⟩⟩
 | store e x y=>exact ⟨fun ⟨s,h,k⟩=>⟨_,s,⟨h,rfl⟩,k⟩,fun ⟨v,s,⟨h,e⟩,k⟩=>by subst e; exact ⟨s,h,k⟩⟩
 | af5 f xs=>exact ⟨fun ⟨v,h,k⟩=>⟨v,σ,⟨h,rfl⟩,k⟩,fun ⟨v,_,⟨h,e⟩,k⟩=>by subst e; exact ⟨v,h,k⟩⟩
 | av4 e n z ps=>exact ⟨fun ⟨out,h,k⟩=>⟨_,_,⟨out,h,rfl,rfl⟩,k⟩,fun ⟨_,_,⟨out,h,e1,e2⟩,k⟩=>by subst e1; subst e2; exact ⟨out,h,k⟩⟩
 | dc6 e z x=>exact ⟨fun ⟨n,h,k⟩=>⟨_,_,⟨n,h,rfl,rfl⟩,k⟩,fun ⟨_,_,⟨n,h,e1,e2⟩,k⟩=>by subst e1; subst e2; exact ⟨n,h,k⟩⟩
 | ag6 x=>exact ⟨fun ⟨h,k⟩=>⟨_,_,⟨h,rfl,rfl⟩,k⟩,fun ⟨_,_,⟨h,e1,e2⟩,k⟩=>by subst e1; subst e2; exact ⟨h,k⟩⟩
 | st k xs=>cases k with
  | nev=>exact ⟨fun ⟨r,h,_⟩=>by (cases h),fun ⟨_,_,h,_⟩=>h.elim⟩
  | _=>exact absurd hk (by simp[IK.kind,SK.kind])
 | _=>exact absurd hk (by simp[IK.kind])
theorem bm4 {op:IK}{id:Nat}{fr fr':Frm}{v:IV}(h:∀ t∈op.ops.flatMap IX.uses,fr.get t=fr'.get t):bp1 P E op id fr σ v σ'->bp1 P E op id fr' σ v σ':=by
 cases op with
 | q q=>simp only[bp1]; rw[fw6 h]; exact fun h=>h
 | alloc z=>exact fun h=>h
 | box x=>simp only[bp1]; rw[ah7 (x:=x) (fun t ht=>h t (by simp[IK.ops,ht]))]; exact fun h=>h
 | bsl e n z ps=>simp only[bp1]; rw[at7 h]; exact fun h=>h
 | app e s x=>simp only[bp1]; rw[ah7 (x:=s) (fun t ht=>h t (by simp[IK.ops,ht])),ah7 (x:=x) (fun t ht=>h t (by simp[IK.ops,ht]))]; exact fun h=>h
 | store e x y=>simp only[bp1]; rw[ah7 (x:=x) (fun t ht=>h t (by simp[IK.ops,ht])),ah7 (x:=y) (fun t ht=>h t (by simp[IK.ops,ht]))]; exact fun h=>h
 | af5 f xs=>simp only[bp1]; rw[ay6 (xs:=xs) h]; exact fun h=>h
 | av4 e n z ps=>simp only[bp1]; rw[at7 h]; exact fun h=>h
 | dc6 e z x=>simp only[bp1]; rw[ah7 (x:=x) (fun t ht=>h t (by simp[IK.ops,ht]))]; exact fun h=>h
 | ag6 x=>simp only[bp1]; rw[ah7 (x:=x) (fun t ht=>h t (by simp[IK.ops,ht]))]; exact fun h=>h
 | _=>exact fun h=>h
def bk8 (id:Nat):IV->Prop
 | .ptr i _|.slice i _ _ _|.map i|.ag7 i _ _ _|.ak3 i _ _ _ _=>i≠id
 | _=>True
theorem eq7 {id:Nat}{v:IV}{r:Value}(hv:VR ρ w v r)(h:ρ id=.no):bk8 id v:=by
 cases hv<;>simp only[bk8]<;>first|trivial|(intro e; subst e; simp_all)
theorem put_comm (i j:Nat)(x y:ak4)(h:i≠j):(σ.put i x).put j y=(σ.put j y).put i x:=by
 unfold Store.put;congr 1;funext k;simp only;split
 ·rename_i h1;split
  ·rename_i h2; exact absurd (h2.symm.trans h1) h
  ·rfl
 ·rfl
theorem ag3 {id i:Nat}{o:ak4}(h:i≠id):(σ.put id o).obj i=σ.obj i:=by simp[Store.put,h]
theorem fw7 {tag id:Nat}{ob:ak4}{zero x k:IV}{ok:Bool}(h:bk8 id x):cr3 (σ.put id ob) tag zero ok x k=cr3 σ tag zero ok x k:=by
 have:cc2 (σ.put id ob) x=cc2 σ x:=by
  cases x<;>try rfl
  simp only[cc2,ag3 h]
 unfold cr3;rw[this]
theorem fw8 {tag id:Nat}{zero x k v:IV}{ok:Bool}(hn:σ.obj id=none)(h:cr3 σ tag zero ok x k=some v):bk8 id x:=by
 cases x<;>simp only[bk8]<;>try trivial
 all_goals (intro e; subst e; simp[cr3,cc2,hn] at h)
theorem eq8 {agg:Option Nat}{id:Nat}{ob:ak4}{ad:IV}(h:bk8 id ad):ay3 (σ.put id ob) agg ad=ay3 σ agg ad:=by
 have:aq1 (σ.put id ob) ad=aq1 σ ad:=by
  cases ad<;>simp only[aq1];rename_i i off;rw[ag3 h]
 unfold ay3;rw[this]
theorem fc3 {agg:Option Nat}{id:Nat}{ad v:IV}(hn:σ.obj id=none)(h:ay3 σ agg ad=some v):bk8 id ad:=by
 cases ad with
 | ptr i off=>
  intro e;subst e
  simp[ay3,aq1,hn] at h
 | slice i o l e=>simp[ay3,aq1] at h
 | _=>trivial
theorem hy7 {id2 esz:Nat}{ob:ak4}{x:IV}(hx:bk8 id2 x):cc5 (σ.put id2 ob) esz x=cc5 σ esz x:=by
 cases x<;>simp only[cc5]
 all_goals (rename_i i o l e; rw[ag3 hx])
theorem gq7 {id2 did:Nat}{ob:ak4}(h:did≠id2):(σ.put id2 ob).kill did=(σ.kill did).put id2 ob:=by
 unfold Store.put Store.kill;congr 1;funext k;simp only;split
 ·rename_i h1;split
  ·rename_i h2; exact absurd (h1.symm.trans h2) h
  ·rfl
 ·rfl
theorem dc3 {id id2 esz:Nat}{ob:ak4}{s x:IV}(hs:bk8 id2 s)(hx:bk8 id2 x)(hne:id2≠id) :
  bf6 (σ.put id2 ob) id esz s x=(bf6 σ id esz s x).map fun r=>(r.1,r.2.put id2 ob):=by
 unfold bf6;rw[hy7 hx]
 cases cc5 σ esz x with
 | none=>rfl
 | some p=>
  obtain ⟨n,xs⟩:=p;simp only;split
  ·rfl
  ·cases s with
   | aa1=>
    simp only;split
    ·rfl
    ·split
     ·simp[put_comm id2 id _ _ hne]
     ·rfl
   | ac8=>
    simp only;split
    ·rfl
    ·split
     ·simp[put_comm id2 id _ _ hne]
     ·rfl
   | aa5 es=>simp only; split<;>rfl
   | slice did off len e=>
    simp only;have hd:did≠id2:=hs;rw[ag3 hd]
    cases σ.obj did with
    | none=>rfl
    | some o=>
     cases o with
     | row cs=>
      simp only;split
      ·rfl
      ·split
       ·simp[gq7 hd,put_comm id2 id _ _ hne]
       ·rfl
     | _=>rfl
   | ag7 did off len e=>
    simp only;have hd:did≠id2:=hs;rw[ag3 hd]
    cases σ.obj did with
    | none=>rfl
    | some o=>
     cases o with
     | row cs=>
      simp only;split
      ·rfl
      ·split
       ·simp[put_comm id2 id _ _ hne]
       ·rfl
     | _=>rfl
   | _=>rfl
theorem fw9 {id id2 esz:Nat}{s x v:IV}(hn:σ.obj id2=none)(h:bf6 σ id esz s x=some (v,σ')):bk8 id2 s/\bk8 id2 x:=by
 unfold bf6 at h;split at h
 ·cases h
 ·rename_i n xs hsrc;constructor
  ·split at h
   ·cases h
   ·split at h<;>first|trivial|skip
    ·rename_i did off len e;intro e2;subst e2;rw[hn] at h;simp at h
    ·rename_i did off len e;intro e2;subst e2;rw[hn] at h;simp at h
  ·cases x with
   | slice i o l e=>
    intro e2;subst e2
    simp[cc5,hn] at hsrc
   | ag7 i o l e=>
    intro e2;subst e2
    simp[cc5,hn] at hsrc
   | ptr i o=>simp[cc5] at hsrc
   | _=>trivial
theorem bx4 {id esz:Nat}{s x v:IV}(hn:σ.obj id=none)(h:bf6 σ id esz s x=some (v,σ'))(i:Nat)(cs:List IV):σ.obj i=some (.cells cs)↔σ'.obj i=some (.cells cs):=by
 have put:∀ (σ:Store) (l:List IV),σ.obj id=none->(σ.obj i=some (.cells cs)↔(σ.put id (.row l)).obj i=some (.cells cs)):=by
  intro σ l hn;by_cases hi:i=id
  ·subst hi; simp[Store.put,hn]
  ·rw[ag3 hi]
 unfold bf6 at h;split at h
 ·cases h
 ·split at h
  ·cases h
  ·split at h
   ·split at h
    ·cases h; exact Iff.rfl
    ·split at h
     ·cases h; exact put σ _ hn
     ·cases h
   ·split at h
    ·cases h; exact Iff.rfl
    ·split at h
     ·cases h; exact put σ _ hn
     ·cases h
   ·split at h
    ·cases h; exact Iff.rfl
    ·cases h
   ·rename_i did off len e;split at h
    ·rename_i cs' hd;split at h
     ·cases h; exact Iff.rfl
     ·split at h
      ·cases h;have hk:(σ.kill did).obj id=none:=by simp[Store.kill,hn]
       refine Iff.trans ?_ (put (σ.kill did) _ hk);by_cases hi:i=did
       ·subst hi; simp[Store.kill,hd]
       ·simp[Store.kill,hi]
      ·cases h
    ·cases h
   ·rename_i did off len e;split at h
    ·rename_i cs' hd;split at h
     ·cases h; exact Iff.rfl
     ·split at h
      ·cases h; exact put σ _ hn
      ·cases h
    ·cases h
   ·cases h
end Go.Id
/- Regions whose order is open: the ideal order serves for every order. Conditions: none; over any program. -/
namespace Go.Id
open Go
variable {P:Program} {w w' w'':World} {ρ ρ' ρ'':Rho} {E:Nat->IV} {σ σ':Store} {N n n':Nat} {fr:Frm} {a:Act} {pf:List Nat}
def bf1 (E:Nat->IV)(fr:Frm)(σ:Store):IK->Prop
 | .q (.load _ x)=>match x.ev E fr with
  | .ab8 _=>True
  | .ptr i _=>∃ cs,σ.obj i=some (.cells cs)
  | _=>False
 | _=>True
def ja2 (P:Program)(E:Nat->IV)(B act:Bool)(op:IK)(id:Nat)(fr:Frm)(σ:Store)(v:IV)(σ':Store):Prop :=
 if act then bp1 P E op id fr σ v σ'/\(B=true->bf1 E fr σ op) else v=skV/\σ'=σ
def eq9 (B:Bool)(i j:Nat):Bool :=
 i==0&&j<=5||j==0&&i<=5||i==1&&j==1||i==1&&j==2||i==2&&j==2||i==3&&j==2||B&&i==1&&j==3||B&&i==3&&j==1||i==2&&j==1||i==2&&j==3||i==1&&j==5||i==5&&j==1||i==5&&j==5||i==5&&j==2||i==2&&j==5
def cs4 (B:Bool)(i j:Nat):Bool:=eq9 B i j||i==2&&j==4||i==4&&j==2
theorem fc4 {q:IQ}(h:q.kind=1):∃ ag x,q=.load ag x:=by
 cases q with
 | load ag x=>exact ⟨ag,x,rfl⟩
 | len k x=>
  exfalso
  match k,h with
  | 0,h=>simp[IQ.kind] at h
  | 1,h=>simp[IQ.kind] at h
  | k+2,h=>simp[IQ.kind] at h
 | _=>simp[IQ.kind] at h
theorem fc5 {op:IK}(h:op.kind=1):∃ ag x,op=.q (.load ag x):=by
 cases op with
 | q q=>obtain ⟨ag,x,rfl⟩:=fc4 h; exact ⟨ag,x,rfl⟩
 | st k xs=>cases k<;>simp[IK.kind,SK.kind] at h
 | _=>simp[IK.kind] at h
theorem bu7 (q:IQ):q.kind=0\/q.kind=1\/q.kind=5\/q.kind=6:=by
 cases q with
 | load ag x=>simp[IQ.kind]
 | len k x=>
  match k with
  | 0=>simp[IQ.kind]
  | 1=>simp[IQ.kind]
  | k+2=>simp[IQ.kind]
 | _=>simp[IQ.kind]
theorem io4 {op:IK}(h:op.kind=1\/op.kind=5):∃ q,op=.q q:=by
 cases op with
 | q q=>exact ⟨q,rfl⟩
 | st k xs=>cases k<;>simp[IK.kind,SK.kind] at h
 | _=>simp[IK.kind] at h
theorem io5 {op:IK}(h:op.kind=5):∃ t z ok x k,op=.q (.lkp t z ok x k):=by
 cases op with
 | q q=>
  cases q with
  | lkp t z ok x k=>exact ⟨t,z,ok,x,k,rfl⟩
  | len k x=>
   exfalso
   match k,h with
   | 0,h=>simp[IK.kind,IQ.kind] at h
   | 1,h=>simp[IK.kind,IQ.kind] at h
   | k+2,h=>simp[IK.kind,IQ.kind] at h
  | _=>simp[IK.kind,IQ.kind] at h
 | st k xs=>cases k<;>simp[IK.kind,SK.kind] at h
 | _=>simp[IK.kind] at h
theorem gq8 {op:IK}(h:op.kind=3):∃ e s x,op=.app e s x:=by
 cases op with
 | q q=>rcases bu7 q with h'|h'|h'|h'<;>simp[IK.kind,h'] at h
 | app e s x=>exact ⟨e,s,x,rfl⟩
 | st k xs=>cases k<;>simp[IK.kind,SK.kind] at h
 | _=>simp[IK.kind] at h
theorem io6 {op:IK}(h:op.kind=4):∃ e a y,op=.store e a y:=by
 cases op with
 | q q=>rcases bu7 q with h'|h'|h'|h'<;>simp[IK.kind,h'] at h
 | store e a y=>exact ⟨e,a,y,rfl⟩
 | st k xs=>cases k<;>simp[IK.kind,SK.kind] at h
 | _=>simp[IK.kind] at h
theorem dx8 {id sz:Nat}{ob:ak4}{a v:IV}(h:bk8 id a):aq2 (σ.put id ob) sz a v=(aq2 σ sz a v).map (·.put id ob):=by
 cases a with
 | ptr i off=>
  have hi:i≠id:=h;simp only[aq2,ag3 hi]
  cases hc:σ.obj i with
  | none=>rfl
  | some o=>
   cases o with
   | cells cs=>
    simp only;split
    ·simp only[Option.map_some]; rw[put_comm id i _ _ (fun e=>hi e.symm)]
    ·rfl
   | row cs=>
    simp only;split
    ·simp only[Option.map_some]; rw[put_comm id i _ _ (fun e=>hi e.symm)]
    ·rfl
   | _=>rfl
 | _=>rfl
theorem eh3 {id sz:Nat}{a v:IV}(hn:σ.obj id=none)(h:aq2 σ sz a v=some σ'):bk8 id a:=by
 cases a with
 | ptr i off=>intro e; subst e; simp[aq2,hn] at h
 | slice i o l e=>simp[aq2] at h
 | map i=>simp[aq2] at h
 | ag7 i o l e=>simp[aq2] at h
 | ak3 i o l r e=>simp[aq2] at h
 | _=>trivial
theorem bx5 {op:IK}{id:Nat}{v:IV}(hk:op.kind=0)(h:bp1 P E op id fr σ v σ'):σ'=σ/\∀ σ2,bp1 P E op id fr σ2 v σ2:=by
 cases op with
 | q q=>exact ⟨h.2,fun σ2=>⟨by rw[gq6 (σ':=σ) hk]; exact h.1,rfl⟩⟩
 | af5 f xs=>exact ⟨h.2,fun σ2=>⟨h.1,rfl⟩⟩
 | av4 e n z ps=>obtain ⟨out,h1,h2,h3⟩:=h; exact ⟨h3,fun _=>⟨out,h1,h2,rfl⟩⟩
 | ag6 x=>obtain ⟨h1,h2,h3⟩:=h; exact ⟨h3,fun _=>⟨h1,h2,rfl⟩⟩
 | st k xs=>exact h.elim
 | _=>simp[IK.kind] at hk
theorem as1 {op:IK}{id:Nat}{v:IV}(hk:op.kind=2)(h:bp1 P E op id fr σ v σ'):∃ ob,σ'=σ.put id ob/\∀ σ2,bp1 P E op id fr σ2 v (σ2.put id ob):=by
 cases op with
 | q q=>rcases bu7 q with h'|h'|h'|h'<;>simp[IK.kind,h'] at hk
 | alloc z=>exact ⟨_,h.2,fun σ2=>⟨h.1,rfl⟩⟩
 | box x=>exact ⟨_,h.2.2,fun σ2=>⟨h.1,h.2.1,rfl⟩⟩
 | bsl e n z ps=>obtain ⟨out,h1,h2,h3⟩:=h; exact ⟨_,h3,fun σ2=>⟨out,h1,h2,rfl⟩⟩
 | dc6 e z x=>obtain ⟨n,h1,h2,h3⟩:=h; exact ⟨_,h3,fun σ2=>⟨n,h1,h2,rfl⟩⟩
 | st k xs=>exact h.elim
 | _=>simp[IK.kind] at hk
theorem bx6 {op:IK}{fr fr':Frm}(h:∀ t∈op.ops.flatMap IX.uses,fr.get t=fr'.get t):bf1 E fr σ op->bf1 E fr' σ op:=by
 cases op with
 | q q=>
  cases q with
  | load ag x=>simp only[bf1]; rw[ah7 (x:=x) (fun t ht=>h t (by simp[IK.ops,IQ.ops,ht]))]; exact fun h=>h
  | _=>exact fun h=>h
 | _=>exact fun h=>h
theorem cc8 {op:IK}{σ2:Store}(h:∀ i cs,σ.obj i=some (.cells cs)->∃ cs',σ2.obj i=some (.cells cs')):bf1 E fr σ op->bf1 E fr σ2 op:=by
 cases op with
 | q q=>
  cases q with
  | load ag x=>
   simp only[bf1];split
   ·exact fun h=>h
   ·rintro ⟨cs,hc⟩; exact h _ cs hc
   ·exact fun h=>h
  | _=>exact fun h=>h
 | _=>exact fun h=>h
theorem ak9 {op:IK}{σ2:Store}(hk:op.kind≠1):bf1 E fr σ2 op:=by
 cases op with
 | q q=>
  cases q with
  | load ag x=>exact absurd rfl hk
  | _=>trivial
 | _=>trivial
theorem do6 {B:Bool}{p x:IK}{ip ix:Nat}{fr1 fr2:Frm}{σ1 σ2:Store}{vp vx:IV}(hp:bp1 P E p ip fr σ vp σ1)(hpb:B=true->bf1 E fr σ p)(hx:bp1 P E x ix fr1 σ1 vx σ2)(hxb:B=true->bf1 E fr1 σ1 x)
  (hfree:cs4 B p.kind x.kind=true) (hfx:∀ t∈x.ops.flatMap IX.uses,fr1.get t=fr.get t) (hfp:∀ t∈p.ops.flatMap IX.uses,fr.get t=fr2.get t)
  (hne:ip≠ix) (hnp:σ.obj ip=none) (hnx:σ.obj ix=none) (hH:p.kind=2->∀ y∈x.ops,bk8 ip (y.ev E fr)) :
  ∃ σ1',bp1 P E x ix fr σ vx σ1'/\(B=true->bf1 E fr σ x)/\bp1 P E p ip fr2 σ1' vp σ2/\(B=true->bf1 E fr2 σ1' p):=by
 have hx':=bm4 hfx hx;have hxb':B=true->bf1 E fr σ1 x:=fun hb=>bx6 hfx (hxb hb)
 have hp':∀ {s s' v},bp1 P E p ip fr s v s'->bp1 P E p ip fr2 s v s':=fun h=>bm4 hfp h
 have hpb':∀ {s},bf1 E fr s p->bf1 E fr2 s p:=fun h=>bx6 hfp h
 by_cases kp0:p.kind=0
 ·obtain ⟨rfl,hall⟩:=bx5 kp0 hp;exact ⟨σ2,hx',hxb',hp' (hall σ2),fun _=>hpb' (ak9 (by omega))⟩
 by_cases kx0:x.kind=0
 ·obtain ⟨rfl,hall⟩:=bx5 kx0 hx';exact ⟨σ,hall σ,fun _=>ak9 (by omega),hp' hp,fun hb=>hpb' (hpb hb)⟩
 by_cases n1:p.kind=2/\x.kind=4
 ·obtain ⟨k1,k2⟩:=n1;obtain ⟨ob,rfl,hall⟩:=as1 k1 hp;obtain ⟨e,a,y,rfl⟩:=io6 k2;have r1:=hH k1 a (by simp[IK.ops]);simp only[bp1] at hx';obtain ⟨hx1,rfl⟩:=hx';rw[dx8 r1] at hx1;obtain ⟨s,h1,rfl⟩:=map_some hx1;exact ⟨s,⟨h1,rfl⟩,fun _=>trivial,hp' (hall s),fun _=>ak9 (by omega)⟩
 by_cases n2:p.kind=4/\x.kind=2
 ·obtain ⟨k1,k2⟩:=n2;obtain ⟨e,a,y,rfl⟩:=io6 k1;obtain ⟨ob,rfl,hall⟩:=as1 k2 hx';obtain ⟨h1,rfl⟩:=hp;refine ⟨σ.put ix ob,hall σ,fun _=>ak9 (by omega),hp' ⟨?_,rfl⟩,fun _=>trivial⟩;rw[dx8 (eh3 hnx h1),h1];rfl
 have hfree:eq9 B p.kind x.kind=true:=by
  unfold cs4 at hfree;simp only[Bool.or_eq_true,Bool.and_eq_true,beq_iff_eq] at hfree;rcases hfree with (h|h)|h
  ·exact h
  ·exact absurd h n1
  ·exact absurd h n2
 have hcases:(p.kind=1/\x.kind=1)\/(p.kind=1/\x.kind=2)\/(p.kind=2/\x.kind=2)\/(p.kind=3/\x.kind=2)\/(B=true/\p.kind=1/\x.kind=3)\/(B=true/\p.kind=3/\x.kind=1)\/(p.kind=2/\x.kind=1)\/(p.kind=2/\x.kind=3)\/((p.kind=1\/p.kind=5)/\(x.kind=1\/x.kind=5))\/(p.kind=5/\x.kind=2)\/(p.kind=2/\x.kind=5):=by
  unfold eq9 at hfree;simp only[Bool.or_eq_true,Bool.and_eq_true,beq_iff_eq,decide_eq_true_eq] at hfree;rcases hfree with ((((((((((((((h|h)|h)|h)|h)|h)|h)|h)|h)|h)|h)|h)|h)|h)|h)
  ·exact absurd h.1 kp0
  ·exact absurd h.1 kx0
  ·exact .inl h
  ·exact .inr (.inl h)
  ·exact .inr (.inr (.inl h))
  ·exact .inr (.inr (.inr (.inl h)))
  ·exact .inr (.inr (.inr (.inr (.inl ⟨h.1.1,h.1.2,h.2⟩))))
  ·exact .inr (.inr (.inr (.inr (.inr (.inl ⟨h.1.1,h.1.2,h.2⟩)))))
  ·exact .inr (.inr (.inr (.inr (.inr (.inr (.inl h))))))
  ·exact .inr (.inr (.inr (.inr (.inr (.inr (.inr (.inl h)))))))
  ·exact .inr (.inr (.inr (.inr (.inr (.inr (.inr (.inr (.inl ⟨.inl h.1,.inr h.2⟩))))))))
  ·exact .inr (.inr (.inr (.inr (.inr (.inr (.inr (.inr (.inl ⟨.inr h.1,.inl h.2⟩))))))))
  ·exact .inr (.inr (.inr (.inr (.inr (.inr (.inr (.inr (.inl ⟨.inr h.1,.inr h.2⟩))))))))
  ·exact .inr (.inr (.inr (.inr (.inr (.inr (.inr (.inr (.inr (.inl h)))))))))
  ·exact .inr (.inr (.inr (.inr (.inr (.inr (.inr (.inr (.inr (.inr h)))))))))
 rcases hcases with ⟨k1,k2⟩|⟨k1,k2⟩|⟨k1,k2⟩|⟨k1,k2⟩|⟨hB,k1,k2⟩|⟨hB,k1,k2⟩|⟨k1,k2⟩|⟨k1,k2⟩|⟨k1,k2⟩|⟨k1,k2⟩|⟨k1,k2⟩
 ·obtain ⟨ag,y,rfl⟩:=fc5 k1;obtain ⟨ag',y',rfl⟩:=fc5 k2;obtain ⟨h1,rfl⟩:=hp;obtain ⟨h2,rfl⟩:=hx';exact ⟨_,⟨h2,rfl⟩,hxb',hp' ⟨h1,rfl⟩,fun hb=>hpb' (hpb hb)⟩
 ·obtain ⟨ag,y,rfl⟩:=fc5 k1;obtain ⟨h1,rfl⟩:=hp;obtain ⟨ob,rfl,hall⟩:=as1 k2 hx';refine ⟨σ1.put ix ob,hall σ1,fun _=>ak9 (by omega),hp' ⟨?_,rfl⟩,fun hb=>hpb' (cc8 (fun i cs hc=>⟨cs,by rw[ag3 (fun e=>by subst e; rw[hnx] at hc; cases hc)]; exact hc⟩) (hpb hb))⟩;simp only[evq] at h1 ⊢;rw[eq8 (fc3 hnx h1)]; exact h1
 ·obtain ⟨ob,rfl,hall⟩:=as1 k1 hp;obtain ⟨ob',rfl,hall'⟩:=as1 k2 hx';refine ⟨σ.put ix ob',hall' σ,fun _=>ak9 (by omega),?_,fun _=>ak9 (by omega)⟩;rw[put_comm ip ix _ _ hne];exact hp' (hall _)
 ·obtain ⟨e,s,y,rfl⟩:=gq8 k1;obtain ⟨ob,rfl,hall⟩:=as1 k2 hx';refine ⟨σ.put ix ob,hall σ,fun _=>ak9 (by omega),hp' ?_,fun _=>ak9 (by omega)⟩;obtain ⟨n1,n2⟩:=fw9 (id2:=ix) hnx hp;simp only[bp1] at hp ⊢;rw[dc3 n1 n2 (fun e=>hne e.symm),hp];rfl
 ·obtain ⟨ag,y,rfl⟩:=fc5 k1;obtain ⟨e,s,z,rfl⟩:=gq8 k2;obtain ⟨h1,rfl⟩:=hp;have hb:=hpb hB;refine ⟨σ2,hx',fun _=>trivial,hp' ⟨?_,rfl⟩,fun _=>hpb' (cc8 (fun i cs hc=>⟨cs,(bx4 hnx hx' i cs).1 hc⟩) hb)⟩;simp only[evq] at h1 ⊢;rw[<- h1];simp only[bf1] at hb;split at hb
  ·rename_i he; rw[he]; rfl
  ·rename_i i off he;obtain ⟨cs,hc⟩:=hb;have hc':=(bx4 hnx hx' i cs).1 hc;rw[he];simp[ay3,aq1,hc,hc']
  ·exact hb.elim
 ·obtain ⟨e,s,z,rfl⟩:=gq8 k1;obtain ⟨ag,y,rfl⟩:=fc5 k2;obtain ⟨h2,rfl⟩:=hx';have hb:=hxb' hB;refine ⟨σ,⟨?_,rfl⟩,fun _=>cc8 (fun i cs hc=>⟨cs,(bx4 hnp hp i cs).2 hc⟩) hb,hp' hp,fun _=>trivial⟩;simp only[evq] at h2 ⊢;rw[<- h2];simp only[bf1] at hb;split at hb
  ·rename_i he; rw[he]; rfl
  ·rename_i i off he;obtain ⟨cs,hc⟩:=hb;have hc':=(bx4 hnp hp i cs).2 hc;rw[he];simp[ay3,aq1,hc,hc']
  ·exact hb.elim
 ·obtain ⟨ob,rfl,hall⟩:=as1 k1 hp;obtain ⟨ag,y,rfl⟩:=fc5 k2;obtain ⟨h2,rfl⟩:=hx';have hr:=hH k1 y (by simp[IK.ops,IQ.ops]);refine ⟨σ,⟨?_,rfl⟩,fun hb=>?_,hp' hp,fun _=>ak9 (by omega)⟩
  ·simp only[evq] at h2 ⊢;rw[eq8 hr] at h2; exact h2
  ·have:=hxb' hb;simp only[bf1] at this ⊢;split
   ·trivial
   ·rename_i i off he;rw[he] at this hr;obtain ⟨cs,hc⟩:=this;exact ⟨cs,by rw[ag3 hr] at hc; exact hc⟩
   ·rename_i h1 h2;generalize y.ev E fr=q at *;cases q<;>first|exact this|exact (h1 _ rfl).elim|exact (h2 _ _ rfl).elim
 ·obtain ⟨ob,rfl,hall⟩:=as1 k1 hp;obtain ⟨e,s,z,rfl⟩:=gq8 k2;have r1:=hH k1 s (by simp[IK.ops]);have r2:=hH k1 z (by simp[IK.ops]);simp only[bp1] at hx';rw[dc3 r1 r2 hne] at hx';obtain ⟨⟨v',s'⟩,h1,h2⟩:=map_some hx';cases h2;exact ⟨s',h1,fun _=>trivial,hp' (hall _),fun _=>ak9 (by omega)⟩
 ·obtain ⟨q1,rfl⟩:=io4 k1;obtain ⟨q2,rfl⟩:=io4 k2;obtain ⟨h1,rfl⟩:=hp;obtain ⟨h2,rfl⟩:=hx';exact ⟨_,⟨h2,rfl⟩,hxb',hp' ⟨h1,rfl⟩,fun hb=>hpb' (hpb hb)⟩
 ·obtain ⟨t,z,ok,y,k,rfl⟩:=io5 k1;obtain ⟨h1,rfl⟩:=hp;obtain ⟨ob,rfl,hall⟩:=as1 k2 hx';refine ⟨σ1.put ix ob,hall σ1,fun _=>ak9 (by omega),hp' ⟨?_,rfl⟩,fun hb=>trivial⟩;simp only[evq] at h1 ⊢;rw[fw7 (fw8 hnx h1)]; exact h1
 ·obtain ⟨ob,rfl,hall⟩:=as1 k1 hp;obtain ⟨t,z,ok,y,k,rfl⟩:=io5 k2;obtain ⟨h2,rfl⟩:=hx';have hr:=hH k1 y (by simp[IK.ops,IQ.ops]);refine ⟨σ,⟨?_,rfl⟩,fun hb=>trivial,hp' hp,fun _=>ak9 (by omega)⟩;simp only[evq] at h2 ⊢;rw[fw7 hr] at h2; exact h2
end Go.Id
/- Regions whose order is open,whole. Conditions: none; over any program. -/
namespace Go.Id
open Go
variable {P:Program} {w w' w'':World} {ρ ρ' ρ'':Rho} {E:Nat->IV} {σ σ':Store} {N n n':Nat} {fr:Frm} {a:Act} {pf:List Nat}
abbrev Item:=Nat×ae7×Nat
def io7 (P:Program)(E:Nat->IV)(B:Bool)(o:ae7)(id:Nat)(fr:Frm)(σ:Store)(K:Frm->Store->Prop):Prop :=
 ∃ act,bg2 o fr=some act/\(if act then opR P E o.op id fr σ (fun v σ'=>K (fr.ao4 o.dst v) σ')/\(B=true->bf1 E fr σ o.op) else K (fr.ao4 o.dst skV) σ)
def bu8 (P:Program)(E:Nat->IV)(B:Bool):List Item->Frm->Store->(Frm->Store->Prop)->Prop
 | [],fr,σ,K=>K fr σ
 | (_,o,id)::rest,fr,σ,K=>io7 P E B o id fr σ fun fr' σ'=>bu8 P E B rest fr' σ' K
theorem bd1 (fr:Frm)(d:Option Nat)(v:IV)(t:Nat):(fr.ao4 d v).get t=if d=some t then v else fr.get t:=by
 cases d with
 | none=>simp[Frm.ao4]
 | some d=>
  simp only[Frm.ao4,Frm.cc1,Option.some.injEq];by_cases h:t=d
  ·subst h; simp
  ·have:¬ d=t:=fun e=>h e.symm
   simp[h,this]
theorem cp6 {fr fr':Frm}(h:FEq fr fr')(d:Option Nat)(v:IV):FEq (fr.ao4 d v) (fr'.ao4 d v):=fun t=>by rw[bd1,bd1,h t]
theorem fx1 {op:IK}{id:Nat}{fr fr':Frm}{K:IV->Store->Prop}(h:FEq fr fr'):opR P E op id fr σ K->opR P E op id fr' σ K:=by
 have hev:∀ x:IX,x.ev E fr=x.ev E fr':=fun x=>ah7 fun t _=>h t
 have hmap:∀ xs:List IX,xs.map (·.ev E fr)=xs.map (·.ev E fr'):=fun xs=>ay6 fun t _=>h t
 cases op with
 | q q=>simp only[opR]; rw[fw6 (fun t _=>h t)]; exact fun h=>h
 | alloc z=>exact fun h=>h
 | box x=>simp only[opR]; rw[hev x]; exact fun h=>h
 | bsl e n z ps=>simp only[opR]; rw[at7 (fun t _=>h t)]; exact fun h=>h
 | store e x y=>simp only[opR]; rw[hev x,hev y]; exact fun h=>h
 | app e x y=>simp only[opR]; rw[hev x,hev y]; exact fun h=>h
 | bm9=>exact fun h=>h
 | bk1 x=>simp only[opR]; rw[hev x]; exact fun h=>h
 | ct4 x=>simp only[opR]; rw[hev x]; exact fun h=>h
 | dc5 t x y z=>simp only[opR]; rw[hev x,hev y,hev z]; exact fun h=>h
 | call f xs=>simp only[opR]; rw[hmap]; exact fun h=>h
 | af5 f xs=>simp only[opR]; rw[hmap]; exact fun h=>h
 | ao5 x xs=>simp only[opR]; rw[hmap,hev]; exact fun h=>h
 | av4 e n z ps=>simp only[opR]; rw[at7 (fun t _=>h t)]; exact fun h=>h
 | ag6 x=>simp only[opR]; rw[hev x]; exact fun h=>h
 | bd3 x=>simp only[opR]; rw[hev x]; exact fun h=>h
 | cd4 x=>simp only[opR]; rw[hev x]; exact fun h=>h
 | fd8 x=>simp only[opR]; rw[hev x]; exact fun h=>h
 | dc6 e z x=>simp only[opR]; rw[hev x]; exact fun h=>h
 | clr e z x=>simp only[opR]; rw[hev x]; exact fun h=>h
 | st k xs=>simp only[opR]; rw[hmap]; exact fun h=>h
theorem am3 {op:IK}{id:Nat}{K K':IV->Store->Prop}(hK:∀ v σ,K v σ->K' v σ):opR P E op id fr σ K->opR P E op id fr σ K':=by
 cases op with
 | q q=>exact fun ⟨v,h,k⟩=>⟨v,h,hK _ _ k⟩
 | alloc z=>exact fun k=>hK _ _ k
 | box x=>exact fun ⟨h,k⟩=>⟨h,hK _ _ k⟩
 | bsl e n z ps=>exact fun ⟨out,h,k⟩=>⟨out,h,hK _ _ k⟩
 | store e x y=>exact fun ⟨s,h,k⟩=>⟨s,h,hK _ _ k⟩
 | app e x y=>exact fun ⟨r,h,k⟩=>⟨r,h,hK _ _ k⟩
 | bm9=>exact fun k=>hK _ _ k
 | bk1 x=>exact fun ⟨s,h,k⟩=>⟨s,h,hK _ _ k⟩
 | ct4 x=>exact fun ⟨s,h,k⟩=>⟨s,h,hK _ _ k⟩
 | dc5 t x y z=>exact fun ⟨s,h,k⟩=>⟨s,h,hK _ _ k⟩
 | call f xs=>exact fun ⟨Q,h,k⟩=>⟨Q,h,fun v s q=>⟨(k v s q).1,hK _ _ (k v s q).2⟩⟩
 | af5 f xs=>exact fun ⟨v,h,k⟩=>⟨v,h,hK _ _ k⟩
 | ao5 x xs=>exact fun ⟨Q,h,k⟩=>⟨Q,h,fun v s q=>⟨(k v s q).1,hK _ _ (k v s q).2⟩⟩
 | av4 e n z ps=>exact fun ⟨out,h,k⟩=>⟨out,h,hK _ _ k⟩
 | ag6 x=>exact fun ⟨h,k⟩=>⟨h,hK _ _ k⟩
 | bd3 x=>exact fun ⟨s,h,k⟩=>⟨s,h,hK _ _ k⟩
 | fd8 x=>exact fun ⟨v,h,k⟩=>⟨v,h,hK _ _ k⟩
 | dc6 e z x=>exact fun ⟨n,h,k⟩=>⟨n,h,hK _ _ k⟩
 | clr e z x=>exact fun ⟨s,h,hn,k⟩=>⟨s,h,hn,hK _ _ k⟩
 | st e xs=>exact fun ⟨r,h,k⟩=>⟨r,h,hK _ _ k⟩
 | cd4 x=>exact fun ⟨i,l,h,k1,k2⟩=>⟨i,l,h,fun e=>hK _ _ (k1 e),fun j hj=>hK _ _ (k2 j hj)⟩
theorem bi2 {o:ae7}{fr fr':Frm}(h:∀ t∈o.uses,fr.get t=fr'.get t):bg2 o fr=bg2 o fr':=by
 unfold bg2
 cases hg:o.guard with
 | none=>rfl
 | some p=>
  obtain ⟨s,want⟩:=p;simp only;rw[h s (by simp[ae7.uses,hg])]
theorem gq9 {B:Bool}{o:ae7}{id:Nat}{fr fr':Frm}{K K':Frm->Store->Prop}(h:FEq fr fr')(hK:∀ f f' s,FEq f f'->K f s->K' f' s):io7 P E B o id fr σ K->io7 P E B o id fr' σ K':=by
 rintro ⟨act,ha,hh⟩;refine ⟨act,by rw[<- bi2 (fun t _=>h t)]; exact ha,?_⟩
 cases act with
 | true=>
  obtain ⟨h1,h2⟩:=hh
  exact ⟨am3 (fun v s k=>hK _ _ _ (cp6 h _ _) k) (fx1 h h1),fun hb=>bx6 (fun t _=>h t) (h2 hb)⟩
 | false=>exact hK _ _ _ (cp6 h _ _) hh
theorem dx9 {B:Bool}{K:Frm->Store->Prop}(hK:∀ f f' s,FEq f f'->K f s->K f' s):∀ (its:List Item) (fr fr':Frm) (σ:Store),FEq fr fr'->bu8 P E B its fr σ K->bu8 P E B its fr' σ K:=by
 intro its
 induction its with
 | nil=>exact fun fr fr' σ h k=>hK _ _ _ h k
 | cons it its ih=>
  obtain ⟨i,o,id⟩:=it;exact fun fr fr' σ h k=>gq9 h (fun f f' s hf kk=>ih f f' s hf kk) k
def fx2 (p x:ae7):Prop :=
 (∀ d,x.dst=some d->d ∉ p.uses/\p.dst≠some d)/\(∀ d,p.dst=some d->d ∉ x.uses)
def fx3 (B:Bool)(p x:ae7):Prop:=cs4 B p.op.kind x.op.kind=true/\fx2 p x
theorem do7 {B:Bool}{i j:Nat}(h:cs4 B i j=true):i<=5/\j<=5:=by
 unfold cs4 eq9 at h;simp only[Bool.or_eq_true,Bool.and_eq_true,beq_iff_eq,decide_eq_true_eq] at h;omega
theorem dy1 {op:IK}{id i:Nat}{v:IV}(hk:op.kind<=5)(hi:i≠id)(h:bp1 P E op id fr σ v σ')(hn:σ.obj i=none):σ'.obj i=none:=by
 cases op with
 | q q=>rw[h.2]; exact hn
 | alloc z=>rw[h.2,ag3 hi]; exact hn
 | box x=>rw[h.2.2,ag3 hi]; exact hn
 | bsl e n z ps=>obtain ⟨out,_,_,h3⟩:=h; rw[h3,ag3 hi]; exact hn
 | store e x y=>
  obtain ⟨h,_⟩:=h;unfold aq2 at h;split at h
  ·rename_i j off hx;split at h
   ·rename_i cs hc;split at h
    ·cases h;rw[ag3 (fun e=>by subst e; rw[hn] at hc; cases hc)]; exact hn
    ·cases h
   ·rename_i cs hc;split at h
    ·cases h;rw[ag3 (fun e=>by subst e; rw[hn] at hc; cases hc)]; exact hn
    ·cases h
   ·cases h
  ·cases h
 | af5 f xs=>rw[h.2]; exact hn
 | app e s x=>
  simp only[bp1] at h;unfold bf6 at h;split at h
  ·cases h
  ·split at h
   ·cases h
   ·split at h
    ·split at h
     ·cases h; exact hn
     ·split at h
      ·cases h; rw[ag3 hi]; exact hn
      ·cases h
    ·split at h
     ·cases h; exact hn
     ·split at h
      ·cases h; rw[ag3 hi]; exact hn
      ·cases h
    ·split at h
     ·cases h; exact hn
     ·cases h
    ·split at h
     ·split at h
      ·cases h; exact hn
      ·split at h
       ·cases h; rw[ag3 hi]; simp only[Store.kill]; split<;>simp[hn]
       ·cases h
     ·cases h
    ·split at h
     ·split at h
      ·cases h; exact hn
      ·split at h
       ·cases h; rw[ag3 hi]; exact hn
       ·cases h
     ·cases h
    ·cases h
 | av4 e n z ps=>obtain ⟨_,_,_,rfl⟩:=h; exact hn
 | ag6 x=>obtain ⟨_,_,rfl⟩:=h; exact hn
 | dc6 e z x=>obtain ⟨_,_,_,rfl⟩:=h; rw[ag3 hi]; exact hn
 | st k xs=>exact h.elim
 | _=>exact absurd hk (by simp[IK.kind])
theorem ba1 {o:ae7}{t:Nat}(h:t∈o.op.ops.flatMap IX.uses):t∈o.uses:=by unfold ae7.uses; exact List.mem_append_left _ h
theorem jl1 {B:Bool}{K:Frm->Store->Prop}(hK:∀ f f' s,FEq f f'->K f s->K f' s){ix:Nat}{x:ae7}{kx:Nat}{post:List Item} :
  ∀ (pre:List Item) (fr:Frm) (σ:Store),(∀ p∈pre,fx3 B p.2.1 x)->(∀ p∈pre,p.2.2≠kx/\σ.obj p.2.2=none)->(pre.map (·.2.2)).Nodup->(pre≠[]->σ.obj kx=none) ->
   (∀ p∈pre,p.2.1.op.kind=2->∀ y∈x.op.ops,bk8 p.2.2 (y.ev E fr)) ->
   bu8 P E B (pre++(ix,x,kx)::post) fr σ K->io7 P E B x kx fr σ fun fr' σ'=>bu8 P E B (pre++post) fr' σ' K:=by
 intro pre
 induction pre with
 | nil=>intro fr σ _ _ _ _ _ h; exact h
 | cons p pre ih=>
  intro fr σ hfree hids hnd hnx hH h;obtain ⟨ip,p,kp⟩:=p;obtain ⟨hk,hap⟩:=hfree _ (List.mem_cons_self ..);obtain ⟨hpx,hkp⟩:=hids _ (List.mem_cons_self ..);simp only at hk hap hpx hkp;obtain ⟨kp3,kx3⟩:=do7 hk;have hnx:=hnx (by simp);obtain ⟨ap,hact,hh⟩:=h
  -- what p gives
  have hp:∃ vp σ1,ja2 P E B ap p.op kp fr σ vp σ1/\bu8 P E B (pre++(ix,x,kx)::post) (fr.ao4 p.dst vp) σ1 K:=by
   cases ap with
   | true=>
    obtain ⟨h1,h2⟩:=hh;obtain ⟨vp,σ1,hd,k⟩:=(bb5 kp3).1 h1
    exact ⟨vp,σ1,⟨hd,h2⟩,k⟩
   | false=>exact ⟨skV,σ,⟨rfl,rfl⟩,hh⟩
  obtain ⟨vp,σ1,hd,htree⟩:=hp
  have hfx:∀ t∈x.uses,(fr.ao4 p.dst vp).get t=fr.get t:=fun t ht=>by
   rw[bd1,if_neg]; intro e; exact hap.2 t e ht
  have fresh1:∀ i,i≠kp->σ.obj i=none->σ1.obj i=none:=fun i hi h0=>by
   cases ap with
   | true=>exact dy1 kp3 hi hd.1 h0
   | false=>obtain ⟨_,rfl⟩:=hd; exact h0
  have hnd':=List.nodup_cons.1 (show (kp::pre.map (·.2.2)).Nodup from hnd)
  obtain ⟨ax,hactx,hhx⟩:=ih (fr.ao4 p.dst vp) σ1 (fun q hq=>hfree q (List.mem_cons_of_mem _ hq))
   (fun q hq=>⟨(hids q (List.mem_cons_of_mem _ hq)).1,fresh1 _ (fun e=>hnd'.1 (by rw[<- e]; exact List.mem_map.2 ⟨q,hq,rfl⟩)) (hids q (List.mem_cons_of_mem _ hq)).2⟩)
   hnd'.2 (fun _=>fresh1 kx (fun e=>hpx e.symm) hnx)
   (fun q hq hk2 y hy=>by
    have:y.ev E (fr.ao4 p.dst vp)=y.ev E fr:=ah7 fun t ht=>hfx t (ba1 (List.mem_flatMap.2 ⟨y,hy,ht⟩))
    rw[this]; exact hH q (List.mem_cons_of_mem _ hq) hk2 y hy) htree
  have hx:∃ vx σ2,ja2 P E B ax x.op kx (fr.ao4 p.dst vp) σ1 vx σ2/\bu8 P E B (pre++post) ((fr.ao4 p.dst vp).ao4 x.dst vx) σ2 K:=by
   cases ax with
   | true=>
    obtain ⟨h1,h2⟩:=hhx;obtain ⟨vx,σ2,hd,k⟩:=(bb5 kx3).1 h1
    exact ⟨vx,σ2,⟨hd,h2⟩,k⟩
   | false=>exact ⟨skV,σ1,⟨rfl,rfl⟩,hhx⟩
  obtain ⟨vx,σ2,hdx,htree2⟩:=hx;have hactx':bg2 x fr=some ax:=by rw[<- bi2 hfx]; exact hactx
  have hfp:∀ t∈p.uses,fr.get t=(fr.ao4 x.dst vx).get t:=fun t ht=>by
   rw[bd1,if_neg]; intro e; exact (hap.1 t e).1 ht
  have hactp':bg2 p (fr.ao4 x.dst vx)=some ap:=by rw[<- bi2 hfp]; exact hact
  have feq:FEq ((fr.ao4 p.dst vp).ao4 x.dst vx) ((fr.ao4 x.dst vx).ao4 p.dst vp):=fun t=>by
   simp only[bd1];by_cases h1:x.dst=some t
   ·have h2:p.dst≠some t:=(hap.1 t h1).2;simp[h1,h2]
   ·simp[h1]
  have swap:∃ σ1',ja2 P E B ax x.op kx fr σ vx σ1'/\ja2 P E B ap p.op kp (fr.ao4 x.dst vx) σ1' vp σ2:=by
   cases ap with
   | true=>
    cases ax with
    | true=>
     obtain ⟨σ1',s1,s2,s3,s4⟩:=do6 hd.1 hd.2 hdx.1 hdx.2 hk (fun t ht=>hfx t (ba1 ht)) (fun t ht=>hfp t (ba1 ht)) hpx hkp hnx (hH _ (List.mem_cons_self ..))
     exact ⟨σ1',⟨s1,s2⟩,⟨s3,s4⟩⟩
    | false=>
     obtain ⟨rfl,rfl⟩:=hdx
     exact ⟨σ,⟨rfl,rfl⟩,bm4 (fun t ht=>hfp t (ba1 ht)) hd.1,fun hb=>bx6 (fun t ht=>hfp t (ba1 ht)) (hd.2 hb)⟩
   | false=>
    obtain ⟨rfl,rfl⟩:=hd
    cases ax with
    | true=>exact ⟨σ2,⟨bm4 (fun t ht=>hfx t (ba1 ht)) hdx.1,fun hb=>bx6 (fun t ht=>hfx t (ba1 ht)) (hdx.2 hb)⟩,rfl,rfl⟩
    | false=>obtain ⟨rfl,rfl⟩:=hdx; exact ⟨_,⟨rfl,rfl⟩,rfl,rfl⟩
  obtain ⟨σ1',d1,d2⟩:=swap
  have inner:io7 P E B p kp (fr.ao4 x.dst vx) σ1' fun fr' σ'=>bu8 P E B (pre++post) fr' σ' K:=by
   refine ⟨ap,hactp',?_⟩
   cases ap with
   | true=>exact ⟨(bb5 kp3).2 ⟨vp,σ2,d2.1,dx9 hK _ _ _ _ feq htree2⟩,d2.2⟩
   | false=>obtain ⟨rfl,rfl⟩:=d2; exact dx9 hK _ _ _ _ feq htree2
  refine ⟨ax,hactx',?_⟩
  cases ax with
  | true=>exact ⟨(bb5 kx3).2 ⟨vx,σ1',d1.1,inner⟩,d1.2⟩
  | false=>obtain ⟨rfl,rfl⟩:=d1; exact inner
end Go.Id
/- Regions whose order is open: the theorem. Conditions: none; over any program. -/
namespace Go.Id
open Go
variable {P:Program} {w w' w'':World} {ρ ρ' ρ'':Rho} {E:Nat->IV} {σ σ':Store} {N n n':Nat} {fr:Frm} {a:Act} {pf:List Nat}
def IX.quiet:IX->Bool
 | .c (.ptr _ _)=>false
 | .c (.slice _ _ _ _)=>false
 | .c (.map _)=>false
 | .c (.ag7 _ _ _ _)=>false
 | .c (.ak3 _ _ _ _ _)=>false
 | _=>true
theorem IX.cs5 {x:IX}{id:Nat}(hq:x.quiet=true)(hs:Sim E ρ w σ)(hf:FR ρ w N fr a.tmps)(h:ρ id=.no):bk8 id (x.ev E fr):=by
 cases x with
 | t n=>exact eq7 (hf.get n) h
 | c v=>cases v<;>first|trivial|cases hq
 | g n=>exact eq7 (hs.env n) h
 | f n=>trivial
structure Rem (P:Program) (pf:List Nat) (N:Nat) (ops:Array Oper) (B:Bool) (anc:Nat->Nat->Prop) (base:Nat) (rem:List Item) (listed:Array Bool):Prop where
 size:listed.size=ops.size
 un:∀ j,j<ops.size->(listed.getD j true=false↔∃ it∈rem,it.1=j)
 its:∀ it∈rem,∃ o,ops[it.1]? = some o/\cd2 P pf N ops o=some it.2.1/\it.2.2=base+it.1/\∀ y∈it.2.1.op.ops,IX.quiet y=true
 pw:rem.Pairwise fun p x=>(anc p.1 x.1\/fx3 B p.2.1 x.2.1)/\p.1≠x.1/\∀ o,ops[p.1]? = some o->∀ e∈o.after,Region.binds .any e=true->e.on≠x.1
 dc:∀ j,listed.getD j false=true->∀ k,anc k j->listed.getD k false=true
theorem getD_lt {l:Array Bool}{j:Nat}(h:l.getD j true=false):j<l.size:=by
 rcases Nat.lt_or_ge j l.size with h'|h'
 ·exact h'
 ·simp[Array.getElem?_eq_none h'] at h
theorem fx4 {l:Array Bool}{j:Nat}(h:l.getD j false=true):l.getD j true=true:=by
 rcases Nat.lt_or_ge j l.size with h'|h'
 ·simp[h'] at h ⊢; exact h
 ·simp[Array.getElem?_eq_none h'] at h
theorem fx5 {ops:Array Oper} {B:Bool} {anc:Nat->Nat->Prop} {n0 base:Nat} {ro:Option Nat} {Qw:Exit->Act->World->Prop} {K:Frm->Store->Prop} {ρ0:Rho} {w0:World} {ds:List Deferred}
  (hKf:∀ f f' s,FEq f f'->K f s->K f' s)
  (hfin:∀ fr σ ρ w a,n0<=σ.next->K fr σ->Sim E ρ w σ->FR ρ w N fr a.tmps->a.defers=ds->be9 n0 ρ0 w0 ρ w->Qw .normal a w)
  (hed:∀ j o,ops[j]? = some o->∀ e∈o.after,Region.binds .any e=true->e.on<ops.size/\e.on≠j)
  (hanc:∀ k j,anc k j->∀ o,ops[j]? = some o->∃ e∈o.after,Region.binds .any e=true/\(e.on=k\/anc k e.on)) :
  ∀ (fuel:Nat) (rem:List Item) (listed:Array Bool) (fr:Frm) (σ:Store) (ρ:Rho) (w:World) (a:Act),rem.length=fuel->Rem P pf N ops B anc base rem listed->bu8 P E B rem fr σ K ->
   Sim E ρ w σ->FR ρ w N fr a.tmps->a.defers=ds->be9 n0 ρ0 w0 ρ w->n0<=base->base+ops.size<=σ.next->(∀ it∈rem,ρ it.2.2=.no) ->
   wpAnyIn (fw ro) 0 P .any ops Qw fuel listed a w:=by
 intro fuel
 induction fuel with
 | zero=>
  intro rem listed fr σ ρ w a hlen hr h hs hf hd hx hn0 hnx hno;have:rem=[]:=List.length_eq_zero_iff.1 hlen;subst this;refine ⟨?_,hfin fr σ ρ w a (by omega) h hs hf hd hx⟩;rw[List.eq_nil_iff_forall_not_mem];intro j hj;obtain ⟨h0,_⟩:=mem_ready.1 hj;obtain ⟨it,hit,_⟩:=(hr.un j (by rw[<- hr.size]; exact getD_lt h0)).1 h0
  cases hit
 | succ fuel ih=>
  intro rem listed fr σ ρ w a hlen hr h hs hf hd hx hn0 hnx hno;refine ⟨fun hemp=>?_,fun i hi=>?_⟩
  ·exfalso
   cases rem with
   | nil=>cases hlen
   | cons it rem=>
    obtain ⟨o,ho,hc,hid,_⟩:=hr.its it (List.mem_cons_self ..)
    have hlt:it.1<ops.size:=by
     rcases Nat.lt_or_ge it.1 ops.size with h'|h'
     ·exact h'
     ·simp[Array.getElem?_eq_none h'] at ho
    have:it.1∈Region.ready .any ops listed:=by
     refine mem_ready.2 ⟨(hr.un _ hlt).2 ⟨it,List.mem_cons_self ..,rfl⟩,o,ho,fun e he hb=>?_⟩;obtain ⟨h1,h2⟩:=hed _ o ho e he hb;have hj:e.on<listed.size:=by rw[hr.size]; exact h1
     by_cases hL:listed.getD e.on true=false
     ·obtain ⟨jt,hjt,hje⟩:=(hr.un _ h1).1 hL;rcases List.mem_cons.1 hjt with rfl|hjt
      ·exact absurd hje.symm h2
      ·exact absurd hje.symm (((List.pairwise_cons.1 hr.pw).1 jt hjt).2.2 o ho e he hb)
     ·simp[hj] at hL ⊢; exact hL
    rw[hemp] at this;cases this
  ·obtain ⟨h0,o,ho,hall⟩:=mem_ready.1 hi;have hlt:i<ops.size:=by rw[<- hr.size]; exact getD_lt h0
   obtain ⟨it,hit,hie⟩:=(hr.un i hlt).1 h0;obtain ⟨pre,post,rfl⟩:=List.append_of_mem hit;obtain ⟨ix,x,kx⟩:=it;simp only at hie;subst hie;obtain ⟨o',ho',hc,hkx,hqx⟩:=hr.its _ hit;simp only at ho' hc hkx hqx;rw[ho] at ho';cases ho';obtain ⟨hpp,hxp,hcross⟩:=List.pairwise_append.1 hr.pw;have hcx:=fun p hp=>hcross p hp _ (List.mem_cons_self ..)
   have hnotL:∀ p∈pre,listed.getD p.1 false≠true:=fun p hp hL=>by
    obtain ⟨op,hop,_⟩:=hr.its p (List.mem_append_left _ hp)
    have hpl:p.1<ops.size:=by
     rcases Nat.lt_or_ge p.1 ops.size with h'|h'
     ·exact h'
     ·simp[Array.getElem?_eq_none h'] at hop
    have:=(hr.un p.1 hpl).2 ⟨p,List.mem_append_left _ hp,rfl⟩;rw[fx4 hL] at this;cases this
   have hfree:∀ p∈pre,fx3 B p.2.1 x:=fun p hp=>by
    rcases (hcx p hp).1 with ha|hf
    ·exfalso;obtain ⟨e,he,hb,heq⟩:=hanc _ _ ha o ho;have hle:=hall e he hb;rcases heq with heq|ha'
     ·exact hnotL p hp (by rw[<- heq]; exact hle)
     ·exact hnotL p hp (hr.dc _ hle _ ha')
    ·exact hf
   have hidp:∀ p∈pre,p.2.2=base+p.1:=fun p hp=>by
    obtain ⟨_,_,_,h1,_⟩:=hr.its p (List.mem_append_left _ hp);exact h1
   have hpull:=jl1 (P:=P) (E:=E) (B:=B) (K:=K) hKf (ix:=ix) (x:=x) (kx:=kx) (post:=post) pre fr σ hfree
    (fun p hp=>⟨by rw[hidp p hp,hkx]; have:=(hcx p hp).2.1; omega,hs.av3 _ (hno p (List.mem_append_left _ hp))⟩)
    (by
     rw[List.nodup_iff_pairwise_ne,List.pairwise_map];refine (List.Pairwise.and_mem.1 hpp).imp ?_;intro p q ⟨hp,hq,h1⟩;rw[hidp p hp,hidp q hq];have:=h1.2.1;omega)
    (fun _=>hs.av3 _ (hno _ hit))
    (fun p hp _ y hy=>IX.cs5 (hqx y hy) hs hf (hno p (List.mem_append_left _ hp))) h
   obtain ⟨⟨fz,hk⟩,hdst,hdN,hg⟩:=bv1 hc;have hidx:kx<σ.next/\n0<=kx:=by rw[hkx]; omega
   have hmem:∀ it∈pre++post,it∈pre++(ix,x,kx)::post:=fun it h=>by
    rcases List.mem_append.1 h with h|h
    ·exact List.mem_append_left _ h
    ·exact List.mem_append_right _ (List.mem_cons_of_mem _ h)
   have hne:∀ it∈pre++post,it.1≠ix:=fun it h=>by
    rcases List.mem_append.1 h with h|h
    ·exact (hcx it h).2.1
    ·exact fun e=>((List.pairwise_cons.1 hxp).1 it h).2.1 e.symm
   have hrem:Rem P pf N ops B anc base (pre++post) (listed.setIfInBounds ix true):=by
    refine ⟨by simp[hr.size],fun j hj=>?_,fun it hit=>hr.its it (hmem it hit),?_,?_⟩
    ·by_cases hji:j=ix
     ·subst hji;have:j<listed.size:=by rw[hr.size]; exact hj
      constructor
      ·intro h; simp[this] at h
      ·rintro ⟨it,h1,h2⟩; exact absurd h2 (hne it h1)
     ·rw[getD_set_ne true (Ne.symm hji),hr.un j hj];constructor
      ·rintro ⟨it,h1,h2⟩;refine ⟨it,?_,h2⟩;rcases List.mem_append.1 h1 with h1|h1
       ·exact List.mem_append_left _ h1
       ·rcases List.mem_cons.1 h1 with rfl|h1
        ·exact absurd h2.symm hji
        ·exact List.mem_append_right _ h1
      ·rintro ⟨it,h1,h2⟩; exact ⟨it,hmem it h1,h2⟩
    ·exact hr.pw.sublist (List.Sublist.append (List.Sublist.refl _) (List.sublist_cons_self _ _))
    ·intro j hj k hk;by_cases hji:j=ix
     ·subst hji;obtain ⟨e,he,hb,heq⟩:=hanc _ _ hk o ho;have hle:=hall e he hb;rcases heq with rfl|ha'
      ·exact getD_set_true hle
      ·exact getD_set_true (hr.dc _ hle _ ha')
     ·rw[getD_set_ne false (Ne.symm hji)] at hj;exact getD_set_true (hr.dc _ hj _ hk)
   have hlen':(pre++post).length=fuel:=by simp at hlen ⊢; omega
   have hne2:∀ it∈pre++post,it.2.2≠kx:=fun it h=>by
    obtain ⟨_,_,_,h1,_⟩:=hr.its it (hmem it h);rw[h1,hkx];have:=hne it h;omega
   unfold wpOpIn;simp only[ho];obtain ⟨act,hact,hh⟩:=hpull
   have run:opR P E x.op kx fr σ (fun v σ'=>bu8 P E B (pre++post) (fr.ao4 x.dst v) σ' K)->o.wpIn (fw ro) 0 P a w (wpAnyIn (fw ro) 0 P .any ops Qw fuel (listed.setIfInBounds ix true)) Qw:=by
    intro hop;refine dp6 hk hop hs hf (by omega) (fun hl=>⟨hno _ hit,hidx.1,hidx.2⟩) ?_;intro v σ' r ρ' w' hnx' hK hs' hv' hx' hno';refine ih (pre++post) _ _ σ' ρ' w' (a.put o.dst r) hlen' hrem hK hs' ?_ (by rw[put_defers]; exact hd) (hx.trans (hx'.weak (Nat.le_refl _))) hn0 (by omega) ?_
    ·rw[hdst]; exact FR.ao4 (hf.mono hx') hdN hv'
    ·intro jt hjt;obtain ⟨jo,hjo,_,h1,_⟩:=hr.its jt (hmem jt hjt)
     have hjl:jt.1<ops.size:=by
      rcases Nat.lt_or_ge jt.1 ops.size with h'|h'
      ·exact h'
      ·simp[Array.getElem?_eq_none h'] at hjo
     exact hno' _ (by rw[h1]; omega) (fun _=>hne2 jt hjt) (hno _ (hmem jt hjt))
   rcases hg with ⟨hg1,hg2⟩|⟨j,want,s,hg1,hgs,hg2⟩
   ·have hw:Region.wanted o (yielded ops a.tmps)=true:=by unfold Region.wanted; rw[hg1]
    rw[if_pos hw];simp only[bg2,hg2,Option.some.injEq] at hact;subst hact;exact run hh.1
   ·simp only[bg2,hg2] at hact;have hw:=by1 hg1 hgs hf hact
    rw[hw]
    cases act with
    | true=>exact run hh.1
    | false=>
     refine ⟨fun f _=>trivial,?_⟩;exact ih (pre++post) _ _ σ ρ w (a.put o.dst undef) hlen' hrem hh hs (by rw[hdst]; exact FR.ao4 hf hdN fz8) (by rw[put_defers]; exact hd) hx hn0 hnx (fun jt hjt=>hno _ (hmem jt hjt))
end Go.Id
/- Regions whose order is open: the check,and the rule. Conditions: none; over any program. -/
namespace Go.Id
open Go
variable {P:Program} {w w' w'':World} {ρ ρ' ρ'':Rho} {E:Nat->IV} {σ σ':Store} {N n n':Nat} {fr:Frm} {a:Act} {pf:List Nat}
def er1 (base:Nat):Nat->List ae7->List Item
 | _,[]=>[]
 | i,o::os=>(i,o,base+i)::er1 base (i+1) os
def ak2 (o:Oper):List Nat:=(o.after.toList.filter (Region.binds .any)).map (·.on)
def orF (ms:List Nat)(es:List Nat):Nat:=es.foldl (fun s e=>s ||| (2^e ||| ms.getD e 0)) 0
def fx6 (ess:List (List Nat)):List Nat:=ess.foldl (fun acc es=>acc++[orF acc es]) []
def er2 (p x:ae7):Bool :=
 (match x.dst with|none=>true|some d=>!p.uses.contains d&&p.dst != some d)&&(match p.dst with|none=>true|some d=>!x.uses.contains d)
def er3 (B:Bool)(ms:List Nat)(i:Nat)(p:ae7):Nat->List ae7->Bool
 | _,[]=>true
 | j,x::xs=>((ms.getD j 0).testBit i||(cs4 B p.op.kind x.op.kind&&er2 p x))&&er3 B ms i p (j+1) xs
def do8 (B:Bool)(ms:List Nat):Nat->List ae7->Bool
 | _,[]=>true
 | i,o::os=>er3 B ms i o (i+1) os&&do8 B ms (i+1) os
def io8:Nat->List (List Nat)->Bool
 | _,[]=>true
 | j,es::r=>es.all (fun e=>decide (e<j))&&io8 (j+1) r
def io9 (ms:List Nat):Nat->List (List Nat)->Bool
 | _,[]=>true
 | j,es::r=>ms.getD j 0==orF ms es&&io9 ms (j+1) r
def ja3 (ess:List (List Nat))(ios:List ae7)(B:Bool):Bool :=
 let ms:=fx6 ess
 io8 0 ess&&io9 ms 0 ess&&do8 B ms 0 ios&&ios.all fun o=>o.op.ops.all IX.quiet
def dy2 (ios:List ae7):Bool:=ios.any fun o=>o.op.kind==3
theorem fx7 {ms:List Nat}{k:Nat}:∀ (es:List Nat) (s:Nat),(es.foldl (fun s e=>s ||| (2^e ||| ms.getD e 0)) s).testBit k=true->s.testBit k=true\/∃ e∈es,e=k\/(ms.getD e 0).testBit k=true:=by
 intro es
 induction es with
 | nil=>exact fun s h=>.inl h
 | cons e es ih=>
  intro s h;rcases ih _ h with h1|⟨e',he,h1⟩
  ·rw[Nat.testBit_or,Nat.testBit_or,Nat.testBit_two_pow] at h1;simp only[Bool.or_eq_true,decide_eq_true_eq] at h1;rcases h1 with h1|h1|h1
   ·exact .inl h1
   ·exact .inr ⟨e,List.mem_cons_self ..,.inl h1⟩
   ·exact .inr ⟨e,List.mem_cons_self ..,.inr h1⟩
  ·exact .inr ⟨e',List.mem_cons_of_mem _ he,h1⟩
theorem cs6 {p x:ae7}(h:er2 p x=true):fx2 p x:=by
 unfold er2 at h;simp only[Bool.and_eq_true] at h;obtain ⟨h1,h2⟩:=h;refine ⟨fun d hd=>?_,fun d hd=>?_⟩
 ·rw[hd] at h1
  simpa using h1
 ·rw[hd] at h2
  simpa using h2
theorem fx8 {base:Nat}:∀ (ios:List ae7) (i:Nat),∀ it∈er1 base i ios,i<=it.1:=by
 intro ios
 induction ios with
 | nil=>intro i it h; cases h
 | cons o os ih=>
  intro i it h;rcases List.mem_cons.1 h with rfl|h
  ·exact Nat.le_refl _
  ·have:=ih _ it h; omega
theorem gr1 {base:Nat}:∀ (ios:List ae7) (i:Nat),(er1 base i ios).length=ios.length:=by
 intro ios
 induction ios with
 | nil=>intro i; rfl
 | cons o os ih=>intro i; simp[er1,ih]
theorem er4 {base:Nat}:∀ (ios:List ae7) (i j:Nat),i<=j->j<i+ios.length->∃ it∈er1 base i ios,it.1=j:=by
 intro ios
 induction ios with
 | nil=>intro i j h1 h2; simp at h2; omega
 | cons o os ih=>
  intro i j h1 h2;by_cases h:i=j
  ·exact ⟨_,List.mem_cons_self ..,h⟩
  ·obtain ⟨it,h3,h4⟩:=ih (i+1) j (by omega) (by simp at h2; omega);exact ⟨it,List.mem_cons_of_mem _ h3,h4⟩
theorem fx9 {base:Nat}:∀ (ios:List ae7) (i:Nat),∀ it∈er1 base i ios,it.2.2=base+it.1/\it.2.1∈ios:=by
 intro ios
 induction ios with
 | nil=>intro i it h; cases h
 | cons o os ih=>
  intro i it h;rcases List.mem_cons.1 h with rfl|h
  ·exact ⟨rfl,List.mem_cons_self ..⟩
  ·obtain ⟨h1,h2⟩:=ih _ it h;exact ⟨h1,List.mem_cons_of_mem _ h2⟩
theorem er5 {base:Nat}{ops:Array Oper}:∀ (os:List Oper) (ios:List ae7) (i:Nat),ops.toList.drop i=os->bm8 P pf N ops os=some ios->∀ it∈er1 base i ios,∃ o,ops[it.1]? = some o/\cd2 P pf N ops o=some it.2.1:=by
 intro os
 induction os with
 | nil=>intro ios i _ hc it hit; cases hc; cases hit
 | cons o os ih=>
  intro ios i hdrop hc it hit;simp only[bm8] at hc;split at hc
  ·rename_i io ios' hio hios;cases hc
   have hi:ops[i]? = some o:=by
    have:=congrArg (fun l=>l[0]?) hdrop
    simpa [List.getElem?_drop] using this
   have hdrop':ops.toList.drop (i+1)=os:=by
    have:=congrArg (List.drop 1) hdrop
    simpa [List.drop_drop] using this
   rcases List.mem_cons.1 hit with rfl|hit
   ·exact ⟨o,hi,hio⟩
   ·exact ih ios' (i+1) hdrop' hios it hit
  ·cases hc
theorem dc4 {ops:Array Oper}:∀ (os:List Oper) (ios:List ae7),bm8 P pf N ops os=some ios->ios.length=os.length:=by
 intro os
 induction os with
 | nil=>intro ios h; cases h; rfl
 | cons o os ih=>
  intro ios h;simp only[bm8] at h;split at h
  ·rename_i io ios' hio hios;cases h;simp[ih _ hios]
  ·cases h
theorem eh4 {B:Bool}{ms:List Nat}{i base:Nat}{p:ae7}:∀ (xs:List ae7) (j:Nat),er3 B ms i p j xs=true->∀ it∈er1 base j xs,(ms.getD it.1 0).testBit i=true\/fx3 B p it.2.1:=by
 intro xs
 induction xs with
 | nil=>intro j _ it h; cases h
 | cons x xs ih=>
  intro j h it hit;simp only[er3,Bool.and_eq_true,Bool.or_eq_true] at h;rcases List.mem_cons.1 hit with rfl|hit
  ·rcases h.1 with h1|h1
   ·exact .inl h1
   ·exact .inr ⟨h1.1,cs6 h1.2⟩
  ·exact ih _ h.2 it hit
theorem fc6 {B:Bool}{ms:List Nat}{base:Nat}:∀ (xs:List ae7) (i:Nat),do8 B ms i xs=true->(er1 base i xs).Pairwise fun p x=>((ms.getD x.1 0).testBit p.1=true\/fx3 B p.2.1 x.2.1)/\p.1<x.1:=by
 intro xs
 induction xs with
 | nil=>intro i _; exact .nil
 | cons x xs ih=>
  intro i h;simp only[do8,Bool.and_eq_true] at h;refine List.pairwise_cons.2 ⟨fun it hit=>⟨eh4 xs _ h.1 it hit,?_⟩,ih _ h.2⟩;have:=fx8 xs _ it hit;simp only;omega
theorem cs7:∀ (ess:List (List Nat)) (i:Nat),io8 i ess=true->∀ j es,ess[j]? = some es->∀ e∈es,e<i+j:=by
 intro ess
 induction ess with
 | nil=>intro i _ j es h; simp at h
 | cons x ess ih=>
  intro i h j es hj e he;simp only[io8,Bool.and_eq_true,List.all_eq_true,decide_eq_true_eq] at h
  cases j with
  | zero=>simp at hj; subst hj; exact h.1 e he
  | succ j=>have:=ih (i+1) h.2 j es (by simpa using hj) e he; omega
theorem dy3 {ms:List Nat}:∀ (ess:List (List Nat)) (i:Nat),io9 ms i ess=true->∀ j es,ess[j]? = some es->ms.getD (i+j) 0=orF ms es:=by
 intro ess
 induction ess with
 | nil=>intro i _ j es h; simp at h
 | cons x ess ih=>
  intro i h j es hj;simp only[io9,Bool.and_eq_true,beq_iff_eq] at h
  cases j with
  | zero=>simp at hj; subst hj; exact h.1
  | succ j=>
   have:=ih (i+1) h.2 j es (by simpa using hj);rw[<- this]; congr 1; omega
theorem fy1 {n0 id:Nat}{ops:Array Oper}{ios:List ae7}{B:Bool}{Q:Exit->Frm->Store->Prop}{ks:List Nat}(hm:P.follows .mixedOrders=true)(hc:bm8 P pf N ops ops.toList=some ios)
  (hok:ja3 (ops.toList.map ak2) ios B=true)
  (h:bu8 P E B (er1 σ.next 0 ios) fr { σ with next:=σ.next+ios.length } (fun fr' σ'=>Q .normal (fr'.keep ks) σ')):R P E N n0 (.region id ops true) fr σ Q:=by
 intro hn ro h0 ρ w a hs hf hd hr;refine wpIn_region_any hm ?_;have hlen:ios.length=ops.size:=by rw[dc4 _ _ hc]; simp
 unfold ja3 at hok;simp only[Bool.and_eq_true,List.all_eq_true] at hok;obtain ⟨⟨⟨hed,hms⟩,hpr⟩,hq⟩:=hok;generalize fx6 (ops.toList.map ak2)=ms at hms hpr;have hes:∀ (j:Nat) (o:Oper),ops[j]? = some o->(ops.toList.map ak2)[j]? = some (ak2 o):=fun j o ho=>by simp[ho]
 have hme:∀ (o:Oper) (k:Nat),k∈ak2 o->∃ e∈o.after,Region.binds .any e=true/\e.on=k:=fun o k hk=>by
  unfold ak2 at hk;obtain ⟨e,he,rfl⟩:=List.mem_map.1 hk;obtain ⟨h1,h2⟩:=List.mem_filter.1 he;exact ⟨e,by simpa using h1,h2,rfl⟩
 have hem:∀ (o:Oper) (e:Edge),e∈o.after->Region.binds .any e=true->e.on∈ak2 o:=fun o e he hb=>
  List.mem_map.2 ⟨e,List.mem_filter.2 ⟨by simpa using he,hb⟩,rfl⟩
 refine fx5 (E:=E) (pf:=pf) (N:=N) (B:=B) (anc:=fun k j=>(ms.getD j 0).testBit k=true) (n0:=n0) (base:=σ.next) (ρ0:=ρ) (w0:=w) (ds:=a.defers) (K:=fun fr' σ'=>Q .normal (fr'.keep ks) σ') ?_ ?_ ?_ ?_
  ops.size (er1 σ.next 0 ios) _ fr { σ with next:=σ.next+ios.length } ρ w.drew a (by rw[gr1,hlen]) ?_ h
  (dp4 (cp4 hs) (fun i hi=>hs.fresh i (by omega))) (hf.mono (az9 0)) rfl ((az9 n0).weak (Nat.le_refl _)) hn (by rw[hlen]; exact Nat.le_refl _) ?_
 ·intro f f' s hff hK
  have:f'.keep ks=f.keep ks:=by
   unfold Frm.keep;exact List.map_congr_left fun k _=>by rw[hff k]
  rw[this]; exact hK
 ·intro fr' σ' ρ' w' a' hn' hK hs' hf' hd' hx;exact ⟨fr'.keep ks,σ',ρ',hn',hK,hs',hf'.keep ks,by rw[hd']; exact hd.mono hx,hr.mono hx,hx⟩
 ·intro j o ho e he hb;have:=cs7 _ _ hed j _ (hes j o ho) _ (hem o e he hb)
  have hj:j<ops.size:=by
   rcases Nat.lt_or_ge j ops.size with h'|h'
   ·exact h'
   ·simp[Array.getElem?_eq_none h'] at ho
  omega
 ·intro k j hk o ho;have:=dy3 _ _ hms j _ (hes j o ho);simp only[Nat.zero_add] at this;rw[this] at hk;rcases fx7 _ _ hk with h1|⟨e,he,h1⟩
  ·simp at h1
  ·obtain ⟨ed,hed1,hb,heq⟩:=hme o e he;exact ⟨ed,hed1,hb,by rw[heq]; exact h1⟩
 ·refine ⟨by simp,fun j hj=>?_,fun it hit=>?_,?_,?_⟩
  ·constructor
   ·intro _;exact er4 ios 0 j (Nat.zero_le _) (by omega)
   ·intro _; simp[hj]
  ·obtain ⟨o,h1,h2⟩:=er5 ops.toList ios 0 rfl hc it hit;obtain ⟨h3,h4⟩:=fx9 ios 0 it hit;exact ⟨o,h1,h2,h3,hq _ h4⟩
  ·refine (fc6 ios 0 hpr).imp ?_;intro p x ⟨h1,h2⟩;refine ⟨h1,by omega,fun o ho e he hb=>?_⟩;have:=cs7 _ _ hed p.1 _ (hes p.1 o ho) _ (hem o e he hb);omega
  ·intro j hj;exfalso;by_cases hlt:j<ops.size
   ·simp[hlt] at hj
   ·simp[hlt] at hj
 ·intro it hit;exact hs.fresh _ (by rw[(fx9 ios 0 it hit).1]; omega)
end Go.Id
set_option linter.all false
namespace Go.Id
open Go
variable {P:Program} {w w' w'':World} {ρ ρ' ρ'':Rho} {E:Nat->IV} {σ σ':Store} {N n n':Nat} {fr:Frm} {a:Act} {pf:List Nat}
def IK.cls:IK->Nat
 | .q u=>match u.kind with
  | 0=>0
  | _=>1
 | .af5 _ _|.av4 _ _ _ _|.ag6 _=>0
 | _=>2
theorem cs8 {op:IK}(h:op.cls=0):op.kind=0:=by
 cases op with
 | q u=>
  simp only[IK.cls] at h;split at h
  ·rename_i hk; exact hk
  ·cases h
 | af5 f xs=>rfl
 | av4 _ _ _ _=>rfl
 | ag6 _=>rfl
 | _=>cases h
theorem ip1 {op:IK}(h:op.cls<=1):(∃ q,op=.q q)\/op.cls=0:=by
 cases op with
 | q u=>exact .inl ⟨u,rfl⟩
 | af5 f xs=>exact .inr rfl
 | av4 _ _ _ _=>exact .inr rfl
 | ag6 _=>exact .inr rfl
 | _=>simp[IK.cls] at h
theorem cs9 {op:IK}{id:Nat}{K:IV->Store->Prop}(h:op.cls<=1):opR P E op id fr σ K↔∃ v,bp1 P E op id fr σ v σ/\K v σ:=by
 cases op with
 | q q=>exact ⟨fun ⟨v,h,k⟩=>⟨v,⟨h,rfl⟩,k⟩,fun ⟨v,⟨h,_⟩,k⟩=>⟨v,h,k⟩⟩
 | af5 f xs=>exact ⟨fun ⟨v,h,k⟩=>⟨v,⟨h,rfl⟩,k⟩,fun ⟨v,⟨h,_⟩,k⟩=>⟨v,h,k⟩⟩
 | av4 e n z ps=>exact ⟨fun ⟨out,h,k⟩=>⟨_,⟨out,h,rfl,rfl⟩,k⟩,fun ⟨_,⟨out,h,e1,_⟩,k⟩=>by subst e1; exact ⟨out,h,k⟩⟩
 | ag6 x=>exact ⟨fun ⟨h,k⟩=>⟨_,⟨h,rfl,rfl⟩,k⟩,fun ⟨_,⟨h,e1,_⟩,k⟩=>by subst e1; exact ⟨h,k⟩⟩
 | _=>simp[IK.cls] at h
theorem fy2 {op:IK}{id:Nat}{v:IV}(hk:op.cls<=1)(h:bp1 P E op id fr σ v σ'):σ'=σ:=by
 cases op with
 | q q=>exact h.2
 | af5 f xs=>exact h.2
 | av4 e n z ps=>obtain ⟨_,_,_,h⟩:=h; exact h
 | ag6 x=>exact h.2.2
 | _=>simp[IK.cls] at hk
def do9 (E:Nat->IV)(fr:Frm):IQ->IQ
 | .load a x=>.load a (.c (x.ev E fr))
 | .lkp t z ok x k=>.lkp t z ok (.c (x.ev E fr)) (.c (k.ev E fr))
 | .len k x=>.len k (.c (x.ev E fr))
 | q=>q
theorem gr2 {q:IQ}(f:Frm)(h:q.kind≠0):evq E f σ (do9 E fr q)=evq E fr σ q:=by
 cases q with
 | load a x=>rfl
 | lkp t z ok x k=>rfl
 | len k x=>rfl
 | _=>exact absurd rfl h
theorem gr3 {fr fr':Frm}{q:IQ}(h:∀ t∈q.ops.flatMap IX.uses,fr.get t=fr'.get t):do9 E fr q=do9 E fr' q:=by
 cases q with
 | load a x=>simp only[do9]; rw[ah7 (x:=x) (fun t ht=>h t (by simp[IQ.ops,ht]))]
 | lkp t z ok x k=>simp only[do9]; rw[ah7 (x:=x) (fun t ht=>h t (by simp[IQ.ops,ht])),ah7 (x:=k) (fun t ht=>h t (by simp[IQ.ops,ht]))]
 | len k x=>simp only[do9]; rw[ah7 (x:=x) (fun t ht=>h t (by simp[IQ.ops,ht]))]
 | _=>rfl
abbrev LE:=Nat×IQ×IV
def bm5 (E:Nat->IV)(fr:Frm)(i:Nat)(op:IK)(v:IV)(L:List LE):List LE :=
 match op with
 | .q q=>if q.kind=0 then L else (i,do9 E fr q,v)::L
 | _=>L
theorem cc9 {fr fr':Frm}{i:Nat}{op:IK}{v:IV}{L:List LE}(h:∀ t∈op.ops.flatMap IX.uses,fr.get t=fr'.get t):bm5 E fr i op v L=bm5 E fr' i op v L:=by
 cases op with
 | q q=>simp only[bm5]; rw[gr3 (q:=q) (fun t ht=>h t ht)]
 | _=>rfl
theorem bp2 {i:Nat}{op:IK}{v:IV}{L:List LE}:∀ e∈L,e∈bm5 E fr i op v L:=by
 intro e he;unfold bm5;split
 ·split
  ·exact he
  ·exact List.mem_cons_of_mem _ he
 ·exact he
theorem fy3 {i:Nat}{op:IK}{v:IV}{L L':List LE}(h:∀ e∈L',e∈L):∀ e∈bm5 E fr i op v L',e∈bm5 E fr i op v L:=by
 intro e he
 cases op with
 | q q=>
  simp only[bm5] at he ⊢;by_cases hk:q.kind=0
  ·rw[if_pos hk] at he ⊢; exact h e he
  ·rw[if_neg hk] at he ⊢;rcases List.mem_cons.1 he with rfl|he
   ·exact List.mem_cons_self ..
   ·exact List.mem_cons_of_mem _ (h e he)
 | _=>exact h e he
theorem ct1 {i:Nat}{op:IK}{v:IV}{L:List LE}(h:¬ op.cls<=1):bm5 E fr i op v L=L:=by
 cases op with
 | q q=>exfalso; apply h; simp only[IK.cls]; split<;>omega
 | _=>rfl
theorem gr4 {i j:Nat}{op op':IK}{v v':IV}{L:List LE}{fr':Frm}(e:LE):e∈bm5 E fr i op v (bm5 E fr' j op' v' L)↔e∈bm5 E fr' j op' v' (bm5 E fr i op v L):=by
 have key:∀ (fr:Frm) (i:Nat) (op:IK) (v:IV),(∃ x:LE,∀ L,bm5 E fr i op v L=x::L)\/∀ L,bm5 E fr i op v L=L:=by
  intro fr i op v
  cases op with
  | q q=>
   by_cases hk:q.kind=0
   ·exact .inr fun L=>by simp only[bm5,hk,if_true]
   ·exact .inl ⟨(i,do9 E fr q,v),fun L=>by simp only[bm5,hk,if_false]⟩
  | _=>exact .inr fun _=>rfl
 rcases key fr i op v with ⟨x,hx⟩|hx<;>rcases key fr' j op' v' with ⟨y,hy⟩|hy<;>simp only[hx,hy]
 simp only[List.mem_cons];constructor
 ·rintro (h|h|h)
  ·exact .inr (.inl h)
  ·exact .inl h
  ·exact .inr (.inr h)
 ·rintro (h|h|h)
  ·exact .inr (.inl h)
  ·exact .inl h
  ·exact .inr (.inr h)
def hl6 (E:Nat->IV)(L:List LE)(m:Nat)(σ:Store):Prop:=∀ e∈L,m.testBit e.1=true->evq E [] σ e.2.1=some e.2.2
theorem bm6 {L:List LE}:hl6 E L 0 σ:=fun e _ h=>by simp at h
theorem bi3 {L L':List LE}{m:Nat}(h:∀ e∈L',e∈L)(hc:hl6 E L m σ):hl6 E L' m σ:=fun e he=>hc e (h e he)
abbrev da2:=Nat×ae7×Nat×Nat
def jc5 (P:Program)(E:Nat->IV)(o:ae7)(id m:Nat)(L:List LE)(fr:Frm)(σ:Store)(K:IV->Store->Prop)(Ks:Prop):Prop :=
 (bg2 o fr=some true/\opR P E o.op id fr σ (fun v σ'=>hl6 E L m σ'/\K v σ'))\/(bg2 o fr=some false/\Ks)
def ax5 (P:Program)(E:Nat->IV):List da2->List LE->Frm->Store->(Frm->Store->Prop)->Prop
 | [],_,fr,σ,K=>K fr σ
 | (i,o,id,m)::rest,L,fr,σ,K=>jc5 P E o id m L fr σ (fun v σ'=>ax5 P E rest (bm5 E fr i o.op v L) (fr.ao4 o.dst v) σ' K) (ax5 P E rest L (fr.ao4 o.dst skV) σ K)
theorem fy4 {K:Frm->Store->Prop}:∀ (its:List da2) (L L':List LE) (fr:Frm) (σ:Store),(∀ e∈L',e∈L)->ax5 P E its L fr σ K->ax5 P E its L' fr σ K:=by
 intro its
 induction its with
 | nil=>exact fun _ _ _ _ _ h=>h
 | cons it its ih=>
  obtain ⟨i,o,id,m⟩:=it;rintro L L' fr σ hs (⟨ha,h⟩|⟨ha,h⟩)
  ·exact .inl ⟨ha,am3 (fun v s ⟨c,k⟩=>⟨bi3 hs c,ih _ _ _ _ (fy3 hs) k⟩) h⟩
  ·exact .inr ⟨ha,ih _ _ _ _ hs h⟩
theorem bf9 {K:Frm->Store->Prop}(hK:∀ f f' s,FEq f f'->K f s->K f' s):∀ (its:List da2) (L:List LE) (fr fr':Frm) (σ:Store),FEq fr fr'->ax5 P E its L fr σ K->ax5 P E its L fr' σ K:=by
 intro its
 induction its with
 | nil=>exact fun _ fr fr' σ h k=>hK _ _ _ h k
 | cons it its ih=>
  obtain ⟨i,o,id,m⟩:=it;rintro L fr fr' σ hf (⟨ha,h⟩|⟨ha,h⟩)
  ·refine .inl ⟨by rw[<- bi2 (fun t _=>hf t)]; exact ha,am3 (fun v s ⟨c,k⟩=>⟨c,?_⟩) (fx1 hf h)⟩;show ax5 P E its (bm5 E fr' i o.op v L) _ s K;rw[<- cc9 (fr:=fr) (fun t _=>hf t)]; exact ih _ _ _ _ (cp6 hf _ _) k
  ·exact .inr ⟨by rw[<- bi2 (fun t _=>hf t)]; exact ha,ih _ _ _ _ (cp6 hf _ _) h⟩
theorem fc7 {K K':Frm->Store->Prop}:∀ (its:List da2) (L:List LE) (fr:Frm) (σ:Store),(∀ f s,K f s->K' f s)->ax5 P E its L fr σ K->ax5 P E its L fr σ K':=by
 intro its
 induction its with
 | nil=>exact fun _ _ _ hk h=>hk _ _ h
 | cons it its ih=>
  obtain ⟨i,o,id,m⟩:=it;rintro L fr σ hk (⟨ha,h⟩|⟨ha,h⟩)
  ·exact .inl ⟨ha,am3 (fun v s ⟨c,k⟩=>⟨c,ih _ _ _ hk k⟩) h⟩
  ·exact .inr ⟨ha,ih _ _ _ hk h⟩
theorem fy5 {op:IK}{id:Nat}{fr fr':Frm}{K:IV->Store->Prop}(h:∀ t∈op.ops.flatMap IX.uses,fr.get t=fr'.get t):opR P E op id fr σ K->opR P E op id fr' σ K:=by
 cases op with
 | q q=>simp only[opR]; rw[fw6 (fun t ht=>h t ht)]; exact fun h=>h
 | alloc z=>exact fun h=>h
 | box x=>simp only[opR]; rw[ah7 (x:=x) (fun t ht=>h t (by simp[IK.ops,ht]))]; exact fun h=>h
 | bsl e n z ps=>simp only[opR]; rw[at7 (fun t ht=>h t ht)]; exact fun h=>h
 | store e x y=>simp only[opR]; rw[ah7 (x:=x) (fun t ht=>h t (by simp[IK.ops,ht])),ah7 (x:=y) (fun t ht=>h t (by simp[IK.ops,ht]))]; exact fun h=>h
 | app e x y=>simp only[opR]; rw[ah7 (x:=x) (fun t ht=>h t (by simp[IK.ops,ht])),ah7 (x:=y) (fun t ht=>h t (by simp[IK.ops,ht]))]; exact fun h=>h
 | bm9=>exact fun h=>h
 | bk1 x=>simp only[opR]; rw[ah7 (x:=x) (fun t ht=>h t (by simp[IK.ops,ht]))]; exact fun h=>h
 | ct4 x=>simp only[opR]; rw[ah7 (x:=x) (fun t ht=>h t (by simp[IK.ops,ht]))]; exact fun h=>h
 | dc5 t x y z=>simp only[opR]; rw[ah7 (x:=x) (fun t ht=>h t (by simp[IK.ops,ht])),ah7 (x:=y) (fun t ht=>h t (by simp[IK.ops,ht])),ah7 (x:=z) (fun t ht=>h t (by simp[IK.ops,ht]))]; exact fun h=>h
 | call f xs=>simp only[opR]; rw[ay6 (xs:=xs) h]; exact fun h=>h
 | af5 f xs=>simp only[opR]; rw[ay6 (xs:=xs) h]; exact fun h=>h
 | ao5 x xs=>
  simp only[IK.ops,List.flatMap_cons,List.mem_append] at h
  simp only[opR]; rw[ay6 (xs:=xs) (fun t ht=>h t (.inr ht)),ah7 (x:=x) (fun t ht=>h t (.inl ht))]; exact fun h=>h
 | av4 e n z ps=>simp only[opR]; rw[at7 (fun t ht=>h t ht)]; exact fun h=>h
 | ag6 x=>simp only[opR]; rw[ah7 (x:=x) (fun t ht=>h t (by simp[IK.ops,ht]))]; exact fun h=>h
 | bd3 x=>simp only[opR]; rw[ah7 (x:=x) (fun t ht=>h t (by simp[IK.ops,ht]))]; exact fun h=>h
 | cd4 x=>simp only[opR]; rw[ah7 (x:=x) (fun t ht=>h t (by simp[IK.ops,ht]))]; exact fun h=>h
 | fd8 x=>simp only[opR]; rw[ah7 (x:=x) (fun t ht=>h t (by simp[IK.ops,ht]))]; exact fun h=>h
 | dc6 e z x=>simp only[opR]; rw[ah7 (x:=x) (fun t ht=>h t (by simp[IK.ops,ht]))]; exact fun h=>h
 | clr e z x=>simp only[opR]; rw[ah7 (x:=x) (fun t ht=>h t (by simp[IK.ops,ht]))]; exact fun h=>h
 | st k xs=>simp only[opR]; rw[ay6 (xs:=xs) h]; exact fun h=>h
def fy6 (p x:da2):Prop :=
 fx2 p.2.1 x.2.1/\(p.2.1.op.cls<=1/\p.2.2.2=0/\(p.2.1.op.cls=0\/x.2.1.op.cls<=1\/x.2.2.2.testBit p.1=true\/cs4 false p.2.1.op.kind x.2.1.op.kind=true) \/
  ¬ p.2.1.op.cls<=1/\cs4 false p.2.1.op.kind x.2.1.op.kind=true/\x.2.2.2=0/\(p.2.2.2=0\/x.2.1.op.cls<=1/\p.2.2.2.testBit x.1=false))
theorem gr5 {i m:Nat}{op:IK}{v:IV}{L:List LE}(h:hl6 E L m σ)(hb:m.testBit i=false):hl6 E (bm5 E fr i op v L) m σ:=by
 intro e he hm;unfold bm5 at he;split at he
 ·split at he
  ·exact h e he hm
  ·rcases List.mem_cons.1 he with rfl|he
   ·simp only at hm; rw[hb] at hm; cases hm
   ·exact h e he hm
 ·exact h e he hm
theorem jc6 {K:Frm->Store->Prop} (hK:∀ f f' s,FEq f f'->K f s->K f' s) {ix:Nat} {x:ae7} {kx mx:Nat} {post:List da2} :
  ∀ (pre:List da2) (L:List LE) (fr:Frm) (σ:Store),(∀ p∈pre,fy6 p (ix,x,kx,mx))->(∀ p∈pre,p.2.2.1≠kx/\σ.obj p.2.2.1=none)->(pre.map (·.2.2.1)).Nodup->(pre≠[]->σ.obj kx=none) ->
   (∀ p∈pre,p.2.1.op.kind=2->∀ y∈x.op.ops,bk8 p.2.2.1 (y.ev E fr)) ->
   ax5 P E (pre++(ix,x,kx,mx)::post) L fr σ K ->
   jc5 P E x kx mx L fr σ (fun v σ'=>ax5 P E (pre++post) (bm5 E fr ix x.op v L) (fr.ao4 x.dst v) σ' K) (ax5 P E (pre++post) L (fr.ao4 x.dst skV) σ K):=by
 intro pre
 induction pre with
 | nil=>intro L fr σ _ _ _ _ _ h; exact h
 | cons p pre ih=>
  intro L fr σ hfree hids hnd hnx hH h;obtain ⟨ip,p,kp,mp⟩:=p;obtain ⟨hap,hfr⟩:=hfree _ (List.mem_cons_self ..);obtain ⟨hpx,hkp⟩:=hids _ (List.mem_cons_self ..);simp only at hap hfr hpx hkp;have hnx0:=hnx (by simp);have hnd':=List.nodup_cons.1 (show (kp::pre.map (·.2.2.1)).Nodup from hnd)
  have hfx:∀ vp,∀ t∈x.uses,(fr.ao4 p.dst vp).get t=fr.get t:=fun vp t ht=>by
   rw[bd1,if_neg]; intro e; exact hap.2 t e ht
  have hfxo:∀ vp,∀ t∈x.op.ops.flatMap IX.uses,(fr.ao4 p.dst vp).get t=fr.get t:=fun vp t ht=>hfx vp t (ba1 ht)
  have hfp:∀ vx,∀ t∈p.uses,fr.get t=(fr.ao4 x.dst vx).get t:=fun vx t ht=>by
   rw[bd1,if_neg]; intro e; exact (hap.1 t e).1 ht
  have hfpo:∀ vx,∀ t∈p.op.ops.flatMap IX.uses,fr.get t=(fr.ao4 x.dst vx).get t:=fun vx t ht=>hfp vx t (ba1 ht)
  have feq:∀ vp vx,FEq ((fr.ao4 p.dst vp).ao4 x.dst vx) ((fr.ao4 x.dst vx).ao4 p.dst vp):=fun vp vx t=>by
   simp only[bd1];by_cases h1:x.dst=some t
   ·have h2:p.dst≠some t:=(hap.1 t h1).2;simp[h1,h2]
   ·simp[h1]
  have hactx:∀ vp ax,bg2 x (fr.ao4 p.dst vp)=some ax->bg2 x fr=some ax:=fun vp ax h=>by rw[<- bi2 (hfx vp)]; exact h
  have hactp:∀ {ap:Bool},bg2 p fr=some ap->∀ vx,bg2 p (fr.ao4 x.dst vx)=some ap:=fun hact vx=>by rw[<- bi2 (hfp vx)]; exact hact
  -- the rest,at a store where the fresh ones are fresh
  have IH:∀ (vp:IV) (L1:List LE) (σ1:Store),(∀ i,i≠kp->σ.obj i=none->σ1.obj i=none)->ax5 P E (pre++(ix,x,kx,mx)::post) L1 (fr.ao4 p.dst vp) σ1 K ->
    jc5 P E x kx mx L1 (fr.ao4 p.dst vp) σ1 (fun v σ'=>ax5 P E (pre++post) (bm5 E (fr.ao4 p.dst vp) ix x.op v L1) ((fr.ao4 p.dst vp).ao4 x.dst v) σ' K) (ax5 P E (pre++post) L1 ((fr.ao4 p.dst vp).ao4 x.dst skV) σ1 K):=by
   intro vp L1 σ1 fresh1 ht
   exact ih L1 (fr.ao4 p.dst vp) σ1 (fun q hq=>hfree q (List.mem_cons_of_mem _ hq))
    (fun q hq=>⟨(hids q (List.mem_cons_of_mem _ hq)).1,fresh1 _ (fun e=>hnd'.1 (by rw[<- e]; exact List.mem_map.2 ⟨q,hq,rfl⟩)) (hids q (List.mem_cons_of_mem _ hq)).2⟩)
    hnd'.2 (fun _=>fresh1 kx (fun e=>hpx e.symm) hnx0)
    (fun q hq hk2 y hy=>by
     have:y.ev E (fr.ao4 p.dst vp)=y.ev E fr:=ah7 fun t ht=>hfxo vp t (List.mem_flatMap.2 ⟨y,hy,ht⟩)
     rw[this]; exact hH q (List.mem_cons_of_mem _ hq) hk2 y hy) ht
  rcases h with ⟨hact,hh⟩|⟨hact,hh⟩
  ·rcases hfr with ⟨kp1,hmp,hc⟩|⟨kp2,hfk,hmx,hc⟩
   ·-- p reads at most
    subst hmp;obtain ⟨vp,hd,_,htree⟩:=(cs9 kp1).1 hh;have hde:∀ {s:Store} vx,bp1 P E p.op kp fr s vp s->bp1 P E p.op kp (fr.ao4 x.dst vx) s vp s:=fun vx h=>bm4 (hfpo vx) h
    rcases IH vp _ σ (fun _ _ h=>h) htree with ⟨h1,h2⟩|⟨h1,h2⟩
    ·have h3:=fy5 (hfxo vp) h2
     have h4:opR P E x.op kx fr σ (fun v σ'=>bp1 P E p.op kp fr σ' vp σ'/\hl6 E L mx σ'/\ax5 P E (pre++post) (bm5 E (fr.ao4 p.dst vp) ix x.op v (bm5 E fr ip p.op vp L)) ((fr.ao4 p.dst vp).ao4 x.dst v) σ' K):=by
      rcases hc with c0|cx|cm|ck
      ·exact am3 (fun v s ⟨c,k⟩=>⟨(bx5 (cs8 c0) hd).2 s,bi3 bp2 c,k⟩) h3
      ·obtain ⟨vx,e1,c,k⟩:=(cs9 cx).1 h3;exact (cs9 cx).2 ⟨vx,e1,hd,bi3 bp2 c,k⟩
      ·rcases ip1 kp1 with ⟨q,hq⟩|c0
       ·by_cases hk0:q.kind=0
        ·have c0:p.op.cls=0:=by rw[hq]; simp only[IK.cls,hk0]
         exact am3 (fun v s ⟨c,k⟩=>⟨(bx5 (cs8 c0) hd).2 s,bi3 bp2 c,k⟩) h3
        ·refine am3 (fun v s ⟨c,k⟩=>⟨?_,bi3 bp2 c,k⟩) h3;rw[hq];refine ⟨?_,rfl⟩
         have hmem:(ip,do9 E fr q,vp)∈bm5 E fr ip p.op vp L:=by
          rw[hq];simp only[bm5,hk0,if_false];exact List.mem_cons_self ..
         have:=c _ hmem cm;rw[gr2 _ hk0] at this;exact this
       ·exact am3 (fun v s ⟨c,k⟩=>⟨(bx5 (cs8 c0) hd).2 s,bi3 bp2 c,k⟩) h3
      ·obtain ⟨kp5,kx5⟩:=do7 ck;obtain ⟨vx,σ2,e1,c,k⟩:=(bb5 kx5).1 h3;have e1':bp1 P E x.op kx (fr.ao4 p.dst vp) σ vx σ2:=bm4 (fun t ht=>(hfxo vp t ht).symm) e1;obtain ⟨σ1',s1,_,s3,_⟩:=do6 (B:=false) hd (fun h=>by cases h) e1' (fun h=>by cases h) ck (hfxo vp) (hfpo vx) hpx hkp hnx0 (hH _ (List.mem_cons_self ..));have hs:σ2=σ1':=fy2 kp1 s3;subst hs;exact (bb5 kx5).2 ⟨vx,σ2,s1,bm4 (fun t ht=>(hfpo vx t ht).symm) s3,bi3 bp2 c,k⟩
     refine .inl ⟨hactx _ _ h1,am3 (fun v s ⟨hd',c,k⟩=>⟨c,?_⟩) h4⟩;refine .inl ⟨hactp hact v,(cs9 kp1).2 ⟨vp,hde v hd',bm6,?_⟩⟩;rw[cc9 (fr':=fr) (hfxo vp)] at k;have k2:=bf9 hK _ _ _ _ _ (feq vp v) k;show ax5 P E (pre++post) (bm5 E (fr.ao4 x.dst v) ip p.op vp (bm5 E fr ix x.op v L)) _ s K;rw[<- cc9 (fr:=fr) (hfpo v)];exact fy4 _ _ _ _ _ (fun e he=>(gr4 e).1 he) k2
    ·refine .inr ⟨hactx _ _ h1,.inl ⟨hactp hact skV,(cs9 kp1).2 ⟨vp,hde skV hd,bm6,?_⟩⟩⟩;show ax5 P E (pre++post) (bm5 E (fr.ao4 x.dst skV) ip p.op vp L) _ σ K;rw[<- cc9 (fr:=fr) (hfpo skV)];exact bf9 hK _ _ _ _ _ (feq vp skV) h2
   ·-- p writes,or lays
    obtain ⟨kp5,kx5⟩:=do7 hfk;obtain ⟨vp,σ1,hd,hchk,htree⟩:=(bb5 kp5).1 hh;subst hmx;rw[ct1 kp2] at htree;rcases IH vp _ σ1 (fun i hi h0=>dy1 kp5 hi hd h0) htree with ⟨h1,h2⟩|⟨h1,h2⟩
    ·obtain ⟨vx,σ2,e1,_,k⟩:=(bb5 kx5).1 h2;obtain ⟨σ1',s1,_,s3,_⟩:=do6 (B:=false) hd (fun h=>by cases h) e1 (fun h=>by cases h) hfk (hfxo vp) (hfpo vx) hpx hkp hnx0 (hH _ (List.mem_cons_self ..));refine .inl ⟨hactx _ _ h1,(bb5 kx5).2 ⟨vx,σ1',s1,bm6,.inl ⟨hactp hact vx,(bb5 kp5).2 ⟨vp,σ2,s3,?_,?_⟩⟩⟩⟩
     ·rcases hc with h0|⟨cx,hb⟩
      ·subst h0; exact bm6
      ·have hs:σ2=σ1:=fy2 cx e1;subst hs;exact gr5 hchk hb
     ·show ax5 P E (pre++post) (bm5 E _ ip p.op vp (bm5 E fr ix x.op vx L)) _ σ2 K;rw[ct1 kp2];rw[cc9 (fr':=fr) (hfxo vp)] at k;exact bf9 hK _ _ _ _ _ (feq vp vx) k
    ·refine .inr ⟨hactx _ _ h1,.inl ⟨hactp hact skV,(bb5 kp5).2 ⟨vp,σ1,bm4 (hfpo skV) hd,hchk,?_⟩⟩⟩;show ax5 P E (pre++post) (bm5 E _ ip p.op vp L) _ σ1 K;rw[ct1 kp2];exact bf9 hK _ _ _ _ _ (feq vp skV) h2
  ·rcases IH skV L σ (fun _ _ h=>h) hh with ⟨h1,h2⟩|⟨h1,h2⟩
   ·refine .inl ⟨hactx _ _ h1,am3 (fun v s ⟨c,k⟩=>⟨c,?_⟩) (fy5 (hfxo skV) h2)⟩;refine .inr ⟨hactp hact v,?_⟩;replace k:ax5 P E (pre++post) (bm5 E (fr.ao4 p.dst skV) ix x.op v L) ((fr.ao4 p.dst skV).ao4 x.dst v) s K:=k;rw[cc9 (fr':=fr) (hfxo skV)] at k;exact bf9 hK _ _ _ _ _ (feq skV v) k
   ·exact .inr ⟨hactx _ _ h1,.inr ⟨hactp hact skV,bf9 hK _ _ _ _ _ (feq skV skV) h2⟩⟩
end Go.Id
/- Open regions whose readers are taken ahead: the check,and the rule. Conditions: none; over any program. -/
namespace Go.Id
open Go
variable {P:Program} {w w' w'':World} {ρ ρ' ρ'':Rho} {E:Nat->IV} {σ σ':Store} {N n n':Nat} {fr:Frm} {a:Act} {pf:List Nat}
structure jj5 (P:Program) (pf:List Nat) (N:Nat) (ops:Array Oper) (anc:Nat->Nat->Prop) (base:Nat) (rem:List da2) (listed:Array Bool):Prop where
 size:listed.size=ops.size
 un:∀ j,j<ops.size->(listed.getD j true=false↔∃ it∈rem,it.1=j)
 its:∀ it∈rem,∃ o,ops[it.1]? = some o/\cd2 P pf N ops o=some it.2.1/\it.2.2.1=base+it.1/\∀ y∈it.2.1.op.ops,IX.quiet y=true
 pw:rem.Pairwise fun p x=>(anc p.1 x.1\/fy6 p x)/\p.1≠x.1/\∀ o,ops[p.1]? = some o->∀ e∈o.after,Region.binds .any e=true->e.on≠x.1
 dc:∀ j,listed.getD j false=true->∀ k,anc k j->listed.getD k false=true
theorem fc8 {ops:Array Oper} {anc:Nat->Nat->Prop} {n0 base:Nat} {ro:Option Nat} {Qw:Exit->Act->World->Prop} {K:Frm->Store->Prop} {ρ0:Rho} {w0:World} {ds:List Deferred}
  (hKf:∀ f f' s,FEq f f'->K f s->K f' s)
  (hfin:∀ fr σ ρ w a,n0<=σ.next->K fr σ->Sim E ρ w σ->FR ρ w N fr a.tmps->a.defers=ds->be9 n0 ρ0 w0 ρ w->Qw .normal a w)
  (hed:∀ j o,ops[j]? = some o->∀ e∈o.after,Region.binds .any e=true->e.on<ops.size/\e.on≠j)
  (hanc:∀ k j,anc k j->∀ o,ops[j]? = some o->∃ e∈o.after,Region.binds .any e=true/\(e.on=k\/anc k e.on)) :
  ∀ (fuel:Nat) (rem:List da2) (L:List LE) (listed:Array Bool) (fr:Frm) (σ:Store) (ρ:Rho) (w:World) (a:Act),rem.length=fuel->jj5 P pf N ops anc base rem listed->ax5 P E rem L fr σ K ->
   Sim E ρ w σ->FR ρ w N fr a.tmps->a.defers=ds->be9 n0 ρ0 w0 ρ w->n0<=base->base+ops.size<=σ.next->(∀ it∈rem,ρ it.2.2.1=.no) ->
   wpAnyIn (fw ro) 0 P .any ops Qw fuel listed a w:=by
 intro fuel
 induction fuel with
 | zero=>
  intro rem L listed fr σ ρ w a hlen hr h hs hf hd hx hn0 hnx hno;have:rem=[]:=List.length_eq_zero_iff.1 hlen;subst this;refine ⟨?_,hfin fr σ ρ w a (by omega) h hs hf hd hx⟩;rw[List.eq_nil_iff_forall_not_mem];intro j hj;obtain ⟨h0,_⟩:=mem_ready.1 hj;obtain ⟨it,hit,_⟩:=(hr.un j (by rw[<- hr.size]; exact getD_lt h0)).1 h0
  cases hit
 | succ fuel ih=>
  intro rem L listed fr σ ρ w a hlen hr h hs hf hd hx hn0 hnx hno;refine ⟨fun hemp=>?_,fun i hi=>?_⟩
  ·exfalso
   cases rem with
   | nil=>cases hlen
   | cons it rem=>
    obtain ⟨o,ho,hc,hid,_⟩:=hr.its it (List.mem_cons_self ..)
    have hlt:it.1<ops.size:=by
     rcases Nat.lt_or_ge it.1 ops.size with h'|h'
     ·exact h'
     ·simp[Array.getElem?_eq_none h'] at ho
    have:it.1∈Region.ready .any ops listed:=by
     refine mem_ready.2 ⟨(hr.un _ hlt).2 ⟨it,List.mem_cons_self ..,rfl⟩,o,ho,fun e he hb=>?_⟩;obtain ⟨h1,h2⟩:=hed _ o ho e he hb;have hj:e.on<listed.size:=by rw[hr.size]; exact h1
     by_cases hL:listed.getD e.on true=false
     ·obtain ⟨jt,hjt,hje⟩:=(hr.un _ h1).1 hL;rcases List.mem_cons.1 hjt with rfl|hjt
      ·exact absurd hje.symm h2
      ·exact absurd hje.symm (((List.pairwise_cons.1 hr.pw).1 jt hjt).2.2 o ho e he hb)
     ·simp[hj] at hL ⊢; exact hL
    rw[hemp] at this;cases this
  ·obtain ⟨h0,o,ho,hall⟩:=mem_ready.1 hi;have hlt:i<ops.size:=by rw[<- hr.size]; exact getD_lt h0
   obtain ⟨it,hit,hie⟩:=(hr.un i hlt).1 h0;obtain ⟨pre,post,rfl⟩:=List.append_of_mem hit;obtain ⟨ix,x,kx,mx⟩:=it;simp only at hie;subst hie;obtain ⟨o',ho',hc,hkx,hqx⟩:=hr.its _ hit;simp only at ho' hc hkx hqx;rw[ho] at ho';cases ho';obtain ⟨hpp,hxp,hcross⟩:=List.pairwise_append.1 hr.pw;have hcx:=fun p hp=>hcross p hp _ (List.mem_cons_self ..)
   have hnotL:∀ p∈pre,listed.getD p.1 false≠true:=fun p hp hL=>by
    obtain ⟨op,hop,_⟩:=hr.its p (List.mem_append_left _ hp)
    have hpl:p.1<ops.size:=by
     rcases Nat.lt_or_ge p.1 ops.size with h'|h'
     ·exact h'
     ·simp[Array.getElem?_eq_none h'] at hop
    have:=(hr.un p.1 hpl).2 ⟨p,List.mem_append_left _ hp,rfl⟩;rw[fx4 hL] at this;cases this
   have hfree:∀ p∈pre,fy6 p (ix,x,kx,mx):=fun p hp=>by
    rcases (hcx p hp).1 with ha|hf
    ·exfalso;obtain ⟨e,he,hb,heq⟩:=hanc _ _ ha o ho;have hle:=hall e he hb;rcases heq with heq|ha'
     ·exact hnotL p hp (by rw[<- heq]; exact hle)
     ·exact hnotL p hp (hr.dc _ hle _ ha')
    ·exact hf
   have hidp:∀ p∈pre,p.2.2.1=base+p.1:=fun p hp=>by
    obtain ⟨_,_,_,h1,_⟩:=hr.its p (List.mem_append_left _ hp);exact h1
   have hpull:=jc6 (P:=P) (E:=E) (K:=K) hKf (ix:=ix) (x:=x) (kx:=kx) (mx:=mx) (post:=post) pre L fr σ hfree
    (fun p hp=>⟨by rw[hidp p hp,hkx]; have:=(hcx p hp).2.1; omega,hs.av3 _ (hno p (List.mem_append_left _ hp))⟩)
    (by
     rw[List.nodup_iff_pairwise_ne,List.pairwise_map];refine (List.Pairwise.and_mem.1 hpp).imp ?_;intro p q ⟨hp,hq,h1⟩;rw[hidp p hp,hidp q hq];have:=h1.2.1;omega)
    (fun _=>hs.av3 _ (hno _ hit))
    (fun p hp _ y hy=>IX.cs5 (hqx y hy) hs hf (hno p (List.mem_append_left _ hp))) h
   obtain ⟨⟨fz,hk⟩,hdst,hdN,hg⟩:=bv1 hc;have hidx:kx<σ.next/\n0<=kx:=by rw[hkx]; omega
   have hmem:∀ it∈pre++post,it∈pre++(ix,x,kx,mx)::post:=fun it h=>by
    rcases List.mem_append.1 h with h|h
    ·exact List.mem_append_left _ h
    ·exact List.mem_append_right _ (List.mem_cons_of_mem _ h)
   have hne:∀ it∈pre++post,it.1≠ix:=fun it h=>by
    rcases List.mem_append.1 h with h|h
    ·exact (hcx it h).2.1
    ·exact fun e=>((List.pairwise_cons.1 hxp).1 it h).2.1 e.symm
   have hrem:jj5 P pf N ops anc base (pre++post) (listed.setIfInBounds ix true):=by
    refine ⟨by simp[hr.size],fun j hj=>?_,fun it hit=>hr.its it (hmem it hit),?_,?_⟩
    ·by_cases hji:j=ix
     ·subst hji;have:j<listed.size:=by rw[hr.size]; exact hj
      constructor
      ·intro h; simp[this] at h
      ·rintro ⟨it,h1,h2⟩; exact absurd h2 (hne it h1)
     ·rw[getD_set_ne true (Ne.symm hji),hr.un j hj];constructor
      ·rintro ⟨it,h1,h2⟩;refine ⟨it,?_,h2⟩;rcases List.mem_append.1 h1 with h1|h1
       ·exact List.mem_append_left _ h1
       ·rcases List.mem_cons.1 h1 with rfl|h1
        ·exact absurd h2.symm hji
        ·exact List.mem_append_right _ h1
      ·rintro ⟨it,h1,h2⟩; exact ⟨it,hmem it h1,h2⟩
    ·exact hr.pw.sublist (List.Sublist.append (List.Sublist.refl _) (List.sublist_cons_self _ _))
    ·intro j hj k hk;by_cases hji:j=ix
     ·subst hji;obtain ⟨e,he,hb,heq⟩:=hanc _ _ hk o ho;have hle:=hall e he hb;rcases heq with rfl|ha'
      ·exact getD_set_true hle
      ·exact getD_set_true (hr.dc _ hle _ ha')
     ·rw[getD_set_ne false (Ne.symm hji)] at hj;exact getD_set_true (hr.dc _ hj _ hk)
   have hlen':(pre++post).length=fuel:=by simp at hlen ⊢; omega
   have hne2:∀ it∈pre++post,it.2.2.1≠kx:=fun it h=>by
    obtain ⟨_,_,_,h1,_⟩:=hr.its it (hmem it h);rw[h1,hkx];have:=hne it h;omega
   unfold wpOpIn;simp only[ho]
   have run:opR P E x.op kx fr σ (fun v σ'=>hl6 E L mx σ'/\ax5 P E (pre++post) (bm5 E fr ix x.op v L) (fr.ao4 x.dst v) σ' K)->o.wpIn (fw ro) 0 P a w (wpAnyIn (fw ro) 0 P .any ops Qw fuel (listed.setIfInBounds ix true)) Qw:=by
    intro hop;refine dp6 hk hop hs hf (by omega) (fun hl=>⟨hno _ hit,hidx.1,hidx.2⟩) ?_;intro v σ' r ρ' w' hnx' hK hs' hv' hx' hno';refine ih (pre++post) _ _ _ σ' ρ' w' (a.put o.dst r) hlen' hrem hK.2 hs' ?_ (by rw[put_defers]; exact hd) (hx.trans (hx'.weak (Nat.le_refl _))) hn0 (by omega) ?_
    ·rw[hdst]; exact FR.ao4 (hf.mono hx') hdN hv'
    ·intro jt hjt;obtain ⟨jo,hjo,_,h1,_⟩:=hr.its jt (hmem jt hjt)
     have hjl:jt.1<ops.size:=by
      rcases Nat.lt_or_ge jt.1 ops.size with h'|h'
      ·exact h'
      ·simp[Array.getElem?_eq_none h'] at hjo
     exact hno' _ (by rw[h1]; omega) (fun _=>hne2 jt hjt) (hno _ (hmem jt hjt))
   rcases hg with ⟨hg1,hg2⟩|⟨j,want,s,hg1,hgs,hg2⟩
   ·have hw:Region.wanted o (yielded ops a.tmps)=true:=by unfold Region.wanted; rw[hg1]
    rw[if_pos hw];rcases hpull with ⟨hact,hh⟩|⟨hact,hh⟩
    ·exact run hh
    ·simp[bg2,hg2] at hact
   ·rcases hpull with ⟨hact,hh⟩|⟨hact,hh⟩
    ·simp only[bg2,hg2] at hact;have hw:=by1 hg1 hgs hf hact
     rw[hw];exact run hh
    ·simp only[bg2,hg2] at hact;have hw:=by1 hg1 hgs hf hact
     rw[hw];refine ⟨fun f _=>trivial,?_⟩;exact ih (pre++post) _ _ _ σ ρ w (a.put o.dst undef) hlen' hrem hh hs (by rw[hdst]; exact FR.ao4 hf hdN fz8) (by rw[put_defers]; exact hd) hx hn0 hnx (fun jt hjt=>hno _ (hmem jt hjt))
abbrev YO:=Nat×ae7×Nat
def hl7 (base:Nat)(l:List YO):List da2:=l.map fun y=>(y.1,y.2.1,base+y.1,y.2.2)
def fy7 (p x:YO):Bool :=
 er2 p.2.1 x.2.1&&((decide (p.2.1.op.cls<=1)&&p.2.2==0&&(p.2.1.op.cls==0||decide (x.2.1.op.cls<=1)||x.2.2.testBit p.1||cs4 false p.2.1.op.kind x.2.1.op.kind)) ||
  (!decide (p.2.1.op.cls<=1)&&cs4 false p.2.1.op.kind x.2.1.op.kind&&x.2.2==0&&(p.2.2==0||decide (x.2.1.op.cls<=1)&&!p.2.2.testBit x.1)))
theorem eh5 {p x:YO}{a b:Nat}(h:fy7 p x=true):fy6 (p.1,p.2.1,a,p.2.2) (x.1,x.2.1,b,x.2.2):=by
 unfold fy7 at h;simp only[Bool.and_eq_true,Bool.or_eq_true,decide_eq_true_eq,beq_iff_eq,Bool.not_eq_true',decide_eq_false_iff_not] at h;refine ⟨cs6 h.1,?_⟩;rcases h.2 with ⟨⟨h1,h2⟩,h3⟩|⟨⟨⟨h1,h2⟩,h3⟩,h4⟩
 ·refine .inl ⟨h1,h2,?_⟩;rcases h3 with ((h3|h3)|h3)|h3
  ·exact .inl h3
  ·exact .inr (.inl h3)
  ·exact .inr (.inr (.inl h3))
  ·exact .inr (.inr (.inr h3))
 ·exact .inr ⟨h1,h2,h3,h4⟩
def er6 (ess:List (List Nat))(ms:List Nat):List YO->Bool
 | []=>true
 | p::xs=>xs.all (fun x=>((ms.getD x.1 0).testBit p.1||fy7 p x)&&p.1 != x.1&&!(ess.getD p.1 []).contains x.1)&&er6 ess ms xs
theorem eh6 {ess:List (List Nat)}{ms:List Nat}{base:Nat}:∀ l:List YO,er6 ess ms l=true->(hl7 base l).Pairwise fun p x=>((ms.getD x.1 0).testBit p.1=true\/fy6 p x)/\p.1≠x.1/\x.1 ∉ ess.getD p.1 []:=by
 intro l
 induction l with
 | nil=>intro _; exact .nil
 | cons p xs ih=>
  intro h;simp only[er6,Bool.and_eq_true,List.all_eq_true] at h;refine List.pairwise_cons.2 ⟨fun it hit=>?_,ih h.2⟩;obtain ⟨x,hx,rfl⟩:=List.mem_map.1 hit;obtain ⟨⟨h1,h2⟩,h3⟩:=h.1 x hx;refine ⟨?_,by simpa using h2,by simpa using h3⟩;rw[Bool.or_eq_true] at h1;rcases h1 with h1|h1
  ·exact .inl h1
  ·exact .inr (eh5 h1)
def hl8 (ios:List ae7)(l:List (Nat×Nat)):List YO:=l.map fun q=>(q.1,ios.getD q.1 default,q.2)
def yOK (ess:List (List Nat))(ios:List ae7)(l:List (Nat×Nat)):Bool :=
 let ms:=fx6 ess
 io8 0 ess&&io9 ms 0 ess&&er6 ess ms (hl8 ios l)&&(ios.all fun o=>o.op.ops.all IX.quiet) &&
  l.all (fun q=>decide (q.1<ios.length))&&(List.range ios.length).all (fun j=>l.any fun q=>q.1==j)&&l.length==ios.length
theorem fy8 {n0 id:Nat}{ops:Array Oper}{ios:List ae7}{l:List (Nat×Nat)}{Q:Exit->Frm->Store->Prop}{ks:List Nat}(hm:P.follows .mixedOrders=true)(hc:bm8 P pf N ops ops.toList=some ios)
  (hok:yOK (ops.toList.map ak2) ios l=true)
  (h:ax5 P E (hl7 σ.next (hl8 ios l)) [] fr { σ with next:=σ.next+l.length } (fun fr' σ'=>Q .normal (fr'.keep ks) σ')):R P E N n0 (.region id ops true) fr σ Q:=by
 intro hn ro h0 ρ w a hs hf hd hr;refine wpIn_region_any hm ?_;have hlen:ios.length=ops.size:=by rw[dc4 _ _ hc]; simp
 unfold yOK at hok;simp only[Bool.and_eq_true,List.all_eq_true,beq_iff_eq,decide_eq_true_eq] at hok;obtain ⟨⟨⟨⟨⟨⟨hed,hms⟩,hpr⟩,hq⟩,hlt⟩,hall⟩,hll⟩:=hok;generalize fx6 (ops.toList.map ak2)=ms at hms hpr;have hes:∀ (j:Nat) (o:Oper),ops[j]? = some o->(ops.toList.map ak2)[j]? = some (ak2 o):=fun j o ho=>by simp[ho]
 have hme:∀ (o:Oper) (k:Nat),k∈ak2 o->∃ e∈o.after,Region.binds .any e=true/\e.on=k:=fun o k hk=>by
  unfold ak2 at hk;obtain ⟨e,he,rfl⟩:=List.mem_map.1 hk;obtain ⟨h1,h2⟩:=List.mem_filter.1 he;exact ⟨e,by simpa using h1,h2,rfl⟩
 have hem:∀ (o:Oper) (e:Edge),e∈o.after->Region.binds .any e=true->e.on∈ak2 o:=fun o e he hb=>
  List.mem_map.2 ⟨e,List.mem_filter.2 ⟨by simpa using he,hb⟩,rfl⟩
 have hmemI:∀ it∈hl7 σ.next (hl8 ios l),∃ q∈l,it=(q.1,ios.getD q.1 default,σ.next+q.1,q.2):=fun it hit=>by
  obtain ⟨y,hy,rfl⟩:=List.mem_map.1 hit;obtain ⟨q,hq',rfl⟩:=List.mem_map.1 hy;exact ⟨q,hq',rfl⟩
 refine fc8 (E:=E) (pf:=pf) (N:=N) (anc:=fun k j=>(ms.getD j 0).testBit k=true) (n0:=n0) (base:=σ.next) (ρ0:=ρ) (w0:=w) (ds:=a.defers) (K:=fun fr' σ'=>Q .normal (fr'.keep ks) σ') ?_ ?_ ?_ ?_
  ops.size (hl7 σ.next (hl8 ios l)) [] _ fr { σ with next:=σ.next+l.length } ρ w.drew a (by simp[hl7,hl8,hll,hlen]) ?_ h
  (dp4 (cp4 hs) (fun i hi=>hs.fresh i (by omega))) (hf.mono (az9 0)) rfl ((az9 n0).weak (Nat.le_refl _)) hn (by rw[hll,hlen]; exact Nat.le_refl _) ?_
 ·intro f f' s hff hK
  have:f'.keep ks=f.keep ks:=by
   unfold Frm.keep;exact List.map_congr_left fun k _=>by rw[hff k]
  rw[this]; exact hK
 ·intro fr' σ' ρ' w' a' hn' hK hs' hf' hd' hx;exact ⟨fr'.keep ks,σ',ρ',hn',hK,hs',hf'.keep ks,by rw[hd']; exact hd.mono hx,hr.mono hx,hx⟩
 ·intro j o ho e he hb;have:=cs7 _ _ hed j _ (hes j o ho) _ (hem o e he hb)
  have hj:j<ops.size:=by
   rcases Nat.lt_or_ge j ops.size with h'|h'
   ·exact h'
   ·simp[Array.getElem?_eq_none h'] at ho
  omega
 ·intro k j hk o ho;have:=dy3 _ _ hms j _ (hes j o ho);simp only[Nat.zero_add] at this;rw[this] at hk;rcases fx7 _ _ hk with h1|⟨e,he,h1⟩
  ·simp at h1
  ·obtain ⟨ed,hed1,hb,heq⟩:=hme o e he;exact ⟨ed,hed1,hb,by rw[heq]; exact h1⟩
 ·refine ⟨by simp,fun j hj=>?_,fun it hit=>?_,?_,?_⟩
  ·constructor
   ·intro _;have:=hall j (by simp[List.mem_range,hlen,hj]);obtain ⟨q,hq',he⟩:=List.any_eq_true.1 this;have he:q.1=j:=by simpa using he
    exact ⟨(q.1,ios.getD q.1 default,σ.next+q.1,q.2),List.mem_map.2 ⟨_,List.mem_map.2 ⟨q,hq',rfl⟩,rfl⟩,he⟩
   ·intro _; simp[hj]
  ·obtain ⟨q,hq',rfl⟩:=hmemI it hit;have hql:=hlt q hq';have hqs:q.1<ops.size:=by omega
   obtain ⟨jt,hjt,hje⟩:=er4 (base:=σ.next) ios 0 q.1 (Nat.zero_le _) (by omega);obtain ⟨o,h1,h2⟩:=er5 ops.toList ios 0 rfl hc jt hjt
   have hget:ios[q.1]? = some jt.2.1:=by
    have:∀ (ios:List ae7) (i:Nat),∀ it∈er1 σ.next i ios,ios[it.1-i]? = some it.2.1:=by
     intro ios
     induction ios with
     | nil=>intro i it h; cases h
     | cons o os ih=>
      intro i it h;rcases List.mem_cons.1 h with rfl|h
      ·simp
      ·have h1:=fx8 os _ it h;have h2:=ih _ it h;rw[show it.1-i=(it.1-(i+1))+1 from by omega]
       simpa using h2
    have:=this ios 0 jt hjt;rw[hje] at this
    simpa using this
   have hd:ios.getD q.1 default=jt.2.1:=by simp[List.getD_eq_getElem?_getD,hget]
   rw[hje] at h1;refine ⟨o,h1,by simp only[hd]; exact h2,rfl,?_⟩;simp only[hd];exact hq _ (List.mem_of_getElem? hget)
  ·refine (eh6 (base:=σ.next) _ hpr).imp ?_;intro p x ⟨h1,h2,h3⟩;refine ⟨h1,h2,fun o ho e he hb heq=>h3 ?_⟩;have:(ops.toList.map ak2).getD p.1 []=ak2 o:=by rw[List.getD_eq_getElem?_getD,hes p.1 o ho]; rfl
   rw[this,<- heq];exact hem o e he hb
  ·intro j hj;exfalso;by_cases hlt:j<ops.size
   ·simp[hlt] at hj
   ·simp[hlt] at hj
 ·intro it hit;obtain ⟨q,hq',rfl⟩:=hmemI it hit;exact hs.fresh _ (by show σ.next<=σ.next+q.1; omega)
def hl9 (ess:List (List Nat))(done:List Nat)(j:Nat):Bool:=(ess.getD j []).all fun e=>done.contains e
def jc7 (ess:List (List Nat))(ios:List ae7)(done:List Nat):Option Nat :=
 match (List.range ios.length).find? (fun j=>!done.contains j&&hl9 ess done j&&decide ((ios.getD j default).op.cls<=1)) with
 | some j=>some j
 | none=>(List.range ios.length).find? fun j=>!done.contains j&&hl9 ess done j
def hm3 (ess:List (List Nat))(ios:List ae7):Nat->List Nat->List Nat
 | 0,done=>done
 | n+1,done=>match jc7 ess ios done with
  | some j=>hm3 ess ios n (done++[j])
  | none=>done
def hy8 (ms:List Nat)(ios:List ae7)(j:Nat):List Nat->Nat
 | []=>0
 | p::ps=>if (ios.getD p default).op.cls=1&&!(ms.getD j 0).testBit p&&!cs4 false (ios.getD p default).op.kind (ios.getD j default).op.kind then 2^p ||| hy8 ms ios j ps else hy8 ms ios j ps
def hm4 (ms:List Nat)(ios:List ae7):List Nat->List Nat->List (Nat×Nat)
 | _,[]=>[]
 | ahead,j::js=>(j,if (ios.getD j default).op.cls<=1 then 0 else hy8 ms ios j ahead)::hm4 ms ios (j::ahead) js
def fy9 (ess:List (List Nat))(ios:List ae7):List (Nat×Nat):=hm4 (fx6 ess) ios [] (hm3 ess ios ios.length [])
end Go.Id
set_option linter.all false
namespace Go.Id
open Go
variable {P:Program} {w w' w'':World} {ρ ρ' ρ'':Rho} {E:Nat->IV} {σ σ':Store} {N n n':Nat} {fr:Frm} {a:Act} {pf:List Nat}
inductive IC where
 | skip
 | reg (id:Nat) (ops:List ae7) (keep:List Nat)
 | ap8 (id:Nat) (ops:List ae7) (B:Bool) (keep:List Nat)
 | gq5 (id:Nat) (ops:List YO) (keep:List Nat)
 | seq (a b:IC)
 | cond (x:IX) (a b:IC)
 | block (id:Nat) (a:IC)
 | loop (a:IC)
 | exit (id:Nat)
 | ret
 | bt1 (g:IX) (ps:List Nat) (asg a:IC)
 | scope (a:IC)
 deriving Inhabited
abbrev Ann:=List (Nat×List Nat)
abbrev hx9:IC:=.reg 0 [⟨none,none,.st .nev []⟩] []
def bf4 (P:Program)(pf:List Nat)(N:Nat)(an:Ann):Code->Option IC
 | .skip=>some .skip
 | .label _=>some .skip
 | .region id ops draw=>match draw,bm8 P pf N ops ops.toList with
  | false,some ios=>some (.reg id ios ((an.lookup id).getD []))
  | true,some ios=>if P.follows .mixedOrders=true/\ja3 (ops.toList.map ak2) ios (dy2 ios)=true/\(pf.contains 2000000&&dy2 ios)=false then some (.ap8 id ios (dy2 ios) ((an.lookup id).getD [])) else
   if P.follows .mixedOrders=true/\yOK (ops.toList.map ak2) ios (fy9 (ops.toList.map ak2) ios)=true then some (.gq5 id (hl8 ios (fy9 (ops.toList.map ak2) ios)) ((an.lookup id).getD [])) else some hx9
  | _,_=>some hx9
 | .seq a b=>match bf4 P pf N an a,bf4 P pf N an b with
  | some x,some y=>some (.seq x y)
  | _,_=>none
 | .cond c a b=>match aj8 c,bf4 P pf N an a,bf4 P pf N an b with
  | some i,some x,some y=>some (.cond i x y)
  | _,_,_=>some hx9
 | .block id a=>(bf4 P pf N an a).map (.block id)
 | .loop a=>(bf4 P pf N an a).map .loop
 | .exit id=>some (.exit id)
 | .ret=>some .ret
 | .rangeFunc g ps assign body=>match bf4 P pf N an assign,aj8 g,bf4 P pf N an body with
  | some y,some i,some x=>if ps.toList.all (fun p=>decide (p<N)) then some (.bt1 i ps.toList y x) else some hx9
  | _,_,_=>some hx9
 | .scope a=>(bf4 P pf N an a).map .scope
 | _=>some hx9
def RI (P:Program)(E:Nat->IV)(N n0:Nat)(ic:IC)(fr:Frm)(σ:Store)(Q:Exit->Frm->Store->Prop):Prop :=
 ∀ (pf:List Nat) (an:Ann) (c:Code),bf4 P pf N an c=some ic->R P E N n0 c fr σ Q
def wpI (P:Program)(E:Nat->IV)(N n0:Nat):IC->Frm->Store->(Exit->Frm->Store->Prop)->Prop
 | .skip,fr,σ,Q=>Q .normal fr σ
 | .reg _ ops keep,fr,σ,Q=>bx8 P E ops σ.next fr { σ with next:=σ.next+bx9 ops } (fun fr' σ'=>Q .normal (fr'.keep keep) σ')
 | .ap8 _ ops B keep,fr,σ,Q=>bu8 P E B (er1 σ.next 0 ops) fr { σ with next:=σ.next+ops.length } (fun fr' σ'=>Q .normal (fr'.keep keep) σ')
 | .gq5 _ ops keep,fr,σ,Q=>ax5 P E (hl7 σ.next ops) [] fr { σ with next:=σ.next+ops.length } (fun fr' σ'=>Q .normal (fr'.keep keep) σ')
 | .seq a b,fr,σ,Q=>wpI P E N n0 a fr σ (fun e fr' σ'=>match e with|.normal=>wpI P E N n0 b fr' σ' Q|e=>Q e fr' σ')
 | .cond x a b,fr,σ,Q=>∃ t,x.ev E fr=.bool t/\if t then wpI P E N n0 a fr σ Q else wpI P E N n0 b fr σ Q
 | .block id a,fr,σ,Q=>wpI P E N n0 a fr σ (bt6 id Q)
 | .loop a,fr,σ,Q=>RI P E N n0 (.loop a) fr σ Q
 | .exit id,fr,σ,Q=>Q (.exit id) fr σ
 | .ret,fr,σ,Q=>Q .ret fr σ
 | .bt1 g ps y a,fr,σ,Q=>RI P E N n0 (.bt1 g ps y a) fr σ Q
 | .scope a,fr,σ,Q=>wpI P E N n0 a fr σ (fw3 Q)
theorem hy5 {n0:Nat}{c:Code}{ks:List Nat}{Q:Exit->Frm->Store->Prop}(h:R P E N n0 c fr σ (fun e fr' σ'=>Q e (fr'.keep ks) σ')):R P E N n0 c fr σ Q :=
 fun hn ro h0 ρ w a hs hf hd hr=>wpIn_mono (h hn ro h0 ρ w a hs hf hd hr) fun _ _ _ ⟨fr',σ',ρ',hn',q,hs',hf',rest⟩=>⟨fr'.keep ks,σ',ρ',hn',q,hs',hf'.keep ks,rest⟩
theorem bf8 {n0:Nat}{Q:Exit->Frm->Store->Prop}(h:wpI P E N n0 hx9 fr σ Q):False:=by
 obtain ⟨act,ha,h⟩:=h;cases ha;obtain ⟨r,hr,_⟩:=h;cases hr
theorem gq3 {n0:Nat}{an:Ann}:∀ (c:Code) (ic:IC) (fr:Frm) (σ:Store) (Q:Exit->Frm->Store->Prop),bf4 P pf N an c=some ic->wpI P E N n0 ic fr σ Q->R P E N n0 c fr σ Q:=by
 intro c
 induction c with
 | skip=>intro ic fr σ Q hc h; cases hc; exact io1 h
 | label l=>intro ic fr σ Q hc h; cases hc; exact hw9 h
 | region id ops draw=>
  intro ic fr σ Q hc h;simp only[bf4] at hc;split at hc
  ·rename_i ios hios;cases hc;exact hy5 (gt2 (Q:=fun e fr' σ'=>Q e (fr'.keep _) σ') hios h)
  ·rename_i ios hios;by_cases hok:P.follows .mixedOrders=true/\ja3 (ops.toList.map ak2) ios (dy2 ios)=true/\(pf.contains 2000000&&dy2 ios)=false
   ·rw[if_pos hok] at hc;cases hc;exact fy1 hok.1 hios hok.2.1 h
   ·rw[if_neg hok] at hc;by_cases hoy:P.follows .mixedOrders=true/\yOK (ops.toList.map ak2) ios (fy9 (ops.toList.map ak2) ios)=true
    ·rw[if_pos hoy] at hc;cases hc;have hl:(hl8 ios (fy9 (ops.toList.map ak2) ios)).length=(fy9 (ops.toList.map ak2) ios).length:=by simp[hl8]
     refine fy8 (ks:=(an.lookup id).getD []) hoy.1 hios hoy.2 ?_;rw[<- hl];exact h
    ·rw[if_neg hoy] at hc; cases hc; exact (bf8 h).elim
  ·cases hc; exact (bf8 h).elim
 | seq a b iha ihb=>
  intro ic fr σ Q hc h;simp only[bf4] at hc;split at hc
  ·rename_i x y hx hy;cases hc;refine in9 ((iha _ fr σ _ hx h).mono ?_);intro e fr' σ' q
   cases e with
   | normal=>exact ihb _ fr' σ' Q hy q
   | _=>exact q
  ·cases hc
 | cond c a b iha ihb=>
  intro ic fr σ Q hc h;simp only[bf4] at hc;split at hc
  ·rename_i i x y hi hx hy;cases hc;obtain ⟨t,ht,h⟩:=h;refine io3 hi ht ?_
   cases t with
   | true=>exact iha _ fr σ Q hx h
   | false=>exact ihb _ fr σ Q hy h
  ·cases hc; exact (bf8 h).elim
 | block id a ih=>
  intro ic fr σ Q hc h;obtain ⟨y,hy,he⟩:=map_some hc;cases he
  exact fw2 (ih _ fr σ _ hy h)
 | loop a ih=>
  intro ic fr σ Q hc h;have hc':=hc;obtain ⟨y,hy,he⟩:=map_some hc;cases he
  exact h pf an _ hc'
 | scope a ih=>
  intro ic fr σ Q hc h;obtain ⟨y,hy,he⟩:=map_some hc;cases he
  exact hx8 (ih _ fr σ _ hy h)
 | exit id=>intro ic fr σ Q hc h; cases hc; exact io2 h
 | ret=>intro ic fr σ Q hc h; cases hc; exact jc4 h
 | rangeFunc g ps assign body _ _=>
  intro ic fr σ Q hc h;have hc':=hc;simp only[bf4] at hc;split at hc
  ·split at hc
   ·cases hc;exact h pf an _ hc'
   ·cases hc; exact (bf8 h).elim
  ·cases hc; exact (bf8 h).elim
 | _=>intro ic fr σ Q hc h; cases hc; exact (bf8 h).elim
theorem bm2 {n0:Nat}(ic:IC)(fr:Frm)(σ:Store)(Q:Exit->Frm->Store->Prop)(h:wpI P E N n0 ic fr σ Q):RI P E N n0 ic fr σ Q :=
 fun pf an c hc=>gq3 (pf:=pf) (an:=an) c ic fr σ Q hc h
theorem fw4 {n0:Nat}{x:IC}{Q:Exit->Frm->Store->Prop}(I:Nat->Frm->Store->Prop)(m:Nat)(h:I m fr σ)(hI:∀ m fr σ,I m fr σ->wpI P E N n0 x fr σ (eh2 I m Q)):RI P E N n0 (.loop x) fr σ Q:=by
 intro pf an c hc
 cases c with
 | loop c=>
  obtain ⟨y,hy,he⟩:=map_some hc;cases he
  exact hk9 I m h (fun m fr σ hi=>bm2 _ _ _ _ (hI m fr σ hi) pf an _ hy)
 | region id ops draw=>
  exfalso;simp only[bf4] at hc;split at hc
  ·cases hc
  ·split at hc<;>first|(cases hc; done)|(split at hc<;>cases hc)
  ·cases hc
 | seq a b=>simp only[bf4] at hc; split at hc<;>cases hc
 | cond c a b=>simp only[bf4] at hc; split at hc<;>cases hc
 | block id a=>obtain ⟨_,_,h⟩:=map_some hc; cases h
 | scope a=>obtain ⟨_,_,h⟩:=map_some hc; cases h
 | rangeFunc g ps assign body=>
  exfalso;simp only[bf4] at hc;split at hc
  ·split at hc<;>cases hc
  ·cases hc
 | _=>cases hc
inductive JX where
 | ret
 | exit (i:Nat)
 deriving Inhabited
def JX.code:JX->Code
 | .ret=>.ret
 | .exit i=>.exit i
def hy6 (Q:Exit->Frm->Store->Prop)(fr:Frm)(σ:Store):Option JX->Prop
 | none=>Q .normal fr σ
 | some .ret=>Q .ret fr σ
 | some (.exit i)=>Q (.exit i) fr σ
def cs3 (id:Nat)(L:LoopState->Option JX->ak4)(K:IV->Store->Prop):Exit->Frm->Store->Prop
 | .normal,_,σ=>σ.obj id=some (L .busy none)/\K (.bool true) (σ.put id (L .ready none))
 | .ret,_,σ=>σ.obj id=some (L .busy none)/\K (.bool false) (σ.put id (L .done (some .ret)))
 | .exit i,_,σ=>σ.obj id=some (L .busy none)/\K (.bool false) (σ.put id (L .done (some (.exit i))))
 | _,_,_=>False
theorem gq4 {n0:Nat}{g:IX}{ps:List Nat}{y x:IC}{Q:Exit->Frm->Store->Prop}
  (h:∀ L:LoopState->Option JX->ak4,
   (∀ (σ':Store) (args:List IV) (K:IV->Store->Prop),args.length=ps.length->σ'.obj σ.next=some (L .ready none) ->
    RI P E N σ'.next y (da3 fr ps args) σ' (fun e f s=>e=.normal/\s.obj σ.next=some (L .ready none)/\RI P E N σ'.next x f (s.put σ.next (L .busy none)) (cs3 σ.next L K))->CYd P E σ.next args σ' K) ->
   CVf P E (g.ev E fr) [.yield σ.next] ⟨σ.next+1,(σ.put σ.next (L .ready none)).obj⟩ fun _ σ2=>
    σ.next<=σ2.next/\∃ st pend,st≠.busy/\σ2.obj σ.next=some (L st pend)/\hy6 Q fr (σ2.kill σ.next) pend) :
  RI P E N n0 (.bt1 g ps y x) fr σ Q:=by
 intro pf an c hc
 cases c with
 | rangeFunc go psA assign body=>
  simp only[bf4] at hc;split at hc
  ·rename_i ya i yb hasg hi hy;split at hc
   ·rename_i hall;cases hc;have hps:∀ p∈psA.toList,p<N:=fun p hp=>by simpa using List.all_eq_true.1 hall p hp
    have h':=h (fun s p=>.loop N fr psA.toList.toArray assign body s (p.map JX.code)) (fun σ' args K hl ho hR=>by
     refine is1 hps hl ho ((hR pf an assign hasg).mono fun e f s q=>⟨q.1,q.2.1,(q.2.2 pf an body hy).mono fun e f s q=>?_⟩)
     cases e with
     | normal=>exact q
     | ret=>exact q
     | exit i=>exact q
     | _=>exact q.elim)
    exact ei3 (n0:=n0) (Q:=Q) (ps:=psA.toList) (asg:=assign) (body:=body) (E:=E) (fr:=fr) (σ:=σ) (N:=N) hi (h'.mono (by
     rintro v s ⟨hn,st,pend,hst,hob,hq⟩;refine ⟨hn,st,pend.map JX.code,hst,hob,?_⟩
     cases pend with
     | none=>exact hq
     | some j=>cases j<;>exact hq))
   ·cases hc
  ·cases hc
 | region id ops draw=>
  exfalso;simp only[bf4] at hc;split at hc
  ·cases hc
  ·split at hc<;>first|(cases hc; done)|(split at hc<;>cases hc)
  ·cases hc
 | seq a b=>simp only[bf4] at hc; split at hc<;>cases hc
 | cond c a b=>simp only[bf4] at hc; split at hc<;>cases hc
 | block id a=>obtain ⟨_,_,h⟩:=map_some hc; cases h
 | scope a=>obtain ⟨_,_,h⟩:=map_some hc; cases h
 | loop a=>obtain ⟨_,_,h⟩:=map_some hc; cases h
 | _=>cases hc
theorem az4 {n0:Nat}{x:IC}{Q Q':Exit->Frm->Store->Prop}(h:RI P E N n0 x fr σ Q)(hq:∀ e fr σ,Q e fr σ->Q' e fr σ):RI P E N n0 x fr σ Q' :=
 fun pf an c hc=>(h pf an c hc).mono hq
end Go.Id
