/- Regions whose order is open: which operations may be taken ahead of which. Conditions: none; over any program. -/
import Derived.Test.YtjpdjifjokldlaaDoorFwR
import Derived.OrdersIn
set_option linter.all false
namespace Go.Id
open Go
variable {P:Program} {w w' w'':World} {ρ ρ' ρ'':Rho} {E:Nat→IV} {σ σ':Store} {N n n':Nat} {fr:Frm} {a:Act} {pf:List Nat}
def IQ.kind:IQ→Nat
 | .load _ _=>1
 | .len 0 _=>0
 | .len 1 _=>0
 | .len _ _=>6
 | .lkp _ _ _ _ _=>5
 | _=>0
def SK.kind:SK→Nat
 | .nev=>0
 | _=>6
def IK.kind:IK→Nat
 | .q u=>u.kind
 | .alloc _|.box _|.bsl _ _ _ _|.cj5 _ _ _=>2
 | .app _ _ _=>3
 | .aj4 _ _|.av2 _ _ _ _|.ar7 _=>0
 | .store _ _ _=>4
 | .st k _=>k.kind
 | _=>6
def IX.uses:IX→List Nat
 | .t n=>[n]
 | _=>[]
def IQ.ops:IQ→List IX
 | .mov x|.not x|.neg x|.bg7 _ _ x|.conv _ x|.fl1 x|.len _ x|.aa9 _ x|.fld _ _ x|.slz x|.ext _ x|.load _ x|.ldt _ x|.au1 x=>[x]
 | .pick c a b=>[c,a,b]
 | .bin _ x y|.eqs _ _ _ x y|.ab5 _ x y|.dz5 _ _ x y|.idx _ _ _ x y|.fy2 x y|.mm _ x y|.lkp _ _ _ x y|.ibs x y=>[x,y]
 | .slc _ x lo hi|.gq5 x lo hi=>x::(lo.toList++hi.toList)
 | .clp _ x lo hi mx=>[x,lo,hi,mx]
 | .mkf _ f c=>f++c
 | .bld _ ps=>ps.map (·.2.2)
def IK.ops:IK→List IX
 | .q u=>u.ops
 | .alloc _=>[]
 | .box x=>[x]
 | .bsl _ _ _ ps=>ps.map (·.2.2)
 | .store _ x y=>[x,y]
 | .app _ s x=>[s,x]
 | .bm5=>[]
 | .av1 x|.bq6 x=>[x]
 | .de4 _ x k v=>[x,k,v]
 | .call _ xs|.aj4 _ xs=>xs
 | .an7 x xs=>x::xs
 | .av2 _ _ _ ps=>ps.map (·.2.2)
 | .ar7 x|.aq9 x|.bj2 x|.dn5 x|.cj5 _ _ x|.clr _ _ x=>[x]
 | .st _ xs=>xs
def ac6.uses (o:ac6):List Nat:=(o.op.ops.flatMap IX.uses)++(match o.guard with|some (s,_)=>[s]|none=>[])
def FEq (fr fr':Frm):Prop:=∀ t,fr.get t=fr'.get t
theorem FEq.refl (fr:Frm):FEq fr fr:=fun _=>rfl
theorem af6 {fr fr':Frm}{x:IX}(h:∀ t∈x.uses,fr.get t=fr'.get t):x.ev E fr=x.ev E fr':=by
 cases x with
 | t n=>exact h n (by simp[IX.uses])
 | _=>rfl
theorem ap8 {fr fr':Frm}{xs:List IX}(h:∀ t∈xs.flatMap IX.uses,fr.get t=fr'.get t):xs.map (·.ev E fr)=xs.map (·.ev E fr'):=
 List.map_congr_left fun x hx=>af6 fun t ht=>h t (List.mem_flatMap.2 ⟨x,hx,ht⟩)
theorem bl7 {fr fr':Frm}{x:Option IX}(h:∀ t∈x.toList.flatMap IX.uses,fr.get t=fr'.get t):x.map (·.ev E fr)=x.map (·.ev E fr'):=by
 cases x with
 | none=>rfl
 | some x=>simp only[Option.map_some]; rw[af6 (fun t ht=>h t (by simpa using ht))]
theorem am1 {fr fr':Frm}{ps:List (Nat×Nat×IX)}(h:∀ t∈(ps.map (·.2.2)).flatMap IX.uses,fr.get t=fr'.get t) :
  (ps.map fun p=>(p.1,p.2.1,p.2.2.ev E fr))=ps.map fun p=>(p.1,p.2.1,p.2.2.ev E fr'):=
 List.map_congr_left fun p hp=>by
  have:p.2.2.ev E fr=p.2.2.ev E fr':=af6 fun t ht=>h t (List.mem_flatMap.2 ⟨p.2.2,List.mem_map.2 ⟨p,hp,rfl⟩,ht⟩)
  rw[this]
theorem eu1 {fr fr':Frm}{q:IQ}(h:∀ t∈q.ops.flatMap IX.uses,fr.get t=fr'.get t):evq E fr σ q=evq E fr' σ q:=by
 cases q with
 | mkf f fs cs=>
  simp only[IQ.ops,List.flatMap_append,List.mem_append] at h;simp only[evq]
  rw[ap8 (fun t ht=>h t (.inl ht)),ap8 (fun t ht=>h t (.inr ht))]
 | bld z ps=>simp only[evq]; rw[am1 h]
 | slc e x lo hi=>
  simp only[IQ.ops,List.flatMap_cons,List.flatMap_append,List.mem_append] at h;simp only[evq]
  rw[af6 (x:=x) (fun t ht=>h t (.inl ht)),bl7 (x:=lo) (fun t ht=>h t (.inr (.inl ht))),bl7 (x:=hi) (fun t ht=>h t (.inr (.inr ht)))]
 | gq5 x lo hi=>
  simp only[IQ.ops,List.flatMap_cons,List.flatMap_append,List.mem_append] at h;simp only[evq]
  rw[af6 (x:=x) (fun t ht=>h t (.inl ht)),bl7 (x:=lo) (fun t ht=>h t (.inr (.inl ht))),bl7 (x:=hi) (fun t ht=>h t (.inr (.inr ht)))]
 | clp e x lo hi mx=>
  simp only[evq]
  rw[af6 (x:=x) (fun t ht=>h t (by simp[IQ.ops,ht])),af6 (x:=lo) (fun t ht=>h t (by simp[IQ.ops,ht])),af6 (x:=hi) (fun t ht=>h t (by simp[IQ.ops,ht])),af6 (x:=mx) (fun t ht=>h t (by simp[IQ.ops,ht]))]
 | pick c x y=>
  simp only[evq]
  rw[af6 (x:=c) (fun t ht=>h t (by simp[IQ.ops,ht])),af6 (x:=x) (fun t ht=>h t (by simp[IQ.ops,ht])),af6 (x:=y) (fun t ht=>h t (by simp[IQ.ops,ht]))]
 | bin op x y=>simp only[evq]; rw[af6 (x:=x) (fun t ht=>h t (by simp[IQ.ops,ht])),af6 (x:=y) (fun t ht=>h t (by simp[IQ.ops,ht]))]
 | eqs a b c x y=>simp only[evq]; rw[af6 (x:=x) (fun t ht=>h t (by simp[IQ.ops,ht])),af6 (x:=y) (fun t ht=>h t (by simp[IQ.ops,ht]))]
 | ab5 a x y=>simp only[evq]; rw[af6 (x:=x) (fun t ht=>h t (by simp[IQ.ops,ht])),af6 (x:=y) (fun t ht=>h t (by simp[IQ.ops,ht]))]
 | dz5 a b x y=>simp only[evq]; rw[af6 (x:=x) (fun t ht=>h t (by simp[IQ.ops,ht])),af6 (x:=y) (fun t ht=>h t (by simp[IQ.ops,ht]))]
 | idx a b c x y=>simp only[evq]; rw[af6 (x:=x) (fun t ht=>h t (by simp[IQ.ops,ht])),af6 (x:=y) (fun t ht=>h t (by simp[IQ.ops,ht]))]
 | lkp a b c x y=>simp only[evq]; rw[af6 (x:=x) (fun t ht=>h t (by simp[IQ.ops,ht])),af6 (x:=y) (fun t ht=>h t (by simp[IQ.ops,ht]))]
 | mm a x y=>simp only[evq]; rw[af6 (x:=x) (fun t ht=>h t (by simp[IQ.ops,ht])),af6 (x:=y) (fun t ht=>h t (by simp[IQ.ops,ht]))]
 | ibs x y=>simp only[evq]; rw[af6 (x:=x) (fun t ht=>h t (by simp[IQ.ops,ht])),af6 (x:=y) (fun t ht=>h t (by simp[IQ.ops,ht]))]
 | fy2 x y=>simp only[evq]; rw[af6 (x:=x) (fun t ht=>h t (by simp[IQ.ops,ht])),af6 (x:=y) (fun t ht=>h t (by simp[IQ.ops,ht]))]
 | _=>simp only[evq]; rw[af6 (fun t ht=>h t (by simp[IQ.ops,ht]))]
theorem fm8 {q:IQ}(h:q.kind=0):evq E fr σ q=evq E fr σ' q:=by
 cases q with
 | load a x=>simp[IQ.kind] at h
 | lkp a b c x y=>simp[IQ.kind] at h
 | len k x=>
  simp only[evq]
  match k,h with
  | 0,_=>unfold bh7; split<;>first|rfl|simp_all [dx9]
  | 1,_=>unfold bh7; split<;>first|rfl|simp_all [dx9]
  | k+2,h=>simp[IQ.kind] at h
 | _=>rfl
def bc5 (P:Program)(E:Nat→IV)(op:IK)(id:Nat)(fr:Frm)(σ:Store)(v:IV)(σ':Store):Prop :=
 match op with
 | .q q=>evq E fr σ q=some v∧σ'=σ
 | .alloc z=>v=.ptr id 0∧σ'=σ.put id (.cells z)
 | .box x=>(x.ev E fr).cs.all IV.leaf=true∧v=.ptr id 0∧σ'=σ.put id (.cells (x.ev E fr).cs)
 | .bsl esz n z parts=>∃ out,ak7 (rep z n) (parts.map fun p=>(p.1,p.2.1,p.2.2.ev E fr))=some out∧v=.slice id 0 n esz∧σ'=σ.put id (.row out)
 | .app esz s x=>aw1 σ id esz (s.ev E fr) (x.ev E fr)=some (v,σ')
 | .store sz x y=>aj3 σ sz (x.ev E fr) (y.ev E fr)=some σ'∧v=.undef
 | .aj4 f args=>PC P E f (args.map (·.ev E fr)) v∧σ'=σ
 | .av2 esz n z parts=>∃ out,ak7 (rep z n) (parts.map fun p=>(p.1,p.2.1,p.2.2.ev E fr))=some out∧v=.aa4 (chunk esz n out)∧σ'=σ
 | .ar7 x=>(x.ev E fr).cs.all IV.leaf=true∧v=.af4 (x.ev E fr).cs∧σ'=σ
 | .cj5 esz z x=>∃ n,cu2 (x.ev E fr)=some n∧v=.slice id 0 n esz∧σ'=σ.put id (.row (rep z n))
 | _=>False
theorem as8 {op:IK}{id:Nat}{K:IV→Store→Prop}(hk:op.kind≤5):opR P E op id fr σ K↔∃ v σ',bc5 P E op id fr σ v σ'∧K v σ':=by
 cases op with
 | q q=>exact ⟨fun ⟨v,h,k⟩=>⟨v,σ,⟨h,rfl⟩,k⟩,fun ⟨v,_,⟨h,e⟩,k⟩=>by subst e; exact ⟨v,h,k⟩⟩
 | alloc z=>exact ⟨fun k=>⟨_,_,⟨rfl,rfl⟩,k⟩,fun ⟨_,_,⟨e1,e2⟩,k⟩=>by subst e1; subst e2; exact k⟩
 | box x=>exact ⟨fun ⟨h,k⟩=>⟨_,_,⟨h,rfl,rfl⟩,k⟩,fun ⟨_,_,⟨h,e1,e2⟩,k⟩=>by subst e1; subst e2; exact ⟨h,k⟩⟩
 | bsl e n z ps=>exact ⟨fun ⟨out,h,k⟩=>⟨_,_,⟨out,h,rfl,rfl⟩,k⟩,fun ⟨_,_,⟨out,h,e1,e2⟩,k⟩=>by subst e1; subst e2; exact ⟨out,h,k⟩⟩
 | app e s x=>exact ⟨fun ⟨r,h,k⟩=>⟨r.1,r.2,h,k⟩,fun ⟨v,σ',h,k⟩=>⟨(v,σ'),h,k⟩⟩
 | store e x y=>exact ⟨fun ⟨s,h,k⟩=>⟨_,s,⟨h,rfl⟩,k⟩,fun ⟨v,s,⟨h,e⟩,k⟩=>by subst e; exact ⟨s,h,k⟩⟩
 | aj4 f xs=>exact ⟨fun ⟨v,h,k⟩=>⟨v,σ,⟨h,rfl⟩,k⟩,fun ⟨v,_,⟨h,e⟩,k⟩=>by subst e; exact ⟨v,h,k⟩⟩
 | av2 e n z ps=>exact ⟨fun ⟨out,h,k⟩=>⟨_,_,⟨out,h,rfl,rfl⟩,k⟩,fun ⟨_,_,⟨out,h,e1,e2⟩,k⟩=>by subst e1; subst e2; exact ⟨out,h,k⟩⟩
 | cj5 e z x=>exact ⟨fun ⟨n,h,k⟩=>⟨_,_,⟨n,h,rfl,rfl⟩,k⟩,fun ⟨_,_,⟨n,h,e1,e2⟩,k⟩=>by subst e1; subst e2; exact ⟨n,h,k⟩⟩
 | ar7 x=>exact ⟨fun ⟨h,k⟩=>⟨_,_,⟨h,rfl,rfl⟩,k⟩,fun ⟨_,_,⟨h,e1,e2⟩,k⟩=>by subst e1; subst e2; exact ⟨h,k⟩⟩
 | st k xs=>cases k with
  | nev=>exact ⟨fun ⟨r,h,_⟩=>by (cases h),fun ⟨_,_,h,_⟩=>h.elim⟩
  | _=>exact absurd hk (by simp[IK.kind,SK.kind])
 | _=>exact absurd hk (by simp[IK.kind])
theorem ba7 {op:IK}{id:Nat}{fr fr':Frm}{v:IV}(h:∀ t∈op.ops.flatMap IX.uses,fr.get t=fr'.get t):bc5 P E op id fr σ v σ'→bc5 P E op id fr' σ v σ':=by
 cases op with
 | q q=>simp only[bc5]; rw[eu1 h]; exact fun h=>h
 | alloc z=>exact fun h=>h
 | box x=>simp only[bc5]; rw[af6 (x:=x) (fun t ht=>h t (by simp[IK.ops,ht]))]; exact fun h=>h
 | bsl e n z ps=>simp only[bc5]; rw[am1 h]; exact fun h=>h
 | app e s x=>simp only[bc5]; rw[af6 (x:=s) (fun t ht=>h t (by simp[IK.ops,ht])),af6 (x:=x) (fun t ht=>h t (by simp[IK.ops,ht]))]; exact fun h=>h
 | store e x y=>simp only[bc5]; rw[af6 (x:=x) (fun t ht=>h t (by simp[IK.ops,ht])),af6 (x:=y) (fun t ht=>h t (by simp[IK.ops,ht]))]; exact fun h=>h
 | aj4 f xs=>simp only[bc5]; rw[ap8 (xs:=xs) h]; exact fun h=>h
 | av2 e n z ps=>simp only[bc5]; rw[am1 h]; exact fun h=>h
 | cj5 e z x=>simp only[bc5]; rw[af6 (x:=x) (fun t ht=>h t (by simp[IK.ops,ht]))]; exact fun h=>h
 | ar7 x=>simp only[bc5]; rw[af6 (x:=x) (fun t ht=>h t (by simp[IK.ops,ht]))]; exact fun h=>h
 | _=>exact fun h=>h
/-! ### Blocks that the one lays and the other does not see -/
def az9 (id:Nat):IV→Prop
 | .ptr i _|.slice i _ _ _|.map i|.ae2 i _ _ _|.ad7 i _ _ _ _=>i≠id
 | _=>True
theorem ds6 {id:Nat}{v:IV}{r:Value}(hv:VR ρ w v r)(h:ρ id=.no):az9 id v:=by
 cases hv<;>simp only[az9]<;>first|trivial|(intro e; subst e; simp_all)
theorem put_comm (i j:Nat)(x y:ah2)(h:i≠j):(σ.put i x).put j y=(σ.put j y).put i x:=by
 unfold Store.put;congr 1;funext k;simp only;split
 ·rename_i h1;split
  ·rename_i h2; exact absurd (h2.symm.trans h1) h
  ·rfl
 ·rfl
theorem ae7 {id i:Nat}{o:ah2}(h:i≠id):(σ.put id o).obj i=σ.obj i:=by simp[Store.put,h]
theorem eu2 {tag id:Nat}{ob:ah2}{zero x k:IV}{ok:Bool}(h:az9 id x):ct7 (σ.put id ob) tag zero ok x k=ct7 σ tag zero ok x k:=by
 have:bg6 (σ.put id ob) x=bg6 σ x:=by
  cases x<;>try rfl
  simp only[bg6,ae7 h]
 unfold ct7;rw[this]
theorem eu3 {tag id:Nat}{zero x k v:IV}{ok:Bool}(hn:σ.obj id=none)(h:ct7 σ tag zero ok x k=some v):az9 id x:=by
 cases x<;>simp only[az9]<;>try trivial
 all_goals (intro e; subst e; simp[ct7,bg6,hn] at h)
theorem ds7 {agg:Option Nat}{id:Nat}{ob:ah2}{ad:IV}(h:az9 id ad):am9 (σ.put id ob) agg ad=am9 σ agg ad:=by
 have:ai6 (σ.put id ob) ad=ai6 σ ad:=by
  cases ad<;>simp only[ai6];rename_i i off;rw[ae7 h]
 unfold am9;rw[this]
theorem ea5 {agg:Option Nat}{id:Nat}{ad v:IV}(hn:σ.obj id=none)(h:am9 σ agg ad=some v):az9 id ad:=by
 cases ad with
 | ptr i off=>
  intro e;subst e
  simp[am9,ai6,hn] at h
 | slice i o l e=>simp[am9,ai6] at h
 | _=>trivial
theorem gf7 {id2 esz:Nat}{ob:ah2}{x:IV}(hx:az9 id2 x):av9 (σ.put id2 ob) esz x=av9 σ esz x:=by
 cases x<;>simp only[av9]
 all_goals (rename_i i o l e; rw[ae7 hx])
theorem fm9 {id2 did:Nat}{ob:ah2}(h:did≠id2):(σ.put id2 ob).kill did=(σ.kill did).put id2 ob:=by
 unfold Store.put Store.kill;congr 1;funext k;simp only;split
 ·rename_i h1;split
  ·rename_i h2; exact absurd (h1.symm.trans h2) h
  ·rfl
 ·rfl
theorem cj1 {id id2 esz:Nat}{ob:ah2}{s x:IV}(hs:az9 id2 s)(hx:az9 id2 x)(hne:id2≠id) :
  aw1 (σ.put id2 ob) id esz s x=(aw1 σ id esz s x).map fun r=>(r.1,r.2.put id2 ob):=by
 unfold aw1;rw[gf7 hx]
 cases av9 σ esz x with
 | none=>rfl
 | some p=>
  obtain ⟨n,xs⟩:=p;simp only;split
  ·rfl
  ·cases s with
   | aa1=>
    simp only;split
    ·rfl
    ·split
     ·simp[put_comm id2 id _ _ hne]
     ·rfl
   | ab4=>
    simp only;split
    ·rfl
    ·split
     ·simp[put_comm id2 id _ _ hne]
     ·rfl
   | aa4 es=>simp only; split<;>rfl
   | slice did off len e=>
    simp only;have hd:did≠id2:=hs;rw[ae7 hd]
    cases σ.obj did with
    | none=>rfl
    | some o=>
     cases o with
     | row cs=>
      simp only;split
      ·rfl
      ·split
       ·simp[fm9 hd,put_comm id2 id _ _ hne]
       ·rfl
     | _=>rfl
   | ae2 did off len e=>
    simp only;have hd:did≠id2:=hs;rw[ae7 hd]
    cases σ.obj did with
    | none=>rfl
    | some o=>
     cases o with
     | row cs=>
      simp only;split
      ·rfl
      ·split
       ·simp[put_comm id2 id _ _ hne]
       ·rfl
     | _=>rfl
   | _=>rfl
theorem eu4 {id id2 esz:Nat}{s x v:IV}(hn:σ.obj id2=none)(h:aw1 σ id esz s x=some (v,σ')):az9 id2 s∧az9 id2 x:=by
 unfold aw1 at h;split at h
 ·cases h
 ·rename_i n xs hsrc;constructor
  ·split at h
   ·cases h
   ·split at h<;>first|trivial|skip
    ·rename_i did off len e;intro e2;subst e2;rw[hn] at h;simp at h
    ·rename_i did off len e;intro e2;subst e2;rw[hn] at h;simp at h
  ·cases x with
   | slice i o l e=>
    intro e2;subst e2
    simp[av9,hn] at hsrc
   | ae2 i o l e=>
    intro e2;subst e2
    simp[av9,hn] at hsrc
   | ptr i o=>simp[av9] at hsrc
   | _=>trivial
theorem bl8 {id esz:Nat}{s x v:IV}(hn:σ.obj id=none)(h:aw1 σ id esz s x=some (v,σ'))(i:Nat)(cs:List IV):σ.obj i=some (.cells cs)↔σ'.obj i=some (.cells cs):=by
 have put:∀ (σ:Store) (l:List IV),σ.obj id=none→(σ.obj i=some (.cells cs)↔(σ.put id (.row l)).obj i=some (.cells cs)):=by
  intro σ l hn;by_cases hi:i=id
  ·subst hi; simp[Store.put,hn]
  ·rw[ae7 hi]
 unfold aw1 at h;split at h
 ·cases h
 ·split at h
  ·cases h
  ·split at h
   ·split at h
    ·cases h; exact Iff.rfl
    ·split at h
     ·cases h; exact put σ _ hn
     ·cases h
   ·split at h
    ·cases h; exact Iff.rfl
    ·split at h
     ·cases h; exact put σ _ hn
     ·cases h
   ·split at h
    ·cases h; exact Iff.rfl
    ·cases h
   ·rename_i did off len e;split at h
    ·rename_i cs' hd;split at h
     ·cases h; exact Iff.rfl
     ·split at h
      ·cases h;have hk:(σ.kill did).obj id=none:=by simp[Store.kill,hn]
       refine Iff.trans ?_ (put (σ.kill did) _ hk);by_cases hi:i=did
       ·subst hi; simp[Store.kill,hd]
       ·simp[Store.kill,hi]
      ·cases h
    ·cases h
   ·rename_i did off len e;split at h
    ·rename_i cs' hd;split at h
     ·cases h; exact Iff.rfl
     ·split at h
      ·cases h; exact put σ _ hn
      ·cases h
    ·cases h
   ·cases h
end Go.Id
/- Regions whose order is open: the ideal order serves for every order. Conditions: none; over any program. -/
namespace Go.Id
open Go
variable {P:Program} {w w' w'':World} {ρ ρ' ρ'':Rho} {E:Nat→IV} {σ σ':Store} {N n n':Nat} {fr:Frm} {a:Act} {pf:List Nat}
def as9 (E:Nat→IV)(fr:Frm)(σ:Store):IK→Prop
 | .q (.load _ x)=>match x.ev E fr with
  | .af4 _=>True
  | .ptr i _=>∃ cs,σ.obj i=some (.cells cs)
  | _=>False
 | _=>True
def hm5 (P:Program)(E:Nat→IV)(B act:Bool)(op:IK)(id:Nat)(fr:Frm)(σ:Store)(v:IV)(σ':Store):Prop :=
 if act then bc5 P E op id fr σ v σ'∧(B=true→as9 E fr σ op) else v=skV∧σ'=σ
def ds8 (B:Bool)(i j:Nat):Bool :=
 i==0&&j≤5||j==0&&i≤5||i==1&&j==1||i==1&&j==2||i==2&&j==2||i==3&&j==2||B&&i==1&&j==3||B&&i==3&&j==1||i==2&&j==1||i==2&&j==3||i==1&&j==5||i==5&&j==1||i==5&&j==5||i==5&&j==2||i==2&&j==5
def cd2 (B:Bool)(i j:Nat):Bool:=ds8 B i j||i==2&&j==4||i==4&&j==2
theorem ea6 {q:IQ}(h:q.kind=1):∃ ag x,q=.load ag x:=by
 cases q with
 | load ag x=>exact ⟨ag,x,rfl⟩
 | len k x=>
  exfalso
  match k,h with
  | 0,h=>simp[IQ.kind] at h
  | 1,h=>simp[IQ.kind] at h
  | k+2,h=>simp[IQ.kind] at h
 | _=>simp[IQ.kind] at h
theorem ea7 {op:IK}(h:op.kind=1):∃ ag x,op=.q (.load ag x):=by
 cases op with
 | q q=>obtain ⟨ag,x,rfl⟩:=ea6 h; exact ⟨ag,x,rfl⟩
 | st k xs=>cases k<;>simp[IK.kind,SK.kind] at h
 | _=>simp[IK.kind] at h
theorem bi9 (q:IQ):q.kind=0∨q.kind=1∨q.kind=5∨q.kind=6:=by
 cases q with
 | load ag x=>simp[IQ.kind]
 | len k x=>
  match k with
  | 0=>simp[IQ.kind]
  | 1=>simp[IQ.kind]
  | k+2=>simp[IQ.kind]
 | _=>simp[IQ.kind]
theorem gt2 {op:IK}(h:op.kind=1∨op.kind=5):∃ q,op=.q q:=by
 cases op with
 | q q=>exact ⟨q,rfl⟩
 | st k xs=>cases k<;>simp[IK.kind,SK.kind] at h
 | _=>simp[IK.kind] at h
theorem gt3 {op:IK}(h:op.kind=5):∃ t z ok x k,op=.q (.lkp t z ok x k):=by
 cases op with
 | q q=>
  cases q with
  | lkp t z ok x k=>exact ⟨t,z,ok,x,k,rfl⟩
  | len k x=>
   exfalso
   match k,h with
   | 0,h=>simp[IK.kind,IQ.kind] at h
   | 1,h=>simp[IK.kind,IQ.kind] at h
   | k+2,h=>simp[IK.kind,IQ.kind] at h
  | _=>simp[IK.kind,IQ.kind] at h
 | st k xs=>cases k<;>simp[IK.kind,SK.kind] at h
 | _=>simp[IK.kind] at h
theorem fn1 {op:IK}(h:op.kind=3):∃ e s x,op=.app e s x:=by
 cases op with
 | q q=>rcases bi9 q with h'|h'|h'|h'<;>simp[IK.kind,h'] at h
 | app e s x=>exact ⟨e,s,x,rfl⟩
 | st k xs=>cases k<;>simp[IK.kind,SK.kind] at h
 | _=>simp[IK.kind] at h
theorem gt4 {op:IK}(h:op.kind=4):∃ e a y,op=.store e a y:=by
 cases op with
 | q q=>rcases bi9 q with h'|h'|h'|h'<;>simp[IK.kind,h'] at h
 | store e a y=>exact ⟨e,a,y,rfl⟩
 | st k xs=>cases k<;>simp[IK.kind,SK.kind] at h
 | _=>simp[IK.kind] at h
theorem dc8 {id sz:Nat}{ob:ah2}{a v:IV}(h:az9 id a):aj3 (σ.put id ob) sz a v=(aj3 σ sz a v).map (·.put id ob):=by
 cases a with
 | ptr i off=>
  have hi:i≠id:=h;simp only[aj3,ae7 hi]
  cases hc:σ.obj i with
  | none=>rfl
  | some o=>
   cases o with
   | cells cs=>
    simp only;split
    ·simp only[Option.map_some]; rw[put_comm id i _ _ (fun e=>hi e.symm)]
    ·rfl
   | row cs=>
    simp only;split
    ·simp only[Option.map_some]; rw[put_comm id i _ _ (fun e=>hi e.symm)]
    ·rfl
   | _=>rfl
 | _=>rfl
theorem dl4 {id sz:Nat}{a v:IV}(hn:σ.obj id=none)(h:aj3 σ sz a v=some σ'):az9 id a:=by
 cases a with
 | ptr i off=>intro e; subst e; simp[aj3,hn] at h
 | slice i o l e=>simp[aj3] at h
 | map i=>simp[aj3] at h
 | ae2 i o l e=>simp[aj3] at h
 | ad7 i o l r e=>simp[aj3] at h
 | _=>trivial
theorem bl9 {op:IK}{id:Nat}{v:IV}(hk:op.kind=0)(h:bc5 P E op id fr σ v σ'):σ'=σ∧∀ σ2,bc5 P E op id fr σ2 v σ2:=by
 cases op with
 | q q=>exact ⟨h.2,fun σ2=>⟨by rw[fm8 (σ':=σ) hk]; exact h.1,rfl⟩⟩
 | aj4 f xs=>exact ⟨h.2,fun σ2=>⟨h.1,rfl⟩⟩
 | av2 e n z ps=>obtain ⟨out,h1,h2,h3⟩:=h; exact ⟨h3,fun _=>⟨out,h1,h2,rfl⟩⟩
 | ar7 x=>obtain ⟨h1,h2,h3⟩:=h; exact ⟨h3,fun _=>⟨h1,h2,rfl⟩⟩
 | st k xs=>exact h.elim
 | _=>simp[IK.kind] at hk
theorem al7 {op:IK}{id:Nat}{v:IV}(hk:op.kind=2)(h:bc5 P E op id fr σ v σ'):∃ ob,σ'=σ.put id ob∧∀ σ2,bc5 P E op id fr σ2 v (σ2.put id ob):=by
 cases op with
 | q q=>rcases bi9 q with h'|h'|h'|h'<;>simp[IK.kind,h'] at hk
 | alloc z=>exact ⟨_,h.2,fun σ2=>⟨h.1,rfl⟩⟩
 | box x=>exact ⟨_,h.2.2,fun σ2=>⟨h.1,h.2.1,rfl⟩⟩
 | bsl e n z ps=>obtain ⟨out,h1,h2,h3⟩:=h; exact ⟨_,h3,fun σ2=>⟨out,h1,h2,rfl⟩⟩
 | cj5 e z x=>obtain ⟨n,h1,h2,h3⟩:=h; exact ⟨_,h3,fun σ2=>⟨n,h1,h2,rfl⟩⟩
 | st k xs=>exact h.elim
 | _=>simp[IK.kind] at hk
theorem bm1 {op:IK}{fr fr':Frm}(h:∀ t∈op.ops.flatMap IX.uses,fr.get t=fr'.get t):as9 E fr σ op→as9 E fr' σ op:=by
 cases op with
 | q q=>
  cases q with
  | load ag x=>simp only[as9]; rw[af6 (x:=x) (fun t ht=>h t (by simp[IK.ops,IQ.ops,ht]))]; exact fun h=>h
  | _=>exact fun h=>h
 | _=>exact fun h=>h
theorem bp9 {op:IK}{σ2:Store}(h:∀ i cs,σ.obj i=some (.cells cs)→∃ cs',σ2.obj i=some (.cells cs')):as9 E fr σ op→as9 E fr σ2 op:=by
 cases op with
 | q q=>
  cases q with
  | load ag x=>
   simp only[as9];split
   ·exact fun h=>h
   ·rintro ⟨cs,hc⟩; exact h _ cs hc
   ·exact fun h=>h
  | _=>exact fun h=>h
 | _=>exact fun h=>h
theorem ah4 {op:IK}{σ2:Store}(hk:op.kind≠1):as9 E fr σ2 op:=by
 cases op with
 | q q=>
  cases q with
  | load ag x=>exact absurd rfl hk
  | _=>trivial
 | _=>trivial
theorem cu5 {B:Bool}{p x:IK}{ip ix:Nat}{fr1 fr2:Frm}{σ1 σ2:Store}{vp vx:IV}(hp:bc5 P E p ip fr σ vp σ1)(hpb:B=true→as9 E fr σ p)(hx:bc5 P E x ix fr1 σ1 vx σ2)(hxb:B=true→as9 E fr1 σ1 x)
  (hfree:cd2 B p.kind x.kind=true) (hfx:∀ t∈x.ops.flatMap IX.uses,fr1.get t=fr.get t) (hfp:∀ t∈p.ops.flatMap IX.uses,fr.get t=fr2.get t)
  (hne:ip≠ix) (hnp:σ.obj ip=none) (hnx:σ.obj ix=none) (hH:p.kind=2→∀ y∈x.ops,az9 ip (y.ev E fr)) :
  ∃ σ1',bc5 P E x ix fr σ vx σ1'∧(B=true→as9 E fr σ x)∧bc5 P E p ip fr2 σ1' vp σ2∧(B=true→as9 E fr2 σ1' p):=by
 have hx':=ba7 hfx hx;have hxb':B=true→as9 E fr σ1 x:=fun hb=>bm1 hfx (hxb hb)
 have hp':∀ {s s' v},bc5 P E p ip fr s v s'→bc5 P E p ip fr2 s v s':=fun h=>ba7 hfp h
 have hpb':∀ {s},as9 E fr s p→as9 E fr2 s p:=fun h=>bm1 hfp h
 by_cases kp0:p.kind=0
 ·obtain ⟨rfl,hall⟩:=bl9 kp0 hp;exact ⟨σ2,hx',hxb',hp' (hall σ2),fun _=>hpb' (ah4 (by omega))⟩
 by_cases kx0:x.kind=0
 ·obtain ⟨rfl,hall⟩:=bl9 kx0 hx';exact ⟨σ,hall σ,fun _=>ah4 (by omega),hp' hp,fun hb=>hpb' (hpb hb)⟩
 by_cases n1:p.kind=2∧x.kind=4
 ·obtain ⟨k1,k2⟩:=n1;obtain ⟨ob,rfl,hall⟩:=al7 k1 hp;obtain ⟨e,a,y,rfl⟩:=gt4 k2;have r1:=hH k1 a (by simp[IK.ops]);simp only[bc5] at hx';obtain ⟨hx1,rfl⟩:=hx';rw[dc8 r1] at hx1;obtain ⟨s,h1,rfl⟩:=map_some hx1;exact ⟨s,⟨h1,rfl⟩,fun _=>trivial,hp' (hall s),fun _=>ah4 (by omega)⟩
 by_cases n2:p.kind=4∧x.kind=2
 ·obtain ⟨k1,k2⟩:=n2;obtain ⟨e,a,y,rfl⟩:=gt4 k1;obtain ⟨ob,rfl,hall⟩:=al7 k2 hx';obtain ⟨h1,rfl⟩:=hp;refine ⟨σ.put ix ob,hall σ,fun _=>ah4 (by omega),hp' ⟨?_,rfl⟩,fun _=>trivial⟩;rw[dc8 (dl4 hnx h1),h1];rfl
 have hfree:ds8 B p.kind x.kind=true:=by
  unfold cd2 at hfree;simp only[Bool.or_eq_true,Bool.and_eq_true,beq_iff_eq] at hfree;rcases hfree with (h|h)|h
  ·exact h
  ·exact absurd h n1
  ·exact absurd h n2
 have hcases:(p.kind=1∧x.kind=1)∨(p.kind=1∧x.kind=2)∨(p.kind=2∧x.kind=2)∨(p.kind=3∧x.kind=2)∨(B=true∧p.kind=1∧x.kind=3)∨(B=true∧p.kind=3∧x.kind=1)∨(p.kind=2∧x.kind=1)∨(p.kind=2∧x.kind=3)∨((p.kind=1∨p.kind=5)∧(x.kind=1∨x.kind=5))∨(p.kind=5∧x.kind=2)∨(p.kind=2∧x.kind=5):=by
  unfold ds8 at hfree;simp only[Bool.or_eq_true,Bool.and_eq_true,beq_iff_eq,decide_eq_true_eq] at hfree;rcases hfree with ((((((((((((((h|h)|h)|h)|h)|h)|h)|h)|h)|h)|h)|h)|h)|h)|h)
  ·exact absurd h.1 kp0
  ·exact absurd h.1 kx0
  ·exact .inl h
  ·exact .inr (.inl h)
  ·exact .inr (.inr (.inl h))
  ·exact .inr (.inr (.inr (.inl h)))
  ·exact .inr (.inr (.inr (.inr (.inl ⟨h.1.1,h.1.2,h.2⟩))))
  ·exact .inr (.inr (.inr (.inr (.inr (.inl ⟨h.1.1,h.1.2,h.2⟩)))))
  ·exact .inr (.inr (.inr (.inr (.inr (.inr (.inl h))))))
  ·exact .inr (.inr (.inr (.inr (.inr (.inr (.inr (.inl h)))))))
  ·exact .inr (.inr (.inr (.inr (.inr (.inr (.inr (.inr (.inl ⟨.inl h.1,.inr h.2⟩))))))))
  ·exact .inr (.inr (.inr (.inr (.inr (.inr (.inr (.inr (.inl ⟨.inr h.1,.inl h.2⟩))))))))
  ·exact .inr (.inr (.inr (.inr (.inr (.inr (.inr (.inr (.inl ⟨.inr h.1,.inr h.2⟩))))))))
  ·exact .inr (.inr (.inr (.inr (.inr (.inr (.inr (.inr (.inr (.inl h)))))))))
  ·exact .inr (.inr (.inr (.inr (.inr (.inr (.inr (.inr (.inr (.inr h)))))))))
 rcases hcases with ⟨k1,k2⟩|⟨k1,k2⟩|⟨k1,k2⟩|⟨k1,k2⟩|⟨hB,k1,k2⟩|⟨hB,k1,k2⟩|⟨k1,k2⟩|⟨k1,k2⟩|⟨k1,k2⟩|⟨k1,k2⟩|⟨k1,k2⟩
 ·obtain ⟨ag,y,rfl⟩:=ea7 k1;obtain ⟨ag',y',rfl⟩:=ea7 k2;obtain ⟨h1,rfl⟩:=hp;obtain ⟨h2,rfl⟩:=hx';exact ⟨_,⟨h2,rfl⟩,hxb',hp' ⟨h1,rfl⟩,fun hb=>hpb' (hpb hb)⟩
 ·obtain ⟨ag,y,rfl⟩:=ea7 k1;obtain ⟨h1,rfl⟩:=hp;obtain ⟨ob,rfl,hall⟩:=al7 k2 hx';refine ⟨σ1.put ix ob,hall σ1,fun _=>ah4 (by omega),hp' ⟨?_,rfl⟩,fun hb=>hpb' (bp9 (fun i cs hc=>⟨cs,by rw[ae7 (fun e=>by subst e; rw[hnx] at hc; cases hc)]; exact hc⟩) (hpb hb))⟩;simp only[evq] at h1 ⊢;rw[ds7 (ea5 hnx h1)]; exact h1
 ·obtain ⟨ob,rfl,hall⟩:=al7 k1 hp;obtain ⟨ob',rfl,hall'⟩:=al7 k2 hx';refine ⟨σ.put ix ob',hall' σ,fun _=>ah4 (by omega),?_,fun _=>ah4 (by omega)⟩;rw[put_comm ip ix _ _ hne];exact hp' (hall _)
 ·obtain ⟨e,s,y,rfl⟩:=fn1 k1;obtain ⟨ob,rfl,hall⟩:=al7 k2 hx';refine ⟨σ.put ix ob,hall σ,fun _=>ah4 (by omega),hp' ?_,fun _=>ah4 (by omega)⟩;obtain ⟨n1,n2⟩:=eu4 (id2:=ix) hnx hp;simp only[bc5] at hp ⊢;rw[cj1 n1 n2 (fun e=>hne e.symm),hp];rfl
 ·obtain ⟨ag,y,rfl⟩:=ea7 k1;obtain ⟨e,s,z,rfl⟩:=fn1 k2;obtain ⟨h1,rfl⟩:=hp;have hb:=hpb hB;refine ⟨σ2,hx',fun _=>trivial,hp' ⟨?_,rfl⟩,fun _=>hpb' (bp9 (fun i cs hc=>⟨cs,(bl8 hnx hx' i cs).1 hc⟩) hb)⟩;simp only[evq] at h1 ⊢;rw[← h1];simp only[as9] at hb;split at hb
  ·rename_i he; rw[he]; rfl
  ·rename_i i off he;obtain ⟨cs,hc⟩:=hb;have hc':=(bl8 hnx hx' i cs).1 hc;rw[he];simp[am9,ai6,hc,hc']
  ·exact hb.elim
 ·obtain ⟨e,s,z,rfl⟩:=fn1 k1;obtain ⟨ag,y,rfl⟩:=ea7 k2;obtain ⟨h2,rfl⟩:=hx';have hb:=hxb' hB;refine ⟨σ,⟨?_,rfl⟩,fun _=>bp9 (fun i cs hc=>⟨cs,(bl8 hnp hp i cs).2 hc⟩) hb,hp' hp,fun _=>trivial⟩;simp only[evq] at h2 ⊢;rw[← h2];simp only[as9] at hb;split at hb
  ·rename_i he; rw[he]; rfl
  ·rename_i i off he;obtain ⟨cs,hc⟩:=hb;have hc':=(bl8 hnp hp i cs).2 hc;rw[he];simp[am9,ai6,hc,hc']
  ·exact hb.elim
 ·obtain ⟨ob,rfl,hall⟩:=al7 k1 hp;obtain ⟨ag,y,rfl⟩:=ea7 k2;obtain ⟨h2,rfl⟩:=hx';have hr:=hH k1 y (by simp[IK.ops,IQ.ops]);refine ⟨σ,⟨?_,rfl⟩,fun hb=>?_,hp' hp,fun _=>ah4 (by omega)⟩
  ·simp only[evq] at h2 ⊢;rw[ds7 hr] at h2; exact h2
  ·have:=hxb' hb;simp only[as9] at this ⊢;split
   ·trivial
   ·rename_i i off he;rw[he] at this hr;obtain ⟨cs,hc⟩:=this;exact ⟨cs,by rw[ae7 hr] at hc; exact hc⟩
   ·rename_i h1 h2;generalize y.ev E fr=q at *;cases q<;>first|exact this|exact (h1 _ rfl).elim|exact (h2 _ _ rfl).elim
 ·obtain ⟨ob,rfl,hall⟩:=al7 k1 hp;obtain ⟨e,s,z,rfl⟩:=fn1 k2;have r1:=hH k1 s (by simp[IK.ops]);have r2:=hH k1 z (by simp[IK.ops]);simp only[bc5] at hx';rw[cj1 r1 r2 hne] at hx';obtain ⟨⟨v',s'⟩,h1,h2⟩:=map_some hx';cases h2;exact ⟨s',h1,fun _=>trivial,hp' (hall _),fun _=>ah4 (by omega)⟩
 ·obtain ⟨q1,rfl⟩:=gt2 k1;obtain ⟨q2,rfl⟩:=gt2 k2;obtain ⟨h1,rfl⟩:=hp;obtain ⟨h2,rfl⟩:=hx';exact ⟨_,⟨h2,rfl⟩,hxb',hp' ⟨h1,rfl⟩,fun hb=>hpb' (hpb hb)⟩
 ·obtain ⟨t,z,ok,y,k,rfl⟩:=gt3 k1;obtain ⟨h1,rfl⟩:=hp;obtain ⟨ob,rfl,hall⟩:=al7 k2 hx';refine ⟨σ1.put ix ob,hall σ1,fun _=>ah4 (by omega),hp' ⟨?_,rfl⟩,fun hb=>trivial⟩;simp only[evq] at h1 ⊢;rw[eu2 (eu3 hnx h1)]; exact h1
 ·obtain ⟨ob,rfl,hall⟩:=al7 k1 hp;obtain ⟨t,z,ok,y,k,rfl⟩:=gt3 k2;obtain ⟨h2,rfl⟩:=hx';have hr:=hH k1 y (by simp[IK.ops,IQ.ops]);refine ⟨σ,⟨?_,rfl⟩,fun hb=>trivial,hp' hp,fun _=>ah4 (by omega)⟩;simp only[evq] at h2 ⊢;rw[eu2 hr] at h2; exact h2
end Go.Id
/- Regions whose order is open,whole. Conditions: none; over any program. -/
namespace Go.Id
open Go
variable {P:Program} {w w' w'':World} {ρ ρ' ρ'':Rho} {E:Nat→IV} {σ σ':Store} {N n n':Nat} {fr:Frm} {a:Act} {pf:List Nat}
abbrev Item:=Nat×ac6×Nat
def gt5 (P:Program)(E:Nat→IV)(B:Bool)(o:ac6)(id:Nat)(fr:Frm)(σ:Store)(K:Frm→Store→Prop):Prop :=
 ∃ act,ar6 o fr=some act∧(if act then opR P E o.op id fr σ (fun v σ'=>K (fr.ah5 o.dst v) σ')∧(B=true→as9 E fr σ o.op) else K (fr.ah5 o.dst skV) σ)
def bg8 (P:Program)(E:Nat→IV)(B:Bool):List Item→Frm→Store→(Frm→Store→Prop)→Prop
 | [],fr,σ,K=>K fr σ
 | (_,o,id)::rest,fr,σ,K=>gt5 P E B o id fr σ fun fr' σ'=>bg8 P E B rest fr' σ' K
theorem au8 (fr:Frm)(d:Option Nat)(v:IV)(t:Nat):(fr.ah5 d v).get t=if d=some t then v else fr.get t:=by
 cases d with
 | none=>simp[Frm.ah5]
 | some d=>
  simp only[Frm.ah5,Frm.bi2,Option.some.injEq];by_cases h:t=d
  ·subst h; simp
  ·have:¬ d=t:=fun e=>h e.symm
   simp[h,this]
theorem ca7 {fr fr':Frm}(h:FEq fr fr')(d:Option Nat)(v:IV):FEq (fr.ah5 d v) (fr'.ah5 d v):=fun t=>by rw[au8,au8,h t]
theorem eu5 {op:IK}{id:Nat}{fr fr':Frm}{K:IV→Store→Prop}(h:FEq fr fr'):opR P E op id fr σ K→opR P E op id fr' σ K:=by
 have hev:∀ x:IX,x.ev E fr=x.ev E fr':=fun x=>af6 fun t _=>h t
 have hmap:∀ xs:List IX,xs.map (·.ev E fr)=xs.map (·.ev E fr'):=fun xs=>ap8 fun t _=>h t
 cases op with
 | q q=>simp only[opR]; rw[eu1 (fun t _=>h t)]; exact fun h=>h
 | alloc z=>exact fun h=>h
 | box x=>simp only[opR]; rw[hev x]; exact fun h=>h
 | bsl e n z ps=>simp only[opR]; rw[am1 (fun t _=>h t)]; exact fun h=>h
 | store e x y=>simp only[opR]; rw[hev x,hev y]; exact fun h=>h
 | app e x y=>simp only[opR]; rw[hev x,hev y]; exact fun h=>h
 | bm5=>exact fun h=>h
 | av1 x=>simp only[opR]; rw[hev x]; exact fun h=>h
 | bq6 x=>simp only[opR]; rw[hev x]; exact fun h=>h
 | de4 t x y z=>simp only[opR]; rw[hev x,hev y,hev z]; exact fun h=>h
 | call f xs=>simp only[opR]; rw[hmap]; exact fun h=>h
 | aj4 f xs=>simp only[opR]; rw[hmap]; exact fun h=>h
 | an7 x xs=>simp only[opR]; rw[hmap,hev]; exact fun h=>h
 | av2 e n z ps=>simp only[opR]; rw[am1 (fun t _=>h t)]; exact fun h=>h
 | ar7 x=>simp only[opR]; rw[hev x]; exact fun h=>h
 | aq9 x=>simp only[opR]; rw[hev x]; exact fun h=>h
 | bj2 x=>simp only[opR]; rw[hev x]; exact fun h=>h
 | dn5 x=>simp only[opR]; rw[hev x]; exact fun h=>h
 | cj5 e z x=>simp only[opR]; rw[hev x]; exact fun h=>h
 | clr e z x=>simp only[opR]; rw[hev x]; exact fun h=>h
 | st k xs=>simp only[opR]; rw[hmap]; exact fun h=>h
theorem ai1 {op:IK}{id:Nat}{K K':IV→Store→Prop}(hK:∀ v σ,K v σ→K' v σ):opR P E op id fr σ K→opR P E op id fr σ K':=by
 cases op with
 | q q=>exact fun ⟨v,h,k⟩=>⟨v,h,hK _ _ k⟩
 | alloc z=>exact fun k=>hK _ _ k
 | box x=>exact fun ⟨h,k⟩=>⟨h,hK _ _ k⟩
 | bsl e n z ps=>exact fun ⟨out,h,k⟩=>⟨out,h,hK _ _ k⟩
 | store e x y=>exact fun ⟨s,h,k⟩=>⟨s,h,hK _ _ k⟩
 | app e x y=>exact fun ⟨r,h,k⟩=>⟨r,h,hK _ _ k⟩
 | bm5=>exact fun k=>hK _ _ k
 | av1 x=>exact fun ⟨s,h,k⟩=>⟨s,h,hK _ _ k⟩
 | bq6 x=>exact fun ⟨s,h,k⟩=>⟨s,h,hK _ _ k⟩
 | de4 t x y z=>exact fun ⟨s,h,k⟩=>⟨s,h,hK _ _ k⟩
 | call f xs=>exact fun ⟨Q,h,k⟩=>⟨Q,h,fun v s q=>⟨(k v s q).1,hK _ _ (k v s q).2⟩⟩
 | aj4 f xs=>exact fun ⟨v,h,k⟩=>⟨v,h,hK _ _ k⟩
 | an7 x xs=>exact fun ⟨Q,h,k⟩=>⟨Q,h,fun v s q=>⟨(k v s q).1,hK _ _ (k v s q).2⟩⟩
 | av2 e n z ps=>exact fun ⟨out,h,k⟩=>⟨out,h,hK _ _ k⟩
 | ar7 x=>exact fun ⟨h,k⟩=>⟨h,hK _ _ k⟩
 | aq9 x=>exact fun ⟨s,h,k⟩=>⟨s,h,hK _ _ k⟩
 | dn5 x=>exact fun ⟨v,h,k⟩=>⟨v,h,hK _ _ k⟩
 | cj5 e z x=>exact fun ⟨n,h,k⟩=>⟨n,h,hK _ _ k⟩
 | clr e z x=>exact fun ⟨s,h,hn,k⟩=>⟨s,h,hn,hK _ _ k⟩
 | st e xs=>exact fun ⟨r,h,k⟩=>⟨r,h,hK _ _ k⟩
 | bj2 x=>exact fun ⟨i,l,h,k1,k2⟩=>⟨i,l,h,fun e=>hK _ _ (k1 e),fun j hj=>hK _ _ (k2 j hj)⟩
theorem ay6 {o:ac6}{fr fr':Frm}(h:∀ t∈o.uses,fr.get t=fr'.get t):ar6 o fr=ar6 o fr':=by
 unfold ar6
 cases hg:o.guard with
 | none=>rfl
 | some p=>
  obtain ⟨s,want⟩:=p;simp only;rw[h s (by simp[ac6.uses,hg])]
theorem fn2 {B:Bool}{o:ac6}{id:Nat}{fr fr':Frm}{K K':Frm→Store→Prop}(h:FEq fr fr')(hK:∀ f f' s,FEq f f'→K f s→K' f' s):gt5 P E B o id fr σ K→gt5 P E B o id fr' σ K':=by
 rintro ⟨act,ha,hh⟩;refine ⟨act,by rw[← ay6 (fun t _=>h t)]; exact ha,?_⟩
 cases act with
 | true=>
  obtain ⟨h1,h2⟩:=hh
  exact ⟨ai1 (fun v s k=>hK _ _ _ (ca7 h _ _) k) (eu5 h h1),fun hb=>bm1 (fun t _=>h t) (h2 hb)⟩
 | false=>exact hK _ _ _ (ca7 h _ _) hh
theorem dc9 {B:Bool}{K:Frm→Store→Prop}(hK:∀ f f' s,FEq f f'→K f s→K f' s):∀ (its:List Item) (fr fr':Frm) (σ:Store),FEq fr fr'→bg8 P E B its fr σ K→bg8 P E B its fr' σ K:=by
 intro its
 induction its with
 | nil=>exact fun fr fr' σ h k=>hK _ _ _ h k
 | cons it its ih=>
  obtain ⟨i,o,id⟩:=it;exact fun fr fr' σ h k=>fn2 h (fun f f' s hf kk=>ih f f' s hf kk) k
def eu6 (p x:ac6):Prop :=
 (∀ d,x.dst=some d→d ∉ p.uses∧p.dst≠some d)∧(∀ d,p.dst=some d→d ∉ x.uses)
def eu7 (B:Bool)(p x:ac6):Prop:=cd2 B p.op.kind x.op.kind=true∧eu6 p x
theorem cu6 {B:Bool}{i j:Nat}(h:cd2 B i j=true):i≤5∧j≤5:=by
 unfold cd2 ds8 at h;simp only[Bool.or_eq_true,Bool.and_eq_true,beq_iff_eq,decide_eq_true_eq] at h;omega
theorem dd2 {op:IK}{id i:Nat}{v:IV}(hk:op.kind≤5)(hi:i≠id)(h:bc5 P E op id fr σ v σ')(hn:σ.obj i=none):σ'.obj i=none:=by
 cases op with
 | q q=>rw[h.2]; exact hn
 | alloc z=>rw[h.2,ae7 hi]; exact hn
 | box x=>rw[h.2.2,ae7 hi]; exact hn
 | bsl e n z ps=>obtain ⟨out,_,_,h3⟩:=h; rw[h3,ae7 hi]; exact hn
 | store e x y=>
  obtain ⟨h,_⟩:=h;unfold aj3 at h;split at h
  ·rename_i j off hx;split at h
   ·rename_i cs hc;split at h
    ·cases h;rw[ae7 (fun e=>by subst e; rw[hn] at hc; cases hc)]; exact hn
    ·cases h
   ·rename_i cs hc;split at h
    ·cases h;rw[ae7 (fun e=>by subst e; rw[hn] at hc; cases hc)]; exact hn
    ·cases h
   ·cases h
  ·cases h
 | aj4 f xs=>rw[h.2]; exact hn
 | app e s x=>
  simp only[bc5] at h;unfold aw1 at h;split at h
  ·cases h
  ·split at h
   ·cases h
   ·split at h
    ·split at h
     ·cases h; exact hn
     ·split at h
      ·cases h; rw[ae7 hi]; exact hn
      ·cases h
    ·split at h
     ·cases h; exact hn
     ·split at h
      ·cases h; rw[ae7 hi]; exact hn
      ·cases h
    ·split at h
     ·cases h; exact hn
     ·cases h
    ·split at h
     ·split at h
      ·cases h; exact hn
      ·split at h
       ·cases h; rw[ae7 hi]; simp only[Store.kill]; split<;>simp[hn]
       ·cases h
     ·cases h
    ·split at h
     ·split at h
      ·cases h; exact hn
      ·split at h
       ·cases h; rw[ae7 hi]; exact hn
       ·cases h
     ·cases h
    ·cases h
 | av2 e n z ps=>obtain ⟨_,_,_,rfl⟩:=h; exact hn
 | ar7 x=>obtain ⟨_,_,rfl⟩:=h; exact hn
 | cj5 e z x=>obtain ⟨_,_,_,rfl⟩:=h; rw[ae7 hi]; exact hn
 | st k xs=>exact h.elim
 | _=>exact absurd hk (by simp[IK.kind])
theorem ar4 {o:ac6}{t:Nat}(h:t∈o.op.ops.flatMap IX.uses):t∈o.uses:=by unfold ac6.uses; exact List.mem_append_left _ h
theorem ik4 {B:Bool}{K:Frm→Store→Prop}(hK:∀ f f' s,FEq f f'→K f s→K f' s){ix:Nat}{x:ac6}{kx:Nat}{post:List Item} :
  ∀ (pre:List Item) (fr:Frm) (σ:Store),(∀ p∈pre,eu7 B p.2.1 x)→(∀ p∈pre,p.2.2≠kx∧σ.obj p.2.2=none)→(pre.map (·.2.2)).Nodup→(pre≠[]→σ.obj kx=none) →
   (∀ p∈pre,p.2.1.op.kind=2→∀ y∈x.op.ops,az9 p.2.2 (y.ev E fr)) →
   bg8 P E B (pre++(ix,x,kx)::post) fr σ K→gt5 P E B x kx fr σ fun fr' σ'=>bg8 P E B (pre++post) fr' σ' K:=by
 intro pre
 induction pre with
 | nil=>intro fr σ _ _ _ _ _ h; exact h
 | cons p pre ih=>
  intro fr σ hfree hids hnd hnx hH h;obtain ⟨ip,p,kp⟩:=p;obtain ⟨hk,hap⟩:=hfree _ (List.mem_cons_self ..);obtain ⟨hpx,hkp⟩:=hids _ (List.mem_cons_self ..);simp only at hk hap hpx hkp;obtain ⟨kp3,kx3⟩:=cu6 hk;have hnx:=hnx (by simp);obtain ⟨ap,hact,hh⟩:=h
  -- what p gives
  have hp:∃ vp σ1,hm5 P E B ap p.op kp fr σ vp σ1∧bg8 P E B (pre++(ix,x,kx)::post) (fr.ah5 p.dst vp) σ1 K:=by
   cases ap with
   | true=>
    obtain ⟨h1,h2⟩:=hh;obtain ⟨vp,σ1,hd,k⟩:=(as8 kp3).1 h1
    exact ⟨vp,σ1,⟨hd,h2⟩,k⟩
   | false=>exact ⟨skV,σ,⟨rfl,rfl⟩,hh⟩
  obtain ⟨vp,σ1,hd,htree⟩:=hp
  have hfx:∀ t∈x.uses,(fr.ah5 p.dst vp).get t=fr.get t:=fun t ht=>by
   rw[au8,if_neg]; intro e; exact hap.2 t e ht
  have fresh1:∀ i,i≠kp→σ.obj i=none→σ1.obj i=none:=fun i hi h0=>by
   cases ap with
   | true=>exact dd2 kp3 hi hd.1 h0
   | false=>obtain ⟨_,rfl⟩:=hd; exact h0
  have hnd':=List.nodup_cons.1 (show (kp::pre.map (·.2.2)).Nodup from hnd)
  obtain ⟨ax,hactx,hhx⟩:=ih (fr.ah5 p.dst vp) σ1 (fun q hq=>hfree q (List.mem_cons_of_mem _ hq))
   (fun q hq=>⟨(hids q (List.mem_cons_of_mem _ hq)).1,fresh1 _ (fun e=>hnd'.1 (by rw[← e]; exact List.mem_map.2 ⟨q,hq,rfl⟩)) (hids q (List.mem_cons_of_mem _ hq)).2⟩)
   hnd'.2 (fun _=>fresh1 kx (fun e=>hpx e.symm) hnx)
   (fun q hq hk2 y hy=>by
    have:y.ev E (fr.ah5 p.dst vp)=y.ev E fr:=af6 fun t ht=>hfx t (ar4 (List.mem_flatMap.2 ⟨y,hy,ht⟩))
    rw[this]; exact hH q (List.mem_cons_of_mem _ hq) hk2 y hy) htree
  have hx:∃ vx σ2,hm5 P E B ax x.op kx (fr.ah5 p.dst vp) σ1 vx σ2∧bg8 P E B (pre++post) ((fr.ah5 p.dst vp).ah5 x.dst vx) σ2 K:=by
   cases ax with
   | true=>
    obtain ⟨h1,h2⟩:=hhx;obtain ⟨vx,σ2,hd,k⟩:=(as8 kx3).1 h1
    exact ⟨vx,σ2,⟨hd,h2⟩,k⟩
   | false=>exact ⟨skV,σ1,⟨rfl,rfl⟩,hhx⟩
  obtain ⟨vx,σ2,hdx,htree2⟩:=hx;have hactx':ar6 x fr=some ax:=by rw[← ay6 hfx]; exact hactx
  have hfp:∀ t∈p.uses,fr.get t=(fr.ah5 x.dst vx).get t:=fun t ht=>by
   rw[au8,if_neg]; intro e; exact (hap.1 t e).1 ht
  have hactp':ar6 p (fr.ah5 x.dst vx)=some ap:=by rw[← ay6 hfp]; exact hact
  have feq:FEq ((fr.ah5 p.dst vp).ah5 x.dst vx) ((fr.ah5 x.dst vx).ah5 p.dst vp):=fun t=>by
   simp only[au8];by_cases h1:x.dst=some t
   ·have h2:p.dst≠some t:=(hap.1 t h1).2;simp[h1,h2]
   ·simp[h1]
  have swap:∃ σ1',hm5 P E B ax x.op kx fr σ vx σ1'∧hm5 P E B ap p.op kp (fr.ah5 x.dst vx) σ1' vp σ2:=by
   cases ap with
   | true=>
    cases ax with
    | true=>
     obtain ⟨σ1',s1,s2,s3,s4⟩:=cu5 hd.1 hd.2 hdx.1 hdx.2 hk (fun t ht=>hfx t (ar4 ht)) (fun t ht=>hfp t (ar4 ht)) hpx hkp hnx (hH _ (List.mem_cons_self ..))
     exact ⟨σ1',⟨s1,s2⟩,⟨s3,s4⟩⟩
    | false=>
     obtain ⟨rfl,rfl⟩:=hdx
     exact ⟨σ,⟨rfl,rfl⟩,ba7 (fun t ht=>hfp t (ar4 ht)) hd.1,fun hb=>bm1 (fun t ht=>hfp t (ar4 ht)) (hd.2 hb)⟩
   | false=>
    obtain ⟨rfl,rfl⟩:=hd
    cases ax with
    | true=>exact ⟨σ2,⟨ba7 (fun t ht=>hfx t (ar4 ht)) hdx.1,fun hb=>bm1 (fun t ht=>hfx t (ar4 ht)) (hdx.2 hb)⟩,rfl,rfl⟩
    | false=>obtain ⟨rfl,rfl⟩:=hdx; exact ⟨_,⟨rfl,rfl⟩,rfl,rfl⟩
  obtain ⟨σ1',d1,d2⟩:=swap
  have inner:gt5 P E B p kp (fr.ah5 x.dst vx) σ1' fun fr' σ'=>bg8 P E B (pre++post) fr' σ' K:=by
   refine ⟨ap,hactp',?_⟩
   cases ap with
   | true=>exact ⟨(as8 kp3).2 ⟨vp,σ2,d2.1,dc9 hK _ _ _ _ feq htree2⟩,d2.2⟩
   | false=>obtain ⟨rfl,rfl⟩:=d2; exact dc9 hK _ _ _ _ feq htree2
  refine ⟨ax,hactx',?_⟩
  cases ax with
  | true=>exact ⟨(as8 kx3).2 ⟨vx,σ1',d1.1,inner⟩,d1.2⟩
  | false=>obtain ⟨rfl,rfl⟩:=d1; exact inner
end Go.Id
/- Regions whose order is open: the theorem. Conditions: none; over any program. -/
namespace Go.Id
open Go
variable {P:Program} {w w' w'':World} {ρ ρ' ρ'':Rho} {E:Nat→IV} {σ σ':Store} {N n n':Nat} {fr:Frm} {a:Act} {pf:List Nat}
def IX.quiet:IX→Bool
 | .c (.ptr _ _)=>false
 | .c (.slice _ _ _ _)=>false
 | .c (.map _)=>false
 | .c (.ae2 _ _ _ _)=>false
 | .c (.ad7 _ _ _ _ _)=>false
 | _=>true
theorem IX.cd3 {x:IX}{id:Nat}(hq:x.quiet=true)(hs:Sim E ρ w σ)(hf:FR ρ w N fr a.tmps)(h:ρ id=.no):az9 id (x.ev E fr):=by
 cases x with
 | t n=>exact ds6 (hf.get n) h
 | c v=>cases v<;>first|trivial|cases hq
 | g n=>exact ds6 (hs.env n) h
 | f n=>trivial
structure Rem (P:Program) (pf:List Nat) (N:Nat) (ops:Array Oper) (B:Bool) (anc:Nat→Nat→Prop) (base:Nat) (rem:List Item) (listed:Array Bool):Prop where
 size:listed.size=ops.size
 un:∀ j,j<ops.size→(listed.getD j true=false↔∃ it∈rem,it.1=j)
 its:∀ it∈rem,∃ o,ops[it.1]? = some o∧bq3 P pf N ops o=some it.2.1∧it.2.2=base+it.1∧∀ y∈it.2.1.op.ops,IX.quiet y=true
 pw:rem.Pairwise fun p x=>(anc p.1 x.1∨eu7 B p.2.1 x.2.1)∧p.1≠x.1∧∀ o,ops[p.1]? = some o→∀ e∈o.after,Region.binds .any e=true→e.on≠x.1
 dc:∀ j,listed.getD j false=true→∀ k,anc k j→listed.getD k false=true
theorem getD_lt {l:Array Bool}{j:Nat}(h:l.getD j true=false):j<l.size:=by
 rcases Nat.lt_or_ge j l.size with h'|h'
 ·exact h'
 ·simp[Array.getElem?_eq_none h'] at h
theorem eu8 {l:Array Bool}{j:Nat}(h:l.getD j false=true):l.getD j true=true:=by
 rcases Nat.lt_or_ge j l.size with h'|h'
 ·simp[h'] at h ⊢; exact h
 ·simp[Array.getElem?_eq_none h'] at h
theorem eu9 {ops:Array Oper} {B:Bool} {anc:Nat→Nat→Prop} {n0 base:Nat} {ro:Option Nat} {Qw:Exit→Act→World→Prop} {K:Frm→Store→Prop} {ρ0:Rho} {w0:World} {ds:List Deferred}
  (hKf:∀ f f' s,FEq f f'→K f s→K f' s)
  (hfin:∀ fr σ ρ w a,n0≤σ.next→K fr σ→Sim E ρ w σ→FR ρ w N fr a.tmps→a.defers=ds→au7 n0 ρ0 w0 ρ w→Qw .normal a w)
  (hed:∀ j o,ops[j]? = some o→∀ e∈o.after,Region.binds .any e=true→e.on<ops.size∧e.on≠j)
  (hanc:∀ k j,anc k j→∀ o,ops[j]? = some o→∃ e∈o.after,Region.binds .any e=true∧(e.on=k∨anc k e.on)) :
  ∀ (fuel:Nat) (rem:List Item) (listed:Array Bool) (fr:Frm) (σ:Store) (ρ:Rho) (w:World) (a:Act),rem.length=fuel→Rem P pf N ops B anc base rem listed→bg8 P E B rem fr σ K →
   Sim E ρ w σ→FR ρ w N fr a.tmps→a.defers=ds→au7 n0 ρ0 w0 ρ w→n0≤base→base+ops.size≤σ.next→(∀ it∈rem,ρ it.2.2=.no) →
   wpAnyIn (fw ro) 0 P .any ops Qw fuel listed a w:=by
 intro fuel
 induction fuel with
 | zero=>
  intro rem listed fr σ ρ w a hlen hr h hs hf hd hx hn0 hnx hno;have:rem=[]:=List.length_eq_zero_iff.1 hlen;subst this;refine ⟨?_,hfin fr σ ρ w a (by omega) h hs hf hd hx⟩;rw[List.eq_nil_iff_forall_not_mem];intro j hj;obtain ⟨h0,_⟩:=mem_ready.1 hj;obtain ⟨it,hit,_⟩:=(hr.un j (by rw[← hr.size]; exact getD_lt h0)).1 h0
  cases hit
 | succ fuel ih=>
  intro rem listed fr σ ρ w a hlen hr h hs hf hd hx hn0 hnx hno;refine ⟨fun hemp=>?_,fun i hi=>?_⟩
  ·exfalso
   cases rem with
   | nil=>cases hlen
   | cons it rem=>
    obtain ⟨o,ho,hc,hid,_⟩:=hr.its it (List.mem_cons_self ..)
    have hlt:it.1<ops.size:=by
     rcases Nat.lt_or_ge it.1 ops.size with h'|h'
     ·exact h'
     ·simp[Array.getElem?_eq_none h'] at ho
    have:it.1∈Region.ready .any ops listed:=by
     refine mem_ready.2 ⟨(hr.un _ hlt).2 ⟨it,List.mem_cons_self ..,rfl⟩,o,ho,fun e he hb=>?_⟩;obtain ⟨h1,h2⟩:=hed _ o ho e he hb;have hj:e.on<listed.size:=by rw[hr.size]; exact h1
     by_cases hL:listed.getD e.on true=false
     ·obtain ⟨jt,hjt,hje⟩:=(hr.un _ h1).1 hL;rcases List.mem_cons.1 hjt with rfl|hjt
      ·exact absurd hje.symm h2
      ·exact absurd hje.symm (((List.pairwise_cons.1 hr.pw).1 jt hjt).2.2 o ho e he hb)
     ·simp[hj] at hL ⊢; exact hL
    rw[hemp] at this;cases this
  ·obtain ⟨h0,o,ho,hall⟩:=mem_ready.1 hi;have hlt:i<ops.size:=by rw[← hr.size]; exact getD_lt h0
   obtain ⟨it,hit,hie⟩:=(hr.un i hlt).1 h0;obtain ⟨pre,post,rfl⟩:=List.append_of_mem hit;obtain ⟨ix,x,kx⟩:=it;simp only at hie;subst hie;obtain ⟨o',ho',hc,hkx,hqx⟩:=hr.its _ hit;simp only at ho' hc hkx hqx;rw[ho] at ho';cases ho';obtain ⟨hpp,hxp,hcross⟩:=List.pairwise_append.1 hr.pw;have hcx:=fun p hp=>hcross p hp _ (List.mem_cons_self ..)
   have hnotL:∀ p∈pre,listed.getD p.1 false≠true:=fun p hp hL=>by
    obtain ⟨op,hop,_⟩:=hr.its p (List.mem_append_left _ hp)
    have hpl:p.1<ops.size:=by
     rcases Nat.lt_or_ge p.1 ops.size with h'|h'
     ·exact h'
     ·simp[Array.getElem?_eq_none h'] at hop
    have:=(hr.un p.1 hpl).2 ⟨p,List.mem_append_left _ hp,rfl⟩;rw[eu8 hL] at this;cases this
   have hfree:∀ p∈pre,eu7 B p.2.1 x:=fun p hp=>by
    rcases (hcx p hp).1 with ha|hf
    ·exfalso;obtain ⟨e,he,hb,heq⟩:=hanc _ _ ha o ho;have hle:=hall e he hb;rcases heq with heq|ha'
     ·exact hnotL p hp (by rw[← heq]; exact hle)
     ·exact hnotL p hp (hr.dc _ hle _ ha')
    ·exact hf
   have hidp:∀ p∈pre,p.2.2=base+p.1:=fun p hp=>by
    obtain ⟨_,_,_,h1,_⟩:=hr.its p (List.mem_append_left _ hp);exact h1
   have hpull:=ik4 (P:=P) (E:=E) (B:=B) (K:=K) hKf (ix:=ix) (x:=x) (kx:=kx) (post:=post) pre fr σ hfree
    (fun p hp=>⟨by rw[hidp p hp,hkx]; have:=(hcx p hp).2.1; omega,hs.ak6 _ (hno p (List.mem_append_left _ hp))⟩)
    (by
     rw[List.nodup_iff_pairwise_ne,List.pairwise_map];refine (List.Pairwise.and_mem.1 hpp).imp ?_;intro p q ⟨hp,hq,h1⟩;rw[hidp p hp,hidp q hq];have:=h1.2.1;omega)
    (fun _=>hs.ak6 _ (hno _ hit))
    (fun p hp _ y hy=>IX.cd3 (hqx y hy) hs hf (hno p (List.mem_append_left _ hp))) h
   obtain ⟨⟨fz,hk⟩,hdst,hdN,hg⟩:=bj1 hc;have hidx:kx<σ.next∧n0≤kx:=by rw[hkx]; omega
   have hmem:∀ it∈pre++post,it∈pre++(ix,x,kx)::post:=fun it h=>by
    rcases List.mem_append.1 h with h|h
    ·exact List.mem_append_left _ h
    ·exact List.mem_append_right _ (List.mem_cons_of_mem _ h)
   have hne:∀ it∈pre++post,it.1≠ix:=fun it h=>by
    rcases List.mem_append.1 h with h|h
    ·exact (hcx it h).2.1
    ·exact fun e=>((List.pairwise_cons.1 hxp).1 it h).2.1 e.symm
   have hrem:Rem P pf N ops B anc base (pre++post) (listed.setIfInBounds ix true):=by
    refine ⟨by simp[hr.size],fun j hj=>?_,fun it hit=>hr.its it (hmem it hit),?_,?_⟩
    ·by_cases hji:j=ix
     ·subst hji;have:j<listed.size:=by rw[hr.size]; exact hj
      constructor
      ·intro h; simp[this] at h
      ·rintro ⟨it,h1,h2⟩; exact absurd h2 (hne it h1)
     ·rw[getD_set_ne true (Ne.symm hji),hr.un j hj];constructor
      ·rintro ⟨it,h1,h2⟩;refine ⟨it,?_,h2⟩;rcases List.mem_append.1 h1 with h1|h1
       ·exact List.mem_append_left _ h1
       ·rcases List.mem_cons.1 h1 with rfl|h1
        ·exact absurd h2.symm hji
        ·exact List.mem_append_right _ h1
      ·rintro ⟨it,h1,h2⟩; exact ⟨it,hmem it h1,h2⟩
    ·exact hr.pw.sublist (List.Sublist.append (List.Sublist.refl _) (List.sublist_cons_self _ _))
    ·intro j hj k hk;by_cases hji:j=ix
     ·subst hji;obtain ⟨e,he,hb,heq⟩:=hanc _ _ hk o ho;have hle:=hall e he hb;rcases heq with rfl|ha'
      ·exact getD_set_true hle
      ·exact getD_set_true (hr.dc _ hle _ ha')
     ·rw[getD_set_ne false (Ne.symm hji)] at hj;exact getD_set_true (hr.dc _ hj _ hk)
   have hlen':(pre++post).length=fuel:=by simp at hlen ⊢; omega
   have hne2:∀ it∈pre++post,it.2.2≠kx:=fun it h=>by
    obtain ⟨_,_,_,h1,_⟩:=hr.its it (hmem it h);rw[h1,hkx];have:=hne it h;omega
   unfold wpOpIn;simp only[ho];obtain ⟨act,hact,hh⟩:=hpull
   have run:opR P E x.op kx fr σ (fun v σ'=>bg8 P E B (pre++post) (fr.ah5 x.dst v) σ' K)→o.wpIn (fw ro) 0 P a w (wpAnyIn (fw ro) 0 P .any ops Qw fuel (listed.setIfInBounds ix true)) Qw:=by
    intro hop;refine cv6 hk hop hs hf (by omega) (fun hl=>⟨hno _ hit,hidx.1,hidx.2⟩) ?_;intro v σ' r ρ' w' hnx' hK hs' hv' hx' hno';refine ih (pre++post) _ _ σ' ρ' w' (a.put o.dst r) hlen' hrem hK hs' ?_ (by rw[put_defers]; exact hd) (hx.trans (hx'.weak (Nat.le_refl _))) hn0 (by omega) ?_
    ·rw[hdst]; exact FR.ah5 (hf.mono hx') hdN hv'
    ·intro jt hjt;obtain ⟨jo,hjo,_,h1,_⟩:=hr.its jt (hmem jt hjt)
     have hjl:jt.1<ops.size:=by
      rcases Nat.lt_or_ge jt.1 ops.size with h'|h'
      ·exact h'
      ·simp[Array.getElem?_eq_none h'] at hjo
     exact hno' _ (by rw[h1]; omega) (fun _=>hne2 jt hjt) (hno _ (hmem jt hjt))
   rcases hg with ⟨hg1,hg2⟩|⟨j,want,s,hg1,hgs,hg2⟩
   ·have hw:Region.wanted o (yielded ops a.tmps)=true:=by unfold Region.wanted; rw[hg1]
    rw[if_pos hw];simp only[ar6,hg2,Option.some.injEq] at hact;subst hact;exact run hh.1
   ·simp only[ar6,hg2] at hact;have hw:=bm3 hg1 hgs hf hact;rw[hw]
    cases act with
    | true=>exact run hh.1
    | false=>
     refine ⟨fun f _=>trivial,?_⟩;exact ih (pre++post) _ _ σ ρ w (a.put o.dst undef) hlen' hrem hh hs (by rw[hdst]; exact FR.ah5 hf hdN ez8) (by rw[put_defers]; exact hd) hx hn0 hnx (fun jt hjt=>hno _ (hmem jt hjt))
end Go.Id
/- Regions whose order is open: the check,and the rule. Conditions: none; over any program. -/
namespace Go.Id
open Go
variable {P:Program} {w w' w'':World} {ρ ρ' ρ'':Rho} {E:Nat→IV} {σ σ':Store} {N n n':Nat} {fr:Frm} {a:Act} {pf:List Nat}
def dl5 (base:Nat):Nat→List ac6→List Item
 | _,[]=>[]
 | i,o::os=>(i,o,base+i)::dl5 base (i+1) os
def ah1 (o:Oper):List Nat:=(o.after.toList.filter (Region.binds .any)).map (·.on)
def orF (ms:List Nat)(es:List Nat):Nat:=es.foldl (fun s e=>s ||| (2^e ||| ms.getD e 0)) 0
def ev1 (ess:List (List Nat)):List Nat:=ess.foldl (fun acc es=>acc++[orF acc es]) []
def ds9 (p x:ac6):Bool :=
 (match x.dst with|none=>true|some d=>!p.uses.contains d&&p.dst != some d)&&(match p.dst with|none=>true|some d=>!x.uses.contains d)
def dt1 (B:Bool)(ms:List Nat)(i:Nat)(p:ac6):Nat→List ac6→Bool
 | _,[]=>true
 | j,x::xs=>((ms.getD j 0).testBit i||(cd2 B p.op.kind x.op.kind&&ds9 p x))&&dt1 B ms i p (j+1) xs
def cu7 (B:Bool)(ms:List Nat):Nat→List ac6→Bool
 | _,[]=>true
 | i,o::os=>dt1 B ms i o (i+1) os&&cu7 B ms (i+1) os
def gt6:Nat→List (List Nat)→Bool
 | _,[]=>true
 | j,es::r=>es.all (fun e=>decide (e<j))&&gt6 (j+1) r
def gt7 (ms:List Nat):Nat→List (List Nat)→Bool
 | _,[]=>true
 | j,es::r=>ms.getD j 0==orF ms es&&gt7 ms (j+1) r
def hm6 (ess:List (List Nat))(ios:List ac6)(B:Bool):Bool :=
 let ms:=ev1 ess
 gt6 0 ess&&gt7 ms 0 ess&&cu7 B ms 0 ios&&ios.all fun o=>o.op.ops.all IX.quiet
def dd3 (ios:List ac6):Bool:=ios.any fun o=>o.op.kind==3
theorem ev2 {ms:List Nat}{k:Nat}:∀ (es:List Nat) (s:Nat),(es.foldl (fun s e=>s ||| (2^e ||| ms.getD e 0)) s).testBit k=true→s.testBit k=true∨∃ e∈es,e=k∨(ms.getD e 0).testBit k=true:=by
 intro es
 induction es with
 | nil=>exact fun s h=>.inl h
 | cons e es ih=>
  intro s h;rcases ih _ h with h1|⟨e',he,h1⟩
  ·rw[Nat.testBit_or,Nat.testBit_or,Nat.testBit_two_pow] at h1;simp only[Bool.or_eq_true,decide_eq_true_eq] at h1;rcases h1 with h1|h1|h1
   ·exact .inl h1
   ·exact .inr ⟨e,List.mem_cons_self ..,.inl h1⟩
   ·exact .inr ⟨e,List.mem_cons_self ..,.inr h1⟩
  ·exact .inr ⟨e',List.mem_cons_of_mem _ he,h1⟩
theorem cd4 {p x:ac6}(h:ds9 p x=true):eu6 p x:=by
 unfold ds9 at h;simp only[Bool.and_eq_true] at h;obtain ⟨h1,h2⟩:=h;refine ⟨fun d hd=>?_,fun d hd=>?_⟩
 ·rw[hd] at h1
  simpa using h1
 ·rw[hd] at h2
  simpa using h2
theorem ev3 {base:Nat}:∀ (ios:List ac6) (i:Nat),∀ it∈dl5 base i ios,i≤it.1:=by
 intro ios
 induction ios with
 | nil=>intro i it h; cases h
 | cons o os ih=>
  intro i it h;rcases List.mem_cons.1 h with rfl|h
  ·exact Nat.le_refl _
  ·have:=ih _ it h; omega
theorem fn3 {base:Nat}:∀ (ios:List ac6) (i:Nat),(dl5 base i ios).length=ios.length:=by
 intro ios
 induction ios with
 | nil=>intro i; rfl
 | cons o os ih=>intro i; simp[dl5,ih]
theorem dt2 {base:Nat}:∀ (ios:List ac6) (i j:Nat),i≤j→j<i+ios.length→∃ it∈dl5 base i ios,it.1=j:=by
 intro ios
 induction ios with
 | nil=>intro i j h1 h2; simp at h2; omega
 | cons o os ih=>
  intro i j h1 h2;by_cases h:i=j
  ·exact ⟨_,List.mem_cons_self ..,h⟩
  ·obtain ⟨it,h3,h4⟩:=ih (i+1) j (by omega) (by simp at h2; omega);exact ⟨it,List.mem_cons_of_mem _ h3,h4⟩
theorem ev4 {base:Nat}:∀ (ios:List ac6) (i:Nat),∀ it∈dl5 base i ios,it.2.2=base+it.1∧it.2.1∈ios:=by
 intro ios
 induction ios with
 | nil=>intro i it h; cases h
 | cons o os ih=>
  intro i it h;rcases List.mem_cons.1 h with rfl|h
  ·exact ⟨rfl,List.mem_cons_self ..⟩
  ·obtain ⟨h1,h2⟩:=ih _ it h;exact ⟨h1,List.mem_cons_of_mem _ h2⟩
theorem dt3 {base:Nat}{ops:Array Oper}:∀ (os:List Oper) (ios:List ac6) (i:Nat),ops.toList.drop i=os→ba8 P pf N ops os=some ios→∀ it∈dl5 base i ios,∃ o,ops[it.1]? = some o∧bq3 P pf N ops o=some it.2.1:=by
 intro os
 induction os with
 | nil=>intro ios i _ hc it hit; cases hc; cases hit
 | cons o os ih=>
  intro ios i hdrop hc it hit;simp only[ba8] at hc;split at hc
  ·rename_i io ios' hio hios;cases hc
   have hi:ops[i]? = some o:=by
    have:=congrArg (fun l=>l[0]?) hdrop
    simpa [List.getElem?_drop] using this
   have hdrop':ops.toList.drop (i+1)=os:=by
    have:=congrArg (List.drop 1) hdrop
    simpa [List.drop_drop] using this
   rcases List.mem_cons.1 hit with rfl|hit
   ·exact ⟨o,hi,hio⟩
   ·exact ih ios' (i+1) hdrop' hios it hit
  ·cases hc
theorem cj3 {ops:Array Oper}:∀ (os:List Oper) (ios:List ac6),ba8 P pf N ops os=some ios→ios.length=os.length:=by
 intro os
 induction os with
 | nil=>intro ios h; cases h; rfl
 | cons o os ih=>
  intro ios h;simp only[ba8] at h;split at h
  ·rename_i io ios' hio hios;cases h;simp[ih _ hios]
  ·cases h
theorem dl6 {B:Bool}{ms:List Nat}{i base:Nat}{p:ac6}:∀ (xs:List ac6) (j:Nat),dt1 B ms i p j xs=true→∀ it∈dl5 base j xs,(ms.getD it.1 0).testBit i=true∨eu7 B p it.2.1:=by
 intro xs
 induction xs with
 | nil=>intro j _ it h; cases h
 | cons x xs ih=>
  intro j h it hit;simp only[dt1,Bool.and_eq_true,Bool.or_eq_true] at h;rcases List.mem_cons.1 hit with rfl|hit
  ·rcases h.1 with h1|h1
   ·exact .inl h1
   ·exact .inr ⟨h1.1,cd4 h1.2⟩
  ·exact ih _ h.2 it hit
theorem ea8 {B:Bool}{ms:List Nat}{base:Nat}:∀ (xs:List ac6) (i:Nat),cu7 B ms i xs=true→(dl5 base i xs).Pairwise fun p x=>((ms.getD x.1 0).testBit p.1=true∨eu7 B p.2.1 x.2.1)∧p.1<x.1:=by
 intro xs
 induction xs with
 | nil=>intro i _; exact .nil
 | cons x xs ih=>
  intro i h;simp only[cu7,Bool.and_eq_true] at h;refine List.pairwise_cons.2 ⟨fun it hit=>⟨dl6 xs _ h.1 it hit,?_⟩,ih _ h.2⟩;have:=ev3 xs _ it hit;simp only;omega
theorem cd5:∀ (ess:List (List Nat)) (i:Nat),gt6 i ess=true→∀ j es,ess[j]? = some es→∀ e∈es,e<i+j:=by
 intro ess
 induction ess with
 | nil=>intro i _ j es h; simp at h
 | cons x ess ih=>
  intro i h j es hj e he;simp only[gt6,Bool.and_eq_true,List.all_eq_true,decide_eq_true_eq] at h
  cases j with
  | zero=>simp at hj; subst hj; exact h.1 e he
  | succ j=>have:=ih (i+1) h.2 j es (by simpa using hj) e he; omega
theorem dd4 {ms:List Nat}:∀ (ess:List (List Nat)) (i:Nat),gt7 ms i ess=true→∀ j es,ess[j]? = some es→ms.getD (i+j) 0=orF ms es:=by
 intro ess
 induction ess with
 | nil=>intro i _ j es h; simp at h
 | cons x ess ih=>
  intro i h j es hj;simp only[gt7,Bool.and_eq_true,beq_iff_eq] at h
  cases j with
  | zero=>simp at hj; subst hj; exact h.1
  | succ j=>
   have:=ih (i+1) h.2 j es (by simpa using hj);rw[← this]; congr 1; omega
theorem ev5 {n0 id:Nat}{ops:Array Oper}{ios:List ac6}{B:Bool}{Q:Exit→Frm→Store→Prop}{ks:List Nat}(hm:P.follows .mixedOrders=true)(hc:ba8 P pf N ops ops.toList=some ios)
  (hok:hm6 (ops.toList.map ah1) ios B=true)
  (h:bg8 P E B (dl5 σ.next 0 ios) fr { σ with next:=σ.next+ios.length } (fun fr' σ'=>Q .normal (fr'.keep ks) σ')):R P E N n0 (.region id ops true) fr σ Q:=by
 intro hn ro h0 ρ w a hs hf hd hr;refine wpIn_region_any hm ?_;have hlen:ios.length=ops.size:=by rw[cj3 _ _ hc]; simp
 unfold hm6 at hok;simp only[Bool.and_eq_true,List.all_eq_true] at hok;obtain ⟨⟨⟨hed,hms⟩,hpr⟩,hq⟩:=hok;generalize ev1 (ops.toList.map ah1)=ms at hms hpr;have hes:∀ (j:Nat) (o:Oper),ops[j]? = some o→(ops.toList.map ah1)[j]? = some (ah1 o):=fun j o ho=>by simp[ho]
 have hme:∀ (o:Oper) (k:Nat),k∈ah1 o→∃ e∈o.after,Region.binds .any e=true∧e.on=k:=fun o k hk=>by
  unfold ah1 at hk;obtain ⟨e,he,rfl⟩:=List.mem_map.1 hk;obtain ⟨h1,h2⟩:=List.mem_filter.1 he;exact ⟨e,by simpa using h1,h2,rfl⟩
 have hem:∀ (o:Oper) (e:Edge),e∈o.after→Region.binds .any e=true→e.on∈ah1 o:=fun o e he hb=>
  List.mem_map.2 ⟨e,List.mem_filter.2 ⟨by simpa using he,hb⟩,rfl⟩
 refine eu9 (E:=E) (pf:=pf) (N:=N) (B:=B) (anc:=fun k j=>(ms.getD j 0).testBit k=true) (n0:=n0) (base:=σ.next) (ρ0:=ρ) (w0:=w) (ds:=a.defers) (K:=fun fr' σ'=>Q .normal (fr'.keep ks) σ') ?_ ?_ ?_ ?_
  ops.size (dl5 σ.next 0 ios) _ fr { σ with next:=σ.next+ios.length } ρ w.drew a (by rw[fn3,hlen]) ?_ h
  (cv4 (ca4 hs) (fun i hi=>hs.fresh i (by omega))) (hf.mono (ar3 0)) rfl ((ar3 n0).weak (Nat.le_refl _)) hn (by rw[hlen]; exact Nat.le_refl _) ?_
 ·intro f f' s hff hK
  have:f'.keep ks=f.keep ks:=by
   unfold Frm.keep;exact List.map_congr_left fun k _=>by rw[hff k]
  rw[this]; exact hK
 ·intro fr' σ' ρ' w' a' hn' hK hs' hf' hd' hx;exact ⟨fr'.keep ks,σ',ρ',hn',hK,hs',hf'.keep ks,by rw[hd']; exact hd.mono hx,hr.mono hx,hx⟩
 ·intro j o ho e he hb;have:=cd5 _ _ hed j _ (hes j o ho) _ (hem o e he hb)
  have hj:j<ops.size:=by
   rcases Nat.lt_or_ge j ops.size with h'|h'
   ·exact h'
   ·simp[Array.getElem?_eq_none h'] at ho
  omega
 ·intro k j hk o ho;have:=dd4 _ _ hms j _ (hes j o ho);simp only[Nat.zero_add] at this;rw[this] at hk;rcases ev2 _ _ hk with h1|⟨e,he,h1⟩
  ·simp at h1
  ·obtain ⟨ed,hed1,hb,heq⟩:=hme o e he;exact ⟨ed,hed1,hb,by rw[heq]; exact h1⟩
 ·refine ⟨by simp,fun j hj=>?_,fun it hit=>?_,?_,?_⟩
  ·constructor
   ·intro _;exact dt2 ios 0 j (Nat.zero_le _) (by omega)
   ·intro _; simp[hj]
  ·obtain ⟨o,h1,h2⟩:=dt3 ops.toList ios 0 rfl hc it hit;obtain ⟨h3,h4⟩:=ev4 ios 0 it hit;exact ⟨o,h1,h2,h3,hq _ h4⟩
  ·refine (ea8 ios 0 hpr).imp ?_;intro p x ⟨h1,h2⟩;refine ⟨h1,by omega,fun o ho e he hb=>?_⟩;have:=cd5 _ _ hed p.1 _ (hes p.1 o ho) _ (hem o e he hb);omega
  ·intro j hj;exfalso;by_cases hlt:j<ops.size
   ·simp[hlt] at hj
   ·simp[hlt] at hj
 ·intro it hit;exact hs.fresh _ (by rw[(ev4 ios 0 it hit).1]; omega)
end Go.Id
