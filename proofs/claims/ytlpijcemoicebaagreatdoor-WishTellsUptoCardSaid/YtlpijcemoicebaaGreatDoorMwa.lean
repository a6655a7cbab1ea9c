/- A rich dependency's literal tells whether a state satisfies it. Conditions: none; no program in sight. -/
import Derived.Test.YtlpijcemoicebaaGreatDoorMre
import Derived.Test.YtlpijcemoicebaaGreatDoorFwQ
import Derived.Test.YtlpijcemoicebaaGreatDoorFwRo
open Nat renaming lt_of_lt_of_le→za,le_refl→zc,le_trans→zf,le_add_right→zj,not_lt_zero→zp,le_succ→z0,add_le_add_left→z7
open List renaming mem_map→zb,length_append→zd,getD_eq_getElem?_getD→ze,length_map→zg,mem_singleton→zh,mem_cons→zk,getElem?_eq_getElem→zl,not_mem_nil→zm,length_cons→zn,mem_cons_self→zo,mem_cons_of_mem→zq,getElem_mem→zr,all_eq_true→zu,length_singleton→zw,takeWhile_cons→zx,dropWhile_cons→zy,map_append→zz,take_succ_cons→z1,cons_append→z2,mem_append→z3,length_filter_le→z5,pairwise_map→z9
open Bool renaming and_eq_true→zi,true_or→z4
open Int renaming toNat_natCast→zt
open Option renaming some→zv,none→z6,map_some→z8
set_option linter.all false
private theorem om{P:Prop}(h:P:=by omega):P:=h
namespace Go.Id.Md
open Go Go.Id
variable {c:Nat} {t:bW}
def GT{l:List bc}{q:bc->Bool}{b:Int}:∀n∈ki (bL q l) b,0<=n/\n<(l.length:Int):=λn a=>by obtain ⟨m,rfl,d,_⟩:=oG.1 (aG.1 a).1;omega
variable (l:List bc) (hc:l.length<=100) (b:Int)
include hc
end Go.Id.Md
namespace Go.Id.Md
open Go Go.Id
def gf (l:List Int):List Int:=l.map λn=>-(n+1)
namespace bg
variable (a:bg)
def vu(j:Int):List (List Int):=if (a.jb j).kind=1 then [eU (a.bG j)] else if (a.jb j).kind=3 then (a.bG j).map λn=>eU (a.eB n) else if (a.jb j).kind=4 then ((a.bG j).filter λn=>decide (0<(a.mG n).length)).map λn=>eU (a.mG n) else (a.bG j).map λn=>gf [n]
def JE(x:cg):List (List Int):=if x.kind=1 then [gf [x.p]] else if x.kind=4 then (ki (gU a.l (a.uh x)) x.p).map λn=>gf [x.p,n] else if x.kind=5 then [gf [x.p,x.q]] else if x.kind=6 then [eU (a.eB x.p)] else a.vu x.p
def jn(x:cg)(t:bW):List (List Int)×bW :=if x.kind=2 then ([gf [x.p]++[((a.pN x).fx a.l (-1) t).1]],((a.pN x).fx a.l (-1) t).2) else if x.kind=3 then ([gf [x.p]++[-((a.pI x).fx a.l x.p t).1]],((a.pI x).fx a.l x.p t).2) else (a.JE x,t)
def jY:List cg->bW->List (List (List Int))×bW|[],t=>([],t)|x::xs,t=>((a.jn x t).1::(jY xs (a.jn x t).2).1,(jY xs (a.jn x t).2).2)
variable {a} {T:Int->Bool} {st:List Int}
def yj{i:Int}:∀n∈a.eB i,a.is n=true:=λn d=>by obtain ⟨_,m,rfl,h⟩:=a.Zj d;rw[bg.nK];exact ao h
def FL{j:Int}:∀n∈a.bG j,a.is n=true:=λn d=>by obtain ⟨m,rfl,h⟩:=a.N1 d;rw[bg.nK];exact ao h
structure qG (a:bg):Prop where
 len:a.l.length<=100
 kQ:∀p:Nat,p<a.l.length->∀r∈(a.pk p).bT,r.fc 1 false=true/\ml r=true/\r.count<=24
 iL:∀p:Nat,p<a.l.length->∀r∈(a.pk p).conflicts,r.fc 1 false=true/\ml r=true/\r.count<=24
 kind:∀j:Nat,j<a.r.bP.length->1<=(a.jb j).kind/\(a.jb j).kind<=4
variable (hO:qG a)
include hO
theorem Pj{p q:Nat}(e:p<a.l.length)(d:q<(a.pk p).bT.length):(a.pN ⟨2,p,q⟩).fc 1 false=true/\ml (a.pN ⟨2,p,q⟩)=true/\(a.pN ⟨2,p,q⟩).count<=24:=by refine hO.kQ p e _ ?_;unfold pN;rw[zt,ze,zl d];exact zr d
theorem NW{p q:Nat}(e:p<a.l.length)(d:q<(a.pk p).conflicts.length):(a.pI ⟨3,p,q⟩).fc 1 false=true/\ml (a.pI ⟨3,p,q⟩)=true/\(a.pI ⟨3,p,q⟩).count<=24:=by refine hO.iL p e _ ?_;unfold pI;rw[zt,ze,zl d];exact zr d
end bg
variable {n:Nat}
theorem ic1{k:Int}{d:bC}{b:Bool}(h:ou 2 k d n b=true):ou 1 k d n b=true:=by unfold ou at *;split;{rename_i e;rw[ab e]at h;exact h};rename_i j;rw[aa j]at h;rw[zi]at h ⊢;refine ⟨?_,h.2⟩;have h:=h.1;split;{rename_i e;rw[ab e]at h;exact h};rename_i i;rw[aa i]at h;split;{rename_i e;rw[ab e]at h;exact h};rename_i g;rw[aa g]at h;split;{rename_i e;rw[ab e]at h;simp at h};rename_i f;rw[aa f]at h;split;{rename_i e;rw[ab e]at h;simpa using h};rename_i e;rw[aa e]at h;exact h
theorem ic2(r:aX):∀b,r.fc 2 b=true->r.fc 1 b=true:=by induction r using aX.ind with|h k d aZ ih=>intro b h;simp only[aX.fc,zi,aX.xR,zu]at h ⊢;exact ⟨ic1 h.1,λa e=>ih a e _ (h.2 a e)⟩
variable {d:Int}
theorem tE{r:aX}(h:fy r d=0)(e:d=1\/d=2):r.fc 1 false=true/\ml r=true/\r.count<=24:=by refine ⟨?_,IB h,?_⟩;{rw [E8]at h;split at h;{cases h};split at h;{cases h};split at h;{cases h};split at h;{cases h};rename_i hf;have hf:r.fc d false=true:=(by simpa using hf);rcases e with rfl|rfl;{exact hf};exact ic2 r _ hf};rw[E8]at h;split at h;{cases h};split at h;{cases h};rename_i f;omega
theorem NX{r:aX}(h:fy r d=0)(e:d=1\/d=2):fy r 1=0:=by have f:=(tE h e).1;rw[E8]at h ⊢;rw[f];split at h;{cases h};split at h;{cases h};split at h;{cases h};rename_i j i g;rw[aa (by decide),aa i,aa g];rfl
theorem xT{l:List aX}(h:lH l d=true):∀r∈l,fy r d=0:=λr e=>by unfold lH at h;rw[zi,zu]at h;exact aC (h.2 r e)
theorem Dx{p:bc}(h:eh p=true):lH p.bT 1=true/\lH p.conflicts 2=true:=by unfold eh at h;simp only[zi]at h;exact ⟨h.1.1.1.1.1.2,h.1.1.1.1.2⟩
theorem kw6 {a:bg}(f:∀p∈a.l,eh p=true)(i:a.l.length<=100)(d:fP a.r a.p.a7=0):a.qG where
 len:=i
 kQ:=λp h r d=>by
  have e:a.pk p∈a.l:=by
   unfold bg.pk;rw[zt,ze,zl h];exact zr h
  exact tE (xT (Dx (f _ e)).1 r d) (.inl rfl)
 iL:=λp h r d=>by
  have e:a.pk p∈a.l:=by
   unfold bg.pk;rw[zt,ze,zl h];exact zr h
  exact tE (xT (Dx (f _ e)).2 r d) (.inr rfl)
 kind:=λj g=>by
  unfold fP at d;split at d
  .cases d
  .split at d
   .cases d
   .split at d
    .cases d
    .rename_i h;have h:a.r.bP.all lL=true:=by simpa using h
     have e:a.jb j∈a.r.bP:=by
      unfold bg.jb;rw[zt,ze,zl g];exact zr g
     have:=zu.1 h _ e;unfold lL at this;simp only[zi,ah] at this;exact this.1
theorem Ja(f:Nat->Bool)(g:Nat->cg)(n:Nat):(kg f g n).length<=n:=by unfold kg;rw[zg];exact zf (z5 _ _) (by rw[List.length_range];exact zc _)
theorem ic3{a:bg}(n:∀p∈a.l,eh p=true)(s:a.l.length<=100)(hi:a.p.a7<=a.l.length)(u:a.r.bP.length<=64):a.items.length<=20000:=by have m:∀k,k<=a.l.length->(a.dJ k).length<=97*k:=(by intro k;induction k with|zero=>intro _;exact zc _|succ k g=>intro h;have g:=g om;rw[a.FK,zd];have d:a.pk k∈a.l:=(by unfold bg.pk;rw[zt,ze,zl h];exact zr h);have d:=n _ d;have⟨f,e⟩:=Dx d;unfold eh at d;simp only[zi,ah]at d;have o:=d.1.1.1.1.1.1.1.1.2.1;unfold lH at f e;rw[zi,ah]at f e;unfold bg.tj bg.mX;rw[zd,zd,zd,bg.uQ,bg.uQ,bg.uQ];have f:=f.1;have e:=e.1;split<;>simp only[List.length_nil,zw]<;>omega);have j:∀k,(a.kI k).length<=100*k:=(by intro k;induction k with|zero=>exact zc _|succ k g=>rw[a.E9,zd];have:=Ja (λq=>decide (k<q)&&a.twins k q) (λq=>⟨5,k,q⟩) a.l.length;unfold bg.EH bg.qN;omega);have m:=m _ (zc _);have j:=j a.l.length;have y:=Ja (λi=>!a.goes i) (λi=>⟨6,i,0⟩) a.p.a7.toNat;have x:=Ja (λi=>!a.dropped i) (λi=>⟨7,i,0⟩) a.r.bP.length;rw[a.xO];unfold bg.ow bg.qT;omega
def kC (l:List (bJ×Int)):List (IV×IV):=l.map λe=>(.str e.1,.int .i64 e.2)
theorem ic4(k:bJ):∀l:List (bJ×Int),jC 2 (.str k) (kC l)=zv ((ox l k).map λx=>.int .i64 x):=by intro l;induction l with|nil=>rfl|cons t l ih=>have e:ox (t::l) k=if k=t.1 then zv t.2 else ox l k:=rfl;rw[e];unfold kC at *;simp only[List.map_cons,jC,AM];by_cases h:k=t.1;{simp[h]};simp only[h,aD,ih,ae]
theorem ke1{k:bJ}:∀ {l:List (bJ×Int)},ox l k=z6->mF 2 (.str k) (.int .i64 d) (kC l)=zv (kC (l++[(k,d)])):=by intro l;induction l with|nil=>intro _;rfl|cons t l ih=>intro h;unfold ox at h;split at h;{cases h};rename_i e;have:=ih h;unfold kC at *;simp only[List.map_cons,z2,mF,AM,e,aD,this,z8]
theorem Zu{l:List (bJ×Int)}(h:(l.map (·.1)).Nodup):wH (kC l):=by refine ⟨?_,.str,λe d=>?_⟩;{unfold kC;rw[List.map_map];have f:=z9.1 h;exact z9.2 (f.imp λ{a b} hab e=>hab (IV.str.inj e))};obtain ⟨x,_,rfl⟩:=zb.1 d;trivial
def fF (q:List Int):List IV:=[.a8 (q.map bw)]
theorem Eo(l:List (List Int)):∀e∈l.map fF,e.length=1/\e.all IV.bn=true:=λe d=>by obtain ⟨x,_,rfl⟩:=zb.1 d;exact ⟨rfl,rfl⟩
structure dy (s:aW) (tp mid:Nat) (xv allv clv:IV) (P:List bc) (t:bW):Prop where
 cell:s.aY tp=zv (.cells [xv,allv,.int .i64 t.h,clv,.map mid])
 all:Grow s allv 15 (P.map bc.cs)
 cls:Grow s clv 1 (t.cl.map fF)
 map:s.aY mid=zv (.map (kC t.db))
 ne:∀i k j l,clv=.slice i 0 k 1->allv=.slice j 0 l 15->i≠j
 lt:tp<s.aV/\mid<s.aV
structure eE (O s:aW) (tp mid:Nat) (clv clv':IV):Prop where
 aV:O.aV<=s.aV
 aY:∀i,i<O.aV->i≠tp->i≠mid->(∀k,clv≠.slice i 0 k 1)->s.aY i=O.aY i
 new:clv'=clv\/∀i k,clv'=.slice i 0 k 1->O.aV<=i
theorem eE.refl (O:aW)(e mid:Nat)(d:IV):eE O O e mid d d:=⟨zc _,λ_ _ _ _ _=>rfl,.inl rfl⟩
variable {j b:IV}
theorem eE.trans{O s u:aW}{mid:Nat}{a:IV}(h:eE O s n mid a j)(g:eE s u n mid j b):eE O u n mid a b where
 aV:=zf h.aV g.aV
 aY:=λi hi c m d=>by
  rw[g.aY i (za hi h.aV) c m λk e=>?_,h.aY i hi c m d];rcases h.new with f|f
  .exact d k (by rw[<- f];exact e)
  .have:=f i k e;omega
 new:=by
  rcases g.new with e|o
  .rw[e];exact h.new
  .exact .inr λi k e=>zf h.aV (o i k e)
theorem dy.mono{s s':aW}{k mid:Nat}{f:IV}{P:List bc}{t:bW}(h:dy s k mid j b f P t)(m:s.aV<=s'.aV)(g:∀i,i<s.aV->s'.aY i=s.aY i):dy s' k mid j b f P t where
 cell:=by rw[g _ h.lt.1];exact h.cell
 all:=h.all.mono m λid _ e=>g id e
 cls:=h.cls.mono m λid _ e=>g id e
 map:=by rw[g _ h.lt.2];exact h.map
 ne:=h.ne
 lt:=⟨by have:=h.lt.1;omega,by have:=h.lt.2;omega⟩
theorem eE.RJ{O s:aW}{mid:Nat}{d o v:IV}{P:List bc}{t:bW}{lo:Nat}{zs:List Int}(g:eE O s n mid d o)(h:dy O n mid j b d P t)(u:cX O lo v zs)(r:∀i k l,d=.slice i 0 k 1->v≠.slice i 0 l 1):cX s lo v zs:=by rcases u with h0|⟨id,x,q,p,f⟩;{exact .inl h0};refine .inr ⟨id,x,za q g.aV,p,?_⟩;rw[g.aY id q (λe=>?_) (λe=>?_) λk e=>r id k _ e p];{exact f};{rw[e,h.cell]at f;cases f};rw[e,h.map]at f;cases f
variable {O s:aW} {tp mid nid k:Nat} {xv allv clv:IV} {P:List bc} {t:bW}
theorem dy.pT(h:dy s tp mid xv allv clv P t):∀i cs,s.aY i=zv (.row cs)->i≠tp/\i≠mid:=λi cs hi=>⟨λe=>(by rw[e,h.cell]at hi;cases hi),λe=>(by rw[e,h.map]at hi;cases hi)⟩
theorem dy.ntm (h:dy s tp mid xv allv clv P t):¬mid=tp:=λe=>by have d:=h.map;rw[e,h.cell] at d;cases d
theorem kq(h:dy s tp mid xv allv clv P t)(q:List Int)(F:t.cl.length<2147483648)(I:s.aV<=nid)(H:nid<s.aV+k): ∃g,di ⟨s.aV+k,s.aY⟩ nid 1 clv (.a8 [fF q])=zv (.slice nid 0 (t.cl.length+1) 1,g)/\g.aV=s.aV+k/\g.aY tp=zv (.cells [xv,allv,.int .i64 t.h,clv,.map mid]) /\ dy (g.put tp (.cells [xv,allv,.int .i64 t.h,.slice nid 0 (t.cl.length+1) 1,.map mid])) tp mid xv allv (.slice nid 0 (t.cl.length+1) 1) P ⟨t.h,t.cl++[q],t.db⟩ /\ eE s (g.put tp (.cells [xv,allv,.int .i64 t.h,.slice nid 0 (t.cl.length+1) 1,.map mid])) tp mid clv (.slice nid 0 (t.cl.length+1) 1):=by
 have A:Grow (⟨s.aV+k,s.aY⟩:aW) clv 1 (t.cl.map fF):=h.cls.mono (by show s.aV<=s.aV+k;omega) λ_ _ _=>rfl;have p:=j9 (nid:=nid) (e:=fF q) A (Eo _) ⟨rfl,rfl⟩ (by rw[zg];exact F);rw[zg]at p;have M:=h.lt.1;have B:=h.lt.2;have m:¬tp=nid:=om;have x:¬mid=nid:=om;have u:=h.ntm;have d:∀i,(∀k,clv≠.slice i 0 k 1)->(cL clv (⟨s.aV+k,s.aY⟩:aW)).aY i=s.aY i:=λi hi=>by rcases A with ⟨h0,_⟩|⟨j,f,_,_⟩;{rw[h0];rfl};rw[f];show (if i=j then z6 else s.aY i)=_;rw[aa λe=>hi _ (by rw[f,e])]
 have o:∀i,(∀cs,s.aY i≠zv (.row cs))->∀k,clv≠.slice i 0 k 1:=λi hi k e=>by rcases h.cls with ⟨h0,_⟩|⟨j,f,z,_⟩;{rw[h0]at e;cases e};rw[f]at e;cases e;exact hi _ z
 have D:=d tp (o tp λcs e=>by rw[h.cell]at e;cases e);have E:=d mid (o mid λcs e=>by rw[h.map]at e;cases e);have nm:(t.cl++[q]).map fF=t.cl.map fF++[fF q]:=by rw[zz];rfl
 refine ⟨_,p,by rw[bU,fa],by rw[bq,aa m,D];exact h.cell,?_,?_⟩;{exact {cell:=(by rw[bq,ab rfl]),all:=(by refine h.all.mono (by rw[bU,bU,fa];show s.aV<=s.aV+k;omega) λid n G=>?_;have y:∃cs,s.aY id=zv (.row cs):=(by rcases h.all with ⟨h0,_⟩|⟨j,f,z,_⟩;{rw[h0]at n;cases n};rw[f]at n;cases n;exact ⟨_,z⟩);have⟨cs,y⟩:=y;rw[bq,aa (h.pT _ _ y).1,bq,aa om,d id λk e=>h.ne _ _ _ _ e n rfl]),cls:=(by refine .inr ⟨nid,by rw[zg,zd];rfl,?_,by rw[bU,bU,fa];exact H⟩;rw[bq,aa (λe=>m e.symm),bq,ab rfl,nm]),map:=(by rw[bq,aa u,bq,aa x,E];exact h.map),ne:=λi k j l L r=>(by cases L;rcases h.all with ⟨h0,_⟩|⟨N,f,_,Q⟩;{rw[h0]at r;cases r};rw[f]at r;cases r;omega),lt:=by rw[bU,bU,fa];exact ⟨by show tp<s.aV+k;omega,by show mid<s.aV+k;omega⟩ }};refine ⟨by rw[bU,bU,fa];show s.aV<=s.aV+k;omega,λi hi K S J=>?_,.inr λi k e=>by cases e;exact I⟩;rw[bq,aa K,bq,aa om,d i J]
theorem tab_set(h:dy s tp mid xv allv clv P t)(x:bJ)(y:Int): dy (s.put mid (.map (kC (t.db++[(x,y)])))) tp mid xv allv clv P ⟨t.h,t.cl,t.db++[(x,y)]⟩/\eE s (s.put mid (.map (kC (t.db++[(x,y)])))) tp mid clv clv:=by have d:=h.ntm;have f:∀ {v:IV}{esz:Nat}{es:List (List IV)},Grow s v esz es->Grow (s.put mid (.map (kC (t.db++[(x,y)])))) v esz es:=λ{v esz es} hg=>(by rcases hg with h0|⟨id,m,g,j⟩;{exact .inl h0};exact .inr ⟨id,m,by rw[bq,aa (h.pT _ _ g).2];exact g,by rw[bU];exact j⟩);refine ⟨{ cell:=(by rw[bq,aa (λe=>d e.symm)];exact h.cell),all:=f h.all,cls:=f h.cls,map:=(by rw[bq,ab rfl]),ne:=h.ne,lt:=by rw[bU];exact h.lt },⟨by rw[bU];exact zc _,λi hi p n o=>by rw[bq,aa n],.inl rfl⟩⟩
theorem pq(h:s.aY mid=zv (.map (kC t.db))){x:bJ}(y:Int)(d:ox t.db x=z6):lJ s 2 (.map mid) (.str x) (.int .i64 y)=zv (s.put mid (.map (kC (t.db++[(x,y)])))):=by simp only[lJ,h,ke1 d,z8]
theorem nE(h:s.aY mid=zv (.map (kC t.db)))(x:bJ):jr s 2 (.int .i64 0) true (.map mid) (.str x)=zv (.tuple [((ox t.db x).map λx=>IV.int .i64 x).getD (.int .i64 0),.bool (ox t.db x).isSome]):=by simp only[jr,oS,h,ic4,af,Option.isSome_map]
theorem dy.up (h:dy s tp mid xv allv clv P t)(n:Nat):dy ⟨s.aV+n,s.aY⟩ tp mid xv allv clv P t:=h.mono (zj _ _) λ_ _=>rfl
theorem eE.up(h:eE O s tp mid clv j)(n:Nat):eE O ⟨s.aV+n,s.aY⟩ tp mid clv j:=⟨zf h.aV (zj _ _),h.aY,h.new⟩
theorem dy.cq(h:dy s tp mid xv allv clv P t){S:Nat->Bool}(d:∀i,S i=false->i≠tp/\i≠mid/\(∀k,clv≠.slice i 0 k 1)/\∀k,allv≠.slice i 0 k 15):dy (s.cq S) tp mid xv allv clv P t:=by have on:∀i,(S i=false->False)->(s.cq S).aY i=s.aY i:=λi hi=>(by show (if S i=true then s.aY i else z6)=_;rw[ab (by cases hs:S i with|true=>rfl|false=>exact (hi hs).elim)]);exact {cell:=(by rw[on tp λhs=>(d _ hs).1 rfl];exact h.cell),all:=h.all.mono (zc _) λid e _=>on id λhs=>(d _ hs).2.2.2 _ e,cls:=h.cls.mono (zc _) λid e _=>on id λhs=>(d _ hs).2.2.1 _ e,map:=(by rw[on mid λhs=>(d _ hs).2.1 rfl];exact h.map),ne:=h.ne,lt:=h.lt }
end Go.Id.Md
namespace Go.Id.Md
open Go Go.Id
def bW.dA (t:bW):Prop:=t.cl.length<=101*t.h
def Fs{c:Nat}{l:List Int}{t:bW}(h:t.dA)(d:l.length<=100):(jW c l t).2.dA:=by unfold bW.dA at *;show (t.cl++(l.map λx=>[-x,((c+(t.h+1):Nat):Int)])++[_]).length<=101*(t.h+1);simp only[zd,zg,zw];omega
def MP{c:Nat}{l:List Int}{t:bW}(h:t.dA)(d:l.length<=100):(vd c l t).2.dA :=Fs (c:=c) (l:=nq l) h (by unfold nq;rw[zg];exact d)
def LV{c:Nat}{x y w:Int}{t:bW}(h:t.dA):(wD c x y w t).2.dA:=by unfold bW.dA at *;show (t.cl++[_,_,_,_]).length<=101*(t.h+1);simp only[zd,zn,List.length_nil];omega
def ic5{c:Nat}{l:List Int}{t:bW}(h:t.dA)(d:l.length<=100):(qU c l t).2.dA:=by unfold qU;split;{exact h};split;{exact h};exact Fs (c:=c) (l:=eU l) h (by unfold eU;rw[zg];exact d)
def JF (l:List Int)(b:Int):(ki l b).length<=l.length:=z5 _ _
def F8(l:List bc)(b:Int):∀(d:List aX)(t:bW),(aX.fl l b d t).1.length=d.length:=by intro d;induction d with|nil=>intro t;rfl|cons a d ih=>intro t;simp only[aX.fl,zn,ih]
def ic6(l:List bc)(b:Int)(a:aX):∀(d:List aX)(t:bW),aX.fl l b (d++[a]) t=((aX.fl l b d t).1++[(a.fx l b (aX.fl l b d t).2).1],(a.fx l b (aX.fl l b d t).2).2):=by intro d;induction d with|nil=>intro t;rfl|cons r rs ih=>intro t;simp only[z2,aX.fl,ih]
def Ec(l:List bc)(hc:l.length<=100)(b:Int)(r:aX):r.count<=100->∀t:bW,t.dA->(r.fx l b t).2.dA:=by induction r using aX.ind with|h k d e ih=>
 intro y t j;have m:∀e:List aX,e.length<=aX.counts e/\∀a∈e,a.count<=aX.counts e:=by intro e;induction e with|nil=>exact ⟨zc _,λa h=>by cases h⟩|cons a e ih2=>have⟨D,u⟩:=ih2;have A:1<=a.count:=(by have⟨k,d,xs⟩:=a;simp only[aX.count];omega);simp only[aX.counts,zn];refine ⟨om,λx i=>?_⟩;rcases zk.1 i with rfl|i;{omega};have:=u x i;omega
 simp only[aX.count]at y;have f:∀q:bc->Bool,(ki (bL q l) b).length<=100:=λq=>by have A:=JF (bL q l) b;have E:=lY q l;omega
 have z:∀(e:List aX),(∀a∈e,∀t:bW,t.dA->(a.fx l b t).2.dA)->∀t:bW,t.dA->(aX.fl l b e t).2.dA:=by intro e;induction e with|nil=>intro _ t h;exact h|cons a e ih2=>intro h t j;exact ih2 (λx i=>h x (zq _ i)) _ (h a zo t j)
 have⟨B,p⟩:=m e;have g:=z e (λa o=>ih a o (by have:=p a o;omega)) t j;have n:(aX.fl l b e t).1.length<=100:=by rw[F8];omega
 unfold aX.fx;split;{exact ic5 j (f _)};split;{exact ic5 j (f _)};unfold pS;split;{exact MP g n};split;{exact Fs g n};split;{split;{exact LV g};exact Fs g (by simp)};split;{exact LV g};exact MP g (by simp)
def eY:IV->Nat->Bool|.slice j _ _ _,i=>decide (i≠j)|_,_=>true
def Ed{s:aW}{lo:Nat}{v:IV}{zs:List Int}(h:j5 s lo v zs):dz s (λi=>eY v i=true) v (.a8 (zs.map Md.bw)):=by rcases h with ⟨rfl,rfl⟩|⟨id,cs,p,o,rfl,f,e,n⟩;{exact .fZ};refine .slice id 0 zs.length 1 cs (zs.map Md.bw) (by simp[eY]) (.inr f) (by rw[zg]) om (λi hi=>?_) λi hi j m=>?_;{simp[ze,hi,Md.bw]};have d:j=0:=om;subst d;have g:((zs.map Md.bw).getD i []).getD 0 .undef=dW zs[i]:=(by simp[ze,hi,Md.bw]);rw[g,Nat.zero_add,Nat.mul_one,Nat.add_zero,Gv e hi];exact .bd _ (.int _ _)
def wP{s:aW}{lo:Nat}{v:IV}{zs:List Int}(h:j5 s lo v zs){i:Nat}(hi:eY v i=false):lo<=i/\∃k,v=.slice i 0 k 1/\∃cs,s.aY i=zv (.row cs):=by rcases h with ⟨rfl,rfl⟩|⟨id,cs,f,m,rfl,d,j,g⟩;{cases hi};have e:i=id:=(by simpa [eY] using hi);subst e;exact ⟨f,_,rfl,_,d⟩
variable {O s u:aW} {tp mid lo:Nat} {xv allv clv a b c:IV} {P:List bc} {t:bW} {v:IV} {zs:List Int}
def dy.off(h:dy s tp mid xv allv clv P t)(n:j5 s lo v zs)(d:∀i k l,clv=.slice i 0 k 1->v≠.slice i 0 l 1)(f:∀i k l,allv=.slice i 0 k 15->v≠.slice i 0 l 1):dy (s.cq (eY v)) tp mid xv allv clv P t :=h.cq λi hi=>by have⟨o,k,j,cs,g⟩:=wP n hi;exact ⟨(h.pT _ _ g).1,(h.pT _ _ g).2,λm e=>d _ _ _ e j,λm e=>f _ _ _ e j⟩
def eE.kill {S:Nat->Bool}(h:eE O s tp mid a b)(g:eE (s.cq S) u tp mid b c)(n:∀i,i<O.aV->S i=true):eE O u tp mid a c where
 aV:=zf h.aV g.aV
 aY:=λi hi m j f=>by
  have e:(s.cq S).aY i=s.aY i:=by show (if S i=true then s.aY i else z6)=_;rw[ab (n i hi)]
  rw[g.aY i (za hi h.aV) m j λk e=>?_,e,h.aY i hi m j f];rcases h.new with d|d
  .exact f k (by rw[<- d];exact e)
  .have:=d i k e;omega
 new:=by
  rcases g.new with e|o
  .rw[e];exact h.new
  .exact .inr λi k e=>zf h.aV (o i k e)
def lA(O:aW)(tp mid:Nat)(xv allv clv:IV)(P:List bc)(r:Int×bW)(v:IV)(s:aW):Prop :=v=.int .i64 r.1/\∃clv',eE O s tp mid clv clv'/\dy s tp mid xv allv clv' P r.2
end Go.Id.Md
namespace Go.Id.Md
open Go Go.Id
variable {O s u:aW} {tp mid lo k nid:Nat} {xv allv clv a b c:IV} {P:List bc} {t:bW} {v:IV} {zs:List Int}
def AF(h:cX s lo v zs){i m:Nat}(e:v=.slice i 0 m 1):lo<=i/\∃cs,s.aY i=zv (.row cs):=by rcases h with ⟨rfl,_⟩|⟨id,f,g,rfl,d⟩;{cases e};cases e;exact ⟨f,_,d⟩
def dy.but (h:dy s tp mid xv allv clv P t)(p:cX s lo v zs)(j:∀i k l,clv=.slice i 0 k 1->v≠.slice i 0 l 1)(n:∀i k l,allv=.slice i 0 k 15->v≠.slice i 0 l 1)(q:s.aV<=u.aV)
  (f:∀i,i<s.aV->(∀m,v≠.slice i 0 m 1)->u.aY i=s.aY i):dy u tp mid xv allv clv P t where
 cell:=by
  rw[f _ h.lt.1 λm e=>?_]
  .exact h.cell
  .have⟨_,cs,o⟩:=AF p e;exact (h.pT _ _ o).1 rfl
 all:=h.all.mono q λid g d=>f id d λm e=>n _ _ _ g e
 cls:=h.cls.mono q λid g d=>f id d λm e=>j _ _ _ g e
 map:=by
  rw[f _ h.lt.2 λm e=>?_]
  .exact h.map
  .have⟨_,cs,o⟩:=AF p e;exact (h.pT _ _ o).2 rfl
 ne:=h.ne
 lt:=⟨by have:=h.lt.1;omega,by have:=h.lt.2;omega⟩
def eE.but(h:eE O s tp mid a b)(f:cX s lo v zs)(n:O.aV<=lo)(j:s.aV<=u.aV)(g:∀i,i<s.aV->(∀m,v≠.slice i 0 m 1)->u.aY i=s.aY i):eE O u tp mid a b :=⟨zf h.aV j,λi hi q p o=>by have d:∀m,v≠.slice i 0 m 1:=λm e=>(by have:=(AF f e).1;omega);rw[g i (za hi h.aV) d,h.aY i hi q p o],h.new⟩
def pn(h:dy s tp mid xv allv clv P t)(d:cX s lo v zs)(f:∀i k l,clv=.slice i 0 k 1->v≠.slice i 0 l 1)(o:∀i k l,allv=.slice i 0 k 15->v≠.slice i 0 l 1)(n:Int)(D:s.aV<=nid)(B:nid<s.aV+k)(p:lo<=s.aV){cs:List IV}(hc:cs=(zs++[n]).map dW): dy ((cL v ⟨s.aV+k,s.aY⟩).put nid (.row cs)) tp mid xv allv clv P t/\(∀O a,eE O s tp mid a clv->O.aV<=lo->eE O ((cL v ⟨s.aV+k,s.aY⟩).put nid (.row cs)) tp mid a clv) /\ cX ((cL v ⟨s.aV+k,s.aY⟩).put nid (.row cs)) lo (.slice nid 0 (zs.length+1) 1) (zs++[n])/\(∀i k l,clv=.slice i 0 k 1->IV.slice nid 0 (zs.length+1) 1≠.slice i 0 l 1)/\(∀i k l,allv=.slice i 0 k 15->IV.slice nid 0 (zs.length+1) 1≠.slice i 0 l 1):=by subst hc;have z:s.aV<=((cL v ⟨s.aV+k,s.aY⟩).put nid (.row ((zs++[n]).map dW))).aV:=(by rw[bU,fa];exact zj _ _);have y:∀i,i<s.aV->(∀m,v≠.slice i 0 m 1)->((cL v ⟨s.aV+k,s.aY⟩).put nid (.row ((zs++[n]).map dW))).aY i=s.aY i:=λi hi A=>(by rw[bq,aa om];rcases d with ⟨rfl,_⟩|⟨id,_,_,rfl,_⟩;{rfl};show (if i=id then z6 else s.aY i)=_;rw[aa λe=>A _ (by rw[e])]);refine ⟨h.but d f o z y,λO a g q=>g.but d q z y,.inr ⟨nid,zf p D,by rw[bU,fa];exact B,by rw[zd,zw],by rw[bq,ab rfl]⟩,λi k l e x=>?_,λi k l e x=>?_⟩;{cases x;rcases h.cls with ⟨h0,_⟩|⟨j,r,_,q⟩;{rw[h0]at e;cases e};rw[r]at e;cases e;omega};cases x;rcases h.all with ⟨h0,_⟩|⟨j,r,_,q⟩;{rw[h0]at e;cases e};rw[r]at e;cases e;omega
end Go.Id.Md
namespace Go.Id.Md
open Go Go.Id
def NY(l:List bc)(hc:l.length<=100)(b:Int):∀d:List aX,(∀a∈d,a.count<=100)->∀t:bW,t.dA->(aX.fl l b d t).2.dA:=by intro d;induction d with|nil=>intro _ t h;exact h|cons a d ih2=>intro h t f;exact ih2 (λx e=>h x (zq _ e)) _ (Ec l hc b a (h a zo) t f)
def TI(d:List aX):∀i,(h:i<d.length)->aX.counts (d.take i)+(d[i]).count<=aX.counts d:=by induction d with|nil=>intro i h;exact aw h (zp _)|cons a d ih=>intro i h;cases i with|zero=>simp only[List.take_zero,aX.counts,List.getElem_cons_zero];omega|succ i=>have:=ih i (by simpa using h);simp only[z1,aX.counts,List.getElem_cons_succ];omega
variable {d:bC}
def IE{k:Int}{f:List aX}{e:Int}(hf:(aX.mk k d f).fc e false=true\/(aX.mk k d f).fc e true=true): (ou e k d f.length false=true\/ou e k d f.length true=true)/\∀a∈f,a.fc e false=true\/a.fc e true=true:=by rcases hf with hf|hf<;>simp only[aX.fc,zi,aX.xR,zu]at hf;{refine ⟨.inl hf.1,λa g=>?_⟩;have:=hf.2 a g;cases h:(false||decide (k=6)||decide (k=7))<;>rw[h]at this;{exact .inl this};exact .inr this};refine ⟨.inr hf.1,λa g=>?_⟩;have:=hf.2 a g;rw[z4,z4]at this;exact .inr this
def LW{k:Int}{g:List aX}(e:k=6\/k=7)(hf:(aX.mk k d g).fc 1 false=true\/(aX.mk k d g).fc 1 true=true):(aX.mk k d g).fc 1 true=true:=by have f:=(IE hf).1;have i:∀a∈g,a.fc 1 true=true:=(by have e:((decide (k=6))||decide (k=7))=true:=(by rcases e with rfl|rfl<;>decide);rcases hf with hf|hf<;>simp only[aX.fc,zi,aX.xR,zu,Bool.or_assoc,e,Bool.or_true]at hf<;>exact hf.2);have h:ou 1 k d g.length true=true:=(by rcases f with f|f;{unfold ou at f ⊢;rcases e with rfl|rfl<;>simpa using f};exact f);simp only[aX.fc,zi,aX.xR,zu,z4];exact ⟨h,i⟩
def LX{k:Int}{n:Nat}(h:ou 1 k d n false=true\/ou 1 k d n true=true):(k=1/\n=0/\fK d=true)\/k=2\/k=3\/(k=4/\(n=2\/n=3))\/(k=5/\(n=2\/n=3))\/k=6\/k=7:=by unfold ou at h;by_cases e:k=1;{simp only[e,af,aB,zi,ah]at h;exact .inl ⟨e,h.1,h.2⟩};rw[aa e,aa e]at h;by_cases o:k=2;{exact .inr (.inl o)};by_cases m:k=3;{exact .inr (.inr (.inl m))};by_cases j:k=6;{exact .inr (.inr (.inr (.inr (.inr (.inl j)))))};by_cases i:k=7;{exact .inr (.inr (.inr (.inr (.inr (.inr i)))))};by_cases g:k=4;{simp[g]at h;exact .inr (.inr (.inr (.inl ⟨g,h.1⟩)))};by_cases f:k=5;{simp[f]at h;exact .inr (.inr (.inr (.inr (.inl ⟨f,h.1⟩))))};simp[o,m,g,f,j,i]at h
variable {O s u:aW} {tp mid lo k nid:Nat} {xv allv clv a b c:IV} {P:List bc} {t:bW} {v:IV} {zs:List Int}
def nG(h:dy s tp mid xv allv clv P t)(q:cX s lo v zs)(y:∀i k l,clv=.slice i 0 k 1->v≠.slice i 0 l 1)(z:∀i k l,allv=.slice i 0 k 15->v≠.slice i 0 l 1)(n:Int)(B:lo<=nid)(A:nid<s.aV)(j:nid≠tp/\nid≠mid/\(∀k,clv≠.slice nid 0 k 1)/\∀k,allv≠.slice nid 0 k 15){cs:List IV}(hc:cs=(zs++[n]).map dW): dy ((cL v s).put nid (.row cs)) tp mid xv allv clv P t/\(∀O a,eE O s tp mid a clv->O.aV<=lo->eE O ((cL v s).put nid (.row cs)) tp mid a clv) /\ cX ((cL v s).put nid (.row cs)) lo (.slice nid 0 (zs.length+1) 1) (zs++[n])/\(∀i k l,clv=.slice i 0 k 1->IV.slice nid 0 (zs.length+1) 1≠.slice i 0 l 1)/\(∀i k l,allv=.slice i 0 k 15->IV.slice nid 0 (zs.length+1) 1≠.slice i 0 l 1):=by
 subst hc;have p:s.aV<=((cL v s).put nid (.row ((zs++[n]).map dW))).aV:=by rw[bU,fa];exact zc _
 have o:∀i,i≠nid->(∀m,v≠.slice i 0 m 1)->((cL v s).put nid (.row ((zs++[n]).map dW))).aY i=s.aY i:=λi hi d=>by rw[bq,aa hi];rcases q with ⟨rfl,_⟩|⟨id,_,_,rfl,_⟩;{rfl};show (if i=id then z6 else s.aY i)=_;rw[aa λe=>d _ (by rw[e])]
 have r:∀i cs,s.aY i=zv (.cells cs)->∀m,v≠.slice i 0 m 1:=λi cs hi m e=>by have⟨_,cs',f⟩:=AF q e;rw[hi]at f;cases f
 have x:∀i cs,s.aY i=zv (.map cs)->∀m,v≠.slice i 0 m 1:=λi cs hi m e=>by have⟨_,cs',f⟩:=AF q e;rw[hi]at f;cases f
 refine ⟨?_,λO a g G=>⟨zf g.aV p,λi hi F E D=>?_,g.new⟩,.inr ⟨nid,B,by rw[bU,fa];exact A,by rw[zd,zw],by rw[bq,ab rfl]⟩,λi k l e f=>?_,λi k l e f=>?_⟩;{exact {cell:=(by rw[o _ (λe=>j.1 e.symm) (r _ _ h.cell)];exact h.cell),all:=h.all.mono p λid d _=>o id (λe=>j.2.2.2 _ (by rw[<- e];exact d)) λm e=>z _ _ _ d e,cls:=h.cls.mono p λid d _=>o id (λe=>j.2.2.1 _ (by rw[<- e];exact d)) λm e=>y _ _ _ d e,map:=(by rw[o _ (λe=>j.2.1 e.symm) (x _ _ h.map)];exact h.map),ne:=h.ne,lt:=⟨za h.lt.1 p,za h.lt.2 p⟩ }};{have d:∀m,v≠.slice i 0 m 1:=λm e=>(by have:=(AF q e).1;omega);rw[o i om d,g.aY i hi F E D]};{cases f;exact j.2.2.1 _ e};cases f;exact j.2.2.2 _ e
def lA.from{T:aW}{r:Int×bW}(h:lA T tp mid xv allv b P r v s)(g:eE O T tp mid a b):lA O tp mid xv allv a P r v s:=by have⟨i,d,f,e⟩:=h;exact ⟨i,d,g.trans f,e⟩
def dy.free(h:dy s tp mid xv allv clv P t){i:Nat}(hi:s.aV<=i):i≠tp/\i≠mid/\(∀k,clv≠.slice i 0 k 1)/\∀k,allv≠.slice i 0 k 15:=by refine ⟨by have:=h.lt.1;omega,by have:=h.lt.2;omega,λk e=>?_,λk e=>?_⟩;{rcases h.cls with ⟨h0,_⟩|⟨j,d,_,f⟩;{rw[h0]at e;cases e};rw[d]at e;cases e;omega};rcases h.all with ⟨h0,_⟩|⟨j,d,_,f⟩;{rw[h0]at e;cases e};rw[d]at e;cases e;omega
def ic7(h:cX s lo v zs)(d:0<zs.length):∃id,v=.slice id 0 zs.length 1/\s.aY id=zv (.row (zs.map dW)):=by rcases h with ⟨_,rfl⟩|⟨id,_,_,f,e⟩;{exact aw d (Nat.lt_irrefl _)};exact ⟨id,f,e⟩
end Go.Id.Md
namespace Go.Id
open Go
def ic8{P:Program}{E:Nat->IV}{O:aW}{f:Nat}{args:List IV}{Q Q':IV->aW->Prop}(h:C P E f args O Q)(B:∀v s,Q v s->∃(S:Nat->Bool) (g:IV),dz s (λi=>S i=true) v g/\Q' g (s.cq S)):C P E f args O Q':=by intro ρ w d hs D;refine CallsIn.mono (h ρ w d hs D) ?_;rintro e F ⟨v,r,y,O',rfl,q,x,o,A⟩;have⟨S,g,hf,z⟩:=B v O' q;have⟨j,p,m,n⟩:=E6 (S:=S) x;exact ⟨g,r,j,O'.cq S,rfl,z,p,n _ _ _ hf o,A.trans ((m _).dw (zc _))⟩
def ic9{O s:aW}{d:IV}{esz nid k:Nat}{es:List (List IV)}{e:List IV}(g:Kept O s)(o:Grow s d esz es)(hi:∀i k,d=.slice i 0 k esz->O.aV<=i)(h:∀x∈es,x.length=esz/\x.all IV.bn=true)(q:e.length=esz/\e.all IV.bn=true)(p:es.length<2147483648)(y:s.aV<=nid)(r:nid<s.aV+k):di ⟨s.aV+k,s.aY⟩ nid esz d (.a8 [e])=zv (.slice nid 0 (es.length+1) esz,(cL d ⟨s.aV+k,s.aY⟩).put nid (.row (es++[e]).flatten)) /\ Kept O ((cL d ⟨s.aV+k,s.aY⟩).put nid (.row (es++[e]).flatten))/\Grow ((cL d ⟨s.aV+k,s.aY⟩).put nid (.row (es++[e]).flatten)) (.slice nid 0 (es.length+1) esz) esz (es++[e])/\∀i m,IV.slice nid 0 (es.length+1) esz=.slice i 0 m esz->O.aV<=i:=by have j:Grow (⟨s.aV+k,s.aY⟩:aW) d esz es:=o.mono (zj _ _) λ_ _ _=>rfl;have f:=g.aV;refine ⟨j9 j h q p,⟨?_,λi n=>?_⟩,.inr ⟨nid,by rw[zd];rfl,by rw[bq,ab rfl],by rw[bU,fa];exact r⟩,λi m e=>by cases e;omega⟩;{rw[bU,fa];exact zf f (zj _ _)};rw[bq,aa om];rcases o with ⟨rfl,_⟩|⟨id,rfl,_,_⟩;{exact g.aY i n};have:=hi id _ rfl;show (if i=id then z6 else s.aY i)=_;rw[aa om];exact g.aY i n
end Go.Id
namespace Go.Id.Md
open Go Go.Id
def jR (l:List (List Int)):IV:=.a8 (l.map fF)
def J5(q:List Int):∀c∈fF q,bZ 0 c:=λc hc=>by rw[fF,zh]at hc;subst hc;exact .a8 _ λe d c hc=>by obtain ⟨x,_,rfl⟩:=zb.1 d;rw[Md.bw,zh]at hc;subst hc;exact .int _ _
def wE(l:List (List Int)):bZ 0 (jR l):=.a8 _ λe d c hc=>by obtain ⟨q,_,rfl⟩:=zb.1 d;exact J5 q c hc
def Dq(O:aW)(tp mid:Nat)(xv allv clv:IV)(P:List bc)(r:List (List Int)×bW)(v:IV)(s:aW):Prop :=v=.tuple [jR r.1,.int .i64 0]/\∃clv',eE O s tp mid clv clv'/\dy s tp mid xv allv clv' P r.2
variable {Pr:Program} {E:Nat->IV} {O s:aW} {tp mid f:Nat} {xv allv clv:IV} {P:List bc} {t:bW} {args:List IV} {cls:List (List Int)}
def Pk {S:Nat->Prop}{v d:IV}(h:dz s S v d):dz s S (.tuple [v,.int .i64 0]) (.tuple [d,.int .i64 0]):=.qE (.cons h (.cons (.bd _ (.int _ _)) .nil))
def Qq(y:dy O tp mid xv allv clv P t)(h:C Pr E f args O λv s=>∃g,v=.tuple [g,.int .i64 0]/\Kept O s/\Grow s g 1 (cls.map fF)/\∀i k,g=.slice i 0 k 1->O.aV<=i):C Pr E f args O (Dq O tp mid xv allv clv P (cls,t)):=by refine ic8 h ?_;rintro v s ⟨g,rfl,m,n,hi⟩;have r:∀i,i<O.aV->eY g i=true:=λi j=>(by rcases n with ⟨rfl,_⟩|⟨id,rfl,_,_⟩;{rfl};have:=hi id _ rfl;simp only[eY,ah];omega);have d:Kept O (s.cq (eY g)):=⟨m.aV,λi j=>by show (if eY g i=true then s.aY i else z6)=_;rw[ab (r i j),m.aY i j]⟩;refine ⟨eY g,_,Pk (n.dN (λx o=>(Eo _ x o).1) (λid e=>by rw[e];simp[eY]) λe p c hc=>?_),rfl,clv,⟨d.aV,λi j _ _ _=>d.aY i j,.inl rfl⟩,y.mono d.aV d.aY⟩;obtain ⟨q,_,rfl⟩:=zb.1 p;exact (J5 q c hc).dw λi h=>aw h (zp _)
def GU(g:dy O tp mid xv allv clv P t)(h:C Pr E f args O λv s=>v=.tuple [jR cls,.int .i64 0]/\Kept O s):C Pr E f args O (Dq O tp mid xv allv clv P (cls,t)):=h.mono λv s ⟨j,d⟩=>⟨j,clv,⟨d.aV,λi e _ _ _=>d.aY i e,.inl rfl⟩,g.mono d.aV d.aY⟩
def Qr{zs:List Int}(h:C Pr E f args O λv s=>∃e d,v=.tuple [.a8 [[e]],.int .i64 0]/\eE O s tp mid clv d/\dy s tp mid xv allv d P t/\cX s O.aV e zs/\(∀i k l,d=.slice i 0 k 1->e≠.slice i 0 l 1)/\(∀i k l,allv=.slice i 0 k 15->e≠.slice i 0 l 1)): C Pr E f args O (Dq O tp mid xv allv clv P ([zs],t)):=by refine ic8 h ?_;rintro v s ⟨e,d,rfl,q,r,n,g,m⟩;refine ⟨eY e,.tuple [jR [zs],.int .i64 0],Pk (.a8 _ _ rfl (λi hi=>?_) λi hi j p=>?_),rfl,d,q.kill (eE.refl _ _ _ _) λi hi=>?_,r.off n.w g m⟩;{have:i=0:=(by simpa using hi);subst this;rfl};{have h0:i=0:=(by simpa using hi);subst h0;have x:j=0:=(by simpa using p);subst x;exact Ed n.w};cases o:eY e i with|true=>rfl|false=>have:=(wP n.w o).1;omega
end Go.Id.Md
namespace Go.Id.Md
open Go Go.Id
variable {O s u:aW} {tp mid rp dm nid k:Nat} {xv allv clv clv' cv av c1 c3:IV} {P:List bc} {t t':bW} {fm:List (IV×IV)} {cs:List (List (List Int))}
def oP (q:List (List Int)):List IV:=[jR q]
def Qs(l:List (List (List Int))):∀e∈l.map oP,e.length=1/\e.all IV.bn=true:=λe d=>by obtain ⟨x,_,rfl⟩:=zb.1 d;exact ⟨rfl,rfl⟩
structure mY (s:aW) (av c1 c3:IV) (rp dm tp mid:Nat) (fm:List (IV×IV)) (xv allv clv cv:IV) (P:List bc) (t:bW) (cs:List (List (List Int))):Prop where
 cell:s.aY rp=zv (.cells [av,c1,.ptr tp 0,c3,cv])
 map:s.aY dm=zv (.map fm)
 gD:dy s tp mid xv allv clv P t
 grow:Grow s cv 1 (cs.map oP)
 ne:∀i k m,clv=.slice i 0 k 1->cv≠.slice i 0 m 1
 na:∀i k m,allv=.slice i 0 k 15->cv≠.slice i 0 m 1
 lt:rp<s.aV/\dm<s.aV
 dt:rp≠tp/\rp≠mid/\dm≠tp/\dm≠mid
def mY.mono (h:mY s av c1 c3 rp dm tp mid fm xv allv clv cv P t cs)(d:Kept s u):mY u av c1 c3 rp dm tp mid fm xv allv clv cv P t cs where
 cell:=by rw[d.aY _ h.lt.1];exact h.cell
 map:=by rw[d.aY _ h.lt.2];exact h.map
 gD:=h.gD.mono d.aV d.aY
 grow:=h.grow.mono d.aV λid _ e=>d.aY id e
 ne:=h.ne
 na:=h.na
 lt:=⟨za h.lt.1 d.aV,za h.lt.2 d.aV⟩
 dt:=h.dt
def Ee(h:dy s tp mid xv allv clv P t){i k:Nat}(e:clv=.slice i 0 k 1):(∃cs,s.aY i=zv (.row cs))/\i<s.aV:=by rcases h.cls with ⟨h0,_⟩|⟨j,m,d,g⟩;{rw[h0]at e;cases e};rw[m]at e;cases e;exact ⟨⟨_,d⟩,g⟩
def mc{d:IV}{esz:Nat}{es:List (List IV)}(h:Grow s d esz es){i k:Nat}(e:d=.slice i 0 k esz):(∃cs,s.aY i=zv (.row cs))/\i<s.aV:=by rcases h with ⟨h0,_⟩|⟨j,n,g,m⟩;{rw[h0]at e;cases e};rw[n]at e;cases e;exact ⟨⟨_,g⟩,m⟩
def mY.eff (h:mY s av c1 c3 rp dm tp mid fm xv allv clv cv P t cs)(g:eE s u tp mid clv clv')(q:dy u tp mid xv allv clv' P t'):mY u av c1 c3 rp dm tp mid fm xv allv clv' cv P t' cs where
 cell:=by
  rw[g.aY _ h.lt.1 h.dt.1 h.dt.2.1 λk e=>?_]
  .exact h.cell
  .have⟨⟨cs,d⟩,_⟩:=Ee h.gD e;rw[h.cell] at d;cases d
 map:=by
  rw[g.aY _ h.lt.2 h.dt.2.2.1 h.dt.2.2.2 λk e=>?_]
  .exact h.map
  .have⟨⟨cs,d⟩,_⟩:=Ee h.gD e;rw[h.map] at d;cases d
 gD:=q
 grow:=h.grow.mono g.aV λid o j=>by
  have⟨⟨cs,d⟩,_⟩:=mc h.grow o;exact g.aY id j (h.gD.pT _ _ d).1 (h.gD.pT _ _ d).2 λk e=>h.ne _ _ _ e o
 ne:=λi k m e p=>by
  have⟨_,r⟩:=mc h.grow p;rcases g.new with n|n
  .exact h.ne i k m (by rw[<- n];exact e) p
  .have:=n i k e;omega
 na:=h.na
 lt:=⟨za h.lt.1 g.aV,za h.lt.2 g.aV⟩
 dt:=h.dt
def Xa(h:mY s av c1 c3 rp dm tp mid fm xv allv clv cv P t cs)(q:List (List Int))(M:cs.length<2147483648)(V:s.aV<=nid)(N:nid<s.aV+k): ∃y,di ⟨s.aV+k,s.aY⟩ nid 1 cv (.a8 [[jR q]])=zv (.slice nid 0 (cs.length+1) 1,y)/\y.aV=s.aV+k/\y.aY rp=zv (.cells [av,c1,.ptr tp 0,c3,cv]) /\ mY (y.put rp (.cells [av,c1,.ptr tp 0,c3,.slice nid 0 (cs.length+1) 1])) av c1 c3 rp dm tp mid fm xv allv clv (.slice nid 0 (cs.length+1) 1) P t (cs++[q]):=by
 have F:Grow (⟨s.aV+k,s.aY⟩:aW) cv 1 (cs.map oP):=h.grow.mono (by show s.aV<=s.aV+k;omega) λ_ _ _=>rfl;have x:=j9 (nid:=nid) (e:=oP q) F (Qs _) ⟨rfl,rfl⟩ (by rw[zg];exact M);rw[zg]at x;have n:∀i,(∀k,cv≠.slice i 0 k 1)->(cL cv (⟨s.aV+k,s.aY⟩:aW)).aY i=s.aY i:=λi hi=>by rcases F with ⟨h0,_⟩|⟨j,D,_,_⟩;{rw[h0];rfl};rw[D];show (if i=j then z6 else s.aY i)=_;rw[aa λe=>hi _ (by rw[D,e])]
 have o:∀i,(∀cs,s.aY i≠zv (.row cs))->∀k,cv≠.slice i 0 k 1:=λi hi k e=>by have⟨⟨cs,g⟩,_⟩:=mc h.grow e;exact hi _ g
 have H:=h.lt.1;have I:=h.lt.2;have U:=h.gD.lt.1;have G:=h.gD.lt.2;have kr:=n rp (o rp λcs e=>by rw[h.cell]at e;cases e);have L:=n dm (o dm λcs e=>by rw[h.map]at e;cases e);have J:=n tp (o tp λcs e=>by rw[h.gD.cell]at e;cases e);have K:=n mid (o mid λcs e=>by rw[h.gD.map]at e;cases e);have z:¬dm=rp:=λe=>by have:=h.map;rw[e,h.cell]at this;cases this
 have nm:(cs++[q]).map oP=cs.map oP++[oP q]:=by rw[zz];rfl
 have d:∀i,i≠rp->i≠nid->((((cL cv (⟨s.aV+k,s.aY⟩:aW)).put nid (.row (cs.map oP++[oP q]).flatten))).put rp (.cells [av,c1,.ptr tp 0,c3,.slice nid 0 (cs.length+1) 1])).aY i=(cL cv (⟨s.aV+k,s.aY⟩:aW)).aY i:=λi S Q=>by rw[bq,aa S,bq,aa Q]
 have p:((((cL cv (⟨s.aV+k,s.aY⟩:aW)).put nid (.row (cs.map oP++[oP q]).flatten))).put rp (.cells [av,c1,.ptr tp 0,c3,.slice nid 0 (cs.length+1) 1])).aV=s.aV+k:=by rw[bU,bU,fa]
 refine ⟨_,x,by rw[bU,fa],by rw[bq,aa om,kr];exact h.cell,?_⟩;exact {cell:=(by rw[bq,ab rfl]),map:=(by rw[d _ z om,L];exact h.map),gD:={cell:=(by rw[d _ (λe=>h.dt.1 e.symm) om,J];exact h.gD.cell),all:=h.gD.all.mono (by rw[p];omega) λid r A=>(by have⟨⟨c,g⟩,_⟩:=mc h.gD.all r;rw[d _ (λe=>by rw[e,h.cell]at g;cases g) om,n id λk e=>h.na _ _ _ r e]),cls:=h.gD.cls.mono (by rw[p];omega) λid r A=>(by have⟨⟨c,g⟩,_⟩:=mc h.gD.cls r;rw[d _ (λe=>by rw[e,h.cell]at g;cases g) om,n id λk e=>h.ne _ _ _ r e]),map:=(by rw[d _ (λe=>h.dt.2.1 e.symm) om,K];exact h.gD.map),ne:=h.gD.ne,lt:=by rw[p];exact ⟨om,om⟩ },grow:=(by refine .inr ⟨nid,by rw[zg,zd];rfl,?_,by rw[p];exact N⟩;rw[bq,aa om,bq,ab rfl,nm]),ne:=λi k m e B=>(by cases B;have⟨_,g⟩:=Ee h.gD e;omega),na:=λi k m e B=>(by cases B;have⟨_,g⟩:=mc h.gD.all e;omega),lt:=(by rw[p];exact ⟨om,om⟩),dt:=h.dt }
def lX (xv:IV)(P:List bc)(t:bW):IV:=.bj [xv,.a8 (P.map bc.cs),.int .i64 t.h,jR t.cl,.cH (kC t.db)]
def sZ (av c1 c3 xv:IV)(P:List bc)(t:bW)(cs:List (List (List Int))):IV:=.bj [av,c1,lX xv P t,c3,.a8 (cs.map oP)]
def dy.dN(h:dy s tp mid xv allv clv P t)(d:bZ 0 xv)(n:∀y:bc,∀c∈y.cs,bZ 0 c)(g:∀e∈P.map bc.cs,e.length=15)(o:(t.db.map (·.1)).Nodup):gM s 0 (.ptr tp 0) (lX xv P t):=by refine .ptr tp 0 _ _ (zp _) (.inl h.cell) (zc _) λj p=>?_;match j,p with|0,_=>exact .bd _ d|1,_=>exact h.all.dN g (λ_ _=>zp _) λe m c hc=>by obtain ⟨y,_,rfl⟩:=zb.1 m;exact n y c hc|2,_=>exact .bd _ (.int _ _)|3,_=>exact h.cls.dN (λx d=>(Eo _ x d).1) (λ_ _=>zp _) λe m c hc=>by obtain ⟨y,_,rfl⟩:=zb.1 m;exact J5 y c hc|4,_=>refine .map mid (kC t.db) (kC t.db) (kC t.db) (zp _) h.map rfl (List.Perm.refl _) (Zu o) (λi hi=>?_) λi hi=>?_;{have:(kC t.db).getD i (.undef,.undef)∈kC t.db:=fq _ hi;have⟨x,_,d⟩:=zb.1 this;rw[<- d];exact .bd _ (.str _)};have:(kC t.db).getD i (.undef,.undef)∈kC t.db:=fq _ hi;have⟨x,_,d⟩:=zb.1 this;rw[<- d];exact .bd _ (.int _ _)
def mY.dN(h:mY s av c1 c3 rp dm tp mid fm xv allv clv cv P t cs)(p:bZ 0 av)(r:bZ 0 c1)(q:bZ 0 c3)(d:bZ 0 xv)(i:∀y:bc,∀c∈y.cs,bZ 0 c)(g:∀e∈P.map bc.cs,e.length=15)(m:(t.db.map (·.1)).Nodup):gM s 0 (.ptr rp 0) (sZ av c1 c3 xv P t cs):=by refine .ptr rp 0 _ _ (zp _) (.inl h.cell) (zc _) λj n=>?_;match j,n with|0,_=>exact .bd _ p|1,_=>exact .bd _ r|2,_=>exact h.gD.dN d i g m|3,_=>exact .bd _ q|4,_=>exact h.grow.dN (λx d=>(Qs _ x d).1) (λ_ _=>zp _) λe o c hc=>by obtain ⟨y,_,rfl⟩:=zb.1 o;rw[oP,zh]at hc;subst hc;exact wE y
namespace bg
def Va(a:bg)(x:cg):∀(xs:List cg)(t:bW),a.jY (xs++[x]) t=((a.jY xs t).1++[(a.jn x (a.jY xs t).2).1],(a.jn x (a.jY xs t).2).2):=by intro xs;induction xs with|nil=>intro t;rfl|cons y ys ih=>intro t;simp only[z2,jY,ih]
def Xb(a:bg):∀(xs:List cg)(t:bW),(a.jY xs t).1.length=xs.length:=by intro xs;induction xs with|nil=>intro t;rfl|cons y ys ih=>intro t;simp only[jY,zn,ih]
def Zv{a:bg}(hO:a.qG){x:cg}(d:a.Has x){t:bW}(h:t.dA):(a.jn x t).2.dA:=by unfold jn;split;{rename_i e;cases d with|kQ p q hp hq=>exact Ec a.l hO.len _ _ (by have:=(Pj hO hp hq).2.2;omega) t h|_=>simp at e};split;{rename_i e;cases d with|iL p q hp hq=>exact Ec a.l hO.len _ _ (by have:=(NW hO hp hq).2.2;omega) t h|_=>simp at e};exact h
def MQ{a:bg}(hO:a.qG):∀(xs:List cg),(∀x∈xs,a.Has x)->∀t:bW,t.dA->(a.jY xs t).2.dA:=by intro xs;induction xs with|nil=>intro _ t h;exact h|cons y ys ih=>intro h t e;exact ih (λx d=>h x (zq _ d)) _ (Zv hO (h y zo) e)
end bg
end Go.Id.Md
namespace Go.Id
open Go
def GV {d:PT}{g:CT}{P:Program}{E:Nat->IV}{e id:Nat}{z:List IV}{x:IX}{fr:bz}{O:aW}{K:IV->aW->Prop}:eZ d g P E (.lu e z x) id fr O K=gw (rT (x.ev E fr)) λn=>K (.slice id 0 n e) (O.put id (.row (rep z n))):=rfl
def GD{K:Nat->Prop}(n:Nat)(h:n<=2147483648):gw (rT (.int .i64 (n:Int))) K=K n:=by have d:(0:Int)<=n/\(n:Int)<=2147483648:=om;show gw (if 0<=(n:Int)/\(n:Int)<=2147483648 then zv ((n:Int).toNat) else z6) K=K n;rw[ab d];rfl
end Go.Id
namespace Go.Id.Md
open Go Go.Id
namespace bg
variable {a:bg}
variable (hO:qG a)
include hO
end bg
structure tk (c n:Nat) (t:bW) (r:Int×bW):Prop where
 le:t.h<=r.2.h/\r.2.h<=t.h+n
 ok:r.2.OK c/\jh (c+r.2.h) r.1
structure Rb (c n:Nat) (t:bW) (r:List Int×bW):Prop where
 le:t.h<=r.2.h/\r.2.h<=t.h+n
 ok:r.2.OK c/\∀x∈r.1,jh (c+r.2.h) x
variable {c:Nat} {t:bW}
theorem Qt (c:Nat)(t:bW):jh (c+(t.h+1)) ((c+(t.h+1):Nat):Int):=⟨om,om,om⟩
theorem Pl(d:t.OK c){i:List (List Int)}(hc:∀q∈i,∀x∈q,jh (c+(t.h+1)) x):(⟨t.h+1,t.cl++i,t.db⟩:bW).OK c :=⟨λq j x g=>(z3.1 j).elim (λh=>(d.cl q h x g).mono (by show c+t.h<=c+(t.h+1);omega)) λh=>hc q h x g,λe m=>(d.st e m).mono (by show c+t.h<=c+(t.h+1);omega),d.kn⟩
theorem Fa(n:t.OK c){l:List Int}(j:∀x∈l,jh (c+t.h) x):tk c 1 t (jW c l t):=by have i:=Qt c t;refine ⟨⟨z0 _,zc _⟩,?_,i⟩;have e:(jW c l t).2=⟨t.h+1,t.cl++((l.map λx=>[-x,((c+(t.h+1):Nat):Int)])++[-((c+(t.h+1):Nat):Int)::l]),t.db⟩:=(by unfold jW;rw[List.append_assoc]);rw[e];refine Pl n λq g=>?_;rcases z3.1 g with g|g;{obtain ⟨y,m,rfl⟩:=zb.1 g;intro x d;simp only[zk,zm,aj]at d;rcases d with rfl|rfl;{exact ((j y m).mono om).neg};exact i};rw[zh]at g;subst g;intro x d;rcases zk.1 d with rfl|d;{exact i.neg};exact (j x d).mono om
theorem LY(g:t.OK c){l:List Int}(i:∀x∈l,jh (c+t.h) x):tk c 1 t (vd c l t):=by have h:=Fa (c:=c) g (l:=nq l) λx e=>(by obtain ⟨y,d,rfl⟩:=zb.1 e;exact (i y d).neg);exact ⟨h.le,h.ok.1,h.ok.2.neg⟩
theorem Ls(n:t.OK c){x y w:Int}(e:jh (c+t.h) x)(d:jh (c+t.h) y)(g:jh (c+t.h) w):tk c 1 t (wD c x y w t):=by have m:=Qt c t;refine ⟨⟨z0 _,zc _⟩,Pl n λq j=>?_,m⟩;have e:=e.mono (W:=c+(t.h+1)) om;have d:=d.mono (W:=c+(t.h+1)) om;have g:=g.mono (W:=c+(t.h+1)) om;have A:=e.neg;have r:=d.neg;have p:=g.neg;have o:=m.neg;simp only[zk,zm,aj]at j;rcases j with rfl|rfl|rfl|rfl<;>intro z i<;>simp only[zk,zm,aj]at i<;>rcases i with rfl|rfl|rfl<;>assumption
theorem Jb(d:t.OK c){l:List Int}(j:∀n∈l,0<=n/\n<(c:Int)):tk c 1 t (qU c l t):=by have m:∀n∈l,jh (c+t.h) (n+1):=λn i=>⟨by have:=j n i;omega,by have:=j n i;omega,by have:=j n i;omega⟩;unfold qU;split;{rename_i z;obtain ⟨n,rfl⟩:=List.length_eq_one_iff.1 z;exact ⟨⟨zc _,z0 _⟩,d,m n zo⟩};split;{rename_i x hf;exact ⟨⟨zc _,z0 _⟩,d,d.st _ (W9 hf)⟩};rename_i hf;have h:=Fa (c:=c) d (l:=eU l) λx r=>(by obtain ⟨y,q,rfl⟩:=zb.1 r;exact m y q);refine ⟨h.le,⟨h.ok.1.cl,λe g=>?_,?_⟩,h.ok.2⟩;{rcases z3.1 g with g|g;{exact h.ok.1.st e g};rw[zh.1 g];exact h.ok.2};show ((t.db++[(lz l,(jW c (eU l) t).1)]).map (·.1)).Nodup;rw[zz,List.map_singleton,List.nodup_append];refine ⟨d.kn,(List.nodup_cons.2 ⟨zm,.nil⟩),λa p b o e=>?_⟩;rw[zh]at o;rw[e,o]at p;exact U9 hf p
theorem NZ(l:List bc)(b:Int)(p:aX->Prop):∀xs:List aX,(∀a∈xs,p a)->(∀a∈xs,p a->∀t:bW,t.OK l.length->tk l.length a.count t (a.fx l b t))->∀t:bW,t.OK l.length->Rb l.length (aX.counts xs) t (aX.fl l b xs t):=by intro xs;induction xs with|nil=>intro _ _ t e;exact ⟨⟨zc _,zj _ _⟩,e,λ_ h=>by cases h⟩|cons a xs ih=>intro j h t e;have g:=h a zo (j a zo) t e;have f:=ih (λa i=>j a (zq _ i)) (λa i=>h a (zq _ i)) _ g.ok.1;simp only[aX.counts,aX.fl];refine ⟨⟨zf g.le.1 f.le.1,by have:=g.le.2;have:=f.le.2;show (aX.fl l b xs (a.fx l b t).2).2.h<=_;omega⟩,f.ok.1,λx d=>?_⟩;rcases zk.1 d with rfl|d;{exact g.ok.2.mono (by have:=f.le.1;show l.length+_<=l.length+(aX.fl l b xs (a.fx l b t).2).2.h;omega)};exact f.ok.2 x d
theorem uR(l:List bc)(b:Int)(r:aX):r.fc 1 false=true\/r.fc 1 true=true->∀t:bW,t.OK l.length->tk l.length r.count t (r.fx l b t):=by induction r using aX.ind with|h k d xs ih=>intro hf t n;have⟨B,A⟩:=IE hf;have o:∀ {r:Int×bW},tk l.length 1 t r->tk l.length (aX.counts xs+1) t r:=λh=>⟨⟨h.le.1,by have:=h.le.2;omega⟩,h.ok⟩;have g:=NZ l b (λa=>a.fc 1 false=true\/a.fc 1 true=true) xs A (λa y p=>ih a y p) t n;have q:=F8 l b xs t;unfold aX.fx;simp only[aX.count];have j:∀i,i<xs.length->jh (l.length+(aX.fl l b xs t).2.h) ((aX.fl l b xs t).1.getD i 0):=λi hi=>(by rw[<- q]at hi;refine g.ok.2 _ ?_;rw[ze,zl hi];exact zr hi);have e:∀ {r:Int×bW},tk l.length 1 (aX.fl l b xs t).2 r->tk l.length (aX.counts xs+1) t r:=λh=>⟨⟨zf g.le.1 h.le.1,by have:=h.le.2;have:=g.le.2;omega⟩,h.ok⟩;rcases LX B with ⟨rfl,_⟩|rfl|rfl|⟨rfl,z⟩|⟨rfl,z⟩|rfl|rfl;{exact o (Jb n GT)};{exact e (LY g.ok.1 g.ok.2)};{exact e (Fa g.ok.1 g.ok.2)};{rw[aa (by decide),aa (by decide)];unfold pS;rw[aa (by decide),aa (by decide),ab rfl];split;{exact e (Ls g.ok.1 (j 0 om) (j 2 om) (j 1 om))};refine e (Fa g.ok.1 λx m=>?_);simp only[zk,zm,aj]at m;rcases m with rfl|rfl;{exact j 0 om};exact (j 1 om).neg};{rw[aa (by decide),aa (by decide)];unfold pS;rw[aa (by decide),aa (by decide),aa (by decide)];split;{exact e (Ls g.ok.1 (j 2 om) (j 0 om) (j 1 om))};refine e (LY g.ok.1 λx m=>?_);simp only[zk,zm,aj]at m;rcases m with rfl|rfl;{exact j 0 om};exact (j 1 om).neg};{exact o (Jb n GT)};exact o (Jb n GT)
theorem MR(l:List bc)(b:Int)(xs:List aX)(h:∀a∈xs,a.fc 1 false=true\/a.fc 1 true=true)(t:bW)(e:t.OK l.length):Rb l.length (aX.counts xs) t (aX.fl l b xs t):=NZ l b _ xs h (λa _ d=>uR l b a d) t e
end Go.Id.Md
namespace Go.Id.Md
open Go Go.Id
namespace bg
variable {a:bg}
def RgL (V:Nat)(l:List (List Int)):Prop:=∀q∈l,∀y∈q,jh V y
variable {V:Nat}
def RgL.mono{W:Nat}{l:List (List Int)}(h:RgL V l)(e:V<=W):RgL W l:=λq g y d=>(h q g y d).mono e
def Hi{n:Int}(h:a.is n=true)(d:a.l.length<=V):jh V (n+1):=by unfold is at h;simp only[zi,ah]at h;exact ⟨om,om,om⟩
def Hj{d:List Int}(h:∀n∈d,a.is n=true)(i:a.l.length<=V):∀y∈eU d,jh V y:=λy e=>by obtain ⟨n,g,rfl⟩:=zb.1 e;exact Hi (h n g) i
def Hk{d:List Int}(h:∀n∈d,a.is n=true)(i:a.l.length<=V):∀y∈gf d,jh V y:=λy e=>by obtain ⟨n,g,rfl⟩:=zb.1 e;exact (Hi (h n g) i).neg
def Zw{x:cg}(G:a.Has x)(I:x.kind≠2)(H:x.kind≠3)(o:a.l.length<=V):RgL V (a.JE x):=by have d:∀n:Nat,n<a.l.length->a.is n=true:=λn g=>(by rw[bg.nK];exact ao g);have e:∀ {l:List Int},(∀y∈l,jh V y)->RgL V [l]:=λh q D=>(by rw[zh]at D;rw[D];exact h);cases G with|b9 p hp _=>exact e (Hk (λn g=>by rw[zh]at g;rw[g];exact d p hp) o)|kQ p q _ _=>exact aw rfl I|iL p q _ _=>exact aw rfl H|over p q hp D=>intro r z;obtain ⟨n,g,rfl⟩:=zb.1 z;obtain ⟨m,rfl,F,_⟩:=oG.1 (aG.1 g).1;refine Hk (λk A=>?_) o;simp only[zk,zm,aj]at A;rcases A with rfl|rfl;{exact d p hp};exact d m F|twin p q F h4 _=>refine e (Hk (λk A=>?_) o);simp only[zk,zm,aj]at A;rcases A with rfl|rfl;{exact d p om};exact d q h4|bd i hi _=>exact e (Hj yj o)|lE j hj _=>show RgL V (a.vu j);unfold vu;split;{exact e (Hj FL o)};split;{intro r z;obtain ⟨n,_,rfl⟩:=zb.1 z;exact Hj yj o};split;{intro r z;obtain ⟨n,_,rfl⟩:=zb.1 z;exact Hj (λm B=>yj m (a.NR B).1) o};intro r z;obtain ⟨n,g,rfl⟩:=zb.1 z;exact Hk (λm B=>by rw[zh]at B;rw[B];exact FL n g) o
variable (hO:qG a)
include hO
end bg
namespace bg
variable {a:bg} (hO:qG a)
include hO
theorem Xc{x:cg}(j:a.Has x){t:bW}(o:t.OK a.l.length):(t.h<=(a.jn x t).2.h/\(a.jn x t).2.h<=t.h+24)/\(a.jn x t).2.OK a.l.length/\RgL (a.l.length+(a.jn x t).2.h) (a.jn x t).1:=by have g:∀ {V:Nat}{y z:Int},jh V y->jh V z->RgL V [[y,z]]:=λA i q d w m=>(by rw[zh]at d;rw[d]at m;simp only[zk,zm,aj]at m;rcases m with rfl|rfl<;>assumption);by_cases i:x.kind=2;{cases j with|kQ p q hp d=>have⟨f,_,n⟩:=Pj hO hp d;have h:=uR a.l (-1) _ (.inl f) t o;exact ⟨⟨h.le.1,zf h.le.2 (z7 n _)⟩,h.ok.1,g (Hi (by rw[bg.nK];exact ao hp) (zj _ _)).neg h.ok.2⟩|_=>simp at i};by_cases r:x.kind=3;{cases j with|iL p q hp d=>have⟨f,_,n⟩:=NW hO hp d;have h:=uR a.l p _ (.inl f) t o;exact ⟨⟨h.le.1,zf h.le.2 (z7 n _)⟩,h.ok.1,g (Hi (by rw[bg.nK];exact ao hp) (zj _ _)).neg h.ok.2.neg⟩|_=>simp at r};have e:a.jn x t=(a.JE x,t):=(by unfold jn;rw[aa i,aa r]);rw[e];exact ⟨⟨zc _,zj _ _⟩,o,Zw j i r (zj _ _)⟩
theorem LZ:∀(xs:List cg),(∀x∈xs,a.Has x)->∀t:bW,t.OK a.l.length -> (t.h<=(a.jY xs t).2.h/\(a.jY xs t).2.h<=t.h+24*xs.length)/\(a.jY xs t).2.OK a.l.length/\∀q∈(a.jY xs t).1,RgL (a.l.length+(a.jY xs t).2.h) q:=by intro xs;induction xs with|nil=>intro _ t e;exact ⟨⟨zc _,zj _ _⟩,e,λq d=>by cases d⟩|cons y ys ih=>intro h t e;have⟨⟨m,r⟩,j,i⟩:=Xc hO (h y zo) e;have⟨⟨p,z⟩,o,n⟩:=ih (λx g=>h x (zq _ g)) _ j;refine ⟨⟨zf m p,by show (a.jY ys (a.jn y t).2).2.h<=_;rw[zn];omega⟩,o,λq d=>?_⟩;rcases zk.1 d with rfl|d;{exact i.mono (by show _<=a.l.length+(a.jY ys (a.jn y t).2).2.h;omega)};exact n q d
end bg
theorem F9{p:UInt8->Bool}(l:bJ):(l.dropWhile p).length<=l.length:=by induction l with|nil=>exact zc _|cons a l ih=>rw[zy];split;{exact zf ih (z0 _)};exact zc _
theorem TJ:∀(n m:Nat)(l:bJ),l.length<=n->l.length<=m->kY n l=kY m l:=by intro n;induction n with|zero=>intro m l e _;have:l=[]:=List.length_eq_zero_iff.1 (Nat.le_zero.1 e);subst this;cases m<;>rfl|succ n ih=>intro m l e g;cases l with|nil=>cases m<;>rfl|cons b l=>cases m with|zero=>simp at g|succ m=>simp only[zn]at e g;have d:cy b=cy b->((b::l).dropWhile λc=>cy c==cy b).length<=l.length:=λ_=>(by rw[zy,ab (by simp)];exact F9 l);have d:=d rfl;simp only[kY];rw[ih m l om om,ih m _ (zf d om) (zf d om)]
def qV (b:UInt8)(l:bJ):Nat:=(l.takeWhile λc=>cy c==cy b).length
theorem Vb:cr []=[]:=rfl
variable {b:UInt8}
theorem N2{l:bJ}(h:cy b=0):cr (b::l)=cr l:=by unfold cr;simp only[zn,kY,h,af]
theorem N3{l:bJ}(h:cy b≠0)(d:cy b<4):cr (b::l)=⟨cy b,[]⟩::cr l:=by unfold cr;simp only[zn,kY,h,d,af,ae]
theorem Ga(p:UInt8->Bool)(l:bJ):l.takeWhile p=l.take (l.takeWhile p).length/\l.dropWhile p=l.drop (l.takeWhile p).length:=by induction l with|nil=>exact ⟨rfl,rfl⟩|cons a l ih=>rw[zx,zy];cases h:p a with|true=>simp only[af,zn,z1,List.drop_succ_cons];exact ⟨by rw[<- ih.1],ih.2⟩|false=>simp
theorem N4{l:bJ}(d:¬cy b<4):cr (b::l)=⟨cy b,if cy b=5 then ((b::l).take (qV b l+1)).dropWhile (· == 48) else (b::l).take (qV b l+1)⟩::cr (l.drop (qV b l)):=by have h0:cy b≠0:=om;unfold cr;simp only[zn,kY,h0,d,ae];have g:(b::l).takeWhile (λc=>cy c==cy b)=(b::l).take (qV b l+1):=(by rw[zx,ab (by simp),z1,(Ga (λc=>cy c==cy b) l).1];unfold qV;rw[<- (Ga (λc=>cy c==cy b) l).1]);have e:(b::l).dropWhile (λc=>cy c==cy b)=l.drop (qV b l):=(by rw[zy,ab (by simp)];exact (Ga (λc=>cy c==cy b) l).2);rw[g,e,TJ l.length (l.drop (qV b l)).length _ (by rw[List.length_drop];omega) (zc _)]
theorem Rc{p:UInt8->Bool}:∀(l:bJ)(m:Nat),m<(l.takeWhile p).length->∃c,l[m]? = zv c/\p c=true:=by intro l;induction l with|nil=>intro m h;simp at h|cons a l ih=>intro m h;rw[zx]at h;cases d:p a with|false=>rw[d]at h;simp at h|true=>rw[d]at h;cases m with|zero=>exact ⟨a,rfl,d⟩|succ m=>exact ih m (by simpa using h)
theorem Re{p:UInt8->Bool}:∀(l:bJ)(c:UInt8),l[(l.takeWhile p).length]? = zv c->p c=false:=by intro l;induction l with|nil=>intro c h;simp at h|cons a l ih=>intro c h;rw[zx]at h;cases d:p a with|false=>rw[d]at h;simp at h;rw[<- h];exact d|true=>rw[d]at h;exact ih c (by simpa using h)
theorem Qu{b:UInt8}{l:bJ}{m:Nat}(h:m<qV b l):∃c,l[m]? = zv c/\cy c=cy b:=by have⟨c,e,d⟩:=Rc l m h;exact ⟨c,e,by simpa using d⟩
theorem Qv{l:bJ}{c:UInt8}(h:l[qV b l]? = zv c):cy c≠cy b:=by have:=Re l c h;simpa using this
theorem Qx (b:UInt8)(l:bJ):qV b l<=l.length:=(List.takeWhile_sublist _).length_le
structure eu where
 kind:Int
 p:Int
 ways:List (List (List Int))
def jE (q:List (List Int)):List IV:=[jR q]
def eu.cs (w:eu):List IV:=[.int .u8 w.kind,.int .i64 w.p,.a8 (w.ways.map jE)]
theorem Pm(l:List (List (List Int))):∀e∈l.map jE,e.length=1/\e.all IV.bn=true:=λe d=>by obtain ⟨x,_,rfl⟩:=zb.1 d;exact ⟨rfl,rfl⟩
theorem N5(l:List eu):∀e∈l.map eu.cs,e.length=3/\e.all IV.bn=true:=λe d=>by obtain ⟨x,_,rfl⟩:=zb.1 d;exact ⟨rfl,rfl⟩
theorem N6(w:eu):∀c∈w.cs,bZ 0 c:=λc hc=>by simp only[eu.cs,zk,zm,aj]at hc;rcases hc with rfl|rfl|rfl;{exact .int _ _};{exact .int _ _};exact .a8 _ λe d c hc=>by obtain ⟨x,_,rfl⟩:=zb.1 d;rw[jE,zh]at hc;subst hc;exact wE x
variable {O s u:aW} {lp tp mid rp dm nid k:Nat} {c0 c1 c2 c3 c4 c5 ov ov' av d1 d3 xv allv clv clv' cv:IV} {W:List eu} {P:List bc} {t t':bW} {fm:List (IV×IV)} {cs:List (List (List Int))}
structure LI (s:aW) (lp:Nat) (c0 c1 c2 c3 c4 c5 ov:IV) (W:List eu):Prop where
 cell:s.aY lp=zv (.cells [c0,c1,c2,c3,c4,c5,ov])
 out:Grow s ov 3 (W.map eu.cs)
 lt:lp<s.aV
structure oz (O s:aW) (lp:Nat) (ov ov':IV):Prop where
 aV:O.aV<=s.aV
 aY:∀i,i<O.aV->i≠lp->(∀k,ov≠.slice i 0 k 3)->s.aY i=O.aY i
 new:ov'=ov\/∀i k,ov'=.slice i 0 k 3->O.aV<=i
theorem oz.kept (d:Kept O s):oz O s lp ov ov:=⟨d.aV,λi hi _ _=>d.aY i hi,.inl rfl⟩
theorem oz.trans {a b c:IV}(h:oz O s lp a b)(g:oz s u lp b c):oz O u lp a c where
 aV:=zf h.aV g.aV
 aY:=λi hi m j=>by
  rw[g.aY i (za hi h.aV) m λk e=>?_,h.aY i hi m j];rcases h.new with d|d
  .exact j k (by rw[<- d];exact e)
  .have:=d i k e;omega
 new:=by
  rcases g.new with e|n
  .rw[e];exact h.new
  .exact .inr λi k e=>zf h.aV (n i k e)
theorem LI.kept(h:LI s lp c0 c1 c2 c3 c4 c5 ov W)(d:Kept s u):LI u lp c0 c1 c2 c3 c4 c5 ov W :=⟨by rw[d.aY _ h.lt];exact h.cell,h.out.mono d.aV λid _ e=>d.aY id e,za h.lt d.aV⟩
theorem LI.up (h:LI s lp c0 c1 c2 c3 c4 c5 ov W)(n:Nat):LI ⟨s.aV+n,s.aY⟩ lp c0 c1 c2 c3 c4 c5 ov W:=h.kept ((Kept.refl s).up n)
theorem LI.pT(h:LI s lp c0 c1 c2 c3 c4 c5 ov W):∀k,ov≠.slice lp 0 k 3:=λk e=>by have⟨⟨q,d⟩,_⟩:=mc h.out e;rw[h.cell]at d;cases d
theorem JG(h:LI s lp c0 c1 c2 c3 c4 c5 ov W)(w:eu)(r:W.length<2147483648)(B:s.aV<=nid)(A:nid<s.aV+k): ∃o,di ⟨s.aV+k,s.aY⟩ nid 3 ov (.a8 [w.cs])=zv (.slice nid 0 (W.length+1) 3,o)/\o.aV=s.aV+k/\o.aY lp=zv (.cells [c0,c1,c2,c3,c4,c5,ov]) /\ LI (o.put lp (.cells [c0,c1,c2,c3,c4,c5,.slice nid 0 (W.length+1) 3])) lp c0 c1 c2 c3 c4 c5 (.slice nid 0 (W.length+1) 3) (W++[w]) /\ oz s (o.put lp (.cells [c0,c1,c2,c3,c4,c5,.slice nid 0 (W.length+1) 3])) lp ov (.slice nid 0 (W.length+1) 3):=by
 have q:Grow (⟨s.aV+k,s.aY⟩:aW) ov 3 (W.map eu.cs):=h.out.mono (zj _ _) λ_ _ _=>rfl;have n:=j9 (nid:=nid) (e:=w.cs) q (N5 _) ⟨rfl,rfl⟩ (by rw[zg];exact r);rw[zg]at n;have x:=h.lt;have g:∀i,(∀k,ov≠.slice i 0 k 3)->(cL ov (⟨s.aV+k,s.aY⟩:aW)).aY i=s.aY i:=λi hi=>by rcases q with ⟨h0,_⟩|⟨j,p,_,_⟩;{rw[h0];rfl};rw[p];show (if i=j then z6 else s.aY i)=_;rw[aa λe=>hi _ (by rw[p,e])]
 have nm:(W++[w]).map eu.cs=W.map eu.cs++[w.cs]:=by rw[zz];rfl
 have d:((cL ov (⟨s.aV+k,s.aY⟩:aW)).put nid (.row (W.map eu.cs++[w.cs]).flatten)).aV=s.aV+k:=by rw[bU,fa]
 have ne:¬lp=nid:=om;refine ⟨_,n,d,by rw[bq,aa ne,g _ h.pT];exact h.cell,⟨by rw[bq,ab rfl],?_,by rw[bU,d];omega⟩,⟨by rw[bU,d];omega,λi hi z y=>?_,.inr λi m e=>by cases e;exact B⟩⟩;{refine .inr ⟨nid,by rw[zg,zd];rfl,?_,by rw[bU,d];exact A⟩;rw[bq,aa λe=>ne e.symm,bq,ab rfl,nm]};rw[bq,aa z,bq,aa om,g i y]
structure WB (s:aW) (lp:Nat) (c0 c2 c3 c4 c5 ov:IV) (W:List eu) (av d1 d3:IV) (rp dm tp mid:Nat) (fm:List (IV×IV)) (xv allv clv cv:IV) (P:List bc) (t:bW) (cs:List (List (List Int))):Prop where
 li:LI s lp c0 (.ptr rp 0) c2 c3 c4 c5 ov W
 bk:mY s av d1 d3 rp dm tp mid fm xv allv clv cv P t cs
 sep:lp≠rp/\lp≠tp
 n1:∀i k m,clv=.slice i 0 k 1->ov≠.slice i 0 m 3
 n2:∀i k m,cv=.slice i 0 k 1->ov≠.slice i 0 m 3
 n3:∀i k m,allv=.slice i 0 k 15->ov≠.slice i 0 m 3
theorem WB.kept(h:WB s lp c0 c2 c3 c4 c5 ov W av d1 d3 rp dm tp mid fm xv allv clv cv P t cs)(d:Kept s u):WB u lp c0 c2 c3 c4 c5 ov W av d1 d3 rp dm tp mid fm xv allv clv cv P t cs :=⟨h.li.kept d,h.bk.mono d,h.sep,h.n1,h.n2,h.n3⟩
theorem WB.le{K:List eu}(h:WB s lp c0 c2 c3 c4 c5 ov W av d1 d3 rp dm tp mid fm xv allv clv cv P t cs)(g:oz s u lp ov ov')(M:LI u lp c0 (.ptr rp 0) c2 c3 c4 c5 ov' K):WB u lp c0 c2 c3 c4 c5 ov' K av d1 d3 rp dm tp mid fm xv allv clv cv P t cs:=by
 have x:∀i o,s.aY i=zv o->(∀q,o≠.row q)->∀k,ov≠.slice i 0 k 3:=λi o y B k e=>by have⟨⟨q,z⟩,_⟩:=mc h.li.out e;rw[y]at z;cases z;exact B _ rfl
 have p:∀i o,s.aY i=zv o->(∀q,o≠.cells q)->i≠lp:=λi o y B e=>by rw[e,h.li.cell]at y;cases y;exact B _ rfl
 have A:∀i e,i<s.aV->(∀k,ov≠.slice i 0 k 3)->ov'≠.slice i 0 e 3:=λi e hi D J=>by rcases g.new with G|G;{exact D e (by rw[<- G];exact J)};have:=G i e J;omega
 have j:=h.bk;have d:=h.bk.gD;have n:∀v esz es,Grow s v esz es->(∀i k,v=.slice i 0 k esz->∀m,ov≠.slice i 0 m 3)->Grow u v esz es:=λv esz es I L=>I.mono g.aV λid H F=>by have⟨⟨q,z⟩,_⟩:=mc I H;exact g.aY id F (p id _ z λ_ e=>by cases e) λk=>L id _ H k
 exact {li:=M,bk:={cell:=(by rw[g.aY _ j.lt.1 h.sep.1.symm (x _ _ j.cell λ_ e=>by cases e)];exact j.cell),map:=(by rw[g.aY _ j.lt.2 (p _ _ j.map λ_ e=>by cases e) (x _ _ j.map λ_ e=>by cases e)];exact j.map),gD:={cell:=(by rw[g.aY _ d.lt.1 h.sep.2.symm (x _ _ d.cell λ_ e=>by cases e)];exact d.cell),all:=n _ _ _ d.all λi k e m=>h.n3 i k m e,cls:=n _ _ _ d.cls λi k e m=>h.n1 i k m e,map:=(by rw[g.aY _ d.lt.2 (p _ _ d.map λ_ e=>by cases e) (x _ _ d.map λ_ e=>by cases e)];exact d.map),ne:=d.ne,lt:=⟨za d.lt.1 g.aV,za d.lt.2 g.aV⟩ },grow:=n _ _ _ j.grow λi k e m=>h.n2 i k m e,ne:=j.ne,na:=j.na,lt:=⟨za j.lt.1 g.aV,za j.lt.2 g.aV⟩,dt:=j.dt },sep:=h.sep,n1:=λi k m e=>A i m (Ee d e).2 λr=>h.n1 i k r e,n2:=λi k m e=>A i m (mc j.grow e).2 λr=>h.n2 i k r e,n3:=λi k m e=>A i m (mc d.all e).2 λr=>h.n3 i k r e }
theorem WB.gD(h:WB s lp c0 c2 c3 c4 c5 ov W av d1 d3 rp dm tp mid fm xv allv clv cv P t cs)(g:eE s u tp mid clv clv')(x:dy u tp mid xv allv clv' P t'):WB u lp c0 c2 c3 c4 c5 ov W av d1 d3 rp dm tp mid fm xv allv clv' cv P t' cs:=by have r:lp≠mid:=λe=>(by have:=h.bk.gD.map;rw[<- e,h.li.cell]at this;cases this);refine ⟨⟨?_,?_,za h.li.lt g.aV⟩,h.bk.eff g x,h.sep,λi k m e p=>?_,h.n2,h.n3⟩;{rw[g.aY _ h.li.lt h.sep.2 r λk e=>?_];{exact h.li.cell};have⟨⟨q,d⟩,_⟩:=Ee h.bk.gD e;rw[h.li.cell]at d;cases d};{exact h.li.out.mono g.aV λid o j=>by have⟨⟨q,d⟩,_⟩:=mc h.li.out o;exact g.aY id j (h.bk.gD.pT _ _ d).1 (h.bk.gD.pT _ _ d).2 λk e=>h.n1 _ _ _ e o};have⟨_,y⟩:=mc h.li.out p;rcases g.new with n|n;{exact h.n1 i k m (by rw[<- n];exact e) p};have:=n i k e;omega
end Go.Id.Md
