/- A dn5 dependency's literal tells whether a state satisfies it. Conditions: none; no program in sight. -/
import Derived.Test.YtoanajmmemjeeaaGreatDoorMte
import Derived.Test.YtoanajmmemjeeaaGreatDoorFwQ
import Derived.Test.YtoanajmmemjeeaaGreatDoorFwRo
open List renaming getD_eq_getElem?_getD→za,length_append→zb,length_map→zc,mem_map→zd,mem_singleton→zg,getElem?_eq_getElem→zh,mem_cons→zl,mem_cons_self→zm,not_mem_nil→zn,mem_cons_of_mem→zo,getElem_mem→zr,mem_iff_getElem?→zt,length_cons→zu,all_eq_true→zv,mem_append→zw,length_singleton→zx,length_filter_le→zy,map_append→z0,range→z2,find?_append→z3,cons_append→z4,map_cons→z6,map_congr_left→z8,countP_eq_zero→z9,map_singleton→qb,getElem?_drop→qc,find?_eq_none→qd,countP_append→qe,pairwise_map→qg,length_range→qh,getElem?_set→qi,ext_getElem?→qj,append_assoc→qk
open Nat renaming le_refl→ze,le_trans→zf,lt_of_lt_of_le→zi,le_add_right→zj,not_lt_zero→zp,le_succ→z5,add_le_add_left→qa
open Bool renaming and_eq_true→zk,true_or→z7
open Option renaming some→zq,none→z1,map_some→qf
open Int renaming toNat_natCast→zz
set_option linter.all false
private theorem om{P:Prop}(h:P:=by omega):P:=h
namespace Go.Id.Md
open Go Go.Id
variable {c:Nat} {t:bL}
def F9{l:List ba}{q:ba->Bool}{b:Int}:∀n∈jx (bG q l) b,0<=n/\n<(l.length:Int):=λn a=>by obtain ⟨m,rfl,d,_⟩:=tk.1 (aD.1 a).1;omega
variable (l:List ba) (hc:l.length<=100) (b:Int)
include hc
end Go.Id.Md
namespace Go.Id.Md
open Go Go.Id
def eZ (l:List Int):List Int:=l.map λn=>-(n+1)
namespace a7
variable (a:a7)
def sT(j:Int):List (List Int):=if (a.jb j).kind=1 then [dW (a.du j)] else if (a.jb j).kind=3 then (a.du j).map λn=>dW (a.iC n) else if (a.jb j).kind=4 then ((a.du j).filter λn=>decide (0<(a.lC n).length)).map λn=>dW (a.lC n) else (a.du j).map λn=>eZ [n]
def yW(x:br):List (List Int):=if x.kind=1 then [eZ [x.p]] else if x.kind=4 then (jx (iY a.l (a.sR x)) x.p).map λn=>eZ [x.p,n] else if x.kind=5 then [eZ [x.p,x.q]] else if x.kind=6 then [dW (a.iC x.p)] else a.sT x.p
def fV(x:br)(t:bL):List (List Int)×bL :=if x.kind=2 then ([eZ [x.p]++[((a.nQ x).gu a.l (-1) t).1]],((a.nQ x).gu a.l (-1) t).2) else if x.kind=3 then ([eZ [x.p]++[-((a.nE x).gu a.l x.p t).1]],((a.nE x).gu a.l x.p t).2) else (a.yW x,t)
def iH:List br->bL->List (List (List Int))×bL|[],t=>([],t)|x::xs,t=>((a.fV x t).1::(iH xs (a.fV x t).2).1,(iH xs (a.fV x t).2).2)
variable {a} {T:Int->Bool} {st:List Int}
def wO{i:Int}:∀n∈a.iC i,a.is n=true:=λn d=>by obtain ⟨_,m,rfl,h⟩:=a.Ym d;rw[a7.AP];exact ao h
def EP{j:Int}:∀n∈a.du j,a.is n=true:=λn d=>by obtain ⟨m,rfl,h⟩:=a.Yq d;rw[a7.AP];exact ao h
structure nF (a:a7):Prop where
 len:a.l.length<=100
 iU:∀p:Nat,p<a.l.length->∀r∈(a.pk p).bq,r.eS 1 false=true/\tN r=true/\r.count<=24
 fR:∀p:Nat,p<a.l.length->∀r∈(a.pk p).conflicts,r.eS 1 false=true/\tN r=true/\r.count<=24
 kind:∀j:Nat,j<a.r.bP.length->1<=(a.jb j).kind/\(a.jb j).kind<=4
variable (hO:nF a)
include hO
theorem FD{p q:Nat}(e:p<a.l.length)(d:q<(a.pk p).bq.length):(a.nQ ⟨2,p,q⟩).eS 1 false=true/\tN (a.nQ ⟨2,p,q⟩)=true/\(a.nQ ⟨2,p,q⟩).count<=24:=by refine hO.iU p e _ ?_;unfold nQ;rw[zz,za,zh d];exact zr d
theorem Fg{p q:Nat}(e:p<a.l.length)(d:q<(a.pk p).conflicts.length):(a.nE ⟨3,p,q⟩).eS 1 false=true/\tN (a.nE ⟨3,p,q⟩)=true/\(a.nE ⟨3,p,q⟩).count<=24:=by refine hO.fR p e _ ?_;unfold nE;rw[zz,za,zh d];exact zr d
end a7
theorem VU{k:Int}{d:bD}{n:Nat}{b:Bool}(h:mZ 2 k d n b=true):mZ 1 k d n b=true:=by unfold mZ at *;split;{rename_i e;rw[ab e]at h;exact h};rename_i j;rw[aa j]at h;rw[zk]at h ⊢;refine ⟨?_,h.2⟩;have h:=h.1;split;{rename_i e;rw[ab e]at h;exact h};rename_i i;rw[aa i]at h;split;{rename_i e;rw[ab e]at h;exact h};rename_i g;rw[aa g]at h;split;{rename_i e;rw[ab e]at h;simp at h};rename_i f;rw[aa f]at h;split;{rename_i e;rw[ab e]at h;simpa using h};rename_i e;rw[aa e]at h;exact h
theorem VV(r:aS):∀b,r.eS 2 b=true->r.eS 1 b=true:=by induction r using aS.ind with|h k d aZ ih=>intro b h;simp only[aS.eS,zk,aS.wD,zv]at h ⊢;exact ⟨VU h.1,λa ha=>ih a ha _ (h.2 a ha)⟩
variable {d:Int}
theorem xG{r:aS}(h:ku r d=0)(e:d=1\/d=2):r.eS 1 false=true/\tN r=true/\r.count<=24:=by refine ⟨?_,V4 h,?_⟩;{rw [El]at h;split at h;{cases h};split at h;{cases h};split at h;{cases h};split at h;{cases h};rename_i hf;have hf:r.eS d false=true:=(by simpa using hf);rcases e with rfl|rfl;{exact hf};exact VV r _ hf};rw[El]at h;split at h;{cases h};split at h;{cases h};rename_i f;omega
theorem MP{r:aS}(h:ku r d=0)(e:d=1\/d=2):ku r 1=0:=by have f:=(xG h e).1;rw[El]at h ⊢;rw[f];split at h;{cases h};split at h;{cases h};split at h;{cases h};rename_i j i g;rw[aa (by decide),aa i,aa g];rfl
theorem Ew{l:List aS}(h:mc l d=true):∀r∈l,ku r d=0:=λr e=>by unfold mc at h;rw[zk,zv]at h;exact aA (h.2 r e)
theorem CH{p:ba}(h:fF p=true):mc p.bq 1=true/\mc p.conflicts 2=true:=by unfold fF at h;simp only[zk]at h;exact ⟨h.1.1.1.1.1.2,h.1.1.1.1.2⟩
theorem ko2 {a:a7}(f:∀p∈a.l,fF p=true)(i:a.l.length<=100)(d:fN a.r a.p.aU=0):a.nF where
 len:=i
 iU:=λp h r d=>by
  have e:a.pk p∈a.l:=by
   unfold a7.pk;rw[zz,za,zh h];exact zr h
  exact xG (Ew (CH (f _ e)).1 r d) (.inl rfl)
 fR:=λp h r d=>by
  have e:a.pk p∈a.l:=by
   unfold a7.pk;rw[zz,za,zh h];exact zr h
  exact xG (Ew (CH (f _ e)).2 r d) (.inr rfl)
 kind:=λj g=>by
  unfold fN at d;split at d
  .cases d
  .split at d
   .cases d
   .split at d
    .cases d
    .rename_i h;have h:a.r.bP.all rL=true:=by simpa using h
     have e:a.jb j∈a.r.bP:=by
      unfold a7.jb;rw[zz,za,zh g];exact zr g
     have:=zv.1 h _ e;unfold rL at this;simp only[zk,ah] at this;exact this.1
theorem H6(f:Nat->Bool)(g:Nat->br)(n:Nat):(iZ f g n).length<=n:=by unfold iZ;rw[zc];exact zf (zy _ _) (by rw[qh];exact ze _)
theorem HG{a:a7}(n:∀p∈a.l,fF p=true)(s:a.l.length<=100)(hi:a.p.aU<=a.l.length)(u:a.r.bP.length<=64):a.items.length<=20000:=by have m:∀k,k<=a.l.length->(a.dq k).length<=97*k:=(by intro k;induction k with|zero=>intro _;exact ze _|succ k g=>intro h;have g:=g om;rw[a.CP,zb];have d:a.pk k∈a.l:=(by unfold a7.pk;rw[zz,za,zh h];exact zr h);have d:=n _ d;have⟨f,e⟩:=CH d;unfold fF at d;simp only[zk,ah]at d;have o:=d.1.1.1.1.1.1.1.1.2.1;unfold mc at f e;rw[zk,ah]at f e;unfold a7.pI a7.kV;rw[zb,zb,zb,a7.tz,a7.tz,a7.tz];have f:=f.1;have e:=e.1;split<;>simp only[List.length_nil,zx]<;>omega);have j:∀k,(a.jF k).length<=100*k:=(by intro k;induction k with|zero=>exact ze _|succ k g=>rw[a.Ej,zb];have:=H6 (λq=>decide (k<q)&&a.twins k q) (λq=>⟨5,k,q⟩) a.l.length;unfold a7.Ca a7.oE;omega);have m:=m _ (ze _);have j:=j a.l.length;have y:=H6 (λi=>!a.goes i) (λi=>⟨6,i,0⟩) a.p.aU.toNat;have x:=H6 (λi=>!a.dropped i) (λi=>⟨7,i,0⟩) a.r.bP.length;rw[a.wt];unfold a7.mz a7.oR;omega
def jZ (l:List (bB×Int)):List (IV×IV):=l.map λe=>(.str e.1,.int .i64 e.2)
theorem VW(k:bB):∀l:List (bB×Int),fh 2 (.str k) (jZ l)=zq ((m5 l k).map λx=>.int .i64 x):=by intro l;induction l with|nil=>rfl|cons t l ih=>have e:m5 (t::l) k=if k=t.1 then zq t.2 else m5 l k:=rfl;rw[e];unfold jZ at *;simp only[z6,fh,zD];by_cases h:k=t.1;{simp[h]};simp only[h,aB,ih,ae]
theorem jv7{k:bB}:∀ {l:List (bB×Int)},m5 l k=z1->gG 2 (.str k) (.int .i64 d) (jZ l)=zq (jZ (l++[(k,d)])):=by intro l;induction l with|nil=>intro _;rfl|cons t l ih=>intro h;unfold m5 at h;split at h;{cases h};rename_i e;have:=ih h;unfold jZ at *;simp only[z6,z4,gG,zD,e,aB,this,qf]
theorem Yn{l:List (bB×Int)}(h:(l.map (·.1)).Nodup):tI (jZ l):=by refine ⟨?_,.str,λe he=>?_⟩;{unfold jZ;rw[List.map_map];have d:=qg.1 h;exact qg.2 (d.imp λ{a b} hab e=>hab (IV.str.inj e))};obtain ⟨x,_,rfl⟩:=zd.1 he;trivial
def eW (q:List Int):List IV:=[.aW (q.map bu)]
theorem DI(l:List (List Int)):∀e∈l.map eW,e.length=1/\e.all IV.aY=true:=λe he=>by obtain ⟨x,_,rfl⟩:=zd.1 he;exact ⟨rfl,rfl⟩
structure cX (s:aQ) (tp mid:Nat) (xv allv clv:IV) (P:List ba) (t:bL):Prop where
 cell:s.aR tp=zq (.cells [xv,allv,.int .i64 t.h,clv,.map mid])
 all:Grow s allv 15 (P.map ba.cs)
 cls:Grow s clv 1 (t.cl.map eW)
 map:s.aR mid=zq (.map (jZ t.cu))
 ne:∀i k j l,clv=.slice i 0 k 1->allv=.slice j 0 l 15->i≠j
 lt:tp<s.aP/\mid<s.aP
structure ey (O s:aQ) (tp mid:Nat) (clv clv':IV):Prop where
 aP:O.aP<=s.aP
 aR:∀i,i<O.aP->i≠tp->i≠mid->(∀k,clv≠.slice i 0 k 1)->s.aR i=O.aR i
 new:clv'=clv\/∀i k,clv'=.slice i 0 k 1->O.aP<=i
theorem ey.refl (O:aQ)(tp mid:Nat)(d:IV):ey O O tp mid d d:=⟨ze _,λ_ _ _ _ _=>rfl,.inl rfl⟩
variable {b c:IV}
theorem ey.trans{O s u:aQ}{tp mid:Nat}{a:IV}(h:ey O s tp mid a b)(g:ey s u tp mid b c):ey O u tp mid a c where
 aP:=zf h.aP g.aP
 aR:=λi hi m j f=>by
  rw[g.aR i (zi hi h.aP) m j λk e=>?_,h.aR i hi m j f];rcases h.new with d|d
  .exact f k (by rw[<- d];exact e)
  .have:=d i k e;omega
 new:=by
  rcases g.new with e|n
  .rw[e];exact h.new
  .exact .inr λi k e=>zf h.aP (n i k e)
theorem cX.mono{s s':aQ}{tp mid:Nat}{xv:IV}{P:List ba}{t:bL}(h:cX s tp mid xv b c P t)(j:s.aP<=s'.aP)(g:∀i,i<s.aP->s'.aR i=s.aR i):cX s' tp mid xv b c P t where
 cell:=by rw[g _ h.lt.1];exact h.cell
 all:=h.all.mono j λid _ e=>g id e
 cls:=h.cls.mono j λid _ e=>g id e
 map:=by rw[g _ h.lt.2];exact h.map
 ne:=h.ne
 lt:=⟨by have:=h.lt.1;omega,by have:=h.lt.2;omega⟩
theorem ey.QK{O s:aQ}{tp mid:Nat}{xv m v:IV}{P:List ba}{t:bL}{lo:Nat}{zs:List Int}(g:ey O s tp mid b c)(h:cX O tp mid xv m b P t)(q:dw O lo v zs)(n:∀i k l,b=.slice i 0 k 1->v≠.slice i 0 l 1):dw s lo v zs:=by rcases q with h0|⟨id,r,p,o,f⟩;{exact .inl h0};refine .inr ⟨id,r,zi p g.aP,o,?_⟩;rw[g.aR id p (λe=>?_) (λe=>?_) λk e=>n id k _ e o];{exact f};{rw[e,h.cell]at f;cases f};rw[e,h.map]at f;cases f
variable {O s:aQ} {tp mid nid k:Nat} {xv allv clv:IV} {P:List ba} {t:bL}
theorem cX.s9(h:cX s tp mid xv allv clv P t):∀i cs,s.aR i=zq (.row cs)->i≠tp/\i≠mid:=λi cs hi=>⟨λe=>(by rw[e,h.cell]at hi;cases hi),λe=>(by rw[e,h.map]at hi;cases hi)⟩
theorem cX.ntm (h:cX s tp mid xv allv clv P t):¬mid=tp:=λe=>by have d:=h.map;rw[e,h.cell] at d;cases d
theorem jS(h:cX s tp mid xv allv clv P t)(q:List Int)(F:t.cl.length<2147483648)(I:s.aP<=nid)(H:nid<s.aP+k): ∃g,c8 ⟨s.aP+k,s.aR⟩ nid 1 clv (.aW [eW q])=zq (.slice nid 0 (t.cl.length+1) 1,g)/\g.aP=s.aP+k/\g.aR tp=zq (.cells [xv,allv,.int .i64 t.h,clv,.map mid]) /\ cX (g.put tp (.cells [xv,allv,.int .i64 t.h,.slice nid 0 (t.cl.length+1) 1,.map mid])) tp mid xv allv (.slice nid 0 (t.cl.length+1) 1) P ⟨t.h,t.cl++[q],t.cu⟩ /\ ey s (g.put tp (.cells [xv,allv,.int .i64 t.h,.slice nid 0 (t.cl.length+1) 1,.map mid])) tp mid clv (.slice nid 0 (t.cl.length+1) 1):=by
 have A:Grow (⟨s.aP+k,s.aR⟩:aQ) clv 1 (t.cl.map eW):=h.cls.mono (by show s.aP<=s.aP+k;omega) λ_ _ _=>rfl;have p:=kP (nid:=nid) (e:=eW q) A (DI _) ⟨rfl,rfl⟩ (by rw[zc];exact F);rw[zc]at p;have N:=h.lt.1;have B:=h.lt.2;have m:¬tp=nid:=om;have x:¬mid=nid:=om;have u:=h.ntm;have d:∀i,(∀k,clv≠.slice i 0 k 1)->(cW clv (⟨s.aP+k,s.aR⟩:aQ)).aR i=s.aR i:=λi hi=>by rcases A with ⟨h0,_⟩|⟨j,f,_,_⟩;{rw[h0];rfl};rw[f];show (if i=j then z1 else s.aR i)=_;rw[aa λe=>hi _ (by rw[f,e])]
 have o:∀i,(∀cs,s.aR i≠zq (.row cs))->∀k,clv≠.slice i 0 k 1:=λi hi k e=>by rcases h.cls with ⟨h0,_⟩|⟨j,f,z,_⟩;{rw[h0]at e;cases e};rw[f]at e;cases e;exact hi _ z
 have D:=d tp (o tp λcs e=>by rw[h.cell]at e;cases e);have E:=d mid (o mid λcs e=>by rw[h.map]at e;cases e);have nm:(t.cl++[q]).map eW=t.cl.map eW++[eW q]:=by rw[z0];rfl
 refine ⟨_,p,by rw[bH,gf],by rw[aV,aa m,D];exact h.cell,?_,?_⟩;{exact {cell:=(by rw[aV,ab rfl]),all:=(by refine h.all.mono (by rw[bH,bH,gf];show s.aP<=s.aP+k;omega) λid n G=>?_;have y:∃cs,s.aR id=zq (.row cs):=(by rcases h.all with ⟨h0,_⟩|⟨j,f,z,_⟩;{rw[h0]at n;cases n};rw[f]at n;cases n;exact ⟨_,z⟩);have⟨cs,y⟩:=y;rw[aV,aa (h.s9 _ _ y).1,aV,aa om,d id λk e=>h.ne _ _ _ _ e n rfl]),cls:=(by refine .inr ⟨nid,by rw[zc,zb];rfl,?_,by rw[bH,bH,gf];exact H⟩;rw[aV,aa (λe=>m e.symm),aV,ab rfl,nm]),map:=(by rw[aV,aa u,aV,aa x,E];exact h.map),ne:=λi k j l L r=>(by cases L;rcases h.all with ⟨h0,_⟩|⟨M,f,_,Q⟩;{rw[h0]at r;cases r};rw[f]at r;cases r;omega),lt:=by rw[bH,bH,gf];exact ⟨by show tp<s.aP+k;omega,by show mid<s.aP+k;omega⟩ }};refine ⟨by rw[bH,bH,gf];show s.aP<=s.aP+k;omega,λi hi K S J=>?_,.inr λi k e=>by cases e;exact I⟩;rw[aV,aa K,aV,aa om,d i J]
theorem tab_set(h:cX s tp mid xv allv clv P t)(x:bB)(y:Int): cX (s.put mid (.map (jZ (t.cu++[(x,y)])))) tp mid xv allv clv P ⟨t.h,t.cl,t.cu++[(x,y)]⟩/\ey s (s.put mid (.map (jZ (t.cu++[(x,y)])))) tp mid clv clv:=by have d:=h.ntm;have f:∀ {v:IV}{esz:Nat}{es:List (List IV)},Grow s v esz es->Grow (s.put mid (.map (jZ (t.cu++[(x,y)])))) v esz es:=λ{v esz es} hg=>(by rcases hg with h0|⟨id,m,g,j⟩;{exact .inl h0};exact .inr ⟨id,m,by rw[aV,aa (h.s9 _ _ g).2];exact g,by rw[bH];exact j⟩);refine ⟨{ cell:=(by rw[aV,aa (λe=>d e.symm)];exact h.cell),all:=f h.all,cls:=f h.cls,map:=(by rw[aV,ab rfl]),ne:=h.ne,lt:=by rw[bH];exact h.lt },⟨by rw[bH];exact ze _,λi hi p n o=>by rw[aV,aa n],.inl rfl⟩⟩
theorem oq(h:s.aR mid=zq (.map (jZ t.cu))){x:bB}(y:Int)(d:m5 t.cu x=z1):iX s 2 (.map mid) (.str x) (.int .i64 y)=zq (s.put mid (.map (jZ (t.cu++[(x,y)])))):=by simp only[iX,h,jv7 d,qf]
theorem lV(h:s.aR mid=zq (.map (jZ t.cu)))(x:bB):fy s 2 (.int .i64 0) true (.map mid) (.str x)=zq (.tuple [((m5 t.cu x).map λx=>IV.int .i64 x).getD (.int .i64 0),.bool (m5 t.cu x).isSome]):=by simp only[fy,lr,h,VW,af,Option.isSome_map]
theorem cX.up (h:cX s tp mid xv allv clv P t)(n:Nat):cX ⟨s.aP+n,s.aR⟩ tp mid xv allv clv P t:=h.mono (zj _ _) λ_ _=>rfl
theorem ey.up(h:ey O s tp mid clv b)(n:Nat):ey O ⟨s.aP+n,s.aR⟩ tp mid clv b:=⟨zf h.aP (zj _ _),h.aR,h.new⟩
theorem cX.cz(h:cX s tp mid xv allv clv P t){S:Nat->Bool}(d:∀i,S i=false->i≠tp/\i≠mid/\(∀k,clv≠.slice i 0 k 1)/\∀k,allv≠.slice i 0 k 15):cX (s.cz S) tp mid xv allv clv P t:=by have on:∀i,(S i=false->False)->(s.cz S).aR i=s.aR i:=λi hi=>(by show (if S i=true then s.aR i else z1)=_;rw[ab (by cases hs:S i with|true=>rfl|false=>exact (hi hs).elim)]);exact {cell:=(by rw[on tp λhs=>(d _ hs).1 rfl];exact h.cell),all:=h.all.mono (ze _) λid e _=>on id λhs=>(d _ hs).2.2.2 _ e,cls:=h.cls.mono (ze _) λid e _=>on id λhs=>(d _ hs).2.2.1 _ e,map:=(by rw[on mid λhs=>(d _ hs).2.1 rfl];exact h.map),ne:=h.ne,lt:=h.lt }
end Go.Id.Md
namespace Go.Id.Md
open Go Go.Id
def bL.cE (t:bL):Prop:=t.cl.length<=101*t.h
def Ex{c:Nat}{l:List Int}{t:bL}(h:t.cE)(d:l.length<=100):(gY c l t).2.cE:=by unfold bL.cE at *;show (t.cl++(l.map λx=>[-x,((c+(t.h+1):Nat):Int)])++[_]).length<=101*(t.h+1);simp only[zb,zc,zx];omega
def LN{c:Nat}{l:List Int}{t:bL}(h:t.cE)(d:l.length<=100):(sN c l t).2.cE :=Ex (c:=c) (l:=kY l) h (by unfold kY;rw[zc];exact d)
def KT{c:Nat}{x y w:Int}{t:bL}(h:t.cE):(sJ c x y w t).2.cE:=by unfold bL.cE at *;show (t.cl++[_,_,_,_]).length<=101*(t.h+1);simp only[zb,zu,List.length_nil];omega
def NQ{c:Nat}{l:List Int}{t:bL}(h:t.cE)(d:l.length<=100):(nY c l t).2.cE:=by unfold nY;split;{exact h};split;{exact h};exact Ex (c:=c) (l:=dW l) h (by unfold dW;rw[zc];exact d)
def Dq (l:List Int)(b:Int):(jx l b).length<=l.length:=zy _ _
def C6(l:List ba)(b:Int):∀(d:List aS)(t:bL),(aS.eQ l b d t).1.length=d.length:=by intro d;induction d with|nil=>intro t;rfl|cons a d ih=>intro t;simp only[aS.eQ,zu,ih]
def VX(l:List ba)(b:Int)(a:aS):∀(d:List aS)(t:bL),aS.eQ l b (d++[a]) t=((aS.eQ l b d t).1++[(a.gu l b (aS.eQ l b d t).2).1],(a.gu l b (aS.eQ l b d t).2).2):=by intro d;induction d with|nil=>intro t;rfl|cons r rs ih=>intro t;simp only[z4,aS.eQ,ih]
def IF(l:List ba)(hc:l.length<=100)(b:Int)(r:aS):r.count<=100->∀t:bL,t.cE->(r.gu l b t).2.cE:=by induction r using aS.ind with|h k d e ih=>
 intro u t j;have m:∀e:List aS,e.length<=aS.counts e/\∀a∈e,a.count<=aS.counts e:=by intro e;induction e with|nil=>exact ⟨ze _,λa h=>by cases h⟩|cons a e ih2=>have⟨B,p⟩:=ih2;have z:1<=a.count:=(by have⟨k,d,xs⟩:=a;simp only[aS.count];omega);simp only[aS.counts,zu];refine ⟨om,λx i=>?_⟩;rcases zl.1 i with rfl|i;{omega};have:=p x i;omega
 simp only[aS.count]at u;have f:∀q:ba->Bool,(jx (bG q l) b).length<=100:=λq=>by have z:=Dq (bG q l) b;have D:=kh q l;omega
 have y:∀(e:List aS),(∀a∈e,∀t:bL,t.cE->(a.gu l b t).2.cE)->∀t:bL,t.cE->(aS.eQ l b e t).2.cE:=by intro e;induction e with|nil=>intro _ t h;exact h|cons a e ih2=>intro h t j;exact ih2 (λx i=>h x (zo _ i)) _ (h a zm t j)
 have⟨A,o⟩:=m e;have g:=y e (λa ha=>ih a ha (by have:=o a ha;omega)) t j;have n:(aS.eQ l b e t).1.length<=100:=by rw[C6];omega
 unfold aS.gu;split;{exact NQ j (f _)};split;{exact NQ j (f _)};unfold oa;split;{exact LN g n};split;{exact Ex g n};split;{split;{exact KT g};exact Ex g (by simp)};split;{exact KT g};exact LN g (by simp)
def kg:IV->Nat->Bool|.slice j _ _ _,i=>decide (i≠j)|_,_=>true
def IG{s:aQ}{lo:Nat}{v:IV}{zs:List Int}(h:kI s lo v zs):de s (λi=>kg v i=true) v (.aW (zs.map Md.bu)):=by rcases h with ⟨rfl,rfl⟩|⟨id,cs,p,o,rfl,f,e,n⟩;{exact .jr};refine .slice id 0 zs.length 1 cs (zs.map Md.bu) (by simp[kg]) (.inr f) (by rw[zc]) om (λi hi=>?_) λi hi j m=>?_;{simp[za,hi,Md.bu]};have d:j=0:=om;subst d;have g:((zs.map Md.bu).getD i []).getD 0 .undef=bV zs[i]:=(by simp[za,hi,Md.bu]);rw[g,Nat.zero_add,Nat.mul_one,Nat.add_zero,Fz e hi];exact .aT _ (.int _ _)
def DJ{s:aQ}{lo:Nat}{v:IV}{zs:List Int}(h:kI s lo v zs){i:Nat}(hi:kg v i=false):lo<=i/\∃k,v=.slice i 0 k 1/\∃cs,s.aR i=zq (.row cs):=by rcases h with ⟨rfl,rfl⟩|⟨id,cs,f,m,rfl,d,j,g⟩;{cases hi};have e:i=id:=(by simpa [kg] using hi);subst e;exact ⟨f,_,rfl,_,d⟩
variable {O s u:aQ} {tp mid lo:Nat} {xv allv clv a b c:IV} {P:List ba} {t:bL} {v:IV} {zs:List Int}
def cX.off(h:cX s tp mid xv allv clv P t)(n:kI s lo v zs)(d:∀i k l,clv=.slice i 0 k 1->v≠.slice i 0 l 1)(f:∀i k l,allv=.slice i 0 k 15->v≠.slice i 0 l 1):cX (s.cz (kg v)) tp mid xv allv clv P t :=h.cz λi hi=>by have⟨o,k,j,cs,g⟩:=DJ n hi;exact ⟨(h.s9 _ _ g).1,(h.s9 _ _ g).2,λm e=>d _ _ _ e j,λm e=>f _ _ _ e j⟩
def ey.kill {S:Nat->Bool}(h:ey O s tp mid a b)(g:ey (s.cz S) u tp mid b c)(n:∀i,i<O.aP->S i=true):ey O u tp mid a c where
 aP:=zf h.aP g.aP
 aR:=λi hi m j f=>by
  have e:(s.cz S).aR i=s.aR i:=by show (if S i=true then s.aR i else z1)=_;rw[ab (n i hi)]
  rw[g.aR i (zi hi h.aP) m j λk e=>?_,e,h.aR i hi m j f];rcases h.new with d|d
  .exact f k (by rw[<- d];exact e)
  .have:=d i k e;omega
 new:=by
  rcases g.new with e|o
  .rw[e];exact h.new
  .exact .inr λi k e=>zf h.aP (o i k e)
def kX(O:aQ)(tp mid:Nat)(xv allv clv:IV)(P:List ba)(r:Int×bL)(v:IV)(s:aQ):Prop :=v=.int .i64 r.1/\∃clv',ey O s tp mid clv clv'/\cX s tp mid xv allv clv' P r.2
end Go.Id.Md
namespace Go.Id.Md
open Go Go.Id
variable {O s u:aQ} {tp mid lo k nid:Nat} {xv allv clv a b c:IV} {P:List ba} {t:bL} {v:IV} {zs:List Int}
def yX(h:dw s lo v zs){i m:Nat}(e:v=.slice i 0 m 1):lo<=i/\∃cs,s.aR i=zq (.row cs):=by rcases h with ⟨rfl,_⟩|⟨id,f,g,rfl,d⟩;{cases e};cases e;exact ⟨f,_,d⟩
def cX.fY (h:cX s tp mid xv allv clv P t)(p:dw s lo v zs)(j:∀i k l,clv=.slice i 0 k 1->v≠.slice i 0 l 1)(n:∀i k l,allv=.slice i 0 k 15->v≠.slice i 0 l 1)(q:s.aP<=u.aP)
  (f:∀i,i<s.aP->(∀m,v≠.slice i 0 m 1)->u.aR i=s.aR i):cX u tp mid xv allv clv P t where
 cell:=by
  rw[f _ h.lt.1 λm e=>?_]
  .exact h.cell
  .have⟨_,cs,o⟩:=yX p e;exact (h.s9 _ _ o).1 rfl
 all:=h.all.mono q λid g d=>f id d λm e=>n _ _ _ g e
 cls:=h.cls.mono q λid g d=>f id d λm e=>j _ _ _ g e
 map:=by
  rw[f _ h.lt.2 λm e=>?_]
  .exact h.map
  .have⟨_,cs,o⟩:=yX p e;exact (h.s9 _ _ o).2 rfl
 ne:=h.ne
 lt:=⟨by have:=h.lt.1;omega,by have:=h.lt.2;omega⟩
def ey.fY(h:ey O s tp mid a b)(f:dw s lo v zs)(n:O.aP<=lo)(j:s.aP<=u.aP)(g:∀i,i<s.aP->(∀m,v≠.slice i 0 m 1)->u.aR i=s.aR i):ey O u tp mid a b :=⟨zf h.aP j,λi hi q p o=>by have d:∀m,v≠.slice i 0 m 1:=λm e=>(by have:=(yX f e).1;omega);rw[g i (zi hi h.aP) d,h.aR i hi q p o],h.new⟩
def oo(h:cX s tp mid xv allv clv P t)(d:dw s lo v zs)(f:∀i k l,clv=.slice i 0 k 1->v≠.slice i 0 l 1)(o:∀i k l,allv=.slice i 0 k 15->v≠.slice i 0 l 1)(n:Int)(D:s.aP<=nid)(B:nid<s.aP+k)(p:lo<=s.aP){cs:List IV}(hc:cs=(zs++[n]).map bV): cX ((cW v ⟨s.aP+k,s.aR⟩).put nid (.row cs)) tp mid xv allv clv P t/\(∀O a,ey O s tp mid a clv->O.aP<=lo->ey O ((cW v ⟨s.aP+k,s.aR⟩).put nid (.row cs)) tp mid a clv) /\ dw ((cW v ⟨s.aP+k,s.aR⟩).put nid (.row cs)) lo (.slice nid 0 (zs.length+1) 1) (zs++[n])/\(∀i k l,clv=.slice i 0 k 1->IV.slice nid 0 (zs.length+1) 1≠.slice i 0 l 1)/\(∀i k l,allv=.slice i 0 k 15->IV.slice nid 0 (zs.length+1) 1≠.slice i 0 l 1):=by subst hc;have z:s.aP<=((cW v ⟨s.aP+k,s.aR⟩).put nid (.row ((zs++[n]).map bV))).aP:=(by rw[bH,gf];exact zj _ _);have y:∀i,i<s.aP->(∀m,v≠.slice i 0 m 1)->((cW v ⟨s.aP+k,s.aR⟩).put nid (.row ((zs++[n]).map bV))).aR i=s.aR i:=λi hi A=>(by rw[aV,aa om];rcases d with ⟨rfl,_⟩|⟨id,_,_,rfl,_⟩;{rfl};show (if i=id then z1 else s.aR i)=_;rw[aa λe=>A _ (by rw[e])]);refine ⟨h.fY d f o z y,λO a g q=>g.fY d q z y,.inr ⟨nid,zf p D,by rw[bH,gf];exact B,by rw[zb,zx],by rw[aV,ab rfl]⟩,λi k l e x=>?_,λi k l e x=>?_⟩;{cases x;rcases h.cls with ⟨h0,_⟩|⟨j,r,_,q⟩;{rw[h0]at e;cases e};rw[r]at e;cases e;omega};cases x;rcases h.all with ⟨h0,_⟩|⟨j,r,_,q⟩;{rw[h0]at e;cases e};rw[r]at e;cases e;omega
end Go.Id.Md
namespace Go.Id.Md
open Go Go.Id
def MQ(l:List ba)(hc:l.length<=100)(b:Int):∀d:List aS,(∀a∈d,a.count<=100)->∀t:bL,t.cE->(aS.eQ l b d t).2.cE:=by intro d;induction d with|nil=>intro _ t h;exact h|cons a d ih2=>intro h t f;exact ih2 (λx e=>h x (zo _ e)) _ (IF l hc b a (h a zm) t f)
def Ek(d:List aS):∀i,(h:i<d.length)->aS.counts (d.take i)+(d[i]).count<=aS.counts d:=by induction d with|nil=>intro i h;exact au h (zp _)|cons a d ih=>intro i h;cases i with|zero=>simp only[List.take_zero,aS.counts,List.getElem_cons_zero];omega|succ i=>have:=ih i (by simpa using h);simp only[List.take_succ_cons,aS.counts,List.getElem_cons_succ];omega
variable {d:bD}
def HH{k:Int}{f:List aS}{e:Int}(hf:(aS.mk k d f).eS e false=true\/(aS.mk k d f).eS e true=true): (mZ e k d f.length false=true\/mZ e k d f.length true=true)/\∀a∈f,a.eS e false=true\/a.eS e true=true:=by rcases hf with hf|hf<;>simp only[aS.eS,zk,aS.wD,zv]at hf;{refine ⟨.inl hf.1,λa ha=>?_⟩;have:=hf.2 a ha;cases g:(false||decide (k=6)||decide (k=7))<;>rw[g]at this;{exact .inl this};exact .inr this};refine ⟨.inr hf.1,λa ha=>?_⟩;have:=hf.2 a ha;rw[z7,z7]at this;exact .inr this
def KU{k:Int}{g:List aS}(e:k=6\/k=7)(hf:(aS.mk k d g).eS 1 false=true\/(aS.mk k d g).eS 1 true=true):(aS.mk k d g).eS 1 true=true:=by have f:=(HH hf).1;have i:∀a∈g,a.eS 1 true=true:=(by have e:((decide (k=6))||decide (k=7))=true:=(by rcases e with rfl|rfl<;>decide);rcases hf with hf|hf<;>simp only[aS.eS,zk,aS.wD,zv,Bool.or_assoc,e,Bool.or_true]at hf<;>exact hf.2);have h:mZ 1 k d g.length true=true:=(by rcases f with f|f;{unfold mZ at f ⊢;rcases e with rfl|rfl<;>simpa using f};exact f);simp only[aS.eS,zk,aS.wD,zv,z7];exact ⟨h,i⟩
def KV{k:Int}{n:Nat}(h:mZ 1 k d n false=true\/mZ 1 k d n true=true):(k=1/\n=0/\iz d=true)\/k=2\/k=3\/(k=4/\(n=2\/n=3))\/(k=5/\(n=2\/n=3))\/k=6\/k=7:=by unfold mZ at h;by_cases e:k=1;{simp only[e,af,or_self,zk,ah]at h;exact .inl ⟨e,h.1,h.2⟩};rw[aa e,aa e]at h;by_cases o:k=2;{exact .inr (.inl o)};by_cases m:k=3;{exact .inr (.inr (.inl m))};by_cases j:k=6;{exact .inr (.inr (.inr (.inr (.inr (.inl j)))))};by_cases i:k=7;{exact .inr (.inr (.inr (.inr (.inr (.inr i)))))};by_cases g:k=4;{simp[g]at h;exact .inr (.inr (.inr (.inl ⟨g,h.1⟩)))};by_cases f:k=5;{simp[f]at h;exact .inr (.inr (.inr (.inr (.inl ⟨f,h.1⟩))))};simp[o,m,g,f,j,i]at h
variable {O s u:aQ} {tp mid lo k nid:Nat} {xv allv clv a b c:IV} {P:List ba} {t:bL} {v:IV} {zs:List Int}
def lW(h:cX s tp mid xv allv clv P t)(q:dw s lo v zs)(y:∀i k l,clv=.slice i 0 k 1->v≠.slice i 0 l 1)(z:∀i k l,allv=.slice i 0 k 15->v≠.slice i 0 l 1)(n:Int)(D:lo<=nid)(B:nid<s.aP)(j:nid≠tp/\nid≠mid/\(∀k,clv≠.slice nid 0 k 1)/\∀k,allv≠.slice nid 0 k 15){cs:List IV}(hc:cs=(zs++[n]).map bV): cX ((cW v s).put nid (.row cs)) tp mid xv allv clv P t/\(∀O a,ey O s tp mid a clv->O.aP<=lo->ey O ((cW v s).put nid (.row cs)) tp mid a clv) /\ dw ((cW v s).put nid (.row cs)) lo (.slice nid 0 (zs.length+1) 1) (zs++[n])/\(∀i k l,clv=.slice i 0 k 1->IV.slice nid 0 (zs.length+1) 1≠.slice i 0 l 1)/\(∀i k l,allv=.slice i 0 k 15->IV.slice nid 0 (zs.length+1) 1≠.slice i 0 l 1):=by
 subst hc;have p:s.aP<=((cW v s).put nid (.row ((zs++[n]).map bV))).aP:=by rw[bH,gf];exact ze _
 have o:∀i,i≠nid->(∀m,v≠.slice i 0 m 1)->((cW v s).put nid (.row ((zs++[n]).map bV))).aR i=s.aR i:=λi hi d=>by rw[aV,aa hi];rcases q with ⟨rfl,_⟩|⟨id,_,_,rfl,_⟩;{rfl};show (if i=id then z1 else s.aR i)=_;rw[aa λe=>d _ (by rw[e])]
 have r:∀i cs,s.aR i=zq (.cells cs)->∀m,v≠.slice i 0 m 1:=λi cs hi m e=>by have⟨_,A,f⟩:=yX q e;rw[hi]at f;cases f
 have x:∀i cs,s.aR i=zq (.map cs)->∀m,v≠.slice i 0 m 1:=λi cs hi m e=>by have⟨_,A,f⟩:=yX q e;rw[hi]at f;cases f
 refine ⟨?_,λO a g H=>⟨zf g.aP p,λi hi G F E=>?_,g.new⟩,.inr ⟨nid,D,by rw[bH,gf];exact B,by rw[zb,zx],by rw[aV,ab rfl]⟩,λi k l e f=>?_,λi k l e f=>?_⟩;{exact {cell:=(by rw[o _ (λe=>j.1 e.symm) (r _ _ h.cell)];exact h.cell),all:=h.all.mono p λid d _=>o id (λe=>j.2.2.2 _ (by rw[<- e];exact d)) λm e=>z _ _ _ d e,cls:=h.cls.mono p λid d _=>o id (λe=>j.2.2.1 _ (by rw[<- e];exact d)) λm e=>y _ _ _ d e,map:=(by rw[o _ (λe=>j.2.1 e.symm) (x _ _ h.map)];exact h.map),ne:=h.ne,lt:=⟨zi h.lt.1 p,zi h.lt.2 p⟩ }};{have d:∀m,v≠.slice i 0 m 1:=λm e=>(by have:=(yX q e).1;omega);rw[o i om d,g.aR i hi G F E]};{cases f;exact j.2.2.1 _ e};cases f;exact j.2.2.2 _ e
def kX.from{T:aQ}{r:Int×bL}(h:kX T tp mid xv allv b P r v s)(g:ey O T tp mid a b):kX O tp mid xv allv a P r v s:=by have⟨i,d,f,e⟩:=h;exact ⟨i,d,g.trans f,e⟩
def cX.free(h:cX s tp mid xv allv clv P t){i:Nat}(hi:s.aP<=i):i≠tp/\i≠mid/\(∀k,clv≠.slice i 0 k 1)/\∀k,allv≠.slice i 0 k 15:=by refine ⟨by have:=h.lt.1;omega,by have:=h.lt.2;omega,λk e=>?_,λk e=>?_⟩;{rcases h.cls with ⟨h0,_⟩|⟨j,d,_,f⟩;{rw[h0]at e;cases e};rw[d]at e;cases e;omega};rcases h.all with ⟨h0,_⟩|⟨j,d,_,f⟩;{rw[h0]at e;cases e};rw[d]at e;cases e;omega
def NR(h:dw s lo v zs)(d:0<zs.length):∃id,v=.slice id 0 zs.length 1/\s.aR id=zq (.row (zs.map bV)):=by rcases h with ⟨_,rfl⟩|⟨id,_,_,f,e⟩;{exact au d (Nat.lt_irrefl _)};exact ⟨id,f,e⟩
end Go.Id.Md
namespace Go.Id
open Go
def DK{P:Program}{E:Nat->IV}{O:aQ}{f:Nat}{args:List IV}{Q y:IV->aQ->Prop}(h:C P E f args O Q)(B:∀v s,Q v s->∃(S:Nat->Bool) (g:IV),de s (λi=>S i=true) v g/\y g (s.cz S)):C P E f args O y:=by intro ρ w d hs ha;refine CallsIn.mono (h ρ w d hs ha) ?_;rintro e D ⟨v,r,ρ',O',rfl,q,x,o,A⟩;have⟨S,g,hf,z⟩:=B v O' q;have⟨j,p,m,n⟩:=G9 (S:=S) x;exact ⟨g,r,j,O'.cz S,rfl,z,p,n _ _ _ hf o,A.trans ((m _).b9 (ze _))⟩
def O7{O s:aQ}{d:IV}{esz nid k:Nat}{es:List (List IV)}{e:List IV}(g:Kept O s)(o:Grow s d esz es)(hi:∀i k,d=.slice i 0 k esz->O.aP<=i)(h:∀x∈es,x.length=esz/\x.all IV.aY=true)(he:e.length=esz/\e.all IV.aY=true)(p:es.length<2147483648)(r:s.aP<=nid)(q:nid<s.aP+k):c8 ⟨s.aP+k,s.aR⟩ nid esz d (.aW [e])=zq (.slice nid 0 (es.length+1) esz,(cW d ⟨s.aP+k,s.aR⟩).put nid (.row (es++[e]).flatten)) /\ Kept O ((cW d ⟨s.aP+k,s.aR⟩).put nid (.row (es++[e]).flatten))/\Grow ((cW d ⟨s.aP+k,s.aR⟩).put nid (.row (es++[e]).flatten)) (.slice nid 0 (es.length+1) esz) esz (es++[e])/\∀i m,IV.slice nid 0 (es.length+1) esz=.slice i 0 m esz->O.aP<=i:=by have j:Grow (⟨s.aP+k,s.aR⟩:aQ) d esz es:=o.mono (zj _ _) λ_ _ _=>rfl;have f:=g.aP;refine ⟨kP j h he p,⟨?_,λi n=>?_⟩,.inr ⟨nid,by rw[zb];rfl,by rw[aV,ab rfl],by rw[bH,gf];exact q⟩,λi m e=>by cases e;omega⟩;{rw[bH,gf];exact zf f (zj _ _)};rw[aV,aa om];rcases o with ⟨rfl,_⟩|⟨id,rfl,_,_⟩;{exact g.aR i n};have:=hi id _ rfl;show (if i=id then z1 else s.aR i)=_;rw[aa om];exact g.aR i n
end Go.Id
namespace Go.Id.Md
open Go Go.Id
def ij (l:List (List Int)):IV:=.aW (l.map eW)
def I7(q:List Int):∀c∈eW q,bM 0 c:=λc hc=>by rw[eW,zg]at hc;subst hc;exact .aW _ λe he c hc=>by obtain ⟨x,_,rfl⟩:=zd.1 he;rw[Md.bu,zg]at hc;subst hc;exact .int _ _
def II(l:List (List Int)):bM 0 (ij l):=.aW _ λe he c hc=>by obtain ⟨q,_,rfl⟩:=zd.1 he;exact I7 q c hc
def Cv(O:aQ)(tp mid:Nat)(xv allv clv:IV)(P:List ba)(r:List (List Int)×bL)(v:IV)(s:aQ):Prop :=v=.tuple [ij r.1,.int .i64 0]/\∃clv',ey O s tp mid clv clv'/\cX s tp mid xv allv clv' P r.2
variable {Pr:Program} {E:Nat->IV} {O s:aQ} {tp mid f:Nat} {xv allv clv:IV} {P:List ba} {t:bL} {args:List IV} {cls:List (List Int)}
def IJ {S:Nat->Prop}{v d:IV}(h:de s S v d):de s S (.tuple [v,.int .i64 0]) (.tuple [d,.int .i64 0]):=.tK (.cons h (.cons (.aT _ (.int _ _)) .nil))
def O8(r:cX O tp mid xv allv clv P t)(h:C Pr E f args O λv s=>∃g,v=.tuple [g,.int .i64 0]/\Kept O s/\Grow s g 1 (cls.map eW)/\∀i k,g=.slice i 0 k 1->O.aP<=i):C Pr E f args O (Cv O tp mid xv allv clv P (cls,t)):=by refine DK h ?_;rintro v s ⟨g,rfl,m,n,hi⟩;have p:∀i,i<O.aP->kg g i=true:=λi j=>(by rcases n with ⟨rfl,_⟩|⟨id,rfl,_,_⟩;{rfl};have:=hi id _ rfl;simp only[kg,ah];omega);have d:Kept O (s.cz (kg g)):=⟨m.aP,λi j=>by show (if kg g i=true then s.aR i else z1)=_;rw[ab (p i j),m.aR i j]⟩;refine ⟨kg g,_,IJ (n.dJ (λx o=>(DI _ x o).1) (λid e=>by rw[e];simp[kg]) λe he c hc=>?_),rfl,clv,⟨d.aP,λi j _ _ _=>d.aR i j,.inl rfl⟩,r.mono d.aP d.aR⟩;obtain ⟨q,_,rfl⟩:=zd.1 he;exact (I7 q c hc).b9 λi h=>au h (zp _)
def Ga(g:cX O tp mid xv allv clv P t)(h:C Pr E f args O λv s=>v=.tuple [ij cls,.int .i64 0]/\Kept O s):C Pr E f args O (Cv O tp mid xv allv clv P (cls,t)):=h.mono λv s ⟨j,d⟩=>⟨j,clv,⟨d.aP,λi e _ _ _=>d.aR i e,.inl rfl⟩,g.mono d.aP d.aR⟩
def O9{zs:List Int}(h:C Pr E f args O λv s=>∃e d,v=.tuple [.aW [[e]],.int .i64 0]/\ey O s tp mid clv d/\cX s tp mid xv allv d P t/\dw s O.aP e zs/\(∀i k l,d=.slice i 0 k 1->e≠.slice i 0 l 1)/\(∀i k l,allv=.slice i 0 k 15->e≠.slice i 0 l 1)): C Pr E f args O (Cv O tp mid xv allv clv P ([zs],t)):=by refine DK h ?_;rintro v s ⟨e,d,rfl,q,r,n,g,m⟩;refine ⟨kg e,.tuple [ij [zs],.int .i64 0],IJ (.aW _ _ rfl (λi hi=>?_) λi hi j p=>?_),rfl,d,q.kill (ey.refl _ _ _ _) λi hi=>?_,r.off n.w g m⟩;{have:i=0:=(by simpa using hi);subst this;rfl};{have h0:i=0:=(by simpa using hi);subst h0;have x:j=0:=(by simpa using p);subst x;exact IG n.w};cases o:kg e i with|true=>rfl|false=>have:=(DJ n.w o).1;omega
end Go.Id.Md
namespace Go.Id.Md
open Go Go.Id
variable {O s u:aQ} {tp mid rp dm nid k:Nat} {xv allv clv clv' cv av c1 c3:IV} {P:List ba} {t t':bL} {fm:List (IV×IV)} {cs:List (List (List Int))}
def mq (q:List (List Int)):List IV:=[ij q]
def Pa(l:List (List (List Int))):∀e∈l.map mq,e.length=1/\e.all IV.aY=true:=λe he=>by obtain ⟨x,_,rfl⟩:=zd.1 he;exact ⟨rfl,rfl⟩
structure pF (s:aQ) (av c1 c3:IV) (rp dm tp mid:Nat) (fm:List (IV×IV)) (xv allv clv cv:IV) (P:List ba) (t:bL) (cs:List (List (List Int))):Prop where
 cell:s.aR rp=zq (.cells [av,c1,.ptr tp 0,c3,cv])
 map:s.aR dm=zq (.map fm)
 jA:cX s tp mid xv allv clv P t
 grow:Grow s cv 1 (cs.map mq)
 ne:∀i k m,clv=.slice i 0 k 1->cv≠.slice i 0 m 1
 na:∀i k m,allv=.slice i 0 k 15->cv≠.slice i 0 m 1
 lt:rp<s.aP/\dm<s.aP
 dt:rp≠tp/\rp≠mid/\dm≠tp/\dm≠mid
def pF.mono (h:pF s av c1 c3 rp dm tp mid fm xv allv clv cv P t cs)(d:Kept s u):pF u av c1 c3 rp dm tp mid fm xv allv clv cv P t cs where
 cell:=by rw[d.aR _ h.lt.1];exact h.cell
 map:=by rw[d.aR _ h.lt.2];exact h.map
 jA:=h.jA.mono d.aP d.aR
 grow:=h.grow.mono d.aP λid _ e=>d.aR id e
 ne:=h.ne
 na:=h.na
 lt:=⟨zi h.lt.1 d.aP,zi h.lt.2 d.aP⟩
 dt:=h.dt
def IL(h:cX s tp mid xv allv clv P t){i k:Nat}(e:clv=.slice i 0 k 1):(∃cs,s.aR i=zq (.row cs))/\i<s.aP:=by rcases h.cls with ⟨h0,_⟩|⟨j,m,d,g⟩;{rw[h0]at e;cases e};rw[m]at e;cases e;exact ⟨⟨_,d⟩,g⟩
def rC{d:IV}{esz:Nat}{es:List (List IV)}(h:Grow s d esz es){i k:Nat}(e:d=.slice i 0 k esz):(∃cs,s.aR i=zq (.row cs))/\i<s.aP:=by rcases h with ⟨h0,_⟩|⟨j,n,g,m⟩;{rw[h0]at e;cases e};rw[n]at e;cases e;exact ⟨⟨_,g⟩,m⟩
def pF.gI (h:pF s av c1 c3 rp dm tp mid fm xv allv clv cv P t cs)(g:ey s u tp mid clv clv')(q:cX u tp mid xv allv clv' P t'):pF u av c1 c3 rp dm tp mid fm xv allv clv' cv P t' cs where
 cell:=by
  rw[g.aR _ h.lt.1 h.dt.1 h.dt.2.1 λk e=>?_]
  .exact h.cell
  .have⟨⟨cs,d⟩,_⟩:=IL h.jA e;rw[h.cell] at d;cases d
 map:=by
  rw[g.aR _ h.lt.2 h.dt.2.2.1 h.dt.2.2.2 λk e=>?_]
  .exact h.map
  .have⟨⟨cs,d⟩,_⟩:=IL h.jA e;rw[h.map] at d;cases d
 jA:=q
 grow:=h.grow.mono g.aP λid o j=>by
  have⟨⟨cs,d⟩,_⟩:=rC h.grow o;exact g.aR id j (h.jA.s9 _ _ d).1 (h.jA.s9 _ _ d).2 λk e=>h.ne _ _ _ e o
 ne:=λi k m e p=>by
  have⟨_,r⟩:=rC h.grow p;rcases g.new with n|n
  .exact h.ne i k m (by rw[<- n];exact e) p
  .have:=n i k e;omega
 na:=h.na
 lt:=⟨zi h.lt.1 g.aP,zi h.lt.2 g.aP⟩
 dt:=h.dt
def VY(h:pF s av c1 c3 rp dm tp mid fm xv allv clv cv P t cs)(q:List (List Int))(M:cs.length<2147483648)(V:s.aP<=nid)(N:nid<s.aP+k): ∃y,c8 ⟨s.aP+k,s.aR⟩ nid 1 cv (.aW [[ij q]])=zq (.slice nid 0 (cs.length+1) 1,y)/\y.aP=s.aP+k/\y.aR rp=zq (.cells [av,c1,.ptr tp 0,c3,cv]) /\ pF (y.put rp (.cells [av,c1,.ptr tp 0,c3,.slice nid 0 (cs.length+1) 1])) av c1 c3 rp dm tp mid fm xv allv clv (.slice nid 0 (cs.length+1) 1) P t (cs++[q]):=by
 have F:Grow (⟨s.aP+k,s.aR⟩:aQ) cv 1 (cs.map mq):=h.grow.mono (by show s.aP<=s.aP+k;omega) λ_ _ _=>rfl;have x:=kP (nid:=nid) (e:=mq q) F (Pa _) ⟨rfl,rfl⟩ (by rw[zc];exact M);rw[zc]at x;have n:∀i,(∀k,cv≠.slice i 0 k 1)->(cW cv (⟨s.aP+k,s.aR⟩:aQ)).aR i=s.aR i:=λi hi=>by rcases F with ⟨h0,_⟩|⟨j,D,_,_⟩;{rw[h0];rfl};rw[D];show (if i=j then z1 else s.aR i)=_;rw[aa λe=>hi _ (by rw[D,e])]
 have o:∀i,(∀cs,s.aR i≠zq (.row cs))->∀k,cv≠.slice i 0 k 1:=λi hi k e=>by have⟨⟨cs,g⟩,_⟩:=rC h.grow e;exact hi _ g
 have H:=h.lt.1;have I:=h.lt.2;have U:=h.jA.lt.1;have G:=h.jA.lt.2;have kr:=n rp (o rp λcs e=>by rw[h.cell]at e;cases e);have L:=n dm (o dm λcs e=>by rw[h.map]at e;cases e);have J:=n tp (o tp λcs e=>by rw[h.jA.cell]at e;cases e);have K:=n mid (o mid λcs e=>by rw[h.jA.map]at e;cases e);have z:¬dm=rp:=λe=>by have:=h.map;rw[e,h.cell]at this;cases this
 have nm:(cs++[q]).map mq=cs.map mq++[mq q]:=by rw[z0];rfl
 have d:∀i,i≠rp->i≠nid->((((cW cv (⟨s.aP+k,s.aR⟩:aQ)).put nid (.row (cs.map mq++[mq q]).flatten))).put rp (.cells [av,c1,.ptr tp 0,c3,.slice nid 0 (cs.length+1) 1])).aR i=(cW cv (⟨s.aP+k,s.aR⟩:aQ)).aR i:=λi S Q=>by rw[aV,aa S,aV,aa Q]
 have p:((((cW cv (⟨s.aP+k,s.aR⟩:aQ)).put nid (.row (cs.map mq++[mq q]).flatten))).put rp (.cells [av,c1,.ptr tp 0,c3,.slice nid 0 (cs.length+1) 1])).aP=s.aP+k:=by rw[bH,bH,gf]
 refine ⟨_,x,by rw[bH,gf],by rw[aV,aa om,kr];exact h.cell,?_⟩;exact {cell:=(by rw[aV,ab rfl]),map:=(by rw[d _ z om,L];exact h.map),jA:={cell:=(by rw[d _ (λe=>h.dt.1 e.symm) om,J];exact h.jA.cell),all:=h.jA.all.mono (by rw[p];omega) λid r A=>(by have⟨⟨c,g⟩,_⟩:=rC h.jA.all r;rw[d _ (λe=>by rw[e,h.cell]at g;cases g) om,n id λk e=>h.na _ _ _ r e]),cls:=h.jA.cls.mono (by rw[p];omega) λid r A=>(by have⟨⟨c,g⟩,_⟩:=rC h.jA.cls r;rw[d _ (λe=>by rw[e,h.cell]at g;cases g) om,n id λk e=>h.ne _ _ _ r e]),map:=(by rw[d _ (λe=>h.dt.2.1 e.symm) om,K];exact h.jA.map),ne:=h.jA.ne,lt:=by rw[p];exact ⟨om,om⟩ },grow:=(by refine .inr ⟨nid,by rw[zc,zb];rfl,?_,by rw[p];exact N⟩;rw[aV,aa om,aV,ab rfl,nm]),ne:=λi k m e B=>(by cases B;have⟨_,g⟩:=IL h.jA e;omega),na:=λi k m e B=>(by cases B;have⟨_,g⟩:=rC h.jA.all e;omega),lt:=(by rw[p];exact ⟨om,om⟩),dt:=h.dt }
def gD (xv:IV)(P:List ba)(t:bL):IV:=.bd [xv,.aW (P.map ba.cs),.int .i64 t.h,ij t.cl,.bY (jZ t.cu)]
def oF (av c1 c3 xv:IV)(P:List ba)(t:bL)(cs:List (List (List Int))):IV:=.bd [av,c1,gD xv P t,c3,.aW (cs.map mq)]
def cX.dJ(h:cX s tp mid xv allv clv P t)(d:bM 0 xv)(m:∀y:ba,∀c∈y.cs,bM 0 c)(g:∀e∈P.map ba.cs,e.length=15)(n:(t.cu.map (·.1)).Nodup):gH s 0 (.ptr tp 0) (gD xv P t):=by refine .ptr tp 0 _ _ (zp _) (.inl h.cell) (ze _) λj o=>?_;match j,o with|0,_=>exact .aT _ d|1,_=>exact h.all.dJ g (λ_ _=>zp _) λe he c hc=>by obtain ⟨y,_,rfl⟩:=zd.1 he;exact m y c hc|2,_=>exact .aT _ (.int _ _)|3,_=>exact h.cls.dJ (λx d=>(DI _ x d).1) (λ_ _=>zp _) λe he c hc=>by obtain ⟨y,_,rfl⟩:=zd.1 he;exact I7 y c hc|4,_=>refine .map mid (jZ t.cu) (jZ t.cu) (jZ t.cu) (zp _) h.map rfl (List.Perm.refl _) (Yn n) (λi hi=>?_) λi hi=>?_;{have:(jZ t.cu).getD i (.undef,.undef)∈jZ t.cu:=eY _ hi;have⟨x,_,d⟩:=zd.1 this;rw[<- d];exact .aT _ (.str _)};have:(jZ t.cu).getD i (.undef,.undef)∈jZ t.cu:=eY _ hi;have⟨x,_,d⟩:=zd.1 this;rw[<- d];exact .aT _ (.int _ _)
def pF.dJ(h:pF s av c1 c3 rp dm tp mid fm xv allv clv cv P t cs)(ha:bM 0 av)(p:bM 0 c1)(o:bM 0 c3)(d:bM 0 xv)(i:∀y:ba,∀c∈y.cs,bM 0 c)(g:∀e∈P.map ba.cs,e.length=15)(m:(t.cu.map (·.1)).Nodup):gH s 0 (.ptr rp 0) (oF av c1 c3 xv P t cs):=by refine .ptr rp 0 _ _ (zp _) (.inl h.cell) (ze _) λj n=>?_;match j,n with|0,_=>exact .aT _ ha|1,_=>exact .aT _ p|2,_=>exact h.jA.dJ d i g m|3,_=>exact .aT _ o|4,_=>exact h.grow.dJ (λx d=>(Pa _ x d).1) (λ_ _=>zp _) λe he c hc=>by obtain ⟨y,_,rfl⟩:=zd.1 he;rw[mq,zg]at hc;subst hc;exact II y
namespace a7
def T7(a:a7)(x:br):∀(xs:List br)(t:bL),a.iH (xs++[x]) t=((a.iH xs t).1++[(a.fV x (a.iH xs t).2).1],(a.fV x (a.iH xs t).2).2):=by intro xs;induction xs with|nil=>intro t;rfl|cons y ys ih=>intro t;simp only[z4,iH,ih]
def LO(a:a7):∀(xs:List br)(t:bL),(a.iH xs t).1.length=xs.length:=by intro xs;induction xs with|nil=>intro t;rfl|cons y ys ih=>intro t;simp only[iH,zu,ih]
def Yo{a:a7}(hO:a.nF){x:br}(d:a.Has x){t:bL}(h:t.cE):(a.fV x t).2.cE:=by unfold fV;split;{rename_i e;cases d with|iU p q hp hq=>exact IF a.l hO.len _ _ (by have:=(FD hO hp hq).2.2;omega) t h|_=>simp at e};split;{rename_i e;cases d with|fR p q hp hq=>exact IF a.l hO.len _ _ (by have:=(Fg hO hp hq).2.2;omega) t h|_=>simp at e};exact h
def LP{a:a7}(hO:a.nF):∀(xs:List br),(∀x∈xs,a.Has x)->∀t:bL,t.cE->(a.iH xs t).2.cE:=by intro xs;induction xs with|nil=>intro _ t h;exact h|cons y ys ih=>intro h t e;exact ih (λx d=>h x (zo _ d)) _ (Yo hO (h y zm) e)
end a7
end Go.Id.Md
namespace Go.Id
open Go
def Gb {d:PT}{g:CT}{P:Program}{E:Nat->IV}{e id:Nat}{z:List IV}{x:IX}{fr:a8}{O:aQ}{K:IV->aQ->Prop}:ek d g P E (.kH e z x) id fr O K=fP (qF (x.ev E fr)) λn=>K (.slice id 0 n e) (O.put id (.row (rep z n))):=rfl
def FF{K:Nat->Prop}(n:Nat)(h:n<=2147483648):fP (qF (.int .i64 (n:Int))) K=K n:=by have d:(0:Int)<=n/\(n:Int)<=2147483648:=om;show fP (if 0<=(n:Int)/\(n:Int)<=2147483648 then zq ((n:Int).toNat) else z1) K=K n;rw[ab d];rfl
end Go.Id
namespace Go.Id.Md
open Go Go.Id
def bL.wid (t:bL):Prop:=∀q∈t.cl,q.length<=101
def Ey{c:Nat}{l:List Int}{t:bL}(h:t.wid)(e:l.length<=100):(gY c l t).2.wid:=λq d=>by rcases zw.1 d with d|d;{rcases zw.1 d with d|d;{exact h q d};obtain ⟨x,_,rfl⟩:=zd.1 d;simp};rw[zg.1 d,zu];omega
def LQ{c:Nat}{l:List Int}{t:bL}(h:t.wid)(d:l.length<=100):(sN c l t).2.wid :=Ey (c:=c) (l:=kY l) h (by unfold kY;rw[zc];exact d)
def KW{c:Nat}{x y w:Int}{t:bL}(h:t.wid):(sJ c x y w t).2.wid:=λq d=>by rcases zw.1 d with d|d;{exact h q d};simp only[zl,zn,aj]at d;rcases d with rfl|rfl|rfl|rfl<;>simp
def NS{c:Nat}{l:List Int}{t:bL}(h:t.wid)(d:l.length<=100):(nY c l t).2.wid:=by unfold nY;split;{exact h};split;{exact h};exact Ey (c:=c) (l:=dW l) h (by unfold dW;rw[zc];exact d)
def NT(l:List ba)(hc:l.length<=100)(b:Int)(r:aS):r.count<=100->∀t:bL,t.wid->(r.gu l b t).2.wid:=by induction r using aS.ind with|h k d xs ih=>
 intro n t i;simp only[aS.count]at n;have e:∀q:ba->Bool,(jx (bG q l) b).length<=100:=λq=>by have z:=Dq (bG q l) b;have y:=kh q l;omega
 have o:∀(xs:List aS),(∀a∈xs,∀t:bL,t.wid->(a.gu l b t).2.wid)->∀t:bL,t.wid->(aS.eQ l b xs t).2.wid:=by intro xs;induction xs with|nil=>intro _ t h;exact h|cons a xs ih2=>intro h t i;exact ih2 (λx m=>h x (zo _ m)) _ (h a zm t i)
 have p:=aS.Ez xs;have g:=o xs (λa ha=>ih a ha (by have:=aS.wE ha;omega)) t i;have j:(aS.eQ l b xs t).1.length<=100:=by rw[C6];omega
 unfold aS.gu;split;{exact NS i (e _)};split;{exact NS i (e _)};unfold oa;split;{exact LQ g j};split;{exact Ey g j};split;{split;{exact KW g};exact Ey g (by simp)};split;{exact KW g};exact LQ g (by simp)
namespace a7
variable {a:a7}
def Hc(i:Int):(a.iC i).length<=a.l.length:=by unfold iC;split;{exact uB _ _};exact Nat.zero_le _
def SA(j:Int):(a.du j).length<=a.l.length:=by unfold du;split;{split;{exact kh _ _};split;{exact kh _ _};exact zf (zy _ _) (kh _ _)};exact Nat.zero_le _
def Wid (l:List (List Int)):Prop:=l.length<=100/\∀q∈l,q.length<=101
def yY {q:List Int}(h:q.length<=101):Wid [q]:=⟨by simp,λr d=>by rw[zg.1 d];exact h⟩
def FG {l:List Int}{f:Int->List Int}(e:l.length<=100)(h:∀n,(f n).length<=101):Wid (l.map f):=⟨by rw[zc];exact e,λq d=>by obtain ⟨n,_,rfl⟩:=zd.1 d;exact h n⟩
def VZ(e:a.l.length<=100)(x:br):Wid (a.yW x):=by have up:∀l:List Int,l.length<=a.l.length->(dW l).length<=101:=λl h=>(by unfold dW;rw[zc];omega);unfold yW;split;{exact yY (by simp[eZ])};split;{exact FG (zf (Dq _ _) (zf (kh _ _) e)) λn=>by simp[eZ]};split;{exact yY (by simp[eZ])};split;{exact yY (up _ (Hc _))};unfold sT;have d:=SA (a:=a) x.p;split;{exact yY (up _ d)};split;{exact FG om λn=>up _ (Hc n)};split;{exact FG (zf (zy _ _) om) λn=>up _ (zf (zy _ _) (Hc n))};exact FG om λn=>by simp[eZ]
variable (hO:nF a)
include hO
theorem Yp{x:br}(d:a.Has x){t:bL}(h:t.wid):Wid (a.fV x t).1/\(a.fV x t).2.wid:=by unfold fV;split;{rename_i e;refine ⟨yY (by simp[eZ]),?_⟩;cases d with|iU p q hp hq=>exact NT a.l hO.len _ _ (by have:=(FD hO hp hq).2.2;omega) t h|_=>simp at e};split;{rename_i e;refine ⟨yY (by simp[eZ]),?_⟩;cases d with|fR p q hp hq=>exact NT a.l hO.len _ _ (by have:=(Fg hO hp hq).2.2;omega) t h|_=>simp at e};exact ⟨VZ hO.len x,h⟩
theorem V0:∀(xs:List br),(∀x∈xs,a.Has x)->∀t:bL,t.wid->(∀q∈(a.iH xs t).1,Wid q)/\(a.iH xs t).2.wid:=by intro xs;induction xs with|nil=>intro _ t h;exact ⟨λq d=>(by cases d),h⟩|cons y ys ih=>intro h t i;have g:=Yp hO (h y zm) i;have f:=ih (λx e=>h x (zo _ e)) _ g.2;refine ⟨λq d=>?_,f.2⟩;rcases zl.1 d with rfl|d;{exact g.1};exact f.1 q d
end a7
structure sh (c n:Nat) (t:bL) (r:Int×bL):Prop where
 le:t.h<=r.2.h/\r.2.h<=t.h+n
 ok:r.2.OK c/\bT (c+r.2.h) r.1
structure P8 (c n:Nat) (t:bL) (r:List Int×bL):Prop where
 le:t.h<=r.2.h/\r.2.h<=t.h+n
 ok:r.2.OK c/\∀x∈r.1,bT (c+r.2.h) x
variable {c:Nat} {t:bL}
theorem Pc (c:Nat)(t:bL):bT (c+(t.h+1)) ((c+(t.h+1):Nat):Int):=⟨om,om,om⟩
theorem NY(d:t.OK c){g:List (List Int)}(hc:∀q∈g,∀x∈q,bT (c+(t.h+1)) x)(m:nf c ⟨t.h+1,t.cl++g,t.cu⟩):(⟨t.h+1,t.cl++g,t.cu⟩:bL).OK c :=⟨λq j x i=>(zw.1 j).elim (λh=>(d.cl q h x i).mono (by show c+t.h<=c+(t.h+1);omega)) λh=>hc q h x i,λe he=>(d.st e he).mono (by show c+t.h<=c+(t.h+1);omega),d.kn,m⟩
theorem Em(n:t.OK c){l:List Int}(j:∀x∈l,bT (c+t.h) x):sh c 1 t (gY c l t):=by have m:=Pc c t;refine ⟨⟨z5 _,ze _⟩,?_,m⟩;have e:(gY c l t).2=⟨t.h+1,t.cl++((l.map λx=>[-x,((c+(t.h+1):Nat):Int)])++[-((c+(t.h+1):Nat):Int)::l]),t.cu⟩:=(by unfold gY;rw[qk]);have i:=Ua n.det j;rw[e]at i ⊢;refine NY n (λq g=>?_) i;rcases zw.1 g with g|g;{obtain ⟨y,o,rfl⟩:=zd.1 g;intro x d;simp only[zl,zn,aj]at d;rcases d with rfl|rfl;{exact ((j y o).mono om).neg};exact m};rw[zg]at g;subst g;intro x d;rcases zl.1 d with rfl|d;{exact m.neg};exact (j x d).mono om
theorem KX(g:t.OK c){l:List Int}(i:∀x∈l,bT (c+t.h) x):sh c 1 t (sN c l t):=by have h:=Em (c:=c) g (l:=kY l) λx e=>(by obtain ⟨y,d,rfl⟩:=zd.1 e;exact (i y d).neg);exact ⟨h.le,h.ok.1,h.ok.2.neg⟩
theorem Km(m:t.OK c){x y w:Int}(e:bT (c+t.h) x)(d:bT (c+t.h) y)(g:bT (c+t.h) w):sh c 1 t (sJ c x y w t):=by have n:=Pc c t;refine ⟨⟨z5 _,ze _⟩,NY m (λq j=>?_) (Uc m.det e d g),n⟩;have e:=e.mono (W:=c+(t.h+1)) om;have d:=d.mono (W:=c+(t.h+1)) om;have g:=g.mono (W:=c+(t.h+1)) om;have A:=e.neg;have r:=d.neg;have p:=g.neg;have o:=n.neg;simp only[zl,zn,aj]at j;rcases j with rfl|rfl|rfl|rfl<;>intro z i<;>simp only[zl,zn,aj]at i<;>rcases i with rfl|rfl|rfl<;>assumption
theorem H8(d:t.OK c){l:List Int}(i:∀n∈l,0<=n/\n<(c:Int)):sh c 1 t (nY c l t):=by have j:∀n∈l,bT (c+t.h) (n+1):=λn g=>⟨by have:=i n g;omega,by have:=i n g;omega,by have:=i n g;omega⟩;unfold nY;split;{rename_i q;obtain ⟨n,rfl⟩:=List.length_eq_one_iff.1 q;exact ⟨⟨ze _,z5 _⟩,d,j n zm⟩};split;{rename_i x hf;exact ⟨⟨ze _,z5 _⟩,d,d.st _ (V7 hf)⟩};rename_i hf;have h:=Em (c:=c) d (l:=dW l) λx p=>(by obtain ⟨y,o,rfl⟩:=zd.1 p;exact j y o);refine ⟨h.le,⟨h.ok.1.cl,λe he=>?_,?_,h.ok.1.det⟩,h.ok.2⟩;{rcases zw.1 he with he|he;{exact h.ok.1.st e he};rw[zg.1 he];exact h.ok.2};show ((t.cu++[(kJ l,(gY c (dW l) t).1)]).map (·.1)).Nodup;rw[z0,qb,List.nodup_append];refine ⟨d.kn,(List.nodup_cons.2 ⟨zn,.nil⟩),λa ha b m e=>?_⟩;rw[zg]at m;rw[e,m]at ha;exact Ud hf ha
theorem MR(l:List ba)(b:Int)(p:aS->Prop):∀xs:List aS,(∀a∈xs,p a)->(∀a∈xs,p a->∀t:bL,t.OK l.length->sh l.length a.count t (a.gu l b t))->∀t:bL,t.OK l.length->P8 l.length (aS.counts xs) t (aS.eQ l b xs t):=by intro xs;induction xs with|nil=>intro _ _ t e;exact ⟨⟨ze _,zj _ _⟩,e,λ_ h=>by cases h⟩|cons a xs ih=>intro i h t e;have g:=h a zm (i a zm) t e;have f:=ih (λa ha=>i a (zo _ ha)) (λa ha=>h a (zo _ ha)) _ g.ok.1;simp only[aS.counts,aS.eQ];refine ⟨⟨zf g.le.1 f.le.1,by have:=g.le.2;have:=f.le.2;show (aS.eQ l b xs (a.gu l b t).2).2.h<=_;omega⟩,f.ok.1,λx d=>?_⟩;rcases zl.1 d with rfl|d;{exact g.ok.2.mono (by have:=f.le.1;show l.length+_<=l.length+(aS.eQ l b xs (a.gu l b t).2).2.h;omega)};exact f.ok.2 x d
theorem uH(l:List ba)(b:Int)(r:aS):r.eS 1 false=true\/r.eS 1 true=true->∀t:bL,t.OK l.length->sh l.length r.count t (r.gu l b t):=by induction r using aS.ind with|h k d xs ih=>intro hf t n;have⟨A,z⟩:=HH hf;have o:∀ {r:Int×bL},sh l.length 1 t r->sh l.length (aS.counts xs+1) t r:=λh=>⟨⟨h.le.1,by have:=h.le.2;omega⟩,h.ok⟩;have g:=MR l b (λa=>a.eS 1 false=true\/a.eS 1 true=true) xs z (λa ha p=>ih a ha p) t n;have q:=C6 l b xs t;unfold aS.gu;simp only[aS.count];have j:∀i,i<xs.length->bT (l.length+(aS.eQ l b xs t).2.h) ((aS.eQ l b xs t).1.getD i 0):=λi hi=>(by rw[<- q]at hi;refine g.ok.2 _ ?_;rw[za,zh hi];exact zr hi);have e:∀ {r:Int×bL},sh l.length 1 (aS.eQ l b xs t).2 r->sh l.length (aS.counts xs+1) t r:=λh=>⟨⟨zf g.le.1 h.le.1,by have:=h.le.2;have:=g.le.2;omega⟩,h.ok⟩;rcases KV A with ⟨rfl,_⟩|rfl|rfl|⟨rfl,y⟩|⟨rfl,y⟩|rfl|rfl;{exact o (H8 n F9)};{exact e (KX g.ok.1 g.ok.2)};{exact e (Em g.ok.1 g.ok.2)};{rw[aa (by decide),aa (by decide)];unfold oa;rw[aa (by decide),aa (by decide),ab rfl];split;{exact e (Km g.ok.1 (j 0 om) (j 2 om) (j 1 om))};refine e (Em g.ok.1 λx m=>?_);simp only[zl,zn,aj]at m;rcases m with rfl|rfl;{exact j 0 om};exact (j 1 om).neg};{rw[aa (by decide),aa (by decide)];unfold oa;rw[aa (by decide),aa (by decide),aa (by decide)];split;{exact e (Km g.ok.1 (j 2 om) (j 0 om) (j 1 om))};refine e (KX g.ok.1 λx m=>?_);simp only[zl,zn,aj]at m;rcases m with rfl|rfl;{exact j 0 om};exact (j 1 om).neg};{exact o (H8 n F9)};exact o (H8 n F9)
theorem LW(l:List ba)(b:Int)(xs:List aS)(h:∀a∈xs,a.eS 1 false=true\/a.eS 1 true=true)(t:bL)(e:t.OK l.length):P8 l.length (aS.counts xs) t (aS.eQ l b xs t):=MR l b _ xs h (λa _ d=>uH l b a d) t e
end Go.Id.Md
namespace Go.Id.Md
open Go Go.Id
namespace a7
variable {a:a7}
def RgL (V:Nat)(l:List (List Int)):Prop:=∀q∈l,∀y∈q,bT V y
variable {V:Nat}
def RgL.mono{W:Nat}{l:List (List Int)}(h:RgL V l)(e:V<=W):RgL W l:=λq g y d=>(h q g y d).mono e
def GC{n:Int}(h:a.is n=true)(d:a.l.length<=V):bT V (n+1):=by unfold is at h;simp only[zk,ah]at h;exact ⟨om,om,om⟩
def GD{d:List Int}(h:∀n∈d,a.is n=true)(i:a.l.length<=V):∀y∈dW d,bT V y:=λy e=>by obtain ⟨n,g,rfl⟩:=zd.1 e;exact GC (h n g) i
def GE{d:List Int}(h:∀n∈d,a.is n=true)(i:a.l.length<=V):∀y∈eZ d,bT V y:=λy e=>by obtain ⟨n,g,rfl⟩:=zd.1 e;exact (GC (h n g) i).neg
def Yu{x:br}(F:a.Has x)(H:x.kind≠2)(G:x.kind≠3)(g:a.l.length<=V):RgL V (a.yW x):=by have d:∀n:Nat,n<a.l.length->a.is n=true:=λn e=>(by rw[a7.AP];exact ao e);have one:∀ {l:List Int},(∀y∈l,bT V y)->RgL V [l]:=λh q B=>(by rw[zg]at B;rw[B];exact h);cases F with|dE p hp _=>exact one (GE (λn e=>by rw[zg]at e;rw[e];exact d p hp) g)|iU p q _ _=>exact au rfl H|fR p q _ _=>exact au rfl G|over p q hp B=>intro r o;obtain ⟨n,e,rfl⟩:=zd.1 o;obtain ⟨m,rfl,D,_⟩:=tk.1 (aD.1 e).1;refine GE (λk z=>?_) g;simp only[zl,zn,aj]at z;rcases z with rfl|rfl;{exact d p hp};exact d m D|twin p q D h4 _=>refine one (GE (λk z=>?_) g);simp only[zl,zn,aj]at z;rcases z with rfl|rfl;{exact d p om};exact d q h4|aT i hi _=>exact one (GD wO g)|oV j hj _=>show RgL V (a.sT j);unfold sT;split;{exact one (GD EP g)};split;{intro r o;obtain ⟨n,_,rfl⟩:=zd.1 o;exact GD wO g};split;{intro r o;obtain ⟨n,_,rfl⟩:=zd.1 o;exact GD (λm A=>wO m (a.MM A).1) g};intro r o;obtain ⟨n,e,rfl⟩:=zd.1 o;exact GE (λm A=>by rw[zg]at A;rw[A];exact EP n e) g
variable (hO:nF a)
include hO
end a7
namespace a7
variable {a:a7} (hO:nF a)
include hO
theorem LX{x:br}(j:a.Has x){t:bL}(o:t.OK a.l.length):(t.h<=(a.fV x t).2.h/\(a.fV x t).2.h<=t.h+24)/\(a.fV x t).2.OK a.l.length/\RgL (a.l.length+(a.fV x t).2.h) (a.fV x t).1:=by have g:∀ {V:Nat}{y z:Int},bT V y->bT V z->RgL V [[y,z]]:=λA i q d w m=>(by rw[zg]at d;rw[d]at m;simp only[zl,zn,aj]at m;rcases m with rfl|rfl<;>assumption);by_cases i:x.kind=2;{cases j with|iU p q hp d=>have⟨f,_,n⟩:=FD hO hp d;have h:=uH a.l (-1) _ (.inl f) t o;exact ⟨⟨h.le.1,zf h.le.2 (qa n _)⟩,h.ok.1,g (GC (by rw[a7.AP];exact ao hp) (zj _ _)).neg h.ok.2⟩|_=>simp at i};by_cases r:x.kind=3;{cases j with|fR p q hp d=>have⟨f,_,n⟩:=Fg hO hp d;have h:=uH a.l p _ (.inl f) t o;exact ⟨⟨h.le.1,zf h.le.2 (qa n _)⟩,h.ok.1,g (GC (by rw[a7.AP];exact ao hp) (zj _ _)).neg h.ok.2.neg⟩|_=>simp at r};have e:a.fV x t=(a.yW x,t):=(by unfold fV;rw[aa i,aa r]);rw[e];exact ⟨⟨ze _,zj _ _⟩,o,Yu j i r (zj _ _)⟩
theorem KY:∀(xs:List br),(∀x∈xs,a.Has x)->∀t:bL,t.OK a.l.length -> (t.h<=(a.iH xs t).2.h/\(a.iH xs t).2.h<=t.h+24*xs.length)/\(a.iH xs t).2.OK a.l.length/\∀q∈(a.iH xs t).1,RgL (a.l.length+(a.iH xs t).2.h) q:=by intro xs;induction xs with|nil=>intro _ t e;exact ⟨⟨ze _,zj _ _⟩,e,λq d=>by cases d⟩|cons y ys ih=>intro h t e;have⟨⟨m,r⟩,j,i⟩:=LX hO (h y zm) e;have⟨⟨p,z⟩,o,n⟩:=ih (λx g=>h x (zo _ g)) _ j;refine ⟨⟨zf m p,by show (a.iH ys (a.fV y t).2).2.h<=_;rw[zu];omega⟩,o,λq d=>?_⟩;rcases zl.1 d with rfl|d;{exact i.mono (by show _<=a.l.length+(a.iH ys (a.fV y t).2).2.h;omega)};exact n q d
end a7
variable {O s u:aQ} {lo lo' nid k:Nat} {v w c:IV} {L A B:List (List Int)} {cs as' bs:List IV} {q:List Int}
theorem C8{e:Type}(A B:List e)(k:Nat)(d:e):(A++B).getD k d=if k<A.length then A.getD k d else B.getD (k-A.length) d:=by simp only[za,List.getElem?_append];split<;>rfl
structure ky (s:aQ) (lo:Nat) (cs:List IV) (L:List (List Int)):Prop where
 len:cs.length=L.length
 row:∀k,k<L.length->dw s lo (cs.getD k .undef) (L.getD k [])
 ne:∀k k' i m m',k<L.length->k'<L.length->k≠k'->cs.getD k .undef=.slice i 0 m 1->cs.getD k' .undef≠.slice i 0 m' 1
def jN(s:aQ)(lo:Nat)(v:IV)(L:List (List Int)):Prop :=(v=.bc/\L=[])\/∃j cs,lo<=j/\j<s.aP/\v=.slice j 0 L.length 1/\s.aR j=zq (.row cs)/\ky s lo cs L/\∀k m,k<L.length->cs.getD k .undef≠.slice j 0 m 1
theorem HI(h:dw s lo v q)(g:s.aP<=u.aP)(e:∀i m,v=.slice i 0 m 1->i<s.aP->u.aR i=s.aR i):dw u lo v q:=by rcases h with h|⟨id,n,d,rfl,j⟩;{exact .inl h};exact .inr ⟨id,n,zi d g,rfl,by rw[e id _ rfl d];exact j⟩
theorem Dr(h:dw s lo v q){i m:Nat}(e:v=.slice i 0 m 1):lo<=i/\i<s.aP:=by rcases h with ⟨rfl,_⟩|⟨id,g,d,rfl,j⟩;{cases e};cases e;exact ⟨g,d⟩
theorem ky.aT(h:ky s lo cs L)(j:s.aP<=u.aP)(g:∀k i m,k<L.length->cs.getD k .undef=.slice i 0 m 1->i<s.aP->u.aR i=s.aR i):ky u lo cs L :=⟨h.len,λk d=>HI (h.row k d) j λi m e hi=>g k i m d e hi,h.ne⟩
theorem ky.low (h:ky s lo cs L)(d:lo'<=lo):ky s lo' cs L:=⟨h.len,λk e=>(h.row k e).low d,h.ne⟩
theorem ky.app(h:ky s lo as' A)(g:ky s lo bs B)(F:∀k n i m d,k<A.length->n<B.length->as'.getD k .undef=.slice i 0 m 1->bs.getD n .undef≠.slice i 0 d 1):ky s lo (as'++bs) (A++B):=by have D:=h.len;have G:=g.len;refine ⟨by rw[zb,zb,D,G],λk z=>?_,λk n i m d z y r e j=>?_⟩;{rw[zb]at z;rw[C8,C8,D];split;{rename_i x;exact h.row k x};exact g.row _ om};rw[zb]at z y;rw[C8,D]at e j;split at e<;>split at j;{rename_i p o;exact h.ne k n i m d p o r e j};{rename_i p o;exact F k _ i m d p om e j};{rename_i p o;exact F n _ i d m o om j e};exact g.ne _ _ i m d om om om e j
theorem ky.one(h:dw s lo c q):ky s lo [c] [q]:=⟨rfl,λk e=>by have:k=0:=(by simpa using e);subst this;exact h,λk g i m n e d j=>by have:k=0:=(by simpa using e);have:g=0:=(by simpa using d);omega⟩
theorem ER(h:dw s lo v q):v.aY=true:=by rcases h with ⟨rfl,_⟩|⟨_,_,_,rfl,_⟩<;>rfl
theorem ky.Jv(h:ky s lo cs L):cs.all IV.aY=true:=by rw[zv];intro x e;obtain ⟨k,d,rfl⟩:=List.mem_iff_getElem.1 e;have:=h.row k (by rw[<- h.len];exact d);rw[za,zh d]at this;exact ER this
theorem jN.mono(h:jN s lo v L)(g:s.aP<=u.aP)(d:∀i,lo<=i->i<s.aP->u.aR i=s.aR i):jN u lo v L:=by rcases h with h|⟨j,cs,p,o,rfl,y,n,x⟩;{exact .inl h};refine .inr ⟨j,cs,p,zi o g,rfl,by rw[d j p o];exact y,n.aT g λk i m r e hi=>d i (Dr (n.row k r) e).1 hi,x⟩
theorem jN.kept (h:jN s lo v L)(d:Kept s u):jN u lo v L:=h.mono d.aP λi _ hi=>d.aR i hi
theorem jN.lw8{S:Nat->Prop}(h:jN s lo v L)(e:∀i,lo<=i->¬S i):de s S v (ij L):=by rcases h with ⟨rfl,rfl⟩|⟨j,cs,n,x,rfl,m,g,r⟩;{exact .jr};refine .slice j 0 L.length 1 cs (L.map eW) (e j n) (.inr m) (by rw[zc]) (by rw[g.len];omega) (λi hi=>?_) λi hi k p=>?_;{simp[za,hi,eW]};have d:k=0:=om;subst d;have o:((L.map eW).getD i []).getD 0 .undef=.aW ((L.getD i []).map Md.bu):=(by simp[za,hi,eW]);rw[o,Nat.zero_add,Nat.mul_one,Nat.add_zero];exact (g.row i hi).w.dJ e
theorem jN.dJ (h:jN s lo v L):gH s 0 v (ij L):=h.lw8 λ_ _=>zp _
def GT (O:aQ)(L:List (List Int))(v:IV)(s:aQ):Prop:=Kept O s/\jN s O.aP v L
theorem NZ(J:Kept O s)(h:jN s O.aP v L)(D:Kept ⟨s.aP+1,s.aR⟩ u)(hc:dw u (s.aP+1) c q)(hn:L.length<2147483648): ∃S,c8 u s.aP 1 v (.aW [[c]])=zq (.slice s.aP 0 (L.length+1) 1,S)/\S.aP=u.aP/\Kept O S/\jN S O.aP (.slice s.aP 0 (L.length+1) 1) (L++[q]):=by have o:=D.low;have X:s.aP+1<=u.aP:=D.aP;have y:=J.aP;have x:=ER hc;have n:=λi m e=>Dr hc (i:=i) (m:=m) e;rcases h with ⟨rfl,rfl⟩|⟨j,cs,h1,h2,rfl,Z,F,Y⟩;{refine ⟨u.put s.aP (.row [c]),?_,rfl,⟨by rw[bH];omega,λi hi=>by rw[aV,aa om,o.aR i om,J.aR i hi]⟩,?_⟩;{simp[c8,dO,x]};refine .inr ⟨s.aP,[c],y,by rw[bH];omega,rfl,by rw[aV,ab rfl],ky.one (HI (hc.low om) (by rw[bH];exact ze _) λi m e _=>by rw[aV,aa (by have:=n i m e;omega)]),λk m d e=>?_⟩;have:k=0:=(by simpa using d);subst this;have:=n _ _ e;omega};have W:u.aR j=zq (.row cs):=(by rw[o.aR j h2];exact Z);have p:=F.len;have g:∀k i m,k<L.length->cs.getD k .undef=.slice i 0 m 1->i<s.aP/\i≠j:=λk i m d e=>⟨(Dr (F.row k d) e).2,λM=>Y k m d (by rw[e,M])⟩;refine ⟨(u.kill j).put s.aP (.row (cs++[c])),?_,rfl,⟨by rw[bH];show O.aP<=u.aP;omega,λi hi=>?_⟩,?_⟩;{have I:=F.Jv;simp[c8,dO,x,W,p,I];omega};{have N:(u.kill j).aR i=u.aR i:=aa om;rw[aV,aa om,N,o.aR i om,J.aR i hi]};have Q:∀i,i≠j->i≠s.aP->((u.kill j).put s.aP (.row (cs++[c]))).aR i=u.aR i:=λi K G=>(by have N:(u.kill j).aR i=u.aR i:=aa K;rw[aV,aa G,N]);refine .inr ⟨s.aP,cs++[c],y,by rw[bH];show s.aP<u.aP;omega,by rw[zb];rfl,by rw[aV,ab rfl],ky.app (F.aT (by rw[bH];show s.aP<=u.aP;omega) λk i m d e hi=>?_) (ky.one (HI (hc.low om) (by rw[bH];exact ze _) λi m e _=>?_)) (λk V i m U d z e M=>?_),λk m d e=>?_⟩;{have⟨K,G⟩:=g k i m d e;rw[Q i G om,o.aR i hi]};{have:=n i m e;exact Q i om om};{have r:V=0:=(by simpa using z);subst r;have K:=(g k i m d e).1;have G:=n i U M;omega};rw[zb,zx]at d;rw[C8,p]at e;split at e;{rename_i H;have:=(g k _ m H e).1;omega};have r:k-L.length=0:=om;rw[r]at e;have:=n _ _ e;omega
theorem kp4{m:Nat}(hk:Kept O s)(hA:jN s O.aP v A)(N:Kept ⟨s.aP+m,s.aR⟩ u)(hB:jN u (s.aP+m) w B)(h0:s.aP<=nid)(h1:nid<s.aP+m\/u.aP<=nid)(h2:nid<u.aP+k)(hn:A.length+B.length<2147483648): ∃v' S,c8 ⟨u.aP+k,u.aR⟩ nid 1 v w=zq (v',S)/\S.aP=u.aP+k/\Kept O S/\jN S O.aP v' (A++B):=by
 have n:Kept s u:=N.low;have ac:=n.aP;have ad:=hk.aP;have F:jN u O.aP v A:=hA.kept n;have K:Kept O u:=hk.trans n;have up:∀ {lo v L},jN u lo v L->jN ⟨u.aP+k,u.aR⟩ lo v L:=λh=>h.mono (zj _ _) λ_ _ _=>rfl;have r:B=[]->dO ⟨u.aP+k,u.aR⟩ 1 w=zq (0,[]):=λe=>by subst e;rcases hB with ⟨rfl,_⟩|⟨j,cs,_,_,rfl,Y,_⟩;{rfl};simp[dO,Y]
 by_cases g:B=[];{refine ⟨v,⟨u.aP+k,u.aR⟩,?_,rfl,K.up k,by rw[g,List.append_nil];exact up F⟩;unfold c8;rw[r g];rcases F with ⟨rfl,_⟩|⟨j,cs,_,_,rfl,Y,_⟩;{simp};simp[Y]};rcases hB with ⟨_,e⟩|⟨j',bs,b1,b2,rfl,b4,G,b6⟩;{exact au e g};have V:=G.len;have ak:0<B.length:=List.length_pos_iff.2 g;have x:dO ⟨u.aP+k,u.aR⟩ 1 (.slice j' 0 B.length 1)=zq (B.length,bs):=by simp[dO,b4,V];exact List.take_of_length_le om
 have y:=G.Jv;have o:∀k i I,k<B.length->bs.getD k .undef=.slice i 0 I 1->s.aP+m<=i/\i<u.aP:=λk i m d e=>Dr (G.row k d) e;have ag:B.length≠0:=om;rcases hA with ⟨rfl,rfl⟩|⟨j,cs,a1,a2,rfl,a4,H,a6⟩;{refine ⟨.slice nid 0 B.length 1,(⟨u.aP+k,u.aR⟩:aQ).put nid (.row bs),?_,rfl,⟨by rw[bH];show O.aP<=u.aP+k;omega,λi hi=>by rw[aV,aa om];exact K.aR i hi⟩,?_⟩;{unfold c8;rw[x];simp[y,g];omega};rw[List.nil_append];refine .inr ⟨nid,bs,om,by rw[bH];exact h2,rfl,by rw[aV,ab rfl],(G.low (show O.aP<=s.aP+m by omega)).aT (by rw[bH];exact zj _ _) λk i m d e hi=>by rw[aV,aa (by have:=o k i m d e;omega)],λk m d e=>?_⟩;have:=o k _ m d e;omega};have D:=H.len;have Q:u.aR j=zq (.row cs):=by rw[n.aR j a2];exact a4
 have U:=H.Jv;have p:∀k i m,k<A.length->cs.getD k .undef=.slice i 0 m 1->i<s.aP/\i≠j:=λk i m d e=>⟨(Dr (H.row k d) e).2,λZ=>a6 k m d (by rw[e,Z])⟩;have J:∀i,i≠j->i≠nid->(((⟨u.aP+k,u.aR⟩:aQ).kill j).put nid (.row (cs++bs))).aR i=u.aR i:=λi g1 g2=>by have e1:((⟨u.aP+k,u.aR⟩:aQ).kill j).aR i=u.aR i:=aa g1;rw[aV,aa g2,e1]
 refine ⟨.slice nid 0 (A.length+B.length) 1,((⟨u.aP+k,u.aR⟩:aQ).kill j).put nid (.row (cs++bs)),?_,rfl,⟨by rw[bH];show O.aP<=u.aP+k;omega,λi hi=>?_⟩,?_⟩;{unfold c8;rw[x];simp[y,g,Q,D,U];omega};{rw[J i om om];exact K.aR i hi};have X:ky (((⟨u.aP+k,u.aR⟩:aQ).kill j).put nid (.row (cs++bs))) O.aP cs A:=H.aT (by rw[bH];show s.aP<=u.aP+k;omega) λk i m d e hi=>by have:=p k i m d e;rw[J i this.2 om,n.aR i hi]
 have W:ky (((⟨u.aP+k,u.aR⟩:aQ).kill j).put nid (.row (cs++bs))) O.aP bs B:=(G.low (show O.aP<=s.aP+m by omega)).aT (by rw[bH];show u.aP<=u.aP+k;omega) λk i m d e hi=>by have:=o k i m d e;exact J i om om
 refine .inr ⟨nid,cs++bs,om,by rw[bH];exact h2,by rw[zb],by rw[aV,ab rfl],X.app W λk k' i m I d z e Z=>?_,λk m d e=>?_⟩;{have g1:=(p k i m d e).1;have g2:=o k' i I z Z;omega};rw[zb]at d;rw[C8,D]at e;split at e;{rename_i M;have:=(p k _ m M e).1;omega};have:=o _ _ m om e;omega
end Go.Id.Md
namespace Go.Id.Md
open Go Go.Id
namespace a7
end a7
variable {i:Nat}
def Ds{e:Type}{l:List e}{d:e}(h:i<l.length):l.getD i d∈l:=by rw[za,zh h];exact zr h
def Yv{l:List Int}{k:Nat}(h:k<l.length)(x:Int):cO (l.map bV) k [.int .i64 x]=(l.set k x).map bV:=by unfold cO;rw[List.set_eq_take_append_cons_drop,ab h,z0,z6,List.map_take,List.map_drop,qk];rfl
variable {n p k:Nat} {F:List (List Int)} {tr:List bE}
def bW (l:Int):Nat:=l.natAbs-1
def oz {l:Int}(h:bT n l):bW l<n:=by unfold bW;have:=h.1;have:=h.2;omega
def pJ (l:Int):Int:=if l<0 then -1 else 1
def jQ (tr:List bE)(v:Nat):Option bE:=tr.find? λe=>bW e.lit==v
def eV(tr:List bE)(v:Nat):List IV:=match jQ tr v with|some e=>[.int .i64 (pJ e.lit),.int .i64 e.dK,.int .i64 e.iP]|none=>[.int .i64 0,.int .i64 (-1),.int .i64 (-1)]
def Cx (tr:List bE)(v:Nat):Int:=match jQ tr v with|some e=>e.dK|none=>-1
def D9 (tr:List bE)(v:Nat):Int:=match jQ tr v with|some e=>e.iP|none=>-1
def oj (tr:List bE)(v:Nat):Int:=match jQ tr v with|some e=>pJ e.lit|none=>0
def nG(tr:List bE)(v:Nat):eV tr v=[.int .i64 (oj tr v),.int .i64 (Cx tr v),.int .i64 (D9 tr v)]:=by unfold eV oj Cx D9;cases jQ tr v<;>rfl
def cH (tr:List bE)(l:Int):Int:=if l<0 then -(oj tr (bW l)) else oj tr (bW l)
def P9(tr:List bE)(v:Nat):-1<=oj tr v/\oj tr v<=1:=by unfold oj pJ;split;{split<;>omega};omega
def j5 (tr:List bE)(k:Nat):List Int:=(z2 k).map λj=>((tr.countP λe=>decide (e.dK<=j):Nat):Int)
def jY (tr:List bE):List Int:=tr.map λe=>e.lit
def eU (n:Nat)(tr:List bE)(k:Nat):List IV:=[.aW ((z2 n).map (eV tr)),.aW ((jY tr).map Md.bu),.aW ((j5 tr k).map Md.bu)]
variable {d:bE}
def N0{v:Nat}(h:jQ tr v=zq d):∃j:Nat,tr[j]? = zq d/\bW d.lit=v:=by have g:=List.find?_some h;have⟨j,e⟩:=zt.1 (List.mem_of_find?_eq_some h);exact ⟨j,e,by simpa using g⟩
def N1{v:Nat}(h:jQ tr v=z1){e:bE}(he:e∈tr):bW e.lit≠v:=by have:=qd.1 h e he;simpa using this
def dz.kn(h:dz n p F tr k)(he:tr[i]? = zq d):jQ tr (bW d.lit)=zq d:=by cases g:jQ tr (bW d.lit)with|none=>exact au rfl (N1 g (List.mem_of_getElem? he))|some j=>have⟨e,hi,m⟩:=N0 g;have r:=(h.dU i d he).1;have o:=(h.dU e j hi).1;unfold bW at m;have:=h.one e i j d hi he om;subst this;rw[hi]at he;exact he
def Yw {l:Int}:(if l<0 then -pJ l else pJ l)=1:=by unfold pJ;split<;>omega
def dz.Cy(h:dz n p F tr k){l:Int}(m:bT n l):cH tr l=1↔da tr tr.length l:=by constructor;{intro d;unfold cH oj at d;cases g:jQ tr (bW l)with|none=>rw[g]at d;simp at d|some e=>rw[g]at d;have⟨j,i,he⟩:=N0 g;have r:=(h.dU j e i).1;unfold bW at he;refine ⟨j,iA i,e,i,?_⟩;have o:=m.1;unfold pJ at d;simp only at d;split at d<;>split at d<;>omega};rintro ⟨j,_,e,he,rfl⟩;unfold cH oj;rw[h.kn he];exact Yw
def Fh{l:Int}(h:l≠0):cH tr (-l)=-cH tr l:=by unfold cH;have e:bW (-l)=bW l:=(by unfold bW;omega);rw[e];by_cases h0:l<0;{rw[aa om,ab h0];omega};rw[ab om,aa h0]
def dz.Cz(h:dz n p F tr k){l:Int}(d:bT n l):cH tr l=-1↔da tr tr.length (-l):=by rw[<- h.Cy d.neg,Fh d.1];omega
def Pd(tr:List bE)(l:Int):-1<=cH tr l/\cH tr l<=1:=by have:=P9 tr (bW l);unfold cH;split<;>omega
def dz.ui(h:dz n p F tr k){l:Int}(d:bT n l):cH tr l=0↔¬da tr tr.length l/\¬da tr tr.length (-l):=by rw[<- h.Cy d,<- h.Cz d];have:=Pd tr l;omega
def Qa{v:Nat}:oj tr v=0↔jQ tr v=z1:=by unfold oj;cases jQ tr v with|none=>simp|some e=>simp only[reduceCtorEq,iff_false];unfold pJ;split<;>omega
def I8{l:Int}:cH tr l=0↔jQ tr (bW l)=z1:=by rw[<- Qa];unfold cH;split<;>omega
def Pe{v:Nat}:jQ (tr++[d]) v=(jQ tr v).or (if bW d.lit=v then zq d else z1):=by unfold jQ;rw[z3];congr 1;by_cases h:bW d.lit=v;{rw[ab h];simp[h]};rw[aa h];simp[h]
def jw2{d:bE}(h0:jQ tr (bW d.lit)=z1):(z2 n).map (eV (tr++[d]))=((z2 n).map (eV tr)).set (bW d.lit) [.int .i64 (pJ d.lit),.int .i64 d.dK,.int .i64 d.iP]:=by refine qj λv=>?_;rw[qi];by_cases g:v<n;{by_cases e:bW d.lit=v;{subst e;simp[g,eV,Pe,h0]};rw[aa e];simp[g,eV,Pe,e]};by_cases e:bW d.lit=v;{subst e;simp[g]};rw[aa e];simp[g]
def Yx{A B:List bE}{q:bE->Bool}(h:q d=false):(A++d::B).find? q=(A++B).find? q:=by rw[z3,z3,List.find?_cons,h]
def jw3{A B:List bE}(h0:∀e∈A++B,bW e.lit≠bW d.lit):(z2 n).map (eV (A++B))=((z2 n).map (eV (A++d::B))).set (bW d.lit) [.int .i64 0,.int .i64 (-1),.int .i64 (-1)]:=by have h:jQ (A++B) (bW d.lit)=z1:=qd.2 λe he=>(by simpa using h0 e he);refine qj λv=>?_;rw[qi];by_cases g:v<n;{by_cases e:bW d.lit=v;{subst e;simp[g,eV,h]};rw[aa e];have:jQ (A++d::B) v=jQ (A++B) v:=Yx (by simpa using e);simp[g,eV,this]};by_cases e:bW d.lit=v;{subst e;simp[g]};rw[aa e];simp[g]
def dz.alone(h:dz n p F tr k){m:Nat}(r:tr[m+i]? = zq d):∀e∈tr.take m++tr.drop (m+(i+1)),bW e.lit≠bW d.lit:=λe he y=>by have D:=(h.dU _ d r).1;unfold bW at y;rcases zw.1 he with he|he;{have⟨j,o⟩:=zt.1 he;have⟨z,g⟩:=nq o;have x:=(h.dU _ e g).1;have:=h.one j (m+i) e d g r om;omega};have⟨j,o⟩:=zt.1 he;rw[qc]at o;have x:=(h.dU _ e o).1;have:=h.one _ (m+i) e d o r om;omega
def wP:(jY tr).length=tr.length:=zc ..
def C9:(j5 tr k).length=k:=by unfold j5;rw[zc,qh]
def Yy{d:bE}(h:k<=d.dK):j5 (tr++[d]) k=j5 tr k:=by unfold j5;refine z8 λj e=>?_;have:=aE.1 e;rw[qe,List.countP_singleton];simp only[ah];rw[aa om];rfl
def Wa(h:∀(j:Nat)(e:bE),tr[j]? = zq e->e.dK<=k):j5 tr (k+1)=j5 tr k++[(tr.length:Int)]:=by unfold j5;rw[List.range_succ,z0,qb];congr 2;have:tr.countP (λe=>decide (e.dK<=k))=tr.length:=List.countP_eq_length.2 λe he=>(by have⟨j,d⟩:=zt.1 he;exact ao (h j e d));rw[this]
def dz.cut(h:dz n p F tr k)(a:Nat):tr.countP (λe=>decide (e.dK<=a))<=tr.length/\∀(j:Nat)(e:bE),tr[j]? = zq e->(j<tr.countP (λe=>decide (e.dK<=a))↔e.dK<=a):=by have go:∀l:List bE,(∀(i j:Nat)(d e:bE),l[i]? = zq d->l[j]? = zq e->i<=j->d.dK<=e.dK)->l.countP (λe=>decide (e.dK<=a))<=l.length/\∀(j:Nat)(e:bE),l[j]? = zq e->(j<l.countP (λe=>decide (e.dK<=a))↔e.dK<=a):=(by intro l;induction l with|nil=>exact λ_=>⟨ze _,λj e he=>by simp at he⟩|cons x l ih=>intro o;have⟨I,H⟩:=ih λi j d e G he D=>o (i+1) (j+1) d e (by simpa using G) (by simpa using he) om;rw[List.countP_cons,zu];by_cases m:x.dK<=a;{rw[ab (by simpa using m)];refine ⟨om,λj e he=>?_⟩;cases j with|zero=>cases he;exact ⟨λ_=>m,λ_=>om⟩|succ j=>have r:=H j e (by simpa using he);exact ⟨λg=>r.1 om,λg=>by have:=r.2 g;omega⟩};have y:l.countP (λe=>decide (e.dK<=a))=0:=z9.2 λe he=>(by have⟨j,z⟩:=zt.1 he;have:=o 0 (j+1) x e rfl (by simpa using z) om;simp only[ah];omega);rw[aa (by simpa using m),y];refine ⟨om,λj e he=>⟨λg=>om,λg=>?_⟩⟩;have:=o 0 j x e rfl he om;omega);exact go tr h.up
def Wb{m:Nat}(ha:i<=k)(h:∀(j:Nat)(e:bE),tr[j]? = zq e->(j<m↔e.dK<=i)):j5 (tr.take m) i=(j5 tr k).take i:=by unfold j5;rw[<- List.map_take,List.take_range,Nat.min_eq_left ha];refine z8 λj d=>?_;have d:=aE.1 d;have e:tr.countP (λe=>decide (e.dK<=j))=(tr.take m).countP (λe=>decide (e.dK<=j))+(tr.drop m).countP (λe=>decide (e.dK<=j)):=(by rw[<- qe,List.take_append_drop]);have g:(tr.drop m).countP (λe=>decide (e.dK<=j))=0:=z9.2 λe he=>(by have⟨a,hi⟩:=zt.1 he;rw[qc]at hi;have:=h _ e hi;simp only[ah];intro o;have:=this.2 om;omega);rw[e,g];rfl
end Go.Id.Md
