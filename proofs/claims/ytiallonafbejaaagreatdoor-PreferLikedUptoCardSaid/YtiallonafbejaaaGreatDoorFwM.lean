/- A function's contract out of its body. Conditions: none; over any program. -/
import Derived.Test.YtiallonafbejaaaGreatDoorFwG
import Derived.RangeFuncRecord
import Derived.RangeFuncIn
import Derived.OrdersIn
set_option linter.all false
namespace Go.Id
open Go
variable {P:Program} {w w' w'':World} {ρ ρ' ρ'':Rho} {E:Nat→IV} {σ σ':Store} {N n n':Nat} {fr:Frm} {a:Act} {pf:List Nat}
theorem ft8 {n0 id:Nat}{ops:Array Oper}{ios:List IOper}{Q:Exit→Frm→Store→Prop}(hc:ba7 P pf N ops ops.toList=some ios)
  (h:bm6 P E ios σ.next fr { σ with next:=σ.next+bm7 ios } (fun fr' σ'=>Q .normal fr' σ')):R P E N n0 (.region id ops false) fr σ Q:=by
 intro hn ro h0 ρ w a hs hf hd hr
 refine wpIn_region ?_
 rw[List.range_eq_range']
 have e:ops.size=ops.toList.length:=by simp
 rw[e]
 refine fc3 (n0:=n0) (ρ0:=ρ) (w0:=w) (ds:=a.defers) (K:=fun fr' σ'=>Q .normal fr' σ') ?_ ops.toList ios 0 σ.next fr _ ρ w a rfl hc h
  (cy6 hs (fun i hi=>hs.fresh i (by omega))) hf rfl (ExtW.refl _ _ _) hn (fun k hk _=>hs.fresh k hk) (Nat.le_refl _)
 intro fr' σ' ρ' w' a' hn' hK hs' hf' hd' hx
 exact ⟨fr',σ',ρ',hn',hK,hs',hf',by rw[hd']; exact hd.mono hx,hr.mono hx,hx⟩
/-! ### A block that holds no cells turns -/
theorem VR.turn {r:Nat}{v:IV}{x:Value}(hsz:w'.heap.size=w.heap.size)(hb:∀ b,b≠r→w'.heap[b]? = w.heap[b]?)(hr:∀ rcs el fz,w.heap[r]?≠some (Obj.cells rcs el fz))(hmp:∀ mes c,w.heap[r]?≠some (Obj.map mes c))(h:VR ρ w v x):VR ρ w' v x:=by
 have hcells:∀ (b:Nat) (rcs:Array Value) (el:TypeId) (fz:Nat×Nat),w.heap[b]? = some (.cells rcs el fz)→w'.heap[b]? = some (.cells rcs el fz):=fun b rcs el fz hh=>by
  have:b≠r:=fun e=>by subst e; exact hr _ _ _ hh
  rw[hb b this]; exact hh
 have hfb:∀ b,FB ρ w b→FB ρ w' b:=fun b hh=>⟨by rw[hsz]; exact hh.1,hh.2,hh.3⟩
 have hcell:∀ (ad:Addr) (q:Value),w.cell? ad=some q→w'.cell? ad=some q:=fun ad q hh=>by
  unfold World.cell? at hh ⊢
  split at hh
  ·rename_i c el fz hc
   rw[hcells _ _ _ _ hc]; exact hh
  ·cases hh
 induction h with
 | undef r=>exact .undef r
 | bool b=>exact .bool b
 | int k n=>exact .int k n
 | str s=>exact .str s
 | nilptr=>exact .nilptr
 | ptr id off B d hi=>exact .ptr id off B d hi
 | ptrD id off ad hi=>exact .ptrD id off ad hi
 | tptr cs b o vs hf hc _ ih=>exact .tptr cs b o vs (hfb _ hf) (fun j hj=>hcell _ _ (hc j hj)) ih
 | nilslice=>exact .nilslice
 | zslice a=>exact .zslice a
 | eslice a c=>exact .eslice a c
 | slice id off len esz B d cap rcs el fz hi hbk hs hle=>exact .slice id off len esz B d cap rcs el fz hi (hcells _ _ _ _ hbk) hs hle
 | sliceZ id off esz B d a hi=>exact .sliceZ id off esz B d a hi
 | sliceD id off len esz cap ad hi hle=>exact .sliceD id off len esz cap ad hi hle
 | cslice id off len esz B d rcs el fz hi hbk hs=>exact .cslice id off len esz B d rcs el fz hi (hcells _ _ _ _ hbk) hs
 | csliceD id off len esz ad hi=>exact .csliceD id off len esz ad hi
 | rslice id off len room esz B d cap rcs el fz hi hbk hs hle hr=>exact .rslice id off len room esz B d cap rcs el fz hi (hcells _ _ _ _ hbk) hs hle hr
 | rsliceD id off len room esz cap ad hi hle hr=>exact .rsliceD id off len room esz cap ad hi hle hr
 | tslice es b o cap esz sp vs hf hs hc _ hle ih=>exact .tslice es b o cap esz sp vs (fun hne=>⟨hfb _ (hf hne).1,(hf hne).2⟩) hs (fun i hi j hj=>hcell _ _ (hc i hi j hj)) ih hle
 | tnil=>exact .tnil
 | nilmap=>exact .nilmap
 | map id B d hi=>exact .map id B d hi
 | mapD id B hi=>exact .mapD id B hi
 | tmap es es' b mes clock hp hd hf hh hl _ _ h4 h5 ihk ihv=>exact .tmap es es' b mes clock hp hd (hfb _ hf) (by have:b≠r:=fun e=>by { subst e; exact hmp _ _ hh }; rw[hb b this]; exact hh) hl ihk ihv h4 h5
 | func fn first cap rf rc hy h1 h2 _ _ ihf ihc=>exact .func fn first cap rf rc hy h1 h2 ihf ihc
 | yield id B d hi=>exact .yield id B d hi
 | yieldD id B hi=>exact .yieldD id B hi
 | nilfunc=>exact .nilfunc
 | iface t v r _ ih=>exact .iface t v r ih
 | niliface=>exact .niliface
 | agg cs rs h1 _ ih=>exact .agg cs rs h1 ih
 | tuple cs rs h1 _ ih=>exact .tuple cs rs h1 ih
theorem OR.turn {r B d:Nat}{o:IObj}(hsz:w'.heap.size=w.heap.size)(hb:∀ b,b≠r→w'.heap[b]? = w.heap[b]?)(hr:∀ rcs el fz,w.heap[r]?≠some (Obj.cells rcs el fz))(hmp:∀ mes c,w.heap[r]?≠some (Obj.map mes c))(hB:B≠r)(h:OR ρ w B d o):OR ρ w' B d o:=by
 have key:∀ cs,ai8 ρ w B d cs→ai8 ρ w' B d cs:=fun cs ⟨rcs,el,h1,h2,h3⟩=>⟨rcs,el,by rw[hb B hB]; exact h1,h2,fun i hi=>(h3 i hi).turn hsz hb hr hmp⟩
 cases o with
 | cells cs=>exact key cs h
 | row cs=>exact key cs h
 | map es=>
  obtain ⟨mes,clock,h1,h0,h2,h3,h4,h5⟩:=h
  exact ⟨mes,clock,by rw[hb B hB]; exact h1,h0,h2,fun i hi=>⟨(h3 i hi).1.turn hsz hb hr hmp,(h3 i hi).2.turn hsz hb hr hmp⟩,h4,h5⟩
 | siter s pos=>exact ⟨by rw[hb B hB]; exact h.1,h.2⟩
 | loop N tmps params assign body st pend=>
  obtain ⟨hd,l,h1,h2,h3,h4,h5,h6,h7,h8⟩:=h
  exact ⟨hd,l,by rw[hb B hB]; exact h1,h2,h3,h4,h5,h6,h7,fun t=>(h8 t).turn hsz hb hr hmp⟩
 | miter left cur=>
  obtain ⟨hd,mb,last,seen,mes,clock,lft,h1,h2,h3,h4,h5,h6,h7,h8,hc,h9⟩:=h
  have hm:mb≠r:=fun e=>by subst e; exact hmp _ _ h3
  exact ⟨hd,mb,last,seen,mes,clock,lft,by rw[hb B hB]; exact h1,⟨by rw[hsz]; exact h2.1,h2.2,h2.3⟩,by rw[hb mb hm]; exact h3,h4,h5,h6,h7,h8,fun c e=>let ⟨i,g1,g2,g3,g4⟩:=hc c e; ⟨i,g1,g2,g3.turn hsz hb hr hmp,g4.turn hsz hb hr hmp⟩,fun i hi=>⟨(h9 i hi).1.turn hsz hb hr hmp,(h9 i hi).2.turn hsz hb hr hmp⟩⟩
theorem Sim.turn {r:Nat}(hsz:w'.heap.size=w.heap.size)(hb:∀ b,b≠r→w'.heap[b]? = w.heap[b]?)(hr:∀ rcs el fz,w.heap[r]?≠some (Obj.cells rcs el fz))(hmp:∀ mes c,w.heap[r]?≠some (Obj.map mes c))(hfb:UB ρ w r)(hs:Sim E ρ w σ):Sim E ρ w' σ :=
 ⟨hs.inj,fun i B d h=>by rw[hsz]; exact hs.lt i B d h,fun i B d h=>let ⟨o,h1,h2⟩:=hs.obj i B d h; ⟨o,h1,h2.turn hsz hb hr hmp (fun e=>hfb.2 i d (by rw[← e]; exact h))⟩,hs.dead,hs.fresh,hs.noObj,fun g=>(hs.env g).turn hsz hb hr hmp,hs.nx,fun b h=>by rw[hsz]; exact hs.xlt b h⟩
/-! ### The results -/
def ht5 (P:Program)(σ:Store)(fr:Frm):ResultVar→Option IV
 | .tmp t=>some (fr.get t)
 | .cell ad t=>match ai5 P t with
  | some agg=>ap5 σ agg (fr.get ad)
  | none=>none
def ft9 (P:Program)(σ:Store)(fr:Frm):List ResultVar→Option (List IV)
 | []=>some []
 | r::rs=>match ht5 P σ fr r,ft9 P σ fr rs with
  | some v,some vs=>some (v::vs)
  | _,_=>none
def eh8:List IV→IV
 | [v]=>v
 | vs=>.tuple vs
def dx8 (tmps:Array Value):ResultVar→Sem Value
 | .tmp t=>pure (tmps.getD t undef)
 | .cell a t=>do loadVar t (← asAddr (tmps.getD a undef))
theorem eh9 (fn:Func)(tmps:Array Value):results fn tmps=(do let vs ← fn.results.mapM (dx8 tmps); pure (if h:vs.size=1 then vs[0] else .tuple vs)):=by
 unfold results
 refine congrArg (fun m:Sem (Array Value)=>m >>= fun vs=>pure (if h:vs.size=1 then vs[0] else .tuple vs)) ?_
 refine congrArg (fun g=>fn.results.mapM g) ?_
 funext x
 cases x<;>rfl
theorem ei1 {tmps:Array Value}(hs:Sim E ρ w σ)(hf:FR ρ w N fr tmps):∀ (rs:List ResultVar) (vs:List IV),ft9 P σ fr rs=some vs →
  ∃ rvs:List Value,(rs.mapM (dx8 tmps)).run P w=.ok rvs w∧CR ρ w vs rvs.toArray:=by
 intro rs
 induction rs with
 | nil=>intro vs h; cases h; exact ⟨[],rfl,rfl,fun i hi=>by simp at hi⟩
 | cons r rs ih=>
  intro vs h
  simp only[ft9] at h
  split at h
  ·rename_i v vs' h1 h2
   cases h
   obtain ⟨rvs,hr,hc⟩:=ih vs' h2
   have one:∃ x,(dx8 tmps r).run P w=.ok x w∧VR ρ w v x:=by
    cases r with
    | tmp t=>cases h1; exact ⟨_,rfl,hf.get t⟩
    | cell ad t=>
     simp only[ht5] at h1
     split at h1
     ·rename_i agg hk
      have hv:=hf.get ad
      obtain ⟨x,hx,hvx⟩:=cm2 hs hk h1 hv
      have hp:∃ ad',tmps.getD ad undef=.pointer (some ad'):=by
       unfold ap5 at h1
       cases hc:ai9 σ (fr.get ad) with
       | none=>rw[hc] at h1; cases h1
       | some cs=>obtain ⟨b,o,he,_⟩:=bl8 hs hv hc; exact ⟨_,he⟩
      obtain ⟨ad',he⟩:=hp
      rw[he] at hx
      refine ⟨x,?_,hvx⟩
      show (do loadVar t (← asAddr (tmps.getD ad undef)):Sem Value).run P w=.ok x w
      rw[he]
      simpa [Instr.loadAt,Instr.sureAddr,asAddr] using hx
     ·cases h1
   obtain ⟨x,hx,hvx⟩:=one
   refine ⟨x::rvs,?_,by have:=hc.1; simp at this ⊢; exact this,fun i hi=>?_⟩
   ·rw[List.mapM_cons]
    simp only[Sem.run_bind,hx,hr,Result.andThen_ok,Sem.run_pure]
   ·cases i with
    | zero=>simpa using hvx
    | succ i=>simpa [Array.getD_eq_getD_getElem?] using hc.2 i (by simpa using hi)
  ·cases h
theorem cy9 {fn:Func}{tmps:Array Value}{vs:List IV}(hs:Sim E ρ w σ)(hf:FR ρ w N fr tmps)(h:ft9 P σ fr fn.results.toList=some vs) :
  ∃ x,(results fn tmps).run P w=.ok x w∧VR ρ w (eh8 vs) x:=by
 obtain ⟨rvs,hr,hc⟩:=ei1 (P:=P) hs hf fn.results.toList vs h
 have hm:(fn.results.mapM (dx8 tmps)).run P w=.ok rvs.toArray w:=by
  obtain ⟨l,hl⟩:∃ l,fn.results=⟨l⟩:=⟨fn.results.toList,rfl⟩
  rw[hl] at hr ⊢
  rw[List.mapM_toArray,Sem.run_map,hr]
  rfl
 rw[eh9]
 simp only[Sem.run_bind,hm,Result.andThen_ok]
 match vs,rvs,hc with
 | [],[],hc=>exact ⟨_,rfl,.tuple _ _ hc.1 hc.2⟩
 | [v],[x],hc=>exact ⟨x,rfl,by have:=hc.2 0 (by simp); simpa [eh8] using this⟩
 | v::v'::vs,x::x'::rvs,hc=>exact ⟨.tuple (x::x'::rvs).toArray,rfl,.tuple _ _ hc.1 hc.2⟩
 | [],x::rvs,hc=>exact absurd hc.1 (by simp)
 | [v],[],hc=>exact absurd hc.1 (by simp)
 | v::v'::vs,[],hc=>exact absurd hc.1 (by simp)
 | v::v'::vs,[x],hc=>exact absurd hc.1 (by simp)
 | [v],x::x'::rvs,hc=>exact absurd hc.1 (by simp)
/-! ### A function -/
def ax6:List IV→Nat→Frm
 | [],_=>[]
 | v::vs,i=>(i,v)::ax6 vs (i+1)
theorem fc5 (vs:List IV):∀ (i t:Nat),(ax6 vs i).get t=if i≤t then vs.getD (t-i) .undef else .undef:=by
 induction vs with
 | nil=>intro i t; simp[ax6,Frm.get]
 | cons v vs ih=>
  intro i t
  have:ax6 (v::vs) i=(ax6 vs (i+1)).set i v:=rfl
  rw[this,Frm.get_set,ih]
  by_cases h:t=i
  ·subst h; simp
  ·rw[if_neg h]
   by_cases h1:i≤t
   ·have h2:i+1≤t:=by omega
    rw[if_pos h1,if_pos h2,show t-i=(t-(i+1))+1 from by omega]
    simp
   ·have h2:¬ (i+1≤t):=by omega
    rw[if_neg h1,if_neg h2]
theorem hw9 {args:List IV}{rargs:Array Value}(hc:CR ρ w args rargs)(hl:args.length≤N):FR ρ w N (ax6 args 0) (rargs++Array.replicate (N-rargs.size) undef):=by
 refine ⟨by rw[hc.1] at hl; simp; omega,fun t=>?_⟩
 rw[fc5]
 simp only[Nat.zero_le,if_true,Nat.sub_zero]
 by_cases h:t<args.length
 ·have h':t<rargs.size:=by rw[← hc.1]; exact h
  have:=hc.2 t h
  have e:(rargs++Array.replicate (N-rargs.size) undef).getD t undef=rargs.getD t undef:=by
   simp[Array.getD_eq_getD_getElem?,Array.getElem?_append,h']
  rw[e]; exact this
 ·have:args.getD t .undef=.undef:=by simp[List.getD_eq_getElem?_getD,List.getElem?_eq_none (Nat.le_of_not_lt h)]
  rw[this]; exact .undef _
theorem ei2 (w:World)(r b:Nat)(o:Obj)(h:b≠r):(w.putObj r o).heap[b]? = w.heap[b]?:=by
 have h':¬ r=b:=fun e=>h e.symm
 show (w.heap.setIfInBounds r o)[b]? = _
 rw[Array.getElem?_setIfInBounds]
 simp[h']
theorem dg3 {F:Fence}{n0 h0:Nat}{fn:Func}{tmps:Array Value}{Rw:Ending→World→Prop}{v:IV}{ρ0:Rho}{w0:World}{vs:List IV}
  (hfin:∀ x w',Sim E ρ w' σ→VR ρ w' (eh8 vs) x→ExtW n0 ρ0 w0 ρ w'→Rw (.returned x) w') (hres:ft9 P σ fr fn.results.toList=some vs) (hh:w0.heap.size≤h0) :
  ∀ (ds:List Deferred) (w:World),Sim E ρ w σ→FR ρ w N fr tmps→DF h0 ρ w ds→ExtW n0 ρ0 w0 ρ w→LeavesInM F n P fn tmps Rw ds .returning w:=by
 intro ds
 induction ds with
 | nil=>
  intro w hs hf _ hx
  obtain ⟨x,hx',hv⟩:=cy9 (P:=P) hs hf hres
  exact ⟨x,hx',hfin x w hs hv hx⟩
 | cons d ds ih=>
  intro w hs hf hd hx
  cases hd with
  | cons r _ hr hb hh1 hn hd'=>
   have hsz:(w.putObj r (.deferred none)).heap.size=w.heap.size:=by show (w.heap.setIfInBounds r _).size=_; simp
   have hne:∀ (rcs:Array Value) (el:TypeId) (fz:Nat×Nat),w.heap[r]?≠some (Obj.cells rcs el fz):=fun _ _ _ h=>by rw[hr] at h; cases h
   have hnm:∀ (mes:Array MapEntry) (c:Nat),w.heap[r]?≠some (Obj.map mes c):=fun _ _ h=>by rw[hr] at h; cases h
   have hg:∀ b,b≠r→(w.putObj r (.deferred none)).heap[b]? = w.heap[b]?:=fun b h=>ei2 w r b _ h
   refine ⟨(fun h=>by cases h),.inl ⟨r,w.putObj r (.deferred none),rfl,run_takeDeferred hr,?_⟩⟩
   refine ih _ (hs.turn hsz hg hne hnm hb) ⟨hf.size,fun t=>(hf.get t).turn hsz hg hne hnm⟩ ?_ ?_
   ·have:∀ ds',DF h0 ρ w ds'→(∀ d∈ds',d.target=.collected r→False)→DF h0 ρ (w.putObj r (.deferred none)) ds':=by
     intro ds' hd
     induction hd with
     | nil hz=>intro _; exact .nil (by rw[hsz]; exact hz)
     | cons r' ds'' hr' hb' hh' hn' _ ih'=>
      intro hno
      have hrr:r'≠r:=fun e=>hno { target:=.collected r',args:=#[] } (by simp) (by rw[e])
      exact .cons r' ds'' (by rw[hg r' hrr]; exact hr') ⟨by rw[hsz]; exact hb'.1,hb'.2⟩ hh' hn' (ih' (fun d hd=>hno d (by simp[hd])))
    exact this ds hd' hn
   ·refine ⟨by rw[hsz]; exact hx.size,fun b hb'=>?_,fun b rcs el fz hb'=>?_,hx.img,hx.at_,hx.dead,hx.no,hx.output,hx.os,hx.tape,fun l L hl=>?_,hx.X⟩
    ·rw[hg b (by have:=hb'.1; omega)]; exact hx.keep b hb'
    ·have hlt:=(Array.getElem?_eq_some_iff.1 hb').1
     rw[hg b (by omega)]; exact hx.shape b rcs el fz hb'
    ·have hlt:=(Array.getElem?_eq_some_iff.1 hl).1
     rw[hg l (by omega)]; exact hx.loops l L hl
def ih8 (P:Program)(rs:List ResultVar)(Qc:IV→Store→Prop):Exit→Frm→Store→Prop
 | .normal,fr,σ|.ret,fr,σ=>∃ vs,ft9 P σ fr rs=some vs∧Qc (eh8 vs) σ
 | _,_,_=>False
theorem gy6 {f:FuncId}{fn:Func}{c:Code}{args:List IV}{Qc:IV→Store→Prop}(hf:P.funcs[f]? = some fn)(hb:fn.body=some c)(hN:fn.ntmps=N)(hl:args.length≤N)
  (h:R P E N σ.next c (ax6 args 0) σ (ih8 P fn.results.toList Qc)):C P E f args σ Qc:=by
 intro ρ w rargs hs hc
 refine callsIn_of_wp_marks hf hb trivial ?_
 have hfr:=hw9 hc hl
 rw[← hN] at hfr
 refine wpIn_mono (h (Nat.le_refl _) none w.heap.size ρ w { tmps:=rargs++Array.replicate (fn.ntmps-rargs.size) undef,defers:=[] } hs (by rw[hN] at hfr ⊢; exact hfr) (.nil (Nat.le_refl _)) (fun l e=>by cases e)) ?_
 rintro e a' w' ⟨fr',σ',ρ',hn',q,hs',hf',hd',_,hx⟩
 have fin:(∃ vs,ft9 P σ' fr' fn.results.toList=some vs∧Qc (eh8 vs) σ')→LeavesInM Fence.wide 0 P fn a'.tmps (fun e w'=>∃ v r ρ' σ',e=.returned r∧Qc v σ'∧Sim E ρ' w' σ'∧VR ρ' w' v r∧ExtW σ.next ρ w ρ' w') a'.defers .returning w':=by
  rintro ⟨vs,hr,hq⟩
  exact dg3 (v:=.undef) (n0:=σ.next) (ρ0:=ρ) (w0:=w) (h0:=w.heap.size) (fun x w'' hs'' hv'' hx''=>⟨eh8 vs,x,ρ',σ',rfl,hq,hs'',hv'',hx''⟩) hr (Nat.le_refl _) a'.defers w' hs' hf' hd' hx
 cases e with
 | normal=>exact fin q
 | ret=>exact fin q
 | _=>exact q.elim
end Go.Id
/- Ranging over a function: the rule for the statement,and the contract of a round. Conditions: none; over any program. -/
namespace Go.Id
open Go
variable {P:Program} {w w' w'':World} {ρ ρ' ρ'':Rho} {E:Nat→IV} {σ σ':Store} {N n n':Nat} {fr:Frm} {a:Act}
theorem cb6 {l₀:Nat}{r₀:Loop}(h:w.heap[l₀]? = some (.loop r₀))(fn:FuncId)(tmps:Array Value)(ps:Array Tmp)(assign body:Code) :
  (Instr.enterLoop fn tmps ps assign body (some l₀)).run P w =
   .ok (w.heap.size,[]) (w.alloc (.loop { state:=.ready,pending:=none,fn,tmps,params:=ps,assign,body,defers:=r₀.defers })):=by
 unfold Instr.enterLoop
 simp only[Sem.run_bind,run_getLoop h,run_newObj_alloc,Result.andThen,Sem.run_pure]
theorem bd8 (n:Nat)(o:Obj):Ext n ρ w ρ (w.alloc o) where
 size:=by show w.heap.size≤(w.heap.push o).size; simp
 keep:=fun b hb=>ap6 w o b hb.1
 shape:=fun b rcs el fz hb=>⟨rcs,by rw[ap6 w o b (Array.getElem?_eq_some_iff.1 hb).1]; exact hb,rfl⟩
 img:=fun i B d hi=>.inl ⟨i,d,hi⟩
 at_:=fun _ _ _ h=>.inl h
 dead:=fun _ h=>h
 no:=fun _ _ h=>h
 output:=rfl
 os:=rfl
 tape:=⟨rfl,Nat.le_refl _⟩
 loops:=fun l L hl=>⟨L,by rw[ap6 w o l (Array.getElem?_eq_some_iff.1 hl).1]; exact hl⟩
 X:=rfl
theorem ei3 (o:Obj)(hs:Sim E ρ w σ):Sim E ρ (w.alloc o) σ :=
 ⟨hs.inj,fun i B d h=>by have:=hs.lt i B d h; show B<(w.heap.push o).size; rw[Array.size_push]; omega,
  fun i B d h=>let ⟨o',h1,h2⟩:=hs.obj i B d h; ⟨o',h1,h2.mono (bd8 0 o) (ap6 w o B (hs.lt i B d h))⟩,hs.dead,hs.fresh,hs.noObj,fun g=>(hs.env g).mono (bd8 0 o),hs.nx,fun b h=>by have:=hs.xlt b h; show b<(w.heap.push o).size; rw[Array.size_push]; omega⟩
theorem bm9 {n l d id:Nat}{L L':Loop}(hid:ρ id=.at l d)(hb:w.heap[l]? = some (.loop L)):Ext n ρ w ρ (w.putObj l (.loop L')) where
 size:=by rw[World.putObj_size]; exact Nat.le_refl _
 keep:=fun b hfb=>World.putObj_heap_other (fun h=>by subst h; exact hfb.2 id d hid)
 shape:=fun b rcs el fz hb'=>by
  have h:b≠l:=fun h=>by subst h; rw[hb] at hb'; cases hb'
  exact ⟨rcs,by rw[World.putObj_heap_other h]; exact hb',rfl⟩
 img:=fun i B d h=>.inl ⟨i,d,h⟩
 at_:=fun _ _ _ h=>.inl h
 dead:=fun _ h=>h
 no:=fun _ _ h=>h
 output:=rfl
 os:=rfl
 tape:=⟨rfl,Nat.le_refl _⟩
 loops:=fun k K hk=>by
  by_cases h:k=l
  ·subst h; exact ⟨L',World.putObj_heap_same (Array.getElem?_eq_some_iff.1 hb).1⟩
  ·exact ⟨K,by rw[World.putObj_heap_other h]; exact hk⟩
 X:=rfl
theorem cz1 {id l d:Nat}{L L':Loop}{o:IObj}(hs:Sim E ρ w σ)(hid:ρ id=.at l d)(hb:w.heap[l]? = some (.loop L))(ho:OR ρ (w.putObj l (.loop L')) l d o):Sim E ρ (w.putObj l (.loop L')) (σ.put id o) where
 inj:=hs.inj
 lt:=fun i B' d' h=>by rw[World.putObj_size]; exact hs.lt i B' d' h
 obj:=fun i B' d' hi=>by
  simp only[Store.put]
  by_cases h:i=id
  ·subst h; rw[hid] at hi; cases hi; exact ⟨o,by simp,ho⟩
  ·obtain ⟨o',h1,h2⟩:=hs.obj i B' d' hi
   have hne:B'≠l:=fun e=>h (hs.inj i id l d' d (by rw[hi,e]) hid)
   exact ⟨o',by simp[h,h1],h2.mono (bm9 (n:=0) hid hb) (World.putObj_heap_other hne)⟩
 dead:=fun i hi=>by
  have:i≠id:=fun e=>by subst e; rw[hid] at hi; cases hi
  simp[Store.put,this,hs.dead i hi]
 fresh:=fun i hi=>hs.fresh i hi
 noObj:=fun i hi=>by
  have:i≠id:=fun e=>by subst e; rw[hid] at hi; cases hi
  simp[Store.put,this,hs.noObj i hi]
 env:=fun g=>(hs.env g).mono (bm9 (n:=0) hid hb)
 nx:=hs.nx
 xlt:=fun b h=>by rw[World.putObj_size]; exact hs.xlt b h
def cl4 (fr:Frm):List Nat→List IV→Frm
 | p::ps,v::vs=>cl4 (fr.set p v) ps vs
 | _,_=>fr
theorem fu1:∀ (ps:List Nat) (args:List IV) (rargs:List Value) (fr:Frm) (tmps:Array Value),(∀ p∈ps,p<N)→args.length=ps.length→rargs.length=ps.length →
  (∀ i,i<args.length→VR ρ w (args.getD i .undef) (rargs.getD i undef))→FR ρ w N fr tmps→FR ρ w N (cl4 fr ps args) ((ps.zip rargs).foldl (fun tmps (t,a)=>tmps.setIfInBounds t a) tmps):=by
 intro ps
 induction ps with
 | nil=>intro args rargs fr tmps _ h1 h2 _ hf; exact hf
 | cons p ps ih=>
  intro args rargs fr tmps hp h1 h2 hv hf
  match args,rargs,h1,h2 with
  | v::vs,r::rs,h1,h2=>
   refine ih vs rs _ _ (fun q hq=>hp q (by simp[hq])) (by simpa using h1) (by simpa using h2) (fun i hi=>?_) (hf.set (hp p (by simp)) ?_)
   ·have:=hv (i+1) (by simpa using hi)
    simpa [List.getD_eq_getElem?_getD] using this
   ·have:=hv 0 (by simp)
    simpa [List.getD_eq_getElem?_getD] using this
theorem dg4 (l:Nat):Fence.wide.inRound l=fw (some l):=rfl
def gy7 (id:Nat)(L:LoopState→Option Code→IObj)(K:IV→Store→Prop):Exit→Frm→Store→Prop
 | .normal,_,σ=>σ.obj id=some (L .busy none)∧K (.bool true) (σ.put id (L .ready none))
 | .ret,_,σ=>σ.obj id=some (L .busy none)∧K (.bool false) (σ.put id (L .done (some .ret)))
 | .exit i,_,σ=>σ.obj id=some (L .busy none)∧K (.bool false) (σ.put id (L .done (some (.exit i))))
 | _,_,_=>False
theorem gy8 {id:Nat}{ps:List Nat}{asg body:Code}{args:List IV}{K:IV→Store→Prop}(hps:∀ p∈ps,p<N)(hl:args.length=ps.length)(ho:σ.obj id=some (.loop N fr ps.toArray asg body .ready none))
  (h:R P E N σ.next asg (cl4 fr ps args) σ fun e f s=>e=.normal∧s.obj id=some (.loop N fr ps.toArray asg body .ready none) ∧
   R P E N σ.next body f (s.put id (.loop N fr ps.toArray asg body .busy none)) (gy7 id (fun s p=>.loop N fr ps.toArray asg body s p) K)):CYd P E id args σ K:=by
 intro ρ w rargs B d hs hc hid
 obtain ⟨o,h1,h2⟩:=hs.obj id B d hid
 rw[ho] at h1
 cases h1
 obtain ⟨hd,L,g1,g2,g3,g4,g5,g6,g7,g8⟩:=h2
 subst hd
 have hsz:rargs.size=L.params.size:=by rw[g2,← hc.1]; simpa using hl
 have hlt:id<σ.next:=by
  rcases Nat.lt_or_ge id σ.next with h|h
  ·exact h
  ·have:=hs.fresh id h; rw[hid] at this; cases this
 refine ⟨L.fn,_,L.assign,L.body,run_yield g1 hsz,roundIn_of_wpIn trivial ?_⟩
 rw[g3,g4,dg4]
 have hfr:FR ρ w N (cl4 fr ps args) (Array.foldl (fun tmps (x:Tmp×Value)=>tmps.setIfInBounds x.1 x.2) L.tmps (L.params.zip rargs)):=by
  have:=fu1 (ρ:=ρ) (w:=w) ps args rargs.toList fr L.tmps hps hl (by rw[Array.length_toList,← hc.1]; exact hl) (fun i hi=>by have:=hc.2 i hi; simpa [Array.getD_eq_getD_getElem?,List.getD_eq_getElem?_getD] using this) ⟨g7,g8⟩
  have e:(Array.foldl (fun tmps (x:Tmp×Value)=>tmps.setIfInBounds x.1 x.2) L.tmps (L.params.zip rargs))=List.foldl (fun tmps (x:Tmp×Value)=>tmps.setIfInBounds x.1 x.2) L.tmps (ps.zip rargs.toList):=by
   rw[← Array.foldl_toList,Array.toList_zip,g2]
  rw[e]; exact this
 refine wpIn_mono (h (Nat.le_refl _) (some B) w.heap.size ρ w { tmps:=Array.foldl (fun tmps (x:Tmp×Value)=>tmps.setIfInBounds x.1 x.2) L.tmps (L.params.zip rargs),defers:=[] } hs hfr (.nil (Nat.le_refl _)) (fun l e=>by cases e; exact ⟨_,g1⟩)) ?_
 rintro e a1 w1 ⟨f1,σ1,ρ1,hn1,⟨rfl,hob1,hbody⟩,hs1,hf1,hd1,hr1,hx1⟩
 have live:∀ {ρ':Rho} {w':World} {σ':Store} {st:LoopState} {pd:Option Code},ExtW σ.next ρ w ρ' w'→Sim E ρ' w' σ'→σ'.obj id=some (.loop N fr ps.toArray asg body st pd)→ρ' id=.at B 0:=fun hx hs' hob=>by
  rcases hx.at_ id B 0 hlt hid with h|h
  ·exact h
  ·have:=hs'.dead id h; rw[hob] at this; cases this
 have hid1:=live hx1 hs1 hob1
 obtain ⟨o1,k1,k2⟩:=hs1.obj id B 0 hid1
 rw[hob1] at k1
 cases k1
 obtain ⟨hd0,L1,e1,e2,e3,e4,e5,e6,e7,e8⟩:=k2
 have hB1:=hs1.lt id B 0 hid1
 refine ⟨_,run_beginRound e1 e6,?_⟩
 have hx2:∀ m,Ext m ρ1 w1 ρ1 (w1.putObj B (.loop { L1 with state:=.busy })):=fun m=>bm9 hid1 e1
 have hs2:Sim E ρ1 (w1.putObj B (.loop { L1 with state:=.busy })) (σ1.put id (.loop N fr ps.toArray asg body .busy none)):=
  cz1 hs1 hid1 e1 ⟨rfl,{ L1 with state:=.busy },World.putObj_heap_same hB1,e2,e3,e4,e5,rfl,e7,fun t=>(e8 t).mono (hx2 0)⟩
 have hxw:=(hx2 σ.next).weak (Nat.le_refl σ.next)
 refine wpIn_mono (hbody hn1 (some B) w.heap.size ρ1 _ a1 hs2 (hf1.mono (hx2 0)) (hd1.mono hxw) (hr1.mono hxw)) ?_
 rintro e a' w' ⟨fr',σ',ρ',hn',q,hs',hf',hd',hr',hx⟩
 have fin:∀ (jump:Option Code) (st:LoopState),st=(if jump.isNone then .ready else .done)→σ'.obj id=some (.loop N fr ps.toArray asg body .busy none)→K (.bool jump.isNone) (σ'.put id (.loop N fr ps.toArray asg body st jump)) →
   ∃ v w₂,(Instr.endRound B jump).run P w'=.ok v w₂∧∃ v' r ρ'' σ'',Ending.returned v=.returned r∧K v' σ''∧Sim E ρ'' w₂ σ''∧VR ρ'' w₂ v' r∧ExtW σ.next ρ w ρ'' w₂:=by
  intro jump st hst hob hK
  have hxT:ExtW σ.next ρ w ρ' w':=(hx1.trans hxw).trans hx
  have hid':=live hxT hs' hob
  obtain ⟨o',k1,k2⟩:=hs'.obj id B 0 hid'
  rw[hob] at k1
  cases k1
  obtain ⟨hd2,L',f1,f2,f3,f4,f5,f6,f7,f8⟩:=k2
  have hB':=hs'.lt id B 0 hid'
  have hx3:∀ m,Ext m ρ' w' ρ' (w'.putObj B (.loop { L' with state:=if jump.isNone then .ready else .done,pending:=jump })):=fun m=>bm9 hid' f1
  refine ⟨_,_,run_endRound jump f1,_,_,ρ',_,rfl,hK,cz1 hs' hid' f1 ⟨rfl,_,World.putObj_heap_same hB',f2,f3,f4,rfl,hst.symm,f7,fun t=>(f8 t).mono (hx3 0)⟩,.bool _,?_⟩
  exact hxT.trans ((hx3 σ.next).weak (Nat.le_refl _))
 cases e with
 | normal=>exact fin none .ready rfl q.1 q.2
 | ret=>exact fin (some .ret) .done rfl q.1 q.2
 | exit i=>exact fin (some (.exit i)) .done rfl q.1 q.2
 | goto t=>exact q.elim
 | panic c=>exact q.elim
 | outgrown=>exact q.elim
def hx8 (Q:Exit→Frm→Store→Prop)(fr:Frm)(σ:Store):Option Code→Prop
 | none=>Q .normal fr σ
 | some .ret=>Q .ret fr σ
 | some (.exit i)=>Q (.exit i) fr σ
 | _=>False
def CVf (P:Program)(E:Nat→IV)(fv:IV)(args:List IV)(σ:Store)(Q:IV→Store→Prop):Prop :=
 match fv with
 | .func (.func f) first cap=>okF P f=true∧C P E f (first++args++cap) σ Q
 | _=>False
theorem CVf.mono {fv:IV}{args:List IV}{Q Q':IV→Store→Prop}(h:CVf P E fv args σ Q)(hq:∀ v s,Q v s→Q' v s):CVf P E fv args σ Q':=by
 unfold CVf at h ⊢
 split at h
 ·exact ⟨h.1,h.2.mono hq⟩
 ·exact h.elim
theorem dq5 {n0:Nat}{g:Operand}{gx:IX}{ps:List Nat}{asg body:Code}{Q:Exit→Frm→Store→Prop}(hg:ad8 g=some gx)
  (h:CVf P E (gx.ev E fr) [.yield σ.next] ⟨σ.next+1,(σ.put σ.next (.loop N fr ps.toArray asg body .ready none)).obj⟩
   fun _ σ2=>σ.next≤σ2.next∧∃ st pend,st≠.busy∧σ2.obj σ.next=some (.loop N fr ps.toArray asg body st pend)∧hx8 Q fr (σ2.kill σ.next) pend) :
  R P E N n0 (.rangeFunc g ps.toArray asg body) fr σ Q:=by
 intro hn ro h0 ρ w a hs hf hd hr
 refine wpIn_rangeFunc fun fn hfn=>?_
 have hent:∃ (mark:List Deferred) (wa:World) (df:Nat),(Instr.enterLoop fn a.tmps ps.toArray asg body ro).run P w=.ok (wa.heap.size,mark) (wa.alloc (.loop { state:=.ready,pending:=none,fn,tmps:=a.tmps,params:=ps.toArray,assign:=asg,body,defers:=df })) ∧
   Sim E ρ wa σ∧Ext n0 ρ w ρ wa∧DF h0 ρ wa (mark++a.defers)∧RO ro wa:=by
  cases ro with
  | none=>
   refine ⟨[{ target:=.collected w.heap.size,args:=#[] }],w.alloc (.deferred (some [])),w.heap.size,?_,ei3 _ hs,bd8 _ _,?_,fun l e=>by cases e⟩
   ·have:=run_enterLoop_outer (P:=P) (w:=w) fn a.tmps ps.toArray asg body
    rw[this]
    simp
   ·have hd1:=hd.mono ((bd8 (ρ:=ρ) (w:=w) n0 (.deferred (some []))).weak (Nat.le_refl _))
    refine .cons w.heap.size a.defers (World.alloc_heap_new _ _) ⟨by show w.heap.size<(w.heap.push _).size; simp,fun i d h=>?_⟩ hd.size (fun d hd' ht=>?_) hd1
    ·have:=hs.lt i _ d h; omega
    ·have:∀ ds,DF h0 ρ w ds→∀ d∈ds,d.target=.collected w.heap.size→False:=by
      intro ds hds
      induction hds with
      | nil=>intro d hd; cases hd
      | cons r ds hr hb _ _ _ ih=>
       intro d hd ht
       rcases List.mem_cons.1 hd with rfl|hd
       ·cases ht; exact absurd hb.1 (Nat.lt_irrefl _)
       ·exact ih d hd ht
     exact this _ hd d hd' ht
  | some l0=>
   obtain ⟨L0,hL0⟩:=hr l0 rfl
   exact ⟨[],w,L0.defers,cb6 hL0 fn a.tmps ps.toArray asg body,hs,Ext.refl _ _ _,hd,hr⟩
 obtain ⟨mark,wa,df,he,hsa,hxa,hda,hra⟩:=hent
 generalize hL:({ state:=.ready,pending:=none,fn,tmps:=a.tmps,params:=ps.toArray,assign:=asg,body,defers:=df }:Loop)=L at he
 have hno:ρ σ.next=.no:=hsa.fresh _ (Nat.le_refl _)
 have hxn:∀ m,m≤σ.next→Ext m ρ wa (ρ.put σ.next (.at wa.heap.size 0)) (wa.alloc (.loop L)):=fun m hm=>ag5 hno hm
 have hs1:Sim E (ρ.put σ.next (.at wa.heap.size 0)) (wa.alloc (.loop L)) ⟨σ.next+1,(σ.put σ.next (.loop N fr ps.toArray asg body .ready none)).obj⟩:=by
  have hs0:Sim E ρ wa ⟨σ.next+1,σ.obj⟩:=⟨hsa.inj,hsa.lt,hsa.obj,hsa.dead,fun i hi=>hsa.fresh i (Nat.le_of_succ_le hi),hsa.noObj,hsa.env,hsa.nx,hsa.xlt⟩
  refine bj5 hs0 hno (Nat.lt_succ_self _) ⟨rfl,L,World.alloc_heap_new _ _,?_⟩
  subst hL
  exact ⟨rfl,rfl,rfl,rfl,rfl,hf.size,fun t=>((hf.get t).mono hxa).mono (hxn 0 (Nat.zero_le _))⟩
 have hyv:VR (ρ.put σ.next (.at wa.heap.size 0)) (wa.alloc (.loop L)) (.yield σ.next) (.func (.yield wa.heap.size) #[] #[]):=.yield _ wa.heap.size 0 (by simp[Rho.put])
 have hx1:Ext n0 ρ w (ρ.put σ.next (.at wa.heap.size 0)) (wa.alloc (.loop L)):=hxa.trans (hxn n0 hn) (Nat.le_refl _)
 have hgv:=(aa4 (a:=a) hg hs hf).mono hx1
 generalize hfv:gx.ev E fr=fv at h hgv
 generalize hrv:a.eval g=rv at hgv
 cases hgv with
 | func fnv first cap rf rc hy l1 l2 v1 v2=>
  cases fnv with
  | func f=>
   obtain ⟨hok,hc⟩:=h
   have hres:(resolve a.eval (rangeCall g wa.heap.size) 0).run P (wa.alloc (.loop L))=.ok { target:=.fn (.func f) rc,args:=rf++#[Value.func (.yield wa.heap.size) #[] #[]] } (wa.alloc (.loop L)):=by
    simp only[resolve,hrv,Deferred.ofValue,Sem.run_pure]
    simp[Act.eval]
   have hinv:(invoke (.fn (.func f) rc) (rf++#[Value.func (.yield wa.heap.size) #[] #[]])).run P (wa.alloc (.loop L))=.ok (.enter f (rf++#[Value.func (.yield wa.heap.size) #[] #[]]++rc)) (wa.alloc (.loop L)):=by
    simp only[invoke]
    exact cy7 hok
   refine ⟨wa.heap.size,mark,_,_,_,f,_,_,he,hres,fun _ _=>trivial,hinv,(fun h=>by cases h),?_⟩
   have hca:CR (ρ.put σ.next (.at wa.heap.size 0)) (wa.alloc (.loop L)) (first++[.yield σ.next]++cap) (rf++#[Value.func (.yield wa.heap.size) #[] #[]]++rc):=
    (CR.append ⟨l1,v1⟩ ⟨rfl,fun i hi=>by
     have:i=0:=by simpa using hi
     subst this; exact hyv⟩).append ⟨l2,v2⟩
   have hcall:CallsIn (fw ro) 0 P f (rf++#[Value.func (.yield wa.heap.size) #[] #[]]++rc) (wa.alloc (.loop L)) _:=hc _ _ _ hs1 hca
   refine CallsIn.mono (F:=fw ro) (n:=0) hcall ?_
   rintro e w3 ⟨v,r,ρ',σ2,rfl,⟨hnx,st,pend,hst,hob,hq⟩,hs',hv',hx⟩
   have hid':ρ' σ.next=.at wa.heap.size 0:=by
    rcases hx.at_ σ.next wa.heap.size 0 (Nat.lt_succ_self _) (by simp[Rho.put]) with h|h
    ·exact h
    ·have:=hs'.dead _ h; rw[hob] at this; cases this
   obtain ⟨o',k1,k2⟩:=hs'.obj _ _ _ hid'
   rw[hob] at k1
   cases k1
   obtain ⟨hd2,L',f1,f2,f3,f4,f5,f6,f7,f8⟩:=k2
   have hbusy:L'.state≠.busy:=by rw[f6]; exact hst
   have hend:=run_endLoop (P:=P) f1 hbusy
   refine ⟨pend,_,(by rw[← f5]; exact hend),?_⟩
   have hxl:∀ m,Ext m ρ' w3 ρ' (w3.putObj wa.heap.size (.loop { L' with state:=.exhausted })):=fun m=>bm9 hid' f1
   have hsl:=cz1 (L':={ L' with state:=.exhausted }) (o:=.loop N fr ps.toArray asg body .exhausted pend) hs' hid' f1 ⟨rfl,_,World.putObj_heap_same (hs'.lt _ _ _ hid'),f2,f3,f4,f5,rfl,f7,fun t=>(f8 t).mono (hxl 0)⟩
   have hsk:=cy1 hsl hid'
   have hkk:((σ2.put σ.next (.loop N fr ps.toArray asg body .exhausted pend)).kill σ.next)=σ2.kill σ.next:=by
    unfold Store.put Store.kill
    simp only
    congr 1
    funext i
    by_cases h:i=σ.next<;>simp[h]
   rw[hkk] at hsk
   have hxk:∀ m,Ext m ρ' (w3.putObj wa.heap.size (.loop { L' with state:=.exhausted })) (ρ'.put σ.next .dead) (w3.putObj wa.heap.size (.loop { L' with state:=.exhausted })):=fun m=>bm3 hid'
   have hxE:ExtW n0 ρ w (ρ'.put σ.next .dead) (w3.putObj wa.heap.size (.loop { L' with state:=.exhausted })):=
    ((hx1.weak (Nat.le_refl _)).trans (hx.le (Nat.le_trans hn (Nat.le_succ _)))).trans (((hxl n0).weak (Nat.le_refl _)).trans ((hxk n0).weak (Nat.le_refl _)))
   have hxF:Ext n0 (ρ.put σ.next (.at wa.heap.size 0)) (wa.alloc (.loop L)) ρ' w3:=(hx.ext hs1.fresh).le (Nat.le_trans hn (Nat.le_succ _))
   have hxA:Ext n0 ρ w (ρ'.put σ.next .dead) (w3.putObj wa.heap.size (.loop { L' with state:=.exhausted })):=(hx1.trans hxF (Nat.le_refl _)).trans ((hxl n0).trans (hxk n0) (Nat.le_refl _)) (Nat.le_refl _)
   have hxB:Ext n0 ρ wa (ρ'.put σ.next .dead) (w3.putObj wa.heap.size (.loop { L' with state:=.exhausted })):=((hxn n0 hn).trans hxF (Nat.le_refl _)).trans ((hxl n0).trans (hxk n0) (Nat.le_refl _)) (Nat.le_refl _)
   have hfE:FR (ρ'.put σ.next .dead) (w3.putObj wa.heap.size (.loop { L' with state:=.exhausted })) N fr a.tmps:=hf.mono hxA
   have hdE:=hda.mono (hxB.weak (Nat.le_refl _))
   have hrE:=hra.mono (hxB.weak (Nat.le_refl _))
   have hnE:n0≤(σ2.kill σ.next).next:=by show n0≤σ2.next; omega
   cases pend with
   | none=>exact ⟨fr,_,_,hnE,hq,hsk,hfE,hdE,hrE,hxE⟩
   | some c=>
    cases c with
    | ret=>exact wpIn_ret ⟨fr,_,_,hnE,hq,hsk,hfE,hdE,hrE,hxE⟩
    | exit i=>exact wpIn_exit ⟨fr,_,_,hnE,hq,hsk,hfE,hdE,hrE,hxE⟩
    | _=>exact hq.elim
  | _=>exact h.elim
 | _=>exact h.elim
end Go.Id
/- Regions whose order is open: which operations may be taken ahead of which. Conditions: none; over any program. -/
namespace Go.Id
open Go
variable {P:Program} {w w' w'':World} {ρ ρ' ρ'':Rho} {E:Nat→IV} {σ σ':Store} {N n n':Nat} {fr:Frm} {a:Act} {pf:List Nat}
def IQ.kind:IQ→Nat
 | .load _ _=>1
 | .len 0 _=>0
 | .len 1 _=>0
 | .len _ _=>6
 | .lkp _ _ _ _ _=>5
 | _=>0
def SK.kind:SK→Nat
 | .nev=>0
 | _=>6
def IK.kind:IK→Nat
 | .q u=>u.kind
 | .alloc _|.box _|.bsl _ _ _ _|.mksl _ _ _=>2
 | .app _ _ _=>3
 | .pcall _ _|.bslt _ _ _ _|.boxt _=>0
 | .store _ _ _=>4
 | .st k _=>k.kind
 | _=>6
def IX.uses:IX→List Nat
 | .t n=>[n]
 | _=>[]
def IQ.ops:IQ→List IX
 | .mov x|.not x|.neg x|.isnil _ _ x|.conv _ x|.strId x|.len _ x|.faddr _ x|.fld _ _ x|.slz x|.ext _ x|.load _ x|.ldt _ x|.nchk x=>[x]
 | .pick c a b=>[c,a,b]
 | .bin _ x y|.eqs _ _ _ x y|.iaddr _ x y|.aaddr _ _ x y|.idx _ _ _ x y|.istr x y|.mm _ x y|.lkp _ _ _ x y|.ibs x y=>[x,y]
 | .slc _ x lo hi|.sstr x lo hi=>x::(lo.toList++hi.toList)
 | .clp _ x lo hi mx=>[x,lo,hi,mx]
 | .mkf _ f c=>f++c
 | .bld _ ps=>ps.map (·.2.2)
def IK.ops:IK→List IX
 | .q u=>u.ops
 | .alloc _=>[]
 | .box x=>[x]
 | .bsl _ _ _ ps=>ps.map (·.2.2)
 | .store _ x y=>[x,y]
 | .app _ s x=>[s,x]
 | .mkmap=>[]
 | .srange x|.snext x=>[x]
 | .mupd _ x k v=>[x,k,v]
 | .call _ xs|.pcall _ xs=>xs
 | .callv x xs=>x::xs
 | .bslt _ _ _ ps=>ps.map (·.2.2)
 | .boxt x|.mrange x|.mnext x|.ment x|.mksl _ _ x|.clr _ _ x=>[x]
 | .st _ xs=>xs
def IOper.uses (o:IOper):List Nat:=(o.op.ops.flatMap IX.uses)++(match o.guard with|some (s,_)=>[s]|none=>[])
def FEq (fr fr':Frm):Prop:=∀ t,fr.get t=fr'.get t
theorem FEq.refl (fr:Frm):FEq fr fr:=fun _=>rfl
theorem ad6 {fr fr':Frm}{x:IX}(h:∀ t∈x.uses,fr.get t=fr'.get t):x.ev E fr=x.ev E fr':=by
 cases x with
 | t n=>exact h n (by simp[IX.uses])
 | _=>rfl
theorem ap7 {fr fr':Frm}{xs:List IX}(h:∀ t∈xs.flatMap IX.uses,fr.get t=fr'.get t):xs.map (·.ev E fr)=xs.map (·.ev E fr'):=
 List.map_congr_left fun x hx=>ad6 fun t ht=>h t (List.mem_flatMap.2 ⟨x,hx,ht⟩)
theorem bn1 {fr fr':Frm}{x:Option IX}(h:∀ t∈x.toList.flatMap IX.uses,fr.get t=fr'.get t):x.map (·.ev E fr)=x.map (·.ev E fr'):=by
 cases x with
 | none=>rfl
 | some x=>simp only[Option.map_some]; rw[ad6 (fun t ht=>h t (by simpa using ht))]
theorem al3 {fr fr':Frm}{ps:List (Nat×Nat×IX)}(h:∀ t∈(ps.map (·.2.2)).flatMap IX.uses,fr.get t=fr'.get t) :
  (ps.map fun p=>(p.1,p.2.1,p.2.2.ev E fr))=ps.map fun p=>(p.1,p.2.1,p.2.2.ev E fr'):=
 List.map_congr_left fun p hp=>by
  have:p.2.2.ev E fr=p.2.2.ev E fr':=ad6 fun t ht=>h t (List.mem_flatMap.2 ⟨p.2.2,List.mem_map.2 ⟨p,hp,rfl⟩,ht⟩)
  rw[this]
theorem fc6 {fr fr':Frm}{q:IQ}(h:∀ t∈q.ops.flatMap IX.uses,fr.get t=fr'.get t):evq E fr σ q=evq E fr' σ q:=by
 cases q with
 | mkf f fs cs=>
  simp only[IQ.ops,List.flatMap_append,List.mem_append] at h
  simp only[evq]
  rw[ap7 (fun t ht=>h t (.inl ht)),ap7 (fun t ht=>h t (.inr ht))]
 | bld z ps=>simp only[evq]; rw[al3 h]
 | slc e x lo hi=>
  simp only[IQ.ops,List.flatMap_cons,List.flatMap_append,List.mem_append] at h
  simp only[evq]
  rw[ad6 (x:=x) (fun t ht=>h t (.inl ht)),bn1 (x:=lo) (fun t ht=>h t (.inr (.inl ht))),bn1 (x:=hi) (fun t ht=>h t (.inr (.inr ht)))]
 | sstr x lo hi=>
  simp only[IQ.ops,List.flatMap_cons,List.flatMap_append,List.mem_append] at h
  simp only[evq]
  rw[ad6 (x:=x) (fun t ht=>h t (.inl ht)),bn1 (x:=lo) (fun t ht=>h t (.inr (.inl ht))),bn1 (x:=hi) (fun t ht=>h t (.inr (.inr ht)))]
 | clp e x lo hi mx=>
  simp only[evq]
  rw[ad6 (x:=x) (fun t ht=>h t (by simp[IQ.ops,ht])),ad6 (x:=lo) (fun t ht=>h t (by simp[IQ.ops,ht])),ad6 (x:=hi) (fun t ht=>h t (by simp[IQ.ops,ht])),ad6 (x:=mx) (fun t ht=>h t (by simp[IQ.ops,ht]))]
 | pick c x y=>
  simp only[evq]
  rw[ad6 (x:=c) (fun t ht=>h t (by simp[IQ.ops,ht])),ad6 (x:=x) (fun t ht=>h t (by simp[IQ.ops,ht])),ad6 (x:=y) (fun t ht=>h t (by simp[IQ.ops,ht]))]
 | bin op x y=>simp only[evq]; rw[ad6 (x:=x) (fun t ht=>h t (by simp[IQ.ops,ht])),ad6 (x:=y) (fun t ht=>h t (by simp[IQ.ops,ht]))]
 | eqs a b c x y=>simp only[evq]; rw[ad6 (x:=x) (fun t ht=>h t (by simp[IQ.ops,ht])),ad6 (x:=y) (fun t ht=>h t (by simp[IQ.ops,ht]))]
 | iaddr a x y=>simp only[evq]; rw[ad6 (x:=x) (fun t ht=>h t (by simp[IQ.ops,ht])),ad6 (x:=y) (fun t ht=>h t (by simp[IQ.ops,ht]))]
 | aaddr a b x y=>simp only[evq]; rw[ad6 (x:=x) (fun t ht=>h t (by simp[IQ.ops,ht])),ad6 (x:=y) (fun t ht=>h t (by simp[IQ.ops,ht]))]
 | idx a b c x y=>simp only[evq]; rw[ad6 (x:=x) (fun t ht=>h t (by simp[IQ.ops,ht])),ad6 (x:=y) (fun t ht=>h t (by simp[IQ.ops,ht]))]
 | lkp a b c x y=>simp only[evq]; rw[ad6 (x:=x) (fun t ht=>h t (by simp[IQ.ops,ht])),ad6 (x:=y) (fun t ht=>h t (by simp[IQ.ops,ht]))]
 | mm a x y=>simp only[evq]; rw[ad6 (x:=x) (fun t ht=>h t (by simp[IQ.ops,ht])),ad6 (x:=y) (fun t ht=>h t (by simp[IQ.ops,ht]))]
 | ibs x y=>simp only[evq]; rw[ad6 (x:=x) (fun t ht=>h t (by simp[IQ.ops,ht])),ad6 (x:=y) (fun t ht=>h t (by simp[IQ.ops,ht]))]
 | istr x y=>simp only[evq]; rw[ad6 (x:=x) (fun t ht=>h t (by simp[IQ.ops,ht])),ad6 (x:=y) (fun t ht=>h t (by simp[IQ.ops,ht]))]
 | _=>simp only[evq]; rw[ad6 (fun t ht=>h t (by simp[IQ.ops,ht]))]
theorem fu2 {q:IQ}(h:q.kind=0):evq E fr σ q=evq E fr σ' q:=by
 cases q with
 | load a x=>simp[IQ.kind] at h
 | lkp a b c x y=>simp[IQ.kind] at h
 | len k x=>
  simp only[evq]
  match k,h with
  | 0,_=>unfold cx8; split<;>first|rfl|simp_all [fq3]
  | 1,_=>unfold cx8; split<;>first|rfl|simp_all [fq3]
  | k+2,h=>simp[IQ.kind] at h
 | _=>rfl
def bd9 (P:Program)(E:Nat→IV)(op:IK)(id:Nat)(fr:Frm)(σ:Store)(v:IV)(σ':Store):Prop :=
 match op with
 | .q q=>evq E fr σ q=some v∧σ'=σ
 | .alloc z=>v=.ptr id 0∧σ'=σ.put id (.cells z)
 | .box x=>(x.ev E fr).cs.all IV.leaf=true∧v=.ptr id 0∧σ'=σ.put id (.cells (x.ev E fr).cs)
 | .bsl esz n z parts=>∃ out,an8 (rep z n) (parts.map fun p=>(p.1,p.2.1,p.2.2.ev E fr))=some out∧v=.slice id 0 n esz∧σ'=σ.put id (.row out)
 | .app esz s x=>ax4 σ id esz (s.ev E fr) (x.ev E fr)=some (v,σ')
 | .store sz x y=>aj1 σ sz (x.ev E fr) (y.ev E fr)=some σ'∧v=.undef
 | .pcall f args=>PC P E f (args.map (·.ev E fr)) v∧σ'=σ
 | .bslt esz n z parts=>∃ out,an8 (rep z n) (parts.map fun p=>(p.1,p.2.1,p.2.2.ev E fr))=some out∧v=.tslice (chunk esz n out)∧σ'=σ
 | .boxt x=>(x.ev E fr).cs.all IV.leaf=true∧v=.tptr (x.ev E fr).cs∧σ'=σ
 | .mksl esz z x=>∃ n,cy4 (x.ev E fr)=some n∧v=.slice id 0 n esz∧σ'=σ.put id (.row (rep z n))
 | _=>False
theorem ar9 {op:IK}{id:Nat}{K:IV→Store→Prop}(hk:op.kind≤5):opR P E op id fr σ K↔∃ v σ',bd9 P E op id fr σ v σ'∧K v σ':=by
 cases op with
 | q q=>exact ⟨fun ⟨v,h,k⟩=>⟨v,σ,⟨h,rfl⟩,k⟩,fun ⟨v,_,⟨h,e⟩,k⟩=>by subst e; exact ⟨v,h,k⟩⟩
 | alloc z=>exact ⟨fun k=>⟨_,_,⟨rfl,rfl⟩,k⟩,fun ⟨_,_,⟨e1,e2⟩,k⟩=>by subst e1; subst e2; exact k⟩
 | box x=>exact ⟨fun ⟨h,k⟩=>⟨_,_,⟨h,rfl,rfl⟩,k⟩,fun ⟨_,_,⟨h,e1,e2⟩,k⟩=>by subst e1; subst e2; exact ⟨h,k⟩⟩
 | bsl e n z ps=>exact ⟨fun ⟨out,h,k⟩=>⟨_,_,⟨out,h,rfl,rfl⟩,k⟩,fun ⟨_,_,⟨out,h,e1,e2⟩,k⟩=>by subst e1; subst e2; exact ⟨out,h,k⟩⟩
 | app e s x=>exact ⟨fun ⟨r,h,k⟩=>⟨r.1,r.2,h,k⟩,fun ⟨v,σ',h,k⟩=>⟨(v,σ'),h,k⟩⟩
 | store e x y=>exact ⟨fun ⟨s,h,k⟩=>⟨_,s,⟨h,rfl⟩,k⟩,fun ⟨v,s,⟨h,e⟩,k⟩=>by subst e; exact ⟨s,h,k⟩⟩
 | pcall f xs=>exact ⟨fun ⟨v,h,k⟩=>⟨v,σ,⟨h,rfl⟩,k⟩,fun ⟨v,_,⟨h,e⟩,k⟩=>by subst e; exact ⟨v,h,k⟩⟩
 | bslt e n z ps=>exact ⟨fun ⟨out,h,k⟩=>⟨_,_,⟨out,h,rfl,rfl⟩,k⟩,fun ⟨_,_,⟨out,h,e1,e2⟩,k⟩=>by subst e1; subst e2; exact ⟨out,h,k⟩⟩
 | mksl e z x=>exact ⟨fun ⟨n,h,k⟩=>⟨_,_,⟨n,h,rfl,rfl⟩,k⟩,fun ⟨_,_,⟨n,h,e1,e2⟩,k⟩=>by subst e1; subst e2; exact ⟨n,h,k⟩⟩
 | boxt x=>exact ⟨fun ⟨h,k⟩=>⟨_,_,⟨h,rfl,rfl⟩,k⟩,fun ⟨_,_,⟨h,e1,e2⟩,k⟩=>by subst e1; subst e2; exact ⟨h,k⟩⟩
 | st k xs=>cases k with
  | nev=>exact ⟨fun ⟨r,h,_⟩=>by (cases h),fun ⟨_,_,h,_⟩=>h.elim⟩
  | _=>exact absurd hk (by simp[IK.kind,SK.kind])
 | _=>exact absurd hk (by simp[IK.kind])
theorem ba9 {op:IK}{id:Nat}{fr fr':Frm}{v:IV}(h:∀ t∈op.ops.flatMap IX.uses,fr.get t=fr'.get t):bd9 P E op id fr σ v σ'→bd9 P E op id fr' σ v σ':=by
 cases op with
 | q q=>simp only[bd9]; rw[fc6 h]; exact fun h=>h
 | alloc z=>exact fun h=>h
 | box x=>simp only[bd9]; rw[ad6 (x:=x) (fun t ht=>h t (by simp[IK.ops,ht]))]; exact fun h=>h
 | bsl e n z ps=>simp only[bd9]; rw[al3 h]; exact fun h=>h
 | app e s x=>simp only[bd9]; rw[ad6 (x:=s) (fun t ht=>h t (by simp[IK.ops,ht])),ad6 (x:=x) (fun t ht=>h t (by simp[IK.ops,ht]))]; exact fun h=>h
 | store e x y=>simp only[bd9]; rw[ad6 (x:=x) (fun t ht=>h t (by simp[IK.ops,ht])),ad6 (x:=y) (fun t ht=>h t (by simp[IK.ops,ht]))]; exact fun h=>h
 | pcall f xs=>simp only[bd9]; rw[ap7 (xs:=xs) h]; exact fun h=>h
 | bslt e n z ps=>simp only[bd9]; rw[al3 h]; exact fun h=>h
 | mksl e z x=>simp only[bd9]; rw[ad6 (x:=x) (fun t ht=>h t (by simp[IK.ops,ht]))]; exact fun h=>h
 | boxt x=>simp only[bd9]; rw[ad6 (x:=x) (fun t ht=>h t (by simp[IK.ops,ht]))]; exact fun h=>h
 | _=>exact fun h=>h
/-! ### Blocks that the one lays and the other does not see -/
def az6 (id:Nat):IV→Prop
 | .ptr i _|.slice i _ _ _|.map i|.cslice i _ _ _|.rslice i _ _ _ _=>i≠id
 | _=>True
theorem dx9 {id:Nat}{v:IV}{r:Value}(hv:VR ρ w v r)(h:ρ id=.no):az6 id v:=by
 cases hv<;>simp only[az6]<;>first|trivial|(intro e; subst e; simp_all)
theorem put_comm (i j:Nat)(x y:IObj)(h:i≠j):(σ.put i x).put j y=(σ.put j y).put i x:=by
 unfold Store.put
 congr 1
 funext k
 simp only
 split
 ·rename_i h1
  split
  ·rename_i h2; exact absurd (h2.symm.trans h1) h
  ·rfl
 ·rfl
theorem ac9 {id i:Nat}{o:IObj}(h:i≠id):(σ.put id o).obj i=σ.obj i:=by simp[Store.put,h]
theorem fc7 {tag id:Nat}{ob:IObj}{zero x k:IV}{ok:Bool}(h:az6 id x):dd5 (σ.put id ob) tag zero ok x k=dd5 σ tag zero ok x k:=by
 have:cb4 (σ.put id ob) x=cb4 σ x:=by
  cases x<;>try rfl
  simp only[cb4,ac9 h]
 unfold dd5
 rw[this]
theorem fc8 {tag id:Nat}{zero x k v:IV}{ok:Bool}(hn:σ.obj id=none)(h:dd5 σ tag zero ok x k=some v):az6 id x:=by
 cases x<;>simp only[az6]<;>try trivial
 all_goals (intro e; subst e; simp[dd5,cb4,hn] at h)
theorem dy1 {agg:Option Nat}{id:Nat}{ob:IObj}{ad:IV}(h:az6 id ad):ap5 (σ.put id ob) agg ad=ap5 σ agg ad:=by
 have:ai9 (σ.put id ob) ad=ai9 σ ad:=by
  cases ad<;>simp only[ai9]
  rename_i i off
  rw[ac9 h]
 unfold ap5
 rw[this]
theorem ei4 {agg:Option Nat}{id:Nat}{ad v:IV}(hn:σ.obj id=none)(h:ap5 σ agg ad=some v):az6 id ad:=by
 cases ad with
 | ptr i off=>
  intro e
  subst e
  simp[ap5,ai9,hn] at h
 | slice i o l e=>simp[ap5,ai9] at h
 | _=>trivial
theorem gm1 {id2 esz:Nat}{ob:IObj}{x:IV}(hx:az6 id2 x):ba4 (σ.put id2 ob) esz x=ba4 σ esz x:=by
 cases x<;>simp only[ba4]
 all_goals (rename_i i o l e; rw[ac9 hx])
theorem fu3 {id2 did:Nat}{ob:IObj}(h:did≠id2):(σ.put id2 ob).kill did=(σ.kill did).put id2 ob:=by
 unfold Store.put Store.kill
 congr 1
 funext k
 simp only
 split
 ·rename_i h1
  split
  ·rename_i h2; exact absurd (h1.symm.trans h2) h
  ·rfl
 ·rfl
theorem cn3 {id id2 esz:Nat}{ob:IObj}{s x:IV}(hs:az6 id2 s)(hx:az6 id2 x)(hne:id2≠id) :
  ax4 (σ.put id2 ob) id esz s x=(ax4 σ id esz s x).map fun r=>(r.1,r.2.put id2 ob):=by
 unfold ax4
 rw[gm1 hx]
 cases ba4 σ esz x with
 | none=>rfl
 | some p=>
  obtain ⟨n,xs⟩:=p
  simp only
  split
  ·rfl
  ·cases s with
   | nilslice=>
    simp only
    split
    ·rfl
    ·split
     ·simp[put_comm id2 id _ _ hne]
     ·rfl
   | zslice=>
    simp only
    split
    ·rfl
    ·split
     ·simp[put_comm id2 id _ _ hne]
     ·rfl
   | tslice es=>simp only; split<;>rfl
   | slice did off len e=>
    simp only
    have hd:did≠id2:=hs
    rw[ac9 hd]
    cases σ.obj did with
    | none=>rfl
    | some o=>
     cases o with
     | row cs=>
      simp only
      split
      ·rfl
      ·split
       ·simp[fu3 hd,put_comm id2 id _ _ hne]
       ·rfl
     | _=>rfl
   | cslice did off len e=>
    simp only
    have hd:did≠id2:=hs
    rw[ac9 hd]
    cases σ.obj did with
    | none=>rfl
    | some o=>
     cases o with
     | row cs=>
      simp only
      split
      ·rfl
      ·split
       ·simp[put_comm id2 id _ _ hne]
       ·rfl
     | _=>rfl
   | _=>rfl
theorem fc9 {id id2 esz:Nat}{s x v:IV}(hn:σ.obj id2=none)(h:ax4 σ id esz s x=some (v,σ')):az6 id2 s∧az6 id2 x:=by
 unfold ax4 at h
 split at h
 ·cases h
 ·rename_i n xs hsrc
  constructor
  ·split at h
   ·cases h
   ·split at h<;>first|trivial|skip
    ·rename_i did off len e
     intro e2
     subst e2
     rw[hn] at h
     simp at h
    ·rename_i did off len e
     intro e2
     subst e2
     rw[hn] at h
     simp at h
  ·cases x with
   | slice i o l e=>
    intro e2
    subst e2
    simp[ba4,hn] at hsrc
   | cslice i o l e=>
    intro e2
    subst e2
    simp[ba4,hn] at hsrc
   | ptr i o=>simp[ba4] at hsrc
   | _=>trivial
theorem bn2 {id esz:Nat}{s x v:IV}(hn:σ.obj id=none)(h:ax4 σ id esz s x=some (v,σ'))(i:Nat)(cs:List IV):σ.obj i=some (.cells cs)↔σ'.obj i=some (.cells cs):=by
 have put:∀ (σ:Store) (l:List IV),σ.obj id=none→(σ.obj i=some (.cells cs)↔(σ.put id (.row l)).obj i=some (.cells cs)):=by
  intro σ l hn
  by_cases hi:i=id
  ·subst hi; simp[Store.put,hn]
  ·rw[ac9 hi]
 unfold ax4 at h
 split at h
 ·cases h
 ·split at h
  ·cases h
  ·split at h
   ·split at h
    ·cases h; exact Iff.rfl
    ·split at h
     ·cases h; exact put σ _ hn
     ·cases h
   ·split at h
    ·cases h; exact Iff.rfl
    ·split at h
     ·cases h; exact put σ _ hn
     ·cases h
   ·split at h
    ·cases h; exact Iff.rfl
    ·cases h
   ·rename_i did off len e
    split at h
    ·rename_i cs' hd
     split at h
     ·cases h; exact Iff.rfl
     ·split at h
      ·cases h
       have hk:(σ.kill did).obj id=none:=by simp[Store.kill,hn]
       refine Iff.trans ?_ (put (σ.kill did) _ hk)
       by_cases hi:i=did
       ·subst hi; simp[Store.kill,hd]
       ·simp[Store.kill,hi]
      ·cases h
    ·cases h
   ·rename_i did off len e
    split at h
    ·rename_i cs' hd
     split at h
     ·cases h; exact Iff.rfl
     ·split at h
      ·cases h; exact put σ _ hn
      ·cases h
    ·cases h
   ·cases h
end Go.Id
/- Regions whose order is open: the ideal order serves for every order. Conditions: none; over any program. -/
namespace Go.Id
open Go
variable {P:Program} {w w' w'':World} {ρ ρ' ρ'':Rho} {E:Nat→IV} {σ σ':Store} {N n n':Nat} {fr:Frm} {a:Act} {pf:List Nat}
def au6 (E:Nat→IV)(fr:Frm)(σ:Store):IK→Prop
 | .q (.load _ x)=>match x.ev E fr with
  | .tptr _=>True
  | .ptr i _=>∃ cs,σ.obj i=some (.cells cs)
  | _=>False
 | _=>True
def ht6 (P:Program)(E:Nat→IV)(B act:Bool)(op:IK)(id:Nat)(fr:Frm)(σ:Store)(v:IV)(σ':Store):Prop :=
 if act then bd9 P E op id fr σ v σ'∧(B=true→au6 E fr σ op) else v=skV∧σ'=σ
def dy2 (B:Bool)(i j:Nat):Bool :=
 i==0&&j≤5||j==0&&i≤5||i==1&&j==1||i==1&&j==2||i==2&&j==2||i==3&&j==2||B&&i==1&&j==3||B&&i==3&&j==1||i==2&&j==1||i==2&&j==3||i==1&&j==5||i==5&&j==1||i==5&&j==5||i==5&&j==2||i==2&&j==5
def cf8 (B:Bool)(i j:Nat):Bool:=dy2 B i j||i==2&&j==4||i==4&&j==2
theorem ei5 {q:IQ}(h:q.kind=1):∃ ag x,q=.load ag x:=by
 cases q with
 | load ag x=>exact ⟨ag,x,rfl⟩
 | len k x=>
  exfalso
  match k,h with
  | 0,h=>simp[IQ.kind] at h
  | 1,h=>simp[IQ.kind] at h
  | k+2,h=>simp[IQ.kind] at h
 | _=>simp[IQ.kind] at h
theorem ei6 {op:IK}(h:op.kind=1):∃ ag x,op=.q (.load ag x):=by
 cases op with
 | q q=>obtain ⟨ag,x,rfl⟩:=ei5 h; exact ⟨ag,x,rfl⟩
 | st k xs=>cases k<;>simp[IK.kind,SK.kind] at h
 | _=>simp[IK.kind] at h
theorem bj8 (q:IQ):q.kind=0∨q.kind=1∨q.kind=5∨q.kind=6:=by
 cases q with
 | load ag x=>simp[IQ.kind]
 | len k x=>
  match k with
  | 0=>simp[IQ.kind]
  | 1=>simp[IQ.kind]
  | k+2=>simp[IQ.kind]
 | _=>simp[IQ.kind]
theorem gy9 {op:IK}(h:op.kind=1∨op.kind=5):∃ q,op=.q q:=by
 cases op with
 | q q=>exact ⟨q,rfl⟩
 | st k xs=>cases k<;>simp[IK.kind,SK.kind] at h
 | _=>simp[IK.kind] at h
theorem gz1 {op:IK}(h:op.kind=5):∃ t z ok x k,op=.q (.lkp t z ok x k):=by
 cases op with
 | q q=>
  cases q with
  | lkp t z ok x k=>exact ⟨t,z,ok,x,k,rfl⟩
  | len k x=>
   exfalso
   match k,h with
   | 0,h=>simp[IK.kind,IQ.kind] at h
   | 1,h=>simp[IK.kind,IQ.kind] at h
   | k+2,h=>simp[IK.kind,IQ.kind] at h
  | _=>simp[IK.kind,IQ.kind] at h
 | st k xs=>cases k<;>simp[IK.kind,SK.kind] at h
 | _=>simp[IK.kind] at h
theorem fu4 {op:IK}(h:op.kind=3):∃ e s x,op=.app e s x:=by
 cases op with
 | q q=>rcases bj8 q with h'|h'|h'|h'<;>simp[IK.kind,h'] at h
 | app e s x=>exact ⟨e,s,x,rfl⟩
 | st k xs=>cases k<;>simp[IK.kind,SK.kind] at h
 | _=>simp[IK.kind] at h
theorem gz2 {op:IK}(h:op.kind=4):∃ e a y,op=.store e a y:=by
 cases op with
 | q q=>rcases bj8 q with h'|h'|h'|h'<;>simp[IK.kind,h'] at h
 | store e a y=>exact ⟨e,a,y,rfl⟩
 | st k xs=>cases k<;>simp[IK.kind,SK.kind] at h
 | _=>simp[IK.kind] at h
theorem dg5 {id sz:Nat}{ob:IObj}{a v:IV}(h:az6 id a):aj1 (σ.put id ob) sz a v=(aj1 σ sz a v).map (·.put id ob):=by
 cases a with
 | ptr i off=>
  have hi:i≠id:=h
  simp only[aj1,ac9 hi]
  cases hc:σ.obj i with
  | none=>rfl
  | some o=>
   cases o with
   | cells cs=>
    simp only
    split
    ·simp only[Option.map_some]; rw[put_comm id i _ _ (fun e=>hi e.symm)]
    ·rfl
   | row cs=>
    simp only
    split
    ·simp only[Option.map_some]; rw[put_comm id i _ _ (fun e=>hi e.symm)]
    ·rfl
   | _=>rfl
 | _=>rfl
theorem dq6 {id sz:Nat}{a v:IV}(hn:σ.obj id=none)(h:aj1 σ sz a v=some σ'):az6 id a:=by
 cases a with
 | ptr i off=>intro e; subst e; simp[aj1,hn] at h
 | slice i o l e=>simp[aj1] at h
 | map i=>simp[aj1] at h
 | cslice i o l e=>simp[aj1] at h
 | rslice i o l r e=>simp[aj1] at h
 | _=>trivial
theorem bn3 {op:IK}{id:Nat}{v:IV}(hk:op.kind=0)(h:bd9 P E op id fr σ v σ'):σ'=σ∧∀ σ2,bd9 P E op id fr σ2 v σ2:=by
 cases op with
 | q q=>exact ⟨h.2,fun σ2=>⟨by rw[fu2 (σ':=σ) hk]; exact h.1,rfl⟩⟩
 | pcall f xs=>exact ⟨h.2,fun σ2=>⟨h.1,rfl⟩⟩
 | bslt e n z ps=>obtain ⟨out,h1,h2,h3⟩:=h; exact ⟨h3,fun _=>⟨out,h1,h2,rfl⟩⟩
 | boxt x=>obtain ⟨h1,h2,h3⟩:=h; exact ⟨h3,fun _=>⟨h1,h2,rfl⟩⟩
 | st k xs=>exact h.elim
 | _=>simp[IK.kind] at hk
theorem ak3 {op:IK}{id:Nat}{v:IV}(hk:op.kind=2)(h:bd9 P E op id fr σ v σ'):∃ ob,σ'=σ.put id ob∧∀ σ2,bd9 P E op id fr σ2 v (σ2.put id ob):=by
 cases op with
 | q q=>rcases bj8 q with h'|h'|h'|h'<;>simp[IK.kind,h'] at hk
 | alloc z=>exact ⟨_,h.2,fun σ2=>⟨h.1,rfl⟩⟩
 | box x=>exact ⟨_,h.2.2,fun σ2=>⟨h.1,h.2.1,rfl⟩⟩
 | bsl e n z ps=>obtain ⟨out,h1,h2,h3⟩:=h; exact ⟨_,h3,fun σ2=>⟨out,h1,h2,rfl⟩⟩
 | mksl e z x=>obtain ⟨n,h1,h2,h3⟩:=h; exact ⟨_,h3,fun σ2=>⟨n,h1,h2,rfl⟩⟩
 | st k xs=>exact h.elim
 | _=>simp[IK.kind] at hk
theorem bn4 {op:IK}{fr fr':Frm}(h:∀ t∈op.ops.flatMap IX.uses,fr.get t=fr'.get t):au6 E fr σ op→au6 E fr' σ op:=by
 cases op with
 | q q=>
  cases q with
  | load ag x=>simp only[au6]; rw[ad6 (x:=x) (fun t ht=>h t (by simp[IK.ops,IQ.ops,ht]))]; exact fun h=>h
  | _=>exact fun h=>h
 | _=>exact fun h=>h
theorem br7 {op:IK}{σ2:Store}(h:∀ i cs,σ.obj i=some (.cells cs)→∃ cs',σ2.obj i=some (.cells cs')):au6 E fr σ op→au6 E fr σ2 op:=by
 cases op with
 | q q=>
  cases q with
  | load ag x=>
   simp only[au6]
   split
   ·exact fun h=>h
   ·rintro ⟨cs,hc⟩; exact h _ cs hc
   ·exact fun h=>h
  | _=>exact fun h=>h
 | _=>exact fun h=>h
theorem af5 {op:IK}{σ2:Store}(hk:op.kind≠1):au6 E fr σ2 op:=by
 cases op with
 | q q=>
  cases q with
  | load ag x=>exact absurd rfl hk
  | _=>trivial
 | _=>trivial
theorem cz2 {B:Bool}{p x:IK}{ip ix:Nat}{fr1 fr2:Frm}{σ1 σ2:Store}{vp vx:IV}(hp:bd9 P E p ip fr σ vp σ1)(hpb:B=true→au6 E fr σ p)(hx:bd9 P E x ix fr1 σ1 vx σ2)(hxb:B=true→au6 E fr1 σ1 x)
  (hfree:cf8 B p.kind x.kind=true) (hfx:∀ t∈x.ops.flatMap IX.uses,fr1.get t=fr.get t) (hfp:∀ t∈p.ops.flatMap IX.uses,fr.get t=fr2.get t)
  (hne:ip≠ix) (hnp:σ.obj ip=none) (hnx:σ.obj ix=none) (hH:p.kind=2→∀ y∈x.ops,az6 ip (y.ev E fr)) :
  ∃ σ1',bd9 P E x ix fr σ vx σ1'∧(B=true→au6 E fr σ x)∧bd9 P E p ip fr2 σ1' vp σ2∧(B=true→au6 E fr2 σ1' p):=by
 have hx':=ba9 hfx hx
 have hxb':B=true→au6 E fr σ1 x:=fun hb=>bn4 hfx (hxb hb)
 have hp':∀ {s s' v},bd9 P E p ip fr s v s'→bd9 P E p ip fr2 s v s':=fun h=>ba9 hfp h
 have hpb':∀ {s},au6 E fr s p→au6 E fr2 s p:=fun h=>bn4 hfp h
 by_cases kp0:p.kind=0
 ·obtain ⟨rfl,hall⟩:=bn3 kp0 hp
  exact ⟨σ2,hx',hxb',hp' (hall σ2),fun _=>hpb' (af5 (by omega))⟩
 by_cases kx0:x.kind=0
 ·obtain ⟨rfl,hall⟩:=bn3 kx0 hx'
  exact ⟨σ,hall σ,fun _=>af5 (by omega),hp' hp,fun hb=>hpb' (hpb hb)⟩
 by_cases n1:p.kind=2∧x.kind=4
 ·obtain ⟨k1,k2⟩:=n1
  obtain ⟨ob,rfl,hall⟩:=ak3 k1 hp
  obtain ⟨e,a,y,rfl⟩:=gz2 k2
  have r1:=hH k1 a (by simp[IK.ops])
  simp only[bd9] at hx'
  obtain ⟨hx1,rfl⟩:=hx'
  rw[dg5 r1] at hx1
  obtain ⟨s,h1,rfl⟩:=map_some hx1
  exact ⟨s,⟨h1,rfl⟩,fun _=>trivial,hp' (hall s),fun _=>af5 (by omega)⟩
 by_cases n2:p.kind=4∧x.kind=2
 ·obtain ⟨k1,k2⟩:=n2
  obtain ⟨e,a,y,rfl⟩:=gz2 k1
  obtain ⟨ob,rfl,hall⟩:=ak3 k2 hx'
  obtain ⟨h1,rfl⟩:=hp
  refine ⟨σ.put ix ob,hall σ,fun _=>af5 (by omega),hp' ⟨?_,rfl⟩,fun _=>trivial⟩
  rw[dg5 (dq6 hnx h1),h1]
  rfl
 have hfree:dy2 B p.kind x.kind=true:=by
  unfold cf8 at hfree
  simp only[Bool.or_eq_true,Bool.and_eq_true,beq_iff_eq] at hfree
  rcases hfree with (h|h)|h
  ·exact h
  ·exact absurd h n1
  ·exact absurd h n2
 have hcases:(p.kind=1∧x.kind=1)∨(p.kind=1∧x.kind=2)∨(p.kind=2∧x.kind=2)∨(p.kind=3∧x.kind=2)∨(B=true∧p.kind=1∧x.kind=3)∨(B=true∧p.kind=3∧x.kind=1)∨(p.kind=2∧x.kind=1)∨(p.kind=2∧x.kind=3)∨((p.kind=1∨p.kind=5)∧(x.kind=1∨x.kind=5))∨(p.kind=5∧x.kind=2)∨(p.kind=2∧x.kind=5):=by
  unfold dy2 at hfree
  simp only[Bool.or_eq_true,Bool.and_eq_true,beq_iff_eq,decide_eq_true_eq] at hfree
  rcases hfree with ((((((((((((((h|h)|h)|h)|h)|h)|h)|h)|h)|h)|h)|h)|h)|h)|h)
  ·exact absurd h.1 kp0
  ·exact absurd h.1 kx0
  ·exact .inl h
  ·exact .inr (.inl h)
  ·exact .inr (.inr (.inl h))
  ·exact .inr (.inr (.inr (.inl h)))
  ·exact .inr (.inr (.inr (.inr (.inl ⟨h.1.1,h.1.2,h.2⟩))))
  ·exact .inr (.inr (.inr (.inr (.inr (.inl ⟨h.1.1,h.1.2,h.2⟩)))))
  ·exact .inr (.inr (.inr (.inr (.inr (.inr (.inl h))))))
  ·exact .inr (.inr (.inr (.inr (.inr (.inr (.inr (.inl h)))))))
  ·exact .inr (.inr (.inr (.inr (.inr (.inr (.inr (.inr (.inl ⟨.inl h.1,.inr h.2⟩))))))))
  ·exact .inr (.inr (.inr (.inr (.inr (.inr (.inr (.inr (.inl ⟨.inr h.1,.inl h.2⟩))))))))
  ·exact .inr (.inr (.inr (.inr (.inr (.inr (.inr (.inr (.inl ⟨.inr h.1,.inr h.2⟩))))))))
  ·exact .inr (.inr (.inr (.inr (.inr (.inr (.inr (.inr (.inr (.inl h)))))))))
  ·exact .inr (.inr (.inr (.inr (.inr (.inr (.inr (.inr (.inr (.inr h)))))))))
 rcases hcases with ⟨k1,k2⟩|⟨k1,k2⟩|⟨k1,k2⟩|⟨k1,k2⟩|⟨hB,k1,k2⟩|⟨hB,k1,k2⟩|⟨k1,k2⟩|⟨k1,k2⟩|⟨k1,k2⟩|⟨k1,k2⟩|⟨k1,k2⟩
 ·obtain ⟨ag,y,rfl⟩:=ei6 k1
  obtain ⟨ag',y',rfl⟩:=ei6 k2
  obtain ⟨h1,rfl⟩:=hp
  obtain ⟨h2,rfl⟩:=hx'
  exact ⟨_,⟨h2,rfl⟩,hxb',hp' ⟨h1,rfl⟩,fun hb=>hpb' (hpb hb)⟩
 ·obtain ⟨ag,y,rfl⟩:=ei6 k1
  obtain ⟨h1,rfl⟩:=hp
  obtain ⟨ob,rfl,hall⟩:=ak3 k2 hx'
  refine ⟨σ1.put ix ob,hall σ1,fun _=>af5 (by omega),hp' ⟨?_,rfl⟩,fun hb=>hpb' (br7 (fun i cs hc=>⟨cs,by rw[ac9 (fun e=>by subst e; rw[hnx] at hc; cases hc)]; exact hc⟩) (hpb hb))⟩
  simp only[evq] at h1 ⊢
  rw[dy1 (ei4 hnx h1)]; exact h1
 ·obtain ⟨ob,rfl,hall⟩:=ak3 k1 hp
  obtain ⟨ob',rfl,hall'⟩:=ak3 k2 hx'
  refine ⟨σ.put ix ob',hall' σ,fun _=>af5 (by omega),?_,fun _=>af5 (by omega)⟩
  rw[put_comm ip ix _ _ hne]
  exact hp' (hall _)
 ·obtain ⟨e,s,y,rfl⟩:=fu4 k1
  obtain ⟨ob,rfl,hall⟩:=ak3 k2 hx'
  refine ⟨σ.put ix ob,hall σ,fun _=>af5 (by omega),hp' ?_,fun _=>af5 (by omega)⟩
  obtain ⟨n1,n2⟩:=fc9 (id2:=ix) hnx hp
  simp only[bd9] at hp ⊢
  rw[cn3 n1 n2 (fun e=>hne e.symm),hp]
  rfl
 ·obtain ⟨ag,y,rfl⟩:=ei6 k1
  obtain ⟨e,s,z,rfl⟩:=fu4 k2
  obtain ⟨h1,rfl⟩:=hp
  have hb:=hpb hB
  refine ⟨σ2,hx',fun _=>trivial,hp' ⟨?_,rfl⟩,fun _=>hpb' (br7 (fun i cs hc=>⟨cs,(bn2 hnx hx' i cs).1 hc⟩) hb)⟩
  simp only[evq] at h1 ⊢
  rw[← h1]
  simp only[au6] at hb
  split at hb
  ·rename_i he; rw[he]; rfl
  ·rename_i i off he
   obtain ⟨cs,hc⟩:=hb
   have hc':=(bn2 hnx hx' i cs).1 hc
   rw[he]
   simp[ap5,ai9,hc,hc']
  ·exact hb.elim
 ·obtain ⟨e,s,z,rfl⟩:=fu4 k1
  obtain ⟨ag,y,rfl⟩:=ei6 k2
  obtain ⟨h2,rfl⟩:=hx'
  have hb:=hxb' hB
  refine ⟨σ,⟨?_,rfl⟩,fun _=>br7 (fun i cs hc=>⟨cs,(bn2 hnp hp i cs).2 hc⟩) hb,hp' hp,fun _=>trivial⟩
  simp only[evq] at h2 ⊢
  rw[← h2]
  simp only[au6] at hb
  split at hb
  ·rename_i he; rw[he]; rfl
  ·rename_i i off he
   obtain ⟨cs,hc⟩:=hb
   have hc':=(bn2 hnp hp i cs).2 hc
   rw[he]
   simp[ap5,ai9,hc,hc']
  ·exact hb.elim
 ·obtain ⟨ob,rfl,hall⟩:=ak3 k1 hp
  obtain ⟨ag,y,rfl⟩:=ei6 k2
  obtain ⟨h2,rfl⟩:=hx'
  have hr:=hH k1 y (by simp[IK.ops,IQ.ops])
  refine ⟨σ,⟨?_,rfl⟩,fun hb=>?_,hp' hp,fun _=>af5 (by omega)⟩
  ·simp only[evq] at h2 ⊢
   rw[dy1 hr] at h2; exact h2
  ·have:=hxb' hb
   simp only[au6] at this ⊢
   split
   ·trivial
   ·rename_i i off he
    rw[he] at this hr
    obtain ⟨cs,hc⟩:=this
    exact ⟨cs,by rw[ac9 hr] at hc; exact hc⟩
   ·rename_i h1 h2
    generalize y.ev E fr=q at *
    cases q<;>first|exact this|exact (h1 _ rfl).elim|exact (h2 _ _ rfl).elim
 ·obtain ⟨ob,rfl,hall⟩:=ak3 k1 hp
  obtain ⟨e,s,z,rfl⟩:=fu4 k2
  have r1:=hH k1 s (by simp[IK.ops])
  have r2:=hH k1 z (by simp[IK.ops])
  simp only[bd9] at hx'
  rw[cn3 r1 r2 hne] at hx'
  obtain ⟨⟨v',s'⟩,h1,h2⟩:=map_some hx'
  cases h2
  exact ⟨s',h1,fun _=>trivial,hp' (hall _),fun _=>af5 (by omega)⟩
 ·obtain ⟨q1,rfl⟩:=gy9 k1
  obtain ⟨q2,rfl⟩:=gy9 k2
  obtain ⟨h1,rfl⟩:=hp
  obtain ⟨h2,rfl⟩:=hx'
  exact ⟨_,⟨h2,rfl⟩,hxb',hp' ⟨h1,rfl⟩,fun hb=>hpb' (hpb hb)⟩
 ·obtain ⟨t,z,ok,y,k,rfl⟩:=gz1 k1
  obtain ⟨h1,rfl⟩:=hp
  obtain ⟨ob,rfl,hall⟩:=ak3 k2 hx'
  refine ⟨σ1.put ix ob,hall σ1,fun _=>af5 (by omega),hp' ⟨?_,rfl⟩,fun hb=>trivial⟩
  simp only[evq] at h1 ⊢
  rw[fc7 (fc8 hnx h1)]; exact h1
 ·obtain ⟨ob,rfl,hall⟩:=ak3 k1 hp
  obtain ⟨t,z,ok,y,k,rfl⟩:=gz1 k2
  obtain ⟨h2,rfl⟩:=hx'
  have hr:=hH k1 y (by simp[IK.ops,IQ.ops])
  refine ⟨σ,⟨?_,rfl⟩,fun hb=>trivial,hp' hp,fun _=>af5 (by omega)⟩
  simp only[evq] at h2 ⊢
  rw[fc7 hr] at h2; exact h2
end Go.Id
/- Regions whose order is open,whole. Conditions: none; over any program. -/
namespace Go.Id
open Go
variable {P:Program} {w w' w'':World} {ρ ρ' ρ'':Rho} {E:Nat→IV} {σ σ':Store} {N n n':Nat} {fr:Frm} {a:Act} {pf:List Nat}
abbrev Item:=Nat×IOper×Nat
def gz3 (P:Program)(E:Nat→IV)(B:Bool)(o:IOper)(id:Nat)(fr:Frm)(σ:Store)(K:Frm→Store→Prop):Prop :=
 ∃ act,av2 o fr=some act∧(if act then opR P E o.op id fr σ (fun v σ'=>K (fr.setd o.dst v) σ')∧(B=true→au6 E fr σ o.op) else K (fr.setd o.dst skV) σ)
def bj9 (P:Program)(E:Nat→IV)(B:Bool):List Item→Frm→Store→(Frm→Store→Prop)→Prop
 | [],fr,σ,K=>K fr σ
 | (_,o,id)::rest,fr,σ,K=>gz3 P E B o id fr σ fun fr' σ'=>bj9 P E B rest fr' σ' K
theorem at5 (fr:Frm)(d:Option Nat)(v:IV)(t:Nat):(fr.setd d v).get t=if d=some t then v else fr.get t:=by
 cases d with
 | none=>simp[Frm.setd]
 | some d=>
  simp only[Frm.setd,Frm.get_set,Option.some.injEq]
  by_cases h:t=d
  ·subst h; simp
  ·have:¬ d=t:=fun e=>h e.symm
   simp[h,this]
theorem cc9 {fr fr':Frm}(h:FEq fr fr')(d:Option Nat)(v:IV):FEq (fr.setd d v) (fr'.setd d v):=fun t=>by rw[at5,at5,h t]
theorem fd2 {op:IK}{id:Nat}{fr fr':Frm}{K:IV→Store→Prop}(h:FEq fr fr'):opR P E op id fr σ K→opR P E op id fr' σ K:=by
 have hev:∀ x:IX,x.ev E fr=x.ev E fr':=fun x=>ad6 fun t _=>h t
 have hmap:∀ xs:List IX,xs.map (·.ev E fr)=xs.map (·.ev E fr'):=fun xs=>ap7 fun t _=>h t
 cases op with
 | q q=>simp only[opR]; rw[fc6 (fun t _=>h t)]; exact fun h=>h
 | alloc z=>exact fun h=>h
 | box x=>simp only[opR]; rw[hev x]; exact fun h=>h
 | bsl e n z ps=>simp only[opR]; rw[al3 (fun t _=>h t)]; exact fun h=>h
 | store e x y=>simp only[opR]; rw[hev x,hev y]; exact fun h=>h
 | app e x y=>simp only[opR]; rw[hev x,hev y]; exact fun h=>h
 | mkmap=>exact fun h=>h
 | srange x=>simp only[opR]; rw[hev x]; exact fun h=>h
 | snext x=>simp only[opR]; rw[hev x]; exact fun h=>h
 | mupd t x y z=>simp only[opR]; rw[hev x,hev y,hev z]; exact fun h=>h
 | call f xs=>simp only[opR]; rw[hmap]; exact fun h=>h
 | pcall f xs=>simp only[opR]; rw[hmap]; exact fun h=>h
 | callv x xs=>simp only[opR]; rw[hmap,hev]; exact fun h=>h
 | bslt e n z ps=>simp only[opR]; rw[al3 (fun t _=>h t)]; exact fun h=>h
 | boxt x=>simp only[opR]; rw[hev x]; exact fun h=>h
 | mrange x=>simp only[opR]; rw[hev x]; exact fun h=>h
 | mnext x=>simp only[opR]; rw[hev x]; exact fun h=>h
 | ment x=>simp only[opR]; rw[hev x]; exact fun h=>h
 | mksl e z x=>simp only[opR]; rw[hev x]; exact fun h=>h
 | clr e z x=>simp only[opR]; rw[hev x]; exact fun h=>h
 | st k xs=>simp only[opR]; rw[hmap]; exact fun h=>h
theorem ag6 {op:IK}{id:Nat}{K K':IV→Store→Prop}(hK:∀ v σ,K v σ→K' v σ):opR P E op id fr σ K→opR P E op id fr σ K':=by
 cases op with
 | q q=>exact fun ⟨v,h,k⟩=>⟨v,h,hK _ _ k⟩
 | alloc z=>exact fun k=>hK _ _ k
 | box x=>exact fun ⟨h,k⟩=>⟨h,hK _ _ k⟩
 | bsl e n z ps=>exact fun ⟨out,h,k⟩=>⟨out,h,hK _ _ k⟩
 | store e x y=>exact fun ⟨s,h,k⟩=>⟨s,h,hK _ _ k⟩
 | app e x y=>exact fun ⟨r,h,k⟩=>⟨r,h,hK _ _ k⟩
 | mkmap=>exact fun k=>hK _ _ k
 | srange x=>exact fun ⟨s,h,k⟩=>⟨s,h,hK _ _ k⟩
 | snext x=>exact fun ⟨s,h,k⟩=>⟨s,h,hK _ _ k⟩
 | mupd t x y z=>exact fun ⟨s,h,k⟩=>⟨s,h,hK _ _ k⟩
 | call f xs=>exact fun ⟨Q,h,k⟩=>⟨Q,h,fun v s q=>⟨(k v s q).1,hK _ _ (k v s q).2⟩⟩
 | pcall f xs=>exact fun ⟨v,h,k⟩=>⟨v,h,hK _ _ k⟩
 | callv x xs=>exact fun ⟨Q,h,k⟩=>⟨Q,h,fun v s q=>⟨(k v s q).1,hK _ _ (k v s q).2⟩⟩
 | bslt e n z ps=>exact fun ⟨out,h,k⟩=>⟨out,h,hK _ _ k⟩
 | boxt x=>exact fun ⟨h,k⟩=>⟨h,hK _ _ k⟩
 | mrange x=>exact fun ⟨s,h,k⟩=>⟨s,h,hK _ _ k⟩
 | ment x=>exact fun ⟨v,h,k⟩=>⟨v,h,hK _ _ k⟩
 | mksl e z x=>exact fun ⟨n,h,k⟩=>⟨n,h,hK _ _ k⟩
 | clr e z x=>exact fun ⟨s,h,hn,k⟩=>⟨s,h,hn,hK _ _ k⟩
 | st e xs=>exact fun ⟨r,h,k⟩=>⟨r,h,hK _ _ k⟩
 | mnext x=>exact fun ⟨i,l,h,k1,k2⟩=>⟨i,l,h,fun e=>hK _ _ (k1 e),fun j hj=>hK _ _ (k2 j hj)⟩
theorem ax7 {o:IOper}{fr fr':Frm}(h:∀ t∈o.uses,fr.get t=fr'.get t):av2 o fr=av2 o fr':=by
 unfold av2
 cases hg:o.guard with
 | none=>rfl
 | some p=>
  obtain ⟨s,want⟩:=p
  simp only
  rw[h s (by simp[IOper.uses,hg])]
theorem fu5 {B:Bool}{o:IOper}{id:Nat}{fr fr':Frm}{K K':Frm→Store→Prop}(h:FEq fr fr')(hK:∀ f f' s,FEq f f'→K f s→K' f' s):gz3 P E B o id fr σ K→gz3 P E B o id fr' σ K':=by
 rintro ⟨act,ha,hh⟩
 refine ⟨act,by rw[← ax7 (fun t _=>h t)]; exact ha,?_⟩
 cases act with
 | true=>
  obtain ⟨h1,h2⟩:=hh
  exact ⟨ag6 (fun v s k=>hK _ _ _ (cc9 h _ _) k) (fd2 h h1),fun hb=>bn4 (fun t _=>h t) (h2 hb)⟩
 | false=>exact hK _ _ _ (cc9 h _ _) hh
theorem dg6 {B:Bool}{K:Frm→Store→Prop}(hK:∀ f f' s,FEq f f'→K f s→K f' s):∀ (its:List Item) (fr fr':Frm) (σ:Store),FEq fr fr'→bj9 P E B its fr σ K→bj9 P E B its fr' σ K:=by
 intro its
 induction its with
 | nil=>exact fun fr fr' σ h k=>hK _ _ _ h k
 | cons it its ih=>
  obtain ⟨i,o,id⟩:=it
  exact fun fr fr' σ h k=>fu5 h (fun f f' s hf kk=>ih f f' s hf kk) k
def fd3 (p x:IOper):Prop :=
 (∀ d,x.dst=some d→d ∉ p.uses∧p.dst≠some d)∧(∀ d,p.dst=some d→d ∉ x.uses)
def fd4 (B:Bool)(p x:IOper):Prop:=cf8 B p.op.kind x.op.kind=true∧fd3 p x
theorem cz3 {B:Bool}{i j:Nat}(h:cf8 B i j=true):i≤5∧j≤5:=by
 unfold cf8 dy2 at h
 simp only[Bool.or_eq_true,Bool.and_eq_true,beq_iff_eq,decide_eq_true_eq] at h
 omega
theorem dg7 {op:IK}{id i:Nat}{v:IV}(hk:op.kind≤5)(hi:i≠id)(h:bd9 P E op id fr σ v σ')(hn:σ.obj i=none):σ'.obj i=none:=by
 cases op with
 | q q=>rw[h.2]; exact hn
 | alloc z=>rw[h.2,ac9 hi]; exact hn
 | box x=>rw[h.2.2,ac9 hi]; exact hn
 | bsl e n z ps=>obtain ⟨out,_,_,h3⟩:=h; rw[h3,ac9 hi]; exact hn
 | store e x y=>
  obtain ⟨h,_⟩:=h
  unfold aj1 at h
  split at h
  ·rename_i j off hx
   split at h
   ·rename_i cs hc
    split at h
    ·cases h
     rw[ac9 (fun e=>by subst e; rw[hn] at hc; cases hc)]; exact hn
    ·cases h
   ·rename_i cs hc
    split at h
    ·cases h
     rw[ac9 (fun e=>by subst e; rw[hn] at hc; cases hc)]; exact hn
    ·cases h
   ·cases h
  ·cases h
 | pcall f xs=>rw[h.2]; exact hn
 | app e s x=>
  simp only[bd9] at h
  unfold ax4 at h
  split at h
  ·cases h
  ·split at h
   ·cases h
   ·split at h
    ·split at h
     ·cases h; exact hn
     ·split at h
      ·cases h; rw[ac9 hi]; exact hn
      ·cases h
    ·split at h
     ·cases h; exact hn
     ·split at h
      ·cases h; rw[ac9 hi]; exact hn
      ·cases h
    ·split at h
     ·cases h; exact hn
     ·cases h
    ·split at h
     ·split at h
      ·cases h; exact hn
      ·split at h
       ·cases h; rw[ac9 hi]; simp only[Store.kill]; split<;>simp[hn]
       ·cases h
     ·cases h
    ·split at h
     ·split at h
      ·cases h; exact hn
      ·split at h
       ·cases h; rw[ac9 hi]; exact hn
       ·cases h
     ·cases h
    ·cases h
 | bslt e n z ps=>obtain ⟨_,_,_,rfl⟩:=h; exact hn
 | boxt x=>obtain ⟨_,_,rfl⟩:=h; exact hn
 | mksl e z x=>obtain ⟨_,_,_,rfl⟩:=h; rw[ac9 hi]; exact hn
 | st k xs=>exact h.elim
 | _=>exact absurd hk (by simp[IK.kind])
theorem ar1 {o:IOper}{t:Nat}(h:t∈o.op.ops.flatMap IX.uses):t∈o.uses:=by unfold IOper.uses; exact List.mem_append_left _ h
theorem ih9 {B:Bool}{K:Frm→Store→Prop}(hK:∀ f f' s,FEq f f'→K f s→K f' s){ix:Nat}{x:IOper}{kx:Nat}{post:List Item} :
  ∀ (pre:List Item) (fr:Frm) (σ:Store),(∀ p∈pre,fd4 B p.2.1 x)→(∀ p∈pre,p.2.2≠kx∧σ.obj p.2.2=none)→(pre.map (·.2.2)).Nodup→(pre≠[]→σ.obj kx=none) →
   (∀ p∈pre,p.2.1.op.kind=2→∀ y∈x.op.ops,az6 p.2.2 (y.ev E fr)) →
   bj9 P E B (pre++(ix,x,kx)::post) fr σ K→gz3 P E B x kx fr σ fun fr' σ'=>bj9 P E B (pre++post) fr' σ' K:=by
 intro pre
 induction pre with
 | nil=>intro fr σ _ _ _ _ _ h; exact h
 | cons p pre ih=>
  intro fr σ hfree hids hnd hnx hH h
  obtain ⟨ip,p,kp⟩:=p
  obtain ⟨hk,hap⟩:=hfree _ (List.mem_cons_self ..)
  obtain ⟨hpx,hkp⟩:=hids _ (List.mem_cons_self ..)
  simp only at hk hap hpx hkp
  obtain ⟨kp3,kx3⟩:=cz3 hk
  have hnx:=hnx (by simp)
  obtain ⟨ap,hact,hh⟩:=h
  -- what p gives
  have hp:∃ vp σ1,ht6 P E B ap p.op kp fr σ vp σ1∧bj9 P E B (pre++(ix,x,kx)::post) (fr.setd p.dst vp) σ1 K:=by
   cases ap with
   | true=>
    obtain ⟨h1,h2⟩:=hh
    obtain ⟨vp,σ1,hd,k⟩:=(ar9 kp3).1 h1
    exact ⟨vp,σ1,⟨hd,h2⟩,k⟩
   | false=>exact ⟨skV,σ,⟨rfl,rfl⟩,hh⟩
  obtain ⟨vp,σ1,hd,htree⟩:=hp
  have hfx:∀ t∈x.uses,(fr.setd p.dst vp).get t=fr.get t:=fun t ht=>by
   rw[at5,if_neg]; intro e; exact hap.2 t e ht
  have fresh1:∀ i,i≠kp→σ.obj i=none→σ1.obj i=none:=fun i hi h0=>by
   cases ap with
   | true=>exact dg7 kp3 hi hd.1 h0
   | false=>obtain ⟨_,rfl⟩:=hd; exact h0
  have hnd':=List.nodup_cons.1 (show (kp::pre.map (·.2.2)).Nodup from hnd)
  obtain ⟨ax,hactx,hhx⟩:=ih (fr.setd p.dst vp) σ1 (fun q hq=>hfree q (List.mem_cons_of_mem _ hq))
   (fun q hq=>⟨(hids q (List.mem_cons_of_mem _ hq)).1,fresh1 _ (fun e=>hnd'.1 (by rw[← e]; exact List.mem_map.2 ⟨q,hq,rfl⟩)) (hids q (List.mem_cons_of_mem _ hq)).2⟩)
   hnd'.2 (fun _=>fresh1 kx (fun e=>hpx e.symm) hnx)
   (fun q hq hk2 y hy=>by
    have:y.ev E (fr.setd p.dst vp)=y.ev E fr:=ad6 fun t ht=>hfx t (ar1 (List.mem_flatMap.2 ⟨y,hy,ht⟩))
    rw[this]; exact hH q (List.mem_cons_of_mem _ hq) hk2 y hy) htree
  have hx:∃ vx σ2,ht6 P E B ax x.op kx (fr.setd p.dst vp) σ1 vx σ2∧bj9 P E B (pre++post) ((fr.setd p.dst vp).setd x.dst vx) σ2 K:=by
   cases ax with
   | true=>
    obtain ⟨h1,h2⟩:=hhx
    obtain ⟨vx,σ2,hd,k⟩:=(ar9 kx3).1 h1
    exact ⟨vx,σ2,⟨hd,h2⟩,k⟩
   | false=>exact ⟨skV,σ1,⟨rfl,rfl⟩,hhx⟩
  obtain ⟨vx,σ2,hdx,htree2⟩:=hx
  have hactx':av2 x fr=some ax:=by rw[← ax7 hfx]; exact hactx
  have hfp:∀ t∈p.uses,fr.get t=(fr.setd x.dst vx).get t:=fun t ht=>by
   rw[at5,if_neg]; intro e; exact (hap.1 t e).1 ht
  have hactp':av2 p (fr.setd x.dst vx)=some ap:=by rw[← ax7 hfp]; exact hact
  have feq:FEq ((fr.setd p.dst vp).setd x.dst vx) ((fr.setd x.dst vx).setd p.dst vp):=fun t=>by
   simp only[at5]
   by_cases h1:x.dst=some t
   ·have h2:p.dst≠some t:=(hap.1 t h1).2
    simp[h1,h2]
   ·simp[h1]
  have swap:∃ σ1',ht6 P E B ax x.op kx fr σ vx σ1'∧ht6 P E B ap p.op kp (fr.setd x.dst vx) σ1' vp σ2:=by
   cases ap with
   | true=>
    cases ax with
    | true=>
     obtain ⟨σ1',s1,s2,s3,s4⟩:=cz2 hd.1 hd.2 hdx.1 hdx.2 hk (fun t ht=>hfx t (ar1 ht)) (fun t ht=>hfp t (ar1 ht)) hpx hkp hnx (hH _ (List.mem_cons_self ..))
     exact ⟨σ1',⟨s1,s2⟩,⟨s3,s4⟩⟩
    | false=>
     obtain ⟨rfl,rfl⟩:=hdx
     exact ⟨σ,⟨rfl,rfl⟩,ba9 (fun t ht=>hfp t (ar1 ht)) hd.1,fun hb=>bn4 (fun t ht=>hfp t (ar1 ht)) (hd.2 hb)⟩
   | false=>
    obtain ⟨rfl,rfl⟩:=hd
    cases ax with
    | true=>exact ⟨σ2,⟨ba9 (fun t ht=>hfx t (ar1 ht)) hdx.1,fun hb=>bn4 (fun t ht=>hfx t (ar1 ht)) (hdx.2 hb)⟩,rfl,rfl⟩
    | false=>obtain ⟨rfl,rfl⟩:=hdx; exact ⟨_,⟨rfl,rfl⟩,rfl,rfl⟩
  obtain ⟨σ1',d1,d2⟩:=swap
  have inner:gz3 P E B p kp (fr.setd x.dst vx) σ1' fun fr' σ'=>bj9 P E B (pre++post) fr' σ' K:=by
   refine ⟨ap,hactp',?_⟩
   cases ap with
   | true=>exact ⟨(ar9 kp3).2 ⟨vp,σ2,d2.1,dg6 hK _ _ _ _ feq htree2⟩,d2.2⟩
   | false=>obtain ⟨rfl,rfl⟩:=d2; exact dg6 hK _ _ _ _ feq htree2
  refine ⟨ax,hactx',?_⟩
  cases ax with
  | true=>exact ⟨(ar9 kx3).2 ⟨vx,σ1',d1.1,inner⟩,d1.2⟩
  | false=>obtain ⟨rfl,rfl⟩:=d1; exact inner
end Go.Id
/- Regions whose order is open: the theorem. Conditions: none; over any program. -/
namespace Go.Id
open Go
variable {P:Program} {w w' w'':World} {ρ ρ' ρ'':Rho} {E:Nat→IV} {σ σ':Store} {N n n':Nat} {fr:Frm} {a:Act} {pf:List Nat}
def IX.quiet:IX→Bool
 | .c (.ptr _ _)=>false
 | .c (.slice _ _ _ _)=>false
 | .c (.map _)=>false
 | .c (.cslice _ _ _ _)=>false
 | .c (.rslice _ _ _ _ _)=>false
 | _=>true
theorem IX.quiet_noRef {x:IX}{id:Nat}(hq:x.quiet=true)(hs:Sim E ρ w σ)(hf:FR ρ w N fr a.tmps)(h:ρ id=.no):az6 id (x.ev E fr):=by
 cases x with
 | t n=>exact dx9 (hf.get n) h
 | c v=>cases v<;>first|trivial|cases hq
 | g n=>exact dx9 (hs.env n) h
 | f n=>trivial
structure Rem (P:Program) (pf:List Nat) (N:Nat) (ops:Array Oper) (B:Bool) (anc:Nat→Nat→Prop) (base:Nat) (rem:List Item) (listed:Array Bool):Prop where
 size:listed.size=ops.size
 un:∀ j,j<ops.size→(listed.getD j true=false↔∃ it∈rem,it.1=j)
 its:∀ it∈rem,∃ o,ops[it.1]? = some o∧br5 P pf N ops o=some it.2.1∧it.2.2=base+it.1∧∀ y∈it.2.1.op.ops,IX.quiet y=true
 pw:rem.Pairwise fun p x=>(anc p.1 x.1∨fd4 B p.2.1 x.2.1)∧p.1≠x.1∧∀ o,ops[p.1]? = some o→∀ e∈o.after,Region.binds .any e=true→e.on≠x.1
 dc:∀ j,listed.getD j false=true→∀ k,anc k j→listed.getD k false=true
theorem getD_lt {l:Array Bool}{j:Nat}(h:l.getD j true=false):j<l.size:=by
 rcases Nat.lt_or_ge j l.size with h'|h'
 ·exact h'
 ·simp[Array.getElem?_eq_none h'] at h
theorem fd5 {l:Array Bool}{j:Nat}(h:l.getD j false=true):l.getD j true=true:=by
 rcases Nat.lt_or_ge j l.size with h'|h'
 ·simp[h'] at h ⊢; exact h
 ·simp[Array.getElem?_eq_none h'] at h
theorem fd6 {ops:Array Oper} {B:Bool} {anc:Nat→Nat→Prop} {n0 base:Nat} {ro:Option Nat} {Qw:Exit→Act→World→Prop} {K:Frm→Store→Prop} {ρ0:Rho} {w0:World} {ds:List Deferred}
  (hKf:∀ f f' s,FEq f f'→K f s→K f' s)
  (hfin:∀ fr σ ρ w a,n0≤σ.next→K fr σ→Sim E ρ w σ→FR ρ w N fr a.tmps→a.defers=ds→ExtW n0 ρ0 w0 ρ w→Qw .normal a w)
  (hed:∀ j o,ops[j]? = some o→∀ e∈o.after,Region.binds .any e=true→e.on<ops.size∧e.on≠j)
  (hanc:∀ k j,anc k j→∀ o,ops[j]? = some o→∃ e∈o.after,Region.binds .any e=true∧(e.on=k∨anc k e.on)) :
  ∀ (fuel:Nat) (rem:List Item) (listed:Array Bool) (fr:Frm) (σ:Store) (ρ:Rho) (w:World) (a:Act),rem.length=fuel→Rem P pf N ops B anc base rem listed→bj9 P E B rem fr σ K →
   Sim E ρ w σ→FR ρ w N fr a.tmps→a.defers=ds→ExtW n0 ρ0 w0 ρ w→n0≤base→base+ops.size≤σ.next→(∀ it∈rem,ρ it.2.2=.no) →
   wpAnyIn (fw ro) 0 P .any ops Qw fuel listed a w:=by
 intro fuel
 induction fuel with
 | zero=>
  intro rem listed fr σ ρ w a hlen hr h hs hf hd hx hn0 hnx hno
  have:rem=[]:=List.length_eq_zero_iff.1 hlen
  subst this
  refine ⟨?_,hfin fr σ ρ w a (by omega) h hs hf hd hx⟩
  rw[List.eq_nil_iff_forall_not_mem]
  intro j hj
  obtain ⟨h0,_⟩:=mem_ready.1 hj
  obtain ⟨it,hit,_⟩:=(hr.un j (by rw[← hr.size]; exact getD_lt h0)).1 h0
  cases hit
 | succ fuel ih=>
  intro rem listed fr σ ρ w a hlen hr h hs hf hd hx hn0 hnx hno
  refine ⟨fun hemp=>?_,fun i hi=>?_⟩
  ·exfalso
   cases rem with
   | nil=>cases hlen
   | cons it rem=>
    obtain ⟨o,ho,hc,hid,_⟩:=hr.its it (List.mem_cons_self ..)
    have hlt:it.1<ops.size:=by
     rcases Nat.lt_or_ge it.1 ops.size with h'|h'
     ·exact h'
     ·simp[Array.getElem?_eq_none h'] at ho
    have:it.1∈Region.ready .any ops listed:=by
     refine mem_ready.2 ⟨(hr.un _ hlt).2 ⟨it,List.mem_cons_self ..,rfl⟩,o,ho,fun e he hb=>?_⟩
     obtain ⟨h1,h2⟩:=hed _ o ho e he hb
     have hj:e.on<listed.size:=by rw[hr.size]; exact h1
     by_cases hL:listed.getD e.on true=false
     ·obtain ⟨jt,hjt,hje⟩:=(hr.un _ h1).1 hL
      rcases List.mem_cons.1 hjt with rfl|hjt
      ·exact absurd hje.symm h2
      ·exact absurd hje.symm (((List.pairwise_cons.1 hr.pw).1 jt hjt).2.2 o ho e he hb)
     ·simp[hj] at hL ⊢; exact hL
    rw[hemp] at this
    cases this
  ·obtain ⟨h0,o,ho,hall⟩:=mem_ready.1 hi
   have hlt:i<ops.size:=by rw[← hr.size]; exact getD_lt h0
   obtain ⟨it,hit,hie⟩:=(hr.un i hlt).1 h0
   obtain ⟨pre,post,rfl⟩:=List.append_of_mem hit
   obtain ⟨ix,x,kx⟩:=it
   simp only at hie
   subst hie
   obtain ⟨o',ho',hc,hkx,hqx⟩:=hr.its _ hit
   simp only at ho' hc hkx hqx
   rw[ho] at ho'
   cases ho'
   obtain ⟨hpp,hxp,hcross⟩:=List.pairwise_append.1 hr.pw
   have hcx:=fun p hp=>hcross p hp _ (List.mem_cons_self ..)
   have hnotL:∀ p∈pre,listed.getD p.1 false≠true:=fun p hp hL=>by
    obtain ⟨op,hop,_⟩:=hr.its p (List.mem_append_left _ hp)
    have hpl:p.1<ops.size:=by
     rcases Nat.lt_or_ge p.1 ops.size with h'|h'
     ·exact h'
     ·simp[Array.getElem?_eq_none h'] at hop
    have:=(hr.un p.1 hpl).2 ⟨p,List.mem_append_left _ hp,rfl⟩
    rw[fd5 hL] at this
    cases this
   have hfree:∀ p∈pre,fd4 B p.2.1 x:=fun p hp=>by
    rcases (hcx p hp).1 with ha|hf
    ·exfalso
     obtain ⟨e,he,hb,heq⟩:=hanc _ _ ha o ho
     have hle:=hall e he hb
     rcases heq with heq|ha'
     ·exact hnotL p hp (by rw[← heq]; exact hle)
     ·exact hnotL p hp (hr.dc _ hle _ ha')
    ·exact hf
   have hidp:∀ p∈pre,p.2.2=base+p.1:=fun p hp=>by
    obtain ⟨_,_,_,h1,_⟩:=hr.its p (List.mem_append_left _ hp)
    exact h1
   have hpull:=ih9 (P:=P) (E:=E) (B:=B) (K:=K) hKf (ix:=ix) (x:=x) (kx:=kx) (post:=post) pre fr σ hfree
    (fun p hp=>⟨by rw[hidp p hp,hkx]; have:=(hcx p hp).2.1; omega,hs.noObj _ (hno p (List.mem_append_left _ hp))⟩)
    (by
     rw[List.nodup_iff_pairwise_ne,List.pairwise_map]
     refine (List.Pairwise.and_mem.1 hpp).imp ?_
     intro p q ⟨hp,hq,h1⟩
     rw[hidp p hp,hidp q hq]
     have:=h1.2.1
     omega)
    (fun _=>hs.noObj _ (hno _ hit))
    (fun p hp _ y hy=>IX.quiet_noRef (hqx y hy) hs hf (hno p (List.mem_append_left _ hp))) h
   obtain ⟨⟨fz,hk⟩,hdst,hdN,hg⟩:=bj7 hc
   have hidx:kx<σ.next∧n0≤kx:=by rw[hkx]; omega
   have hmem:∀ it∈pre++post,it∈pre++(ix,x,kx)::post:=fun it h=>by
    rcases List.mem_append.1 h with h|h
    ·exact List.mem_append_left _ h
    ·exact List.mem_append_right _ (List.mem_cons_of_mem _ h)
   have hne:∀ it∈pre++post,it.1≠ix:=fun it h=>by
    rcases List.mem_append.1 h with h|h
    ·exact (hcx it h).2.1
    ·exact fun e=>((List.pairwise_cons.1 hxp).1 it h).2.1 e.symm
   have hrem:Rem P pf N ops B anc base (pre++post) (listed.setIfInBounds ix true):=by
    refine ⟨by simp[hr.size],fun j hj=>?_,fun it hit=>hr.its it (hmem it hit),?_,?_⟩
    ·by_cases hji:j=ix
     ·subst hji
      have:j<listed.size:=by rw[hr.size]; exact hj
      constructor
      ·intro h; simp[this] at h
      ·rintro ⟨it,h1,h2⟩; exact absurd h2 (hne it h1)
     ·rw[getD_set_ne true (Ne.symm hji),hr.un j hj]
      constructor
      ·rintro ⟨it,h1,h2⟩
       refine ⟨it,?_,h2⟩
       rcases List.mem_append.1 h1 with h1|h1
       ·exact List.mem_append_left _ h1
       ·rcases List.mem_cons.1 h1 with rfl|h1
        ·exact absurd h2.symm hji
        ·exact List.mem_append_right _ h1
      ·rintro ⟨it,h1,h2⟩; exact ⟨it,hmem it h1,h2⟩
    ·exact hr.pw.sublist (List.Sublist.append (List.Sublist.refl _) (List.sublist_cons_self _ _))
    ·intro j hj k hk
     by_cases hji:j=ix
     ·subst hji
      obtain ⟨e,he,hb,heq⟩:=hanc _ _ hk o ho
      have hle:=hall e he hb
      rcases heq with rfl|ha'
      ·exact getD_set_true hle
      ·exact getD_set_true (hr.dc _ hle _ ha')
     ·rw[getD_set_ne false (Ne.symm hji)] at hj
      exact getD_set_true (hr.dc _ hj _ hk)
   have hlen':(pre++post).length=fuel:=by simp at hlen ⊢; omega
   have hne2:∀ it∈pre++post,it.2.2≠kx:=fun it h=>by
    obtain ⟨_,_,_,h1,_⟩:=hr.its it (hmem it h)
    rw[h1,hkx]
    have:=hne it h
    omega
   unfold wpOpIn
   simp only[ho]
   obtain ⟨act,hact,hh⟩:=hpull
   have run:opR P E x.op kx fr σ (fun v σ'=>bj9 P E B (pre++post) (fr.setd x.dst v) σ' K)→o.wpIn (fw ro) 0 P a w (wpAnyIn (fw ro) 0 P .any ops Qw fuel (listed.setIfInBounds ix true)) Qw:=by
    intro hop
    refine cy8 hk hop hs hf (by omega) (fun hl=>⟨hno _ hit,hidx.1,hidx.2⟩) ?_
    intro v σ' r ρ' w' hnx' hK hs' hv' hx' hno'
    refine ih (pre++post) _ _ σ' ρ' w' (a.put o.dst r) hlen' hrem hK hs' ?_ (by rw[put_defers]; exact hd) (hx.trans (hx'.weak (Nat.le_refl _))) hn0 (by omega) ?_
    ·rw[hdst]; exact FR.setd (hf.mono hx') hdN hv'
    ·intro jt hjt
     obtain ⟨jo,hjo,_,h1,_⟩:=hr.its jt (hmem jt hjt)
     have hjl:jt.1<ops.size:=by
      rcases Nat.lt_or_ge jt.1 ops.size with h'|h'
      ·exact h'
      ·simp[Array.getElem?_eq_none h'] at hjo
     exact hno' _ (by rw[h1]; omega) (fun _=>hne2 jt hjt) (hno _ (hmem jt hjt))
   rcases hg with ⟨hg1,hg2⟩|⟨j,want,s,hg1,hgs,hg2⟩
   ·have hw:Region.wanted o (yielded ops a.tmps)=true:=by unfold Region.wanted; rw[hg1]
    rw[if_pos hw]
    simp only[av2,hg2,Option.some.injEq] at hact
    subst hact
    exact run hh.1
   ·simp only[av2,hg2] at hact
    have hw:=bm8 hg1 hgs hf hact
    rw[hw]
    cases act with
    | true=>exact run hh.1
    | false=>
     refine ⟨fun f _=>trivial,?_⟩
     exact ih (pre++post) _ _ σ ρ w (a.put o.dst undef) hlen' hrem hh hs (by rw[hdst]; exact FR.setd hf hdN fc2) (by rw[put_defers]; exact hd) hx hn0 hnx (fun jt hjt=>hno _ (hmem jt hjt))
end Go.Id
