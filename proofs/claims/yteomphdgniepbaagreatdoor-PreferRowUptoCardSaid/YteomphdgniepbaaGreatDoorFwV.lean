/- A function compiled,whole: its code and its results. Conditions: none; over any program. -/
import Derived.Test.YteomphdgniepbaaGreatDoorFwI
set_option linter.all false
namespace Go.Id
open Go
variable {P:Program} {w w' w'':World} {ρ ρ' ρ'':Rho} {E:Nat→IV} {σ σ':Store} {N n n':Nat} {fr:Frm} {a:Act} {pf:List Nat}
inductive IR where
 | t (n:Nat)
 | cell (agg:Option Nat) (n:Nat)
 deriving Inhabited
def iv3 (P:Program):ResultVar→Option IR
 | .tmp t=>some (.t t)
 | .cell ad t=>match al5 P t with
  | some agg=>some (.cell agg ad)
  | none=>none
def et1 (P:Program):List ResultVar→Option (List IR)
 | []=>some []
 | r::rs=>match iv3 P r,et1 P rs with
  | some x,some xs=>some (x::xs)
  | _,_=>none
def irV (σ:Store)(fr:Frm):IR→Option IV
 | .t n=>some (fr.get n)
 | .cell agg n=>au8 σ agg (fr.get n)
def irL (σ:Store)(fr:Frm):List IR→Option (List IV)
 | []=>some []
 | r::rs=>match irV σ fr r,irL σ fr rs with
  | some v,some vs=>some (v::vs)
  | _,_=>none
theorem gr6:∀ (rs:List ResultVar) (irs:List IR),et1 P rs=some irs→gf2 P σ fr rs=irL σ fr irs:=by
 intro rs
 induction rs with
 | nil=>intro irs h; cases h; rfl
 | cons r rs ih=>
  intro irs h;simp only[et1] at h;split at h
  ·rename_i x xs hx hxs;cases h
   have h1:il6 P σ fr r=irV σ fr x:=by
    cases r with
    | tmp t=>cases hx; rfl
    | cell ad t=>
     simp only[iv3] at hx;split at hx
     ·rename_i agg hagg;cases hx;simp[il6,irV,hagg]
     ·cases hx
   simp only[gf2,irL,h1,ih _ hxs];cases irV σ fr x<;>cases irL σ fr xs<;>rfl
  ·cases h
def gr7 (P:Program)(f N:Nat)(pf:List Nat)(an:Ann)(ic:IC)(irs:List IR):Prop :=
 ∃ fn,P.funcs[f]? = some fn∧fn.ntmps=N∧fn.body.bind (ba8 P pf N an)=some ic∧et1 P fn.results.toList=some irs
theorem ac5 {f:Nat}{fn:Func}{an:Ann}{ic:IC}{irs:List IR}(h:P.funcs[f]? = some fn)(hN:fn.ntmps=N)(hc:fn.body.bind (ba8 P pf N an)=some ic)(hr:et1 P fn.results.toList=some irs):gr7 P f N pf an ic irs :=
 ⟨fn,h,hN,hc,hr⟩
def iv4 (irs:List IR)(Qc:IV→Store→Prop):Exit→Frm→Store→Prop
 | .normal,fr,σ|.ret,fr,σ=>∃ vs,irL σ fr irs=some vs∧Qc (es3 vs) σ
 | _,_,_=>False
theorem iz3 {f:Nat}{an:Ann}{ic:IC}{irs:List IR}{args:List IV}{Qc:IV→Store→Prop}(hf:gr7 P f N pf an ic irs)(hl:args.length≤N)
  (h:wpI P E N σ.next ic (be1 args 0) σ (iv4 irs Qc)):C P E f args σ Qc:=by
 obtain ⟨fn,h1,h2,h3,h4⟩:=hf
 cases hb:fn.body with
 | none=>rw[hb] at h3; cases h3
 | some c=>
  rw[hb] at h3;refine ic6 h1 hb h2 hl ((bg9 ic _ _ _ h pf an c h3).mono ?_);intro e fr' σ' q;cases e<;>first|(obtain ⟨vs,q1,q2⟩:=q; exact ⟨vs,by rw[gr6 _ _ h4]; exact q1,q2⟩)|exact q
end Go.Id
/- Frames,by what is asked of them. Conditions: none; over any program. -/
namespace Go.Id
open Go
theorem Frm.bk8 (t s:Nat)(v:IV)(fr:Frm):Frm.get ((t,v)::fr) s=if s=t then v else Frm.get fr s:=Frm.by3 fr t s v
end Go.Id
/- The walk by tables: what functions give,as functions; the form that is rewritten. Conditions: none; over any program. -/
namespace Go.Id
open Go
universe u
variable {P:Program} {E:Nat→IV} {σ σ':Store} {N n n0:Nat} {fr:Frm} {a:Act} {pf:List Nat}
abbrev PT:=Nat→List IV→Option IV
abbrev CT:=Nat→List IV→Store→Option (IV→Store→Prop)
structure TOK (P:Program) (E:Nat→IV) (pt:PT) (ct:CT):Prop where
 p:∀ f args v,pt f args=some v→PC P E f args v
 c:∀ f args σ Q,ct f args σ=some Q→okF P f=true∧C P E f args σ Q
def noP:PT:=fun _ _=>none
def noC:CT:=fun _ _ _=>none
theorem noT:TOK P E noP noC:=⟨(fun _ _ _ h=>by cases h),(fun _ _ _ _ h=>by cases h)⟩
theorem et2 {f:Nat}{args:List IV}:noP f args=none:=by unfold noP; exact Eq.trans rfl rfl
theorem et3 {f:Nat}{args:List IV}:noC f args σ=none:=by unfold noC; exact Eq.trans rfl rfl
def bx9 {α:Type}:Option α→(α→Prop)→Prop
 | some v,K=>K v
 | none,_=>False
def gz5:IV→(Bool→Prop)→Prop
 | .bool b,K=>K b
 | _,_=>False
def gr8 (v:IV)(want:Bool)(A B:Prop):Prop :=
 match gy9 v want with
 | some true=>A
 | some false=>B
 | none=>False
theorem dq4 {v:IV}{want:Bool}{A B:Prop}(h:gr8 v want A B):∃ act,gy9 v want=some act∧if act=true then A else B:=by
 unfold gr8 at h;split at h
 ·rename_i ha; exact ⟨true,ha,h⟩
 ·rename_i ha; exact ⟨false,ha,h⟩
 ·exact h.elim
theorem ak4 {α:Type}{o:Option α}{K:α→Prop}(h:bx9 o K):∃ v,o=some v∧K v:=by
 cases o with
 | none=>exact h.elim
 | some v=>exact ⟨v,rfl,h⟩
theorem et4 {o:IV}{K:Bool→Prop}(h:gz5 o K):∃ b,o=.bool b∧K b:=by
 cases o<;>first|exact ⟨_,rfl,h⟩|exact h.elim
def ct9 (P:Program)(E:Nat→IV)(o:Option (IV→Store→Prop))(f:Nat)(args:List IV)(σ:Store)(K:IV→Store→Prop):Prop :=
 match o with
 | some Q=>∀ v s,Q v s→σ.next≤s.next∧K v s
 | none=>∃ Q,(okF P f=true∧C P E f args σ Q)∧∀ v s,Q v s→σ.next≤s.next∧K v s
def gg8 (P:Program)(E:Nat→IV)(o:Option IV)(f:Nat)(args:List IV)(σ:Store)(K:IV→Store→Prop):Prop :=
 match o with
 | some v=>K v σ
 | none=>∃ v,PC P E f args v∧K v σ
def opT (pt:PT)(ct:CT)(P:Program)(E:Nat→IV)(op:IK)(id:Nat)(fr:Frm)(σ:Store)(K:IV→Store→Prop):Prop :=
 match op with
 | .q q=>bx9 (evq E fr σ q) fun v=>K v σ
 | .alloc z=>K (.ptr id 0) (σ.put id (.cells z))
 | .box x=>(x.ev E fr).cs.all IV.leaf=true∧K (.ptr id 0) (σ.put id (.cells (x.ev E fr).cs))
 | .bsl esz n z parts=>bx9 (as8 (rep z n) (parts.map fun p=>(p.1,p.2.1,p.2.2.ev E fr))) fun out=>K (.slice id 0 n esz) (σ.put id (.row out))
 | .store sz x y=>bx9 (am5 σ sz (x.ev E fr) (y.ev E fr)) fun σ'=>K .undef σ'
 | .bf1 x=>match x.ev E fr with
  | .str s=>K (.ptr id 0) (σ.put id (.bb2 s 0))
  | _=>False
 | .co7 x=>bx9 (bg7 σ (x.ev E fr)) fun r=>K r.1 r.2
 | .bp3=>K (.map id) (σ.put id (.map []))
 | .dh6 tag x k v=>bx9 (as9 σ tag (x.ev E fr) (k.ev E fr) (v.ev E fr)) fun σ'=>K .undef σ'
 | .app esz s x=>bx9 (bd4 σ id esz (s.ev E fr) (x.ev E fr)) fun r=>K r.1 r.2
 | .call f args=>ct9 P E (ct f (args.map (·.ev E fr)) σ) f (args.map (·.ev E fr)) σ K
 | .ag1 f args=>gg8 P E (pt f (args.map (·.ev E fr))) f (args.map (·.ev E fr)) σ K
 | .ah6 x args=>match x.ev E fr with
  | .func (.func f) first cap=>ct9 P E (ct f (first++args.map (·.ev E fr)++cap) σ) f (first++args.map (·.ev E fr)++cap) σ K
  | .yield i=>∃ Q,CV P E (.yield i) (args.map (·.ev E fr)) σ Q∧∀ v σ',Q v σ'→σ.next≤σ'.next∧K v σ'
  | _=>False
 | .aw2 esz n z parts=>bx9 (as8 (rep z n) (parts.map fun p=>(p.1,p.2.1,p.2.2.ev E fr))) fun out=>K (.aa3 (chunk esz n out)) σ
 | .ai7 x=>(x.ev E fr).cs.all IV.leaf=true∧K (.ac2 (x.ev E fr).cs) σ
 | .ba1 x=>match x.ev E fr with
  | .ap7 es=>K (.ptr id 0) (σ.put id (.ap8 es none))
  | _=>False
 | .bz5 x=>bx9 (bg8 σ (x.ev E fr)) fun r=>(r.2=[]→K (.tuple [.bool false]) σ) ∧
   ∀ j,j<r.2.length→K (.tuple [.bool true,(r.2.getD j (.undef,.undef)).1,(r.2.getD j (.undef,.undef)).2]) (σ.put r.1 (.ap8 (r.2.eraseIdx j) (some (r.2.getD j (.undef,.undef)))))
 | .es8 x=>bx9 (ci7 σ (x.ev E fr)) fun v=>K v σ
 | .cv9 esz z x=>bx9 (dg3 (x.ev E fr)) fun n=>K (.slice id 0 n esz) (σ.put id (.row (rep z n)))
 | .clr esz z x=>bx9 (fk3 σ esz z (x.ev E fr)) fun σ'=>σ'.next=σ.next∧K .undef σ'
 | .st k xs=>bx9 (stI k id σ (xs.map (·.ev E fr))) fun r=>K r.1 r.2
theorem cw1 {pt:PT}{ct:CT}(hT:TOK P E pt ct){f:Nat}{args:List IV}{K:IV→Store→Prop}(h:ct9 P E (ct f args σ) f args σ K):∃ Q,(okF P f=true∧C P E f args σ Q)∧∀ v s,Q v s→σ.next≤s.next∧K v s:=by
 cases ho:ct f args σ with
 | none=>rw[ho] at h; exact h
 | some Q=>rw[ho] at h; exact ⟨Q,hT.c _ _ _ Q ho,h⟩
theorem bu5 {pt:PT}{ct:CT}(hT:TOK P E pt ct){op:IK}{id:Nat}{K:IV→Store→Prop}(h:opT pt ct P E op id fr σ K):opR P E op id fr σ K:=by
 cases op with
 | q q=>exact ak4 h
 | alloc z=>exact h
 | box x=>exact h
 | bsl e n z ps=>exact ak4 h
 | store e x y=>exact ak4 h
 | app e s x=>exact ak4 h
 | bp3=>exact h
 | bf1 x=>
  simp only[opT] at h;split at h
  ·rename_i s he; exact ⟨s,he,h⟩
  ·exact h.elim
 | co7 x=>exact ak4 h
 | dh6 t x y z=>exact ak4 h
 | call f xs=>
  obtain ⟨Q,h1,h2⟩:=cw1 hT h
  exact ⟨Q,h1.2,h2⟩
 | ag1 f xs=>
  simp only[opT] at h
  cases ho:pt f (xs.map (·.ev E fr)) with
  | none=>rw[ho] at h; exact h
  | some v=>rw[ho] at h; exact ⟨v,hT.p _ _ _ ho,h⟩
 | ah6 x xs=>
  simp only[opT] at h;split at h
  ·rename_i f first cap he
   obtain ⟨Q,h1,h2⟩:=cw1 hT h;refine ⟨Q,?_,h2⟩;rw[he];exact h1
  ·rename_i i he;rw[← he] at h;exact h
  ·exact h.elim
 | aw2 e n z ps=>exact ak4 h
 | ai7 x=>exact h
 | ba1 x=>
  simp only[opT] at h;split at h
  ·rename_i s he; exact ⟨s,he,h⟩
  ·exact h.elim
 | bz5 x=>
  obtain ⟨⟨i,l⟩,h1,h2⟩:=ak4 h
  exact ⟨i,l,h1,h2⟩
 | es8 x=>exact ak4 h
 | cv9 e z x=>exact ak4 h
 | clr e z x=>exact ak4 h
 | st k xs=>exact ak4 h
def bu6 (pt:PT) (ct:CT) (P:Program) (E:Nat→IV):List ae2→Nat→Frm→Store→(Frm→Store→Prop)→Prop
 | [],_,fr,σ,K=>K fr σ
 | o::rest,id,fr,σ,K=>
  match o.guard with
  | none=>opT pt ct P E o.op id fr σ fun v σ'=>bu6 pt ct P E rest (if o.op.lays then id+1 else id) (fr.al1 o.dst v) σ' K
  | some (s,want)=>gr8 (fr.get s) want (opT pt ct P E o.op id fr σ fun v σ'=>bu6 pt ct P E rest (if o.op.lays then id+1 else id) (fr.al1 o.dst v) σ' K)
    (bu6 pt ct P E rest (if o.op.lays then id+1 else id) (fr.al1 o.dst skV) σ K)
theorem ea2 {pt:PT}{ct:CT}(hT:TOK P E pt ct):∀ (ops:List ae2) (id:Nat) (fr:Frm) (σ:Store) (K:Frm→Store→Prop),bu6 pt ct P E ops id fr σ K→bu1 P E ops id fr σ K:=by
 intro ops
 induction ops with
 | nil=>intro id fr σ K h; exact h
 | cons o os ih=>
  intro id fr σ K h;obtain ⟨d,g,op⟩:=o
  cases g with
  | none=>
   simp only[bu6,bu1] at h ⊢
   exact ⟨true,rfl,ak1 (fun v s k=>ih _ _ _ _ k) (bu5 hT h)⟩
  | some p=>
   obtain ⟨s,want⟩:=p;simp only[bu6,bu1] at h ⊢;obtain ⟨act,ha,h⟩:=dq4 h;refine ⟨act,ha,?_⟩
   cases act with
   | true=>
    rw[if_pos rfl] at h ⊢
    exact ak1 (fun v s k=>ih _ _ _ _ k) (bu5 hT h)
   | false=>
    rw[if_neg (by simp)] at h ⊢;exact ih _ _ _ _ h
def by1 (E:Nat→IV)(fr:Frm)(σ:Store):IK→Prop
 | .q (.load _ x)=>match x.ev E fr with
  | .ac2 _=>True
  | .ptr i _=>match σ.obj i with
   | some (.cells _)=>True
   | _=>False
  | _=>False
 | _=>True
theorem cw2 {op:IK}(h:by1 E fr σ op):ba6 E fr σ op:=by
 cases op with
 | q q=>
  cases q with
  | load ag x=>
   simp only[by1,ba6] at h ⊢;cases he:x.ev E fr<;>rw[he] at h<;>simp only at h ⊢;rename_i i off
   cases ho:σ.obj i with
   | none=>rw[ho] at h; exact h.elim
   | some ob=>
    rw[ho] at h
    cases ob<;>first|exact ⟨_,rfl⟩|exact h.elim
  | _=>trivial
 | _=>trivial
def bh7 (pt:PT) (ct:CT) (P:Program) (E:Nat→IV) (B:Bool):List ae2→Nat→Frm→Store→(Frm→Store→Prop)→Prop
 | [],_,fr,σ,K=>K fr σ
 | o::rest,id,fr,σ,K=>
  match o.guard with
  | none=>(B=true→by1 E fr σ o.op)∧opT pt ct P E o.op id fr σ fun v σ'=>bh7 pt ct P E B rest (id+1) (fr.al1 o.dst v) σ' K
  | some (s,want)=>gr8 (fr.get s) want ((B=true→by1 E fr σ o.op)∧opT pt ct P E o.op id fr σ fun v σ'=>bh7 pt ct P E B rest (id+1) (fr.al1 o.dst v) σ' K)
    (bh7 pt ct P E B rest (id+1) (fr.al1 o.dst skV) σ K)
theorem ea3 {pt:PT}{ct:CT}(hT:TOK P E pt ct){B:Bool}{base:Nat}:∀ (ops:List ae2) (i:Nat) (fr:Frm) (σ:Store) (K:Frm→Store→Prop),bh7 pt ct P E B ops (base+i) fr σ K→br1 P E B (eh4 base i ops) fr σ K:=by
 intro ops
 induction ops with
 | nil=>intro i fr σ K h; exact h
 | cons o os ih=>
  intro i fr σ K h;obtain ⟨d,g,op⟩:=o
  cases g with
  | none=>
   simp only[bh7] at h
   exact ⟨true,rfl,ak1 (fun v s k=>ih _ _ _ _ k) (bu5 hT h.2),fun hb=>cw2 (h.1 hb)⟩
  | some p=>
   obtain ⟨s,want⟩:=p;simp only[bh7] at h;obtain ⟨act,ha,h⟩:=dq4 h;refine ⟨act,ha,?_⟩
   cases act with
   | true=>exact ⟨ak1 (fun v s k=>ih _ _ _ _ k) (bu5 hT h.2),fun hb=>cw2 (h.1 hb)⟩
   | false=>exact ih _ _ _ _ h
def wpT (pt:PT)(ct:CT)(P:Program)(E:Nat→IV)(N n0:Nat):IC→Frm→Store→(Exit→Frm→Store→Prop)→Prop
 | .skip,fr,σ,Q=>Q .normal fr σ
 | .reg _ ops keep,fr,σ,Q=>bu6 pt ct P E ops σ.next fr ⟨σ.next+bu2 ops,σ.obj⟩ (fun fr' σ'=>Q .normal (fr'.keep keep) σ')
 | .aj9 _ ops B keep,fr,σ,Q=>bh7 pt ct P E B ops σ.next fr ⟨σ.next+ops.length,σ.obj⟩ (fun fr' σ'=>Q .normal (fr'.keep keep) σ')
 | .hr6 _ ops keep,fr,σ,Q=>av3 P E (gw9 σ.next ops) [] fr { σ with next:=σ.next+ops.length } (fun fr' σ'=>Q .normal (fr'.keep keep) σ')
 | .seq a b,fr,σ,Q=>wpT pt ct P E N n0 a fr σ (fun e fr' σ'=>match e with|.normal=>wpT pt ct P E N n0 b fr' σ' Q|e=>Q e fr' σ')
 | .cond x a b,fr,σ,Q=>gz5 (x.ev E fr) fun t=>if t=true then wpT pt ct P E N n0 a fr σ Q else wpT pt ct P E N n0 b fr σ Q
 | .block id a,fr,σ,Q=>wpT pt ct P E N n0 a fr σ (bp9 id Q)
 | .loop a,fr,σ,Q=>RI P E N n0 (.loop a) fr σ Q
 | .exit id,fr,σ,Q=>Q (.exit id) fr σ
 | .ret,fr,σ,Q=>Q .ret fr σ
 | .bh2 g ps y a,fr,σ,Q=>RI P E N n0 (.bh2 g ps y a) fr σ Q
 | .scope a,fr,σ,Q=>wpT pt ct P E N n0 a fr σ (fk7 Q)
theorem bu7:∀ (ic:IC) (fr:Frm) (σ:Store) (Q Q':Exit→Frm→Store→Prop),(∀ e f s,Q e f s→Q' e f s)→wpI P E N n0 ic fr σ Q→wpI P E N n0 ic fr σ Q':=by
 have hrops:∀ (ops:List ae2) (id:Nat) (fr:Frm) (σ:Store) (K K':Frm→Store→Prop),(∀ f s,K f s→K' f s)→bu1 P E ops id fr σ K→bu1 P E ops id fr σ K':=by
  intro ops
  induction ops with
  | nil=>intro id fr σ K K' hk h; exact hk _ _ h
  | cons o os ih=>
   intro id fr σ K K' hk h;simp only[bu1] at h ⊢;obtain ⟨act,ha,h⟩:=h;refine ⟨act,ha,?_⟩
   cases act with
   | true=>
    rw[if_pos rfl] at h ⊢
    exact ak1 (fun v s k=>ih _ _ _ _ _ hk k) h
   | false=>
    rw[if_neg (by simp)] at h ⊢;exact ih _ _ _ _ _ hk h
 have htree:∀ (its:List Item) (B:Bool) (fr:Frm) (σ:Store) (K K':Frm→Store→Prop),(∀ f s,K f s→K' f s)→br1 P E B its fr σ K→br1 P E B its fr σ K':=by
  intro its
  induction its with
  | nil=>intro B fr σ K K' hk h; exact hk _ _ h
  | cons it its ih=>
   intro B fr σ K K' hk h;obtain ⟨i,o,id⟩:=it;obtain ⟨act,ha,hh⟩:=h;refine ⟨act,ha,?_⟩
   cases act with
   | true=>exact ⟨ak1 (fun v s k=>ih _ _ _ _ _ hk k) hh.1,hh.2⟩
   | false=>exact ih _ _ _ _ _ hk hh
 intro ic
 induction ic with
 | skip=>intro fr σ Q Q' hq h; exact hq _ _ _ h
 | reg id ops keep=>intro fr σ Q Q' hq h; exact hrops _ _ _ _ _ _ (fun f s k=>hq _ _ _ k) h
 | aj9 id ops B keep=>intro fr σ Q Q' hq h; exact htree _ _ _ _ _ _ (fun f s k=>hq _ _ _ k) h
 | hr6 id ops keep=>intro fr σ Q Q' hq h; exact er7 _ _ _ _ (fun f s k=>hq _ _ _ k) h
 | seq x y ihx ihy=>
  intro fr σ Q Q' hq h;refine ihx _ _ _ _ ?_ h;intro e f s k
  cases e with
  | normal=>exact ihy _ _ _ _ hq k
  | _=>exact hq _ _ _ k
 | cond x a b iha ihb=>
  intro fr σ Q Q' hq h;obtain ⟨t,ht,h⟩:=h;refine ⟨t,ht,?_⟩
  cases t with
  | true=>exact iha _ _ _ _ hq h
  | false=>exact ihb _ _ _ _ hq h
 | block id x ih=>
  intro fr σ Q Q' hq h;refine ih _ _ _ _ ?_ h;intro e f s k
  cases e with
  | exit i=>simp only[bp9] at k ⊢; split<;>rename_i hi<;>simp only[hi,if_true,if_false] at k<;>exact hq _ _ _ k
  | _=>exact hq _ _ _ k
 | scope x ih=>
  intro fr σ Q Q' hq h;refine ih _ _ _ _ ?_ h;intro e f s k
  cases e with
  | goto l=>exact k
  | _=>exact hq _ _ _ k
 | loop x ih=>intro fr σ Q Q' hq h; exact ay2 h hq
 | exit id=>intro fr σ Q Q' hq h; exact hq _ _ _ h
 | bh2 g ps y x ihy ih=>intro fr σ Q Q' hq h; exact ay2 h hq
 | ret=>intro fr σ Q Q' hq h; exact hq _ _ _ h
theorem bb9 {pt:PT}{ct:CT}(hT:TOK P E pt ct):∀ (ic:IC) (fr:Frm) (σ:Store) (Q:Exit→Frm→Store→Prop),wpT pt ct P E N n0 ic fr σ Q→wpI P E N n0 ic fr σ Q:=by
 intro ic
 induction ic with
 | skip=>intro fr σ Q h; exact h
 | reg id ops keep=>intro fr σ Q h; exact ea2 hT _ _ _ _ _ h
 | aj9 id ops B keep=>intro fr σ Q h; exact ea3 hT _ 0 _ _ _ h
 | hr6 id ops keep=>intro fr σ Q h; exact h
 | seq x y ihx ihy=>
  intro fr σ Q h;have h1:=ihx _ _ _ (show wpT pt ct P E N n0 x fr σ _ from h);refine bu7 x fr σ _ (fun e fr' σ'=>match e with|.normal=>wpI P E N n0 y fr' σ' Q|e=>Q e fr' σ') ?_ h1;intro e f s k
  cases e with
  | normal=>exact ihy _ _ _ k
  | _=>exact k
 | cond x a b iha ihb=>
  intro fr σ Q h;obtain ⟨t,ht,h⟩:=et4 h;refine ⟨t,ht,?_⟩
  cases t with
  | true=>exact iha _ _ _ h
  | false=>exact ihb _ _ _ h
 | block id x ih=>intro fr σ Q h; exact ih _ _ _ h
 | scope x ih=>intro fr σ Q h; exact ih _ _ _ h
 | loop x ih=>intro fr σ Q h; exact h
 | exit id=>intro fr σ Q h; exact h
 | ret=>intro fr σ Q h; exact h
 | bh2 g ps y x ihy ih=>intro fr σ Q h; exact h
def fp3 (irs:List IR)(Qc:IV→Store→Prop):Exit→Frm→Store→Prop
 | .normal,fr,σ|.ret,fr,σ=>bx9 (irL σ fr irs) fun vs=>Qc (es3 vs) σ
 | _,_,_=>False
theorem cw3 {irs:List IR}{Qc:IV→Store→Prop}{e:Exit}(h:fp3 irs Qc e fr σ):iv4 irs Qc e fr σ:=by
 cases e<;>first|exact ak4 h|exact h
theorem C_T {pt:PT}{ct:CT}(hT:TOK P E pt ct){f:Nat}{an:Ann}{ic:IC}{irs:List IR}{args:List IV}{Qc:IV→Store→Prop}(hf:gr7 P f N pf an ic irs)(hl:args.length≤N)
  (h:wpT pt ct P E N σ.next ic (be1 args 0) σ (fp3 irs Qc)):C P E f args σ Qc :=
 iz3 hf hl (bu7 _ _ _ _ _ (fun _ _ _ k=>cw3 k) (bb9 hT _ _ _ _ h))
theorem iz4 {pt:PT}{ct:CT}(hT:TOK P E pt ct){f:Nat}{an:Ann}{ic:IC}{irs:List IR}{args:List IV}{v:IV}(hf:gr7 P f N pf an ic irs)(hl:args.length≤N)
  (h:∀ σ,wpT pt ct P E N σ.next ic (be1 args 0) σ (fp3 irs fun v' σ'=>v'=v∧σ'=σ)):PC P E f args v :=
 fun σ=>C_T hT hf hl (h σ)
theorem gr9 {pt:PT}{ct:CT}(hT:TOK P E pt ct){x:IC}{Q:Exit→Frm→Store→Prop}(I:Nat→Frm→Store→Prop)(m:Nat)(h:I m fr σ)(hI:∀ m fr σ,I m fr σ→wpT pt ct P E N n0 x fr σ (dy9 I m Q)):RI P E N n0 (.loop x) fr σ Q :=
 fk8 I m h fun m fr σ hi=>bb9 hT _ _ _ _ (hI m fr σ hi)
theorem nr {α:Sort u}{a b:α}(h:a=b):a=b:=h
/-! ### The rewriting: no continuation that is a 'fun' stands in a goal -/
def gg9 (o:Option IV)(σ:Store)(K:IV→Store→Prop):Prop:=bx9 o fun v=>K v σ
def id3 (o:Option Store)(K:IV→Store→Prop):Prop:=bx9 o fun s=>K .undef s
def ir6 (o:Option (IV×Store))(K:IV→Store→Prop):Prop:=bx9 o fun r=>K r.1 r.2
def il7 (v:IV)(σ:Store):IV→Store→Prop:=fun v' σ'=>v'=v∧σ'=σ
def iv5 (o:Option (List IV))(id n esz:Nat)(σ:Store)(K:IV→Store→Prop):Prop:=bx9 o fun out=>K (.slice id 0 n esz) (σ.put id (.row out))
def fp4 (ct:CT)(P:Program)(E:Nat→IV)(x:IV)(args:List IV)(σ:Store)(K:IV→Store→Prop):Prop:=match x with
 | .func (.func f) first cap=>ct9 P E (ct f (first++args++cap) σ) f (first++args++cap) σ K
 | .yield i=>∃ Q,CV P E (.yield i) args σ Q∧∀ v σ',Q v σ'→σ.next≤σ'.next∧K v σ'
 | _=>False
def gh1 (pt:PT)(ct:CT)(P:Program)(E:Nat→IV)(rest:List ae2)(id:Nat)(d:Option Nat)(fr:Frm)(K:Frm→Store→Prop):IV→Store→Prop:=fun v σ'=>bu6 pt ct P E rest id (fr.al1 d v) σ' K
def ea4 (pt:PT)(ct:CT)(P:Program)(E:Nat→IV)(B:Bool)(rest:List ae2)(id:Nat)(d:Option Nat)(fr:Frm)(K:Frm→Store→Prop):IV→Store→Prop:=fun v σ'=>bh7 pt ct P E B rest id (fr.al1 d v) σ' K
def gz6 (ks:List Nat)(Q:Exit→Frm→Store→Prop):Frm→Store→Prop:=fun fr σ=>Q .normal (fr.keep ks) σ
def hr8 (pt:PT)(ct:CT)(P:Program)(E:Nat→IV)(v:IV)(want:Bool)(op:IK)(id:Nat)(fr:Frm)(σ:Store)(K:IV→Store→Prop):Prop:=gr8 v want (opT pt ct P E op id fr σ K) (K skV σ)
def gs2 (pt:PT)(ct:CT)(P:Program)(E:Nat→IV)(B:Bool)(v:IV)(want:Bool)(op:IK)(id:Nat)(fr:Frm)(σ:Store)(K:IV→Store→Prop):Prop:=gr8 v want ((B=true→by1 E fr σ op)∧opT pt ct P E op id fr σ K) (K skV σ)
def gz7 (pt:PT)(ct:CT)(P:Program)(E:Nat→IV)(N n0:Nat)(v:IV)(a b:IC)(fr:Frm)(σ:Store)(Q:Exit→Frm→Store→Prop):Prop:=gz5 v fun t=>if t=true then wpT pt ct P E N n0 a fr σ Q else wpT pt ct P E N n0 b fr σ Q
def il8 (pt:PT)(ct:CT)(P:Program)(E:Nat→IV)(N n0:Nat)(b:IC)(Q:Exit→Frm→Store→Prop):Exit→Frm→Store→Prop:=fun e fr' σ'=>match e with
 | .normal=>wpT pt ct P E N n0 b fr' σ' Q
 | e=>Q e fr' σ'
variable {pt:PT} {ct:CT} {id want:Nat} {K:IV→Store→Prop} {Kf:Frm→Store→Prop} {Q:Exit→Frm→Store→Prop} {v:IV} {c:Prop} [Decidable c]
theorem cw4 {α:Type}(v:α)(K:α→Prop):bx9 (some v) K=K v:=nr rfl
theorem cw5 (v:IV):gg9 (some v) σ K=K v σ:=nr rfl
theorem cw6:id3 (some σ) K=K .undef σ:=nr rfl
theorem bz6:id3 (if c then some σ else none) K=(c∧K .undef σ):=by by_cases h:c<;>simp[h,id3,bx9]
theorem cw7 (v:IV):ir6 (some (v,σ)) K=K v σ:=nr rfl
theorem hr9 {f:Nat}{args:List IV}(v:IV):gg8 P E (some v) f args σ K=K v σ:=nr rfl
theorem aa6 {f:Nat}{args:List IV}{v:IV}(h:PC P E f args v)(hk:K v σ):gg8 P E none f args σ K:=⟨v,h,hk⟩
theorem am8 {f:Nat}{args:List IV}{Qc:IV→Store→Prop}(ho:okF P f=true)(h:C P E f args σ Qc)(hk:∀ v s,Qc v s→σ.next≤s.next∧K v s):ct9 P E none f args σ K:=⟨Qc,⟨ho,h⟩,hk⟩
theorem cw8 {n esz:Nat}(out:List IV):iv5 (some out) id n esz σ K=K (.slice id 0 n esz) (σ.put id (.row out)):=nr rfl
theorem bz7 (f:Nat)(first cap args:List IV):fp4 ct P E (.func (.func f) first cap) args σ K=ct9 P E (ct f (first++args++cap) σ) f (first++args++cap) σ K:=nr rfl
theorem cw9 {rest:List ae2}{d:Nat}(v:IV):gh1 pt ct P E rest id (some d) fr Kf v σ=bu6 pt ct P E rest id ((d,v)::fr) σ Kf:=nr rfl
theorem bz8 {rest:List ae2}(v:IV):gh1 pt ct P E rest id none fr Kf v σ=bu6 pt ct P E rest id fr σ Kf:=nr rfl
theorem bz9 {B:Bool}{rest:List ae2}{d:Nat}(v:IV):ea4 pt ct P E B rest id (some d) fr Kf v σ=bh7 pt ct P E B rest id ((d,v)::fr) σ Kf:=nr rfl
theorem bk9 {B:Bool}{rest:List ae2}(v:IV):ea4 pt ct P E B rest id none fr Kf v σ=bh7 pt ct P E B rest id fr σ Kf:=nr rfl
theorem cx1 {ks:List Nat}:gz6 ks Q fr σ=Q .normal (fr.keep ks) σ:=nr rfl
theorem w_q {q:IQ}:opT pt ct P E (.q q) id fr σ K=gg9 (evq E fr σ q) σ K:=nr rfl
theorem ca1 {z:List IV}:opT pt ct P E (.alloc z) id fr σ K=K (.ptr id 0) (σ.put id (.cells z)):=nr rfl
theorem et5 {x:IX}:opT pt ct P E (.box x) id fr σ K=((x.ev E fr).cs.all IV.leaf=true∧K (.ptr id 0) (σ.put id (.cells (x.ev E fr).cs))):=nr rfl
theorem et6 {esz n:Nat}{z:List IV}{ps:List (Nat×Nat×IX)}:opT pt ct P E (.bsl esz n z ps) id fr σ K=iv5 (as8 (rep z n) (ps.map fun p=>(p.1,p.2.1,p.2.2.ev E fr))) id n esz σ K:=nr rfl
theorem ca2 {sz:Nat}{x y:IX}:opT pt ct P E (.store sz x y) id fr σ K=id3 (am5 σ sz (x.ev E fr) (y.ev E fr)) K:=nr rfl
def iv6 (v:IV)(id:Nat)(σ:Store)(K:IV→Store→Prop):Prop:=match v with
 | .str s=>K (.ptr id 0) (σ.put id (.bb2 s 0))
 | _=>False
theorem cx2 {s:List UInt8}:iv6 (.str s) id σ K=K (.ptr id 0) (σ.put id (.bb2 s 0)):=nr rfl
theorem bl4 {x:IX}:opT pt ct P E (.bf1 x) id fr σ K=iv6 (x.ev E fr) id σ K:=nr rfl
theorem ca3 {x:IX}:opT pt ct P E (.co7 x) id fr σ K=ir6 (bg7 σ (x.ev E fr)) K:=nr rfl
theorem ca4:opT pt ct P E .bp3 id fr σ K=K (.map id) (σ.put id (.map [])):=nr rfl
theorem cx3 {tag:Nat}{x k y:IX}:opT pt ct P E (.dh6 tag x k y) id fr σ K=id3 (as9 σ tag (x.ev E fr) (k.ev E fr) (y.ev E fr)) K:=nr rfl
theorem et7 {esz:Nat}{s x:IX}:opT pt ct P E (.app esz s x) id fr σ K=ir6 (bd4 σ id esz (s.ev E fr) (x.ev E fr)) K:=nr rfl
theorem cx4 {f:Nat}{args:List IX}:opT pt ct P E (.call f args) id fr σ K=ct9 P E (ct f (args.map (·.ev E fr)) σ) f (args.map (·.ev E fr)) σ K:=nr rfl
theorem ca5 {f:Nat}{args:List IX}:opT pt ct P E (.ag1 f args) id fr σ K=gg8 P E (pt f (args.map (·.ev E fr))) f (args.map (·.ev E fr)) σ K:=nr rfl
theorem bl5 {x:IX}{args:List IX}:opT pt ct P E (.ah6 x args) id fr σ K=fp4 ct P E (x.ev E fr) (args.map (·.ev E fr)) σ K:=nr rfl
theorem et8:bu6 pt ct P E [] id fr σ Kf=Kf fr σ:=nr rfl
theorem cx5 {d:Option Nat}{op:IK}{rest:List ae2}:bu6 pt ct P E (⟨d,none,op⟩::rest) id fr σ Kf=opT pt ct P E op id fr σ (gh1 pt ct P E rest (if op.lays then id+1 else id) d fr Kf):=nr rfl
theorem et9 {d:Option Nat}{op:IK}{rest:List ae2}{s:Nat}{want:Bool}:bu6 pt ct P E (⟨d,some (s,want),op⟩::rest) id fr σ Kf=hr8 pt ct P E (fr.get s) want op id fr σ (gh1 pt ct P E rest (if op.lays then id+1 else id) d fr Kf):=nr rfl
theorem cx6 {B:Bool}:bh7 pt ct P E B [] id fr σ Kf=Kf fr σ:=nr rfl
theorem ca6 {d:Option Nat}{op:IK}{rest:List ae2}:bh7 pt ct P E false (⟨d,none,op⟩::rest) id fr σ Kf=opT pt ct P E op id fr σ (ea4 pt ct P E false rest (id+1) d fr Kf):=by
 have:bh7 pt ct P E false (⟨d,none,op⟩::rest) id fr σ Kf=((false=true→by1 E fr σ op)∧opT pt ct P E op id fr σ (ea4 pt ct P E false rest (id+1) d fr Kf)):=nr rfl;rw[this]; simp
theorem ca7 {d:Option Nat}{op:IK}{rest:List ae2}:bh7 pt ct P E true (⟨d,none,op⟩::rest) id fr σ Kf=(by1 E fr σ op∧opT pt ct P E op id fr σ (ea4 pt ct P E true rest (id+1) d fr Kf)):=by
 have:bh7 pt ct P E true (⟨d,none,op⟩::rest) id fr σ Kf=((true=true→by1 E fr σ op)∧opT pt ct P E op id fr σ (ea4 pt ct P E true rest (id+1) d fr Kf)):=nr rfl;rw[this]; simp
theorem cx7 {B:Bool}{d:Option Nat}{op:IK}{rest:List ae2}{s:Nat}{want:Bool}:bh7 pt ct P E B (⟨d,some (s,want),op⟩::rest) id fr σ Kf=gs2 pt ct P E B (fr.get s) want op id fr σ (ea4 pt ct P E B rest (id+1) d fr Kf):=nr rfl
theorem eu1 {op:IK}:hr8 pt ct P E (.bool true) true op id fr σ K=opT pt ct P E op id fr σ K:=nr rfl
theorem eu2 {op:IK}:hr8 pt ct P E (.bool false) false op id fr σ K=opT pt ct P E op id fr σ K:=nr rfl
theorem eu3 {op:IK}:hr8 pt ct P E (.bool true) false op id fr σ K=K skV σ:=nr rfl
theorem eu4 {op:IK}:hr8 pt ct P E (.bool false) true op id fr σ K=K skV σ:=nr rfl
theorem eu5 {op:IK}:gs2 pt ct P E false (.bool true) true op id fr σ K=opT pt ct P E op id fr σ K:=by simp[gs2,gr8,gy9]
theorem eu6 {op:IK}:gs2 pt ct P E false (.bool false) false op id fr σ K=opT pt ct P E op id fr σ K:=by simp[gs2,gr8,gy9]
theorem eu7 {B:Bool}{op:IK}:gs2 pt ct P E B (.bool true) false op id fr σ K=K skV σ:=nr rfl
theorem eu8 {B:Bool}{op:IK}:gs2 pt ct P E B (.bool false) true op id fr σ K=K skV σ:=nr rfl
theorem hs8 {op:IK}{want:Bool}:hr8 pt ct P E skV want op id fr σ K=K skV σ:=nr rfl
theorem hs9 {B want:Bool}{op:IK}:gs2 pt ct P E B skV want op id fr σ K=K skV σ:=nr rfl
theorem cx8:wpT pt ct P E N n0 .skip fr σ Q=Q .normal fr σ:=nr rfl
theorem eu9 {i:Nat}{ops:List ae2}{ks:List Nat}:wpT pt ct P E N n0 (.reg i ops ks) fr σ Q=bu6 pt ct P E ops σ.next fr ⟨σ.next+bu2 ops,σ.obj⟩ (gz6 ks Q):=nr rfl
theorem cx9 {i:Nat}{ops:List ae2}{B:Bool}{ks:List Nat}:wpT pt ct P E N n0 (.aj9 i ops B ks) fr σ Q=bh7 pt ct P E B ops σ.next fr ⟨σ.next+ops.length,σ.obj⟩ (gz6 ks Q):=nr rfl
theorem ev1 {x y:IC}:wpT pt ct P E N n0 (.seq x y) fr σ Q=wpT pt ct P E N n0 x fr σ (il8 pt ct P E N n0 y Q):=nr rfl
theorem cy1 {i:IX}{x y:IC}:wpT pt ct P E N n0 (.cond i x y) fr σ Q=gz7 pt ct P E N n0 (i.ev E fr) x y fr σ Q:=nr rfl
theorem ca8 {i:Nat}{x:IC}:wpT pt ct P E N n0 (.block i x) fr σ Q=wpT pt ct P E N n0 x fr σ (bp9 i Q):=nr rfl
theorem cy2 {x:IC}:wpT pt ct P E N n0 (.loop x) fr σ Q=RI P E N n0 (.loop x) fr σ Q:=nr rfl
theorem ca9 {g:IX}{ps:List Nat}{x y:IC}:wpT pt ct P E N n0 (.bh2 g ps y x) fr σ Q=RI P E N n0 (.bh2 g ps y x) fr σ Q:=nr rfl
def fp5 (v:IV)(id:Nat)(σ:Store)(K:IV→Store→Prop):Prop:=match v with
 | .ap7 es=>K (.ptr id 0) (σ.put id (.ap8 es none))
 | _=>False
def gs3 (o:Option (Nat×List (IV×IV)))(σ:Store)(K:IV→Store→Prop):Prop:=bx9 o fun r=>(r.2=[]→K (.tuple [.bool false]) σ) ∧
   ∀ j,j<r.2.length→K (.tuple [.bool true,(r.2.getD j (.undef,.undef)).1,(r.2.getD j (.undef,.undef)).2]) (σ.put r.1 (.ap8 (r.2.eraseIdx j) (some (r.2.getD j (.undef,.undef)))))
theorem bl6 {x:IX}:opT pt ct P E (.ba1 x) id fr σ K=fp5 (x.ev E fr) id σ K:=nr rfl
theorem bc1 {es:List (IV×IV)}:fp5 (.ap7 es) id σ K=K (.ptr id 0) (σ.put id (.ap8 es none)):=nr rfl
theorem cb1 {x:IX}:opT pt ct P E (.bz5 x) id fr σ K=gs3 (bg8 σ (x.ev E fr)) σ K:=nr rfl
theorem bl7 {i:Nat}{l:List (IV×IV)}:gs3 (some (i,l)) σ K=((l=[]→K (.tuple [.bool false]) σ) ∧
   ∀ j,j<l.length→K (.tuple [.bool true,(l.getD j (.undef,.undef)).1,(l.getD j (.undef,.undef)).2]) (σ.put i (.ap8 (l.eraseIdx j) (some (l.getD j (.undef,.undef)))))):=nr rfl
theorem cy3 {x:IX}:opT pt ct P E (.es8 x) id fr σ K=gg9 (ci7 σ (x.ev E fr)) σ K:=nr rfl
theorem cy4 {x:IX}:opT pt ct P E (.ai7 x) id fr σ K=((x.ev E fr).cs.all IV.leaf=true∧K (.ac2 (x.ev E fr).cs) σ):=nr rfl
def id4 (o:Option (List IV))(esz n:Nat)(σ:Store)(K:IV→Store→Prop):Prop:=bx9 o fun out=>K (.aa3 (chunk esz n out)) σ
theorem cy5 {esz n:Nat}{z:List IV}{ps:List (Nat×Nat×IX)}:opT pt ct P E (.aw2 esz n z ps) id fr σ K=id4 (as8 (rep z n) (ps.map fun p=>(p.1,p.2.1,p.2.2.ev E fr))) esz n σ K:=nr rfl
theorem cb2 {esz n:Nat}{out:List IV}:id4 (some out) esz n σ K=K (.aa3 (chunk esz n out)) σ:=nr rfl
theorem cy6 {i:Nat}:wpT pt ct P E N n0 (.exit i) fr σ Q=Q (.exit i) fr σ:=nr rfl
theorem ev2:wpT pt ct P E N n0 .ret fr σ Q=Q .ret fr σ:=nr rfl
theorem ht4 {x y:IC}:gz7 pt ct P E N n0 (.bool true) x y fr σ Q=wpT pt ct P E N n0 x fr σ Q:=nr rfl
theorem ht5 {x y:IC}:gz7 pt ct P E N n0 (.bool false) x y fr σ Q=wpT pt ct P E N n0 y fr σ Q:=nr rfl
theorem ev3 {y:IC}:il8 pt ct P E N n0 y Q .normal fr σ=wpT pt ct P E N n0 y fr σ Q:=nr rfl
theorem ev4 {y:IC}{i:Nat}:il8 pt ct P E N n0 y Q (.exit i) fr σ=Q (.exit i) fr σ:=nr rfl
theorem ev5 {y:IC}:il8 pt ct P E N n0 y Q .ret fr σ=Q .ret fr σ:=nr rfl
theorem ev6 {i:Nat}:bp9 i Q .normal fr σ=Q .normal fr σ:=nr rfl
theorem ev7 {i:Nat}:bp9 i Q .ret fr σ=Q .ret fr σ:=nr rfl
theorem ev8 {i j:Nat}:bp9 i Q (.exit j) fr σ=if j=i then Q .normal fr σ else Q (.exit j) fr σ:=nr rfl
theorem ev9 {I:Nat→Frm→Store→Prop}{m:Nat}:dy9 I m Q .normal fr σ=∃ m',m'<m∧I m' fr σ:=nr rfl
theorem ew1 {I:Nat→Frm→Store→Prop}{m i:Nat}:dy9 I m Q (.exit i) fr σ=Q (.exit i) fr σ:=nr rfl
theorem ew2 {I:Nat→Frm→Store→Prop}{m:Nat}:dy9 I m Q .ret fr σ=Q .ret fr σ:=nr rfl
theorem ew3 {irs:List IR}{Qc:IV→Store→Prop}:fp3 irs Qc .ret fr σ=bx9 (irL σ fr irs) fun vs=>Qc (es3 vs) σ:=nr rfl
theorem cy7 {irs:List IR}{Qc:IV→Store→Prop}:fp3 irs Qc .normal fr σ=bx9 (irL σ fr irs) fun vs=>Qc (es3 vs) σ:=nr rfl
end Go.Id
/- What the walk of a compiled code is rewritten by: the operations. Conditions: none; over any program. -/
namespace Go.Id
open Go
variable {P:Program} {E:Nat→IV} {σ σ':Store} {fr:Frm} {x y z:IX} {k k':IntKind} {a b:Int} {s t:List UInt8} {n m off esz len:Nat} {v u:IV}
theorem ab1 {i:Nat}{o:aj2}:(σ.put i o).next=σ.next:=nr rfl
theorem aa4 {i j:Nat}{o:aj2}:(σ.put i o).obj j=if j=i then some o else σ.obj j:=nr rfl
theorem e_t:(IX.t n).ev E fr=fr.get n:=nr rfl
theorem e_c:(IX.c v).ev E fr=v:=nr rfl
theorem e_g:(IX.g n).ev E fr=E n:=nr rfl
theorem e_f:(IX.f n).ev E fr=.func (.func n) [] []:=nr rfl
theorem ew4:evq E fr σ (.mov x)=some (x.ev E fr):=nr rfl
theorem cy8:evq E fr σ (.pick x y z)=dx8 (x.ev E fr) (y.ev E fr) (z.ev E fr):=nr rfl
theorem ew5:evq E fr σ (.not x)=hu4 (x.ev E fr):=nr rfl
theorem ew6:evq E fr σ (.neg x)=hu5 (x.ev E fr):=nr rfl
theorem ew7 {op:BinOp}:evq E fr σ (.bin op x y)=au7 op (x.ev E fr) (y.ev E fr):=nr rfl
theorem ai2 {d:TypeDesc}{g:Bool}:evq E fr σ (.au9 d g x)=(ck5 d (x.ev E fr)).map fun b=>.bool (b ^^ g):=nr rfl
theorem ew8 {tags:List Nat}{g h:Bool}:evq E fr σ (.eqs tags g h x y)=gv1 tags g h (x.ev E fr) (y.ev E fr):=nr rfl
theorem cy9:evq E fr σ (.conv k x)=fh6 k (x.ev E fr):=nr rfl
theorem cb3:evq E fr σ (.gb5 x)=dn1 (x.ev E fr):=nr rfl
theorem ew9:evq E fr σ (.len n x)=df7 n σ (x.ev E fr):=nr rfl
theorem cb4:evq E fr σ (.aa9 off x)=ci5 off (x.ev E fr):=nr rfl
theorem ex1 {ag:Option Nat}:evq E fr σ (.fld ag off x)=hq6 ag off (x.ev E fr):=nr rfl
theorem cb5:evq E fr σ (.ab2 esz x y)=aq5 esz (x.ev E fr) (y.ev E fr):=nr rfl
theorem cb6:evq E fr σ (.dn9 n esz x y)=cu7 n esz (x.ev E fr) (y.ev E fr):=nr rfl
theorem ex2 {ag:Option Nat}:evq E fr σ (.idx ag n esz x y)=gu7 ag n esz (x.ev E fr) (y.ev E fr):=nr rfl
theorem cz1:evq E fr σ (.fg1 x y)=df4 (x.ev E fr) (y.ev E fr):=nr rfl
theorem ex3 {lo hi:Option IX}:evq E fr σ (.slc esz x lo hi)=ct1 esz (lo.map (·.ev E fr)) (hi.map (·.ev E fr)) (x.ev E fr):=nr rfl
theorem cz2 {lo hi:Option IX}:evq E fr σ (.gq3 x lo hi)=cs9 (lo.map (·.ev E fr)) (hi.map (·.ev E fr)) (x.ev E fr):=nr rfl
theorem ex4:evq E fr σ (.slz x)=fz7 (x.ev E fr):=nr rfl
theorem ex5:evq E fr σ (.ext n x)=gu8 n (x.ev E fr):=nr rfl
theorem ex6 {fs cs:List IX}:evq E fr σ (.mkf n fs cs)=some (.func (.func n) (fs.map (·.ev E fr)) (cs.map (·.ev E fr))):=nr rfl
theorem ex8 {zs:List IV}{ps:List (Nat×Nat×IX)}:evq E fr σ (.bld zs ps)=(as8 zs (ps.map fun p=>(p.1,p.2.1,p.2.2.ev E fr))).map .agg:=nr rfl
theorem cz3 {ag:Option Nat}:evq E fr σ (.load ag x)=au8 σ ag (x.ev E fr):=nr rfl
theorem cz4:evq E fr σ (.al8 x)=dn2 (x.ev E fr):=nr rfl
theorem gs4 {mx:Bool}:evq E fr σ (.mm mx x y)=mmI mx (x.ev E fr) (y.ev E fr):=nr rfl
theorem dq5:mmI true (.int k a) (.int k' b)=some (.int k (if b>a then b else a)):=by simp[mmI]
theorem ea5:mmI false (.int k a) (.int k' b)=some (.int k (if b<a then b else a)):=by simp[mmI]
theorem ea6 {zero:IV}{ok:Bool}:evq E fr σ (.lkp n zero ok x y)=dm3 σ n zero ok (x.ev E fr) (y.ev E fr):=nr rfl
theorem cb7:Frm.keep fr []=[]:=nr rfl
theorem cb8 {ks:List Nat}:Frm.keep fr (n::ks)=(n,fr.get n)::Frm.keep fr ks:=nr rfl
theorem cz5:be1 [] n=[]:=nr rfl
theorem cz6 {vs:List IV}:be1 (v::vs) n=(n,v)::be1 vs (n+1):=nr rfl
theorem cb9:bu2 []=0:=nr rfl
theorem cc1 {d:Option Nat}{g:Option (Nat×Bool)}{op:IK}{os:List ae2}:bu2 (⟨d,g,op⟩::os)=(if op.lays=true then 1 else 0)+bu2 os:=nr (bz4 _ _)
theorem ht6 {q:IQ}:(IK.q q).lays=false:=nr rfl
theorem bl8 {zs:List IV}:(IK.alloc zs).lays=true:=nr rfl
theorem cz7:(IK.box x).lays=true:=nr rfl
theorem cz8 {zs:List IV}{ps:List (Nat×Nat×IX)}:(IK.bsl esz n zs ps).lays=true:=nr rfl
theorem cz9:(IK.app esz x y).lays=true:=nr rfl
theorem bl9:IK.bp3.lays=true:=nr rfl
theorem cc2:(IK.dh6 n x y z).lays=false:=nr rfl
theorem bc2:(IK.bf1 x).lays=true:=nr rfl
theorem bm1:(IK.co7 x).lays=false:=nr rfl
theorem bc3:(IK.ba1 x).lays=true:=nr rfl
theorem cc3 {zs:List IV}:(IK.cv9 esz zs x).lays=true:=nr rfl
theorem da1 {zs:List IV}:(IK.clr esz zs x).lays=false:=nr rfl
theorem cc4:(IK.es8 x).lays=false:=nr rfl
theorem bm2:(IK.bz5 x).lays=false:=nr rfl
theorem cc5:(IK.ai7 x).lays=false:=nr rfl
theorem cc6 {zs:List IV}{ps:List (Nat×Nat×IX)}:(IK.aw2 esz n zs ps).lays=false:=nr rfl
theorem ir7:evq E fr σ (.ibs x y)=hu6 (x.ev E fr) (y.ev E fr):=nr rfl
theorem id5:hu6 (.str s) (.int .u8 a)=if 0≤a∧a<256 then some (.int .i64 (dw6 a.toNat s 0)) else none:=nr rfl
theorem bm3:(IK.store n x y).lays=false:=nr rfl
theorem cc7 {xs:List IX}:(IK.call n xs).lays=false:=nr rfl
theorem bm4 {xs:List IX}:(IK.ag1 n xs).lays=false:=nr rfl
theorem bm5 {xs:List IX}:(IK.ah6 x xs).lays=false:=nr rfl
theorem da2 {α β:Type}{f:α→β}:List.map f []=[]:=nr rfl
theorem da3 {α β:Type}{f:α→β}{c:α}{cs:List α}:List.map f (c::cs)=f c::List.map f cs:=nr rfl
theorem ea7 {α β:Type}{f:α→β}:Option.map f none=none:=nr rfl
theorem ea8 {α β:Type}{f:α→β}{c:α}:Option.map f (some c)=some (f c):=nr rfl
theorem cc8:dx8 (.bool true) v u=some v:=nr rfl
theorem cc9:dx8 (.bool false) v u=some u:=nr rfl
theorem cd1 {c d:Bool}:dx8 (.bool c) (.bool true) (.bool d)=some (.bool (c||d)):=by cases c<;>rfl
theorem cd2 {c d:Bool}:dx8 (.bool c) (.bool d) (.bool false)=some (.bool (c&&d)):=by cases c<;>rfl
theorem da4 {c:Bool}:hu4 (.bool c)=some (.bool !c):=nr rfl
theorem da5:hu5 (.int k a)=some (.int k (k.wrap (0-a))):=nr rfl
theorem cd3:fh6 k (.int k' a)=some (.int k (k.wrap a)):=nr rfl
theorem bm6:dn1 (.str s)=some (.str s):=nr rfl
theorem ex9:au7 .add (.int k a) (.int k b)=some (.int k (k.wrap (a+b))):=by simp[au7,dw5]
theorem ey1:au7 .sub (.int k a) (.int k b)=some (.int k (k.wrap (a-b))):=by simp[au7,dw5]
theorem ey2:au7 .mul (.int k a) (.int k b)=some (.int k (k.wrap (a*b))):=by simp[au7,dw5]
theorem ey3:au7 .quo (.int k a) (.int k b)=if b=0 then none else some (.int k (k.wrap (a.tdiv b))):=by simp[au7,dw5]
theorem ey4:au7 .eql (.int k a) (.int k b)=some (.bool (decide (a=b))):=by simp[au7,dw5]
theorem ey5:au7 .neq (.int k a) (.int k b)=some (.bool (!decide (a=b))):=by simp[au7,dw5]
theorem ey6:au7 .lss (.int k a) (.int k b)=some (.bool (decide (a<b))):=by simp[au7,dw5]
theorem ey8:au7 .leq (.int k a) (.int k b)=some (.bool (decide (a≤b))):=by simp[au7,dw5]
theorem ey9:au7 .gtr (.int k a) (.int k b)=some (.bool (decide (b<a))):=by simp[au7,dw5]
theorem ez1:au7 .geq (.int k a) (.int k b)=some (.bool (decide (b≤a))):=by simp[au7,dw5]
theorem dq6:au7 .shl (.int k a) (.int k' b)=if 0≤b then some (.int k (k.wrap (a*2^(min b.toNat k.bits)))) else none:=by simp[au7]
theorem ea9:au7 .shr (.int k a) (.int k' b)=if 0≤b then some (.int k (a.fdiv (2^(min b.toNat k.bits)))) else none:=by simp[au7]
theorem da6:au7 .eql (.str s) (.str t)=some (.bool (decide (s=t))):=by simp[au7,gu6]
theorem da7:au7 .neq (.str s) (.str t)=some (.bool (!decide (s=t))):=by simp[au7,gu6]
theorem da8:au7 .lss (.str s) (.str t)=some (.bool (Op.bytesLess s t)):=by simp[au7,gu6]
theorem da9:au7 .gtr (.str s) (.str t)=some (.bool (!(Op.bytesLess s t||decide (s=t)))):=by simp[au7,gu6]
theorem db1:au7 .geq (.str s) (.str t)=some (.bool (!Op.bytesLess s t)):=by simp[au7,gu6]
theorem db2 {es:List (List IV)}:df7 0 σ (.aa3 es)=some (.int .i64 es.length):=nr rfl
theorem db3:df7 0 σ .aa1=some (.int .i64 0):=nr rfl
theorem db4:df7 0 σ .ac4=some (.int .i64 0):=nr rfl
theorem id6:df7 0 σ .ae6=some (.int .i64 0):=nr rfl
theorem bf2:df7 0 σ (.slice n off len esz)=some (.int .i64 len):=nr rfl
theorem bm7:df7 1 σ (.str s)=some (.int .i64 s.length):=nr rfl
theorem cd4:dn2 (.ptr n off)=some (.ptr n off):=nr rfl
theorem cd5 {cs:List IV}:dn2 (.ac2 cs)=some (.ac2 cs):=nr rfl
theorem cd6 {f:FuncId}{p q:List IV}:dn2 (.func (.func f) p q)=some (.func (.func f) p q):=nr rfl
theorem db5:fz7 .aa1=some .aa1:=nr rfl
theorem db6:fz7 .ac4=some .ac4:=nr rfl
theorem id7:fz7 .ae6=some .ac4:=nr rfl
theorem db7 {es:List (List IV)}:fz7 (.aa3 es)=if es=[] then some (.aa3 []) else some .ac4:=nr rfl
theorem db8:fz7 (.slice n off len esz)=some .ac4:=nr rfl
theorem ez2:irL σ fr []=some []:=nr rfl
theorem ez3:irL σ fr [.t n]=some [fr.get n]:=nr rfl
theorem db9:irL σ fr [.t n,.t m]=some [fr.get n,fr.get m]:=nr rfl
theorem ez4 {ag:Option Nat}:irL σ fr [.cell ag n]=(au8 σ ag (fr.get n)).map fun v=>[v]:=by
 simp only[irL,irV]; cases au8 σ ag (fr.get n)<;>rfl
theorem cd7:es3 [v]=v:=nr rfl
theorem cd8:es3 [v,u]=.tuple [v,u]:=nr rfl
theorem cd9:es3 []=.tuple []:=nr rfl
/-! ### Memory -/
def dh7 (ag:Option Nat)(off:Nat):Option aj2→Option IV
 | some (.cells cs)|some (.row cs)=>match ag with
  | none=>(cs.drop off).head?
  | some n=>if n≤(cs.drop off).length then some (.agg ((cs.drop off).take n)) else none
 | _=>none
theorem ce1 {ag:Option Nat}:au8 σ ag (.ptr n off)=dh7 ag off (σ.obj n):=by
 cases h:σ.obj n with
 | none=>simp[au8,am3,dh7,h]
 | some o=>cases o<;>cases ag<;>simp[au8,am3,dh7,h]
theorem ce2 {cs:List IV}:au8 σ none (.ac2 cs)=cs.head?:=nr rfl
theorem bm8 {cs:List IV}:au8 σ (some n) (.ac2 cs)=if n≤cs.length then some (.agg (cs.take n)) else none:=nr rfl
theorem be2 {cs:List IV}:dh7 none off (some (.cells cs))=(cs.drop off).head?:=nr rfl
theorem bu8 {cs:List IV}:dh7 (some n) off (some (.cells cs))=if n≤(cs.drop off).length then some (.agg ((cs.drop off).take n)) else none:=nr rfl
theorem ez5 {cs:List IV}:dh7 none off (some (.row cs))=(cs.drop off).head?:=nr rfl
theorem cj1 {cs:List IV}:dh7 (some n) off (some (.row cs))=if n≤(cs.drop off).length then some (.agg ((cs.drop off).take n)) else none:=nr rfl
def dq7 (σ:Store)(id off n:Nat)(vs:List IV):Option aj2→Option Store
 | some (.cells cs)=>if vs.length=n∧off+n≤cs.length∧vs.all IV.leaf=true then some (σ.put id (.cells (ao8 cs off vs))) else none
 | some (.row cs)=>if vs.length=n∧off+n≤cs.length∧vs.all IV.leaf=true then some (σ.put id (.row (ao8 cs off vs))) else none
 | _=>none
theorem bm9:am5 σ n (.ptr m off) v=dq7 σ m off n v.cs (σ.obj m):=by
 cases h:σ.obj m with
 | none=>simp[am5,dq7,h]
 | some o=>cases o<;>simp[am5,dq7,h]
theorem ez6 {cs vs:List IV}:dq7 σ m off n vs (some (.cells cs))=if vs.length=n∧off+n≤cs.length∧vs.all IV.leaf=true then some (σ.put m (.cells (ao8 cs off vs))) else none:=nr rfl
theorem cj3 {cs vs:List IV}:dq7 σ m off n vs (some (.row cs))=if vs.length=n∧off+n≤cs.length∧vs.all IV.leaf=true then some (σ.put m (.row (ao8 cs off vs))) else none:=nr rfl
theorem bn1 {es:List (List IV)}:aq5 esz (.aa3 es) (.int k a)=if 0≤a∧a<es.length∧(es.getD a.toNat []).length=esz then some (.ac2 (es.getD a.toNat [])) else none:=nr rfl
theorem bn2:aq5 esz (.slice n off len m) (.int k a)=if 0≤a∧a<len∧m=esz then some (.ptr n (off+a.toNat*esz)) else none:=nr rfl
theorem ce3 {cs:List IV}:ci5 n (.ac2 cs)=some (.ac2 (cs.drop n)):=nr rfl
theorem ce4:ci5 n (.ptr m off)=some (.ptr m (off+n)):=nr rfl
theorem ce5 {cs:List IV}:IV.cs (.agg cs)=cs:=nr rfl
theorem ce6:IV.cs (.int k a)=[.int k a]:=nr rfl
theorem bn3 {c:Bool}:IV.cs (.bool c)=[.bool c]:=nr rfl
theorem ce7:IV.cs (.str s)=[.str s]:=nr rfl
theorem ce8:IV.cs (.ptr n off)=[.ptr n off]:=nr rfl
theorem bn4 {cs:List IV}:IV.cs (.ac2 cs)=[.ac2 cs]:=nr rfl
theorem bc4:IV.cs (.slice n off len esz)=[.slice n off len esz]:=nr rfl
theorem ax6 {es:List (List IV)}:IV.cs (.aa3 es)=[.aa3 es]:=nr rfl
theorem bn5 {f:Fn}{p q:List IV}:IV.cs (.func f p q)=[.func f p q]:=nr rfl
theorem ce9:IV.cs (.map n)=[.map n]:=nr rfl
theorem bn6 {es:List (IV×IV)}:IV.cs (.ap7 es)=[.ap7 es]:=nr rfl
theorem dc1:IV.cs .aa1=[.aa1]:=nr rfl
theorem dc2:IV.cs .ac4=[.ac4]:=nr rfl
theorem id8:IV.cs .ae6=[.ae6]:=nr rfl
theorem dc3:IV.cs .ab6=[.ab6]:=nr rfl
theorem cf1:IV.leaf (.int k a)=true:=nr rfl
theorem bn7 {c:Bool}:IV.leaf (.bool c)=true:=nr rfl
theorem cf2:IV.leaf (.str s)=true:=nr rfl
theorem cf3:IV.leaf (.ptr n off)=true:=nr rfl
theorem bn8 {cs:List IV}:IV.leaf (.ac2 cs)=true:=nr rfl
theorem bc5:IV.leaf (.slice n off len esz)=true:=nr rfl
theorem ax7 {es:List (List IV)}:IV.leaf (.aa3 es)=true:=nr rfl
theorem bn9 {f:Fn}{p q:List IV}:IV.leaf (.func f p q)=true:=nr rfl
theorem cf4:IV.leaf (.map n)=true:=nr rfl
theorem bo1 {es:List (IV×IV)}:IV.leaf (.ap7 es)=true:=nr rfl
theorem dc4:IV.leaf .aa1=true:=nr rfl
theorem dc5:IV.leaf .ac4=true:=nr rfl
theorem id9:IV.leaf .ae6=true:=nr rfl
theorem dc6:IV.leaf .ab6=true:=nr rfl
def ei8 (σ:Store)(id:Nat):Option aj2→Option (IV×Store)
 | some (.bb2 s pos)=>if pos<s.length then some (.tuple [.bool true,.int .i64 pos,.int .i32 (Utf8.decode ⟨s.toArray⟩ pos).1],σ.put id (.bb2 s (pos+(Utf8.decode ⟨s.toArray⟩ pos).2))) else some (.tuple [.bool false],σ)
 | _=>none
theorem bh8:bg7 σ (.ptr n 0)=ei8 σ n (σ.obj n):=by
 cases h:σ.obj n with
 | none=>simp[bg7,ei8,h]
 | some o=>cases o<;>simp[bg7,ei8,h]
theorem gs5 {pos:Nat}:ei8 σ n (some (.bb2 s pos))=if pos<s.length then some (.tuple [.bool true,.int .i64 pos,.int .i32 (Utf8.decode ⟨s.toArray⟩ pos).1],σ.put n (.bb2 s (pos+(Utf8.decode ⟨s.toArray⟩ pos).2))) else some (.tuple [.bool false],σ):=nr rfl
theorem dc7 {cs:List IV}:gu8 n (.tuple cs)=cs[n]?:=by cases h:cs[n]?<;>simp[gu8,h]
theorem ez7:(Store.mk σ.next σ.obj)=σ:=nr rfl
theorem wrap64 {x:Int}(h1:-9223372036854775808≤x)(h2:x<9223372036854775808):IntKind.i64.wrap x=x:=by
 simp[IntKind.wrap,IntKind.bits,IntKind.signed];omega
end Go.Id
/- Memory that is done with becomes a tree: from the contract of a function that lays blocks to a pure one. Conditions: none; over any program. -/
namespace Go.Id
open Go
variable {P:Program} {w w' w'':World} {ρ ρ' ρ'':Rho} {E:Nat→IV} {σ σ':Store} {N n n':Nat}
abbrev Bnd (n:Nat)(v:IV):Prop:=Nm (fun i=>i<n) v
abbrev co8 (σ:Store)(n:Nat)(v v':IV):Prop:=Frz σ (fun i=>i<n) v v'
def Rho.cut (ρ:Rho)(n:Nat):Rho:=⟨fun i=>if i<n then ρ i else .no,ρ.X⟩
theorem gs6 (ρ:Rho)(n:Nat):by7 (fun i=>i<n) ρ (ρ.cut n):=
 ⟨fun i h=>by show (if i<n then ρ i else dm1.no)=_; rw[if_pos h],fun i h=>by show (if i<n then ρ i else dm1.no)=_; rw[if_neg h],fun _ h=>.inl h⟩
theorem ez8 (hf:∀ i,n≤i→ρ i=.no):∀ i,ρ i≠.no→i<n:=fun i h=>by
 rcases Nat.lt_or_ge i n with h'|h'
 ·exact h'
 ·exact absurd (hf i h') h
theorem ir8 {f:Nat}{args:List IV}{v:IV}
  (h:(∀ a∈args,Bnd σ.next a)→C P E f args σ fun v' σ'=>(∀ i,i<σ.next→σ'.obj i=σ.obj i)∧σ.next≤σ'.next∧co8 σ' σ.next v' v):C P E f args σ (il7 v σ):=by
 intro ρ w rargs hs ha;have hlv:=ez8 hs.fresh;have hba:∀ a∈args,Bnd σ.next a:=fun a hm=>let ⟨i,hi,he⟩:=ag9 (d:=.undef) hm; he▸(ha.2 i hi).nm hlv
 refine CallsIn.mono (h hba ρ w rargs hs ha) ?_;rintro e w' ⟨v',r,ρ',σ',rfl,⟨hob,hle,hfrz⟩,hs',hv',hx⟩;have hno:∀ i,σ.next≤i→σ.obj i=none:=fun i hi=>hs.ar2 i (hs.fresh i hi)
 have hk:=gs6 ρ' σ.next;refine ⟨v,r,ρ'.cut σ.next,σ,rfl,⟨rfl,rfl⟩,hs'.ik7 hk hob (fun i hi=>hno i (by omega)) (fun i o _ ho=>hs.nmO hlv i o ho) (fun i hi=>hk.off i (by omega)) (fun g=>(hs.env g).nm hlv),hfrz.vr hk rfl hs' r hv',?_⟩;exact ⟨hx.size,hx.keep,hx.shape,fun i B d hi=>hx.img i B d (hk.at hi).2,fun i B d hi h=>by rw[hk.on i hi]; exact hx.at_ i B d hi h,fun i hi h=>by rw[hk.on i hi]; exact hx.dead i hi h,fun i hi h=>by rw[hk.on i hi]; exact hx.no i hi h,hx.output,hx.os,hx.tape,hx.loops,hx.X⟩
theorem eb1 {f:Nat}{args:List IV}{v:IV}(h:PC P E f args v):C P E f args σ (il7 v σ):=h σ
theorem ie1 {f:Nat}{args:List IV}{v:IV}
  (h:∀ σ,(∀ a∈args,Bnd σ.next a)→C P E f args σ fun v' σ'=>(∀ i,i<σ.next→σ'.obj i=σ.obj i)∧σ.next≤σ'.next∧co8 σ' σ.next v' v):PC P E f args v :=
 fun σ=>ir8 (h σ)
theorem ir9 {pt:PT}{ct:CT}{pf:List Nat}(hT:TOK P E pt ct){f:Nat}{an:Ann}{ic:IC}{irs:List IR}{args:List IV}{v:IV}(hf:gr7 P f N pf an ic irs)(hl:args.length≤N)
  (h:∀ σ,(∀ a∈args,Bnd σ.next a)→wpT pt ct P E N σ.next ic (be1 args 0) σ (fp3 irs fun v' σ'=>(∀ i,i<σ.next→σ'.obj i=σ.obj i)∧σ.next≤σ'.next∧co8 σ' σ.next v' v)):PC P E f args v :=
 ie1 fun σ hb=>C_T hT hf hl (h σ hb)
/-! ### A pure function,on what is one's own -/
def IV.plain:IV→Bool
 | .bool _|.int _ _|.str _=>true
 | .tuple vs=>vs.attach.all fun ⟨v,_⟩=>v.plain
 | .agg vs=>vs.attach.all fun ⟨v,_⟩=>v.plain
 | _=>false
theorem gh2 {v:IV}{r:Value}(h:v.plain=true)(hv:VR ρ w v r):VR ρ' w' v r:=by
 induction hv with
 | bool b=>exact .bool _
 | int k n=>exact .int _ _
 | str s=>exact .str _
 | agg cs rs hl hv ih=>
  refine .agg cs rs hl fun i hi=>ih i hi ?_
  unfold IV.plain at h
  exact List.all_eq_true.1 h ⟨_,ad5 .undef hi⟩ (List.mem_attach _ _)
 | tuple cs rs hl hv ih=>
  refine .tuple cs rs hl fun i hi=>ih i hi ?_
  unfold IV.plain at h
  exact List.all_eq_true.1 h ⟨_,ad5 .undef hi⟩ (List.mem_attach _ _)
 | _=>simp[IV.plain] at h
theorem eb2 (S:Nat→Prop)(ρ:Rho):∃ ρ':Rho,by7 S ρ ρ'∧∀ b,ρ'.X b↔ρ.X b∨∃ i d,¬ S i∧ρ i=.at b d:=by
 refine ⟨⟨fun i=>if Classical.propDecidable (S i) |>.decide then ρ i else .no,fun b=>ρ.X b∨∃ i d,¬ S i∧ρ i=.at b d⟩,⟨fun i h=>?_,fun i h=>?_,fun b h=>h⟩,fun b=>Iff.rfl⟩
 ·show (if (Classical.propDecidable (S i)).decide=true then ρ i else dm1.no)=_;rw[if_pos (by simpa using h)]
 ·show (if (Classical.propDecidable (S i)).decide=true then ρ i else dm1.no)=_;rw[if_neg (by simpa using h)]
def Store.only (σ:Store)(S:Nat→Bool):Store:=⟨σ.next,fun i=>if S i then σ.obj i else none⟩
theorem ei9 {f:Nat}{args:List IV}{v:IV}(hE:∀ g,Bnd 0 (E g))(ha:∀ a∈args,Bnd 0 a)(h:C P E f args ⟨0,fun _=>none⟩ fun v' σ'=>co8 σ' 0 v' v):PC P E f args v:=by
 intro σ ρ w rargs hs hr;obtain ⟨ρ0,hk,hX⟩:=eb2 (fun _=>False) ρ;have hs0:Sim E ρ0 w ⟨0,fun _=>none⟩:=hs.ik7 hk (fun i h=>h.elim) (fun _ _=>rfl) (fun i o h=>h.elim) (fun i _=>hk.off i (fun h=>h)) (fun g=>(hE g).weak fun i h=>absurd h (Nat.not_lt_zero _));have hr0:CR ρ0 w args rargs:=⟨hr.1,fun i hi=>(hr.2 i hi).cut hk ((ha _ (ad5 _ hi)).weak fun i h=>absurd h (Nat.not_lt_zero _))⟩;refine CallsIn.mono (h ρ0 w rargs hs0 hr0) ?_;rintro e w' ⟨v',r,ρ',σ',rfl,hfz,hs',hv',hx⟩;have hno0:∀ i,ρ0 i=.no:=fun i=>hk.off i (fun h=>h)
 have hkeep:∀ b,b<w.heap.size→w'.heap[b]? = w.heap[b]?:=fun b hb=>hx.keep b ⟨hb,fun i d h=>by rw[hno0 i] at h; cases h⟩
 have hlt:∀ (b:Nat) (o:Obj),w.heap[b]? = some o→b<w.heap.size:=fun b o h=>by
  rcases Nat.lt_or_ge b w.heap.size with h'|h'
  ·exact h'
  ·rw[Array.getElem?_eq_none h'] at h; cases h
 have hext:∀ n,Ext n ρ w ρ w':=fun n=>
  ⟨hx.size,fun b hb=>hkeep b hb.1,fun b rcs el fz h=>⟨rcs,by rw[hkeep b (hlt b _ h)]; exact h,rfl⟩,fun i B d h=>.inl ⟨i,d,h⟩,fun i B d h=>.inl h,fun i h=>h,fun i _ h=>h,hx.output,hx.os,hx.tape,fun l L h=>⟨L,by rw[hkeep l (hlt l _ h)]; exact h⟩,rfl⟩
 -- the tree lies on no block that is in use
 let ρ1:Rho:=⟨fun _=>.no,ρ'.X⟩;have hk1:by7 (fun i=>i<0) ρ' ρ1:=⟨fun i h=>absurd h (Nat.not_lt_zero _),fun i _=>rfl,fun b h=>.inl h⟩;have hv1:VR ρ1 w' v r:=hfz.vr hk1 rfl hs' r hv'
 have hv2:VR ρ w' v r:=hv1.refs (fun i h=>absurd rfl h) fun b hb=>⟨hb.1,fun i d hi=>hb.3 (by
   show ρ'.X b;rw[hx.X];exact (hX b).2 (.inr ⟨i,d,fun h=>h,hi⟩)),fun hxb=>hb.3 (by
   show ρ'.X b;rw[hx.X];exact (hX b).2 (.inl hxb))⟩
 refine ⟨v,r,ρ,σ,rfl,⟨rfl,rfl⟩,⟨hs.inj,fun i B d h=>Nat.lt_of_lt_of_le (hs.lt i B d h) hx.size,fun i B d h=>?_,hs.dead,hs.fresh,hs.ar2,fun g=>(hs.env g).mono (hext 0),hs.nx,fun b h=>Nat.lt_of_lt_of_le (hs.xlt b h) hx.size⟩,hv2,(hext σ.next).weak (Nat.le_refl _)⟩;obtain ⟨o,h1,h2⟩:=hs.obj i B d h;exact ⟨o,h1,h2.mono (hext 0) (hkeep B (hs.lt i B d h))⟩
def Store.kills (σ:Store)(S:Nat→Bool):Store:=⟨σ.next,fun i=>if S i then σ.obj i else none⟩
theorem eb3 {S:Nat→Bool}(hs:Sim E ρ w σ):∃ ρd:Rho,Sim E ρd w (σ.kills S)∧(∀ n,Ext n ρ w ρd w)∧∀ v v' r,Frz σ (fun i=>S i=true) v v'→VR ρ w v r→VR ρd w v' r:=by
 let ρc:Rho:=⟨fun i=>if S i then ρ i else .no,ρ.X⟩;let ρd:Rho:=⟨fun i=>if S i then ρ i else match ρ i with|.no=>.no|_=>.dead,ρ.X⟩;have con:∀ i,S i=true→ρc i=ρ i:=fun i h=>by show (if S i=true then ρ i else .no)=_; rw[if_pos h]
 have coff:∀ i,S i=false→ρc i=.no:=fun i h=>by show (if S i=true then ρ i else .no)=_; rw[if_neg (by simp[h])]
 have don:∀ i,S i=true→ρd i=ρ i:=fun i h=>by show (if S i=true then ρ i else _)=_; rw[if_pos h]
 have doff:∀ i,S i=false→ρd i=(match ρ i with|.no=>.no|_=>.dead):=fun i h=>by show (if S i=true then ρ i else _)=_; rw[if_neg (by simp[h])]
 have hdat:∀ i B d,ρd i=.at B d→S i=true∧ρ i=.at B d:=fun i B d h=>by
  cases hsi:S i with
  | true=>rw[don i hsi] at h; exact ⟨rfl,h⟩
  | false=>rw[doff i hsi] at h; cases hri:ρ i<;>rw[hri] at h<;>cases h
 have hk:by7 (fun i=>S i=true) ρ ρc:=⟨con,fun i h=>coff i (by simpa using h),fun b h=>.inl h⟩
 have hxd:∀ n,Ext n ρ w ρd w:=fun n=>df8 (fun i B d h=>by
   cases hsi:S i with
   | true=>rw[don i hsi]; exact .inl h
   | false=>rw[doff i hsi,h]; exact .inr rfl) (fun i h=>by
   cases hsi:S i with
   | true=>rw[don i hsi]; exact h
   | false=>rw[doff i hsi,h]) (fun i _ h=>by
   cases hsi:S i with
   | true=>rw[don i hsi]; exact h
   | false=>rw[doff i hsi,h]) (fun i B d h=>⟨i,d,(hdat i B d h).2⟩) rfl
 have hxc:Ext 0 ρc w ρd w:=df8 (fun i B d h=>by
   obtain ⟨h1,h2⟩:=hk.at h;exact .inl (by rw[don i h1]; exact h2)) (fun i h=>by
   cases hsi:S i with
   | true=>rw[con i hsi] at h; rw[don i hsi]; exact h
   | false=>rw[coff i hsi] at h; cases h) (fun i hi _=>absurd hi (Nat.not_lt_zero _)) (fun i B d h=>⟨i,d,by rw[con i (hdat i B d h).1]; exact (hdat i B d h).2⟩) rfl
 refine ⟨ρd,?_,hxd,fun v v' r hf hv=>(hf.vr hk rfl hs r hv).mono hxc⟩;refine ⟨fun i j B d d' hi hj=>hs.inj i j B d d' (hdat _ _ _ hi).2 (hdat _ _ _ hj).2,fun i B d hi=>hs.lt i B d (hdat _ _ _ hi).2,fun i B d hi=>?_,fun i hi=>?_,fun i hi=>?_,fun i hi=>?_,fun g=>(hs.env g).mono (hxd 0),fun i B d hi=>hs.nx i B d (hdat _ _ _ hi).2,hs.xlt⟩
 ·obtain ⟨h1,h2⟩:=hdat _ _ _ hi;obtain ⟨o,g1,g2⟩:=hs.obj i B d h2;exact ⟨o,by simp[Store.kills,h1,g1],g2.mono (hxd 0) rfl⟩
 ·cases hsi:S i with
  | true=>rw[don i hsi] at hi; simp[Store.kills,hsi,hs.dead i hi]
  | false=>simp[Store.kills,hsi]
 ·have hn:σ.next≤i:=hi;have:=hs.fresh i hn
  cases hsi:S i with
  | true=>rw[don i hsi]; exact this
  | false=>rw[doff i hsi,this]
 ·cases hsi:S i with
  | true=>rw[don i hsi] at hi; simp[Store.kills,hsi,hs.ar2 i hi]
  | false=>simp[Store.kills,hsi]
theorem ej1 {S:Nat→Bool}{f:Nat}{args args':List IV}{Q:IV→Store→Prop}(hl:args'.length=args.length)(ha:∀ i,i<args.length→Frz σ (fun i=>S i=true) (args.getD i .undef) (args'.getD i .undef))
  (h:C P E f args' (σ.kills S) Q):C P E f args σ Q:=by
 intro ρ w rargs hs hr;obtain ⟨ρd,hs0,hxd,hvd⟩:=eb3 (S:=S) hs;have hr0:CR ρd w args' rargs:=⟨by rw[hl]; exact hr.1,fun i hi=>hvd _ _ _ (ha i (by omega)) (hr.2 i (by omega))⟩;refine CallsIn.mono (h ρd w rargs hs0 hr0) ?_;rintro e w' ⟨v,r,ρ',σ',rfl,hq,hs',hv',hx⟩;exact ⟨v,r,ρ',σ',rfl,hq,hs',hv',((hxd σ.next).weak (Nat.le_refl _)).trans hx⟩
theorem cf5 {f:Nat}{args args':List IV}{v:IV}(hE:∀ g,Bnd 0 (E g))(hl:args'.length=args.length)(ha:∀ i,i<args.length→co8 σ 0 (args.getD i .undef) (args'.getD i .undef))(hp:v.plain=true)(h:PC P E f args' v):C P E f args σ (il7 v σ):=by
 intro ρ w rargs hs hr;have hk:=gs6 ρ 0;have hs0:Sim E (ρ.cut 0) w ⟨0,fun _=>none⟩:=hs.ik7 hk (fun i h=>absurd h (Nat.not_lt_zero _)) (fun _ _=>rfl) (fun i o h=>absurd h (Nat.not_lt_zero _)) (fun i _=>hk.off i (Nat.not_lt_zero _)) hE;have hr0:CR (ρ.cut 0) w args' rargs:=⟨by rw[hl]; exact hr.1,fun i hi=>(ha i (by omega)).vr hk rfl hs _ (hr.2 i (by omega))⟩;refine CallsIn.mono (h ⟨0,fun _=>none⟩ (ρ.cut 0) w rargs hs0 hr0) ?_;rintro e w' ⟨v',r,ρ',σ',rfl,⟨rfl,rfl⟩,hs',hv',hx⟩;have hkeep:∀ b,b<w.heap.size→w'.heap[b]? = w.heap[b]?:=fun b hb=>hx.keep b ⟨hb,fun i d h=>absurd (hk.at h).1 (Nat.not_lt_zero _)⟩
 have hlt:∀ (b:Nat) (o:Obj),w.heap[b]? = some o→b<w.heap.size:=fun b o h=>by
  rcases Nat.lt_or_ge b w.heap.size with h'|h'
  ·exact h'
  ·rw[Array.getElem?_eq_none h'] at h; cases h
 have hext:∀ n,Ext n ρ w ρ w':=fun n=>
  ⟨hx.size,fun b hb=>hkeep b hb.1,fun b rcs el fz h=>⟨rcs,by rw[hkeep b (hlt b _ h)]; exact h,rfl⟩,fun i B d h=>.inl ⟨i,d,h⟩,fun i B d h=>.inl h,fun i h=>h,fun i _ h=>h,hx.output,hx.os,hx.tape,fun l L h=>⟨L,by rw[hkeep l (hlt l _ h)]; exact h⟩,rfl⟩
 refine ⟨_,r,ρ,σ,rfl,⟨rfl,rfl⟩,⟨hs.inj,fun i B d h=>Nat.lt_of_lt_of_le (hs.lt i B d h) hx.size,fun i B d h=>?_,hs.dead,hs.fresh,hs.ar2,fun g=>(hs.env g).mono (hext 0),hs.nx,fun b h=>Nat.lt_of_lt_of_le (hs.xlt b h) hx.size⟩,gh2 hp hv',(hext σ.next).weak (Nat.le_refl _)⟩;obtain ⟨o,h1,h2⟩:=hs.obj i B d h;exact ⟨o,h1,h2.mono (hext 0) (hkeep B (hs.lt i B d h))⟩
end Go.Id
