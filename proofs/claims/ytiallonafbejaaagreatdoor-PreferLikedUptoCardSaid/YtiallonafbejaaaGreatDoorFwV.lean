/- A function compiled,whole: its code and its results. Conditions: none; over any program. -/
import Derived.Test.YtiallonafbejaaaGreatDoorFwI
set_option linter.all false
namespace Go.Id
open Go
variable {P:Program} {w w' w'':World} {ρ ρ' ρ'':Rho} {E:Nat→IV} {σ σ':Store} {N n n':Nat} {fr:Frm} {a:Act} {pf:List Nat}
inductive IR where
 | t (n:Nat)
 | cell (agg:Option Nat) (n:Nat)
 deriving Inhabited
def ig6 (P:Program):ResultVar→Option IR
 | .tmp t=>some (.t t)
 | .cell ad t=>match ai5 P t with
  | some agg=>some (.cell agg ad)
  | none=>none
def ej5 (P:Program):List ResultVar→Option (List IR)
 | []=>some []
 | r::rs=>match ig6 P r,ej5 P rs with
  | some x,some xs=>some (x::xs)
  | _,_=>none
def irV (σ:Store)(fr:Frm):IR→Option IV
 | .t n=>some (fr.get n)
 | .cell agg n=>ap5 σ agg (fr.get n)
def irL (σ:Store)(fr:Frm):List IR→Option (List IV)
 | []=>some []
 | r::rs=>match irV σ fr r,irL σ fr rs with
  | some v,some vs=>some (v::vs)
  | _,_=>none
theorem gh2:∀ (rs:List ResultVar) (irs:List IR),ej5 P rs=some irs→ft9 P σ fr rs=irL σ fr irs:=by
 intro rs
 induction rs with
 | nil=>intro irs h; cases h; rfl
 | cons r rs ih=>
  intro irs h
  simp only[ej5] at h
  split at h
  ·rename_i x xs hx hxs
   cases h
   have h1:ht5 P σ fr r=irV σ fr x:=by
    cases r with
    | tmp t=>cases hx; rfl
    | cell ad t=>
     simp only[ig6] at hx
     split at hx
     ·rename_i agg hagg
      cases hx
      simp[ht5,irV,hagg]
     ·cases hx
   simp only[ft9,irL,h1,ih _ hxs]
   cases irV σ fr x<;>cases irL σ fr xs<;>rfl
  ·cases h
def fw9 (P:Program)(f N:Nat)(pf:List Nat)(an:Ann)(ic:IC)(irs:List IR):Prop :=
 ∃ fn,P.funcs[f]? = some fn∧fn.ntmps=N∧fn.body.bind (au8 P pf N an)=some ic∧ej5 P fn.results.toList=some irs
theorem ab3 {f:Nat}{fn:Func}{an:Ann}{ic:IC}{irs:List IR}(h:P.funcs[f]? = some fn)(hN:fn.ntmps=N)(hc:fn.body.bind (au8 P pf N an)=some ic)(hr:ej5 P fn.results.toList=some irs):fw9 P f N pf an ic irs :=
 ⟨fn,h,hN,hc,hr⟩
def ig7 (irs:List IR)(Qc:IV→Store→Prop):Exit→Frm→Store→Prop
 | .normal,fr,σ|.ret,fr,σ=>∃ vs,irL σ fr irs=some vs∧Qc (eh8 vs) σ
 | _,_,_=>False
theorem il1 {f:Nat}{an:Ann}{ic:IC}{irs:List IR}{args:List IV}{Qc:IV→Store→Prop}(hf:fw9 P f N pf an ic irs)(hl:args.length≤N)
  (h:wpI P E N σ.next ic (ax6 args 0) σ (ig7 irs Qc)):C P E f args σ Qc:=by
 obtain ⟨fn,h1,h2,h3,h4⟩:=hf
 cases hb:fn.body with
 | none=>rw[hb] at h3; cases h3
 | some c=>
  rw[hb] at h3
  refine gy6 h1 hb h2 hl ((ba8 ic _ _ _ h pf an c h3).mono ?_)
  intro e fr' σ' q
  cases e<;>first|(obtain ⟨vs,q1,q2⟩:=q; exact ⟨vs,by rw[gh2 _ _ h4]; exact q1,q2⟩)|exact q
end Go.Id
/- Frames,by what is asked of them. Conditions: none; over any program. -/
namespace Go.Id
open Go
theorem Frm.get_nil (t:Nat):Frm.get [] t=.undef:=by unfold Frm.get; simp
theorem Frm.get_cons (t s:Nat)(v:IV)(fr:Frm):Frm.get ((t,v)::fr) s=if s=t then v else Frm.get fr s:=Frm.get_set fr t s v
end Go.Id
/- The walk by tables: what functions give,as functions; the form that is rewritten. Conditions: none; over any program. -/
namespace Go.Id
open Go
universe u
variable {P:Program} {E:Nat→IV} {σ σ':Store} {N n n0:Nat} {fr:Frm} {a:Act} {pf:List Nat}
abbrev PT:=Nat→List IV→Option IV
abbrev CT:=Nat→List IV→Store→Option (IV→Store→Prop)
structure TOK (P:Program) (E:Nat→IV) (pt:PT) (ct:CT):Prop where
 p:∀ f args v,pt f args=some v→PC P E f args v
 c:∀ f args σ Q,ct f args σ=some Q→okF P f=true∧C P E f args σ Q
def noP:PT:=fun _ _=>none
def noC:CT:=fun _ _ _=>none
theorem noT:TOK P E noP noC:=⟨(fun _ _ _ h=>by cases h),(fun _ _ _ _ h=>by cases h)⟩
theorem ej6 {f:Nat}{args:List IV}:noP f args=none:=by unfold noP; exact Eq.trans rfl rfl
theorem ej7 {f:Nat}{args:List IV}:noC f args σ=none:=by unfold noC; exact Eq.trans rfl rfl
def bk1 {α:Type}:Option α→(α→Prop)→Prop
 | some v,K=>K v
 | none,_=>False
def go6:IV→(Bool→Prop)→Prop
 | .bool b,K=>K b
 | _,_=>False
def fq5 (v:IV)(want:Bool)(A B:Prop):Prop :=
 match ft4 v want with
 | some true=>A
 | some false=>B
 | none=>False
theorem dh7 {v:IV}{want:Bool}{A B:Prop}(h:fq5 v want A B):∃ act,ft4 v want=some act∧if act=true then A else B:=by
 unfold fq5 at h
 split at h
 ·rename_i ha; exact ⟨true,ha,h⟩
 ·rename_i ha; exact ⟨false,ha,h⟩
 ·exact h.elim
theorem ah8 {α:Type}{o:Option α}{K:α→Prop}(h:bk1 o K):∃ v,o=some v∧K v:=by
 cases o with
 | none=>exact h.elim
 | some v=>exact ⟨v,rfl,h⟩
theorem ej8 {o:IV}{K:Bool→Prop}(h:go6 o K):∃ b,o=.bool b∧K b:=by
 cases o<;>first|exact ⟨_,rfl,h⟩|exact h.elim
def cg9 (P:Program)(E:Nat→IV)(o:Option (IV→Store→Prop))(f:Nat)(args:List IV)(σ:Store)(K:IV→Store→Prop):Prop :=
 match o with
 | some Q=>∀ v s,Q v s→σ.next≤s.next∧K v s
 | none=>∃ Q,(okF P f=true∧C P E f args σ Q)∧∀ v s,Q v s→σ.next≤s.next∧K v s
def fx1 (P:Program)(E:Nat→IV)(o:Option IV)(f:Nat)(args:List IV)(σ:Store)(K:IV→Store→Prop):Prop :=
 match o with
 | some v=>K v σ
 | none=>∃ v,PC P E f args v∧K v σ
def opT (pt:PT)(ct:CT)(P:Program)(E:Nat→IV)(op:IK)(id:Nat)(fr:Frm)(σ:Store)(K:IV→Store→Prop):Prop :=
 match op with
 | .q q=>bk1 (evq E fr σ q) fun v=>K v σ
 | .alloc z=>K (.ptr id 0) (σ.put id (.cells z))
 | .box x=>(x.ev E fr).cs.all IV.leaf=true∧K (.ptr id 0) (σ.put id (.cells (x.ev E fr).cs))
 | .bsl esz n z parts=>bk1 (an8 (rep z n) (parts.map fun p=>(p.1,p.2.1,p.2.2.ev E fr))) fun out=>K (.slice id 0 n esz) (σ.put id (.row out))
 | .store sz x y=>bk1 (aj1 σ sz (x.ev E fr) (y.ev E fr)) fun σ'=>K .undef σ'
 | .srange x=>match x.ev E fr with
  | .str s=>K (.ptr id 0) (σ.put id (.siter s 0))
  | _=>False
 | .snext x=>bk1 (ba5 σ (x.ev E fr)) fun r=>K r.1 r.2
 | .mkmap=>K (.map id) (σ.put id (.map []))
 | .mupd tag x k v=>bk1 (an9 σ tag (x.ev E fr) (k.ev E fr) (v.ev E fr)) fun σ'=>K .undef σ'
 | .app esz s x=>bk1 (ax4 σ id esz (s.ev E fr) (x.ev E fr)) fun r=>K r.1 r.2
 | .call f args=>cg9 P E (ct f (args.map (·.ev E fr)) σ) f (args.map (·.ev E fr)) σ K
 | .pcall f args=>fx1 P E (pt f (args.map (·.ev E fr))) f (args.map (·.ev E fr)) σ K
 | .callv x args=>match x.ev E fr with
  | .func (.func f) first cap=>cg9 P E (ct f (first++args.map (·.ev E fr)++cap) σ) f (first++args.map (·.ev E fr)++cap) σ K
  | .yield i=>∃ Q,CV P E (.yield i) (args.map (·.ev E fr)) σ Q∧∀ v σ',Q v σ'→σ.next≤σ'.next∧K v σ'
  | _=>False
 | .bslt esz n z parts=>bk1 (an8 (rep z n) (parts.map fun p=>(p.1,p.2.1,p.2.2.ev E fr))) fun out=>K (.tslice (chunk esz n out)) σ
 | .boxt x=>(x.ev E fr).cs.all IV.leaf=true∧K (.tptr (x.ev E fr).cs) σ
 | .mrange x=>match x.ev E fr with
  | .tmap es=>K (.ptr id 0) (σ.put id (.miter es none))
  | _=>False
 | .mnext x=>bk1 (ba6 σ (x.ev E fr)) fun r=>(r.2=[]→K (.tuple [.bool false]) σ) ∧
   ∀ j,j<r.2.length→K (.tuple [.bool true,(r.2.getD j (.undef,.undef)).1,(r.2.getD j (.undef,.undef)).2]) (σ.put r.1 (.miter (r.2.eraseIdx j) (some (r.2.getD j (.undef,.undef)))))
 | .ment x=>bk1 (cb5 σ (x.ev E fr)) fun v=>K v σ
 | .mksl esz z x=>bk1 (cy4 (x.ev E fr)) fun n=>K (.slice id 0 n esz) (σ.put id (.row (rep z n)))
 | .clr esz z x=>bk1 (fb1 σ esz z (x.ev E fr)) fun σ'=>σ'.next=σ.next∧K .undef σ'
 | .st k xs=>bk1 (stI k id σ (xs.map (·.ev E fr))) fun r=>K r.1 r.2
theorem cn5 {pt:PT}{ct:CT}(hT:TOK P E pt ct){f:Nat}{args:List IV}{K:IV→Store→Prop}(h:cg9 P E (ct f args σ) f args σ K):∃ Q,(okF P f=true∧C P E f args σ Q)∧∀ v s,Q v s→σ.next≤s.next∧K v s:=by
 cases ho:ct f args σ with
 | none=>rw[ho] at h; exact h
 | some Q=>rw[ho] at h; exact ⟨Q,hT.c _ _ _ Q ho,h⟩
theorem bb5 {pt:PT}{ct:CT}(hT:TOK P E pt ct){op:IK}{id:Nat}{K:IV→Store→Prop}(h:opT pt ct P E op id fr σ K):opR P E op id fr σ K:=by
 cases op with
 | q q=>exact ah8 h
 | alloc z=>exact h
 | box x=>exact h
 | bsl e n z ps=>exact ah8 h
 | store e x y=>exact ah8 h
 | app e s x=>exact ah8 h
 | mkmap=>exact h
 | srange x=>
  simp only[opT] at h
  split at h
  ·rename_i s he; exact ⟨s,he,h⟩
  ·exact h.elim
 | snext x=>exact ah8 h
 | mupd t x y z=>exact ah8 h
 | call f xs=>
  obtain ⟨Q,h1,h2⟩:=cn5 hT h
  exact ⟨Q,h1.2,h2⟩
 | pcall f xs=>
  simp only[opT] at h
  cases ho:pt f (xs.map (·.ev E fr)) with
  | none=>rw[ho] at h; exact h
  | some v=>rw[ho] at h; exact ⟨v,hT.p _ _ _ ho,h⟩
 | callv x xs=>
  simp only[opT] at h
  split at h
  ·rename_i f first cap he
   obtain ⟨Q,h1,h2⟩:=cn5 hT h
   refine ⟨Q,?_,h2⟩
   rw[he]
   exact h1
  ·rename_i i he
   rw[← he] at h
   exact h
  ·exact h.elim
 | bslt e n z ps=>exact ah8 h
 | boxt x=>exact h
 | mrange x=>
  simp only[opT] at h
  split at h
  ·rename_i s he; exact ⟨s,he,h⟩
  ·exact h.elim
 | mnext x=>
  obtain ⟨⟨i,l⟩,h1,h2⟩:=ah8 h
  exact ⟨i,l,h1,h2⟩
 | ment x=>exact ah8 h
 | mksl e z x=>exact ah8 h
 | clr e z x=>exact ah8 h
 | st k xs=>exact ah8 h
def bn8 (pt:PT) (ct:CT) (P:Program) (E:Nat→IV):List IOper→Nat→Frm→Store→(Frm→Store→Prop)→Prop
 | [],_,fr,σ,K=>K fr σ
 | o::rest,id,fr,σ,K=>
  match o.guard with
  | none=>opT pt ct P E o.op id fr σ fun v σ'=>bn8 pt ct P E rest (if o.op.lays then id+1 else id) (fr.setd o.dst v) σ' K
  | some (s,want)=>fq5 (fr.get s) want (opT pt ct P E o.op id fr σ fun v σ'=>bn8 pt ct P E rest (if o.op.lays then id+1 else id) (fr.setd o.dst v) σ' K)
    (bn8 pt ct P E rest (if o.op.lays then id+1 else id) (fr.setd o.dst skV) σ K)
theorem dr4 {pt:PT}{ct:CT}(hT:TOK P E pt ct):∀ (ops:List IOper) (id:Nat) (fr:Frm) (σ:Store) (K:Frm→Store→Prop),bn8 pt ct P E ops id fr σ K→bm6 P E ops id fr σ K:=by
 intro ops
 induction ops with
 | nil=>intro id fr σ K h; exact h
 | cons o os ih=>
  intro id fr σ K h
  obtain ⟨d,g,op⟩:=o
  cases g with
  | none=>
   simp only[bn8,bm6] at h ⊢
   exact ⟨true,rfl,ag6 (fun v s k=>ih _ _ _ _ k) (bb5 hT h)⟩
  | some p=>
   obtain ⟨s,want⟩:=p
   simp only[bn8,bm6] at h ⊢
   obtain ⟨act,ha,h⟩:=dh7 h
   refine ⟨act,ha,?_⟩
   cases act with
   | true=>
    rw[if_pos rfl] at h ⊢
    exact ag6 (fun v s k=>ih _ _ _ _ k) (bb5 hT h)
   | false=>
    rw[if_neg (by simp)] at h ⊢
    exact ih _ _ _ _ h
def bl5 (E:Nat→IV)(fr:Frm)(σ:Store):IK→Prop
 | .q (.load _ x)=>match x.ev E fr with
  | .tptr _=>True
  | .ptr i _=>match σ.obj i with
   | some (.cells _)=>True
   | _=>False
  | _=>False
 | _=>True
theorem cn6 {op:IK}(h:bl5 E fr σ op):au6 E fr σ op:=by
 cases op with
 | q q=>
  cases q with
  | load ag x=>
   simp only[bl5,au6] at h ⊢
   cases he:x.ev E fr<;>rw[he] at h<;>simp only at h ⊢
   rename_i i off
   cases ho:σ.obj i with
   | none=>rw[ho] at h; exact h.elim
   | some ob=>
    rw[ho] at h
    cases ob<;>first|exact ⟨_,rfl⟩|exact h.elim
  | _=>trivial
 | _=>trivial
def bb6 (pt:PT) (ct:CT) (P:Program) (E:Nat→IV) (B:Bool):List IOper→Nat→Frm→Store→(Frm→Store→Prop)→Prop
 | [],_,fr,σ,K=>K fr σ
 | o::rest,id,fr,σ,K=>
  match o.guard with
  | none=>(B=true→bl5 E fr σ o.op)∧opT pt ct P E o.op id fr σ fun v σ'=>bb6 pt ct P E B rest (id+1) (fr.setd o.dst v) σ' K
  | some (s,want)=>fq5 (fr.get s) want ((B=true→bl5 E fr σ o.op)∧opT pt ct P E o.op id fr σ fun v σ'=>bb6 pt ct P E B rest (id+1) (fr.setd o.dst v) σ' K)
    (bb6 pt ct P E B rest (id+1) (fr.setd o.dst skV) σ K)
theorem dr5 {pt:PT}{ct:CT}(hT:TOK P E pt ct){B:Bool}{base:Nat}:∀ (ops:List IOper) (i:Nat) (fr:Frm) (σ:Store) (K:Frm→Store→Prop),bb6 pt ct P E B ops (base+i) fr σ K→bj9 P E B (dy3 base i ops) fr σ K:=by
 intro ops
 induction ops with
 | nil=>intro i fr σ K h; exact h
 | cons o os ih=>
  intro i fr σ K h
  obtain ⟨d,g,op⟩:=o
  cases g with
  | none=>
   simp only[bb6] at h
   exact ⟨true,rfl,ag6 (fun v s k=>ih _ _ _ _ k) (bb5 hT h.2),fun hb=>cn6 (h.1 hb)⟩
  | some p=>
   obtain ⟨s,want⟩:=p
   simp only[bb6] at h
   obtain ⟨act,ha,h⟩:=dh7 h
   refine ⟨act,ha,?_⟩
   cases act with
   | true=>exact ⟨ag6 (fun v s k=>ih _ _ _ _ k) (bb5 hT h.2),fun hb=>cn6 (h.1 hb)⟩
   | false=>exact ih _ _ _ _ h
def wpT (pt:PT)(ct:CT)(P:Program)(E:Nat→IV)(N n0:Nat):IC→Frm→Store→(Exit→Frm→Store→Prop)→Prop
 | .skip,fr,σ,Q=>Q .normal fr σ
 | .reg _ ops keep,fr,σ,Q=>bn8 pt ct P E ops σ.next fr ⟨σ.next+bm7 ops,σ.obj⟩ (fun fr' σ'=>Q .normal (fr'.keep keep) σ')
 | .dreg _ ops B keep,fr,σ,Q=>bb6 pt ct P E B ops σ.next fr ⟨σ.next+ops.length,σ.obj⟩ (fun fr' σ'=>Q .normal (fr'.keep keep) σ')
 | .oreg _ ops keep,fr,σ,Q=>ao2 P E (gg5 σ.next ops) [] fr { σ with next:=σ.next+ops.length } (fun fr' σ'=>Q .normal (fr'.keep keep) σ')
 | .seq a b,fr,σ,Q=>wpT pt ct P E N n0 a fr σ (fun e fr' σ'=>match e with|.normal=>wpT pt ct P E N n0 b fr' σ' Q|e=>Q e fr' σ')
 | .cond x a b,fr,σ,Q=>go6 (x.ev E fr) fun t=>if t=true then wpT pt ct P E N n0 a fr σ Q else wpT pt ct P E N n0 b fr σ Q
 | .block id a,fr,σ,Q=>wpT pt ct P E N n0 a fr σ (bi6 id Q)
 | .loop a,fr,σ,Q=>RI P E N n0 (.loop a) fr σ Q
 | .exit id,fr,σ,Q=>Q (.exit id) fr σ
 | .ret,fr,σ,Q=>Q .ret fr σ
 | .rfunc g ps y a,fr,σ,Q=>RI P E N n0 (.rfunc g ps y a) fr σ Q
 | .scope a,fr,σ,Q=>wpT pt ct P E N n0 a fr σ (fb5 Q)
theorem bn9:∀ (ic:IC) (fr:Frm) (σ:Store) (Q Q':Exit→Frm→Store→Prop),(∀ e f s,Q e f s→Q' e f s)→wpI P E N n0 ic fr σ Q→wpI P E N n0 ic fr σ Q':=by
 have hrops:∀ (ops:List IOper) (id:Nat) (fr:Frm) (σ:Store) (K K':Frm→Store→Prop),(∀ f s,K f s→K' f s)→bm6 P E ops id fr σ K→bm6 P E ops id fr σ K':=by
  intro ops
  induction ops with
  | nil=>intro id fr σ K K' hk h; exact hk _ _ h
  | cons o os ih=>
   intro id fr σ K K' hk h
   simp only[bm6] at h ⊢
   obtain ⟨act,ha,h⟩:=h
   refine ⟨act,ha,?_⟩
   cases act with
   | true=>
    rw[if_pos rfl] at h ⊢
    exact ag6 (fun v s k=>ih _ _ _ _ _ hk k) h
   | false=>
    rw[if_neg (by simp)] at h ⊢
    exact ih _ _ _ _ _ hk h
 have htree:∀ (its:List Item) (B:Bool) (fr:Frm) (σ:Store) (K K':Frm→Store→Prop),(∀ f s,K f s→K' f s)→bj9 P E B its fr σ K→bj9 P E B its fr σ K':=by
  intro its
  induction its with
  | nil=>intro B fr σ K K' hk h; exact hk _ _ h
  | cons it its ih=>
   intro B fr σ K K' hk h
   obtain ⟨i,o,id⟩:=it
   obtain ⟨act,ha,hh⟩:=h
   refine ⟨act,ha,?_⟩
   cases act with
   | true=>exact ⟨ag6 (fun v s k=>ih _ _ _ _ _ hk k) hh.1,hh.2⟩
   | false=>exact ih _ _ _ _ _ hk hh
 intro ic
 induction ic with
 | skip=>intro fr σ Q Q' hq h; exact hq _ _ _ h
 | reg id ops keep=>intro fr σ Q Q' hq h; exact hrops _ _ _ _ _ _ (fun f s k=>hq _ _ _ k) h
 | dreg id ops B keep=>intro fr σ Q Q' hq h; exact htree _ _ _ _ _ _ (fun f s k=>hq _ _ _ k) h
 | oreg id ops keep=>intro fr σ Q Q' hq h; exact ei8 _ _ _ _ (fun f s k=>hq _ _ _ k) h
 | seq x y ihx ihy=>
  intro fr σ Q Q' hq h
  refine ihx _ _ _ _ ?_ h
  intro e f s k
  cases e with
  | normal=>exact ihy _ _ _ _ hq k
  | _=>exact hq _ _ _ k
 | cond x a b iha ihb=>
  intro fr σ Q Q' hq h
  obtain ⟨t,ht,h⟩:=h
  refine ⟨t,ht,?_⟩
  cases t with
  | true=>exact iha _ _ _ _ hq h
  | false=>exact ihb _ _ _ _ hq h
 | block id x ih=>
  intro fr σ Q Q' hq h
  refine ih _ _ _ _ ?_ h
  intro e f s k
  cases e with
  | exit i=>simp only[bi6] at k ⊢; split<;>rename_i hi<;>simp only[hi,if_true,if_false] at k<;>exact hq _ _ _ k
  | _=>exact hq _ _ _ k
 | scope x ih=>
  intro fr σ Q Q' hq h
  refine ih _ _ _ _ ?_ h
  intro e f s k
  cases e with
  | goto l=>exact k
  | _=>exact hq _ _ _ k
 | loop x ih=>intro fr σ Q Q' hq h; exact dq4 h hq
 | exit id=>intro fr σ Q Q' hq h; exact hq _ _ _ h
 | rfunc g ps y x ihy ih=>intro fr σ Q Q' hq h; exact dq4 h hq
 | ret=>intro fr σ Q Q' hq h; exact hq _ _ _ h
theorem av6 {pt:PT}{ct:CT}(hT:TOK P E pt ct):∀ (ic:IC) (fr:Frm) (σ:Store) (Q:Exit→Frm→Store→Prop),wpT pt ct P E N n0 ic fr σ Q→wpI P E N n0 ic fr σ Q:=by
 intro ic
 induction ic with
 | skip=>intro fr σ Q h; exact h
 | reg id ops keep=>intro fr σ Q h; exact dr4 hT _ _ _ _ _ h
 | dreg id ops B keep=>intro fr σ Q h; exact dr5 hT _ 0 _ _ _ h
 | oreg id ops keep=>intro fr σ Q h; exact h
 | seq x y ihx ihy=>
  intro fr σ Q h
  have h1:=ihx _ _ _ (show wpT pt ct P E N n0 x fr σ _ from h)
  refine bn9 x fr σ _ (fun e fr' σ'=>match e with|.normal=>wpI P E N n0 y fr' σ' Q|e=>Q e fr' σ') ?_ h1
  intro e f s k
  cases e with
  | normal=>exact ihy _ _ _ k
  | _=>exact k
 | cond x a b iha ihb=>
  intro fr σ Q h
  obtain ⟨t,ht,h⟩:=ej8 h
  refine ⟨t,ht,?_⟩
  cases t with
  | true=>exact iha _ _ _ h
  | false=>exact ihb _ _ _ h
 | block id x ih=>intro fr σ Q h; exact ih _ _ _ h
 | scope x ih=>intro fr σ Q h; exact ih _ _ _ h
 | loop x ih=>intro fr σ Q h; exact h
 | exit id=>intro fr σ Q h; exact h
 | ret=>intro fr σ Q h; exact h
 | rfunc g ps y x ihy ih=>intro fr σ Q h; exact h
def ff7 (irs:List IR)(Qc:IV→Store→Prop):Exit→Frm→Store→Prop
 | .normal,fr,σ|.ret,fr,σ=>bk1 (irL σ fr irs) fun vs=>Qc (eh8 vs) σ
 | _,_,_=>False
theorem cn7 {irs:List IR}{Qc:IV→Store→Prop}{e:Exit}(h:ff7 irs Qc e fr σ):ig7 irs Qc e fr σ:=by
 cases e<;>first|exact ah8 h|exact h
theorem C_T {pt:PT}{ct:CT}(hT:TOK P E pt ct){f:Nat}{an:Ann}{ic:IC}{irs:List IR}{args:List IV}{Qc:IV→Store→Prop}(hf:fw9 P f N pf an ic irs)(hl:args.length≤N)
  (h:wpT pt ct P E N σ.next ic (ax6 args 0) σ (ff7 irs Qc)):C P E f args σ Qc :=
 il1 hf hl (bn9 _ _ _ _ _ (fun _ _ _ k=>cn7 k) (av6 hT _ _ _ _ h))
theorem il2 {pt:PT}{ct:CT}(hT:TOK P E pt ct){f:Nat}{an:Ann}{ic:IC}{irs:List IR}{args:List IV}{v:IV}(hf:fw9 P f N pf an ic irs)(hl:args.length≤N)
  (h:∀ σ,wpT pt ct P E N σ.next ic (ax6 args 0) σ (ff7 irs fun v' σ'=>v'=v∧σ'=σ)):PC P E f args v :=
 fun σ=>C_T hT hf hl (h σ)
theorem gh3 {pt:PT}{ct:CT}(hT:TOK P E pt ct){x:IC}{Q:Exit→Frm→Store→Prop}(I:Nat→Frm→Store→Prop)(m:Nat)(h:I m fr σ)(hI:∀ m fr σ,I m fr σ→wpT pt ct P E N n0 x fr σ (dp9 I m Q)):RI P E N n0 (.loop x) fr σ Q :=
 fc4 I m h fun m fr σ hi=>av6 hT _ _ _ _ (hI m fr σ hi)
theorem nr {α:Sort u}{a b:α}(h:a=b):a=b:=h
/-! ### The rewriting: no continuation that is a 'fun' stands in a goal -/
def ej9 (o:Option IV)(σ:Store)(K:IV→Store→Prop):Prop:=bk1 o fun v=>K v σ
def hf8 (o:Option Store)(K:IV→Store→Prop):Prop:=bk1 o fun s=>K .undef s
def hf9 (o:Option (IV×Store))(K:IV→Store→Prop):Prop:=bk1 o fun r=>K r.1 r.2
def ht9 (v:IV)(σ:Store):IV→Store→Prop:=fun v' σ'=>v'=v∧σ'=σ
def ig8 (o:Option (List IV))(id n esz:Nat)(σ:Store)(K:IV→Store→Prop):Prop:=bk1 o fun out=>K (.slice id 0 n esz) (σ.put id (.row out))
def ff8 (ct:CT)(P:Program)(E:Nat→IV)(x:IV)(args:List IV)(σ:Store)(K:IV→Store→Prop):Prop:=match x with
 | .func (.func f) first cap=>cg9 P E (ct f (first++args++cap) σ) f (first++args++cap) σ K
 | .yield i=>∃ Q,CV P E (.yield i) args σ Q∧∀ v σ',Q v σ'→σ.next≤σ'.next∧K v σ'
 | _=>False
def fx2 (pt:PT)(ct:CT)(P:Program)(E:Nat→IV)(rest:List IOper)(id:Nat)(d:Option Nat)(fr:Frm)(K:Frm→Store→Prop):IV→Store→Prop:=fun v σ'=>bn8 pt ct P E rest id (fr.setd d v) σ' K
def dr6 (pt:PT)(ct:CT)(P:Program)(E:Nat→IV)(B:Bool)(rest:List IOper)(id:Nat)(d:Option Nat)(fr:Frm)(K:Frm→Store→Prop):IV→Store→Prop:=fun v σ'=>bb6 pt ct P E B rest id (fr.setd d v) σ' K
def fx3 (ks:List Nat)(Q:Exit→Frm→Store→Prop):Frm→Store→Prop:=fun fr σ=>Q .normal (fr.keep ks) σ
def gw6 (pt:PT)(ct:CT)(P:Program)(E:Nat→IV)(v:IV)(want:Bool)(op:IK)(id:Nat)(fr:Frm)(σ:Store)(K:IV→Store→Prop):Prop:=fq5 v want (opT pt ct P E op id fr σ K) (K skV σ)
def ew1 (pt:PT)(ct:CT)(P:Program)(E:Nat→IV)(B:Bool)(v:IV)(want:Bool)(op:IK)(id:Nat)(fr:Frm)(σ:Store)(K:IV→Store→Prop):Prop:=fq5 v want ((B=true→bl5 E fr σ op)∧opT pt ct P E op id fr σ K) (K skV σ)
def go7 (pt:PT)(ct:CT)(P:Program)(E:Nat→IV)(N n0:Nat)(v:IV)(a b:IC)(fr:Frm)(σ:Store)(Q:Exit→Frm→Store→Prop):Prop:=go6 v fun t=>if t=true then wpT pt ct P E N n0 a fr σ Q else wpT pt ct P E N n0 b fr σ Q
def hu4 (pt:PT)(ct:CT)(P:Program)(E:Nat→IV)(N n0:Nat)(b:IC)(Q:Exit→Frm→Store→Prop):Exit→Frm→Store→Prop:=fun e fr' σ'=>match e with
 | .normal=>wpT pt ct P E N n0 b fr' σ' Q
 | e=>Q e fr' σ'
variable {pt:PT} {ct:CT} {id want:Nat} {K:IV→Store→Prop} {Kf:Frm→Store→Prop} {Q:Exit→Frm→Store→Prop} {v:IV} {c:Prop} [Decidable c]
theorem cn8 {α:Type}(v:α)(K:α→Prop):bk1 (some v) K=K v:=nr rfl
theorem cn9 (v:IV):ej9 (some v) σ K=K v σ:=nr rfl
theorem bs1 (v:IV):ej9 (if c then some v else none) σ K=(c∧K v σ):=by by_cases h:c<;>simp[h,ej9,bk1]
theorem be2 (v:IV):ej9 (if c then none else some v) σ K=(¬ c∧K v σ):=by by_cases h:c<;>simp[h,ej9,bk1]
theorem co1:hf8 (some σ) K=K .undef σ:=nr rfl
theorem bs2:hf8 (if c then some σ else none) K=(c∧K .undef σ):=by by_cases h:c<;>simp[h,hf8,bk1]
theorem co2 (v:IV):hf9 (some (v,σ)) K=K v σ:=nr rfl
theorem bs3 (v:IV):hf9 (if c then some (v,σ) else none) K=(c∧K v σ):=by by_cases h:c<;>simp[h,hf9,bk1]
theorem ek1 {f:Nat}{args:List IV}(v:IV):cg9 P E (some (ht9 v σ')) f args σ K=(σ.next≤σ'.next∧K v σ'):=propext ⟨fun h=>h v σ' ⟨rfl,rfl⟩,fun h v' s' ⟨e1,e2⟩=>by subst e1; subst e2; exact h⟩
theorem gw7 {f:Nat}{args:List IV}(v:IV):fx1 P E (some v) f args σ K=K v σ:=nr rfl
theorem aa3 {f:Nat}{args:List IV}{v:IV}(h:PC P E f args v)(hk:K v σ):fx1 P E none f args σ K:=⟨v,h,hk⟩
theorem aj2 {f:Nat}{args:List IV}{Qc:IV→Store→Prop}(ho:okF P f=true)(h:C P E f args σ Qc)(hk:∀ v s,Qc v s→σ.next≤s.next∧K v s):cg9 P E none f args σ K:=⟨Qc,⟨ho,h⟩,hk⟩
theorem co3 {n esz:Nat}(out:List IV):ig8 (some out) id n esz σ K=K (.slice id 0 n esz) (σ.put id (.row out)):=nr rfl
theorem bs4 (f:Nat)(first cap args:List IV):ff8 ct P E (.func (.func f) first cap) args σ K=cg9 P E (ct f (first++args++cap) σ) f (first++args++cap) σ K:=nr rfl
theorem co4 {rest:List IOper}{d:Nat}(v:IV):fx2 pt ct P E rest id (some d) fr Kf v σ=bn8 pt ct P E rest id ((d,v)::fr) σ Kf:=nr rfl
theorem bs5 {rest:List IOper}(v:IV):fx2 pt ct P E rest id none fr Kf v σ=bn8 pt ct P E rest id fr σ Kf:=nr rfl
theorem bs6 {B:Bool}{rest:List IOper}{d:Nat}(v:IV):dr6 pt ct P E B rest id (some d) fr Kf v σ=bb6 pt ct P E B rest id ((d,v)::fr) σ Kf:=nr rfl
theorem be3 {B:Bool}{rest:List IOper}(v:IV):dr6 pt ct P E B rest id none fr Kf v σ=bb6 pt ct P E B rest id fr σ Kf:=nr rfl
theorem co5 {ks:List Nat}:fx3 ks Q fr σ=Q .normal (fr.keep ks) σ:=nr rfl
theorem w_q {q:IQ}:opT pt ct P E (.q q) id fr σ K=ej9 (evq E fr σ q) σ K:=nr rfl
theorem bs7 {z:List IV}:opT pt ct P E (.alloc z) id fr σ K=K (.ptr id 0) (σ.put id (.cells z)):=nr rfl
theorem ek2 {x:IX}:opT pt ct P E (.box x) id fr σ K=((x.ev E fr).cs.all IV.leaf=true∧K (.ptr id 0) (σ.put id (.cells (x.ev E fr).cs))):=nr rfl
theorem ek3 {esz n:Nat}{z:List IV}{ps:List (Nat×Nat×IX)}:opT pt ct P E (.bsl esz n z ps) id fr σ K=ig8 (an8 (rep z n) (ps.map fun p=>(p.1,p.2.1,p.2.2.ev E fr))) id n esz σ K:=nr rfl
theorem bs8 {sz:Nat}{x y:IX}:opT pt ct P E (.store sz x y) id fr σ K=hf8 (aj1 σ sz (x.ev E fr) (y.ev E fr)) K:=nr rfl
def ig9 (v:IV)(id:Nat)(σ:Store)(K:IV→Store→Prop):Prop:=match v with
 | .str s=>K (.ptr id 0) (σ.put id (.siter s 0))
 | _=>False
theorem co6 {s:List UInt8}:ig9 (.str s) id σ K=K (.ptr id 0) (σ.put id (.siter s 0)):=nr rfl
theorem be4 {x:IX}:opT pt ct P E (.srange x) id fr σ K=ig9 (x.ev E fr) id σ K:=nr rfl
theorem bs9 {x:IX}:opT pt ct P E (.snext x) id fr σ K=hf9 (ba5 σ (x.ev E fr)) K:=nr rfl
theorem bt1:opT pt ct P E .mkmap id fr σ K=K (.map id) (σ.put id (.map [])):=nr rfl
theorem co7 {tag:Nat}{x k y:IX}:opT pt ct P E (.mupd tag x k y) id fr σ K=hf8 (an9 σ tag (x.ev E fr) (k.ev E fr) (y.ev E fr)) K:=nr rfl
theorem ek4 {esz:Nat}{s x:IX}:opT pt ct P E (.app esz s x) id fr σ K=hf9 (ax4 σ id esz (s.ev E fr) (x.ev E fr)) K:=nr rfl
theorem co8 {f:Nat}{args:List IX}:opT pt ct P E (.call f args) id fr σ K=cg9 P E (ct f (args.map (·.ev E fr)) σ) f (args.map (·.ev E fr)) σ K:=nr rfl
theorem bt2 {f:Nat}{args:List IX}:opT pt ct P E (.pcall f args) id fr σ K=fx1 P E (pt f (args.map (·.ev E fr))) f (args.map (·.ev E fr)) σ K:=nr rfl
theorem be5 {x:IX}{args:List IX}:opT pt ct P E (.callv x args) id fr σ K=ff8 ct P E (x.ev E fr) (args.map (·.ev E fr)) σ K:=nr rfl
theorem ek5:bn8 pt ct P E [] id fr σ Kf=Kf fr σ:=nr rfl
theorem co9 {d:Option Nat}{op:IK}{rest:List IOper}:bn8 pt ct P E (⟨d,none,op⟩::rest) id fr σ Kf=opT pt ct P E op id fr σ (fx2 pt ct P E rest (if op.lays then id+1 else id) d fr Kf):=nr rfl
theorem ek6 {d:Option Nat}{op:IK}{rest:List IOper}{s:Nat}{want:Bool}:bn8 pt ct P E (⟨d,some (s,want),op⟩::rest) id fr σ Kf=gw6 pt ct P E (fr.get s) want op id fr σ (fx2 pt ct P E rest (if op.lays then id+1 else id) d fr Kf):=nr rfl
theorem cp1 {B:Bool}:bb6 pt ct P E B [] id fr σ Kf=Kf fr σ:=nr rfl
theorem bt3 {d:Option Nat}{op:IK}{rest:List IOper}:bb6 pt ct P E false (⟨d,none,op⟩::rest) id fr σ Kf=opT pt ct P E op id fr σ (dr6 pt ct P E false rest (id+1) d fr Kf):=by
 have:bb6 pt ct P E false (⟨d,none,op⟩::rest) id fr σ Kf=((false=true→bl5 E fr σ op)∧opT pt ct P E op id fr σ (dr6 pt ct P E false rest (id+1) d fr Kf)):=nr rfl
 rw[this]; simp
theorem bt4 {d:Option Nat}{op:IK}{rest:List IOper}:bb6 pt ct P E true (⟨d,none,op⟩::rest) id fr σ Kf=(bl5 E fr σ op∧opT pt ct P E op id fr σ (dr6 pt ct P E true rest (id+1) d fr Kf)):=by
 have:bb6 pt ct P E true (⟨d,none,op⟩::rest) id fr σ Kf=((true=true→bl5 E fr σ op)∧opT pt ct P E op id fr σ (dr6 pt ct P E true rest (id+1) d fr Kf)):=nr rfl
 rw[this]; simp
theorem cp3 {B:Bool}{d:Option Nat}{op:IK}{rest:List IOper}{s:Nat}{want:Bool}:bb6 pt ct P E B (⟨d,some (s,want),op⟩::rest) id fr σ Kf=ew1 pt ct P E B (fr.get s) want op id fr σ (dr6 pt ct P E B rest (id+1) d fr Kf):=nr rfl
theorem ek7 {op:IK}:gw6 pt ct P E (.bool true) true op id fr σ K=opT pt ct P E op id fr σ K:=nr rfl
theorem ek8 {op:IK}:gw6 pt ct P E (.bool false) false op id fr σ K=opT pt ct P E op id fr σ K:=nr rfl
theorem ek9 {op:IK}:gw6 pt ct P E (.bool true) false op id fr σ K=K skV σ:=nr rfl
theorem el1 {op:IK}:gw6 pt ct P E (.bool false) true op id fr σ K=K skV σ:=nr rfl
theorem el5 {op:IK}:ew1 pt ct P E false (.bool true) true op id fr σ K=opT pt ct P E op id fr σ K:=by simp[ew1,fq5,ft4]
theorem el6 {op:IK}:ew1 pt ct P E false (.bool false) false op id fr σ K=opT pt ct P E op id fr σ K:=by simp[ew1,fq5,ft4]
theorem el7 {B:Bool}{op:IK}:ew1 pt ct P E B (.bool true) false op id fr σ K=K skV σ:=nr rfl
theorem el8 {B:Bool}{op:IK}:ew1 pt ct P E B (.bool false) true op id fr σ K=K skV σ:=nr rfl
theorem el9 {op:IK}:ew1 pt ct P E true (.bool true) true op id fr σ K=(bl5 E fr σ op∧opT pt ct P E op id fr σ K):=by simp[ew1,fq5,ft4]
theorem em1 {op:IK}:ew1 pt ct P E true (.bool false) false op id fr σ K=(bl5 E fr σ op∧opT pt ct P E op id fr σ K):=by simp[ew1,fq5,ft4]
theorem gw8 {op:IK}{want:Bool}:gw6 pt ct P E skV want op id fr σ K=K skV σ:=nr rfl
theorem gw9 {B want:Bool}{op:IK}:ew1 pt ct P E B skV want op id fr σ K=K skV σ:=nr rfl
theorem cp4:wpT pt ct P E N n0 .skip fr σ Q=Q .normal fr σ:=nr rfl
theorem em2 {i:Nat}{ops:List IOper}{ks:List Nat}:wpT pt ct P E N n0 (.reg i ops ks) fr σ Q=bn8 pt ct P E ops σ.next fr ⟨σ.next+bm7 ops,σ.obj⟩ (fx3 ks Q):=nr rfl
theorem cp5 {i:Nat}{ops:List IOper}{B:Bool}{ks:List Nat}:wpT pt ct P E N n0 (.dreg i ops B ks) fr σ Q=bb6 pt ct P E B ops σ.next fr ⟨σ.next+ops.length,σ.obj⟩ (fx3 ks Q):=nr rfl
theorem em3 {x y:IC}:wpT pt ct P E N n0 (.seq x y) fr σ Q=wpT pt ct P E N n0 x fr σ (hu4 pt ct P E N n0 y Q):=nr rfl
theorem cp6 {i:IX}{x y:IC}:wpT pt ct P E N n0 (.cond i x y) fr σ Q=go7 pt ct P E N n0 (i.ev E fr) x y fr σ Q:=nr rfl
theorem bt5 {i:Nat}{x:IC}:wpT pt ct P E N n0 (.block i x) fr σ Q=wpT pt ct P E N n0 x fr σ (bi6 i Q):=nr rfl
theorem cp7 {x:IC}:wpT pt ct P E N n0 (.loop x) fr σ Q=RI P E N n0 (.loop x) fr σ Q:=nr rfl
theorem bt6 {g:IX}{ps:List Nat}{x y:IC}:wpT pt ct P E N n0 (.rfunc g ps y x) fr σ Q=RI P E N n0 (.rfunc g ps y x) fr σ Q:=nr rfl
def ff9 (v:IV)(id:Nat)(σ:Store)(K:IV→Store→Prop):Prop:=match v with
 | .tmap es=>K (.ptr id 0) (σ.put id (.miter es none))
 | _=>False
def gh4 (o:Option (Nat×List (IV×IV)))(σ:Store)(K:IV→Store→Prop):Prop:=bk1 o fun r=>(r.2=[]→K (.tuple [.bool false]) σ) ∧
   ∀ j,j<r.2.length→K (.tuple [.bool true,(r.2.getD j (.undef,.undef)).1,(r.2.getD j (.undef,.undef)).2]) (σ.put r.1 (.miter (r.2.eraseIdx j) (some (r.2.getD j (.undef,.undef)))))
theorem be6 {x:IX}:opT pt ct P E (.mrange x) id fr σ K=ff9 (x.ev E fr) id σ K:=nr rfl
theorem av7 {es:List (IV×IV)}:ff9 (.tmap es) id σ K=K (.ptr id 0) (σ.put id (.miter es none)):=nr rfl
theorem bt7 {x:IX}:opT pt ct P E (.mnext x) id fr σ K=gh4 (ba6 σ (x.ev E fr)) σ K:=nr rfl
theorem be7 {i:Nat}{l:List (IV×IV)}:gh4 (some (i,l)) σ K=((l=[]→K (.tuple [.bool false]) σ) ∧
   ∀ j,j<l.length→K (.tuple [.bool true,(l.getD j (.undef,.undef)).1,(l.getD j (.undef,.undef)).2]) (σ.put i (.miter (l.eraseIdx j) (some (l.getD j (.undef,.undef)))))):=nr rfl
theorem cp8 {x:IX}:opT pt ct P E (.ment x) id fr σ K=ej9 (cb5 σ (x.ev E fr)) σ K:=nr rfl
theorem cp9 {x:IX}:opT pt ct P E (.boxt x) id fr σ K=((x.ev E fr).cs.all IV.leaf=true∧K (.tptr (x.ev E fr).cs) σ):=nr rfl
def hg6 (o:Option (List IV))(esz n:Nat)(σ:Store)(K:IV→Store→Prop):Prop:=bk1 o fun out=>K (.tslice (chunk esz n out)) σ
theorem cq1 {esz n:Nat}{z:List IV}{ps:List (Nat×Nat×IX)}:opT pt ct P E (.bslt esz n z ps) id fr σ K=hg6 (an8 (rep z n) (ps.map fun p=>(p.1,p.2.1,p.2.2.ev E fr))) esz n σ K:=nr rfl
theorem bt8 {esz n:Nat}{out:List IV}:hg6 (some out) esz n σ K=K (.tslice (chunk esz n out)) σ:=nr rfl
theorem cq2 {i:Nat}:wpT pt ct P E N n0 (.exit i) fr σ Q=Q (.exit i) fr σ:=nr rfl
theorem em4:wpT pt ct P E N n0 .ret fr σ Q=Q .ret fr σ:=nr rfl
theorem gx1 {x y:IC}:go7 pt ct P E N n0 (.bool true) x y fr σ Q=wpT pt ct P E N n0 x fr σ Q:=nr rfl
theorem gx2 {x y:IC}:go7 pt ct P E N n0 (.bool false) x y fr σ Q=wpT pt ct P E N n0 y fr σ Q:=nr rfl
theorem em5 {y:IC}:hu4 pt ct P E N n0 y Q .normal fr σ=wpT pt ct P E N n0 y fr σ Q:=nr rfl
theorem em6 {y:IC}{i:Nat}:hu4 pt ct P E N n0 y Q (.exit i) fr σ=Q (.exit i) fr σ:=nr rfl
theorem em7 {y:IC}:hu4 pt ct P E N n0 y Q .ret fr σ=Q .ret fr σ:=nr rfl
theorem em8 {i:Nat}:bi6 i Q .normal fr σ=Q .normal fr σ:=nr rfl
theorem em9 {i:Nat}:bi6 i Q .ret fr σ=Q .ret fr σ:=nr rfl
theorem en1 {i j:Nat}:bi6 i Q (.exit j) fr σ=if j=i then Q .normal fr σ else Q (.exit j) fr σ:=nr rfl
theorem en2 {I:Nat→Frm→Store→Prop}{m:Nat}:dp9 I m Q .normal fr σ=∃ m',m'<m∧I m' fr σ:=nr rfl
theorem en3 {I:Nat→Frm→Store→Prop}{m i:Nat}:dp9 I m Q (.exit i) fr σ=Q (.exit i) fr σ:=nr rfl
theorem en4 {I:Nat→Frm→Store→Prop}{m:Nat}:dp9 I m Q .ret fr σ=Q .ret fr σ:=nr rfl
theorem en5 {irs:List IR}{Qc:IV→Store→Prop}:ff7 irs Qc .ret fr σ=bk1 (irL σ fr irs) fun vs=>Qc (eh8 vs) σ:=nr rfl
theorem cq3 {irs:List IR}{Qc:IV→Store→Prop}:ff7 irs Qc .normal fr σ=bk1 (irL σ fr irs) fun vs=>Qc (eh8 vs) σ:=nr rfl
end Go.Id
/- What the walk of a compiled code is rewritten by: the operations. Conditions: none; over any program. -/
namespace Go.Id
open Go
variable {P:Program} {E:Nat→IV} {σ σ':Store} {fr:Frm} {x y z:IX} {k k':IntKind} {a b:Int} {s t:List UInt8} {n m off esz len:Nat} {v u:IV}
theorem aa5 {i:Nat}{o:IObj}:(σ.put i o).next=σ.next:=nr rfl
theorem aa2 {i j:Nat}{o:IObj}:(σ.put i o).obj j=if j=i then some o else σ.obj j:=nr rfl
theorem e_t:(IX.t n).ev E fr=fr.get n:=nr rfl
theorem e_c:(IX.c v).ev E fr=v:=nr rfl
theorem e_g:(IX.g n).ev E fr=E n:=nr rfl
theorem e_f:(IX.f n).ev E fr=.func (.func n) [] []:=nr rfl
theorem en6:evq E fr σ (.mov x)=some (x.ev E fr):=nr rfl
theorem cq4:evq E fr σ (.pick x y z)=do8 (x.ev E fr) (y.ev E fr) (z.ev E fr):=nr rfl
theorem en7:evq E fr σ (.not x)=gx7 (x.ev E fr):=nr rfl
theorem en8:evq E fr σ (.neg x)=gx8 (x.ev E fr):=nr rfl
theorem en9 {op:BinOp}:evq E fr σ (.bin op x y)=aq5 op (x.ev E fr) (y.ev E fr):=nr rfl
theorem ag1 {d:TypeDesc}{g:Bool}:evq E fr σ (.isnil d g x)=(cc5 d (x.ev E fr)).map fun b=>.bool (b ^^ g):=nr rfl
theorem eo1 {tags:List Nat}{g h:Bool}:evq E fr σ (.eqs tags g h x y)=gf3 tags g h (x.ev E fr) (y.ev E fr):=nr rfl
theorem cq5:evq E fr σ (.conv k x)=ex5 k (x.ev E fr):=nr rfl
theorem bt9:evq E fr σ (.strId x)=de4 (x.ev E fr):=nr rfl
theorem eo2:evq E fr σ (.len n x)=cx8 n σ (x.ev E fr):=nr rfl
theorem bu1:evq E fr σ (.faddr off x)=cb3 off (x.ev E fr):=nr rfl
theorem eo3 {ag:Option Nat}:evq E fr σ (.fld ag off x)=gw2 ag off (x.ev E fr):=nr rfl
theorem bu2:evq E fr σ (.iaddr esz x y)=al8 esz (x.ev E fr) (y.ev E fr):=nr rfl
theorem bu3:evq E fr σ (.aaddr n esz x y)=cm4 n esz (x.ev E fr) (y.ev E fr):=nr rfl
theorem eo4 {ag:Option Nat}:evq E fr σ (.idx ag n esz x y)=gk1 ag n esz (x.ev E fr) (y.ev E fr):=nr rfl
theorem cq6:evq E fr σ (.istr x y)=dd7 (x.ev E fr) (y.ev E fr):=nr rfl
theorem eo5 {lo hi:Option IX}:evq E fr σ (.slc esz x lo hi)=ck8 esz (lo.map (·.ev E fr)) (hi.map (·.ev E fr)) (x.ev E fr):=nr rfl
theorem cq7 {lo hi:Option IX}:evq E fr σ (.sstr x lo hi)=ck7 (lo.map (·.ev E fr)) (hi.map (·.ev E fr)) (x.ev E fr):=nr rfl
theorem eo6:evq E fr σ (.slz x)=fq4 (x.ev E fr):=nr rfl
theorem eo7:evq E fr σ (.ext n x)=gk2 n (x.ev E fr):=nr rfl
theorem eo8 {fs cs:List IX}:evq E fr σ (.mkf n fs cs)=some (.func (.func n) (fs.map (·.ev E fr)) (cs.map (·.ev E fr))):=nr rfl
theorem eo9 {zs:List IV}{ps:List (Nat×Nat×IX)}:evq E fr σ (.bld zs ps)=(an8 zs (ps.map fun p=>(p.1,p.2.1,p.2.2.ev E fr))).map .agg:=nr rfl
theorem cq8 {ag:Option Nat}:evq E fr σ (.load ag x)=ap5 σ ag (x.ev E fr):=nr rfl
theorem cq9:evq E fr σ (.nchk x)=de5 (x.ev E fr):=nr rfl
theorem gh5 {mx:Bool}:evq E fr σ (.mm mx x y)=mmI mx (x.ev E fr) (y.ev E fr):=nr rfl
theorem dh8:mmI true (.int k a) (.int k' b)=some (.int k (if b>a then b else a)):=by simp[mmI]
theorem dr7:mmI false (.int k a) (.int k' b)=some (.int k (if b<a then b else a)):=by simp[mmI]
theorem dr8 {zero:IV}{ok:Bool}:evq E fr σ (.lkp n zero ok x y)=dd5 σ n zero ok (x.ev E fr) (y.ev E fr):=nr rfl
theorem bu4:Frm.keep fr []=[]:=nr rfl
theorem bu5 {ks:List Nat}:Frm.keep fr (n::ks)=(n,fr.get n)::Frm.keep fr ks:=nr rfl
theorem cr1:ax6 [] n=[]:=nr rfl
theorem cr2 {vs:List IV}:ax6 (v::vs) n=(n,v)::ax6 vs (n+1):=nr rfl
theorem bu6:bm7 []=0:=nr rfl
theorem bu7 {d:Option Nat}{g:Option (Nat×Bool)}{op:IK}{os:List IOper}:bm7 (⟨d,g,op⟩::os)=(if op.lays=true then 1 else 0)+bm7 os:=nr (br6 _ _)
theorem gx3 {q:IQ}:(IK.q q).lays=false:=nr rfl
theorem be8 {zs:List IV}:(IK.alloc zs).lays=true:=nr rfl
theorem cr3:(IK.box x).lays=true:=nr rfl
theorem cr4 {zs:List IV}{ps:List (Nat×Nat×IX)}:(IK.bsl esz n zs ps).lays=true:=nr rfl
theorem cr5:(IK.app esz x y).lays=true:=nr rfl
theorem be9:IK.mkmap.lays=true:=nr rfl
theorem bu8:(IK.mupd n x y z).lays=false:=nr rfl
theorem av8:(IK.srange x).lays=true:=nr rfl
theorem bf1:(IK.snext x).lays=false:=nr rfl
theorem av9:(IK.mrange x).lays=true:=nr rfl
theorem bu9 {zs:List IV}:(IK.mksl esz zs x).lays=true:=nr rfl
theorem cr6 {zs:List IV}:(IK.clr esz zs x).lays=false:=nr rfl
theorem bv1:(IK.ment x).lays=false:=nr rfl
theorem bf2:(IK.mnext x).lays=false:=nr rfl
theorem bv2:(IK.boxt x).lays=false:=nr rfl
theorem bv3 {zs:List IV}{ps:List (Nat×Nat×IX)}:(IK.bslt esz n zs ps).lays=false:=nr rfl
theorem id8:evq E fr σ (.ibs x y)=gx9 (x.ev E fr) (y.ev E fr):=nr rfl
theorem hg7:gx9 (.str s) (.int .u8 a)=if 0≤a∧a<256 then some (.int .i64 (dn5 a.toNat s 0)) else none:=nr rfl
theorem bf3:(IK.store n x y).lays=false:=nr rfl
theorem bv4 {xs:List IX}:(IK.call n xs).lays=false:=nr rfl
theorem bf4 {xs:List IX}:(IK.pcall n xs).lays=false:=nr rfl
theorem bf5 {xs:List IX}:(IK.callv x xs).lays=false:=nr rfl
theorem cr7 {α β:Type}{f:α→β}:List.map f []=[]:=nr rfl
theorem cr8 {α β:Type}{f:α→β}{c:α}{cs:List α}:List.map f (c::cs)=f c::List.map f cs:=nr rfl
theorem dr9 {α β:Type}{f:α→β}:Option.map f none=none:=nr rfl
theorem ds2 {α β:Type}{f:α→β}{c:α}:Option.map f (some c)=some (f c):=nr rfl
theorem bv5:do8 (.bool true) v u=some v:=nr rfl
theorem bv6:do8 (.bool false) v u=some u:=nr rfl
theorem bv7 {c d:Bool}:do8 (.bool c) (.bool true) (.bool d)=some (.bool (c||d)):=by cases c<;>rfl
theorem bv8 {c d:Bool}:do8 (.bool c) (.bool d) (.bool false)=some (.bool (c&&d)):=by cases c<;>rfl
theorem cr9 {c:Bool}:gx7 (.bool c)=some (.bool !c):=nr rfl
theorem cs3:gx8 (.int k a)=some (.int k (k.wrap (0-a))):=nr rfl
theorem bv9:ex5 k (.int k' a)=some (.int k (k.wrap a)):=nr rfl
theorem bf6:de4 (.str s)=some (.str s):=nr rfl
theorem ep1:aq5 .add (.int k a) (.int k b)=some (.int k (k.wrap (a+b))):=by simp[aq5,dn9]
theorem ep2:aq5 .sub (.int k a) (.int k b)=some (.int k (k.wrap (a-b))):=by simp[aq5,dn9]
theorem ep3:aq5 .mul (.int k a) (.int k b)=some (.int k (k.wrap (a*b))):=by simp[aq5,dn9]
theorem ep4:aq5 .quo (.int k a) (.int k b)=if b=0 then none else some (.int k (k.wrap (a.tdiv b))):=by simp[aq5,dn9]
theorem ep5:aq5 .rem (.int k a) (.int k b)=if b=0 then none else some (.int k (a.tmod b)):=by simp[aq5,dn9]
theorem ep6:aq5 .eql (.int k a) (.int k b)=some (.bool (decide (a=b))):=by simp[aq5,dn9]
theorem ep7:aq5 .neq (.int k a) (.int k b)=some (.bool (!decide (a=b))):=by simp[aq5,dn9]
theorem ep8:aq5 .lss (.int k a) (.int k b)=some (.bool (decide (a<b))):=by simp[aq5,dn9]
theorem ep9:aq5 .leq (.int k a) (.int k b)=some (.bool (decide (a≤b))):=by simp[aq5,dn9]
theorem eq1:aq5 .gtr (.int k a) (.int k b)=some (.bool (decide (b<a))):=by simp[aq5,dn9]
theorem eq2:aq5 .geq (.int k a) (.int k b)=some (.bool (decide (b≤a))):=by simp[aq5,dn9]
theorem eq3:aq5 .shl (.int k a) (.int k' b)=if 0≤b then some (.int k (k.wrap (a*2^(min b.toNat k.bits)))) else none:=by simp[aq5]
theorem eq4:aq5 .shr (.int k a) (.int k' b)=if 0≤b then some (.int k (a.fdiv (2^(min b.toNat k.bits)))) else none:=by simp[aq5]
theorem cs4:aq5 .add (.str s) (.str t)=if s.length+t.length<2^62 then some (.str (s++t)) else none:=by simp[aq5,fq6]
theorem cs5:aq5 .eql (.str s) (.str t)=some (.bool (decide (s=t))):=by simp[aq5,fq6]
theorem cs6:aq5 .neq (.str s) (.str t)=some (.bool (!decide (s=t))):=by simp[aq5,fq6]
theorem cs7:aq5 .lss (.str s) (.str t)=some (.bool (Op.bytesLess s t)):=by simp[aq5,fq6]
theorem cs8:aq5 .leq (.str s) (.str t)=some (.bool (Op.bytesLess s t||decide (s=t))):=by simp[aq5,fq6]
theorem cs9:aq5 .gtr (.str s) (.str t)=some (.bool (!(Op.bytesLess s t||decide (s=t)))):=by simp[aq5,fq6]
theorem ct1:aq5 .geq (.str s) (.str t)=some (.bool (!Op.bytesLess s t)):=by simp[aq5,fq6]
theorem ct2 {es:List (List IV)}:cx8 0 σ (.tslice es)=some (.int .i64 es.length):=nr rfl
theorem ct3:cx8 0 σ .nilslice=some (.int .i64 0):=nr rfl
theorem ct4:cx8 0 σ .zslice=some (.int .i64 0):=nr rfl
theorem hg8:cx8 0 σ .eslice=some (.int .i64 0):=nr rfl
theorem ay8:cx8 0 σ (.slice n off len esz)=some (.int .i64 len):=nr rfl
theorem bf7:cx8 1 σ (.str s)=some (.int .i64 s.length):=nr rfl
theorem bw1:de5 (.ptr n off)=some (.ptr n off):=nr rfl
theorem bw2 {cs:List IV}:de5 (.tptr cs)=some (.tptr cs):=nr rfl
theorem bw3 {f:FuncId}{p q:List IV}:de5 (.func (.func f) p q)=some (.func (.func f) p q):=nr rfl
theorem ct5:fq4 .nilslice=some .nilslice:=nr rfl
theorem ct6:fq4 .zslice=some .zslice:=nr rfl
theorem hg9:fq4 .eslice=some .zslice:=nr rfl
theorem ct7 {es:List (List IV)}:fq4 (.tslice es)=if es=[] then some (.tslice []) else some .zslice:=nr rfl
theorem ct8:fq4 (.slice n off len esz)=some .zslice:=nr rfl
theorem eq5:irL σ fr []=some []:=nr rfl
theorem eq6:irL σ fr [.t n]=some [fr.get n]:=nr rfl
theorem ct9:irL σ fr [.t n,.t m]=some [fr.get n,fr.get m]:=nr rfl
theorem eq7 {ag:Option Nat}:irL σ fr [.cell ag n]=(ap5 σ ag (fr.get n)).map fun v=>[v]:=by
 simp only[irL,irV]; cases ap5 σ ag (fr.get n)<;>rfl
theorem bw4:eh8 [v]=v:=nr rfl
theorem bw5:eh8 [v,u]=.tuple [v,u]:=nr rfl
theorem bw6:eh8 []=.tuple []:=nr rfl
/-! ### Memory -/
def cz8 (ag:Option Nat)(off:Nat):Option IObj→Option IV
 | some (.cells cs)|some (.row cs)=>match ag with
  | none=>(cs.drop off).head?
  | some n=>if n≤(cs.drop off).length then some (.agg ((cs.drop off).take n)) else none
 | _=>none
theorem bw7 {ag:Option Nat}:ap5 σ ag (.ptr n off)=cz8 ag off (σ.obj n):=by
 cases h:σ.obj n with
 | none=>simp[ap5,ai9,cz8,h]
 | some o=>cases o<;>cases ag<;>simp[ap5,ai9,cz8,h]
theorem bw8 {cs:List IV}:ap5 σ none (.tptr cs)=cs.head?:=nr rfl
theorem bf8 {cs:List IV}:ap5 σ (some n) (.tptr cs)=if n≤cs.length then some (.agg (cs.take n)) else none:=nr rfl
theorem ay2 {cs:List IV}:cz8 none off (some (.cells cs))=(cs.drop off).head?:=nr rfl
theorem bo1 {cs:List IV}:cz8 (some n) off (some (.cells cs))=if n≤(cs.drop off).length then some (.agg ((cs.drop off).take n)) else none:=nr rfl
theorem eq8 {cs:List IV}:cz8 none off (some (.row cs))=(cs.drop off).head?:=nr rfl
theorem cb8 {cs:List IV}:cz8 (some n) off (some (.row cs))=if n≤(cs.drop off).length then some (.agg ((cs.drop off).take n)) else none:=nr rfl
def dh9 (σ:Store)(id off n:Nat)(vs:List IV):Option IObj→Option Store
 | some (.cells cs)=>if vs.length=n∧off+n≤cs.length∧vs.all IV.leaf=true then some (σ.put id (.cells (ag9 cs off vs))) else none
 | some (.row cs)=>if vs.length=n∧off+n≤cs.length∧vs.all IV.leaf=true then some (σ.put id (.row (ag9 cs off vs))) else none
 | _=>none
theorem bf9:aj1 σ n (.ptr m off) v=dh9 σ m off n v.cs (σ.obj m):=by
 cases h:σ.obj m with
 | none=>simp[aj1,dh9,h]
 | some o=>cases o<;>simp[aj1,dh9,h]
theorem eq9 {cs vs:List IV}:dh9 σ m off n vs (some (.cells cs))=if vs.length=n∧off+n≤cs.length∧vs.all IV.leaf=true then some (σ.put m (.cells (ag9 cs off vs))) else none:=nr rfl
theorem cb9 {cs vs:List IV}:dh9 σ m off n vs (some (.row cs))=if vs.length=n∧off+n≤cs.length∧vs.all IV.leaf=true then some (σ.put m (.row (ag9 cs off vs))) else none:=nr rfl
theorem bg1 {es:List (List IV)}:al8 esz (.tslice es) (.int k a)=if 0≤a∧a<es.length∧(es.getD a.toNat []).length=esz then some (.tptr (es.getD a.toNat [])) else none:=nr rfl
theorem bg2:al8 esz (.slice n off len m) (.int k a)=if 0≤a∧a<len∧m=esz then some (.ptr n (off+a.toNat*esz)) else none:=nr rfl
theorem bw9 {cs:List IV}:cb3 n (.tptr cs)=some (.tptr (cs.drop n)):=nr rfl
theorem bx2:cb3 n (.ptr m off)=some (.ptr m (off+n)):=nr rfl
theorem bx3 {cs:List IV}:IV.cs (.agg cs)=cs:=nr rfl
theorem bx4:IV.cs (.int k a)=[.int k a]:=nr rfl
theorem bg3 {c:Bool}:IV.cs (.bool c)=[.bool c]:=nr rfl
theorem bx5:IV.cs (.str s)=[.str s]:=nr rfl
theorem bx6:IV.cs (.ptr n off)=[.ptr n off]:=nr rfl
theorem bg4 {cs:List IV}:IV.cs (.tptr cs)=[.tptr cs]:=nr rfl
theorem aw1:IV.cs (.slice n off len esz)=[.slice n off len esz]:=nr rfl
theorem ar7 {es:List (List IV)}:IV.cs (.tslice es)=[.tslice es]:=nr rfl
theorem bg5 {f:Fn}{p q:List IV}:IV.cs (.func f p q)=[.func f p q]:=nr rfl
theorem bx7:IV.cs (.map n)=[.map n]:=nr rfl
theorem bg6 {es:List (IV×IV)}:IV.cs (.tmap es)=[.tmap es]:=nr rfl
theorem cu1:IV.cs .nilslice=[.nilslice]:=nr rfl
theorem cu2:IV.cs .zslice=[.zslice]:=nr rfl
theorem hh2:IV.cs .eslice=[.eslice]:=nr rfl
theorem cu3:IV.cs .nilptr=[.nilptr]:=nr rfl
theorem bx8:IV.leaf (.int k a)=true:=nr rfl
theorem bg7 {c:Bool}:IV.leaf (.bool c)=true:=nr rfl
theorem bx9:IV.leaf (.str s)=true:=nr rfl
theorem by1:IV.leaf (.ptr n off)=true:=nr rfl
theorem bg8 {cs:List IV}:IV.leaf (.tptr cs)=true:=nr rfl
theorem aw2:IV.leaf (.slice n off len esz)=true:=nr rfl
theorem ar8 {es:List (List IV)}:IV.leaf (.tslice es)=true:=nr rfl
theorem bg9 {f:Fn}{p q:List IV}:IV.leaf (.func f p q)=true:=nr rfl
theorem by2:IV.leaf (.map n)=true:=nr rfl
theorem bh2 {es:List (IV×IV)}:IV.leaf (.tmap es)=true:=nr rfl
theorem cu4:IV.leaf .nilslice=true:=nr rfl
theorem cu5:IV.leaf .zslice=true:=nr rfl
theorem hh4:IV.leaf .eslice=true:=nr rfl
theorem cu6:IV.leaf .nilptr=true:=nr rfl
def dz5 (σ:Store)(id:Nat):Option IObj→Option (IV×Store)
 | some (.siter s pos)=>if pos<s.length then some (.tuple [.bool true,.int .i64 pos,.int .i32 (Utf8.decode ⟨s.toArray⟩ pos).1],σ.put id (.siter s (pos+(Utf8.decode ⟨s.toArray⟩ pos).2))) else some (.tuple [.bool false],σ)
 | _=>none
theorem bb7:ba5 σ (.ptr n 0)=dz5 σ n (σ.obj n):=by
 cases h:σ.obj n with
 | none=>simp[ba5,dz5,h]
 | some o=>cases o<;>simp[ba5,dz5,h]
theorem gh6 {pos:Nat}:dz5 σ n (some (.siter s pos))=if pos<s.length then some (.tuple [.bool true,.int .i64 pos,.int .i32 (Utf8.decode ⟨s.toArray⟩ pos).1],σ.put n (.siter s (pos+(Utf8.decode ⟨s.toArray⟩ pos).2))) else some (.tuple [.bool false],σ):=nr rfl
theorem cu7 {cs:List IV}:gk2 n (.tuple cs)=cs[n]?:=by cases h:cs[n]?<;>simp[gk2,h]
theorem er1:(Store.mk σ.next σ.obj)=σ:=nr rfl
theorem wrap64 {x:Int}(h1:-9223372036854775808≤x)(h2:x<9223372036854775808):IntKind.i64.wrap x=x:=by
 simp[IntKind.wrap,IntKind.bits,IntKind.signed]
 omega
end Go.Id
/- Memory that is done with becomes a tree: from the contract of a function that lays blocks to a pure one. Conditions: none; over any program. -/
namespace Go.Id
open Go
variable {P:Program} {w w' w'':World} {ρ ρ' ρ'':Rho} {E:Nat→IV} {σ σ':Store} {N n n':Nat}
abbrev Bnd (n:Nat)(v:IV):Prop:=Nm (fun i=>i<n) v
abbrev ch1 (σ:Store)(n:Nat)(v v':IV):Prop:=Frz σ (fun i=>i<n) v v'
def Rho.cut (ρ:Rho)(n:Nat):Rho:=⟨fun i=>if i<n then ρ i else .no,ρ.X⟩
theorem gh7 (ρ:Rho)(n:Nat):IsCut (fun i=>i<n) ρ (ρ.cut n):=
 ⟨fun i h=>by show (if i<n then ρ i else RRef.no)=_; rw[if_pos h],fun i h=>by show (if i<n then ρ i else RRef.no)=_; rw[if_neg h],fun _ h=>.inl h⟩
theorem er2 (hf:∀ i,n≤i→ρ i=.no):∀ i,ρ i≠.no→i<n:=fun i h=>by
 rcases Nat.lt_or_ge i n with h'|h'
 ·exact h'
 ·exact absurd (hf i h') h
theorem id9 {f:Nat}{args:List IV}{v:IV}
  (h:(∀ a∈args,Bnd σ.next a)→C P E f args σ fun v' σ'=>(∀ i,i<σ.next→σ'.obj i=σ.obj i)∧σ.next≤σ'.next∧ch1 σ' σ.next v' v):C P E f args σ (ht9 v σ):=by
 intro ρ w rargs hs ha
 have hlv:=er2 hs.fresh
 have hba:∀ a∈args,Bnd σ.next a:=fun a hm=>let ⟨i,hi,he⟩:=ae3 (d:=.undef) hm; he▸(ha.2 i hi).nm hlv
 refine CallsIn.mono (h hba ρ w rargs hs ha) ?_
 rintro e w' ⟨v',r,ρ',σ',rfl,⟨hob,hle,hfrz⟩,hs',hv',hx⟩
 have hno:∀ i,σ.next≤i→σ.obj i=none:=fun i hi=>hs.noObj i (hs.fresh i hi)
 have hk:=gh7 ρ' σ.next
 refine ⟨v,r,ρ'.cut σ.next,σ,rfl,⟨rfl,rfl⟩,hs'.cutS hk hob (fun i hi=>hno i (by omega)) (fun i o _ ho=>hs.nmO hlv i o ho) (fun i hi=>hk.off i (by omega)) (fun g=>(hs.env g).nm hlv),hfrz.vr hk rfl hs' r hv',?_⟩
 exact ⟨hx.size,hx.keep,hx.shape,fun i B d hi=>hx.img i B d (hk.at hi).2,fun i B d hi h=>by rw[hk.on i hi]; exact hx.at_ i B d hi h,fun i hi h=>by rw[hk.on i hi]; exact hx.dead i hi h,fun i hi h=>by rw[hk.on i hi]; exact hx.no i hi h,hx.output,hx.os,hx.tape,hx.loops,hx.X⟩
theorem er3 {f:Nat}{args:List IV}{v:IV}(h:PC P E f args v):C P E f args σ (ht9 v σ):=h σ
theorem hh5 {f:Nat}{args:List IV}{v:IV}
  (h:∀ σ,(∀ a∈args,Bnd σ.next a)→C P E f args σ fun v' σ'=>(∀ i,i<σ.next→σ'.obj i=σ.obj i)∧σ.next≤σ'.next∧ch1 σ' σ.next v' v):PC P E f args v :=
 fun σ=>id9 (h σ)
theorem ie1 {pt:PT}{ct:CT}{pf:List Nat}(hT:TOK P E pt ct){f:Nat}{an:Ann}{ic:IC}{irs:List IR}{args:List IV}{v:IV}(hf:fw9 P f N pf an ic irs)(hl:args.length≤N)
  (h:∀ σ,(∀ a∈args,Bnd σ.next a)→wpT pt ct P E N σ.next ic (ax6 args 0) σ (ff7 irs fun v' σ'=>(∀ i,i<σ.next→σ'.obj i=σ.obj i)∧σ.next≤σ'.next∧ch1 σ' σ.next v' v)):PC P E f args v :=
 hh5 fun σ hb=>C_T hT hf hl (h σ hb)
/-! ### A pure function,on what is one's own -/
def IV.plain:IV→Bool
 | .bool _|.int _ _|.str _=>true
 | .tuple vs=>vs.attach.all fun ⟨v,_⟩=>v.plain
 | .agg vs=>vs.attach.all fun ⟨v,_⟩=>v.plain
 | _=>false
theorem fx4 {v:IV}{r:Value}(h:v.plain=true)(hv:VR ρ w v r):VR ρ' w' v r:=by
 induction hv with
 | bool b=>exact .bool _
 | int k n=>exact .int _ _
 | str s=>exact .str _
 | agg cs rs hl hv ih=>
  refine .agg cs rs hl fun i hi=>ih i hi ?_
  unfold IV.plain at h
  exact List.all_eq_true.1 h ⟨_,aa7 .undef hi⟩ (List.mem_attach _ _)
 | tuple cs rs hl hv ih=>
  refine .tuple cs rs hl fun i hi=>ih i hi ?_
  unfold IV.plain at h
  exact List.all_eq_true.1 h ⟨_,aa7 .undef hi⟩ (List.mem_attach _ _)
 | _=>simp[IV.plain] at h
theorem ds4 (S:Nat→Prop)(ρ:Rho):∃ ρ':Rho,IsCut S ρ ρ'∧∀ b,ρ'.X b↔ρ.X b∨∃ i d,¬ S i∧ρ i=.at b d:=by
 refine ⟨⟨fun i=>if Classical.propDecidable (S i) |>.decide then ρ i else .no,fun b=>ρ.X b∨∃ i d,¬ S i∧ρ i=.at b d⟩,⟨fun i h=>?_,fun i h=>?_,fun b h=>h⟩,fun b=>Iff.rfl⟩
 ·show (if (Classical.propDecidable (S i)).decide=true then ρ i else RRef.no)=_
  rw[if_pos (by simpa using h)]
 ·show (if (Classical.propDecidable (S i)).decide=true then ρ i else RRef.no)=_
  rw[if_neg (by simpa using h)]
def Store.only (σ:Store)(S:Nat→Bool):Store:=⟨σ.next,fun i=>if S i then σ.obj i else none⟩
theorem dz6 {f:Nat}{args:List IV}{v:IV}(hE:∀ g,Bnd 0 (E g))(ha:∀ a∈args,Bnd 0 a)(h:C P E f args ⟨0,fun _=>none⟩ fun v' σ'=>ch1 σ' 0 v' v):PC P E f args v:=by
 intro σ ρ w rargs hs hr
 obtain ⟨ρ0,hk,hX⟩:=ds4 (fun _=>False) ρ
 have hs0:Sim E ρ0 w ⟨0,fun _=>none⟩:=hs.cutS hk (fun i h=>h.elim) (fun _ _=>rfl) (fun i o h=>h.elim) (fun i _=>hk.off i (fun h=>h)) (fun g=>(hE g).weak fun i h=>absurd h (Nat.not_lt_zero _))
 have hr0:CR ρ0 w args rargs:=⟨hr.1,fun i hi=>(hr.2 i hi).cut hk ((ha _ (aa7 _ hi)).weak fun i h=>absurd h (Nat.not_lt_zero _))⟩
 refine CallsIn.mono (h ρ0 w rargs hs0 hr0) ?_
 rintro e w' ⟨v',r,ρ',σ',rfl,hfz,hs',hv',hx⟩
 have hno0:∀ i,ρ0 i=.no:=fun i=>hk.off i (fun h=>h)
 have hkeep:∀ b,b<w.heap.size→w'.heap[b]? = w.heap[b]?:=fun b hb=>hx.keep b ⟨hb,fun i d h=>by rw[hno0 i] at h; cases h⟩
 have hlt:∀ (b:Nat) (o:Obj),w.heap[b]? = some o→b<w.heap.size:=fun b o h=>by
  rcases Nat.lt_or_ge b w.heap.size with h'|h'
  ·exact h'
  ·rw[Array.getElem?_eq_none h'] at h; cases h
 have hext:∀ n,Ext n ρ w ρ w':=fun n=>
  ⟨hx.size,fun b hb=>hkeep b hb.1,fun b rcs el fz h=>⟨rcs,by rw[hkeep b (hlt b _ h)]; exact h,rfl⟩,fun i B d h=>.inl ⟨i,d,h⟩,fun i B d h=>.inl h,fun i h=>h,fun i _ h=>h,hx.output,hx.os,hx.tape,fun l L h=>⟨L,by rw[hkeep l (hlt l _ h)]; exact h⟩,rfl⟩
 -- the tree lies on no block that is in use
 let ρ1:Rho:=⟨fun _=>.no,ρ'.X⟩
 have hk1:IsCut (fun i=>i<0) ρ' ρ1:=⟨fun i h=>absurd h (Nat.not_lt_zero _),fun i _=>rfl,fun b h=>.inl h⟩
 have hv1:VR ρ1 w' v r:=hfz.vr hk1 rfl hs' r hv'
 have hv2:VR ρ w' v r:=hv1.refs (fun i h=>absurd rfl h) fun b hb=>⟨hb.1,fun i d hi=>hb.3 (by
   show ρ'.X b
   rw[hx.X]
   exact (hX b).2 (.inr ⟨i,d,fun h=>h,hi⟩)),fun hxb=>hb.3 (by
   show ρ'.X b
   rw[hx.X]
   exact (hX b).2 (.inl hxb))⟩
 refine ⟨v,r,ρ,σ,rfl,⟨rfl,rfl⟩,⟨hs.inj,fun i B d h=>Nat.lt_of_lt_of_le (hs.lt i B d h) hx.size,fun i B d h=>?_,hs.dead,hs.fresh,hs.noObj,fun g=>(hs.env g).mono (hext 0),hs.nx,fun b h=>Nat.lt_of_lt_of_le (hs.xlt b h) hx.size⟩,hv2,(hext σ.next).weak (Nat.le_refl _)⟩
 obtain ⟨o,h1,h2⟩:=hs.obj i B d h
 exact ⟨o,h1,h2.mono (hext 0) (hkeep B (hs.lt i B d h))⟩
def Store.kills (σ:Store)(S:Nat→Bool):Store:=⟨σ.next,fun i=>if S i then σ.obj i else none⟩
theorem bk2 {S:Nat→Bool}(hs:Sim E ρ w σ):∃ ρd:Rho,Sim E ρd w (σ.kills S)∧(∀ n,Ext n ρ w ρd w)∧∀ v v' r,Frz σ (fun i=>S i=true) v v'→VR ρ w v r→VR ρd w v' r:=by
 let ρc:Rho:=⟨fun i=>if S i then ρ i else .no,ρ.X⟩
 let ρd:Rho:=⟨fun i=>if S i then ρ i else match ρ i with|.no=>.no|_=>.dead,ρ.X⟩
 have con:∀ i,S i=true→ρc i=ρ i:=fun i h=>by show (if S i=true then ρ i else .no)=_; rw[if_pos h]
 have coff:∀ i,S i=false→ρc i=.no:=fun i h=>by show (if S i=true then ρ i else .no)=_; rw[if_neg (by simp[h])]
 have don:∀ i,S i=true→ρd i=ρ i:=fun i h=>by show (if S i=true then ρ i else _)=_; rw[if_pos h]
 have doff:∀ i,S i=false→ρd i=(match ρ i with|.no=>.no|_=>.dead):=fun i h=>by show (if S i=true then ρ i else _)=_; rw[if_neg (by simp[h])]
 have hdat:∀ i B d,ρd i=.at B d→S i=true∧ρ i=.at B d:=fun i B d h=>by
  cases hsi:S i with
  | true=>rw[don i hsi] at h; exact ⟨rfl,h⟩
  | false=>rw[doff i hsi] at h; cases hri:ρ i<;>rw[hri] at h<;>cases h
 have hk:IsCut (fun i=>S i=true) ρ ρc:=⟨con,fun i h=>coff i (by simpa using h),fun b h=>.inl h⟩
 have hxd:∀ n,Ext n ρ w ρd w:=fun n=>cx9 (fun i B d h=>by
   cases hsi:S i with
   | true=>rw[don i hsi]; exact .inl h
   | false=>rw[doff i hsi,h]; exact .inr rfl) (fun i h=>by
   cases hsi:S i with
   | true=>rw[don i hsi]; exact h
   | false=>rw[doff i hsi,h]) (fun i _ h=>by
   cases hsi:S i with
   | true=>rw[don i hsi]; exact h
   | false=>rw[doff i hsi,h]) (fun i B d h=>⟨i,d,(hdat i B d h).2⟩) rfl
 have hxc:Ext 0 ρc w ρd w:=cx9 (fun i B d h=>by
   obtain ⟨h1,h2⟩:=hk.at h
   exact .inl (by rw[don i h1]; exact h2)) (fun i h=>by
   cases hsi:S i with
   | true=>rw[con i hsi] at h; rw[don i hsi]; exact h
   | false=>rw[coff i hsi] at h; cases h) (fun i hi _=>absurd hi (Nat.not_lt_zero _)) (fun i B d h=>⟨i,d,by rw[con i (hdat i B d h).1]; exact (hdat i B d h).2⟩) rfl
 refine ⟨ρd,?_,hxd,fun v v' r hf hv=>(hf.vr hk rfl hs r hv).mono hxc⟩
 refine ⟨fun i j B d d' hi hj=>hs.inj i j B d d' (hdat _ _ _ hi).2 (hdat _ _ _ hj).2,fun i B d hi=>hs.lt i B d (hdat _ _ _ hi).2,fun i B d hi=>?_,fun i hi=>?_,fun i hi=>?_,fun i hi=>?_,fun g=>(hs.env g).mono (hxd 0),fun i B d hi=>hs.nx i B d (hdat _ _ _ hi).2,hs.xlt⟩
 ·obtain ⟨h1,h2⟩:=hdat _ _ _ hi
  obtain ⟨o,g1,g2⟩:=hs.obj i B d h2
  exact ⟨o,by simp[Store.kills,h1,g1],g2.mono (hxd 0) rfl⟩
 ·cases hsi:S i with
  | true=>rw[don i hsi] at hi; simp[Store.kills,hsi,hs.dead i hi]
  | false=>simp[Store.kills,hsi]
 ·have hn:σ.next≤i:=hi
  have:=hs.fresh i hn
  cases hsi:S i with
  | true=>rw[don i hsi]; exact this
  | false=>rw[doff i hsi,this]
 ·cases hsi:S i with
  | true=>rw[don i hsi] at hi; simp[Store.kills,hsi,hs.noObj i hi]
  | false=>simp[Store.kills,hsi]
theorem gh8 {S:Nat→Bool}{f:Nat}{args args':List IV}{Q:IV→Store→Prop}(hl:args'.length=args.length)(ha:∀ i,i<args.length→Frz σ (fun i=>S i=true) (args.getD i .undef) (args'.getD i .undef))
  (h:C P E f args' (σ.kills S) Q):C P E f args σ Q:=by
 intro ρ w rargs hs hr
 obtain ⟨ρd,hs0,hxd,hvd⟩:=bk2 (S:=S) hs
 have hr0:CR ρd w args' rargs:=⟨by rw[hl]; exact hr.1,fun i hi=>hvd _ _ _ (ha i (by omega)) (hr.2 i (by omega))⟩
 refine CallsIn.mono (h ρd w rargs hs0 hr0) ?_
 rintro e w' ⟨v,r,ρ',σ',rfl,hq,hs',hv',hx⟩
 exact ⟨v,r,ρ',σ',rfl,hq,hs',hv',((hxd σ.next).weak (Nat.le_refl _)).trans hx⟩
theorem gh9 {S:Nat→Bool}{ic:IC}{n0:Nat}{fr fr':Frm}{Q:Exit→Frm→Store→Prop}(hf:∀ t,fr'.get t=fr.get t∨Frz σ (fun i=>S i=true) (fr.get t) (fr'.get t))
  (h:RI P E N n0 ic fr' (σ.kills S) Q):RI P E N n0 ic fr σ Q:=by
 intro pf an c hc hn ro h0 ρ w a hs hfr hd hr
 obtain ⟨ρd,hs0,hxd,hvd⟩:=bk2 (S:=S) hs
 have hfr':FR ρd w N fr' a.tmps:=⟨hfr.size,fun t=>by
  rcases hf t with e|e
  ·rw[e]; exact (hfr.get t).mono (hxd 0)
  ·exact hvd _ _ _ e (hfr.get t)⟩
 have hxw:=(hxd n0).weak (Nat.le_refl n0)
 refine wpIn_mono (h pf an c hc hn ro h0 ρd w a hs0 hfr' (hd.mono hxw) (hr.mono hxw)) ?_
 rintro e a' w' ⟨fr2,σ2,ρ2,hn2,q,hs2,hf2,hd2,hr2,hx2⟩
 exact ⟨fr2,σ2,ρ2,hn2,q,hs2,hf2,hd2,hr2,hxw.trans hx2⟩
theorem by3 {f:Nat}{args args':List IV}{v:IV}(hE:∀ g,Bnd 0 (E g))(hl:args'.length=args.length)(ha:∀ i,i<args.length→ch1 σ 0 (args.getD i .undef) (args'.getD i .undef))(hp:v.plain=true)(h:PC P E f args' v):C P E f args σ (ht9 v σ):=by
 intro ρ w rargs hs hr
 have hk:=gh7 ρ 0
 have hs0:Sim E (ρ.cut 0) w ⟨0,fun _=>none⟩:=hs.cutS hk (fun i h=>absurd h (Nat.not_lt_zero _)) (fun _ _=>rfl) (fun i o h=>absurd h (Nat.not_lt_zero _)) (fun i _=>hk.off i (Nat.not_lt_zero _)) hE
 have hr0:CR (ρ.cut 0) w args' rargs:=⟨by rw[hl]; exact hr.1,fun i hi=>(ha i (by omega)).vr hk rfl hs _ (hr.2 i (by omega))⟩
 refine CallsIn.mono (h ⟨0,fun _=>none⟩ (ρ.cut 0) w rargs hs0 hr0) ?_
 rintro e w' ⟨v',r,ρ',σ',rfl,⟨rfl,rfl⟩,hs',hv',hx⟩
 have hkeep:∀ b,b<w.heap.size→w'.heap[b]? = w.heap[b]?:=fun b hb=>hx.keep b ⟨hb,fun i d h=>absurd (hk.at h).1 (Nat.not_lt_zero _)⟩
 have hlt:∀ (b:Nat) (o:Obj),w.heap[b]? = some o→b<w.heap.size:=fun b o h=>by
  rcases Nat.lt_or_ge b w.heap.size with h'|h'
  ·exact h'
  ·rw[Array.getElem?_eq_none h'] at h; cases h
 have hext:∀ n,Ext n ρ w ρ w':=fun n=>
  ⟨hx.size,fun b hb=>hkeep b hb.1,fun b rcs el fz h=>⟨rcs,by rw[hkeep b (hlt b _ h)]; exact h,rfl⟩,fun i B d h=>.inl ⟨i,d,h⟩,fun i B d h=>.inl h,fun i h=>h,fun i _ h=>h,hx.output,hx.os,hx.tape,fun l L h=>⟨L,by rw[hkeep l (hlt l _ h)]; exact h⟩,rfl⟩
 refine ⟨_,r,ρ,σ,rfl,⟨rfl,rfl⟩,⟨hs.inj,fun i B d h=>Nat.lt_of_lt_of_le (hs.lt i B d h) hx.size,fun i B d h=>?_,hs.dead,hs.fresh,hs.noObj,fun g=>(hs.env g).mono (hext 0),hs.nx,fun b h=>Nat.lt_of_lt_of_le (hs.xlt b h) hx.size⟩,fx4 hp hv',(hext σ.next).weak (Nat.le_refl _)⟩
 obtain ⟨o,h1,h2⟩:=hs.obj i B d h
 exact ⟨o,h1,h2.mono (hext 0) (hkeep B (hs.lt i B d h))⟩
end Go.Id
