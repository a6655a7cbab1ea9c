/- A function compiled,whole: its code and its results. Conditions: none; over any program. -/
import Derived.Test.YtebfbbjghhagbaaGreatDoorFwI
set_option linter.all false
namespace Go.Id
open Go
variable {P:Program} {w w' w'':World} {ρ ρ' ρ'':Rho} {E:Nat->IV} {σ σ':Store} {N n n':Nat} {fr:Frm} {a:Act} {pf:List Nat}
inductive IR where
 | t (n:Nat)
 | cell (agg:Option Nat) (n:Nat)
 deriving Inhabited
def jj8 (P:Program):ResultVar->Option IR
 | .tmp t=>some (.t t)
 | .cell ad t=>match ap4 P t with
  | some agg=>some (.cell agg ad)
  | none=>none
def fe1 (P:Program):List ResultVar->Option (List IR)
 | []=>some []
 | r::rs=>match jj8 P r,fe1 P rs with
  | some x,some xs=>some (x::xs)
  | _,_=>none
def irV (σ:Store)(fr:Frm):IR->Option IV
 | .t n=>some (fr.get n)
 | .cell agg n=>ay3 σ agg (fr.get n)
def irL (σ:Store)(fr:Frm):List IR->Option (List IV)
 | []=>some []
 | r::rs=>match irV σ fr r,irL σ fr rs with
  | some v,some vs=>some (v::vs)
  | _,_=>none
theorem hm9:∀ (rs:List ResultVar) (irs:List IR),fe1 P rs=some irs->gt3 P σ fr rs=irL σ fr irs:=by
 intro rs
 induction rs with
 | nil=>intro irs h; cases h; rfl
 | cons r rs ih=>
  intro irs h;simp only[fe1] at h;split at h
  ·rename_i x xs hx hxs;cases h
   have h1:ja5 P σ fr r=irV σ fr x:=by
    cases r with
    | tmp t=>cases hx; rfl
    | cell ad t=>
     simp only[jj8] at hx;split at hx
     ·rename_i agg hagg;cases hx;simp[ja5,irV,hagg]
     ·cases hx
   simp only[gt3,irL,h1,ih _ hxs];cases irV σ fr x<;>cases irL σ fr xs<;>rfl
  ·cases h
def hn6 (P:Program)(f N:Nat)(pf:List Nat)(an:Ann)(ic:IC)(irs:List IR):Prop :=
 ∃ fn,P.funcs[f]? = some fn/\fn.ntmps=N/\fn.body.bind (bf4 P pf N an)=some ic/\fe1 P fn.results.toList=some irs
theorem ac7 {f:Nat}{fn:Func}{an:Ann}{ic:IC}{irs:List IR}(h:P.funcs[f]? = some fn)(hN:fn.ntmps=N)(hc:fn.body.bind (bf4 P pf N an)=some ic)(hr:fe1 P fn.results.toList=some irs):hn6 P f N pf an ic irs :=
 ⟨fn,h,hN,hc,hr⟩
def jj9 (irs:List IR)(Qc:IV->Store->Prop):Exit->Frm->Store->Prop
 | .normal,fr,σ|.ret,fr,σ=>∃ vs,irL σ fr irs=some vs/\Qc (fd3 vs) σ
 | _,_,_=>False
theorem jo2 {f:Nat}{an:Ann}{ic:IC}{irs:List IR}{args:List IV}{Qc:IV->Store->Prop}(hf:hn6 P f N pf an ic irs)(hl:args.length<=N)
  (h:wpI P E N σ.next ic (bi6 args 0) σ (jj9 irs Qc)):C P E f args σ Qc:=by
 obtain ⟨fn,h1,h2,h3,h4⟩:=hf
 cases hb:fn.body with
 | none=>rw[hb] at h3; cases h3
 | some c=>
  rw[hb] at h3;refine ir8 h1 hb h2 hl ((bm2 ic _ _ _ h pf an c h3).mono ?_);intro e fr' σ' q;cases e<;>first|(obtain ⟨vs,q1,q2⟩:=q; exact ⟨vs,by rw[hm9 _ _ h4]; exact q1,q2⟩)|exact q
end Go.Id
/- Frames,by what is asked of them. Conditions: none; over any program. -/
namespace Go.Id
open Go
theorem Frm.get_nil (t:Nat):Frm.get [] t=.undef:=by unfold Frm.get; simp
theorem Frm.bp4 (t s:Nat)(v:IV)(fr:Frm):Frm.get ((t,v)::fr) s=if s=t then v else Frm.get fr s:=Frm.cc1 fr t s v
end Go.Id
/- The walk by tables: what functions give,aZ functions; the form that is rewritten. Conditions: none; over any program. -/
namespace Go.Id
open Go
universe u
variable {P:Program} {E:Nat->IV} {σ σ':Store} {N n n0:Nat} {fr:Frm} {a:Act} {pf:List Nat}
abbrev PT:=Nat->List IV->Option IV
abbrev CT:=Nat->List IV->Store->Option (IV->Store->Prop)
structure TOK (P:Program) (E:Nat->IV) (pt:PT) (ct:CT):Prop where
 p:∀ f args v,pt f args=some v->PC P E f args v
 c:∀ f args σ Q,ct f args σ=some Q->okF P f=true/\C P E f args σ Q
def noP:PT:=fun _ _=>none
def noC:CT:=fun _ _ _=>none
theorem noT:TOK P E noP noC:=⟨(fun _ _ _ h=>by cases h),(fun _ _ _ _ h=>by cases h)⟩
theorem fe2 {f:Nat}{args:List IV}:noP f args=none:=by unfold noP; exact Eq.trans rfl rfl
theorem fe3 {f:Nat}{args:List IV}:noC f args σ=none:=by unfold noC; exact Eq.trans rfl rfl
def bv2 {α:Type}:Option α->(α->Prop)->Prop
 | some v,K=>K v
 | none,_=>False
def ic2:IV->(Bool->Prop)->Prop
 | .bool b,K=>K b
 | _,_=>False
def gn6 (v:IV)(want:Bool)(A B:Prop):Prop :=
 match gs9 v want with
 | some true=>A
 | some false=>B
 | none=>False
theorem dz4 {v:IV}{want:Bool}{A B:Prop}(h:gn6 v want A B):∃ act,gs9 v want=some act/\if act=true then A else B:=by
 unfold gn6 at h;split at h
 ·rename_i ha; exact ⟨true,ha,h⟩
 ·rename_i ha; exact ⟨false,ha,h⟩
 ·exact h.elim
theorem an6 {α:Type}{o:Option α}{K:α->Prop}(h:bv2 o K):∃ v,o=some v/\K v:=by
 cases o with
 | none=>exact h.elim
 | some v=>exact ⟨v,rfl,h⟩
theorem fe4 {o:IV}{K:Bool->Prop}(h:ic2 o K):∃ b,o=.bool b/\K b:=by
 cases o<;>first|exact ⟨_,rfl,h⟩|exact h.elim
def ct7 (P:Program)(E:Nat->IV)(o:Option (IV->Store->Prop))(f:Nat)(args:List IV)(σ:Store)(K:IV->Store->Prop):Prop :=
 match o with
 | some Q=>∀ v s,Q v s->σ.next<=s.next/\K v s
 | none=>∃ Q,(okF P f=true/\C P E f args σ Q)/\∀ v s,Q v s->σ.next<=s.next/\K v s
def gu3 (P:Program)(E:Nat->IV)(o:Option IV)(f:Nat)(args:List IV)(σ:Store)(K:IV->Store->Prop):Prop :=
 match o with
 | some v=>K v σ
 | none=>∃ v,PC P E f args v/\K v σ
def opT (pt:PT)(ct:CT)(P:Program)(E:Nat->IV)(op:IK)(id:Nat)(fr:Frm)(σ:Store)(K:IV->Store->Prop):Prop :=
 match op with
 | .q q=>bv2 (evq E fr σ q) fun v=>K v σ
 | .alloc z=>K (.ptr id 0) (σ.put id (.cells z))
 | .box x=>(x.ev E fr).cs.all IV.leaf=true/\K (.ptr id 0) (σ.put id (.cells (x.ev E fr).cs))
 | .bsl esz n z parts=>bv2 (ax1 (rep z n) (parts.map fun p=>(p.1,p.2.1,p.2.2.ev E fr))) fun out=>K (.slice id 0 n esz) (σ.put id (.row out))
 | .store sz x y=>bv2 (aq2 σ sz (x.ev E fr) (y.ev E fr)) fun σ'=>K .undef σ'
 | .bk1 x=>match x.ev E fr with
  | .str s=>K (.ptr id 0) (σ.put id (.be8 s 0))
  | _=>False
 | .ct4 x=>bv2 (bl9 σ (x.ev E fr)) fun r=>K r.1 r.2
 | .bm9=>K (.map id) (σ.put id (.map []))
 | .dc5 tag x k v=>bv2 (at6 σ tag (x.ev E fr) (k.ev E fr) (v.ev E fr)) fun σ'=>K .undef σ'
 | .app esz s x=>bv2 (bf6 σ id esz (s.ev E fr) (x.ev E fr)) fun r=>K r.1 r.2
 | .call f args=>ct7 P E (ct f (args.map (·.ev E fr)) σ) f (args.map (·.ev E fr)) σ K
 | .af5 f args=>gu3 P E (pt f (args.map (·.ev E fr))) f (args.map (·.ev E fr)) σ K
 | .ao5 x args=>match x.ev E fr with
  | .func (.func f) first cap=>ct7 P E (ct f (first++args.map (·.ev E fr)++cap) σ) f (first++args.map (·.ev E fr)++cap) σ K
  | .yield i=>∃ Q,CV P E (.yield i) (args.map (·.ev E fr)) σ Q/\∀ v σ',Q v σ'->σ.next<=σ'.next/\K v σ'
  | _=>False
 | .av4 esz n z parts=>bv2 (ax1 (rep z n) (parts.map fun p=>(p.1,p.2.1,p.2.2.ev E fr))) fun out=>K (.aa5 (chunk esz n out)) σ
 | .ag6 x=>(x.ev E fr).cs.all IV.leaf=true/\K (.ab8 (x.ev E fr).cs) σ
 | .bd3 x=>match x.ev E fr with
  | .al6 es=>K (.ptr id 0) (σ.put id (.ar8 es none))
  | _=>False
 | .cd4 x=>bv2 (bm1 σ (x.ev E fr)) fun r=>(r.2=[]->K (.tuple [.bool false]) σ) /\
   ∀ j,j<r.2.length->K (.tuple [.bool true,(r.2.getD j (.undef,.undef)).1,(r.2.getD j (.undef,.undef)).2]) (σ.put r.1 (.ar8 (r.2.eraseIdx j) (some (r.2.getD j (.undef,.undef)))))
 | .fd8 x=>bv2 (cn5 σ (x.ev E fr)) fun v=>K v σ
 | .dc6 esz z x=>bv2 (do2 (x.ev E fr)) fun n=>K (.slice id 0 n esz) (σ.put id (.row (rep z n)))
 | .clr esz z x=>bv2 (fc1 σ esz z (x.ev E fr)) fun σ'=>σ'.next=σ.next/\K .undef σ'
 | .st k xs=>bv2 (stI k id σ (xs.map (·.ev E fr))) fun r=>K r.1 r.2
theorem dc7 {pt:PT}{ct:CT}(hT:TOK P E pt ct){f:Nat}{args:List IV}{K:IV->Store->Prop}(h:ct7 P E (ct f args σ) f args σ K):∃ Q,(okF P f=true/\C P E f args σ Q)/\∀ v s,Q v s->σ.next<=s.next/\K v s:=by
 cases ho:ct f args σ with
 | none=>rw[ho] at h; exact h
 | some Q=>rw[ho] at h; exact ⟨Q,hT.c _ _ _ Q ho,h⟩
theorem bn1 {pt:PT}{ct:CT}(hT:TOK P E pt ct){op:IK}{id:Nat}{K:IV->Store->Prop}(h:opT pt ct P E op id fr σ K):opR P E op id fr σ K:=by
 cases op with
 | q q=>exact an6 h
 | alloc z=>exact h
 | box x=>exact h
 | bsl e n z ps=>exact an6 h
 | store e x y=>exact an6 h
 | app e s x=>exact an6 h
 | bm9=>exact h
 | bk1 x=>
  simp only[opT] at h;split at h
  ·rename_i s he; exact ⟨s,he,h⟩
  ·exact h.elim
 | ct4 x=>exact an6 h
 | dc5 t x y z=>exact an6 h
 | call f xs=>
  obtain ⟨Q,h1,h2⟩:=dc7 hT h
  exact ⟨Q,h1.2,h2⟩
 | af5 f xs=>
  simp only[opT] at h
  cases ho:pt f (xs.map (·.ev E fr)) with
  | none=>rw[ho] at h; exact h
  | some v=>rw[ho] at h; exact ⟨v,hT.p _ _ _ ho,h⟩
 | ao5 x xs=>
  simp only[opT] at h;split at h
  ·rename_i f first cap he
   obtain ⟨Q,h1,h2⟩:=dc7 hT h;refine ⟨Q,?_,h2⟩;rw[he];exact h1
  ·rename_i i he;rw[<- he] at h;exact h
  ·exact h.elim
 | av4 e n z ps=>exact an6 h
 | ag6 x=>exact h
 | bd3 x=>
  simp only[opT] at h;split at h
  ·rename_i s he; exact ⟨s,he,h⟩
  ·exact h.elim
 | cd4 x=>
  obtain ⟨⟨i,l⟩,h1,h2⟩:=an6 h
  exact ⟨i,l,h1,h2⟩
 | fd8 x=>exact an6 h
 | dc6 e z x=>exact an6 h
 | clr e z x=>exact an6 h
 | st k xs=>exact an6 h
def by4 (pt:PT) (ct:CT) (P:Program) (E:Nat->IV):List ae7->Nat->Frm->Store->(Frm->Store->Prop)->Prop
 | [],_,fr,σ,K=>K fr σ
 | o::rest,id,fr,σ,K=>
  match o.guard with
  | none=>opT pt ct P E o.op id fr σ fun v σ'=>by4 pt ct P E rest (if o.op.lays then id+1 else id) (fr.ao4 o.dst v) σ' K
  | some (s,want)=>gn6 (fr.get s) want (opT pt ct P E o.op id fr σ fun v σ'=>by4 pt ct P E rest (if o.op.lays then id+1 else id) (fr.ao4 o.dst v) σ' K)
    (by4 pt ct P E rest (if o.op.lays then id+1 else id) (fr.ao4 o.dst skV) σ K)
theorem ei6 {pt:PT}{ct:CT}(hT:TOK P E pt ct):∀ (ops:List ae7) (id:Nat) (fr:Frm) (σ:Store) (K:Frm->Store->Prop),by4 pt ct P E ops id fr σ K->bx8 P E ops id fr σ K:=by
 intro ops
 induction ops with
 | nil=>intro id fr σ K h; exact h
 | cons o os ih=>
  intro id fr σ K h;obtain ⟨d,g,op⟩:=o
  cases g with
  | none=>
   simp only[by4,bx8] at h ⊢
   exact ⟨true,rfl,am3 (fun v s k=>ih _ _ _ _ k) (bn1 hT h)⟩
  | some p=>
   obtain ⟨s,want⟩:=p;simp only[by4,bx8] at h ⊢;obtain ⟨act,ha,h⟩:=dz4 h;refine ⟨act,ha,?_⟩
   cases act with
   | true=>
    rw[if_pos rfl] at h ⊢
    exact am3 (fun v s k=>ih _ _ _ _ k) (bn1 hT h)
   | false=>
    rw[if_neg (by simp)] at h ⊢;exact ih _ _ _ _ h
def bw5 (E:Nat->IV)(fr:Frm)(σ:Store):IK->Prop
 | .q (.load _ x)=>match x.ev E fr with
  | .ab8 _=>True
  | .ptr i _=>match σ.obj i with
   | some (.cells _)=>True
   | _=>False
  | _=>False
 | _=>True
theorem dc8 {op:IK}(h:bw5 E fr σ op):bf1 E fr σ op:=by
 cases op with
 | q q=>
  cases q with
  | load ag x=>
   simp only[bw5,bf1] at h ⊢;cases he:x.ev E fr<;>rw[he] at h<;>simp only at h ⊢;rename_i i off
   cases ho:σ.obj i with
   | none=>rw[ho] at h; exact h.elim
   | some ob=>
    rw[ho] at h
    cases ob<;>first|exact ⟨_,rfl⟩|exact h.elim
  | _=>trivial
 | _=>trivial
def bn2 (pt:PT) (ct:CT) (P:Program) (E:Nat->IV) (B:Bool):List ae7->Nat->Frm->Store->(Frm->Store->Prop)->Prop
 | [],_,fr,σ,K=>K fr σ
 | o::rest,id,fr,σ,K=>
  match o.guard with
  | none=>(B=true->bw5 E fr σ o.op)/\opT pt ct P E o.op id fr σ fun v σ'=>bn2 pt ct P E B rest (id+1) (fr.ao4 o.dst v) σ' K
  | some (s,want)=>gn6 (fr.get s) want ((B=true->bw5 E fr σ o.op)/\opT pt ct P E o.op id fr σ fun v σ'=>bn2 pt ct P E B rest (id+1) (fr.ao4 o.dst v) σ' K)
    (bn2 pt ct P E B rest (id+1) (fr.ao4 o.dst skV) σ K)
theorem ei7 {pt:PT}{ct:CT}(hT:TOK P E pt ct){B:Bool}{base:Nat}:∀ (ops:List ae7) (i:Nat) (fr:Frm) (σ:Store) (K:Frm->Store->Prop),bn2 pt ct P E B ops (base+i) fr σ K->bu8 P E B (er1 base i ops) fr σ K:=by
 intro ops
 induction ops with
 | nil=>intro i fr σ K h; exact h
 | cons o os ih=>
  intro i fr σ K h;obtain ⟨d,g,op⟩:=o
  cases g with
  | none=>
   simp only[bn2] at h
   exact ⟨true,rfl,am3 (fun v s k=>ih _ _ _ _ k) (bn1 hT h.2),fun hb=>dc8 (h.1 hb)⟩
  | some p=>
   obtain ⟨s,want⟩:=p;simp only[bn2] at h;obtain ⟨act,ha,h⟩:=dz4 h;refine ⟨act,ha,?_⟩
   cases act with
   | true=>exact ⟨am3 (fun v s k=>ih _ _ _ _ k) (bn1 hT h.2),fun hb=>dc8 (h.1 hb)⟩
   | false=>exact ih _ _ _ _ h
def wpT (pt:PT)(ct:CT)(P:Program)(E:Nat->IV)(N n0:Nat):IC->Frm->Store->(Exit->Frm->Store->Prop)->Prop
 | .skip,fr,σ,Q=>Q .normal fr σ
 | .reg _ ops keep,fr,σ,Q=>by4 pt ct P E ops σ.next fr ⟨σ.next+bx9 ops,σ.obj⟩ (fun fr' σ'=>Q .normal (fr'.keep keep) σ')
 | .ap8 _ ops B keep,fr,σ,Q=>bn2 pt ct P E B ops σ.next fr ⟨σ.next+ops.length,σ.obj⟩ (fun fr' σ'=>Q .normal (fr'.keep keep) σ')
 | .gq5 _ ops keep,fr,σ,Q=>ax5 P E (hl7 σ.next ops) [] fr { σ with next:=σ.next+ops.length } (fun fr' σ'=>Q .normal (fr'.keep keep) σ')
 | .seq a b,fr,σ,Q=>wpT pt ct P E N n0 a fr σ (fun e fr' σ'=>match e with|.normal=>wpT pt ct P E N n0 b fr' σ' Q|e=>Q e fr' σ')
 | .cond x a b,fr,σ,Q=>ic2 (x.ev E fr) fun t=>if t=true then wpT pt ct P E N n0 a fr σ Q else wpT pt ct P E N n0 b fr σ Q
 | .block id a,fr,σ,Q=>wpT pt ct P E N n0 a fr σ (bt6 id Q)
 | .loop a,fr,σ,Q=>RI P E N n0 (.loop a) fr σ Q
 | .exit id,fr,σ,Q=>Q (.exit id) fr σ
 | .ret,fr,σ,Q=>Q .ret fr σ
 | .bt1 g ps y a,fr,σ,Q=>RI P E N n0 (.bt1 g ps y a) fr σ Q
 | .scope a,fr,σ,Q=>wpT pt ct P E N n0 a fr σ (fw3 Q)
theorem by5:∀ (ic:IC) (fr:Frm) (σ:Store) (Q Q':Exit->Frm->Store->Prop),(∀ e f s,Q e f s->Q' e f s)->wpI P E N n0 ic fr σ Q->wpI P E N n0 ic fr σ Q':=by
 have hrops:∀ (ops:List ae7) (id:Nat) (fr:Frm) (σ:Store) (K K':Frm->Store->Prop),(∀ f s,K f s->K' f s)->bx8 P E ops id fr σ K->bx8 P E ops id fr σ K':=by
  intro ops
  induction ops with
  | nil=>intro id fr σ K K' hk h; exact hk _ _ h
  | cons o os ih=>
   intro id fr σ K K' hk h;simp only[bx8] at h ⊢;obtain ⟨act,ha,h⟩:=h;refine ⟨act,ha,?_⟩
   cases act with
   | true=>
    rw[if_pos rfl] at h ⊢
    exact am3 (fun v s k=>ih _ _ _ _ _ hk k) h
   | false=>
    rw[if_neg (by simp)] at h ⊢;exact ih _ _ _ _ _ hk h
 have htree:∀ (its:List Item) (B:Bool) (fr:Frm) (σ:Store) (K K':Frm->Store->Prop),(∀ f s,K f s->K' f s)->bu8 P E B its fr σ K->bu8 P E B its fr σ K':=by
  intro its
  induction its with
  | nil=>intro B fr σ K K' hk h; exact hk _ _ h
  | cons it its ih=>
   intro B fr σ K K' hk h;obtain ⟨i,o,id⟩:=it;obtain ⟨act,ha,hh⟩:=h;refine ⟨act,ha,?_⟩
   cases act with
   | true=>exact ⟨am3 (fun v s k=>ih _ _ _ _ _ hk k) hh.1,hh.2⟩
   | false=>exact ih _ _ _ _ _ hk hh
 intro ic
 induction ic with
 | skip=>intro fr σ Q Q' hq h; exact hq _ _ _ h
 | reg id ops keep=>intro fr σ Q Q' hq h; exact hrops _ _ _ _ _ _ (fun f s k=>hq _ _ _ k) h
 | ap8 id ops B keep=>intro fr σ Q Q' hq h; exact htree _ _ _ _ _ _ (fun f s k=>hq _ _ _ k) h
 | gq5 id ops keep=>intro fr σ Q Q' hq h; exact fc7 _ _ _ _ (fun f s k=>hq _ _ _ k) h
 | seq x y ihx ihy=>
  intro fr σ Q Q' hq h;refine ihx _ _ _ _ ?_ h;intro e f s k
  cases e with
  | normal=>exact ihy _ _ _ _ hq k
  | _=>exact hq _ _ _ k
 | cond x a b iha ihb=>
  intro fr σ Q Q' hq h;obtain ⟨t,ht,h⟩:=h;refine ⟨t,ht,?_⟩
  cases t with
  | true=>exact iha _ _ _ _ hq h
  | false=>exact ihb _ _ _ _ hq h
 | block id x ih=>
  intro fr σ Q Q' hq h;refine ih _ _ _ _ ?_ h;intro e f s k
  cases e with
  | exit i=>simp only[bt6] at k ⊢; split<;>rename_i hi<;>simp only[hi,if_true,if_false] at k<;>exact hq _ _ _ k
  | _=>exact hq _ _ _ k
 | scope x ih=>
  intro fr σ Q Q' hq h;refine ih _ _ _ _ ?_ h;intro e f s k
  cases e with
  | goto l=>exact k
  | _=>exact hq _ _ _ k
 | loop x ih=>intro fr σ Q Q' hq h; exact az4 h hq
 | exit id=>intro fr σ Q Q' hq h; exact hq _ _ _ h
 | bt1 g ps y x ihy ih=>intro fr σ Q Q' hq h; exact az4 h hq
 | ret=>intro fr σ Q Q' hq h; exact hq _ _ _ h
theorem bg3 {pt:PT}{ct:CT}(hT:TOK P E pt ct):∀ (ic:IC) (fr:Frm) (σ:Store) (Q:Exit->Frm->Store->Prop),wpT pt ct P E N n0 ic fr σ Q->wpI P E N n0 ic fr σ Q:=by
 intro ic
 induction ic with
 | skip=>intro fr σ Q h; exact h
 | reg id ops keep=>intro fr σ Q h; exact ei6 hT _ _ _ _ _ h
 | ap8 id ops B keep=>intro fr σ Q h; exact ei7 hT _ 0 _ _ _ h
 | gq5 id ops keep=>intro fr σ Q h; exact h
 | seq x y ihx ihy=>
  intro fr σ Q h;have h1:=ihx _ _ _ (show wpT pt ct P E N n0 x fr σ _ from h);refine by5 x fr σ _ (fun e fr' σ'=>match e with|.normal=>wpI P E N n0 y fr' σ' Q|e=>Q e fr' σ') ?_ h1;intro e f s k
  cases e with
  | normal=>exact ihy _ _ _ k
  | _=>exact k
 | cond x a b iha ihb=>
  intro fr σ Q h;obtain ⟨t,ht,h⟩:=fe4 h;refine ⟨t,ht,?_⟩
  cases t with
  | true=>exact iha _ _ _ h
  | false=>exact ihb _ _ _ h
 | block id x ih=>intro fr σ Q h; exact ih _ _ _ h
 | scope x ih=>intro fr σ Q h; exact ih _ _ _ h
 | loop x ih=>intro fr σ Q h; exact h
 | exit id=>intro fr σ Q h; exact h
 | ret=>intro fr σ Q h; exact h
 | bt1 g ps y x ihy ih=>intro fr σ Q h; exact h
def ga8 (irs:List IR)(Qc:IV->Store->Prop):Exit->Frm->Store->Prop
 | .normal,fr,σ|.ret,fr,σ=>bv2 (irL σ fr irs) fun vs=>Qc (fd3 vs) σ
 | _,_,_=>False
theorem dc9 {irs:List IR}{Qc:IV->Store->Prop}{e:Exit}(h:ga8 irs Qc e fr σ):jj9 irs Qc e fr σ:=by
 cases e<;>first|exact an6 h|exact h
theorem C_T {pt:PT}{ct:CT}(hT:TOK P E pt ct){f:Nat}{an:Ann}{ic:IC}{irs:List IR}{args:List IV}{Qc:IV->Store->Prop}(hf:hn6 P f N pf an ic irs)(hl:args.length<=N)
  (h:wpT pt ct P E N σ.next ic (bi6 args 0) σ (ga8 irs Qc)):C P E f args σ Qc :=
 jo2 hf hl (by5 _ _ _ _ _ (fun _ _ _ k=>dc9 k) (bg3 hT _ _ _ _ h))
theorem jo3 {pt:PT}{ct:CT}(hT:TOK P E pt ct){f:Nat}{an:Ann}{ic:IC}{irs:List IR}{args:List IV}{v:IV}(hf:hn6 P f N pf an ic irs)(hl:args.length<=N)
  (h:∀ σ,wpT pt ct P E N σ.next ic (bi6 args 0) σ (ga8 irs fun v' σ'=>v'=v/\σ'=σ)):PC P E f args v :=
 fun σ=>C_T hT hf hl (h σ)
theorem hn7 {pt:PT}{ct:CT}(hT:TOK P E pt ct){x:IC}{Q:Exit->Frm->Store->Prop}(I:Nat->Frm->Store->Prop)(m:Nat)(h:I m fr σ)(hI:∀ m fr σ,I m fr σ->wpT pt ct P E N n0 x fr σ (eh2 I m Q)):RI P E N n0 (.loop x) fr σ Q :=
 fw4 I m h fun m fr σ hi=>bg3 hT _ _ _ _ (hI m fr σ hi)
theorem nr {α:Sort u}{a b:α}(h:a=b):a=b:=h
def ic3 (o:Option IV)(σ:Store)(K:IV->Store->Prop):Prop:=bv2 o fun v=>K v σ
def is4 (o:Option Store)(K:IV->Store->Prop):Prop:=bv2 o fun s=>K .undef s
def is5 (o:Option (IV×Store))(K:IV->Store->Prop):Prop:=bv2 o fun r=>K r.1 r.2
def im1 (v:IV)(σ:Store):IV->Store->Prop:=fun v' σ'=>v'=v/\σ'=σ
def jk1 (o:Option (List IV))(id n esz:Nat)(σ:Store)(K:IV->Store->Prop):Prop:=bv2 o fun out=>K (.slice id 0 n esz) (σ.put id (.row out))
def ga9 (ct:CT)(P:Program)(E:Nat->IV)(x:IV)(args:List IV)(σ:Store)(K:IV->Store->Prop):Prop:=match x with
 | .func (.func f) first cap=>ct7 P E (ct f (first++args++cap) σ) f (first++args++cap) σ K
 | .yield i=>∃ Q,CV P E (.yield i) args σ Q/\∀ v σ',Q v σ'->σ.next<=σ'.next/\K v σ'
 | _=>False
def gu4 (pt:PT)(ct:CT)(P:Program)(E:Nat->IV)(rest:List ae7)(id:Nat)(d:Option Nat)(fr:Frm)(K:Frm->Store->Prop):IV->Store->Prop:=fun v σ'=>by4 pt ct P E rest id (fr.ao4 d v) σ' K
def ei8 (pt:PT)(ct:CT)(P:Program)(E:Nat->IV)(B:Bool)(rest:List ae7)(id:Nat)(d:Option Nat)(fr:Frm)(K:Frm->Store->Prop):IV->Store->Prop:=fun v σ'=>bn2 pt ct P E B rest id (fr.ao4 d v) σ' K
def gu5 (ks:List Nat)(Q:Exit->Frm->Store->Prop):Frm->Store->Prop:=fun fr σ=>Q .normal (fr.keep ks) σ
def im2 (pt:PT)(ct:CT)(P:Program)(E:Nat->IV)(v:IV)(want:Bool)(op:IK)(id:Nat)(fr:Frm)(σ:Store)(K:IV->Store->Prop):Prop:=gn6 v want (opT pt ct P E op id fr σ K) (K skV σ)
def fs1 (pt:PT)(ct:CT)(P:Program)(E:Nat->IV)(B:Bool)(v:IV)(want:Bool)(op:IK)(id:Nat)(fr:Frm)(σ:Store)(K:IV->Store->Prop):Prop:=gn6 v want ((B=true->bw5 E fr σ op)/\opT pt ct P E op id fr σ K) (K skV σ)
def ic4 (pt:PT)(ct:CT)(P:Program)(E:Nat->IV)(N n0:Nat)(v:IV)(a b:IC)(fr:Frm)(σ:Store)(Q:Exit->Frm->Store->Prop):Prop:=ic2 v fun t=>if t=true then wpT pt ct P E N n0 a fr σ Q else wpT pt ct P E N n0 b fr σ Q
def ja7 (pt:PT)(ct:CT)(P:Program)(E:Nat->IV)(N n0:Nat)(b:IC)(Q:Exit->Frm->Store->Prop):Exit->Frm->Store->Prop:=fun e fr' σ'=>match e with
 | .normal=>wpT pt ct P E N n0 b fr' σ' Q
 | e=>Q e fr' σ'
variable {pt:PT} {ct:CT} {id want:Nat} {K:IV->Store->Prop} {Kf:Frm->Store->Prop} {Q:Exit->Frm->Store->Prop} {v:IV} {c:Prop} [Decidable c]
theorem dd2 {α:Type}(v:α)(K:α->Prop):bv2 (some v) K=K v:=nr rfl
theorem dd3 (v:IV):ic3 (some v) σ K=K v σ:=nr rfl
theorem cd5 (v:IV):ic3 (if c then some v else none) σ K=(c/\K v σ):=by by_cases h:c<;>simp[h,ic3,bv2]
theorem bp5 (v:IV):ic3 (if c then none else some v) σ K=(¬ c/\K v σ):=by by_cases h:c<;>simp[h,ic3,bv2]
theorem dd4:is4 (some σ) K=K .undef σ:=nr rfl
theorem cd6:is4 (if c then some σ else none) K=(c/\K .undef σ):=by by_cases h:c<;>simp[h,is4,bv2]
theorem dd5 (v:IV):is5 (some (v,σ)) K=K v σ:=nr rfl
theorem cd7 (v:IV):is5 (if c then some (v,σ) else none) K=(c/\K v σ):=by by_cases h:c<;>simp[h,is5,bv2]
theorem fe5 {f:Nat}{args:List IV}(v:IV):ct7 P E (some (im1 v σ')) f args σ K=(σ.next<=σ'.next/\K v σ'):=propext ⟨fun h=>h v σ' ⟨rfl,rfl⟩,fun h v' s' ⟨e1,e2⟩=>by subst e1; subst e2; exact h⟩
theorem im3 {f:Nat}{args:List IV}(v:IV):gu3 P E (some v) f args σ K=K v σ:=nr rfl
theorem aa2 {f:Nat}{args:List IV}{v:IV}(h:PC P E f args v)(hk:K v σ):gu3 P E none f args σ K:=⟨v,h,hk⟩
theorem an1 {f:Nat}{args:List IV}{Qc:IV->Store->Prop}(ho:okF P f=true)(h:C P E f args σ Qc)(hk:∀ v s,Qc v s->σ.next<=s.next/\K v s):ct7 P E none f args σ K:=⟨Qc,⟨ho,h⟩,hk⟩
theorem dd6 {n esz:Nat}(out:List IV):jk1 (some out) id n esz σ K=K (.slice id 0 n esz) (σ.put id (.row out)):=nr rfl
theorem cd8 (f:Nat)(first cap args:List IV):ga9 ct P E (.func (.func f) first cap) args σ K=ct7 P E (ct f (first++args++cap) σ) f (first++args++cap) σ K:=nr rfl
theorem dd7 {rest:List ae7}{d:Nat}(v:IV):gu4 pt ct P E rest id (some d) fr Kf v σ=by4 pt ct P E rest id ((d,v)::fr) σ Kf:=nr rfl
theorem cd9 {rest:List ae7}(v:IV):gu4 pt ct P E rest id none fr Kf v σ=by4 pt ct P E rest id fr σ Kf:=nr rfl
theorem ce1 {B:Bool}{rest:List ae7}{d:Nat}(v:IV):ei8 pt ct P E B rest id (some d) fr Kf v σ=bn2 pt ct P E B rest id ((d,v)::fr) σ Kf:=nr rfl
theorem bp6 {B:Bool}{rest:List ae7}(v:IV):ei8 pt ct P E B rest id none fr Kf v σ=bn2 pt ct P E B rest id fr σ Kf:=nr rfl
theorem dd8 {ks:List Nat}:gu5 ks Q fr σ=Q .normal (fr.keep ks) σ:=nr rfl
theorem w_q {q:IQ}:opT pt ct P E (.q q) id fr σ K=ic3 (evq E fr σ q) σ K:=nr rfl
theorem ce2 {z:List IV}:opT pt ct P E (.alloc z) id fr σ K=K (.ptr id 0) (σ.put id (.cells z)):=nr rfl
theorem fe6 {x:IX}:opT pt ct P E (.box x) id fr σ K=((x.ev E fr).cs.all IV.leaf=true/\K (.ptr id 0) (σ.put id (.cells (x.ev E fr).cs))):=nr rfl
theorem fe7 {esz n:Nat}{z:List IV}{ps:List (Nat×Nat×IX)}:opT pt ct P E (.bsl esz n z ps) id fr σ K=jk1 (ax1 (rep z n) (ps.map fun p=>(p.1,p.2.1,p.2.2.ev E fr))) id n esz σ K:=nr rfl
theorem ce3 {sz:Nat}{x y:IX}:opT pt ct P E (.store sz x y) id fr σ K=is4 (aq2 σ sz (x.ev E fr) (y.ev E fr)) K:=nr rfl
def jk2 (v:IV)(id:Nat)(σ:Store)(K:IV->Store->Prop):Prop:=match v with
 | .str s=>K (.ptr id 0) (σ.put id (.be8 s 0))
 | _=>False
theorem dd9 {s:List UInt8}:jk2 (.str s) id σ K=K (.ptr id 0) (σ.put id (.be8 s 0)):=nr rfl
theorem bp7 {x:IX}:opT pt ct P E (.bk1 x) id fr σ K=jk2 (x.ev E fr) id σ K:=nr rfl
theorem ce4 {x:IX}:opT pt ct P E (.ct4 x) id fr σ K=is5 (bl9 σ (x.ev E fr)) K:=nr rfl
theorem ce5:opT pt ct P E .bm9 id fr σ K=K (.map id) (σ.put id (.map [])):=nr rfl
theorem de1 {tag:Nat}{x k y:IX}:opT pt ct P E (.dc5 tag x k y) id fr σ K=is4 (at6 σ tag (x.ev E fr) (k.ev E fr) (y.ev E fr)) K:=nr rfl
theorem fe8 {esz:Nat}{s x:IX}:opT pt ct P E (.app esz s x) id fr σ K=is5 (bf6 σ id esz (s.ev E fr) (x.ev E fr)) K:=nr rfl
theorem de2 {f:Nat}{args:List IX}:opT pt ct P E (.call f args) id fr σ K=ct7 P E (ct f (args.map (·.ev E fr)) σ) f (args.map (·.ev E fr)) σ K:=nr rfl
theorem ce6 {f:Nat}{args:List IX}:opT pt ct P E (.af5 f args) id fr σ K=gu3 P E (pt f (args.map (·.ev E fr))) f (args.map (·.ev E fr)) σ K:=nr rfl
theorem bp8 {x:IX}{args:List IX}:opT pt ct P E (.ao5 x args) id fr σ K=ga9 ct P E (x.ev E fr) (args.map (·.ev E fr)) σ K:=nr rfl
theorem fe9:by4 pt ct P E [] id fr σ Kf=Kf fr σ:=nr rfl
theorem de3 {d:Option Nat}{op:IK}{rest:List ae7}:by4 pt ct P E (⟨d,none,op⟩::rest) id fr σ Kf=opT pt ct P E op id fr σ (gu4 pt ct P E rest (if op.lays then id+1 else id) d fr Kf):=nr rfl
theorem ff1 {d:Option Nat}{op:IK}{rest:List ae7}{s:Nat}{want:Bool}:by4 pt ct P E (⟨d,some (s,want),op⟩::rest) id fr σ Kf=im2 pt ct P E (fr.get s) want op id fr σ (gu4 pt ct P E rest (if op.lays then id+1 else id) d fr Kf):=nr rfl
theorem de4 {B:Bool}:bn2 pt ct P E B [] id fr σ Kf=Kf fr σ:=nr rfl
theorem ce7 {d:Option Nat}{op:IK}{rest:List ae7}:bn2 pt ct P E false (⟨d,none,op⟩::rest) id fr σ Kf=opT pt ct P E op id fr σ (ei8 pt ct P E false rest (id+1) d fr Kf):=by
 have:bn2 pt ct P E false (⟨d,none,op⟩::rest) id fr σ Kf=((false=true->bw5 E fr σ op)/\opT pt ct P E op id fr σ (ei8 pt ct P E false rest (id+1) d fr Kf)):=nr rfl;rw[this]; simp
theorem ce8 {d:Option Nat}{op:IK}{rest:List ae7}:bn2 pt ct P E true (⟨d,none,op⟩::rest) id fr σ Kf=(bw5 E fr σ op/\opT pt ct P E op id fr σ (ei8 pt ct P E true rest (id+1) d fr Kf)):=by
 have:bn2 pt ct P E true (⟨d,none,op⟩::rest) id fr σ Kf=((true=true->bw5 E fr σ op)/\opT pt ct P E op id fr σ (ei8 pt ct P E true rest (id+1) d fr Kf)):=nr rfl;rw[this]; simp
theorem de5 {B:Bool}{d:Option Nat}{op:IK}{rest:List ae7}{s:Nat}{want:Bool}:bn2 pt ct P E B (⟨d,some (s,want),op⟩::rest) id fr σ Kf=fs1 pt ct P E B (fr.get s) want op id fr σ (ei8 pt ct P E B rest (id+1) d fr Kf):=nr rfl
theorem ff2 {op:IK}:im2 pt ct P E (.bool true) true op id fr σ K=opT pt ct P E op id fr σ K:=nr rfl
theorem ff3 {op:IK}:im2 pt ct P E (.bool false) false op id fr σ K=opT pt ct P E op id fr σ K:=nr rfl
theorem ff4 {op:IK}:im2 pt ct P E (.bool true) false op id fr σ K=K skV σ:=nr rfl
theorem ff5 {op:IK}:im2 pt ct P E (.bool false) true op id fr σ K=K skV σ:=nr rfl
theorem ff6 {op:IK}:fs1 pt ct P E false (.bool true) true op id fr σ K=opT pt ct P E op id fr σ K:=by simp[fs1,gn6,gs9]
theorem ff7 {op:IK}:fs1 pt ct P E false (.bool false) false op id fr σ K=opT pt ct P E op id fr σ K:=by simp[fs1,gn6,gs9]
theorem ff8 {B:Bool}{op:IK}:fs1 pt ct P E B (.bool true) false op id fr σ K=K skV σ:=nr rfl
theorem ff9 {B:Bool}{op:IK}:fs1 pt ct P E B (.bool false) true op id fr σ K=K skV σ:=nr rfl
theorem fg1 {op:IK}:fs1 pt ct P E true (.bool true) true op id fr σ K=(bw5 E fr σ op/\opT pt ct P E op id fr σ K):=by simp[fs1,gn6,gs9]
theorem fg2 {op:IK}:fs1 pt ct P E true (.bool false) false op id fr σ K=(bw5 E fr σ op/\opT pt ct P E op id fr σ K):=by simp[fs1,gn6,gs9]
theorem im4 {op:IK}{want:Bool}:im2 pt ct P E skV want op id fr σ K=K skV σ:=nr rfl
theorem im5 {B want:Bool}{op:IK}:fs1 pt ct P E B skV want op id fr σ K=K skV σ:=nr rfl
theorem de6:wpT pt ct P E N n0 .skip fr σ Q=Q .normal fr σ:=nr rfl
theorem fg3 {i:Nat}{ops:List ae7}{ks:List Nat}:wpT pt ct P E N n0 (.reg i ops ks) fr σ Q=by4 pt ct P E ops σ.next fr ⟨σ.next+bx9 ops,σ.obj⟩ (gu5 ks Q):=nr rfl
theorem de7 {i:Nat}{ops:List ae7}{B:Bool}{ks:List Nat}:wpT pt ct P E N n0 (.ap8 i ops B ks) fr σ Q=bn2 pt ct P E B ops σ.next fr ⟨σ.next+ops.length,σ.obj⟩ (gu5 ks Q):=nr rfl
theorem fg5 {x y:IC}:wpT pt ct P E N n0 (.seq x y) fr σ Q=wpT pt ct P E N n0 x fr σ (ja7 pt ct P E N n0 y Q):=nr rfl
theorem de8 {i:IX}{x y:IC}:wpT pt ct P E N n0 (.cond i x y) fr σ Q=ic4 pt ct P E N n0 (i.ev E fr) x y fr σ Q:=nr rfl
theorem ce9 {i:Nat}{x:IC}:wpT pt ct P E N n0 (.block i x) fr σ Q=wpT pt ct P E N n0 x fr σ (bt6 i Q):=nr rfl
theorem de9 {x:IC}:wpT pt ct P E N n0 (.loop x) fr σ Q=RI P E N n0 (.loop x) fr σ Q:=nr rfl
theorem cf1 {g:IX}{ps:List Nat}{x y:IC}:wpT pt ct P E N n0 (.bt1 g ps y x) fr σ Q=RI P E N n0 (.bt1 g ps y x) fr σ Q:=nr rfl
def gb1 (v:IV)(id:Nat)(σ:Store)(K:IV->Store->Prop):Prop:=match v with
 | .al6 es=>K (.ptr id 0) (σ.put id (.ar8 es none))
 | _=>False
def hn8 (o:Option (Nat×List (IV×IV)))(σ:Store)(K:IV->Store->Prop):Prop:=bv2 o fun r=>(r.2=[]->K (.tuple [.bool false]) σ) /\
   ∀ j,j<r.2.length->K (.tuple [.bool true,(r.2.getD j (.undef,.undef)).1,(r.2.getD j (.undef,.undef)).2]) (σ.put r.1 (.ar8 (r.2.eraseIdx j) (some (r.2.getD j (.undef,.undef)))))
theorem bp9 {x:IX}:opT pt ct P E (.bd3 x) id fr σ K=gb1 (x.ev E fr) id σ K:=nr rfl
theorem bg4 {es:List (IV×IV)}:gb1 (.al6 es) id σ K=K (.ptr id 0) (σ.put id (.ar8 es none)):=nr rfl
theorem cf2 {x:IX}:opT pt ct P E (.cd4 x) id fr σ K=hn8 (bm1 σ (x.ev E fr)) σ K:=nr rfl
theorem bq1 {i:Nat}{l:List (IV×IV)}:hn8 (some (i,l)) σ K=((l=[]->K (.tuple [.bool false]) σ) /\
   ∀ j,j<l.length->K (.tuple [.bool true,(l.getD j (.undef,.undef)).1,(l.getD j (.undef,.undef)).2]) (σ.put i (.ar8 (l.eraseIdx j) (some (l.getD j (.undef,.undef)))))):=nr rfl
theorem df1 {x:IX}:opT pt ct P E (.fd8 x) id fr σ K=ic3 (cn5 σ (x.ev E fr)) σ K:=nr rfl
theorem df2 {x:IX}:opT pt ct P E (.ag6 x) id fr σ K=((x.ev E fr).cs.all IV.leaf=true/\K (.ab8 (x.ev E fr).cs) σ):=nr rfl
def is6 (o:Option (List IV))(esz n:Nat)(σ:Store)(K:IV->Store->Prop):Prop:=bv2 o fun out=>K (.aa5 (chunk esz n out)) σ
theorem df3 {esz n:Nat}{z:List IV}{ps:List (Nat×Nat×IX)}:opT pt ct P E (.av4 esz n z ps) id fr σ K=is6 (ax1 (rep z n) (ps.map fun p=>(p.1,p.2.1,p.2.2.ev E fr))) esz n σ K:=nr rfl
theorem cf3 {esz n:Nat}{out:List IV}:is6 (some out) esz n σ K=K (.aa5 (chunk esz n out)) σ:=nr rfl
theorem df4 {i:Nat}:wpT pt ct P E N n0 (.exit i) fr σ Q=Q (.exit i) fr σ:=nr rfl
theorem fg6:wpT pt ct P E N n0 .ret fr σ Q=Q .ret fr σ:=nr rfl
theorem im6 {x y:IC}:ic4 pt ct P E N n0 (.bool true) x y fr σ Q=wpT pt ct P E N n0 x fr σ Q:=nr rfl
theorem im7 {x y:IC}:ic4 pt ct P E N n0 (.bool false) x y fr σ Q=wpT pt ct P E N n0 y fr σ Q:=nr rfl
theorem fg7 {y:IC}:ja7 pt ct P E N n0 y Q .normal fr σ=wpT pt ct P E N n0 y fr σ Q:=nr rfl
theorem fg8 {y:IC}{i:Nat}:ja7 pt ct P E N n0 y Q (.exit i) fr σ=Q (.exit i) fr σ:=nr rfl
theorem fg9 {y:IC}:ja7 pt ct P E N n0 y Q .ret fr σ=Q .ret fr σ:=nr rfl
theorem fh1 {i:Nat}:bt6 i Q .normal fr σ=Q .normal fr σ:=nr rfl
theorem fh2 {i:Nat}:bt6 i Q .ret fr σ=Q .ret fr σ:=nr rfl
theorem fh3 {i j:Nat}:bt6 i Q (.exit j) fr σ=if j=i then Q .normal fr σ else Q (.exit j) fr σ:=nr rfl
theorem fh4 {I:Nat->Frm->Store->Prop}{m:Nat}:eh2 I m Q .normal fr σ=∃ m',m'<m/\I m' fr σ:=nr rfl
theorem fh5 {I:Nat->Frm->Store->Prop}{m i:Nat}:eh2 I m Q (.exit i) fr σ=Q (.exit i) fr σ:=nr rfl
theorem fh6 {I:Nat->Frm->Store->Prop}{m:Nat}:eh2 I m Q .ret fr σ=Q .ret fr σ:=nr rfl
theorem fh7 {irs:List IR}{Qc:IV->Store->Prop}:ga8 irs Qc .ret fr σ=bv2 (irL σ fr irs) fun vs=>Qc (fd3 vs) σ:=nr rfl
theorem df5 {irs:List IR}{Qc:IV->Store->Prop}:ga8 irs Qc .normal fr σ=bv2 (irL σ fr irs) fun vs=>Qc (fd3 vs) σ:=nr rfl
end Go.Id
/- What the walk of a compiled code is rewritten by: the operations. Conditions: none; over any program. -/
namespace Go.Id
open Go
variable {P:Program} {E:Nat->IV} {σ σ':Store} {fr:Frm} {x y z:IX} {k k':IntKind} {a b:Int} {s t:List UInt8} {n m off esz len:Nat} {v u:IV}
theorem ab5 {i:Nat}{o:ak4}:(σ.put i o).next=σ.next:=nr rfl
theorem aa7 {i j:Nat}{o:ak4}:(σ.put i o).obj j=if j=i then some o else σ.obj j:=nr rfl
theorem e_t:(IX.t n).ev E fr=fr.get n:=nr rfl
theorem e_c:(IX.c v).ev E fr=v:=nr rfl
theorem e_g:(IX.g n).ev E fr=E n:=nr rfl
theorem e_f:(IX.f n).ev E fr=.func (.func n) [] []:=nr rfl
theorem fh8:evq E fr σ (.mov x)=some (x.ev E fr):=nr rfl
theorem df6:evq E fr σ (.pick x y z)=bb4 (x.ev E fr) (y.ev E fr) (z.ev E fr):=nr rfl
theorem fh9:evq E fr σ (.not x)=in5 (x.ev E fr):=nr rfl
theorem fi1:evq E fr σ (.neg x)=in6 (x.ev E fr):=nr rfl
theorem fi2 {op:BinOp}:evq E fr σ (.bin op x y)=az8 op (x.ev E fr) (y.ev E fr):=nr rfl
theorem ai2 {d:TypeDesc}{g:Bool}:evq E fr σ (.ar9 d g x)=(bt8 d (x.ev E fr)).map fun b=>.bool (b ^^ g):=nr rfl
theorem fi3 {tags:List Nat}{g h:Bool}:evq E fr σ (.eqs tags g h x y)=gn5 tags g h (x.ev E fr) (y.ev E fr):=nr rfl
theorem df7:evq E fr σ (.conv k x)=ft7 k (x.ev E fr):=nr rfl
theorem cf4:evq E fr σ (.gp6 x)=dw3 (x.ev E fr):=nr rfl
theorem fi4:evq E fr σ (.len n x)=cl8 n σ (x.ev E fr):=nr rfl
theorem cf5:evq E fr σ (.aa6 off x)=cn4 off (x.ev E fr):=nr rfl
theorem fi5 {ag:Option Nat}:evq E fr σ (.fld ag off x)=il5 ag off (x.ev E fr):=nr rfl
theorem cf6:evq E fr σ (.ac4 esz x y)=au5 esz (x.ev E fr) (y.ev E fr):=nr rfl
theorem cf7:evq E fr σ (.cz9 n esz x y)=db4 n esz (x.ev E fr) (y.ev E fr):=nr rfl
theorem fi6 {ag:Option Nat}:evq E fr σ (.idx ag n esz x y)=hu4 ag n esz (x.ev E fr) (y.ev E fr):=nr rfl
theorem df8:evq E fr σ (.eq2 x y)=dv6 (x.ev E fr) (y.ev E fr):=nr rfl
theorem fi7 {lo hi:Option IX}:evq E fr σ (.slc esz x lo hi)=cz4 esz (lo.map (·.ev E fr)) (hi.map (·.ev E fr)) (x.ev E fr):=nr rfl
theorem df9 {lo hi:Option IX}:evq E fr σ (.hk6 x lo hi)=cz5 (lo.map (·.ev E fr)) (hi.map (·.ev E fr)) (x.ev E fr):=nr rfl
theorem fi8:evq E fr σ (.slz x)=gn3 (x.ev E fr):=nr rfl
theorem fi9:evq E fr σ (.ext n x)=hu5 n (x.ev E fr):=nr rfl
theorem fj1 {fs cs:List IX}:evq E fr σ (.mkf n fs cs)=some (.func (.func n) (fs.map (·.ev E fr)) (cs.map (·.ev E fr))):=nr rfl
theorem fj3 {zs:List IV}{ps:List (Nat×Nat×IX)}:evq E fr σ (.bld zs ps)=(ax1 zs (ps.map fun p=>(p.1,p.2.1,p.2.2.ev E fr))).map .agg:=nr rfl
theorem dg1 {ag:Option Nat}:evq E fr σ (.load ag x)=ay3 σ ag (x.ev E fr):=nr rfl
theorem dg2:evq E fr σ (.ak6 x)=dw4 (x.ev E fr):=nr rfl
theorem hn9 {mx:Bool}:evq E fr σ (.mm mx x y)=mmI mx (x.ev E fr) (y.ev E fr):=nr rfl
theorem dz5:mmI true (.int k a) (.int k' b)=some (.int k (if b>a then b else a)):=by simp[mmI]
theorem ei9:mmI false (.int k a) (.int k' b)=some (.int k (if b<a then b else a)):=by simp[mmI]
theorem ej1 {zero:IV}{ok:Bool}:evq E fr σ (.lkp n zero ok x y)=cr3 σ n zero ok (x.ev E fr) (y.ev E fr):=nr rfl
theorem cf8:Frm.keep fr []=[]:=nr rfl
theorem cf9 {ks:List Nat}:Frm.keep fr (n::ks)=(n,fr.get n)::Frm.keep fr ks:=nr rfl
theorem dg3:bi6 [] n=[]:=nr rfl
theorem dg4 {vs:List IV}:bi6 (v::vs) n=(n,v)::bi6 vs (n+1):=nr rfl
theorem cg1:bx9 []=0:=nr rfl
theorem cg2 {d:Option Nat}{g:Option (Nat×Bool)}{op:IK}{os:List ae7}:bx9 (⟨d,g,op⟩::os)=(if op.lays=true then 1 else 0)+bx9 os:=nr (cd3 _ _)
theorem im8 {q:IQ}:(IK.q q).lays=false:=nr rfl
theorem bq2 {zs:List IV}:(IK.alloc zs).lays=true:=nr rfl
theorem dg5:(IK.box x).lays=true:=nr rfl
theorem dg6 {zs:List IV}{ps:List (Nat×Nat×IX)}:(IK.bsl esz n zs ps).lays=true:=nr rfl
theorem dg7:(IK.app esz x y).lays=true:=nr rfl
theorem bq3:IK.bm9.lays=true:=nr rfl
theorem cg3:(IK.dc5 n x y z).lays=false:=nr rfl
theorem bg5:(IK.bk1 x).lays=true:=nr rfl
theorem bq4:(IK.ct4 x).lays=false:=nr rfl
theorem bg6:(IK.bd3 x).lays=true:=nr rfl
theorem cg5 {zs:List IV}:(IK.dc6 esz zs x).lays=true:=nr rfl
theorem dg8 {zs:List IV}:(IK.clr esz zs x).lays=false:=nr rfl
theorem cg6:(IK.fd8 x).lays=false:=nr rfl
theorem bq5:(IK.cd4 x).lays=false:=nr rfl
theorem cg7:(IK.ag6 x).lays=false:=nr rfl
theorem cg8 {zs:List IV}{ps:List (Nat×Nat×IX)}:(IK.av4 esz n zs ps).lays=false:=nr rfl
theorem jh1:evq E fr σ (.ibs x y)=in7 (x.ev E fr) (y.ev E fr):=nr rfl
theorem is7:in7 (.str s) (.int .u8 a)=if 0<=a/\a<256 then some (.int .i64 (ee9 a.toNat s 0)) else none:=nr rfl
theorem bq6:(IK.store n x y).lays=false:=nr rfl
theorem cg9 {xs:List IX}:(IK.call n xs).lays=false:=nr rfl
theorem bq7 {xs:List IX}:(IK.af5 n xs).lays=false:=nr rfl
theorem bq8 {xs:List IX}:(IK.ao5 x xs).lays=false:=nr rfl
theorem dg9 {α β:Type}{f:α->β}:List.map f []=[]:=nr rfl
theorem dh1 {α β:Type}{f:α->β}{c:α}{cs:List α}:List.map f (c::cs)=f c::List.map f cs:=nr rfl
theorem ej2 {α β:Type}{f:α->β}:Option.map f none=none:=nr rfl
theorem ej3 {α β:Type}{f:α->β}{c:α}:Option.map f (some c)=some (f c):=nr rfl
theorem ch1:bb4 (.bool true) v u=some v:=nr rfl
theorem ch2:bb4 (.bool false) v u=some u:=nr rfl
theorem ch3 {c d:Bool}:bb4 (.bool c) (.bool true) (.bool d)=some (.bool (c||d)):=by cases c<;>rfl
theorem ch4 {c d:Bool}:bb4 (.bool c) (.bool d) (.bool false)=some (.bool (c&&d)):=by cases c<;>rfl
theorem dh2 {c:Bool}:in5 (.bool c)=some (.bool !c):=nr rfl
theorem dh3:in6 (.int k a)=some (.int k (k.wrap (0-a))):=nr rfl
theorem ch5:ft7 k (.int k' a)=some (.int k (k.wrap a)):=nr rfl
theorem bq9:dw3 (.str s)=some (.str s):=nr rfl
theorem fj4:az8 .add (.int k a) (.int k b)=some (.int k (k.wrap (a+b))):=by simp[az8,ef3]
theorem fj5:az8 .sub (.int k a) (.int k b)=some (.int k (k.wrap (a-b))):=by simp[az8,ef3]
theorem fj6:az8 .mul (.int k a) (.int k b)=some (.int k (k.wrap (a*b))):=by simp[az8,ef3]
theorem fj7:az8 .quo (.int k a) (.int k b)=if b=0 then none else some (.int k (k.wrap (a.tdiv b))):=by simp[az8,ef3]
theorem fj8:az8 .rem (.int k a) (.int k b)=if b=0 then none else some (.int k (a.tmod b)):=by simp[az8,ef3]
theorem fj9:az8 .eql (.int k a) (.int k b)=some (.bool (decide (a=b))):=by simp[az8,ef3]
theorem fk1:az8 .neq (.int k a) (.int k b)=some (.bool (!decide (a=b))):=by simp[az8,ef3]
theorem fk2:az8 .lss (.int k a) (.int k b)=some (.bool (decide (a<b))):=by simp[az8,ef3]
theorem fk3:az8 .leq (.int k a) (.int k b)=some (.bool (decide (a<=b))):=by simp[az8,ef3]
theorem fk4:az8 .gtr (.int k a) (.int k b)=some (.bool (decide (b<a))):=by simp[az8,ef3]
theorem fk5:az8 .geq (.int k a) (.int k b)=some (.bool (decide (b<=a))):=by simp[az8,ef3]
theorem fk6:az8 .shl (.int k a) (.int k' b)=if 0<=b then some (.int k (k.wrap (a*2^(min b.toNat k.bits)))) else none:=by simp[az8]
theorem fk7:az8 .shr (.int k a) (.int k' b)=if 0<=b then some (.int k (a.fdiv (2^(min b.toNat k.bits)))) else none:=by simp[az8]
theorem dh4:az8 .add (.str s) (.str t)=if s.length+t.length<2^62 then some (.str (s++t)) else none:=by simp[az8,go2]
theorem dh5:az8 .eql (.str s) (.str t)=some (.bool (decide (s=t))):=by simp[az8,go2]
theorem dh6:az8 .neq (.str s) (.str t)=some (.bool (!decide (s=t))):=by simp[az8,go2]
theorem dh7:az8 .lss (.str s) (.str t)=some (.bool (Op.bytesLess s t)):=by simp[az8,go2]
theorem dh8:az8 .leq (.str s) (.str t)=some (.bool (Op.bytesLess s t||decide (s=t))):=by simp[az8,go2]
theorem dh9:az8 .gtr (.str s) (.str t)=some (.bool (!(Op.bytesLess s t||decide (s=t)))):=by simp[az8,go2]
theorem di1:az8 .geq (.str s) (.str t)=some (.bool (!Op.bytesLess s t)):=by simp[az8,go2]
theorem di2 {es:List (List IV)}:cl8 0 σ (.aa5 es)=some (.int .i64 es.length):=nr rfl
theorem di3:cl8 0 σ .aa1=some (.int .i64 0):=nr rfl
theorem di4:cl8 0 σ .ac8=some (.int .i64 0):=nr rfl
theorem is8:cl8 0 σ .af6=some (.int .i64 0):=nr rfl
theorem bk2:cl8 0 σ (.slice n off len esz)=some (.int .i64 len):=nr rfl
theorem bi7:cl8 1 σ (.str s)=some (.int .i64 s.length):=nr rfl
theorem ch6:dw4 (.ptr n off)=some (.ptr n off):=nr rfl
theorem ch7 {cs:List IV}:dw4 (.ab8 cs)=some (.ab8 cs):=nr rfl
theorem ch8 {f:FuncId}{p q:List IV}:dw4 (.func (.func f) p q)=some (.func (.func f) p q):=nr rfl
theorem di5:gn3 .aa1=some .aa1:=nr rfl
theorem di6:gn3 .ac8=some .ac8:=nr rfl
theorem is9:gn3 .af6=some .ac8:=nr rfl
theorem di7 {es:List (List IV)}:gn3 (.aa5 es)=if es=[] then some (.aa5 []) else some .ac8:=nr rfl
theorem di8:gn3 (.slice n off len esz)=some .ac8:=nr rfl
theorem fk8:irL σ fr []=some []:=nr rfl
theorem fk9:irL σ fr [.t n]=some [fr.get n]:=nr rfl
theorem di9:irL σ fr [.t n,.t m]=some [fr.get n,fr.get m]:=nr rfl
theorem fl1 {ag:Option Nat}:irL σ fr [.cell ag n]=(ay3 σ ag (fr.get n)).map fun v=>[v]:=by
 simp only[irL,irV]; cases ay3 σ ag (fr.get n)<;>rfl
theorem ch9:fd3 [v]=v:=nr rfl
theorem ci1:fd3 [v,u]=.tuple [v,u]:=nr rfl
theorem ci2:fd3 []=.tuple []:=nr rfl
def dq1 (ag:Option Nat)(off:Nat):Option ak4->Option IV
 | some (.cells cs)|some (.row cs)=>match ag with
  | none=>(cs.drop off).head?
  | some n=>if n<=(cs.drop off).length then some (.agg ((cs.drop off).take n)) else none
 | _=>none
theorem ci3 {ag:Option Nat}:ay3 σ ag (.ptr n off)=dq1 ag off (σ.obj n):=by
 cases h:σ.obj n with
 | none=>simp[ay3,aq1,dq1,h]
 | some o=>cases o<;>cases ag<;>simp[ay3,aq1,dq1,h]
theorem ci4 {cs:List IV}:ay3 σ none (.ab8 cs)=cs.head?:=nr rfl
theorem br1 {cs:List IV}:ay3 σ (some n) (.ab8 cs)=if n<=cs.length then some (.agg (cs.take n)) else none:=nr rfl
theorem bk9 {cs:List IV}:dq1 none off (some (.cells cs))=(cs.drop off).head?:=nr rfl
theorem by6 {cs:List IV}:dq1 (some n) off (some (.cells cs))=if n<=(cs.drop off).length then some (.agg ((cs.drop off).take n)) else none:=nr rfl
theorem fl2 {cs:List IV}:dq1 none off (some (.row cs))=(cs.drop off).head?:=nr rfl
theorem cn8 {cs:List IV}:dq1 (some n) off (some (.row cs))=if n<=(cs.drop off).length then some (.agg ((cs.drop off).take n)) else none:=nr rfl
def dz6 (σ:Store)(id off n:Nat)(vs:List IV):Option ak4->Option Store
 | some (.cells cs)=>if vs.length=n/\off+n<=cs.length/\vs.all IV.leaf=true then some (σ.put id (.cells (ay1 cs off vs))) else none
 | some (.row cs)=>if vs.length=n/\off+n<=cs.length/\vs.all IV.leaf=true then some (σ.put id (.row (ay1 cs off vs))) else none
 | _=>none
theorem br2:aq2 σ n (.ptr m off) v=dz6 σ m off n v.cs (σ.obj m):=by
 cases h:σ.obj m with
 | none=>simp[aq2,dz6,h]
 | some o=>cases o<;>simp[aq2,dz6,h]
theorem fl3 {cs vs:List IV}:dz6 σ m off n vs (some (.cells cs))=if vs.length=n/\off+n<=cs.length/\vs.all IV.leaf=true then some (σ.put m (.cells (ay1 cs off vs))) else none:=nr rfl
theorem cn9 {cs vs:List IV}:dz6 σ m off n vs (some (.row cs))=if vs.length=n/\off+n<=cs.length/\vs.all IV.leaf=true then some (σ.put m (.row (ay1 cs off vs))) else none:=nr rfl
theorem br3 {es:List (List IV)}:au5 esz (.aa5 es) (.int k a)=if 0<=a/\a<es.length/\(es.getD a.toNat []).length=esz then some (.ab8 (es.getD a.toNat [])) else none:=nr rfl
theorem br4:au5 esz (.slice n off len m) (.int k a)=if 0<=a/\a<len/\m=esz then some (.ptr n (off+a.toNat*esz)) else none:=nr rfl
theorem ci5 {cs:List IV}:cn4 n (.ab8 cs)=some (.ab8 (cs.drop n)):=nr rfl
theorem ci6:cn4 n (.ptr m off)=some (.ptr m (off+n)):=nr rfl
theorem ci7 {cs:List IV}:IV.cs (.agg cs)=cs:=nr rfl
theorem ci8:IV.cs (.int k a)=[.int k a]:=nr rfl
theorem br5 {c:Bool}:IV.cs (.bool c)=[.bool c]:=nr rfl
theorem ci9:IV.cs (.str s)=[.str s]:=nr rfl
theorem cj1:IV.cs (.ptr n off)=[.ptr n off]:=nr rfl
theorem br6 {cs:List IV}:IV.cs (.ab8 cs)=[.ab8 cs]:=nr rfl
theorem bg7:IV.cs (.slice n off len esz)=[.slice n off len esz]:=nr rfl
theorem ba8 {es:List (List IV)}:IV.cs (.aa5 es)=[.aa5 es]:=nr rfl
theorem br7 {f:Fn}{p q:List IV}:IV.cs (.func f p q)=[.func f p q]:=nr rfl
theorem cj3:IV.cs (.map n)=[.map n]:=nr rfl
theorem br8 {es:List (IV×IV)}:IV.cs (.al6 es)=[.al6 es]:=nr rfl
theorem dj1:IV.cs .aa1=[.aa1]:=nr rfl
theorem dj2:IV.cs .ac8=[.ac8]:=nr rfl
theorem it1:IV.cs .af6=[.af6]:=nr rfl
theorem dj3:IV.cs .ab6=[.ab6]:=nr rfl
theorem cj4:IV.leaf (.int k a)=true:=nr rfl
theorem br9 {c:Bool}:IV.leaf (.bool c)=true:=nr rfl
theorem cj5:IV.leaf (.str s)=true:=nr rfl
theorem cj6:IV.leaf (.ptr n off)=true:=nr rfl
theorem bs1 {cs:List IV}:IV.leaf (.ab8 cs)=true:=nr rfl
theorem bg8:IV.leaf (.slice n off len esz)=true:=nr rfl
theorem ba9 {es:List (List IV)}:IV.leaf (.aa5 es)=true:=nr rfl
theorem bs2 {f:Fn}{p q:List IV}:IV.leaf (.func f p q)=true:=nr rfl
theorem cj7:IV.leaf (.map n)=true:=nr rfl
theorem bs3 {es:List (IV×IV)}:IV.leaf (.al6 es)=true:=nr rfl
theorem dj4:IV.leaf .aa1=true:=nr rfl
theorem dj5:IV.leaf .ac8=true:=nr rfl
theorem it2:IV.leaf .af6=true:=nr rfl
theorem dj6:IV.leaf .ab6=true:=nr rfl
def es6 (σ:Store)(id:Nat):Option ak4->Option (IV×Store)
 | some (.be8 s pos)=>if pos<s.length then some (.tuple [.bool true,.int .i64 pos,.int .i32 (Utf8.decode ⟨s.toArray⟩ pos).1],σ.put id (.be8 s (pos+(Utf8.decode ⟨s.toArray⟩ pos).2))) else some (.tuple [.bool false],σ)
 | _=>none
theorem bn3:bl9 σ (.ptr n 0)=es6 σ n (σ.obj n):=by
 cases h:σ.obj n with
 | none=>simp[bl9,es6,h]
 | some o=>cases o<;>simp[bl9,es6,h]
theorem ho4 {pos:Nat}:es6 σ n (some (.be8 s pos))=if pos<s.length then some (.tuple [.bool true,.int .i64 pos,.int .i32 (Utf8.decode ⟨s.toArray⟩ pos).1],σ.put n (.be8 s (pos+(Utf8.decode ⟨s.toArray⟩ pos).2))) else some (.tuple [.bool false],σ):=nr rfl
theorem dj7 {cs:List IV}:hu5 n (.tuple cs)=cs[n]?:=by cases h:cs[n]?<;>simp[hu5,h]
theorem fl4:(Store.mk σ.next σ.obj)=σ:=nr rfl
theorem wrap64 {x:Int}(h1:-9223372036854775808<=x)(h2:x<9223372036854775808):IntKind.i64.wrap x=x:=by
 simp[IntKind.wrap,IntKind.bits,IntKind.signed];omega
end Go.Id
/- Memory that is done with becomes a tree: from the contract of a function that lays blocks to a pure one. Conditions: none; over any program. -/
namespace Go.Id
open Go
variable {P:Program} {w w' w'':World} {ρ ρ' ρ'':Rho} {E:Nat->IV} {σ σ':Store} {N n n':Nat}
abbrev Bnd (n:Nat)(v:IV):Prop:=Nm (fun i=>i<n) v
abbrev bt7 (σ:Store)(n:Nat)(v v':IV):Prop:=Frz σ (fun i=>i<n) v v'
def Rho.cut (ρ:Rho)(n:Nat):Rho:=⟨fun i=>if i<n then ρ i else .no,ρ.X⟩
theorem ho5 (ρ:Rho)(n:Nat):cc7 (fun i=>i<n) ρ (ρ.cut n):=
 ⟨fun i h=>by show (if i<n then ρ i else dv5.no)=_; rw[if_pos h],fun i h=>by show (if i<n then ρ i else dv5.no)=_; rw[if_neg h],fun _ h=>.inl h⟩
theorem fl5 (hf:∀ i,n<=i->ρ i=.no):∀ i,ρ i≠.no->i<n:=fun i h=>by
 rcases Nat.lt_or_ge i n with h'|h'
 ·exact h'
 ·exact absurd (hf i h') h
theorem jh2 {f:Nat}{args:List IV}{v:IV}
  (h:(∀ a∈args,Bnd σ.next a)->C P E f args σ fun v' σ'=>(∀ i,i<σ.next->σ'.obj i=σ.obj i)/\σ.next<=σ'.next/\bt7 σ' σ.next v' v):C P E f args σ (im1 v σ):=by
 intro ρ w rargs hs ha;have hlv:=fl5 hs.fresh;have hba:∀ a∈args,Bnd σ.next a:=fun a hm=>let ⟨i,hi,he⟩:=aj2 (d:=.undef) hm; he▸(ha.2 i hi).nm hlv
 refine CallsIn.mono (h hba ρ w rargs hs ha) ?_;rintro e w' ⟨v',r,ρ',σ',rfl,⟨hob,hle,hfrz⟩,hs',hv',hx⟩;have hno:∀ i,σ.next<=i->σ.obj i=none:=fun i hi=>hs.av3 i (hs.fresh i hi)
 have hk:=ho5 ρ' σ.next;refine ⟨v,r,ρ'.cut σ.next,σ,rfl,⟨rfl,rfl⟩,hs'.ja1 hk hob (fun i hi=>hno i (by omega)) (fun i o _ ho=>hs.nmO hlv i o ho) (fun i hi=>hk.off i (by omega)) (fun g=>(hs.env g).nm hlv),hfrz.vr hk rfl hs' r hv',?_⟩;exact ⟨hx.size,hx.keep,hx.shape,fun i B d hi=>hx.img i B d (hk.at hi).2,fun i B d hi h=>by rw[hk.on i hi]; exact hx.at_ i B d hi h,fun i hi h=>by rw[hk.on i hi]; exact hx.dead i hi h,fun i hi h=>by rw[hk.on i hi]; exact hx.no i hi h,hx.output,hx.os,hx.tape,hx.loops,hx.X⟩
theorem ej4 {f:Nat}{args:List IV}{v:IV}(h:PC P E f args v):C P E f args σ (im1 v σ):=h σ
theorem gb2 {f:Nat}{args:List IV}{v:IV}
  (h:∀ σ,(∀ a∈args,Bnd σ.next a)->C P E f args σ fun v' σ'=>(∀ i,i<σ.next->σ'.obj i=σ.obj i)/\σ.next<=σ'.next/\bt7 σ' σ.next v' v):PC P E f args v :=
 fun σ=>jh2 (h σ)
theorem jh3 {pt:PT}{ct:CT}{pf:List Nat}(hT:TOK P E pt ct){f:Nat}{an:Ann}{ic:IC}{irs:List IR}{args:List IV}{v:IV}(hf:hn6 P f N pf an ic irs)(hl:args.length<=N)
  (h:∀ σ,(∀ a∈args,Bnd σ.next a)->wpT pt ct P E N σ.next ic (bi6 args 0) σ (ga8 irs fun v' σ'=>(∀ i,i<σ.next->σ'.obj i=σ.obj i)/\σ.next<=σ'.next/\bt7 σ' σ.next v' v)):PC P E f args v :=
 gb2 fun σ hb=>C_T hT hf hl (h σ hb)
def IV.plain:IV->Bool
 | .bool _|.int _ _|.str _=>true
 | .tuple vs=>vs.attach.all fun ⟨v,_⟩=>v.plain
 | .agg vs=>vs.attach.all fun ⟨v,_⟩=>v.plain
 | _=>false
theorem gu6 {v:IV}{r:Value}(h:v.plain=true)(hv:VR ρ w v r):VR ρ' w' v r:=by
 induction hv with
 | bool b=>exact .bool _
 | int k n=>exact .int _ _
 | str s=>exact .str _
 | agg cs rs hl hv ih=>
  refine .agg cs rs hl fun i hi=>ih i hi ?_
  unfold IV.plain at h
  exact List.all_eq_true.1 h ⟨_,ac9 .undef hi⟩ (List.mem_attach _ _)
 | tuple cs rs hl hv ih=>
  refine .tuple cs rs hl fun i hi=>ih i hi ?_
  unfold IV.plain at h
  exact List.all_eq_true.1 h ⟨_,ac9 .undef hi⟩ (List.mem_attach _ _)
 | _=>simp[IV.plain] at h
theorem ej5 (S:Nat->Prop)(ρ:Rho):∃ ρ':Rho,cc7 S ρ ρ'/\∀ b,ρ'.X b↔ρ.X b\/∃ i d,¬ S i/\ρ i=.at b d:=by
 refine ⟨⟨fun i=>if Classical.propDecidable (S i) |>.decide then ρ i else .no,fun b=>ρ.X b\/∃ i d,¬ S i/\ρ i=.at b d⟩,⟨fun i h=>?_,fun i h=>?_,fun b h=>h⟩,fun b=>Iff.rfl⟩
 ·show (if (Classical.propDecidable (S i)).decide=true then ρ i else dv5.no)=_;rw[if_pos (by simpa using h)]
 ·show (if (Classical.propDecidable (S i)).decide=true then ρ i else dv5.no)=_;rw[if_neg (by simpa using h)]
def Store.only (σ:Store)(S:Nat->Bool):Store:=⟨σ.next,fun i=>if S i then σ.obj i else none⟩
theorem es7 {f:Nat}{args:List IV}{v:IV}(hE:∀ g,Bnd 0 (E g))(ha:∀ a∈args,Bnd 0 a)(h:C P E f args ⟨0,fun _=>none⟩ fun v' σ'=>bt7 σ' 0 v' v):PC P E f args v:=by
 intro σ ρ w rargs hs hr;obtain ⟨ρ0,hk,hX⟩:=ej5 (fun _=>False) ρ;have hs0:Sim E ρ0 w ⟨0,fun _=>none⟩:=hs.ja1 hk (fun i h=>h.elim) (fun _ _=>rfl) (fun i o h=>h.elim) (fun i _=>hk.off i (fun h=>h)) (fun g=>(hE g).weak fun i h=>absurd h (Nat.not_lt_zero _));have hr0:CR ρ0 w args rargs:=⟨hr.1,fun i hi=>(hr.2 i hi).cut hk ((ha _ (ac9 _ hi)).weak fun i h=>absurd h (Nat.not_lt_zero _))⟩;refine CallsIn.mono (h ρ0 w rargs hs0 hr0) ?_;rintro e w' ⟨v',r,ρ',σ',rfl,hfz,hs',hv',hx⟩;have hno0:∀ i,ρ0 i=.no:=fun i=>hk.off i (fun h=>h)
 have hkeep:∀ b,b<w.heap.size->w'.heap[b]? = w.heap[b]?:=fun b hb=>hx.keep b ⟨hb,fun i d h=>by rw[hno0 i] at h; cases h⟩
 have hlt:∀ (b:Nat) (o:Obj),w.heap[b]? = some o->b<w.heap.size:=fun b o h=>by
  rcases Nat.lt_or_ge b w.heap.size with h'|h'
  ·exact h'
  ·rw[Array.getElem?_eq_none h'] at h; cases h
 have hext:∀ n,Ext n ρ w ρ w':=fun n=>
  ⟨hx.size,fun b hb=>hkeep b hb.1,fun b rcs el fz h=>⟨rcs,by rw[hkeep b (hlt b _ h)]; exact h,rfl⟩,fun i B d h=>.inl ⟨i,d,h⟩,fun i B d h=>.inl h,fun i h=>h,fun i _ h=>h,hx.output,hx.os,hx.tape,fun l L h=>⟨L,by rw[hkeep l (hlt l _ h)]; exact h⟩,rfl⟩
 -- the tree lies on no block that is in use
 let ρ1:Rho:=⟨fun _=>.no,ρ'.X⟩;have hk1:cc7 (fun i=>i<0) ρ' ρ1:=⟨fun i h=>absurd h (Nat.not_lt_zero _),fun i _=>rfl,fun b h=>.inl h⟩;have hv1:VR ρ1 w' v r:=hfz.vr hk1 rfl hs' r hv'
 have hv2:VR ρ w' v r:=hv1.refs (fun i h=>absurd rfl h) fun b hb=>⟨hb.1,fun i d hi=>hb.3 (by
   show ρ'.X b;rw[hx.X];exact (hX b).2 (.inr ⟨i,d,fun h=>h,hi⟩)),fun hxb=>hb.3 (by
   show ρ'.X b;rw[hx.X];exact (hX b).2 (.inl hxb))⟩
 refine ⟨v,r,ρ,σ,rfl,⟨rfl,rfl⟩,⟨hs.inj,fun i B d h=>Nat.lt_of_lt_of_le (hs.lt i B d h) hx.size,fun i B d h=>?_,hs.dead,hs.fresh,hs.av3,fun g=>(hs.env g).mono (hext 0),hs.nx,fun b h=>Nat.lt_of_lt_of_le (hs.xlt b h) hx.size⟩,hv2,(hext σ.next).weak (Nat.le_refl _)⟩;obtain ⟨o,h1,h2⟩:=hs.obj i B d h;exact ⟨o,h1,h2.mono (hext 0) (hkeep B (hs.lt i B d h))⟩
def Store.kills (σ:Store)(S:Nat->Bool):Store:=⟨σ.next,fun i=>if S i then σ.obj i else none⟩
theorem ct8 {S:Nat->Bool}(hs:Sim E ρ w σ):∃ ρd:Rho,Sim E ρd w (σ.kills S)/\(∀ n,Ext n ρ w ρd w)/\∀ v v' r,Frz σ (fun i=>S i=true) v v'->VR ρ w v r->VR ρd w v' r:=by
 let ρc:Rho:=⟨fun i=>if S i then ρ i else .no,ρ.X⟩;let ρd:Rho:=⟨fun i=>if S i then ρ i else match ρ i with|.no=>.no|_=>.dead,ρ.X⟩;have con:∀ i,S i=true->ρc i=ρ i:=fun i h=>by show (if S i=true then ρ i else .no)=_; rw[if_pos h]
 have coff:∀ i,S i=false->ρc i=.no:=fun i h=>by show (if S i=true then ρ i else .no)=_; rw[if_neg (by simp[h])]
 have don:∀ i,S i=true->ρd i=ρ i:=fun i h=>by show (if S i=true then ρ i else _)=_; rw[if_pos h]
 have doff:∀ i,S i=false->ρd i=(match ρ i with|.no=>.no|_=>.dead):=fun i h=>by show (if S i=true then ρ i else _)=_; rw[if_neg (by simp[h])]
 have hdat:∀ i B d,ρd i=.at B d->S i=true/\ρ i=.at B d:=fun i B d h=>by
  cases hsi:S i with
  | true=>rw[don i hsi] at h; exact ⟨rfl,h⟩
  | false=>rw[doff i hsi] at h; cases hri:ρ i<;>rw[hri] at h<;>cases h
 have hk:cc7 (fun i=>S i=true) ρ ρc:=⟨con,fun i h=>coff i (by simpa using h),fun b h=>.inl h⟩
 have hxd:∀ n,Ext n ρ w ρd w:=fun n=>dn6 (fun i B d h=>by
   cases hsi:S i with
   | true=>rw[don i hsi]; exact .inl h
   | false=>rw[doff i hsi,h]; exact .inr rfl) (fun i h=>by
   cases hsi:S i with
   | true=>rw[don i hsi]; exact h
   | false=>rw[doff i hsi,h]) (fun i _ h=>by
   cases hsi:S i with
   | true=>rw[don i hsi]; exact h
   | false=>rw[doff i hsi,h]) (fun i B d h=>⟨i,d,(hdat i B d h).2⟩) rfl
 have hxc:Ext 0 ρc w ρd w:=dn6 (fun i B d h=>by
   obtain ⟨h1,h2⟩:=hk.at h;exact .inl (by rw[don i h1]; exact h2)) (fun i h=>by
   cases hsi:S i with
   | true=>rw[con i hsi] at h; rw[don i hsi]; exact h
   | false=>rw[coff i hsi] at h; cases h) (fun i hi _=>absurd hi (Nat.not_lt_zero _)) (fun i B d h=>⟨i,d,by rw[con i (hdat i B d h).1]; exact (hdat i B d h).2⟩) rfl
 refine ⟨ρd,?_,hxd,fun v v' r hf hv=>(hf.vr hk rfl hs r hv).mono hxc⟩;refine ⟨fun i j B d d' hi hj=>hs.inj i j B d d' (hdat _ _ _ hi).2 (hdat _ _ _ hj).2,fun i B d hi=>hs.lt i B d (hdat _ _ _ hi).2,fun i B d hi=>?_,fun i hi=>?_,fun i hi=>?_,fun i hi=>?_,fun g=>(hs.env g).mono (hxd 0),fun i B d hi=>hs.nx i B d (hdat _ _ _ hi).2,hs.xlt⟩
 ·obtain ⟨h1,h2⟩:=hdat _ _ _ hi;obtain ⟨o,g1,g2⟩:=hs.obj i B d h2;exact ⟨o,by simp[Store.kills,h1,g1],g2.mono (hxd 0) rfl⟩
 ·cases hsi:S i with
  | true=>rw[don i hsi] at hi; simp[Store.kills,hsi,hs.dead i hi]
  | false=>simp[Store.kills,hsi]
 ·have hn:σ.next<=i:=hi;have:=hs.fresh i hn
  cases hsi:S i with
  | true=>rw[don i hsi]; exact this
  | false=>rw[doff i hsi,this]
 ·cases hsi:S i with
  | true=>rw[don i hsi] at hi; simp[Store.kills,hsi,hs.av3 i hi]
  | false=>simp[Store.kills,hsi]
theorem gb3 {S:Nat->Bool}{f:Nat}{args args':List IV}{Q:IV->Store->Prop}(hl:args'.length=args.length)(ha:∀ i,i<args.length->Frz σ (fun i=>S i=true) (args.getD i .undef) (args'.getD i .undef))
  (h:C P E f args' (σ.kills S) Q):C P E f args σ Q:=by
 intro ρ w rargs hs hr;obtain ⟨ρd,hs0,hxd,hvd⟩:=ct8 (S:=S) hs;have hr0:CR ρd w args' rargs:=⟨by rw[hl]; exact hr.1,fun i hi=>hvd _ _ _ (ha i (by omega)) (hr.2 i (by omega))⟩;refine CallsIn.mono (h ρd w rargs hs0 hr0) ?_;rintro e w' ⟨v,r,ρ',σ',rfl,hq,hs',hv',hx⟩;exact ⟨v,r,ρ',σ',rfl,hq,hs',hv',((hxd σ.next).weak (Nat.le_refl _)).trans hx⟩
theorem bf2 {f:Nat}{args args':List IV}{v:IV}(hE:∀ g,Bnd 0 (E g))(hl:args'.length=args.length)(ha:∀ i,i<args.length->bt7 σ 0 (args.getD i .undef) (args'.getD i .undef))(hp:v.plain=true)(h:PC P E f args' v):C P E f args σ (im1 v σ):=by
 intro ρ w rargs hs hr;have hk:=ho5 ρ 0;have hs0:Sim E (ρ.cut 0) w ⟨0,fun _=>none⟩:=hs.ja1 hk (fun i h=>absurd h (Nat.not_lt_zero _)) (fun _ _=>rfl) (fun i o h=>absurd h (Nat.not_lt_zero _)) (fun i _=>hk.off i (Nat.not_lt_zero _)) hE;have hr0:CR (ρ.cut 0) w args' rargs:=⟨by rw[hl]; exact hr.1,fun i hi=>(ha i (by omega)).vr hk rfl hs _ (hr.2 i (by omega))⟩;refine CallsIn.mono (h ⟨0,fun _=>none⟩ (ρ.cut 0) w rargs hs0 hr0) ?_;rintro e w' ⟨v',r,ρ',σ',rfl,⟨rfl,rfl⟩,hs',hv',hx⟩;have hkeep:∀ b,b<w.heap.size->w'.heap[b]? = w.heap[b]?:=fun b hb=>hx.keep b ⟨hb,fun i d h=>absurd (hk.at h).1 (Nat.not_lt_zero _)⟩
 have hlt:∀ (b:Nat) (o:Obj),w.heap[b]? = some o->b<w.heap.size:=fun b o h=>by
  rcases Nat.lt_or_ge b w.heap.size with h'|h'
  ·exact h'
  ·rw[Array.getElem?_eq_none h'] at h; cases h
 have hext:∀ n,Ext n ρ w ρ w':=fun n=>
  ⟨hx.size,fun b hb=>hkeep b hb.1,fun b rcs el fz h=>⟨rcs,by rw[hkeep b (hlt b _ h)]; exact h,rfl⟩,fun i B d h=>.inl ⟨i,d,h⟩,fun i B d h=>.inl h,fun i h=>h,fun i _ h=>h,hx.output,hx.os,hx.tape,fun l L h=>⟨L,by rw[hkeep l (hlt l _ h)]; exact h⟩,rfl⟩
 refine ⟨_,r,ρ,σ,rfl,⟨rfl,rfl⟩,⟨hs.inj,fun i B d h=>Nat.lt_of_lt_of_le (hs.lt i B d h) hx.size,fun i B d h=>?_,hs.dead,hs.fresh,hs.av3,fun g=>(hs.env g).mono (hext 0),hs.nx,fun b h=>Nat.lt_of_lt_of_le (hs.xlt b h) hx.size⟩,gu6 hp hv',(hext σ.next).weak (Nat.le_refl _)⟩;obtain ⟨o,h1,h2⟩:=hs.obj i B d h;exact ⟨o,h1,h2.mono (hext 0) (hkeep B (hs.lt i B d h))⟩
end Go.Id
set_option linter.all false
namespace Go.Id
open Go
variable {P:Program} {E:Nat->IV} {σ σ':Store} {N n n0:Nat} {fr:Frm}
inductive ej6 where
 | o (x:ak4)
 | loop (N:Nat) (fr:Frm) (ps:List Nat) (asg body:IC) (st:LoopState) (pend:Option JX)
 | app (rev:List (List IV)) (n:Nat) (h:rev.reverse.flatten.length=n/\rev.reverse.flatten.all IV.leaf=true)
 deriving Inhabited
def ej6.fin:Option ej6->Option ej6
 | some (.app rev _ _)=>some (.o (.row rev.reverse.flatten))
 | x=>x
inductive Tr where
 | e
 | n (v:Option ej6) (l r:Tr)
 deriving Inhabited
def Tr.raw:Tr->Nat->Option ej6
 | .e,_=>none
 | .n v l r,i=>bif Nat.beq i 0 then v else bif Nat.beq (i%2) 1 then l.raw (i/2) else r.raw (i/2-1)
def Tr.get (t:Tr)(i:Nat):Option ej6:=ej6.fin (t.raw i)
def Tr.set (x:Option ej6):Nat->Tr->Nat->Tr
 | 0,t,_=>t
 | f+1,.e,i=>bif Nat.beq i 0 then .n x .e .e else bif Nat.beq (i%2) 1 then .n none (Tr.set x f .e (i/2)) .e else .n none .e (Tr.set x f .e (i/2-1))
 | f+1,.n v l r,i=>bif Nat.beq i 0 then .n x l r else bif Nat.beq (i%2) 1 then .n v (Tr.set x f l (i/2)) r else .n v l (Tr.set x f r (i/2-1))
theorem bd5 {α:Type}(a b:Nat)(x y:α):(bif Nat.beq a b then x else y)=if a=b then x else y:=by
 by_cases h:a=b
 ·subst h; simp
 ·have:Nat.beq a b=false:=by rw[<- Bool.not_eq_true,Nat.beq_eq]; exact h
  simp[this,h]
theorem Tr.ic5 (x:Option ej6):∀ (f:Nat) (t:Tr) (i j:Nat),i+1<2^f->(Tr.set x f t i).raw j=if j=i then x else t.raw j:=by
 intro f
 induction f with
 | zero=>intro t i j h; simp at h
 | succ f ih=>
  intro t i j h;have hp:2^(f+1)=2*2^f:=by rw[Nat.pow_succ]; omega
  cases t with
  | e =>
   simp only[Tr.set,bd5];split
   ·rename_i h0; subst h0;simp only[Tr.raw,bd5];split
    ·rfl
    ·split<;>rfl
   ·rename_i h0;split
    ·rename_i h1;simp only[Tr.raw,bd5];by_cases hj:j=0
     ·subst hj; rw[if_pos rfl,if_neg (by omega)]
     ·rw[if_neg hj];split
      ·rename_i h2;rw[ih _ _ _ (by omega)];by_cases hij:j=i
       ·rw[if_pos hij,if_pos (by omega)]
       ·rw[if_neg hij,if_neg (by omega)]; rfl
      ·rw[if_neg (by omega)]
    ·rename_i h1;simp only[Tr.raw,bd5];by_cases hj:j=0
     ·subst hj; rw[if_pos rfl,if_neg (by omega)]
     ·rw[if_neg hj];split
      ·rw[if_neg (by omega)]
      ·rename_i h2;rw[ih _ _ _ (by omega)];by_cases hij:j=i
       ·rw[if_pos hij,if_pos (by omega)]
       ·rw[if_neg hij,if_neg (by omega)]; rfl
  | n v l r=>
   simp only[Tr.set,bd5];split
   ·rename_i h0; subst h0;simp only[Tr.raw,bd5];split
    ·rfl
    ·rfl
   ·rename_i h0;split
    ·rename_i h1;simp only[Tr.raw,bd5];by_cases hj:j=0
     ·subst hj; rw[if_pos rfl,if_neg (by omega)]; rfl
     ·rw[if_neg hj,if_neg hj];split
      ·rename_i h2;rw[ih _ _ _ (by omega)];by_cases hij:j=i
       ·rw[if_pos hij,if_pos (by omega)]
       ·rw[if_neg hij,if_neg (by omega)]
      ·rw[if_neg (by omega)]
    ·rename_i h1;simp only[Tr.raw,bd5];by_cases hj:j=0
     ·subst hj; rw[if_pos rfl,if_neg (by omega)]; rfl
     ·rw[if_neg hj,if_neg hj];split
      ·rw[if_neg (by omega)]
      ·rename_i h2;rw[ih _ _ _ (by omega)];by_cases hij:j=i
       ·rw[if_pos hij,if_pos (by omega)]
       ·rw[if_neg hij,if_neg (by omega)]
theorem Tr.cc1 (x:Option ej6)(f:Nat)(t:Tr)(i j:Nat)(h:i+1<2^f):(Tr.set x f t i).get j=if j=i then ej6.fin x else t.get j:=by
 unfold Tr.get;rw[Tr.ic5 x f t i j h];split<;>rfl
structure XSt where
 next:Nat
 t:Tr
 deriving Inhabited
def XSt.put (xs:XSt)(i:Nat)(x:Option ej6):Option XSt :=
 bif Nat.blt i 1152921504606846976 then some ⟨xs.next,xs.t.set x 64 i⟩ else none
def XSt.st (xs:XSt):Store:=⟨xs.next,fun i=>match xs.t.get i with|some (.o x)=>some x|_=>none⟩
theorem XSt.gb4 {xs xs':XSt}{i:Nat}{x:Option ej6}(h:xs.put i x=some xs'):xs'.next=xs.next/\∀ j,xs'.t.get j=if j=i then ej6.fin x else xs.t.get j:=by
 unfold XSt.put at h
 cases hb:Nat.blt i 1152921504606846976 with
 | false=>rw[hb] at h; cases h
 | true=>
  rw[hb] at h;cases h;have:i<1152921504606846976:=Nat.le_of_ble_eq_true hb;exact ⟨rfl,fun j=>Tr.cc1 x 64 _ i j (by omega)⟩
def YR (P:Program)(E:Nat->IV)(id N:Nat)(fr:Frm)(ps:List Nat)(asg body:IC)(L:LoopState->Option JX->ak4):Prop :=
 ∀ (σ':Store) (args:List IV) (K:IV->Store->Prop),args.length=ps.length->σ'.obj id=some (L .ready none) ->
  RI P E N σ'.next asg (da3 fr ps args) σ' (fun e f s=>e=.normal/\s.obj id=some (L .ready none)/\RI P E N σ'.next body f (s.put id (L .busy none)) (cs3 id L K))->CYd P E id args σ' K
abbrev Lam:=Nat->LoopState->Option JX->ak4
def XOR (P:Program)(E:Nat->IV)(Λ:Lam)(i:Nat):Option ej6->Option ak4->Prop
 | none,o=>o=none
 | some (.o x),o=>o=some x
 | some (.app rev _ _),o=>o=some (.row rev.reverse.flatten)
 | some (.loop N fr ps asg body st pend),o=>o=some (Λ i st pend)/\YR P E i N fr ps asg body (Λ i)
structure XR (P:Program) (E:Nat->IV) (Λ:Lam) (xs:XSt) (σ:Store):Prop where
 next:xs.next=σ.next
 obj:∀ i,XOR P E Λ i (xs.t.get i) (σ.obj i)
theorem XR.put {Λ:Lam}{xs xs':XSt}{i:Nat}{x:ak4}(h:XR P E Λ xs σ)(hp:xs.put i (some (.o x))=some xs'):XR P E Λ xs' (σ.put i x):=by
 obtain ⟨h1,h2⟩:=XSt.gb4 hp;refine ⟨by rw[h1]; exact h.next,fun j=>?_⟩;rw[h2,aa7];by_cases hj:j=i
 ·rw[if_pos hj,if_pos hj]; rfl
 ·rw[if_neg hj,if_neg hj]; exact h.obj j
theorem XR.kill {Λ:Lam}{xs xs':XSt}{i:Nat}(h:XR P E Λ xs σ)(hp:xs.put i none=some xs'):XR P E Λ xs' (σ.kill i):=by
 obtain ⟨h1,h2⟩:=XSt.gb4 hp;refine ⟨by rw[h1]; exact h.next,fun j=>?_⟩;rw[h2];show XOR P E Λ j _ (if j=i then none else σ.obj j);by_cases hj:j=i
 ·rw[if_pos hj,if_pos hj]; rfl
 ·rw[if_neg hj,if_neg hj]; exact h.obj j
theorem XR.get {Λ:Lam}{xs:XSt}{i:Nat}{x:ak4}(h:XR P E Λ xs σ)(hg:xs.t.get i=some (.o x)):σ.obj i=some x:=by
 have:=h.obj i;rw[hg] at this;exact this
def LeS (s σ:Store):Prop:=∀ i x,s.obj i=some x->σ.obj i=some x
theorem XR.le {Λ:Lam}{xs:XSt}(h:XR P E Λ xs σ):LeS xs.st σ:=by
 intro i x hx;simp only[XSt.st] at hx;split at hx
 ·rename_i y hy; cases hx; exact h.get hy
 ·cases hx
def au1:Nat->IV->Bool
 | 0,_=>false
 | n+1,v=>match v with
  | .ptr _ _|.slice _ _ _ _|.map _|.yield _|.ag7 _ _ _ _|.ak3 _ _ _ _ _=>false
  | .ab8 cs=>cs.all (au1 n)
  | .aa5 es=>es.all fun e=>e.all (au1 n)
  | .al6 es=>es.all fun e=>au1 n e.1&&au1 n e.2
  | .func _ a b=>a.all (au1 n)&&b.all (au1 n)
  | .iface _ v=>au1 n v
  | .agg cs=>cs.all (au1 n)
  | .tuple cs=>cs.all (au1 n)
  | _=>true
theorem ax6:∀ (n:Nat) (v:IV),au1 n v=true->Bnd 0 v:=by
 intro n
 induction n with
 | zero=>intro v h; cases h
 | succ n ih=>
  intro v h;have all:∀ {cs:List IV},cs.all (au1 n)=true->∀ c∈cs,Bnd 0 c:=fun h c hc=>ih c (List.all_eq_true.1 h c hc)
  cases v with
  | undef=>exact .undef
  | bool b=>exact .bool b
  | int k x=>exact .int k x
  | str s=>exact .str s
  | ab6=>exact .ab6
  | ptr id off=>cases h
  | ab8 cs=>exact .ab8 cs (all h)
  | aa1=>exact .aa1
  | ac8=>exact .ac8
  | af6=>exact .af6
  | slice a b c d=>cases h
  | aa5 es=>exact .aa5 es fun e he=>all (List.all_eq_true.1 h e he)
  | aj3=>exact .aj3
  | map id=>cases h
  | al6 es=>exact .al6 es (fun e he=>ih _ (by have:=List.all_eq_true.1 h e he; simp at this; exact this.1)) (fun e he=>ih _ (by have:=List.all_eq_true.1 h e he; simp at this; exact this.2))
  | func f a b=>
   simp only[au1,Bool.and_eq_true] at h
   exact .func f a b (all h.1) (all h.2)
  | yield id=>cases h
  | ab9=>exact .ab9
  | iface t v=>exact .iface t v (ih v h)
  | ai1=>exact .ai1
  | agg cs=>exact .agg cs (all h)
  | tuple cs=>exact .tuple cs (all h)
  | ag7 a b c d=>cases h
  | ak3 a b c d e=>cases h
def dz7 (E:Nat->IV)(σ:Store)(fr:Frm)(σ':Store)(fr':Frm):Prop :=
 ∀ (ρ:Rho) (w:World),Sim E ρ w σ->∃ ρd:Rho,Sim E ρd w σ'/\(∀ n,Ext n ρ w ρd w)/\∀ (N:Nat) (tmps:Array Value),FR ρ w N fr tmps->FR ρd w N fr' tmps
theorem dz7.trans {σ'':Store}{fr fr' fr'':Frm}(h:dz7 E σ fr σ' fr')(h':dz7 E σ' fr' σ'' fr''):dz7 E σ fr σ'' fr'':=fun ρ w hs=>
 let ⟨ρ1,a1,a2,a3⟩:=h ρ w hs;let ⟨ρ2,b1,b2,b3⟩:=h' ρ1 w a1
 ⟨ρ2,b1,fun n=>(a2 n).trans (b2 n) (Nat.le_refl _),fun N tmps hf=>b3 N tmps (a3 N tmps hf)⟩
theorem dz7.refl (fr:Frm):dz7 E σ fr σ fr:=fun ρ w hs=>⟨ρ,hs,fun n=>Ext.refl _ _ _,fun _ _ h=>h⟩
theorem dz7.of {S:Nat->Bool}{fr fr':Frm}(hf:∀ t,fr'.get t=fr.get t\/Frz σ (fun i=>S i=true) (fr.get t) (fr'.get t)):dz7 E σ fr (σ.kills S) fr':=fun ρ w hs=>by
 obtain ⟨ρd,hs0,hxd,hvd⟩:=ct8 (S:=S) hs;refine ⟨ρd,hs0,hxd,fun N tmps hfr=>⟨hfr.size,fun t=>?_⟩⟩;rcases hf t with e|e
 ·rw[e]; exact (hfr.get t).mono (hxd 0)
 ·exact hvd _ _ _ e (hfr.get t)
end Go.Id
