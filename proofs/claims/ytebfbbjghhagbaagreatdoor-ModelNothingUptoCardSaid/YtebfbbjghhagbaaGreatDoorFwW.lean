/- A function compiled,whole: its code and its results. Conditions: none; over any program. -/
import Derived.Test.YtebfbbjghhagbaaGreatDoorFwI
set_option linter.all false
namespace Go.Id
open Go
variable {P:Program} {w w' w'':World} {ρ ρ' ρ'':Rho} {E:Nat->IV} {σ σ':Store} {N n n':Nat} {fr:Frm} {a:Act} {pf:List Nat}
inductive IR where
 | t (n:Nat)
 | cell (agg:Option Nat) (n:Nat)
 deriving Inhabited
def jh4 (P:Program):ResultVar->Option IR
 | .tmp t=>some (.t t)
 | .cell ad t=>match ao7 P t with
  | some agg=>some (.cell agg ad)
  | none=>none
def fc5 (P:Program):List ResultVar->Option (List IR)
 | []=>some []
 | r::rs=>match jh4 P r,fc5 P rs with
  | some x,some xs=>some (x::xs)
  | _,_=>none
def irV (σ:Store)(fr:Frm):IR->Option IV
 | .t n=>some (fr.get n)
 | .cell agg n=>ax9 σ agg (fr.get n)
def irL (σ:Store)(fr:Frm):List IR->Option (List IV)
 | []=>some []
 | r::rs=>match irV σ fr r,irL σ fr rs with
  | some v,some vs=>some (v::vs)
  | _,_=>none
theorem hj4:∀ (rs:List ResultVar) (irs:List IR),fc5 P rs=some irs->gr2 P σ fr rs=irL σ fr irs:=by
 intro rs
 induction rs with
 | nil=>intro irs h; cases h; rfl
 | cons r rs ih=>
  intro irs h;simp only[fc5] at h;split at h
  ·rename_i x xs hx hxs;cases h
   have h1:iy2 P σ fr r=irV σ fr x:=by
    cases r with
    | tmp t=>cases hx; rfl
    | cell ad t=>
     simp only[jh4] at hx;split at hx
     ·rename_i agg hagg;cases hx;simp[iy2,irV,hagg]
     ·cases hx
   simp only[gr2,irL,h1,ih _ hxs];cases irV σ fr x<;>cases irL σ fr xs<;>rfl
  ·cases h
def hj5 (P:Program)(f N:Nat)(pf:List Nat)(an:Ann)(ic:IC)(irs:List IR):Prop :=
 ∃ fn,P.funcs[f]? = some fn/\fn.ntmps=N/\fn.body.bind (bf4 P pf N an)=some ic/\fc5 P fn.results.toList=some irs
theorem ac7 {f:Nat}{fn:Func}{an:Ann}{ic:IC}{irs:List IR}(h:P.funcs[f]? = some fn)(hN:fn.ntmps=N)(hc:fn.body.bind (bf4 P pf N an)=some ic)(hr:fc5 P fn.results.toList=some irs):hj5 P f N pf an ic irs :=
 ⟨fn,h,hN,hc,hr⟩
def jh5 (irs:List IR)(Qc:IV->Store->Prop):Exit->Frm->Store->Prop
 | .normal,fr,σ|.ret,fr,σ=>∃ vs,irL σ fr irs=some vs/\Qc (fb7 vs) σ
 | _,_,_=>False
theorem jl7 {f:Nat}{an:Ann}{ic:IC}{irs:List IR}{args:List IV}{Qc:IV->Store->Prop}(hf:hj5 P f N pf an ic irs)(hl:args.length<=N)
  (h:wpI P E N σ.next ic (bi7 args 0) σ (jh5 irs Qc)):C P E f args σ Qc:=by
 obtain ⟨fn,h1,h2,h3,h4⟩:=hf
 cases hb:fn.body with
 | none=>rw[hb] at h3; cases h3
 | some c=>
  rw[hb] at h3;refine ip1 h1 hb h2 hl ((bm2 ic _ _ _ h pf an c h3).mono ?_);intro e fr' σ' q;cases e<;>first|(obtain ⟨vs,q1,q2⟩:=q; exact ⟨vs,by rw[hj4 _ _ h4]; exact q1,q2⟩)|exact q
end Go.Id
/- Frames,by what is asked of them. Conditions: none; over any program. -/
namespace Go.Id
open Go
theorem Frm.get_nil (t:Nat):Frm.get [] t=.undef:=by unfold Frm.get; simp
theorem Frm.bp7 (t s:Nat)(v:IV)(fr:Frm):Frm.get ((t,v)::fr) s=if s=t then v else Frm.get fr s:=Frm.cc6 fr t s v
end Go.Id
/- The walk by tables: what functions give,aZ functions; the form that is rewritten. Conditions: none; over any program. -/
namespace Go.Id
open Go
universe u
variable {P:Program} {E:Nat->IV} {σ σ':Store} {N n n0:Nat} {fr:Frm} {a:Act} {pf:List Nat}
abbrev PT:=Nat->List IV->Option IV
abbrev CT:=Nat->List IV->Store->Option (IV->Store->Prop)
structure TOK (P:Program) (E:Nat->IV) (pt:PT) (ct:CT):Prop where
 p:∀ f args v,pt f args=some v->PC P E f args v
 c:∀ f args σ Q,ct f args σ=some Q->okF P f=true/\C P E f args σ Q
def noP:PT:=fun _ _=>none
def noC:CT:=fun _ _ _=>none
theorem noT:TOK P E noP noC:=⟨(fun _ _ _ h=>by cases h),(fun _ _ _ _ h=>by cases h)⟩
theorem fc6 {f:Nat}{args:List IV}:noP f args=none:=by unfold noP; exact Eq.trans rfl rfl
theorem fc7 {f:Nat}{args:List IV}:noC f args σ=none:=by unfold noC; exact Eq.trans rfl rfl
def bv1 {α:Type}:Option α->(α->Prop)->Prop
 | some v,K=>K v
 | none,_=>False
def hz8:IV->(Bool->Prop)->Prop
 | .bool b,K=>K b
 | _,_=>False
def gl7 (v:IV)(want:Bool)(A B:Prop):Prop :=
 match gq8 v want with
 | some true=>A
 | some false=>B
 | none=>False
theorem dx9 {v:IV}{want:Bool}{A B:Prop}(h:gl7 v want A B):∃ act,gq8 v want=some act/\if act=true then A else B:=by
 unfold gl7 at h;split at h
 ·rename_i ha; exact ⟨true,ha,h⟩
 ·rename_i ha; exact ⟨false,ha,h⟩
 ·exact h.elim
theorem an3 {α:Type}{o:Option α}{K:α->Prop}(h:bv1 o K):∃ v,o=some v/\K v:=by
 cases o with
 | none=>exact h.elim
 | some v=>exact ⟨v,rfl,h⟩
theorem fc8 {o:IV}{K:Bool->Prop}(h:hz8 o K):∃ b,o=.bool b/\K b:=by
 cases o<;>first|exact ⟨_,rfl,h⟩|exact h.elim
def ct7 (P:Program)(E:Nat->IV)(o:Option (IV->Store->Prop))(f:Nat)(args:List IV)(σ:Store)(K:IV->Store->Prop):Prop :=
 match o with
 | some Q=>∀ v s,Q v s->σ.next<=s.next/\K v s
 | none=>∃ Q,(okF P f=true/\C P E f args σ Q)/\∀ v s,Q v s->σ.next<=s.next/\K v s
def gs4 (P:Program)(E:Nat->IV)(o:Option IV)(f:Nat)(args:List IV)(σ:Store)(K:IV->Store->Prop):Prop :=
 match o with
 | some v=>K v σ
 | none=>∃ v,PC P E f args v/\K v σ
def opT (pt:PT)(ct:CT)(P:Program)(E:Nat->IV)(op:IK)(id:Nat)(fr:Frm)(σ:Store)(K:IV->Store->Prop):Prop :=
 match op with
 | .q q=>bv1 (evq E fr σ q) fun v=>K v σ
 | .alloc z=>K (.ptr id 0) (σ.put id (.cells z))
 | .box x=>(x.ev E fr).cs.all IV.leaf=true/\K (.ptr id 0) (σ.put id (.cells (x.ev E fr).cs))
 | .bsl esz n z parts=>bv1 (aw7 (rep z n) (parts.map fun p=>(p.1,p.2.1,p.2.2.ev E fr))) fun out=>K (.slice id 0 n esz) (σ.put id (.row out))
 | .store sz x y=>bv1 (ap8 σ sz (x.ev E fr) (y.ev E fr)) fun σ'=>K .undef σ'
 | .bk3 x=>match x.ev E fr with
  | .str s=>K (.ptr id 0) (σ.put id (.be7 s 0))
  | _=>False
 | .ct4 x=>bv1 (bl9 σ (x.ev E fr)) fun r=>K r.1 r.2
 | .bm9=>K (.map id) (σ.put id (.map []))
 | .db4 tag x k v=>bv1 (as9 σ tag (x.ev E fr) (k.ev E fr) (v.ev E fr)) fun σ'=>K .undef σ'
 | .app esz s x=>bv1 (bh9 σ id esz (s.ev E fr) (x.ev E fr)) fun r=>K r.1 r.2
 | .call f args=>ct7 P E (ct f (args.map (·.ev E fr)) σ) f (args.map (·.ev E fr)) σ K
 | .af4 f args=>gs4 P E (pt f (args.map (·.ev E fr))) f (args.map (·.ev E fr)) σ K
 | .ao5 x args=>match x.ev E fr with
  | .func (.func f) first cap=>ct7 P E (ct f (first++args.map (·.ev E fr)++cap) σ) f (first++args.map (·.ev E fr)++cap) σ K
  | .yield i=>∃ Q,CV P E (.yield i) (args.map (·.ev E fr)) σ Q/\∀ v σ',Q v σ'->σ.next<=σ'.next/\K v σ'
  | _=>False
 | .av2 esz n z parts=>bv1 (aw7 (rep z n) (parts.map fun p=>(p.1,p.2.1,p.2.2.ev E fr))) fun out=>K (.aa5 (chunk esz n out)) σ
 | .ag5 x=>(x.ev E fr).cs.all IV.leaf=true/\K (.ac2 (x.ev E fr).cs) σ
 | .bc9 x=>match x.ev E fr with
  | .al6 es=>K (.ptr id 0) (σ.put id (.ar6 es none))
  | _=>False
 | .ce1 x=>bv1 (bm1 σ (x.ev E fr)) fun r=>(r.2=[]->K (.tuple [.bool false]) σ) /\
   ∀ j,j<r.2.length->K (.tuple [.bool true,(r.2.getD j (.undef,.undef)).1,(r.2.getD j (.undef,.undef)).2]) (σ.put r.1 (.ar6 (r.2.eraseIdx j) (some (r.2.getD j (.undef,.undef)))))
 | .fc3 x=>bv1 (co1 σ (x.ev E fr)) fun v=>K v σ
 | .db5 esz z x=>bv1 (dm9 (x.ev E fr)) fun n=>K (.slice id 0 n esz) (σ.put id (.row (rep z n)))
 | .clr esz z x=>bv1 (fu5 σ esz z (x.ev E fr)) fun σ'=>σ'.next=σ.next/\K .undef σ'
 | .st k xs=>bv1 (stI k id σ (xs.map (·.ev E fr))) fun r=>K r.1 r.2
theorem db7 {pt:PT}{ct:CT}(hT:TOK P E pt ct){f:Nat}{args:List IV}{K:IV->Store->Prop}(h:ct7 P E (ct f args σ) f args σ K):∃ Q,(okF P f=true/\C P E f args σ Q)/\∀ v s,Q v s->σ.next<=s.next/\K v s:=by
 cases ho:ct f args σ with
 | none=>rw[ho] at h; exact h
 | some Q=>rw[ho] at h; exact ⟨Q,hT.c _ _ _ Q ho,h⟩
theorem bn1 {pt:PT}{ct:CT}(hT:TOK P E pt ct){op:IK}{id:Nat}{K:IV->Store->Prop}(h:opT pt ct P E op id fr σ K):opR P E op id fr σ K:=by
 cases op with
 | q q=>exact an3 h
 | alloc z=>exact h
 | box x=>exact h
 | bsl e n z ps=>exact an3 h
 | store e x y=>exact an3 h
 | app e s x=>exact an3 h
 | bm9=>exact h
 | bk3 x=>
  simp only[opT] at h;split at h
  ·rename_i s he; exact ⟨s,he,h⟩
  ·exact h.elim
 | ct4 x=>exact an3 h
 | db4 t x y z=>exact an3 h
 | call f xs=>
  obtain ⟨Q,h1,h2⟩:=db7 hT h
  exact ⟨Q,h1.2,h2⟩
 | af4 f xs=>
  simp only[opT] at h
  cases ho:pt f (xs.map (·.ev E fr)) with
  | none=>rw[ho] at h; exact h
  | some v=>rw[ho] at h; exact ⟨v,hT.p _ _ _ ho,h⟩
 | ao5 x xs=>
  simp only[opT] at h;split at h
  ·rename_i f first cap he
   obtain ⟨Q,h1,h2⟩:=db7 hT h;refine ⟨Q,?_,h2⟩;rw[he];exact h1
  ·rename_i i he;rw[<- he] at h;exact h
  ·exact h.elim
 | av2 e n z ps=>exact an3 h
 | ag5 x=>exact h
 | bc9 x=>
  simp only[opT] at h;split at h
  ·rename_i s he; exact ⟨s,he,h⟩
  ·exact h.elim
 | ce1 x=>
  obtain ⟨⟨i,l⟩,h1,h2⟩:=an3 h
  exact ⟨i,l,h1,h2⟩
 | fc3 x=>exact an3 h
 | db5 e z x=>exact an3 h
 | clr e z x=>exact an3 h
 | st k xs=>exact an3 h
def by8 (pt:PT) (ct:CT) (P:Program) (E:Nat->IV):List ae6->Nat->Frm->Store->(Frm->Store->Prop)->Prop
 | [],_,fr,σ,K=>K fr σ
 | o::rest,id,fr,σ,K=>
  match o.guard with
  | none=>opT pt ct P E o.op id fr σ fun v σ'=>by8 pt ct P E rest (if o.op.lays then id+1 else id) (fr.an9 o.dst v) σ' K
  | some (s,want)=>gl7 (fr.get s) want (opT pt ct P E o.op id fr σ fun v σ'=>by8 pt ct P E rest (if o.op.lays then id+1 else id) (fr.an9 o.dst v) σ' K)
    (by8 pt ct P E rest (if o.op.lays then id+1 else id) (fr.an9 o.dst skV) σ K)
theorem eh2 {pt:PT}{ct:CT}(hT:TOK P E pt ct):∀ (ops:List ae6) (id:Nat) (fr:Frm) (σ:Store) (K:Frm->Store->Prop),by8 pt ct P E ops id fr σ K->by3 P E ops id fr σ K:=by
 intro ops
 induction ops with
 | nil=>intro id fr σ K h; exact h
 | cons o os ih=>
  intro id fr σ K h;obtain ⟨d,g,op⟩:=o
  cases g with
  | none=>
   simp only[by8,by3] at h ⊢
   exact ⟨true,rfl,am3 (fun v s k=>ih _ _ _ _ k) (bn1 hT h)⟩
  | some p=>
   obtain ⟨s,want⟩:=p;simp only[by8,by3] at h ⊢;obtain ⟨act,ha,h⟩:=dx9 h;refine ⟨act,ha,?_⟩
   cases act with
   | true=>
    rw[if_pos rfl] at h ⊢
    exact am3 (fun v s k=>ih _ _ _ _ k) (bn1 hT h)
   | false=>
    rw[if_neg (by simp)] at h ⊢;exact ih _ _ _ _ h
def bw8 (E:Nat->IV)(fr:Frm)(σ:Store):IK->Prop
 | .q (.load _ x)=>match x.ev E fr with
  | .ac2 _=>True
  | .ptr i _=>match σ.obj i with
   | some (.cells _)=>True
   | _=>False
  | _=>False
 | _=>True
theorem db8 {op:IK}(h:bw8 E fr σ op):be9 E fr σ op:=by
 cases op with
 | q q=>
  cases q with
  | load ag x=>
   simp only[bw8,be9] at h ⊢;cases he:x.ev E fr<;>rw[he] at h<;>simp only at h ⊢;rename_i i off
   cases ho:σ.obj i with
   | none=>rw[ho] at h; exact h.elim
   | some ob=>
    rw[ho] at h
    cases ob<;>first|exact ⟨_,rfl⟩|exact h.elim
  | _=>trivial
 | _=>trivial
def bn2 (pt:PT) (ct:CT) (P:Program) (E:Nat->IV) (B:Bool):List ae6->Nat->Frm->Store->(Frm->Store->Prop)->Prop
 | [],_,fr,σ,K=>K fr σ
 | o::rest,id,fr,σ,K=>
  match o.guard with
  | none=>(B=true->bw8 E fr σ o.op)/\opT pt ct P E o.op id fr σ fun v σ'=>bn2 pt ct P E B rest (id+1) (fr.an9 o.dst v) σ' K
  | some (s,want)=>gl7 (fr.get s) want ((B=true->bw8 E fr σ o.op)/\opT pt ct P E o.op id fr σ fun v σ'=>bn2 pt ct P E B rest (id+1) (fr.an9 o.dst v) σ' K)
    (bn2 pt ct P E B rest (id+1) (fr.an9 o.dst skV) σ K)
theorem eh3 {pt:PT}{ct:CT}(hT:TOK P E pt ct){B:Bool}{base:Nat}:∀ (ops:List ae6) (i:Nat) (fr:Frm) (σ:Store) (K:Frm->Store->Prop),bn2 pt ct P E B ops (base+i) fr σ K->bu8 P E B (ep8 base i ops) fr σ K:=by
 intro ops
 induction ops with
 | nil=>intro i fr σ K h; exact h
 | cons o os ih=>
  intro i fr σ K h;obtain ⟨d,g,op⟩:=o
  cases g with
  | none=>
   simp only[bn2] at h
   exact ⟨true,rfl,am3 (fun v s k=>ih _ _ _ _ k) (bn1 hT h.2),fun hb=>db8 (h.1 hb)⟩
  | some p=>
   obtain ⟨s,want⟩:=p;simp only[bn2] at h;obtain ⟨act,ha,h⟩:=dx9 h;refine ⟨act,ha,?_⟩
   cases act with
   | true=>exact ⟨am3 (fun v s k=>ih _ _ _ _ k) (bn1 hT h.2),fun hb=>db8 (h.1 hb)⟩
   | false=>exact ih _ _ _ _ h
def wpT (pt:PT)(ct:CT)(P:Program)(E:Nat->IV)(N n0:Nat):IC->Frm->Store->(Exit->Frm->Store->Prop)->Prop
 | .skip,fr,σ,Q=>Q .normal fr σ
 | .reg _ ops keep,fr,σ,Q=>by8 pt ct P E ops σ.next fr ⟨σ.next+by4 ops,σ.obj⟩ (fun fr' σ'=>Q .normal (fr'.keep keep) σ')
 | .ap5 _ ops B keep,fr,σ,Q=>bn2 pt ct P E B ops σ.next fr ⟨σ.next+ops.length,σ.obj⟩ (fun fr' σ'=>Q .normal (fr'.keep keep) σ')
 | .go5 _ ops keep,fr,σ,Q=>ax2 P E (hh2 σ.next ops) [] fr { σ with next:=σ.next+ops.length } (fun fr' σ'=>Q .normal (fr'.keep keep) σ')
 | .seq a b,fr,σ,Q=>wpT pt ct P E N n0 a fr σ (fun e fr' σ'=>match e with|.normal=>wpT pt ct P E N n0 b fr' σ' Q|e=>Q e fr' σ')
 | .cond x a b,fr,σ,Q=>hz8 (x.ev E fr) fun t=>if t=true then wpT pt ct P E N n0 a fr σ Q else wpT pt ct P E N n0 b fr σ Q
 | .block id a,fr,σ,Q=>wpT pt ct P E N n0 a fr σ (bt9 id Q)
 | .loop a,fr,σ,Q=>RI P E N n0 (.loop a) fr σ Q
 | .exit id,fr,σ,Q=>Q (.exit id) fr σ
 | .ret,fr,σ,Q=>Q .ret fr σ
 | .bt6 g ps y a,fr,σ,Q=>RI P E N n0 (.bt6 g ps y a) fr σ Q
 | .scope a,fr,σ,Q=>wpT pt ct P E N n0 a fr σ (fu7 Q)
theorem by9:∀ (ic:IC) (fr:Frm) (σ:Store) (Q Q':Exit->Frm->Store->Prop),(∀ e f s,Q e f s->Q' e f s)->wpI P E N n0 ic fr σ Q->wpI P E N n0 ic fr σ Q':=by
 have hrops:∀ (ops:List ae6) (id:Nat) (fr:Frm) (σ:Store) (K K':Frm->Store->Prop),(∀ f s,K f s->K' f s)->by3 P E ops id fr σ K->by3 P E ops id fr σ K':=by
  intro ops
  induction ops with
  | nil=>intro id fr σ K K' hk h; exact hk _ _ h
  | cons o os ih=>
   intro id fr σ K K' hk h;simp only[by3] at h ⊢;obtain ⟨act,ha,h⟩:=h;refine ⟨act,ha,?_⟩
   cases act with
   | true=>
    rw[if_pos rfl] at h ⊢
    exact am3 (fun v s k=>ih _ _ _ _ _ hk k) h
   | false=>
    rw[if_neg (by simp)] at h ⊢;exact ih _ _ _ _ _ hk h
 have htree:∀ (its:List Item) (B:Bool) (fr:Frm) (σ:Store) (K K':Frm->Store->Prop),(∀ f s,K f s->K' f s)->bu8 P E B its fr σ K->bu8 P E B its fr σ K':=by
  intro its
  induction its with
  | nil=>intro B fr σ K K' hk h; exact hk _ _ h
  | cons it its ih=>
   intro B fr σ K K' hk h;obtain ⟨i,o,id⟩:=it;obtain ⟨act,ha,hh⟩:=h;refine ⟨act,ha,?_⟩
   cases act with
   | true=>exact ⟨am3 (fun v s k=>ih _ _ _ _ _ hk k) hh.1,hh.2⟩
   | false=>exact ih _ _ _ _ _ hk hh
 intro ic
 induction ic with
 | skip=>intro fr σ Q Q' hq h; exact hq _ _ _ h
 | reg id ops keep=>intro fr σ Q Q' hq h; exact hrops _ _ _ _ _ _ (fun f s k=>hq _ _ _ k) h
 | ap5 id ops B keep=>intro fr σ Q Q' hq h; exact htree _ _ _ _ _ _ (fun f s k=>hq _ _ _ k) h
 | go5 id ops keep=>intro fr σ Q Q' hq h; exact fb4 _ _ _ _ (fun f s k=>hq _ _ _ k) h
 | seq x y ihx ihy=>
  intro fr σ Q Q' hq h;refine ihx _ _ _ _ ?_ h;intro e f s k
  cases e with
  | normal=>exact ihy _ _ _ _ hq k
  | _=>exact hq _ _ _ k
 | cond x a b iha ihb=>
  intro fr σ Q Q' hq h;obtain ⟨t,ht,h⟩:=h;refine ⟨t,ht,?_⟩
  cases t with
  | true=>exact iha _ _ _ _ hq h
  | false=>exact ihb _ _ _ _ hq h
 | block id x ih=>
  intro fr σ Q Q' hq h;refine ih _ _ _ _ ?_ h;intro e f s k
  cases e with
  | exit i=>simp only[bt9] at k ⊢; split<;>rename_i hi<;>simp only[hi,if_true,if_false] at k<;>exact hq _ _ _ k
  | _=>exact hq _ _ _ k
 | scope x ih=>
  intro fr σ Q Q' hq h;refine ih _ _ _ _ ?_ h;intro e f s k
  cases e with
  | goto l=>exact k
  | _=>exact hq _ _ _ k
 | loop x ih=>intro fr σ Q Q' hq h; exact az3 h hq
 | exit id=>intro fr σ Q Q' hq h; exact hq _ _ _ h
 | bt6 g ps y x ihy ih=>intro fr σ Q Q' hq h; exact az3 h hq
 | ret=>intro fr σ Q Q' hq h; exact hq _ _ _ h
theorem bg2 {pt:PT}{ct:CT}(hT:TOK P E pt ct):∀ (ic:IC) (fr:Frm) (σ:Store) (Q:Exit->Frm->Store->Prop),wpT pt ct P E N n0 ic fr σ Q->wpI P E N n0 ic fr σ Q:=by
 intro ic
 induction ic with
 | skip=>intro fr σ Q h; exact h
 | reg id ops keep=>intro fr σ Q h; exact eh2 hT _ _ _ _ _ h
 | ap5 id ops B keep=>intro fr σ Q h; exact eh3 hT _ 0 _ _ _ h
 | go5 id ops keep=>intro fr σ Q h; exact h
 | seq x y ihx ihy=>
  intro fr σ Q h;have h1:=ihx _ _ _ (show wpT pt ct P E N n0 x fr σ _ from h);refine by9 x fr σ _ (fun e fr' σ'=>match e with|.normal=>wpI P E N n0 y fr' σ' Q|e=>Q e fr' σ') ?_ h1;intro e f s k
  cases e with
  | normal=>exact ihy _ _ _ k
  | _=>exact k
 | cond x a b iha ihb=>
  intro fr σ Q h;obtain ⟨t,ht,h⟩:=fc8 h;refine ⟨t,ht,?_⟩
  cases t with
  | true=>exact iha _ _ _ h
  | false=>exact ihb _ _ _ h
 | block id x ih=>intro fr σ Q h; exact ih _ _ _ h
 | scope x ih=>intro fr σ Q h; exact ih _ _ _ h
 | loop x ih=>intro fr σ Q h; exact h
 | exit id=>intro fr σ Q h; exact h
 | ret=>intro fr σ Q h; exact h
 | bt6 g ps y x ihy ih=>intro fr σ Q h; exact h
def fz4 (irs:List IR)(Qc:IV->Store->Prop):Exit->Frm->Store->Prop
 | .normal,fr,σ|.ret,fr,σ=>bv1 (irL σ fr irs) fun vs=>Qc (fb7 vs) σ
 | _,_,_=>False
theorem db9 {irs:List IR}{Qc:IV->Store->Prop}{e:Exit}(h:fz4 irs Qc e fr σ):jh5 irs Qc e fr σ:=by
 cases e<;>first|exact an3 h|exact h
theorem C_T {pt:PT}{ct:CT}(hT:TOK P E pt ct){f:Nat}{an:Ann}{ic:IC}{irs:List IR}{args:List IV}{Qc:IV->Store->Prop}(hf:hj5 P f N pf an ic irs)(hl:args.length<=N)
  (h:wpT pt ct P E N σ.next ic (bi7 args 0) σ (fz4 irs Qc)):C P E f args σ Qc :=
 jl7 hf hl (by9 _ _ _ _ _ (fun _ _ _ k=>db9 k) (bg2 hT _ _ _ _ h))
theorem jl8 {pt:PT}{ct:CT}(hT:TOK P E pt ct){f:Nat}{an:Ann}{ic:IC}{irs:List IR}{args:List IV}{v:IV}(hf:hj5 P f N pf an ic irs)(hl:args.length<=N)
  (h:∀ σ,wpT pt ct P E N σ.next ic (bi7 args 0) σ (fz4 irs fun v' σ'=>v'=v/\σ'=σ)):PC P E f args v :=
 fun σ=>C_T hT hf hl (h σ)
theorem hj6 {pt:PT}{ct:CT}(hT:TOK P E pt ct){x:IC}{Q:Exit->Frm->Store->Prop}(I:Nat->Frm->Store->Prop)(m:Nat)(h:I m fr σ)(hI:∀ m fr σ,I m fr σ->wpT pt ct P E N n0 x fr σ (ef7 I m Q)):RI P E N n0 (.loop x) fr σ Q :=
 fu8 I m h fun m fr σ hi=>bg2 hT _ _ _ _ (hI m fr σ hi)
theorem nr {α:Sort u}{a b:α}(h:a=b):a=b:=h
def hz9 (o:Option IV)(σ:Store)(K:IV->Store->Prop):Prop:=bv1 o fun v=>K v σ
def ip6 (o:Option Store)(K:IV->Store->Prop):Prop:=bv1 o fun s=>K .undef s
def ip7 (o:Option (IV×Store))(K:IV->Store->Prop):Prop:=bv1 o fun r=>K r.1 r.2
def ij3 (v:IV)(σ:Store):IV->Store->Prop:=fun v' σ'=>v'=v/\σ'=σ
def jh6 (o:Option (List IV))(id n esz:Nat)(σ:Store)(K:IV->Store->Prop):Prop:=bv1 o fun out=>K (.slice id 0 n esz) (σ.put id (.row out))
def fz5 (ct:CT)(P:Program)(E:Nat->IV)(x:IV)(args:List IV)(σ:Store)(K:IV->Store->Prop):Prop:=match x with
 | .func (.func f) first cap=>ct7 P E (ct f (first++args++cap) σ) f (first++args++cap) σ K
 | .yield i=>∃ Q,CV P E (.yield i) args σ Q/\∀ v σ',Q v σ'->σ.next<=σ'.next/\K v σ'
 | _=>False
def gs5 (pt:PT)(ct:CT)(P:Program)(E:Nat->IV)(rest:List ae6)(id:Nat)(d:Option Nat)(fr:Frm)(K:Frm->Store->Prop):IV->Store->Prop:=fun v σ'=>by8 pt ct P E rest id (fr.an9 d v) σ' K
def eh4 (pt:PT)(ct:CT)(P:Program)(E:Nat->IV)(B:Bool)(rest:List ae6)(id:Nat)(d:Option Nat)(fr:Frm)(K:Frm->Store->Prop):IV->Store->Prop:=fun v σ'=>bn2 pt ct P E B rest id (fr.an9 d v) σ' K
def gs6 (ks:List Nat)(Q:Exit->Frm->Store->Prop):Frm->Store->Prop:=fun fr σ=>Q .normal (fr.keep ks) σ
def ij4 (pt:PT)(ct:CT)(P:Program)(E:Nat->IV)(v:IV)(want:Bool)(op:IK)(id:Nat)(fr:Frm)(σ:Store)(K:IV->Store->Prop):Prop:=gl7 v want (opT pt ct P E op id fr σ K) (K skV σ)
def fq2 (pt:PT)(ct:CT)(P:Program)(E:Nat->IV)(B:Bool)(v:IV)(want:Bool)(op:IK)(id:Nat)(fr:Frm)(σ:Store)(K:IV->Store->Prop):Prop:=gl7 v want ((B=true->bw8 E fr σ op)/\opT pt ct P E op id fr σ K) (K skV σ)
def ia1 (pt:PT)(ct:CT)(P:Program)(E:Nat->IV)(N n0:Nat)(v:IV)(a b:IC)(fr:Frm)(σ:Store)(Q:Exit->Frm->Store->Prop):Prop:=hz8 v fun t=>if t=true then wpT pt ct P E N n0 a fr σ Q else wpT pt ct P E N n0 b fr σ Q
def iy4 (pt:PT)(ct:CT)(P:Program)(E:Nat->IV)(N n0:Nat)(b:IC)(Q:Exit->Frm->Store->Prop):Exit->Frm->Store->Prop:=fun e fr' σ'=>match e with
 | .normal=>wpT pt ct P E N n0 b fr' σ' Q
 | e=>Q e fr' σ'
variable {pt:PT} {ct:CT} {id want:Nat} {K:IV->Store->Prop} {Kf:Frm->Store->Prop} {Q:Exit->Frm->Store->Prop} {v:IV} {c:Prop} [Decidable c]
theorem dc1 {α:Type}(v:α)(K:α->Prop):bv1 (some v) K=K v:=nr rfl
theorem dc2 (v:IV):hz9 (some v) σ K=K v σ:=nr rfl
theorem ce2 (v:IV):hz9 (if c then some v else none) σ K=(c/\K v σ):=by by_cases h:c<;>simp[h,hz9,bv1]
theorem bp8 (v:IV):hz9 (if c then none else some v) σ K=(¬ c/\K v σ):=by by_cases h:c<;>simp[h,hz9,bv1]
theorem dc3:ip6 (some σ) K=K .undef σ:=nr rfl
theorem ce3:ip6 (if c then some σ else none) K=(c/\K .undef σ):=by by_cases h:c<;>simp[h,ip6,bv1]
theorem dc4 (v:IV):ip7 (some (v,σ)) K=K v σ:=nr rfl
theorem ce4 (v:IV):ip7 (if c then some (v,σ) else none) K=(c/\K v σ):=by by_cases h:c<;>simp[h,ip7,bv1]
theorem fc9 {f:Nat}{args:List IV}(v:IV):ct7 P E (some (ij3 v σ')) f args σ K=(σ.next<=σ'.next/\K v σ'):=propext ⟨fun h=>h v σ' ⟨rfl,rfl⟩,fun h v' s' ⟨e1,e2⟩=>by subst e1; subst e2; exact h⟩
theorem ij5 {f:Nat}{args:List IV}(v:IV):gs4 P E (some v) f args σ K=K v σ:=nr rfl
theorem aa2 {f:Nat}{args:List IV}{v:IV}(h:PC P E f args v)(hk:K v σ):gs4 P E none f args σ K:=⟨v,h,hk⟩
theorem ao1 {f:Nat}{args:List IV}{Qc:IV->Store->Prop}(ho:okF P f=true)(h:C P E f args σ Qc)(hk:∀ v s,Qc v s->σ.next<=s.next/\K v s):ct7 P E none f args σ K:=⟨Qc,⟨ho,h⟩,hk⟩
theorem dc5 {n esz:Nat}(out:List IV):jh6 (some out) id n esz σ K=K (.slice id 0 n esz) (σ.put id (.row out)):=nr rfl
theorem ce5 (f:Nat)(first cap args:List IV):fz5 ct P E (.func (.func f) first cap) args σ K=ct7 P E (ct f (first++args++cap) σ) f (first++args++cap) σ K:=nr rfl
theorem dc6 {rest:List ae6}{d:Nat}(v:IV):gs5 pt ct P E rest id (some d) fr Kf v σ=by8 pt ct P E rest id ((d,v)::fr) σ Kf:=nr rfl
theorem ce6 {rest:List ae6}(v:IV):gs5 pt ct P E rest id none fr Kf v σ=by8 pt ct P E rest id fr σ Kf:=nr rfl
theorem ce7 {B:Bool}{rest:List ae6}{d:Nat}(v:IV):eh4 pt ct P E B rest id (some d) fr Kf v σ=bn2 pt ct P E B rest id ((d,v)::fr) σ Kf:=nr rfl
theorem bp9 {B:Bool}{rest:List ae6}(v:IV):eh4 pt ct P E B rest id none fr Kf v σ=bn2 pt ct P E B rest id fr σ Kf:=nr rfl
theorem dc7 {ks:List Nat}:gs6 ks Q fr σ=Q .normal (fr.keep ks) σ:=nr rfl
theorem w_q {q:IQ}:opT pt ct P E (.q q) id fr σ K=hz9 (evq E fr σ q) σ K:=nr rfl
theorem ce8 {z:List IV}:opT pt ct P E (.alloc z) id fr σ K=K (.ptr id 0) (σ.put id (.cells z)):=nr rfl
theorem fd2 {x:IX}:opT pt ct P E (.box x) id fr σ K=((x.ev E fr).cs.all IV.leaf=true/\K (.ptr id 0) (σ.put id (.cells (x.ev E fr).cs))):=nr rfl
theorem fd3 {esz n:Nat}{z:List IV}{ps:List (Nat×Nat×IX)}:opT pt ct P E (.bsl esz n z ps) id fr σ K=jh6 (aw7 (rep z n) (ps.map fun p=>(p.1,p.2.1,p.2.2.ev E fr))) id n esz σ K:=nr rfl
theorem ce9 {sz:Nat}{x y:IX}:opT pt ct P E (.store sz x y) id fr σ K=ip6 (ap8 σ sz (x.ev E fr) (y.ev E fr)) K:=nr rfl
def jh7 (v:IV)(id:Nat)(σ:Store)(K:IV->Store->Prop):Prop:=match v with
 | .str s=>K (.ptr id 0) (σ.put id (.be7 s 0))
 | _=>False
theorem dc8 {s:List UInt8}:jh7 (.str s) id σ K=K (.ptr id 0) (σ.put id (.be7 s 0)):=nr rfl
theorem bq1 {x:IX}:opT pt ct P E (.bk3 x) id fr σ K=jh7 (x.ev E fr) id σ K:=nr rfl
theorem cf1 {x:IX}:opT pt ct P E (.ct4 x) id fr σ K=ip7 (bl9 σ (x.ev E fr)) K:=nr rfl
theorem cf2:opT pt ct P E .bm9 id fr σ K=K (.map id) (σ.put id (.map [])):=nr rfl
theorem dc9 {tag:Nat}{x k y:IX}:opT pt ct P E (.db4 tag x k y) id fr σ K=ip6 (as9 σ tag (x.ev E fr) (k.ev E fr) (y.ev E fr)) K:=nr rfl
theorem fd4 {esz:Nat}{s x:IX}:opT pt ct P E (.app esz s x) id fr σ K=ip7 (bh9 σ id esz (s.ev E fr) (x.ev E fr)) K:=nr rfl
theorem dd2 {f:Nat}{args:List IX}:opT pt ct P E (.call f args) id fr σ K=ct7 P E (ct f (args.map (·.ev E fr)) σ) f (args.map (·.ev E fr)) σ K:=nr rfl
theorem cf3 {f:Nat}{args:List IX}:opT pt ct P E (.af4 f args) id fr σ K=gs4 P E (pt f (args.map (·.ev E fr))) f (args.map (·.ev E fr)) σ K:=nr rfl
theorem bq2 {x:IX}{args:List IX}:opT pt ct P E (.ao5 x args) id fr σ K=fz5 ct P E (x.ev E fr) (args.map (·.ev E fr)) σ K:=nr rfl
theorem fd5:by8 pt ct P E [] id fr σ Kf=Kf fr σ:=nr rfl
theorem dd3 {d:Option Nat}{op:IK}{rest:List ae6}:by8 pt ct P E (⟨d,none,op⟩::rest) id fr σ Kf=opT pt ct P E op id fr σ (gs5 pt ct P E rest (if op.lays then id+1 else id) d fr Kf):=nr rfl
theorem fd6 {d:Option Nat}{op:IK}{rest:List ae6}{s:Nat}{want:Bool}:by8 pt ct P E (⟨d,some (s,want),op⟩::rest) id fr σ Kf=ij4 pt ct P E (fr.get s) want op id fr σ (gs5 pt ct P E rest (if op.lays then id+1 else id) d fr Kf):=nr rfl
theorem dd4 {B:Bool}:bn2 pt ct P E B [] id fr σ Kf=Kf fr σ:=nr rfl
theorem cf4 {d:Option Nat}{op:IK}{rest:List ae6}:bn2 pt ct P E false (⟨d,none,op⟩::rest) id fr σ Kf=opT pt ct P E op id fr σ (eh4 pt ct P E false rest (id+1) d fr Kf):=by
 have:bn2 pt ct P E false (⟨d,none,op⟩::rest) id fr σ Kf=((false=true->bw8 E fr σ op)/\opT pt ct P E op id fr σ (eh4 pt ct P E false rest (id+1) d fr Kf)):=nr rfl;rw[this]; simp
theorem cf5 {d:Option Nat}{op:IK}{rest:List ae6}:bn2 pt ct P E true (⟨d,none,op⟩::rest) id fr σ Kf=(bw8 E fr σ op/\opT pt ct P E op id fr σ (eh4 pt ct P E true rest (id+1) d fr Kf)):=by
 have:bn2 pt ct P E true (⟨d,none,op⟩::rest) id fr σ Kf=((true=true->bw8 E fr σ op)/\opT pt ct P E op id fr σ (eh4 pt ct P E true rest (id+1) d fr Kf)):=nr rfl;rw[this]; simp
theorem dd5 {B:Bool}{d:Option Nat}{op:IK}{rest:List ae6}{s:Nat}{want:Bool}:bn2 pt ct P E B (⟨d,some (s,want),op⟩::rest) id fr σ Kf=fq2 pt ct P E B (fr.get s) want op id fr σ (eh4 pt ct P E B rest (id+1) d fr Kf):=nr rfl
theorem fd7 {op:IK}:ij4 pt ct P E (.bool true) true op id fr σ K=opT pt ct P E op id fr σ K:=nr rfl
theorem fd8 {op:IK}:ij4 pt ct P E (.bool false) false op id fr σ K=opT pt ct P E op id fr σ K:=nr rfl
theorem fd9 {op:IK}:ij4 pt ct P E (.bool true) false op id fr σ K=K skV σ:=nr rfl
theorem fe1 {op:IK}:ij4 pt ct P E (.bool false) true op id fr σ K=K skV σ:=nr rfl
theorem fe2 {op:IK}:fq2 pt ct P E false (.bool true) true op id fr σ K=opT pt ct P E op id fr σ K:=by simp[fq2,gl7,gq8]
theorem fe3 {op:IK}:fq2 pt ct P E false (.bool false) false op id fr σ K=opT pt ct P E op id fr σ K:=by simp[fq2,gl7,gq8]
theorem fe4 {B:Bool}{op:IK}:fq2 pt ct P E B (.bool true) false op id fr σ K=K skV σ:=nr rfl
theorem fe5 {B:Bool}{op:IK}:fq2 pt ct P E B (.bool false) true op id fr σ K=K skV σ:=nr rfl
theorem fe6 {op:IK}:fq2 pt ct P E true (.bool true) true op id fr σ K=(bw8 E fr σ op/\opT pt ct P E op id fr σ K):=by simp[fq2,gl7,gq8]
theorem fe7 {op:IK}:fq2 pt ct P E true (.bool false) false op id fr σ K=(bw8 E fr σ op/\opT pt ct P E op id fr σ K):=by simp[fq2,gl7,gq8]
theorem ij6 {op:IK}{want:Bool}:ij4 pt ct P E skV want op id fr σ K=K skV σ:=nr rfl
theorem ij7 {B want:Bool}{op:IK}:fq2 pt ct P E B skV want op id fr σ K=K skV σ:=nr rfl
theorem dd6:wpT pt ct P E N n0 .skip fr σ Q=Q .normal fr σ:=nr rfl
theorem fe8 {i:Nat}{ops:List ae6}{ks:List Nat}:wpT pt ct P E N n0 (.reg i ops ks) fr σ Q=by8 pt ct P E ops σ.next fr ⟨σ.next+by4 ops,σ.obj⟩ (gs6 ks Q):=nr rfl
theorem dd7 {i:Nat}{ops:List ae6}{B:Bool}{ks:List Nat}:wpT pt ct P E N n0 (.ap5 i ops B ks) fr σ Q=bn2 pt ct P E B ops σ.next fr ⟨σ.next+ops.length,σ.obj⟩ (gs6 ks Q):=nr rfl
theorem fe9 {x y:IC}:wpT pt ct P E N n0 (.seq x y) fr σ Q=wpT pt ct P E N n0 x fr σ (iy4 pt ct P E N n0 y Q):=nr rfl
theorem dd8 {i:IX}{x y:IC}:wpT pt ct P E N n0 (.cond i x y) fr σ Q=ia1 pt ct P E N n0 (i.ev E fr) x y fr σ Q:=nr rfl
theorem cf6 {i:Nat}{x:IC}:wpT pt ct P E N n0 (.block i x) fr σ Q=wpT pt ct P E N n0 x fr σ (bt9 i Q):=nr rfl
theorem dd9 {x:IC}:wpT pt ct P E N n0 (.loop x) fr σ Q=RI P E N n0 (.loop x) fr σ Q:=nr rfl
theorem cf7 {g:IX}{ps:List Nat}{x y:IC}:wpT pt ct P E N n0 (.bt6 g ps y x) fr σ Q=RI P E N n0 (.bt6 g ps y x) fr σ Q:=nr rfl
def fz6 (v:IV)(id:Nat)(σ:Store)(K:IV->Store->Prop):Prop:=match v with
 | .al6 es=>K (.ptr id 0) (σ.put id (.ar6 es none))
 | _=>False
def hj7 (o:Option (Nat×List (IV×IV)))(σ:Store)(K:IV->Store->Prop):Prop:=bv1 o fun r=>(r.2=[]->K (.tuple [.bool false]) σ) /\
   ∀ j,j<r.2.length->K (.tuple [.bool true,(r.2.getD j (.undef,.undef)).1,(r.2.getD j (.undef,.undef)).2]) (σ.put r.1 (.ar6 (r.2.eraseIdx j) (some (r.2.getD j (.undef,.undef)))))
theorem bq3 {x:IX}:opT pt ct P E (.bc9 x) id fr σ K=fz6 (x.ev E fr) id σ K:=nr rfl
theorem bg3 {es:List (IV×IV)}:fz6 (.al6 es) id σ K=K (.ptr id 0) (σ.put id (.ar6 es none)):=nr rfl
theorem cf8 {x:IX}:opT pt ct P E (.ce1 x) id fr σ K=hj7 (bm1 σ (x.ev E fr)) σ K:=nr rfl
theorem bq4 {i:Nat}{l:List (IV×IV)}:hj7 (some (i,l)) σ K=((l=[]->K (.tuple [.bool false]) σ) /\
   ∀ j,j<l.length->K (.tuple [.bool true,(l.getD j (.undef,.undef)).1,(l.getD j (.undef,.undef)).2]) (σ.put i (.ar6 (l.eraseIdx j) (some (l.getD j (.undef,.undef)))))):=nr rfl
theorem de1 {x:IX}:opT pt ct P E (.fc3 x) id fr σ K=hz9 (co1 σ (x.ev E fr)) σ K:=nr rfl
theorem de2 {x:IX}:opT pt ct P E (.ag5 x) id fr σ K=((x.ev E fr).cs.all IV.leaf=true/\K (.ac2 (x.ev E fr).cs) σ):=nr rfl
def ip8 (o:Option (List IV))(esz n:Nat)(σ:Store)(K:IV->Store->Prop):Prop:=bv1 o fun out=>K (.aa5 (chunk esz n out)) σ
theorem de3 {esz n:Nat}{z:List IV}{ps:List (Nat×Nat×IX)}:opT pt ct P E (.av2 esz n z ps) id fr σ K=ip8 (aw7 (rep z n) (ps.map fun p=>(p.1,p.2.1,p.2.2.ev E fr))) esz n σ K:=nr rfl
theorem cf9 {esz n:Nat}{out:List IV}:ip8 (some out) esz n σ K=K (.aa5 (chunk esz n out)) σ:=nr rfl
theorem de4 {i:Nat}:wpT pt ct P E N n0 (.exit i) fr σ Q=Q (.exit i) fr σ:=nr rfl
theorem ff1:wpT pt ct P E N n0 .ret fr σ Q=Q .ret fr σ:=nr rfl
theorem ij8 {x y:IC}:ia1 pt ct P E N n0 (.bool true) x y fr σ Q=wpT pt ct P E N n0 x fr σ Q:=nr rfl
theorem ij9 {x y:IC}:ia1 pt ct P E N n0 (.bool false) x y fr σ Q=wpT pt ct P E N n0 y fr σ Q:=nr rfl
theorem ff2 {y:IC}:iy4 pt ct P E N n0 y Q .normal fr σ=wpT pt ct P E N n0 y fr σ Q:=nr rfl
theorem ff3 {y:IC}{i:Nat}:iy4 pt ct P E N n0 y Q (.exit i) fr σ=Q (.exit i) fr σ:=nr rfl
theorem ff4 {y:IC}:iy4 pt ct P E N n0 y Q .ret fr σ=Q .ret fr σ:=nr rfl
theorem ff5 {i:Nat}:bt9 i Q .normal fr σ=Q .normal fr σ:=nr rfl
theorem ff6 {i:Nat}:bt9 i Q .ret fr σ=Q .ret fr σ:=nr rfl
theorem ff7 {i j:Nat}:bt9 i Q (.exit j) fr σ=if j=i then Q .normal fr σ else Q (.exit j) fr σ:=nr rfl
theorem ff8 {I:Nat->Frm->Store->Prop}{m:Nat}:ef7 I m Q .normal fr σ=∃ m',m'<m/\I m' fr σ:=nr rfl
theorem ff9 {I:Nat->Frm->Store->Prop}{m i:Nat}:ef7 I m Q (.exit i) fr σ=Q (.exit i) fr σ:=nr rfl
theorem fg1 {I:Nat->Frm->Store->Prop}{m:Nat}:ef7 I m Q .ret fr σ=Q .ret fr σ:=nr rfl
theorem fg2 {irs:List IR}{Qc:IV->Store->Prop}:fz4 irs Qc .ret fr σ=bv1 (irL σ fr irs) fun vs=>Qc (fb7 vs) σ:=nr rfl
theorem de5 {irs:List IR}{Qc:IV->Store->Prop}:fz4 irs Qc .normal fr σ=bv1 (irL σ fr irs) fun vs=>Qc (fb7 vs) σ:=nr rfl
end Go.Id
/- What the walk of a compiled code is rewritten by: the operations. Conditions: none; over any program. -/
namespace Go.Id
open Go
variable {P:Program} {E:Nat->IV} {σ σ':Store} {fr:Frm} {x y z:IX} {k k':IntKind} {a b:Int} {s t:List UInt8} {n m off esz len:Nat} {v u:IV}
theorem ab5 {i:Nat}{o:ak4}:(σ.put i o).next=σ.next:=nr rfl
theorem aa7 {i j:Nat}{o:ak4}:(σ.put i o).obj j=if j=i then some o else σ.obj j:=nr rfl
theorem e_t:(IX.t n).ev E fr=fr.get n:=nr rfl
theorem e_c:(IX.c v).ev E fr=v:=nr rfl
theorem e_g:(IX.g n).ev E fr=E n:=nr rfl
theorem e_f:(IX.f n).ev E fr=.func (.func n) [] []:=nr rfl
theorem fg3:evq E fr σ (.mov x)=some (x.ev E fr):=nr rfl
theorem de6:evq E fr σ (.pick x y z)=ba9 (x.ev E fr) (y.ev E fr) (z.ev E fr):=nr rfl
theorem fg5:evq E fr σ (.not x)=ik7 (x.ev E fr):=nr rfl
theorem fg6:evq E fr σ (.neg x)=ik8 (x.ev E fr):=nr rfl
theorem fg7 {op:BinOp}:evq E fr σ (.bin op x y)=az6 op (x.ev E fr) (y.ev E fr):=nr rfl
theorem aj6 {d:TypeDesc}{g:Bool}:evq E fr σ (.ar7 d g x)=(bx3 d (x.ev E fr)).map fun b=>.bool (b ^^ g):=nr rfl
theorem fg8 {tags:List Nat}{g h:Bool}:evq E fr σ (.eqs tags g h x y)=hf8 tags g h (x.ev E fr) (y.ev E fr):=nr rfl
theorem de7:evq E fr σ (.conv k x)=fs1 k (x.ev E fr):=nr rfl
theorem cg1:evq E fr σ (.gn5 x)=du9 (x.ev E fr):=nr rfl
theorem fg9:evq E fr σ (.len n x)=cm5 n σ (x.ev E fr):=nr rfl
theorem cg2:evq E fr σ (.aa6 off x)=cn9 off (x.ev E fr):=nr rfl
theorem fh1 {ag:Option Nat}:evq E fr σ (.fld ag off x)=ii7 ag off (x.ev E fr):=nr rfl
theorem cg3:evq E fr σ (.ac4 esz x y)=au1 esz (x.ev E fr) (y.ev E fr):=nr rfl
theorem cg5:evq E fr σ (.cz1 n esz x y)=da3 n esz (x.ev E fr) (y.ev E fr):=nr rfl
theorem fh2 {ag:Option Nat}:evq E fr σ (.idx ag n esz x y)=hq5 ag n esz (x.ev E fr) (y.ev E fr):=nr rfl
theorem de8:evq E fr σ (.eo9 x y)=du3 (x.ev E fr) (y.ev E fr):=nr rfl
theorem fh3 {lo hi:Option IX}:evq E fr σ (.slc esz x lo hi)=du2 esz (lo.map (·.ev E fr)) (hi.map (·.ev E fr)) (x.ev E fr):=nr rfl
theorem de9 {lo hi:Option IX}:evq E fr σ (.hf9 x lo hi)=cy6 (lo.map (·.ev E fr)) (hi.map (·.ev E fr)) (x.ev E fr):=nr rfl
theorem fh4:evq E fr σ (.slz x)=gl5 (x.ev E fr):=nr rfl
theorem fh5:evq E fr σ (.ext n x)=hq6 n (x.ev E fr):=nr rfl
theorem fh6 {fs cs:List IX}:evq E fr σ (.mkf n fs cs)=some (.func (.func n) (fs.map (·.ev E fr)) (cs.map (·.ev E fr))):=nr rfl
theorem fh7 {zs:List IV}{ps:List (Nat×Nat×IX)}:evq E fr σ (.bld zs ps)=(aw7 zs (ps.map fun p=>(p.1,p.2.1,p.2.2.ev E fr))).map .agg:=nr rfl
theorem df1 {ag:Option Nat}:evq E fr σ (.load ag x)=ax9 σ ag (x.ev E fr):=nr rfl
theorem df2:evq E fr σ (.ak7 x)=dv1 (x.ev E fr):=nr rfl
theorem hj8 {mx:Bool}:evq E fr σ (.mm mx x y)=mmI mx (x.ev E fr) (y.ev E fr):=nr rfl
theorem dy1:mmI true (.int k a) (.int k' b)=some (.int k (if b>a then b else a)):=by simp[mmI]
theorem eh5:mmI false (.int k a) (.int k' b)=some (.int k (if b<a then b else a)):=by simp[mmI]
theorem eh6 {zero:IV}{ok:Bool}:evq E fr σ (.lkp n zero ok x y)=cr3 σ n zero ok (x.ev E fr) (y.ev E fr):=nr rfl
theorem cg6:Frm.keep fr []=[]:=nr rfl
theorem cg7 {ks:List Nat}:Frm.keep fr (n::ks)=(n,fr.get n)::Frm.keep fr ks:=nr rfl
theorem df3:bi7 [] n=[]:=nr rfl
theorem df4 {vs:List IV}:bi7 (v::vs) n=(n,v)::bi7 vs (n+1):=nr rfl
theorem cg8:by4 []=0:=nr rfl
theorem cg9 {d:Option Nat}{g:Option (Nat×Bool)}{op:IK}{os:List ae6}:by4 (⟨d,g,op⟩::os)=(if op.lays=true then 1 else 0)+by4 os:=nr (cd9 _ _)
theorem ik1 {q:IQ}:(IK.q q).lays=false:=nr rfl
theorem bq5 {zs:List IV}:(IK.alloc zs).lays=true:=nr rfl
theorem df5:(IK.box x).lays=true:=nr rfl
theorem df6 {zs:List IV}{ps:List (Nat×Nat×IX)}:(IK.bsl esz n zs ps).lays=true:=nr rfl
theorem df7:(IK.app esz x y).lays=true:=nr rfl
theorem bq6:IK.bm9.lays=true:=nr rfl
theorem ch1:(IK.db4 n x y z).lays=false:=nr rfl
theorem bg4:(IK.bk3 x).lays=true:=nr rfl
theorem bq7:(IK.ct4 x).lays=false:=nr rfl
theorem bg5:(IK.bc9 x).lays=true:=nr rfl
theorem ch2 {zs:List IV}:(IK.db5 esz zs x).lays=true:=nr rfl
theorem df8 {zs:List IV}:(IK.clr esz zs x).lays=false:=nr rfl
theorem ch3:(IK.fc3 x).lays=false:=nr rfl
theorem bq8:(IK.ce1 x).lays=false:=nr rfl
theorem ch4:(IK.ag5 x).lays=false:=nr rfl
theorem ch5 {zs:List IV}{ps:List (Nat×Nat×IX)}:(IK.av2 esz n zs ps).lays=false:=nr rfl
theorem je6:evq E fr σ (.ibs x y)=ik9 (x.ev E fr) (y.ev E fr):=nr rfl
theorem ip9:ik9 (.str s) (.int .u8 a)=if 0<=a/\a<256 then some (.int .i64 (ed5 a.toNat s 0)) else none:=nr rfl
theorem bq9:(IK.store n x y).lays=false:=nr rfl
theorem ch6 {xs:List IX}:(IK.call n xs).lays=false:=nr rfl
theorem br1 {xs:List IX}:(IK.af4 n xs).lays=false:=nr rfl
theorem br2 {xs:List IX}:(IK.ao5 x xs).lays=false:=nr rfl
theorem df9 {α β:Type}{f:α->β}:List.map f []=[]:=nr rfl
theorem dg1 {α β:Type}{f:α->β}{c:α}{cs:List α}:List.map f (c::cs)=f c::List.map f cs:=nr rfl
theorem eh7 {α β:Type}{f:α->β}:Option.map f none=none:=nr rfl
theorem eh8 {α β:Type}{f:α->β}{c:α}:Option.map f (some c)=some (f c):=nr rfl
theorem ch7:ba9 (.bool true) v u=some v:=nr rfl
theorem ch8:ba9 (.bool false) v u=some u:=nr rfl
theorem ch9 {c d:Bool}:ba9 (.bool c) (.bool true) (.bool d)=some (.bool (c||d)):=by cases c<;>rfl
theorem ci1 {c d:Bool}:ba9 (.bool c) (.bool d) (.bool false)=some (.bool (c&&d)):=by cases c<;>rfl
theorem dg2 {c:Bool}:ik7 (.bool c)=some (.bool !c):=nr rfl
theorem dg3:ik8 (.int k a)=some (.int k (k.wrap (0-a))):=nr rfl
theorem ci2:fs1 k (.int k' a)=some (.int k (k.wrap a)):=nr rfl
theorem br3:du9 (.str s)=some (.str s):=nr rfl
theorem fh8:az6 .add (.int k a) (.int k b)=some (.int k (k.wrap (a+b))):=by simp[az6,ed8]
theorem fh9:az6 .sub (.int k a) (.int k b)=some (.int k (k.wrap (a-b))):=by simp[az6,ed8]
theorem fi1:az6 .mul (.int k a) (.int k b)=some (.int k (k.wrap (a*b))):=by simp[az6,ed8]
theorem fi2:az6 .quo (.int k a) (.int k b)=if b=0 then none else some (.int k (k.wrap (a.tdiv b))):=by simp[az6,ed8]
theorem fi3:az6 .rem (.int k a) (.int k b)=if b=0 then none else some (.int k (a.tmod b)):=by simp[az6,ed8]
theorem fi4:az6 .eql (.int k a) (.int k b)=some (.bool (decide (a=b))):=by simp[az6,ed8]
theorem fi5:az6 .neq (.int k a) (.int k b)=some (.bool (!decide (a=b))):=by simp[az6,ed8]
theorem fi6:az6 .lss (.int k a) (.int k b)=some (.bool (decide (a<b))):=by simp[az6,ed8]
theorem fi7:az6 .leq (.int k a) (.int k b)=some (.bool (decide (a<=b))):=by simp[az6,ed8]
theorem fi8:az6 .gtr (.int k a) (.int k b)=some (.bool (decide (b<a))):=by simp[az6,ed8]
theorem fi9:az6 .geq (.int k a) (.int k b)=some (.bool (decide (b<=a))):=by simp[az6,ed8]
theorem fj1:az6 .shl (.int k a) (.int k' b)=if 0<=b then some (.int k (k.wrap (a*2^(min b.toNat k.bits)))) else none:=by simp[az6]
theorem fj3:az6 .shr (.int k a) (.int k' b)=if 0<=b then some (.int k (a.fdiv (2^(min b.toNat k.bits)))) else none:=by simp[az6]
theorem dg4:az6 .add (.str s) (.str t)=if s.length+t.length<2^62 then some (.str (s++t)) else none:=by simp[az6,gm1]
theorem dg5:az6 .eql (.str s) (.str t)=some (.bool (decide (s=t))):=by simp[az6,gm1]
theorem dg6:az6 .neq (.str s) (.str t)=some (.bool (!decide (s=t))):=by simp[az6,gm1]
theorem dg7:az6 .lss (.str s) (.str t)=some (.bool (Op.bytesLess s t)):=by simp[az6,gm1]
theorem dg8:az6 .leq (.str s) (.str t)=some (.bool (Op.bytesLess s t||decide (s=t))):=by simp[az6,gm1]
theorem dg9:az6 .gtr (.str s) (.str t)=some (.bool (!(Op.bytesLess s t||decide (s=t)))):=by simp[az6,gm1]
theorem dh1:az6 .geq (.str s) (.str t)=some (.bool (!Op.bytesLess s t)):=by simp[az6,gm1]
theorem dh2 {es:List (List IV)}:cm5 0 σ (.aa5 es)=some (.int .i64 es.length):=nr rfl
theorem dh3:cm5 0 σ .aa1=some (.int .i64 0):=nr rfl
theorem dh4:cm5 0 σ .ac8=some (.int .i64 0):=nr rfl
theorem iq1:cm5 0 σ .af5=some (.int .i64 0):=nr rfl
theorem bk4:cm5 0 σ (.slice n off len esz)=some (.int .i64 len):=nr rfl
theorem bi8:cm5 1 σ (.str s)=some (.int .i64 s.length):=nr rfl
theorem ci3:dv1 (.ptr n off)=some (.ptr n off):=nr rfl
theorem ci4 {cs:List IV}:dv1 (.ac2 cs)=some (.ac2 cs):=nr rfl
theorem ci5 {f:FuncId}{p q:List IV}:dv1 (.func (.func f) p q)=some (.func (.func f) p q):=nr rfl
theorem dh5:gl5 .aa1=some .aa1:=nr rfl
theorem dh6:gl5 .ac8=some .ac8:=nr rfl
theorem iq2:gl5 .af5=some .ac8:=nr rfl
theorem dh7 {es:List (List IV)}:gl5 (.aa5 es)=if es=[] then some (.aa5 []) else some .ac8:=nr rfl
theorem dh8:gl5 (.slice n off len esz)=some .ac8:=nr rfl
theorem fj4:irL σ fr []=some []:=nr rfl
theorem fj5:irL σ fr [.t n]=some [fr.get n]:=nr rfl
theorem dh9:irL σ fr [.t n,.t m]=some [fr.get n,fr.get m]:=nr rfl
theorem fj6 {ag:Option Nat}:irL σ fr [.cell ag n]=(ax9 σ ag (fr.get n)).map fun v=>[v]:=by
 simp only[irL,irV]; cases ax9 σ ag (fr.get n)<;>rfl
theorem ci6:fb7 [v]=v:=nr rfl
theorem ci7:fb7 [v,u]=.tuple [v,u]:=nr rfl
theorem ci8:fb7 []=.tuple []:=nr rfl
def do7 (ag:Option Nat)(off:Nat):Option ak4->Option IV
 | some (.cells cs)|some (.row cs)=>match ag with
  | none=>(cs.drop off).head?
  | some n=>if n<=(cs.drop off).length then some (.agg ((cs.drop off).take n)) else none
 | _=>none
theorem ci9 {ag:Option Nat}:ax9 σ ag (.ptr n off)=do7 ag off (σ.obj n):=by
 cases h:σ.obj n with
 | none=>simp[ax9,ap7,do7,h]
 | some o=>cases o<;>cases ag<;>simp[ax9,ap7,do7,h]
theorem cj1 {cs:List IV}:ax9 σ none (.ac2 cs)=cs.head?:=nr rfl
theorem br4 {cs:List IV}:ax9 σ (some n) (.ac2 cs)=if n<=cs.length then some (.agg (cs.take n)) else none:=nr rfl
theorem bl4 {cs:List IV}:do7 none off (some (.cells cs))=(cs.drop off).head?:=nr rfl
theorem bz1 {cs:List IV}:do7 (some n) off (some (.cells cs))=if n<=(cs.drop off).length then some (.agg ((cs.drop off).take n)) else none:=nr rfl
theorem fj7 {cs:List IV}:do7 none off (some (.row cs))=(cs.drop off).head?:=nr rfl
theorem co4 {cs:List IV}:do7 (some n) off (some (.row cs))=if n<=(cs.drop off).length then some (.agg ((cs.drop off).take n)) else none:=nr rfl
def dy2 (σ:Store)(id off n:Nat)(vs:List IV):Option ak4->Option Store
 | some (.cells cs)=>if vs.length=n/\off+n<=cs.length/\vs.all IV.leaf=true then some (σ.put id (.cells (ba8 cs off vs))) else none
 | some (.row cs)=>if vs.length=n/\off+n<=cs.length/\vs.all IV.leaf=true then some (σ.put id (.row (ba8 cs off vs))) else none
 | _=>none
theorem br5:ap8 σ n (.ptr m off) v=dy2 σ m off n v.cs (σ.obj m):=by
 cases h:σ.obj m with
 | none=>simp[ap8,dy2,h]
 | some o=>cases o<;>simp[ap8,dy2,h]
theorem fj8 {cs vs:List IV}:dy2 σ m off n vs (some (.cells cs))=if vs.length=n/\off+n<=cs.length/\vs.all IV.leaf=true then some (σ.put m (.cells (ba8 cs off vs))) else none:=nr rfl
theorem co5 {cs vs:List IV}:dy2 σ m off n vs (some (.row cs))=if vs.length=n/\off+n<=cs.length/\vs.all IV.leaf=true then some (σ.put m (.row (ba8 cs off vs))) else none:=nr rfl
theorem br6 {es:List (List IV)}:au1 esz (.aa5 es) (.int k a)=if 0<=a/\a<es.length/\(es.getD a.toNat []).length=esz then some (.ac2 (es.getD a.toNat [])) else none:=nr rfl
theorem br7:au1 esz (.slice n off len m) (.int k a)=if 0<=a/\a<len/\m=esz then some (.ptr n (off+a.toNat*esz)) else none:=nr rfl
theorem cj3 {cs:List IV}:cn9 n (.ac2 cs)=some (.ac2 (cs.drop n)):=nr rfl
theorem cj4:cn9 n (.ptr m off)=some (.ptr m (off+n)):=nr rfl
theorem cj5 {cs:List IV}:IV.cs (.agg cs)=cs:=nr rfl
theorem cj6:IV.cs (.int k a)=[.int k a]:=nr rfl
theorem br8 {c:Bool}:IV.cs (.bool c)=[.bool c]:=nr rfl
theorem cj7:IV.cs (.str s)=[.str s]:=nr rfl
theorem cj8:IV.cs (.ptr n off)=[.ptr n off]:=nr rfl
theorem br9 {cs:List IV}:IV.cs (.ac2 cs)=[.ac2 cs]:=nr rfl
theorem bg6:IV.cs (.slice n off len esz)=[.slice n off len esz]:=nr rfl
theorem ba5 {es:List (List IV)}:IV.cs (.aa5 es)=[.aa5 es]:=nr rfl
theorem bs1 {f:Fn}{p q:List IV}:IV.cs (.func f p q)=[.func f p q]:=nr rfl
theorem cj9:IV.cs (.map n)=[.map n]:=nr rfl
theorem bs2 {es:List (IV×IV)}:IV.cs (.al6 es)=[.al6 es]:=nr rfl
theorem di1:IV.cs .aa1=[.aa1]:=nr rfl
theorem di2:IV.cs .ac8=[.ac8]:=nr rfl
theorem iq3:IV.cs .af5=[.af5]:=nr rfl
theorem di3:IV.cs .ab6=[.ab6]:=nr rfl
theorem ck3:IV.leaf (.int k a)=true:=nr rfl
theorem bs3 {c:Bool}:IV.leaf (.bool c)=true:=nr rfl
theorem ck4:IV.leaf (.str s)=true:=nr rfl
theorem ck5:IV.leaf (.ptr n off)=true:=nr rfl
theorem bs4 {cs:List IV}:IV.leaf (.ac2 cs)=true:=nr rfl
theorem bg7:IV.leaf (.slice n off len esz)=true:=nr rfl
theorem ba6 {es:List (List IV)}:IV.leaf (.aa5 es)=true:=nr rfl
theorem bs5 {f:Fn}{p q:List IV}:IV.leaf (.func f p q)=true:=nr rfl
theorem ck6:IV.leaf (.map n)=true:=nr rfl
theorem bs6 {es:List (IV×IV)}:IV.leaf (.al6 es)=true:=nr rfl
theorem di4:IV.leaf .aa1=true:=nr rfl
theorem di5:IV.leaf .ac8=true:=nr rfl
theorem iq4:IV.leaf .af5=true:=nr rfl
theorem di6:IV.leaf .ab6=true:=nr rfl
def er2 (σ:Store)(id:Nat):Option ak4->Option (IV×Store)
 | some (.be7 s pos)=>if pos<s.length then some (.tuple [.bool true,.int .i64 pos,.int .i32 (Utf8.decode ⟨s.toArray⟩ pos).1],σ.put id (.be7 s (pos+(Utf8.decode ⟨s.toArray⟩ pos).2))) else some (.tuple [.bool false],σ)
 | _=>none
theorem bn3:bl9 σ (.ptr n 0)=er2 σ n (σ.obj n):=by
 cases h:σ.obj n with
 | none=>simp[bl9,er2,h]
 | some o=>cases o<;>simp[bl9,er2,h]
theorem hj9 {pos:Nat}:er2 σ n (some (.be7 s pos))=if pos<s.length then some (.tuple [.bool true,.int .i64 pos,.int .i32 (Utf8.decode ⟨s.toArray⟩ pos).1],σ.put n (.be7 s (pos+(Utf8.decode ⟨s.toArray⟩ pos).2))) else some (.tuple [.bool false],σ):=nr rfl
theorem di7 {cs:List IV}:hq6 n (.tuple cs)=cs[n]?:=by cases h:cs[n]?<;>simp[hq6,h]
theorem fj9:(Store.mk σ.next σ.obj)=σ:=nr rfl
theorem wrap64 {x:Int}(h1:-9223372036854775808<=x)(h2:x<9223372036854775808):IntKind.i64.wrap x=x:=by
 simp[IntKind.wrap,IntKind.bits,IntKind.signed];omega
end Go.Id
/- Memory that is done with becomes a tree: from the contract of a function that lays blocks to a pure one. Conditions: none; over any program. -/
namespace Go.Id
open Go
variable {P:Program} {w w' w'':World} {ρ ρ' ρ'':Rho} {E:Nat->IV} {σ σ':Store} {N n n':Nat}
abbrev Bnd (n:Nat)(v:IV):Prop:=Nm (fun i=>i<n) v
abbrev ck7 (σ:Store)(n:Nat)(v v':IV):Prop:=Frz σ (fun i=>i<n) v v'
def Rho.cut (ρ:Rho)(n:Nat):Rho:=⟨fun i=>if i<n then ρ i else .no,ρ.X⟩
theorem hk6 (ρ:Rho)(n:Nat):cd3 (fun i=>i<n) ρ (ρ.cut n):=
 ⟨fun i h=>by show (if i<n then ρ i else du1.no)=_; rw[if_pos h],fun i h=>by show (if i<n then ρ i else du1.no)=_; rw[if_neg h],fun _ h=>.inl h⟩
theorem fk1 (hf:∀ i,n<=i->ρ i=.no):∀ i,ρ i≠.no->i<n:=fun i h=>by
 rcases Nat.lt_or_ge i n with h'|h'
 ·exact h'
 ·exact absurd (hf i h') h
theorem je7 {f:Nat}{args:List IV}{v:IV}
  (h:(∀ a∈args,Bnd σ.next a)->C P E f args σ fun v' σ'=>(∀ i,i<σ.next->σ'.obj i=σ.obj i)/\σ.next<=σ'.next/\ck7 σ' σ.next v' v):C P E f args σ (ij3 v σ):=by
 intro ρ w rargs hs ha;have hlv:=fk1 hs.fresh;have hba:∀ a∈args,Bnd σ.next a:=fun a hm=>let ⟨i,hi,he⟩:=ai9 (d:=.undef) hm; he▸(ha.2 i hi).nm hlv
 refine CallsIn.mono (h hba ρ w rargs hs ha) ?_;rintro e w' ⟨v',r,ρ',σ',rfl,⟨hob,hle,hfrz⟩,hs',hv',hx⟩;have hno:∀ i,σ.next<=i->σ.obj i=none:=fun i hi=>hs.av1 i (hs.fresh i hi)
 have hk:=hk6 ρ' σ.next;refine ⟨v,r,ρ'.cut σ.next,σ,rfl,⟨rfl,rfl⟩,hs'.ix7 hk hob (fun i hi=>hno i (by omega)) (fun i o _ ho=>hs.nmO hlv i o ho) (fun i hi=>hk.off i (by omega)) (fun g=>(hs.env g).nm hlv),hfrz.vr hk rfl hs' r hv',?_⟩;exact ⟨hx.size,hx.keep,hx.shape,fun i B d hi=>hx.img i B d (hk.at hi).2,fun i B d hi h=>by rw[hk.on i hi]; exact hx.at_ i B d hi h,fun i hi h=>by rw[hk.on i hi]; exact hx.dead i hi h,fun i hi h=>by rw[hk.on i hi]; exact hx.no i hi h,hx.output,hx.os,hx.tape,hx.loops,hx.X⟩
theorem eh9 {f:Nat}{args:List IV}{v:IV}(h:PC P E f args v):C P E f args σ (ij3 v σ):=h σ
theorem hk7 {f:Nat}{args:List IV}{v:IV}
  (h:∀ σ,(∀ a∈args,Bnd σ.next a)->C P E f args σ fun v' σ'=>(∀ i,i<σ.next->σ'.obj i=σ.obj i)/\σ.next<=σ'.next/\ck7 σ' σ.next v' v):PC P E f args v :=
 fun σ=>je7 (h σ)
theorem je8 {pt:PT}{ct:CT}{pf:List Nat}(hT:TOK P E pt ct){f:Nat}{an:Ann}{ic:IC}{irs:List IR}{args:List IV}{v:IV}(hf:hj5 P f N pf an ic irs)(hl:args.length<=N)
  (h:∀ σ,(∀ a∈args,Bnd σ.next a)->wpT pt ct P E N σ.next ic (bi7 args 0) σ (fz4 irs fun v' σ'=>(∀ i,i<σ.next->σ'.obj i=σ.obj i)/\σ.next<=σ'.next/\ck7 σ' σ.next v' v)):PC P E f args v :=
 hk7 fun σ hb=>C_T hT hf hl (h σ hb)
def IV.plain:IV->Bool
 | .bool _|.int _ _|.str _=>true
 | .tuple vs=>vs.attach.all fun ⟨v,_⟩=>v.plain
 | .agg vs=>vs.attach.all fun ⟨v,_⟩=>v.plain
 | _=>false
theorem gs7 {v:IV}{r:Value}(h:v.plain=true)(hv:VR ρ w v r):VR ρ' w' v r:=by
 induction hv with
 | bool b=>exact .bool _
 | int k n=>exact .int _ _
 | str s=>exact .str _
 | agg cs rs hl hv ih=>
  refine .agg cs rs hl fun i hi=>ih i hi ?_
  unfold IV.plain at h
  exact List.all_eq_true.1 h ⟨_,ad2 .undef hi⟩ (List.mem_attach _ _)
 | tuple cs rs hl hv ih=>
  refine .tuple cs rs hl fun i hi=>ih i hi ?_
  unfold IV.plain at h
  exact List.all_eq_true.1 h ⟨_,ad2 .undef hi⟩ (List.mem_attach _ _)
 | _=>simp[IV.plain] at h
theorem ei1 (S:Nat->Prop)(ρ:Rho):∃ ρ':Rho,cd3 S ρ ρ'/\∀ b,ρ'.X b↔ρ.X b\/∃ i d,¬ S i/\ρ i=.at b d:=by
 refine ⟨⟨fun i=>if Classical.propDecidable (S i) |>.decide then ρ i else .no,fun b=>ρ.X b\/∃ i d,¬ S i/\ρ i=.at b d⟩,⟨fun i h=>?_,fun i h=>?_,fun b h=>h⟩,fun b=>Iff.rfl⟩
 ·show (if (Classical.propDecidable (S i)).decide=true then ρ i else du1.no)=_;rw[if_pos (by simpa using h)]
 ·show (if (Classical.propDecidable (S i)).decide=true then ρ i else du1.no)=_;rw[if_neg (by simpa using h)]
def Store.only (σ:Store)(S:Nat->Bool):Store:=⟨σ.next,fun i=>if S i then σ.obj i else none⟩
theorem er3 {f:Nat}{args:List IV}{v:IV}(hE:∀ g,Bnd 0 (E g))(ha:∀ a∈args,Bnd 0 a)(h:C P E f args ⟨0,fun _=>none⟩ fun v' σ'=>ck7 σ' 0 v' v):PC P E f args v:=by
 intro σ ρ w rargs hs hr;obtain ⟨ρ0,hk,hX⟩:=ei1 (fun _=>False) ρ;have hs0:Sim E ρ0 w ⟨0,fun _=>none⟩:=hs.ix7 hk (fun i h=>h.elim) (fun _ _=>rfl) (fun i o h=>h.elim) (fun i _=>hk.off i (fun h=>h)) (fun g=>(hE g).weak fun i h=>absurd h (Nat.not_lt_zero _));have hr0:CR ρ0 w args rargs:=⟨hr.1,fun i hi=>(hr.2 i hi).cut hk ((ha _ (ad2 _ hi)).weak fun i h=>absurd h (Nat.not_lt_zero _))⟩;refine CallsIn.mono (h ρ0 w rargs hs0 hr0) ?_;rintro e w' ⟨v',r,ρ',σ',rfl,hfz,hs',hv',hx⟩;have hno0:∀ i,ρ0 i=.no:=fun i=>hk.off i (fun h=>h)
 have hkeep:∀ b,b<w.heap.size->w'.heap[b]? = w.heap[b]?:=fun b hb=>hx.keep b ⟨hb,fun i d h=>by rw[hno0 i] at h; cases h⟩
 have hlt:∀ (b:Nat) (o:Obj),w.heap[b]? = some o->b<w.heap.size:=fun b o h=>by
  rcases Nat.lt_or_ge b w.heap.size with h'|h'
  ·exact h'
  ·rw[Array.getElem?_eq_none h'] at h; cases h
 have hext:∀ n,Ext n ρ w ρ w':=fun n=>
  ⟨hx.size,fun b hb=>hkeep b hb.1,fun b rcs el fz h=>⟨rcs,by rw[hkeep b (hlt b _ h)]; exact h,rfl⟩,fun i B d h=>.inl ⟨i,d,h⟩,fun i B d h=>.inl h,fun i h=>h,fun i _ h=>h,hx.output,hx.os,hx.tape,fun l L h=>⟨L,by rw[hkeep l (hlt l _ h)]; exact h⟩,rfl⟩
 -- the tree lies on no block that is in use
 let ρ1:Rho:=⟨fun _=>.no,ρ'.X⟩;have hk1:cd3 (fun i=>i<0) ρ' ρ1:=⟨fun i h=>absurd h (Nat.not_lt_zero _),fun i _=>rfl,fun b h=>.inl h⟩;have hv1:VR ρ1 w' v r:=hfz.vr hk1 rfl hs' r hv'
 have hv2:VR ρ w' v r:=hv1.refs (fun i h=>absurd rfl h) fun b hb=>⟨hb.1,fun i d hi=>hb.3 (by
   show ρ'.X b;rw[hx.X];exact (hX b).2 (.inr ⟨i,d,fun h=>h,hi⟩)),fun hxb=>hb.3 (by
   show ρ'.X b;rw[hx.X];exact (hX b).2 (.inl hxb))⟩
 refine ⟨v,r,ρ,σ,rfl,⟨rfl,rfl⟩,⟨hs.inj,fun i B d h=>Nat.lt_of_lt_of_le (hs.lt i B d h) hx.size,fun i B d h=>?_,hs.dead,hs.fresh,hs.av1,fun g=>(hs.env g).mono (hext 0),hs.nx,fun b h=>Nat.lt_of_lt_of_le (hs.xlt b h) hx.size⟩,hv2,(hext σ.next).weak (Nat.le_refl _)⟩;obtain ⟨o,h1,h2⟩:=hs.obj i B d h;exact ⟨o,h1,h2.mono (hext 0) (hkeep B (hs.lt i B d h))⟩
def Store.kills (σ:Store)(S:Nat->Bool):Store:=⟨σ.next,fun i=>if S i then σ.obj i else none⟩
theorem ct8 {S:Nat->Bool}(hs:Sim E ρ w σ):∃ ρd:Rho,Sim E ρd w (σ.kills S)/\(∀ n,Ext n ρ w ρd w)/\∀ v v' r,Frz σ (fun i=>S i=true) v v'->VR ρ w v r->VR ρd w v' r:=by
 let ρc:Rho:=⟨fun i=>if S i then ρ i else .no,ρ.X⟩;let ρd:Rho:=⟨fun i=>if S i then ρ i else match ρ i with|.no=>.no|_=>.dead,ρ.X⟩;have con:∀ i,S i=true->ρc i=ρ i:=fun i h=>by show (if S i=true then ρ i else .no)=_; rw[if_pos h]
 have coff:∀ i,S i=false->ρc i=.no:=fun i h=>by show (if S i=true then ρ i else .no)=_; rw[if_neg (by simp[h])]
 have don:∀ i,S i=true->ρd i=ρ i:=fun i h=>by show (if S i=true then ρ i else _)=_; rw[if_pos h]
 have doff:∀ i,S i=false->ρd i=(match ρ i with|.no=>.no|_=>.dead):=fun i h=>by show (if S i=true then ρ i else _)=_; rw[if_neg (by simp[h])]
 have hdat:∀ i B d,ρd i=.at B d->S i=true/\ρ i=.at B d:=fun i B d h=>by
  cases hsi:S i with
  | true=>rw[don i hsi] at h; exact ⟨rfl,h⟩
  | false=>rw[doff i hsi] at h; cases hri:ρ i<;>rw[hri] at h<;>cases h
 have hk:cd3 (fun i=>S i=true) ρ ρc:=⟨con,fun i h=>coff i (by simpa using h),fun b h=>.inl h⟩
 have hxd:∀ n,Ext n ρ w ρd w:=fun n=>dm4 (fun i B d h=>by
   cases hsi:S i with
   | true=>rw[don i hsi]; exact .inl h
   | false=>rw[doff i hsi,h]; exact .inr rfl) (fun i h=>by
   cases hsi:S i with
   | true=>rw[don i hsi]; exact h
   | false=>rw[doff i hsi,h]) (fun i _ h=>by
   cases hsi:S i with
   | true=>rw[don i hsi]; exact h
   | false=>rw[doff i hsi,h]) (fun i B d h=>⟨i,d,(hdat i B d h).2⟩) rfl
 have hxc:Ext 0 ρc w ρd w:=dm4 (fun i B d h=>by
   obtain ⟨h1,h2⟩:=hk.at h;exact .inl (by rw[don i h1]; exact h2)) (fun i h=>by
   cases hsi:S i with
   | true=>rw[con i hsi] at h; rw[don i hsi]; exact h
   | false=>rw[coff i hsi] at h; cases h) (fun i hi _=>absurd hi (Nat.not_lt_zero _)) (fun i B d h=>⟨i,d,by rw[con i (hdat i B d h).1]; exact (hdat i B d h).2⟩) rfl
 refine ⟨ρd,?_,hxd,fun v v' r hf hv=>(hf.vr hk rfl hs r hv).mono hxc⟩;refine ⟨fun i j B d d' hi hj=>hs.inj i j B d d' (hdat _ _ _ hi).2 (hdat _ _ _ hj).2,fun i B d hi=>hs.lt i B d (hdat _ _ _ hi).2,fun i B d hi=>?_,fun i hi=>?_,fun i hi=>?_,fun i hi=>?_,fun g=>(hs.env g).mono (hxd 0),fun i B d hi=>hs.nx i B d (hdat _ _ _ hi).2,hs.xlt⟩
 ·obtain ⟨h1,h2⟩:=hdat _ _ _ hi;obtain ⟨o,g1,g2⟩:=hs.obj i B d h2;exact ⟨o,by simp[Store.kills,h1,g1],g2.mono (hxd 0) rfl⟩
 ·cases hsi:S i with
  | true=>rw[don i hsi] at hi; simp[Store.kills,hsi,hs.dead i hi]
  | false=>simp[Store.kills,hsi]
 ·have hn:σ.next<=i:=hi;have:=hs.fresh i hn
  cases hsi:S i with
  | true=>rw[don i hsi]; exact this
  | false=>rw[doff i hsi,this]
 ·cases hsi:S i with
  | true=>rw[don i hsi] at hi; simp[Store.kills,hsi,hs.av1 i hi]
  | false=>simp[Store.kills,hsi]
theorem fz7 {S:Nat->Bool}{f:Nat}{args args':List IV}{Q:IV->Store->Prop}(hl:args'.length=args.length)(ha:∀ i,i<args.length->Frz σ (fun i=>S i=true) (args.getD i .undef) (args'.getD i .undef))
  (h:C P E f args' (σ.kills S) Q):C P E f args σ Q:=by
 intro ρ w rargs hs hr;obtain ⟨ρd,hs0,hxd,hvd⟩:=ct8 (S:=S) hs;have hr0:CR ρd w args' rargs:=⟨by rw[hl]; exact hr.1,fun i hi=>hvd _ _ _ (ha i (by omega)) (hr.2 i (by omega))⟩;refine CallsIn.mono (h ρd w rargs hs0 hr0) ?_;rintro e w' ⟨v,r,ρ',σ',rfl,hq,hs',hv',hx⟩;exact ⟨v,r,ρ',σ',rfl,hq,hs',hv',((hxd σ.next).weak (Nat.le_refl _)).trans hx⟩
theorem ck8 {f:Nat}{args args':List IV}{v:IV}(hE:∀ g,Bnd 0 (E g))(hl:args'.length=args.length)(ha:∀ i,i<args.length->ck7 σ 0 (args.getD i .undef) (args'.getD i .undef))(hp:v.plain=true)(h:PC P E f args' v):C P E f args σ (ij3 v σ):=by
 intro ρ w rargs hs hr;have hk:=hk6 ρ 0;have hs0:Sim E (ρ.cut 0) w ⟨0,fun _=>none⟩:=hs.ix7 hk (fun i h=>absurd h (Nat.not_lt_zero _)) (fun _ _=>rfl) (fun i o h=>absurd h (Nat.not_lt_zero _)) (fun i _=>hk.off i (Nat.not_lt_zero _)) hE;have hr0:CR (ρ.cut 0) w args' rargs:=⟨by rw[hl]; exact hr.1,fun i hi=>(ha i (by omega)).vr hk rfl hs _ (hr.2 i (by omega))⟩;refine CallsIn.mono (h ⟨0,fun _=>none⟩ (ρ.cut 0) w rargs hs0 hr0) ?_;rintro e w' ⟨v',r,ρ',σ',rfl,⟨rfl,rfl⟩,hs',hv',hx⟩;have hkeep:∀ b,b<w.heap.size->w'.heap[b]? = w.heap[b]?:=fun b hb=>hx.keep b ⟨hb,fun i d h=>absurd (hk.at h).1 (Nat.not_lt_zero _)⟩
 have hlt:∀ (b:Nat) (o:Obj),w.heap[b]? = some o->b<w.heap.size:=fun b o h=>by
  rcases Nat.lt_or_ge b w.heap.size with h'|h'
  ·exact h'
  ·rw[Array.getElem?_eq_none h'] at h; cases h
 have hext:∀ n,Ext n ρ w ρ w':=fun n=>
  ⟨hx.size,fun b hb=>hkeep b hb.1,fun b rcs el fz h=>⟨rcs,by rw[hkeep b (hlt b _ h)]; exact h,rfl⟩,fun i B d h=>.inl ⟨i,d,h⟩,fun i B d h=>.inl h,fun i h=>h,fun i _ h=>h,hx.output,hx.os,hx.tape,fun l L h=>⟨L,by rw[hkeep l (hlt l _ h)]; exact h⟩,rfl⟩
 refine ⟨_,r,ρ,σ,rfl,⟨rfl,rfl⟩,⟨hs.inj,fun i B d h=>Nat.lt_of_lt_of_le (hs.lt i B d h) hx.size,fun i B d h=>?_,hs.dead,hs.fresh,hs.av1,fun g=>(hs.env g).mono (hext 0),hs.nx,fun b h=>Nat.lt_of_lt_of_le (hs.xlt b h) hx.size⟩,gs7 hp hv',(hext σ.next).weak (Nat.le_refl _)⟩;obtain ⟨o,h1,h2⟩:=hs.obj i B d h;exact ⟨o,h1,h2.mono (hext 0) (hkeep B (hs.lt i B d h))⟩
end Go.Id
set_option linter.all false
namespace Go.Id
open Go
variable {P:Program} {E:Nat->IV} {σ σ':Store} {N n n0:Nat} {fr:Frm}
inductive ei2 where
 | o (x:ak4)
 | loop (N:Nat) (fr:Frm) (ps:List Nat) (asg body:IC) (st:LoopState) (pend:Option JX)
 | app (rev:List (List IV)) (n:Nat) (h:rev.reverse.flatten.length=n/\rev.reverse.flatten.all IV.leaf=true)
 deriving Inhabited
def ei2.fin:Option ei2->Option ei2
 | some (.app rev _ _)=>some (.o (.row rev.reverse.flatten))
 | x=>x
inductive Tr where
 | e
 | n (v:Option ei2) (l r:Tr)
 deriving Inhabited
def Tr.raw:Tr->Nat->Option ei2
 | .e,_=>none
 | .n v l r,i=>bif Nat.beq i 0 then v else bif Nat.beq (i%2) 1 then l.raw (i/2) else r.raw (i/2-1)
def Tr.get (t:Tr)(i:Nat):Option ei2:=ei2.fin (t.raw i)
def Tr.set (x:Option ei2):Nat->Tr->Nat->Tr
 | 0,t,_=>t
 | f+1,.e,i=>bif Nat.beq i 0 then .n x .e .e else bif Nat.beq (i%2) 1 then .n none (Tr.set x f .e (i/2)) .e else .n none .e (Tr.set x f .e (i/2-1))
 | f+1,.n v l r,i=>bif Nat.beq i 0 then .n x l r else bif Nat.beq (i%2) 1 then .n v (Tr.set x f l (i/2)) r else .n v l (Tr.set x f r (i/2-1))
theorem bd2 {α:Type}(a b:Nat)(x y:α):(bif Nat.beq a b then x else y)=if a=b then x else y:=by
 by_cases h:a=b
 ·subst h; simp
 ·have:Nat.beq a b=false:=by rw[<- Bool.not_eq_true,Nat.beq_eq]; exact h
  simp[this,h]
theorem Tr.ia2 (x:Option ei2):∀ (f:Nat) (t:Tr) (i j:Nat),i+1<2^f->(Tr.set x f t i).raw j=if j=i then x else t.raw j:=by
 intro f
 induction f with
 | zero=>intro t i j h; simp at h
 | succ f ih=>
  intro t i j h;have hp:2^(f+1)=2*2^f:=by rw[Nat.pow_succ]; omega
  cases t with
  | e =>
   simp only[Tr.set,bd2];split
   ·rename_i h0; subst h0;simp only[Tr.raw,bd2];split
    ·rfl
    ·split<;>rfl
   ·rename_i h0;split
    ·rename_i h1;simp only[Tr.raw,bd2];by_cases hj:j=0
     ·subst hj; rw[if_pos rfl,if_neg (by omega)]
     ·rw[if_neg hj];split
      ·rename_i h2;rw[ih _ _ _ (by omega)];by_cases hij:j=i
       ·rw[if_pos hij,if_pos (by omega)]
       ·rw[if_neg hij,if_neg (by omega)]; rfl
      ·rw[if_neg (by omega)]
    ·rename_i h1;simp only[Tr.raw,bd2];by_cases hj:j=0
     ·subst hj; rw[if_pos rfl,if_neg (by omega)]
     ·rw[if_neg hj];split
      ·rw[if_neg (by omega)]
      ·rename_i h2;rw[ih _ _ _ (by omega)];by_cases hij:j=i
       ·rw[if_pos hij,if_pos (by omega)]
       ·rw[if_neg hij,if_neg (by omega)]; rfl
  | n v l r=>
   simp only[Tr.set,bd2];split
   ·rename_i h0; subst h0;simp only[Tr.raw,bd2];split
    ·rfl
    ·rfl
   ·rename_i h0;split
    ·rename_i h1;simp only[Tr.raw,bd2];by_cases hj:j=0
     ·subst hj; rw[if_pos rfl,if_neg (by omega)]; rfl
     ·rw[if_neg hj,if_neg hj];split
      ·rename_i h2;rw[ih _ _ _ (by omega)];by_cases hij:j=i
       ·rw[if_pos hij,if_pos (by omega)]
       ·rw[if_neg hij,if_neg (by omega)]
      ·rw[if_neg (by omega)]
    ·rename_i h1;simp only[Tr.raw,bd2];by_cases hj:j=0
     ·subst hj; rw[if_pos rfl,if_neg (by omega)]; rfl
     ·rw[if_neg hj,if_neg hj];split
      ·rw[if_neg (by omega)]
      ·rename_i h2;rw[ih _ _ _ (by omega)];by_cases hij:j=i
       ·rw[if_pos hij,if_pos (by omega)]
       ·rw[if_neg hij,if_neg (by omega)]
theorem Tr.cc6 (x:Option ei2)(f:Nat)(t:Tr)(i j:Nat)(h:i+1<2^f):(Tr.set x f t i).get j=if j=i then ei2.fin x else t.get j:=by
 unfold Tr.get;rw[Tr.ia2 x f t i j h];split<;>rfl
structure XSt where
 next:Nat
 t:Tr
 deriving Inhabited
def XSt.put (xs:XSt)(i:Nat)(x:Option ei2):Option XSt :=
 bif Nat.blt i 1152921504606846976 then some ⟨xs.next,xs.t.set x 64 i⟩ else none
def XSt.st (xs:XSt):Store:=⟨xs.next,fun i=>match xs.t.get i with|some (.o x)=>some x|_=>none⟩
theorem XSt.fz8 {xs xs':XSt}{i:Nat}{x:Option ei2}(h:xs.put i x=some xs'):xs'.next=xs.next/\∀ j,xs'.t.get j=if j=i then ei2.fin x else xs.t.get j:=by
 unfold XSt.put at h
 cases hb:Nat.blt i 1152921504606846976 with
 | false=>rw[hb] at h; cases h
 | true=>
  rw[hb] at h;cases h;have:i<1152921504606846976:=Nat.le_of_ble_eq_true hb;exact ⟨rfl,fun j=>Tr.cc6 x 64 _ i j (by omega)⟩
def YR (P:Program)(E:Nat->IV)(id N:Nat)(fr:Frm)(ps:List Nat)(asg body:IC)(L:LoopState->Option JX->ak4):Prop :=
 ∀ (σ':Store) (args:List IV) (K:IV->Store->Prop),args.length=ps.length->σ'.obj id=some (L .ready none) ->
  RI P E N σ'.next asg (cz4 fr ps args) σ' (fun e f s=>e=.normal/\s.obj id=some (L .ready none)/\RI P E N σ'.next body f (s.put id (L .busy none)) (cs3 id L K))->CYd P E id args σ' K
abbrev Lam:=Nat->LoopState->Option JX->ak4
def XOR (P:Program)(E:Nat->IV)(Λ:Lam)(i:Nat):Option ei2->Option ak4->Prop
 | none,o=>o=none
 | some (.o x),o=>o=some x
 | some (.app rev _ _),o=>o=some (.row rev.reverse.flatten)
 | some (.loop N fr ps asg body st pend),o=>o=some (Λ i st pend)/\YR P E i N fr ps asg body (Λ i)
structure XR (P:Program) (E:Nat->IV) (Λ:Lam) (xs:XSt) (σ:Store):Prop where
 next:xs.next=σ.next
 obj:∀ i,XOR P E Λ i (xs.t.get i) (σ.obj i)
theorem XR.put {Λ:Lam}{xs xs':XSt}{i:Nat}{x:ak4}(h:XR P E Λ xs σ)(hp:xs.put i (some (.o x))=some xs'):XR P E Λ xs' (σ.put i x):=by
 obtain ⟨h1,h2⟩:=XSt.fz8 hp;refine ⟨by rw[h1]; exact h.next,fun j=>?_⟩;rw[h2,aa7];by_cases hj:j=i
 ·rw[if_pos hj,if_pos hj]; rfl
 ·rw[if_neg hj,if_neg hj]; exact h.obj j
theorem XR.kill {Λ:Lam}{xs xs':XSt}{i:Nat}(h:XR P E Λ xs σ)(hp:xs.put i none=some xs'):XR P E Λ xs' (σ.kill i):=by
 obtain ⟨h1,h2⟩:=XSt.fz8 hp;refine ⟨by rw[h1]; exact h.next,fun j=>?_⟩;rw[h2];show XOR P E Λ j _ (if j=i then none else σ.obj j);by_cases hj:j=i
 ·rw[if_pos hj,if_pos hj]; rfl
 ·rw[if_neg hj,if_neg hj]; exact h.obj j
theorem XR.get {Λ:Lam}{xs:XSt}{i:Nat}{x:ak4}(h:XR P E Λ xs σ)(hg:xs.t.get i=some (.o x)):σ.obj i=some x:=by
 have:=h.obj i;rw[hg] at this;exact this
def LeS (s σ:Store):Prop:=∀ i x,s.obj i=some x->σ.obj i=some x
theorem XR.le {Λ:Lam}{xs:XSt}(h:XR P E Λ xs σ):LeS xs.st σ:=by
 intro i x hx;simp only[XSt.st] at hx;split at hx
 ·rename_i y hy; cases hx; exact h.get hy
 ·cases hx
def at5:Nat->IV->Bool
 | 0,_=>false
 | n+1,v=>match v with
  | .ptr _ _|.slice _ _ _ _|.map _|.yield _|.ag4 _ _ _ _|.ak3 _ _ _ _ _=>false
  | .ac2 cs=>cs.all (at5 n)
  | .aa5 es=>es.all fun e=>e.all (at5 n)
  | .al6 es=>es.all fun e=>at5 n e.1&&at5 n e.2
  | .func _ a b=>a.all (at5 n)&&b.all (at5 n)
  | .iface _ v=>at5 n v
  | .agg cs=>cs.all (at5 n)
  | .tuple cs=>cs.all (at5 n)
  | _=>true
theorem ax3:∀ (n:Nat) (v:IV),at5 n v=true->Bnd 0 v:=by
 intro n
 induction n with
 | zero=>intro v h; cases h
 | succ n ih=>
  intro v h;have all:∀ {cs:List IV},cs.all (at5 n)=true->∀ c∈cs,Bnd 0 c:=fun h c hc=>ih c (List.all_eq_true.1 h c hc)
  cases v with
  | undef=>exact .undef
  | bool b=>exact .bool b
  | int k x=>exact .int k x
  | str s=>exact .str s
  | ab6=>exact .ab6
  | ptr id off=>cases h
  | ac2 cs=>exact .ac2 cs (all h)
  | aa1=>exact .aa1
  | ac8=>exact .ac8
  | af5=>exact .af5
  | slice a b c d=>cases h
  | aa5 es=>exact .aa5 es fun e he=>all (List.all_eq_true.1 h e he)
  | aj1=>exact .aj1
  | map id=>cases h
  | al6 es=>exact .al6 es (fun e he=>ih _ (by have:=List.all_eq_true.1 h e he; simp at this; exact this.1)) (fun e he=>ih _ (by have:=List.all_eq_true.1 h e he; simp at this; exact this.2))
  | func f a b=>
   simp only[at5,Bool.and_eq_true] at h
   exact .func f a b (all h.1) (all h.2)
  | yield id=>cases h
  | ab8=>exact .ab8
  | iface t v=>exact .iface t v (ih v h)
  | ah8=>exact .ah8
  | agg cs=>exact .agg cs (all h)
  | tuple cs=>exact .tuple cs (all h)
  | ag4 a b c d=>cases h
  | ak3 a b c d e=>cases h
def dy3 (E:Nat->IV)(σ:Store)(fr:Frm)(σ':Store)(fr':Frm):Prop :=
 ∀ (ρ:Rho) (w:World),Sim E ρ w σ->∃ ρd:Rho,Sim E ρd w σ'/\(∀ n,Ext n ρ w ρd w)/\∀ (N:Nat) (tmps:Array Value),FR ρ w N fr tmps->FR ρd w N fr' tmps
theorem dy3.trans {σ'':Store}{fr fr' fr'':Frm}(h:dy3 E σ fr σ' fr')(h':dy3 E σ' fr' σ'' fr''):dy3 E σ fr σ'' fr'':=fun ρ w hs=>
 let ⟨ρ1,a1,a2,a3⟩:=h ρ w hs;let ⟨ρ2,b1,b2,b3⟩:=h' ρ1 w a1
 ⟨ρ2,b1,fun n=>(a2 n).trans (b2 n) (Nat.le_refl _),fun N tmps hf=>b3 N tmps (a3 N tmps hf)⟩
theorem dy3.refl (fr:Frm):dy3 E σ fr σ fr:=fun ρ w hs=>⟨ρ,hs,fun n=>Ext.refl _ _ _,fun _ _ h=>h⟩
theorem dy3.of {S:Nat->Bool}{fr fr':Frm}(hf:∀ t,fr'.get t=fr.get t\/Frz σ (fun i=>S i=true) (fr.get t) (fr'.get t)):dy3 E σ fr (σ.kills S) fr':=fun ρ w hs=>by
 obtain ⟨ρd,hs0,hxd,hvd⟩:=ct8 (S:=S) hs;refine ⟨ρd,hs0,hxd,fun N tmps hfr=>⟨hfr.size,fun t=>?_⟩⟩;rcases hf t with e|e
 ·rw[e]; exact (hfr.get t).mono (hxd 0)
 ·exact hvd _ _ _ e (hfr.get t)
end Go.Id
