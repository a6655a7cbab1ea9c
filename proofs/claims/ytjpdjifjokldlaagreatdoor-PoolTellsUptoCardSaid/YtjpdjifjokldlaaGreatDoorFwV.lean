/- A function compiled,whole: its code and its results. Conditions: none; over any program. -/
import Derived.Test.YtjpdjifjokldlaaGreatDoorFwI
set_option linter.all false
namespace Go.Id
open Go
variable {P:Program} {w w' w'':World} {ρ ρ' ρ'':Rho} {E:Nat->IV} {σ σ':Store} {N n n':Nat} {fr:Frm} {a:Act} {pf:List Nat}
inductive IR where
 | t (n:Nat)
 | cell (agg:Option Nat) (n:Nat)
 deriving Inhabited
def ja8 (P:Program):ResultVar->Option IR
 | .tmp t=>some (.t t)
 | .cell ad t=>match ak8 P t with
  | some agg=>some (.cell agg ad)
  | none=>none
def en9 (P:Program):List ResultVar->Option (List IR)
 | []=>some []
 | r::rs=>match ja8 P r,en9 P rs with
  | some x,some xs=>some (x::xs)
  | _,_=>none
def irV (σ:Store)(fr:Frm):IR->Option IV
 | .t n=>some (fr.get n)
 | .cell agg n=>ap4 σ agg (fr.get n)
def irL (σ:Store)(fr:Frm):List IR->Option (List IV)
 | []=>some []
 | r::rs=>match irV σ fr r,irL σ fr rs with
  | some v,some vs=>some (v::vs)
  | _,_=>none
theorem fo3:∀ (rs:List ResultVar) (irs:List IR),en9 P rs=some irs->ge7 P σ fr rs=irL σ fr irs:=by
 intro rs
 induction rs with
 | nil=>intro irs h; cases h; rfl
 | cons r rs ih=>
  intro irs h;simp only[en9] at h;split at h
  ·rename_i x xs hx hxs;cases h
   have h1:in3 P σ fr r=irV σ fr x:=by
    cases r with
    | tmp t=>cases hx; rfl
    | cell ad t=>
     simp only[ja8] at hx;split at hx
     ·rename_i agg hagg;cases hx;simp[in3,irV,hagg]
     ·cases hx
   simp only[ge7,irL,h1,ih _ hxs];cases irV σ fr x<;>cases irL σ fr xs<;>rfl
  ·cases h
def fo4 (P:Program)(f N:Nat)(pf:List Nat)(an:Ann)(ic:IC)(irs:List IR):Prop :=
 ∃ fn,P.funcs[f]? = some fn/\fn.ntmps=N/\fn.body.bind (ao5 P pf N an)=some ic/\en9 P fn.results.toList=some irs
theorem ab8 {f:Nat}{fn:Func}{an:Ann}{ic:IC}{irs:List IR}(h:P.funcs[f]? = some fn)(hN:fn.ntmps=N)(hc:fn.body.bind (ao5 P pf N an)=some ic)(hr:en9 P fn.results.toList=some irs):fo4 P f N pf an ic irs :=
 ⟨fn,h,hN,hc,hr⟩
def iv2 (irs:List IR)(Qc:IV->Store->Prop):Exit->Frm->Store->Prop
 | .normal,fr,σ|.ret,fr,σ=>∃ vs,irL σ fr irs=some vs/\Qc (dc2 vs) σ
 | _,_,_=>False
theorem jf5 {f:Nat}{an:Ann}{ic:IC}{irs:List IR}{args:List IV}{Qc:IV->Store->Prop}(hf:fo4 P f N pf an ic irs)(hl:args.length<=N)
  (h:wpI P E N σ.next ic (ax2 args 0) σ (iv2 irs Qc)):C P E f args σ Qc:=by
 obtain ⟨fn,h1,h2,h3,h4⟩:=hf
 cases hb:fn.body with
 | none=>rw[hb] at h3; cases h3
 | some c=>
  rw[hb] at h3;refine ha8 h1 hb h2 hl ((as3 ic _ _ _ h pf an c h3).mono ?_);intro e fr' σ' q;cases e<;>first|(obtain ⟨vs,q1,q2⟩:=q; exact ⟨vs,by rw[fo3 _ _ h4]; exact q1,q2⟩)|exact q
end Go.Id
/- Frames,by what is asked of them. Conditions: none; over any program. -/
namespace Go.Id
open Go
theorem Frm.get_nil (t:Nat):Frm.get [] t=.undef:=by unfold Frm.get; simp
theorem Frm.bb4 (t s:Nat)(v:IV)(fr:Frm):Frm.get ((t,v)::fr) s=if s=t then v else Frm.get fr s:=Frm.bl7 fr t s v
end Go.Id
/- The walk by tables: what functions give,as functions; the form that is rewritten. Conditions: none; over any program. -/
namespace Go.Id
open Go
universe u
variable {P:Program} {E:Nat->IV} {σ σ':Store} {N n n0:Nat} {fr:Frm} {a:Act} {pf:List Nat}
abbrev PT:=Nat->List IV->Option IV
abbrev CT:=Nat->List IV->Store->Option (IV->Store->Prop)
structure TOK (P:Program) (E:Nat->IV) (pt:PT) (ct:CT):Prop where
 p:∀ f args v,pt f args=some v->PC P E f args v
 c:∀ f args σ Q,ct f args σ=some Q->okF P f=true/\C P E f args σ Q
def noP:PT:=fun _ _=>none
def noC:CT:=fun _ _ _=>none
theorem noT:TOK P E noP noC:=⟨(fun _ _ _ h=>by cases h),(fun _ _ _ _ h=>by cases h)⟩
theorem eo1 {f:Nat}{args:List IV}:noP f args=none:=by unfold noP; exact Eq.trans rfl rfl
theorem eo2 {f:Nat}{args:List IV}:noC f args σ=none:=by unfold noC; exact Eq.trans rfl rfl
def bt3 {α:Type}:Option α->(α->Prop)->Prop
 | some v,K=>K v
 | none,_=>False
def hf6:IV->(Bool->Prop)->Prop
 | .bool b,K=>K b
 | _,_=>False
def fy4 (v:IV)(want:Bool)(A B:Prop):Prop :=
 match fc5 v want with
 | some true=>A
 | some false=>B
 | none=>False
theorem dm3 {v:IV}{want:Bool}{A B:Prop}(h:fy4 v want A B):∃ act,fc5 v want=some act/\if act=true then A else B:=by
 unfold fy4 at h;split at h
 ·rename_i ha; exact ⟨true,ha,h⟩
 ·rename_i ha; exact ⟨false,ha,h⟩
 ·exact h.elim
theorem aj9 {α:Type}{o:Option α}{K:α->Prop}(h:bt3 o K):∃ v,o=some v/\K v:=by
 cases o with
 | none=>exact h.elim
 | some v=>exact ⟨v,rfl,h⟩
theorem eo3 {o:IV}{K:Bool->Prop}(h:hf6 o K):∃ b,o=.bool b/\K b:=by
 cases o<;>first|exact ⟨_,rfl,h⟩|exact h.elim
def ci4 (P:Program)(E:Nat->IV)(o:Option (IV->Store->Prop))(f:Nat)(args:List IV)(σ:Store)(K:IV->Store->Prop):Prop :=
 match o with
 | some Q=>∀ v s,Q v s->σ.next<=s.next/\K v s
 | none=>∃ Q,(okF P f=true/\C P E f args σ Q)/\∀ v s,Q v s->σ.next<=s.next/\K v s
def gg7 (P:Program)(E:Nat->IV)(o:Option IV)(f:Nat)(args:List IV)(σ:Store)(K:IV->Store->Prop):Prop :=
 match o with
 | some v=>K v σ
 | none=>∃ v,PC P E f args v/\K v σ
def opT (pt:PT)(ct:CT)(P:Program)(E:Nat->IV)(op:IK)(id:Nat)(fr:Frm)(σ:Store)(K:IV->Store->Prop):Prop :=
 match op with
 | .q q=>bt3 (evq E fr σ q) fun v=>K v σ
 | .alloc z=>K (.ptr id 0) (σ.put id (.cells z))
 | .box x=>(x.ev E fr).cs.all IV.leaf=true/\K (.ptr id 0) (σ.put id (.cells (x.ev E fr).cs))
 | .bsl esz n z parts=>bt3 (an2 (rep z n) (parts.map fun p=>(p.1,p.2.1,p.2.2.ev E fr))) fun out=>K (.slice id 0 n esz) (σ.put id (.row out))
 | .store sz x y=>bt3 (ak3 σ sz (x.ev E fr) (y.ev E fr)) fun σ'=>K .undef σ'
 | .aw5 x=>match x.ev E fr with
  | .str s=>K (.ptr id 0) (σ.put id (.as1 s 0))
  | _=>False
 | .bq1 x=>bt3 (bc6 σ (x.ev E fr)) fun r=>K r.1 r.2
 | .bp9=>K (.map id) (σ.put id (.map []))
 | .dv3 tag x k v=>bt3 (aq7 σ tag (x.ev E fr) (k.ev E fr) (v.ev E fr)) fun σ'=>K .undef σ'
 | .app esz s x=>bt3 (aq2 σ id esz (s.ev E fr) (x.ev E fr)) fun r=>K r.1 r.2
 | .call f args=>ci4 P E (ct f (args.map (·.ev E fr)) σ) f (args.map (·.ev E fr)) σ K
 | .ae7 f args=>gg7 P E (pt f (args.map (·.ev E fr))) f (args.map (·.ev E fr)) σ K
 | .ap5 x args=>match x.ev E fr with
  | .func (.func f) first cap=>ci4 P E (ct f (first++args.map (·.ev E fr)++cap) σ) f (first++args.map (·.ev E fr)++cap) σ K
  | .yield i=>∃ Q,CV P E (.yield i) (args.map (·.ev E fr)) σ Q/\∀ v σ',Q v σ'->σ.next<=σ'.next/\K v σ'
  | _=>False
 | .as5 esz n z parts=>bt3 (an2 (rep z n) (parts.map fun p=>(p.1,p.2.1,p.2.2.ev E fr))) fun out=>K (.aa3 (chunk esz n out)) σ
 | .aj8 x=>(x.ev E fr).cs.all IV.leaf=true/\K (.ad4 (x.ev E fr).cs) σ
 | .at7 x=>match x.ev E fr with
  | .am4 es=>K (.ptr id 0) (σ.put id (.aj5 es none))
  | _=>False
 | .bm7 x=>bt3 (at6 σ (x.ev E fr)) fun r=>(r.2=[]->K (.tuple [.bool false]) σ) /\
   ∀ j,j<r.2.length->K (.tuple [.bool true,(r.2.getD j (.undef,.undef)).1,(r.2.getD j (.undef,.undef)).2]) (σ.put r.1 (.aj5 (r.2.eraseIdx j) (some (r.2.getD j (.undef,.undef)))))
 | .dv4 x=>bt3 (be1 σ (x.ev E fr)) fun v=>K v σ
 | .cp7 esz z x=>bt3 (da8 (x.ev E fr)) fun n=>K (.slice id 0 n esz) (σ.put id (.row (rep z n)))
 | .clr esz z x=>bt3 (fg9 σ esz z (x.ev E fr)) fun σ'=>σ'.next=σ.next/\K .undef σ'
 | .st k xs=>bt3 (stI k id σ (xs.map (·.ev E fr))) fun r=>K r.1 r.2
theorem cp9 {pt:PT}{ct:CT}(hT:TOK P E pt ct){f:Nat}{args:List IV}{K:IV->Store->Prop}(h:ci4 P E (ct f args σ) f args σ K):∃ Q,(okF P f=true/\C P E f args σ Q)/\∀ v s,Q v s->σ.next<=s.next/\K v s:=by
 cases ho:ct f args σ with
 | none=>rw[ho] at h; exact h
 | some Q=>rw[ho] at h; exact ⟨Q,hT.c _ _ _ Q ho,h⟩
theorem bq3 {pt:PT}{ct:CT}(hT:TOK P E pt ct){op:IK}{id:Nat}{K:IV->Store->Prop}(h:opT pt ct P E op id fr σ K):opR P E op id fr σ K:=by
 cases op with
 | q q=>exact aj9 h
 | alloc z=>exact h
 | box x=>exact h
 | bsl e n z ps=>exact aj9 h
 | store e x y=>exact aj9 h
 | app e s x=>exact aj9 h
 | bp9=>exact h
 | aw5 x=>
  simp only[opT] at h;split at h
  ·rename_i s he; exact ⟨s,he,h⟩
  ·exact h.elim
 | bq1 x=>exact aj9 h
 | dv3 t x y z=>exact aj9 h
 | call f xs=>
  obtain ⟨Q,h1,h2⟩:=cp9 hT h
  exact ⟨Q,h1.2,h2⟩
 | ae7 f xs=>
  simp only[opT] at h
  cases ho:pt f (xs.map (·.ev E fr)) with
  | none=>rw[ho] at h; exact h
  | some v=>rw[ho] at h; exact ⟨v,hT.p _ _ _ ho,h⟩
 | ap5 x xs=>
  simp only[opT] at h;split at h
  ·rename_i f first cap he
   obtain ⟨Q,h1,h2⟩:=cp9 hT h;refine ⟨Q,?_,h2⟩;rw[he];exact h1
  ·rename_i i he;rw[<- he] at h;exact h
  ·exact h.elim
 | as5 e n z ps=>exact aj9 h
 | aj8 x=>exact h
 | at7 x=>
  simp only[opT] at h;split at h
  ·rename_i s he; exact ⟨s,he,h⟩
  ·exact h.elim
 | bm7 x=>
  obtain ⟨⟨i,l⟩,h1,h2⟩:=aj9 h
  exact ⟨i,l,h1,h2⟩
 | dv4 x=>exact aj9 h
 | cp7 e z x=>exact aj9 h
 | clr e z x=>exact aj9 h
 | st k xs=>exact aj9 h
def bq4 (pt:PT) (ct:CT) (P:Program) (E:Nat->IV):List ac8->Nat->Frm->Store->(Frm->Store->Prop)->Prop
 | [],_,fr,σ,K=>K fr σ
 | o::rest,id,fr,σ,K=>
  match o.guard with
  | none=>opT pt ct P E o.op id fr σ fun v σ'=>bq4 pt ct P E rest (if o.op.lays then id+1 else id) (fr.ai5 o.dst v) σ' K
  | some (s,want)=>fy4 (fr.get s) want (opT pt ct P E o.op id fr σ fun v σ'=>bq4 pt ct P E rest (if o.op.lays then id+1 else id) (fr.ai5 o.dst v) σ' K)
    (bq4 pt ct P E rest (if o.op.lays then id+1 else id) (fr.ai5 o.dst skV) σ K)
theorem dv9 {pt:PT}{ct:CT}(hT:TOK P E pt ct):∀ (ops:List ac8) (id:Nat) (fr:Frm) (σ:Store) (K:Frm->Store->Prop),bq4 pt ct P E ops id fr σ K->bk5 P E ops id fr σ K:=by
 intro ops
 induction ops with
 | nil=>intro id fr σ K h; exact h
 | cons o os ih=>
  intro id fr σ K h;obtain ⟨d,g,op⟩:=o
  cases g with
  | none=>
   simp only[bq4,bk5] at h ⊢
   exact ⟨true,rfl,aj7 (fun v s k=>ih _ _ _ _ k) (bq3 hT h)⟩
  | some p=>
   obtain ⟨s,want⟩:=p;simp only[bq4,bk5] at h ⊢;obtain ⟨act,ha,h⟩:=dm3 h;refine ⟨act,ha,?_⟩
   cases act with
   | true=>
    rw[if_pos rfl] at h ⊢
    exact aj7 (fun v s k=>ih _ _ _ _ k) (bq3 hT h)
   | false=>
    rw[if_neg (by simp)] at h ⊢;exact ih _ _ _ _ h
def bm8 (E:Nat->IV)(fr:Frm)(σ:Store):IK->Prop
 | .q (.load _ x)=>match x.ev E fr with
  | .ad4 _=>True
  | .ptr i _=>match σ.obj i with
   | some (.cells _)=>True
   | _=>False
  | _=>False
 | _=>True
theorem cq1 {op:IK}(h:bm8 E fr σ op):aw1 E fr σ op:=by
 cases op with
 | q q=>
  cases q with
  | load ag x=>
   simp only[bm8,aw1] at h ⊢;cases he:x.ev E fr<;>rw[he] at h<;>simp only at h ⊢;rename_i i off
   cases ho:σ.obj i with
   | none=>rw[ho] at h; exact h.elim
   | some ob=>
    rw[ho] at h
    cases ob<;>first|exact ⟨_,rfl⟩|exact h.elim
  | _=>trivial
 | _=>trivial
def be6 (pt:PT) (ct:CT) (P:Program) (E:Nat->IV) (B:Bool):List ac8->Nat->Frm->Store->(Frm->Store->Prop)->Prop
 | [],_,fr,σ,K=>K fr σ
 | o::rest,id,fr,σ,K=>
  match o.guard with
  | none=>(B=true->bm8 E fr σ o.op)/\opT pt ct P E o.op id fr σ fun v σ'=>be6 pt ct P E B rest (id+1) (fr.ai5 o.dst v) σ' K
  | some (s,want)=>fy4 (fr.get s) want ((B=true->bm8 E fr σ o.op)/\opT pt ct P E o.op id fr σ fun v σ'=>be6 pt ct P E B rest (id+1) (fr.ai5 o.dst v) σ' K)
    (be6 pt ct P E B rest (id+1) (fr.ai5 o.dst skV) σ K)
theorem dw1 {pt:PT}{ct:CT}(hT:TOK P E pt ct){B:Bool}{base:Nat}:∀ (ops:List ac8) (i:Nat) (fr:Frm) (σ:Store) (K:Frm->Store->Prop),be6 pt ct P E B ops (base+i) fr σ K->bk4 P E B (du4 base i ops) fr σ K:=by
 intro ops
 induction ops with
 | nil=>intro i fr σ K h; exact h
 | cons o os ih=>
  intro i fr σ K h;obtain ⟨d,g,op⟩:=o
  cases g with
  | none=>
   simp only[be6] at h
   exact ⟨true,rfl,aj7 (fun v s k=>ih _ _ _ _ k) (bq3 hT h.2),fun hb=>cq1 (h.1 hb)⟩
  | some p=>
   obtain ⟨s,want⟩:=p;simp only[be6] at h;obtain ⟨act,ha,h⟩:=dm3 h;refine ⟨act,ha,?_⟩
   cases act with
   | true=>exact ⟨aj7 (fun v s k=>ih _ _ _ _ k) (bq3 hT h.2),fun hb=>cq1 (h.1 hb)⟩
   | false=>exact ih _ _ _ _ h
def wpT (pt:PT)(ct:CT)(P:Program)(E:Nat->IV)(N n0:Nat):IC->Frm->Store->(Exit->Frm->Store->Prop)->Prop
 | .skip,fr,σ,Q=>Q .normal fr σ
 | .reg _ ops keep,fr,σ,Q=>bq4 pt ct P E ops σ.next fr ⟨σ.next+az5 ops,σ.obj⟩ (fun fr' σ'=>Q .normal (fr'.keep keep) σ')
 | .dreg _ ops B keep,fr,σ,Q=>be6 pt ct P E B ops σ.next fr ⟨σ.next+ops.length,σ.obj⟩ (fun fr' σ'=>Q .normal (fr'.keep keep) σ')
 | .oreg _ ops keep,fr,σ,Q=>aq9 P E (gp8 σ.next ops) [] fr { σ with next:=σ.next+ops.length } (fun fr' σ'=>Q .normal (fr'.keep keep) σ')
 | .seq a b,fr,σ,Q=>wpT pt ct P E N n0 a fr σ (fun e fr' σ'=>match e with|.normal=>wpT pt ct P E N n0 b fr' σ' Q|e=>Q e fr' σ')
 | .cond x a b,fr,σ,Q=>hf6 (x.ev E fr) fun t=>if t=true then wpT pt ct P E N n0 a fr σ Q else wpT pt ct P E N n0 b fr σ Q
 | .block id a,fr,σ,Q=>wpT pt ct P E N n0 a fr σ (be2 id Q)
 | .loop a,fr,σ,Q=>RI P E N n0 (.loop a) fr σ Q
 | .exit id,fr,σ,Q=>Q (.exit id) fr σ
 | .ret,fr,σ,Q=>Q .ret fr σ
 | .rfunc g ps y a,fr,σ,Q=>RI P E N n0 (.rfunc g ps y a) fr σ Q
 | .scope a,fr,σ,Q=>wpT pt ct P E N n0 a fr σ (eb9 Q)
theorem bb5:∀ (ic:IC) (fr:Frm) (σ:Store) (Q Q':Exit->Frm->Store->Prop),(∀ e f s,Q e f s->Q' e f s)->wpI P E N n0 ic fr σ Q->wpI P E N n0 ic fr σ Q':=by
 have hrops:∀ (ops:List ac8) (id:Nat) (fr:Frm) (σ:Store) (K K':Frm->Store->Prop),(∀ f s,K f s->K' f s)->bk5 P E ops id fr σ K->bk5 P E ops id fr σ K':=by
  intro ops
  induction ops with
  | nil=>intro id fr σ K K' hk h; exact hk _ _ h
  | cons o os ih=>
   intro id fr σ K K' hk h;simp only[bk5] at h ⊢;obtain ⟨act,ha,h⟩:=h;refine ⟨act,ha,?_⟩
   cases act with
   | true=>
    rw[if_pos rfl] at h ⊢
    exact aj7 (fun v s k=>ih _ _ _ _ _ hk k) h
   | false=>
    rw[if_neg (by simp)] at h ⊢;exact ih _ _ _ _ _ hk h
 have htree:∀ (its:List Item) (B:Bool) (fr:Frm) (σ:Store) (K K':Frm->Store->Prop),(∀ f s,K f s->K' f s)->bk4 P E B its fr σ K->bk4 P E B its fr σ K':=by
  intro its
  induction its with
  | nil=>intro B fr σ K K' hk h; exact hk _ _ h
  | cons it its ih=>
   intro B fr σ K K' hk h;obtain ⟨i,o,id⟩:=it;obtain ⟨act,ha,hh⟩:=h;refine ⟨act,ha,?_⟩
   cases act with
   | true=>exact ⟨aj7 (fun v s k=>ih _ _ _ _ _ hk k) hh.1,hh.2⟩
   | false=>exact ih _ _ _ _ _ hk hh
 intro ic
 induction ic with
 | skip=>intro fr σ Q Q' hq h; exact hq _ _ _ h
 | reg id ops keep=>intro fr σ Q Q' hq h; exact hrops _ _ _ _ _ _ (fun f s k=>hq _ _ _ k) h
 | dreg id ops B keep=>intro fr σ Q Q' hq h; exact htree _ _ _ _ _ _ (fun f s k=>hq _ _ _ k) h
 | oreg id ops keep=>intro fr σ Q Q' hq h; exact em8 _ _ _ _ (fun f s k=>hq _ _ _ k) h
 | seq x y ihx ihy=>
  intro fr σ Q Q' hq h;refine ihx _ _ _ _ ?_ h;intro e f s k
  cases e with
  | normal=>exact ihy _ _ _ _ hq k
  | _=>exact hq _ _ _ k
 | cond x a b iha ihb=>
  intro fr σ Q Q' hq h;obtain ⟨t,ht,h⟩:=h;refine ⟨t,ht,?_⟩
  cases t with
  | true=>exact iha _ _ _ _ hq h
  | false=>exact ihb _ _ _ _ hq h
 | block id x ih=>
  intro fr σ Q Q' hq h;refine ih _ _ _ _ ?_ h;intro e f s k
  cases e with
  | exit i=>simp only[be2] at k ⊢; split<;>rename_i hi<;>simp only[hi,if_true,if_false] at k<;>exact hq _ _ _ k
  | _=>exact hq _ _ _ k
 | scope x ih=>
  intro fr σ Q Q' hq h;refine ih _ _ _ _ ?_ h;intro e f s k
  cases e with
  | goto l=>exact k
  | _=>exact hq _ _ _ k
 | loop x ih=>intro fr σ Q Q' hq h; exact ao1 h hq
 | exit id=>intro fr σ Q Q' hq h; exact hq _ _ _ h
 | rfunc g ps y x ihy ih=>intro fr σ Q Q' hq h; exact ao1 h hq
 | ret=>intro fr σ Q Q' hq h; exact hq _ _ _ h
theorem as6 {pt:PT}{ct:CT}(hT:TOK P E pt ct):∀ (ic:IC) (fr:Frm) (σ:Store) (Q:Exit->Frm->Store->Prop),wpT pt ct P E N n0 ic fr σ Q->wpI P E N n0 ic fr σ Q:=by
 intro ic
 induction ic with
 | skip=>intro fr σ Q h; exact h
 | reg id ops keep=>intro fr σ Q h; exact dv9 hT _ _ _ _ _ h
 | dreg id ops B keep=>intro fr σ Q h; exact dw1 hT _ 0 _ _ _ h
 | oreg id ops keep=>intro fr σ Q h; exact h
 | seq x y ihx ihy=>
  intro fr σ Q h;have h1:=ihx _ _ _ (show wpT pt ct P E N n0 x fr σ _ from h);refine bb5 x fr σ _ (fun e fr' σ'=>match e with|.normal=>wpI P E N n0 y fr' σ' Q|e=>Q e fr' σ') ?_ h1;intro e f s k
  cases e with
  | normal=>exact ihy _ _ _ k
  | _=>exact k
 | cond x a b iha ihb=>
  intro fr σ Q h;obtain ⟨t,ht,h⟩:=eo3 h;refine ⟨t,ht,?_⟩
  cases t with
  | true=>exact iha _ _ _ h
  | false=>exact ihb _ _ _ h
 | block id x ih=>intro fr σ Q h; exact ih _ _ _ h
 | scope x ih=>intro fr σ Q h; exact ih _ _ _ h
 | loop x ih=>intro fr σ Q h; exact h
 | exit id=>intro fr σ Q h; exact h
 | ret=>intro fr σ Q h; exact h
 | rfunc g ps y x ihy ih=>intro fr σ Q h; exact h
def fo5 (irs:List IR)(Qc:IV->Store->Prop):Exit->Frm->Store->Prop
 | .normal,fr,σ|.ret,fr,σ=>bt3 (irL σ fr irs) fun vs=>Qc (dc2 vs) σ
 | _,_,_=>False
theorem cq2 {irs:List IR}{Qc:IV->Store->Prop}{e:Exit}(h:fo5 irs Qc e fr σ):iv2 irs Qc e fr σ:=by
 cases e<;>first|exact aj9 h|exact h
theorem C_T {pt:PT}{ct:CT}(hT:TOK P E pt ct){f:Nat}{an:Ann}{ic:IC}{irs:List IR}{args:List IV}{Qc:IV->Store->Prop}(hf:fo4 P f N pf an ic irs)(hl:args.length<=N)
  (h:wpT pt ct P E N σ.next ic (ax2 args 0) σ (fo5 irs Qc)):C P E f args σ Qc :=
 jf5 hf hl (bb5 _ _ _ _ _ (fun _ _ _ k=>cq2 k) (as6 hT _ _ _ _ h))
theorem jf6 {pt:PT}{ct:CT}(hT:TOK P E pt ct){f:Nat}{an:Ann}{ic:IC}{irs:List IR}{args:List IV}{v:IV}(hf:fo4 P f N pf an ic irs)(hl:args.length<=N)
  (h:∀ σ,wpT pt ct P E N σ.next ic (ax2 args 0) σ (fo5 irs fun v' σ'=>v'=v/\σ'=σ)):PC P E f args v :=
 fun σ=>C_T hT hf hl (h σ)
theorem gs8 {pt:PT}{ct:CT}(hT:TOK P E pt ct){x:IC}{Q:Exit->Frm->Store->Prop}(I:Nat->Frm->Store->Prop)(m:Nat)(h:I m fr σ)(hI:∀ m fr σ,I m fr σ->wpT pt ct P E N n0 x fr σ (du2 I m Q)):RI P E N n0 (.loop x) fr σ Q :=
 fh7 I m h fun m fr σ hi=>as6 hT _ _ _ _ (hI m fr σ hi)
theorem nr {α:Sort u}{a b:α}(h:a=b):a=b:=h
def hf7 (o:Option IV)(σ:Store)(K:IV->Store->Prop):Prop:=bt3 o fun v=>K v σ
def ih5 (o:Option Store)(K:IV->Store->Prop):Prop:=bt3 o fun s=>K .undef s
def ih6 (o:Option (IV×Store))(K:IV->Store->Prop):Prop:=bt3 o fun r=>K r.1 r.2
def in6 (v:IV)(σ:Store):IV->Store->Prop:=fun v' σ'=>v'=v/\σ'=σ
def ja9 (o:Option (List IV))(id n esz:Nat)(σ:Store)(K:IV->Store->Prop):Prop:=bt3 o fun out=>K (.slice id 0 n esz) (σ.put id (.row out))
def fo6 (ct:CT)(P:Program)(E:Nat->IV)(x:IV)(args:List IV)(σ:Store)(K:IV->Store->Prop):Prop:=match x with
 | .func (.func f) first cap=>ci4 P E (ct f (first++args++cap) σ) f (first++args++cap) σ K
 | .yield i=>∃ Q,CV P E (.yield i) args σ Q/\∀ v σ',Q v σ'->σ.next<=σ'.next/\K v σ'
 | _=>False
def gg8 (pt:PT)(ct:CT)(P:Program)(E:Nat->IV)(rest:List ac8)(id:Nat)(d:Option Nat)(fr:Frm)(K:Frm->Store->Prop):IV->Store->Prop:=fun v σ'=>bq4 pt ct P E rest id (fr.ai5 d v) σ' K
def dw2 (pt:PT)(ct:CT)(P:Program)(E:Nat->IV)(B:Bool)(rest:List ac8)(id:Nat)(d:Option Nat)(fr:Frm)(K:Frm->Store->Prop):IV->Store->Prop:=fun v σ'=>be6 pt ct P E B rest id (fr.ai5 d v) σ' K
def hf8 (ks:List Nat)(Q:Exit->Frm->Store->Prop):Frm->Store->Prop:=fun fr σ=>Q .normal (fr.keep ks) σ
def hs8 (pt:PT)(ct:CT)(P:Program)(E:Nat->IV)(v:IV)(want:Bool)(op:IK)(id:Nat)(fr:Frm)(σ:Store)(K:IV->Store->Prop):Prop:=fy4 v want (opT pt ct P E op id fr σ K) (K skV σ)
def fc6 (pt:PT)(ct:CT)(P:Program)(E:Nat->IV)(B:Bool)(v:IV)(want:Bool)(op:IK)(id:Nat)(fr:Frm)(σ:Store)(K:IV->Store->Prop):Prop:=fy4 v want ((B=true->bm8 E fr σ op)/\opT pt ct P E op id fr σ K) (K skV σ)
def hf9 (pt:PT)(ct:CT)(P:Program)(E:Nat->IV)(N n0:Nat)(v:IV)(a b:IC)(fr:Frm)(σ:Store)(Q:Exit->Frm->Store->Prop):Prop:=hf6 v fun t=>if t=true then wpT pt ct P E N n0 a fr σ Q else wpT pt ct P E N n0 b fr σ Q
def in7 (pt:PT)(ct:CT)(P:Program)(E:Nat->IV)(N n0:Nat)(b:IC)(Q:Exit->Frm->Store->Prop):Exit->Frm->Store->Prop:=fun e fr' σ'=>match e with
 | .normal=>wpT pt ct P E N n0 b fr' σ' Q
 | e=>Q e fr' σ'
variable {pt:PT} {ct:CT} {id want:Nat} {K:IV->Store->Prop} {Kf:Frm->Store->Prop} {Q:Exit->Frm->Store->Prop} {v:IV} {c:Prop} [Decidable c]
theorem cq3 {α:Type}(v:α)(K:α->Prop):bt3 (some v) K=K v:=nr rfl
theorem cq4 (v:IV):hf7 (some v) σ K=K v σ:=nr rfl
theorem bt4 (v:IV):hf7 (if c then some v else none) σ K=(c/\K v σ):=by by_cases h:c<;>simp[h,hf7,bt3]
theorem bg5 (v:IV):hf7 (if c then none else some v) σ K=(¬ c/\K v σ):=by by_cases h:c<;>simp[h,hf7,bt3]
theorem cq5:ih5 (some σ) K=K .undef σ:=nr rfl
theorem bt5:ih5 (if c then some σ else none) K=(c/\K .undef σ):=by by_cases h:c<;>simp[h,ih5,bt3]
theorem cq6 (v:IV):ih6 (some (v,σ)) K=K v σ:=nr rfl
theorem bt6 (v:IV):ih6 (if c then some (v,σ) else none) K=(c/\K v σ):=by by_cases h:c<;>simp[h,ih6,bt3]
theorem eo4 {f:Nat}{args:List IV}(v:IV):ci4 P E (some (in6 v σ')) f args σ K=(σ.next<=σ'.next/\K v σ'):=propext ⟨fun h=>h v σ' ⟨rfl,rfl⟩,fun h v' s' ⟨e1,e2⟩=>by subst e1; subst e2; exact h⟩
theorem hs9 {f:Nat}{args:List IV}(v:IV):gg7 P E (some v) f args σ K=K v σ:=nr rfl
theorem aa6 {f:Nat}{args:List IV}{v:IV}(h:PC P E f args v)(hk:K v σ):gg7 P E none f args σ K:=⟨v,h,hk⟩
theorem au5 {f:Nat}{args:List IV}{Qc:IV->Store->Prop}(ho:okF P f=true)(h:C P E f args σ Qc)(hk:∀ v s,Qc v s->σ.next<=s.next/\K v s):ci4 P E none f args σ K:=⟨Qc,⟨ho,h⟩,hk⟩
theorem cq7 {n esz:Nat}(out:List IV):ja9 (some out) id n esz σ K=K (.slice id 0 n esz) (σ.put id (.row out)):=nr rfl
theorem bt7 (f:Nat)(first cap args:List IV):fo6 ct P E (.func (.func f) first cap) args σ K=ci4 P E (ct f (first++args++cap) σ) f (first++args++cap) σ K:=nr rfl
theorem cq8 {rest:List ac8}{d:Nat}(v:IV):gg8 pt ct P E rest id (some d) fr Kf v σ=bq4 pt ct P E rest id ((d,v)::fr) σ Kf:=nr rfl
theorem bt8 {rest:List ac8}(v:IV):gg8 pt ct P E rest id none fr Kf v σ=bq4 pt ct P E rest id fr σ Kf:=nr rfl
theorem bt9 {B:Bool}{rest:List ac8}{d:Nat}(v:IV):dw2 pt ct P E B rest id (some d) fr Kf v σ=be6 pt ct P E B rest id ((d,v)::fr) σ Kf:=nr rfl
theorem bg6 {B:Bool}{rest:List ac8}(v:IV):dw2 pt ct P E B rest id none fr Kf v σ=be6 pt ct P E B rest id fr σ Kf:=nr rfl
theorem cq9 {ks:List Nat}:hf8 ks Q fr σ=Q .normal (fr.keep ks) σ:=nr rfl
theorem w_q {q:IQ}:opT pt ct P E (.q q) id fr σ K=hf7 (evq E fr σ q) σ K:=nr rfl
theorem bu1 {z:List IV}:opT pt ct P E (.alloc z) id fr σ K=K (.ptr id 0) (σ.put id (.cells z)):=nr rfl
theorem eo5 {x:IX}:opT pt ct P E (.box x) id fr σ K=((x.ev E fr).cs.all IV.leaf=true/\K (.ptr id 0) (σ.put id (.cells (x.ev E fr).cs))):=nr rfl
theorem eo6 {esz n:Nat}{z:List IV}{ps:List (Nat×Nat×IX)}:opT pt ct P E (.bsl esz n z ps) id fr σ K=ja9 (an2 (rep z n) (ps.map fun p=>(p.1,p.2.1,p.2.2.ev E fr))) id n esz σ K:=nr rfl
theorem bu2 {sz:Nat}{x y:IX}:opT pt ct P E (.store sz x y) id fr σ K=ih5 (ak3 σ sz (x.ev E fr) (y.ev E fr)) K:=nr rfl
def jb1 (v:IV)(id:Nat)(σ:Store)(K:IV->Store->Prop):Prop:=match v with
 | .str s=>K (.ptr id 0) (σ.put id (.as1 s 0))
 | _=>False
theorem cr1 {s:List UInt8}:jb1 (.str s) id σ K=K (.ptr id 0) (σ.put id (.as1 s 0)):=nr rfl
theorem bg7 {x:IX}:opT pt ct P E (.aw5 x) id fr σ K=jb1 (x.ev E fr) id σ K:=nr rfl
theorem bu3 {x:IX}:opT pt ct P E (.bq1 x) id fr σ K=ih6 (bc6 σ (x.ev E fr)) K:=nr rfl
theorem bu4:opT pt ct P E .bp9 id fr σ K=K (.map id) (σ.put id (.map [])):=nr rfl
theorem cr2 {tag:Nat}{x k y:IX}:opT pt ct P E (.dv3 tag x k y) id fr σ K=ih5 (aq7 σ tag (x.ev E fr) (k.ev E fr) (y.ev E fr)) K:=nr rfl
theorem eo7 {esz:Nat}{s x:IX}:opT pt ct P E (.app esz s x) id fr σ K=ih6 (aq2 σ id esz (s.ev E fr) (x.ev E fr)) K:=nr rfl
theorem cr3 {f:Nat}{args:List IX}:opT pt ct P E (.call f args) id fr σ K=ci4 P E (ct f (args.map (·.ev E fr)) σ) f (args.map (·.ev E fr)) σ K:=nr rfl
theorem bu5 {f:Nat}{args:List IX}:opT pt ct P E (.ae7 f args) id fr σ K=gg7 P E (pt f (args.map (·.ev E fr))) f (args.map (·.ev E fr)) σ K:=nr rfl
theorem bg8 {x:IX}{args:List IX}:opT pt ct P E (.ap5 x args) id fr σ K=fo6 ct P E (x.ev E fr) (args.map (·.ev E fr)) σ K:=nr rfl
theorem eo8:bq4 pt ct P E [] id fr σ Kf=Kf fr σ:=nr rfl
theorem cr4 {d:Option Nat}{op:IK}{rest:List ac8}:bq4 pt ct P E (⟨d,none,op⟩::rest) id fr σ Kf=opT pt ct P E op id fr σ (gg8 pt ct P E rest (if op.lays then id+1 else id) d fr Kf):=nr rfl
theorem eo9 {d:Option Nat}{op:IK}{rest:List ac8}{s:Nat}{want:Bool}:bq4 pt ct P E (⟨d,some (s,want),op⟩::rest) id fr σ Kf=hs8 pt ct P E (fr.get s) want op id fr σ (gg8 pt ct P E rest (if op.lays then id+1 else id) d fr Kf):=nr rfl
theorem cr5 {B:Bool}:be6 pt ct P E B [] id fr σ Kf=Kf fr σ:=nr rfl
theorem bu6 {d:Option Nat}{op:IK}{rest:List ac8}:be6 pt ct P E false (⟨d,none,op⟩::rest) id fr σ Kf=opT pt ct P E op id fr σ (dw2 pt ct P E false rest (id+1) d fr Kf):=by
 have:be6 pt ct P E false (⟨d,none,op⟩::rest) id fr σ Kf=((false=true->bm8 E fr σ op)/\opT pt ct P E op id fr σ (dw2 pt ct P E false rest (id+1) d fr Kf)):=nr rfl;rw[this]; simp
theorem bu7 {d:Option Nat}{op:IK}{rest:List ac8}:be6 pt ct P E true (⟨d,none,op⟩::rest) id fr σ Kf=(bm8 E fr σ op/\opT pt ct P E op id fr σ (dw2 pt ct P E true rest (id+1) d fr Kf)):=by
 have:be6 pt ct P E true (⟨d,none,op⟩::rest) id fr σ Kf=((true=true->bm8 E fr σ op)/\opT pt ct P E op id fr σ (dw2 pt ct P E true rest (id+1) d fr Kf)):=nr rfl;rw[this]; simp
theorem cr6 {B:Bool}{d:Option Nat}{op:IK}{rest:List ac8}{s:Nat}{want:Bool}:be6 pt ct P E B (⟨d,some (s,want),op⟩::rest) id fr σ Kf=fc6 pt ct P E B (fr.get s) want op id fr σ (dw2 pt ct P E B rest (id+1) d fr Kf):=nr rfl
theorem ep1 {op:IK}:hs8 pt ct P E (.bool true) true op id fr σ K=opT pt ct P E op id fr σ K:=nr rfl
theorem ep2 {op:IK}:hs8 pt ct P E (.bool false) false op id fr σ K=opT pt ct P E op id fr σ K:=nr rfl
theorem ep3 {op:IK}:hs8 pt ct P E (.bool true) false op id fr σ K=K skV σ:=nr rfl
theorem ep4 {op:IK}:hs8 pt ct P E (.bool false) true op id fr σ K=K skV σ:=nr rfl
theorem ep5 {op:IK}:fc6 pt ct P E false (.bool true) true op id fr σ K=opT pt ct P E op id fr σ K:=by simp[fc6,fy4,fc5]
theorem ep6 {op:IK}:fc6 pt ct P E false (.bool false) false op id fr σ K=opT pt ct P E op id fr σ K:=by simp[fc6,fy4,fc5]
theorem ep7 {B:Bool}{op:IK}:fc6 pt ct P E B (.bool true) false op id fr σ K=K skV σ:=nr rfl
theorem ep8 {B:Bool}{op:IK}:fc6 pt ct P E B (.bool false) true op id fr σ K=K skV σ:=nr rfl
theorem ep9 {op:IK}:fc6 pt ct P E true (.bool true) true op id fr σ K=(bm8 E fr σ op/\opT pt ct P E op id fr σ K):=by simp[fc6,fy4,fc5]
theorem eq1 {op:IK}:fc6 pt ct P E true (.bool false) false op id fr σ K=(bm8 E fr σ op/\opT pt ct P E op id fr σ K):=by simp[fc6,fy4,fc5]
theorem ht4 {op:IK}{want:Bool}:hs8 pt ct P E skV want op id fr σ K=K skV σ:=nr rfl
theorem ht5 {B want:Bool}{op:IK}:fc6 pt ct P E B skV want op id fr σ K=K skV σ:=nr rfl
theorem cr7:wpT pt ct P E N n0 .skip fr σ Q=Q .normal fr σ:=nr rfl
theorem eq2 {i:Nat}{ops:List ac8}{ks:List Nat}:wpT pt ct P E N n0 (.reg i ops ks) fr σ Q=bq4 pt ct P E ops σ.next fr ⟨σ.next+az5 ops,σ.obj⟩ (hf8 ks Q):=nr rfl
theorem cr8 {i:Nat}{ops:List ac8}{B:Bool}{ks:List Nat}:wpT pt ct P E N n0 (.dreg i ops B ks) fr σ Q=be6 pt ct P E B ops σ.next fr ⟨σ.next+ops.length,σ.obj⟩ (hf8 ks Q):=nr rfl
theorem eq3 {x y:IC}:wpT pt ct P E N n0 (.seq x y) fr σ Q=wpT pt ct P E N n0 x fr σ (in7 pt ct P E N n0 y Q):=nr rfl
theorem cr9 {i:IX}{x y:IC}:wpT pt ct P E N n0 (.cond i x y) fr σ Q=hf9 pt ct P E N n0 (i.ev E fr) x y fr σ Q:=nr rfl
theorem bu8 {i:Nat}{x:IC}:wpT pt ct P E N n0 (.block i x) fr σ Q=wpT pt ct P E N n0 x fr σ (be2 i Q):=nr rfl
theorem cs3 {x:IC}:wpT pt ct P E N n0 (.loop x) fr σ Q=RI P E N n0 (.loop x) fr σ Q:=nr rfl
theorem bu9 {g:IX}{ps:List Nat}{x y:IC}:wpT pt ct P E N n0 (.rfunc g ps y x) fr σ Q=RI P E N n0 (.rfunc g ps y x) fr σ Q:=nr rfl
def fo7 (v:IV)(id:Nat)(σ:Store)(K:IV->Store->Prop):Prop:=match v with
 | .am4 es=>K (.ptr id 0) (σ.put id (.aj5 es none))
 | _=>False
def gs9 (o:Option (Nat×List (IV×IV)))(σ:Store)(K:IV->Store->Prop):Prop:=bt3 o fun r=>(r.2=[]->K (.tuple [.bool false]) σ) /\
   ∀ j,j<r.2.length->K (.tuple [.bool true,(r.2.getD j (.undef,.undef)).1,(r.2.getD j (.undef,.undef)).2]) (σ.put r.1 (.aj5 (r.2.eraseIdx j) (some (r.2.getD j (.undef,.undef)))))
theorem bg9 {x:IX}:opT pt ct P E (.at7 x) id fr σ K=fo7 (x.ev E fr) id σ K:=nr rfl
theorem az6 {es:List (IV×IV)}:fo7 (.am4 es) id σ K=K (.ptr id 0) (σ.put id (.aj5 es none)):=nr rfl
theorem bv1 {x:IX}:opT pt ct P E (.bm7 x) id fr σ K=gs9 (at6 σ (x.ev E fr)) σ K:=nr rfl
theorem bh2 {i:Nat}{l:List (IV×IV)}:gs9 (some (i,l)) σ K=((l=[]->K (.tuple [.bool false]) σ) /\
   ∀ j,j<l.length->K (.tuple [.bool true,(l.getD j (.undef,.undef)).1,(l.getD j (.undef,.undef)).2]) (σ.put i (.aj5 (l.eraseIdx j) (some (l.getD j (.undef,.undef)))))):=nr rfl
theorem cs4 {x:IX}:opT pt ct P E (.dv4 x) id fr σ K=hf7 (be1 σ (x.ev E fr)) σ K:=nr rfl
theorem cs5 {x:IX}:opT pt ct P E (.aj8 x) id fr σ K=((x.ev E fr).cs.all IV.leaf=true/\K (.ad4 (x.ev E fr).cs) σ):=nr rfl
def ih7 (o:Option (List IV))(esz n:Nat)(σ:Store)(K:IV->Store->Prop):Prop:=bt3 o fun out=>K (.aa3 (chunk esz n out)) σ
theorem cs6 {esz n:Nat}{z:List IV}{ps:List (Nat×Nat×IX)}:opT pt ct P E (.as5 esz n z ps) id fr σ K=ih7 (an2 (rep z n) (ps.map fun p=>(p.1,p.2.1,p.2.2.ev E fr))) esz n σ K:=nr rfl
theorem bv2 {esz n:Nat}{out:List IV}:ih7 (some out) esz n σ K=K (.aa3 (chunk esz n out)) σ:=nr rfl
theorem cs7 {i:Nat}:wpT pt ct P E N n0 (.exit i) fr σ Q=Q (.exit i) fr σ:=nr rfl
theorem eq4:wpT pt ct P E N n0 .ret fr σ Q=Q .ret fr σ:=nr rfl
theorem ht6 {x y:IC}:hf9 pt ct P E N n0 (.bool true) x y fr σ Q=wpT pt ct P E N n0 x fr σ Q:=nr rfl
theorem ht7 {x y:IC}:hf9 pt ct P E N n0 (.bool false) x y fr σ Q=wpT pt ct P E N n0 y fr σ Q:=nr rfl
theorem eq5 {y:IC}:in7 pt ct P E N n0 y Q .normal fr σ=wpT pt ct P E N n0 y fr σ Q:=nr rfl
theorem eq6 {y:IC}{i:Nat}:in7 pt ct P E N n0 y Q (.exit i) fr σ=Q (.exit i) fr σ:=nr rfl
theorem eq7 {y:IC}:in7 pt ct P E N n0 y Q .ret fr σ=Q .ret fr σ:=nr rfl
theorem eq8 {i:Nat}:be2 i Q .normal fr σ=Q .normal fr σ:=nr rfl
theorem eq9 {i:Nat}:be2 i Q .ret fr σ=Q .ret fr σ:=nr rfl
theorem er1 {i j:Nat}:be2 i Q (.exit j) fr σ=if j=i then Q .normal fr σ else Q (.exit j) fr σ:=nr rfl
theorem er2 {I:Nat->Frm->Store->Prop}{m:Nat}:du2 I m Q .normal fr σ=∃ m',m'<m/\I m' fr σ:=nr rfl
theorem er3 {I:Nat->Frm->Store->Prop}{m i:Nat}:du2 I m Q (.exit i) fr σ=Q (.exit i) fr σ:=nr rfl
theorem er4 {I:Nat->Frm->Store->Prop}{m:Nat}:du2 I m Q .ret fr σ=Q .ret fr σ:=nr rfl
theorem er5 {irs:List IR}{Qc:IV->Store->Prop}:fo5 irs Qc .ret fr σ=bt3 (irL σ fr irs) fun vs=>Qc (dc2 vs) σ:=nr rfl
theorem cs8 {irs:List IR}{Qc:IV->Store->Prop}:fo5 irs Qc .normal fr σ=bt3 (irL σ fr irs) fun vs=>Qc (dc2 vs) σ:=nr rfl
end Go.Id
/- What the walk of a compiled code is rewritten by: the operations. Conditions: none; over any program. -/
namespace Go.Id
open Go
variable {P:Program} {E:Nat->IV} {σ σ':Store} {fr:Frm} {x y z:IX} {k k':IntKind} {a b:Int} {s t:List UInt8} {n m off esz len:Nat} {v u:IV}
theorem ab4 {i:Nat}{o:ak2}:(σ.put i o).next=σ.next:=nr rfl
theorem aa5 {i j:Nat}{o:ak2}:(σ.put i o).obj j=if j=i then some o else σ.obj j:=nr rfl
theorem e_t:(IX.t n).ev E fr=fr.get n:=nr rfl
theorem e_c:(IX.c v).ev E fr=v:=nr rfl
theorem e_g:(IX.g n).ev E fr=E n:=nr rfl
theorem e_f:(IX.f n).ev E fr=.func (.func n) [] []:=nr rfl
theorem er6:evq E fr σ (.mov x)=some (x.ev E fr):=nr rfl
theorem cs9:evq E fr σ (.pick x y z)=dj4 (x.ev E fr) (y.ev E fr) (z.ev E fr):=nr rfl
theorem er7:evq E fr σ (.not x)=hr5 (x.ev E fr):=nr rfl
theorem er8:evq E fr σ (.neg x)=hr6 (x.ev E fr):=nr rfl
theorem er9 {op:BinOp}:evq E fr σ (.bin op x y)=at1 op (x.ev E fr) (y.ev E fr):=nr rfl
theorem ak4 {d:TypeDesc}{g:Bool}:evq E fr σ (.bc9 d g x)=(bs3 d (x.ev E fr)).map fun b=>.bool (b ^^ g):=nr rfl
theorem es3 {tags:List Nat}{g h:Bool}:evq E fr σ (.eqs tags g h x y)=fy2 tags g h (x.ev E fr) (y.ev E fr):=nr rfl
theorem ct1:evq E fr σ (.conv k x)=ek1 k (x.ev E fr):=nr rfl
theorem bv3:evq E fr σ (.ga4 x)=co3 (x.ev E fr):=nr rfl
theorem es4:evq E fr σ (.len n x)=cd7 n σ (x.ev E fr):=nr rfl
theorem bv4:evq E fr σ (.aa7 off x)=cb5 off (x.ev E fr):=nr rfl
theorem es5 {ag:Option Nat}:evq E fr σ (.fld ag off x)=gw4 ag off (x.ev E fr):=nr rfl
theorem bv5:evq E fr σ (.ab5 esz x y)=an1 esz (x.ev E fr) (y.ev E fr):=nr rfl
theorem bv6:evq E fr σ (.cn1 n esz x y)=cf6 n esz (x.ev E fr) (y.ev E fr):=nr rfl
theorem es6 {ag:Option Nat}:evq E fr σ (.idx ag n esz x y)=go9 ag n esz (x.ev E fr) (y.ev E fr):=nr rfl
theorem ct2:evq E fr σ (.ba9 x y)=cz9 (x.ev E fr) (y.ev E fr):=nr rfl
theorem es7 {lo hi:Option IX}:evq E fr σ (.slc esz x lo hi)=cb6 esz (lo.map (·.ev E fr)) (hi.map (·.ev E fr)) (x.ev E fr):=nr rfl
theorem ct3 {lo hi:Option IX}:evq E fr σ (.el1 x lo hi)=bs2 (lo.map (·.ev E fr)) (hi.map (·.ev E fr)) (x.ev E fr):=nr rfl
theorem es8:evq E fr σ (.slz x)=fd7 (x.ev E fr):=nr rfl
theorem es9:evq E fr σ (.ext n x)=gp1 n (x.ev E fr):=nr rfl
theorem et1 {fs cs:List IX}:evq E fr σ (.mkf n fs cs)=some (.func (.func n) (fs.map (·.ev E fr)) (cs.map (·.ev E fr))):=nr rfl
theorem et2 {zs:List IV}{ps:List (Nat×Nat×IX)}:evq E fr σ (.bld zs ps)=(an2 zs (ps.map fun p=>(p.1,p.2.1,p.2.2.ev E fr))).map .agg:=nr rfl
theorem ct4 {ag:Option Nat}:evq E fr σ (.load ag x)=ap4 σ ag (x.ev E fr):=nr rfl
theorem ct5:evq E fr σ (.am7 x)=da2 (x.ev E fr):=nr rfl
theorem gt1 {mx:Bool}:evq E fr σ (.mm mx x y)=mmI mx (x.ev E fr) (y.ev E fr):=nr rfl
theorem dm4:mmI true (.int k a) (.int k' b)=some (.int k (if b>a then b else a)):=by simp[mmI]
theorem dw3:mmI false (.int k a) (.int k' b)=some (.int k (if b<a then b else a)):=by simp[mmI]
theorem dw4 {zero:IV}{ok:Bool}:evq E fr σ (.lkp n zero ok x y)=co5 σ n zero ok (x.ev E fr) (y.ev E fr):=nr rfl
theorem bv7:Frm.keep fr []=[]:=nr rfl
theorem bv8 {ks:List Nat}:Frm.keep fr (n::ks)=(n,fr.get n)::Frm.keep fr ks:=nr rfl
theorem ct6:ax2 [] n=[]:=nr rfl
theorem ct7 {vs:List IV}:ax2 (v::vs) n=(n,v)::ax2 vs (n+1):=nr rfl
theorem bv9:az5 []=0:=nr rfl
theorem bw1 {d:Option Nat}{g:Option (Nat×Bool)}{op:IK}{os:List ac8}:az5 (⟨d,g,op⟩::os)=(if op.lays=true then 1 else 0)+az5 os:=nr (bt1 _ _)
theorem ht8 {q:IQ}:(IK.q q).lays=false:=nr rfl
theorem bh3 {zs:List IV}:(IK.alloc zs).lays=true:=nr rfl
theorem ct8:(IK.box x).lays=true:=nr rfl
theorem ct9 {zs:List IV}{ps:List (Nat×Nat×IX)}:(IK.bsl esz n zs ps).lays=true:=nr rfl
theorem cu1:(IK.app esz x y).lays=true:=nr rfl
theorem bh4:IK.bp9.lays=true:=nr rfl
theorem bw2:(IK.dv3 n x y z).lays=false:=nr rfl
theorem az7:(IK.aw5 x).lays=true:=nr rfl
theorem bh5:(IK.bq1 x).lays=false:=nr rfl
theorem az8:(IK.at7 x).lays=true:=nr rfl
theorem bw3 {zs:List IV}:(IK.cp7 esz zs x).lays=true:=nr rfl
theorem cu2 {zs:List IV}:(IK.clr esz zs x).lays=false:=nr rfl
theorem bw4:(IK.dv4 x).lays=false:=nr rfl
theorem bh6:(IK.bm7 x).lays=false:=nr rfl
theorem bw5:(IK.aj8 x).lays=false:=nr rfl
theorem bw6 {zs:List IV}{ps:List (Nat×Nat×IX)}:(IK.as5 esz n zs ps).lays=false:=nr rfl
theorem iv3:evq E fr σ (.ibs x y)=hr7 (x.ev E fr) (y.ev E fr):=nr rfl
theorem ih8:hr7 (.str s) (.int .u8 a)=if 0<=a/\a<256 then some (.int .i64 (dr8 a.toNat s 0)) else none:=nr rfl
theorem bh7:(IK.store n x y).lays=false:=nr rfl
theorem bw7 {xs:List IX}:(IK.call n xs).lays=false:=nr rfl
theorem bh8 {xs:List IX}:(IK.ae7 n xs).lays=false:=nr rfl
theorem bh9 {xs:List IX}:(IK.ap5 x xs).lays=false:=nr rfl
theorem cu3 {α β:Type}{f:α->β}:List.map f []=[]:=nr rfl
theorem cu4 {α β:Type}{f:α->β}{c:α}{cs:List α}:List.map f (c::cs)=f c::List.map f cs:=nr rfl
theorem dw5 {α β:Type}{f:α->β}:Option.map f none=none:=nr rfl
theorem dw6 {α β:Type}{f:α->β}{c:α}:Option.map f (some c)=some (f c):=nr rfl
theorem bw8:dj4 (.bool true) v u=some v:=nr rfl
theorem bw9:dj4 (.bool false) v u=some u:=nr rfl
theorem bx2 {c d:Bool}:dj4 (.bool c) (.bool true) (.bool d)=some (.bool (c||d)):=by cases c<;>rfl
theorem bx3 {c d:Bool}:dj4 (.bool c) (.bool d) (.bool false)=some (.bool (c&&d)):=by cases c<;>rfl
theorem cu5 {c:Bool}:hr5 (.bool c)=some (.bool !c):=nr rfl
theorem cu6:hr6 (.int k a)=some (.int k (k.wrap (0-a))):=nr rfl
theorem bx4:ek1 k (.int k' a)=some (.int k (k.wrap a)):=nr rfl
theorem bi1:co3 (.str s)=some (.str s):=nr rfl
theorem et3:at1 .add (.int k a) (.int k b)=some (.int k (k.wrap (a+b))):=by simp[at1,ds2]
theorem et4:at1 .sub (.int k a) (.int k b)=some (.int k (k.wrap (a-b))):=by simp[at1,ds2]
theorem et5:at1 .mul (.int k a) (.int k b)=some (.int k (k.wrap (a*b))):=by simp[at1,ds2]
theorem et6:at1 .quo (.int k a) (.int k b)=if b=0 then none else some (.int k (k.wrap (a.tdiv b))):=by simp[at1,ds2]
theorem et7:at1 .rem (.int k a) (.int k b)=if b=0 then none else some (.int k (a.tmod b)):=by simp[at1,ds2]
theorem et8:at1 .eql (.int k a) (.int k b)=some (.bool (decide (a=b))):=by simp[at1,ds2]
theorem et9:at1 .neq (.int k a) (.int k b)=some (.bool (!decide (a=b))):=by simp[at1,ds2]
theorem eu1:at1 .lss (.int k a) (.int k b)=some (.bool (decide (a<b))):=by simp[at1,ds2]
theorem eu2:at1 .leq (.int k a) (.int k b)=some (.bool (decide (a<=b))):=by simp[at1,ds2]
theorem eu3:at1 .gtr (.int k a) (.int k b)=some (.bool (decide (b<a))):=by simp[at1,ds2]
theorem eu4:at1 .geq (.int k a) (.int k b)=some (.bool (decide (b<=a))):=by simp[at1,ds2]
theorem eu5:at1 .shl (.int k a) (.int k' b)=if 0<=b then some (.int k (k.wrap (a*2^(min b.toNat k.bits)))) else none:=by simp[at1]
theorem eu6:at1 .shr (.int k a) (.int k' b)=if 0<=b then some (.int k (a.fdiv (2^(min b.toNat k.bits)))) else none:=by simp[at1]
theorem cu7:at1 .add (.str s) (.str t)=if s.length+t.length<2^62 then some (.str (s++t)) else none:=by simp[at1,fy8]
theorem cu8:at1 .eql (.str s) (.str t)=some (.bool (decide (s=t))):=by simp[at1,fy8]
theorem cu9:at1 .neq (.str s) (.str t)=some (.bool (!decide (s=t))):=by simp[at1,fy8]
theorem cv2:at1 .lss (.str s) (.str t)=some (.bool (Op.bytesLess s t)):=by simp[at1,fy8]
theorem cv3:at1 .leq (.str s) (.str t)=some (.bool (Op.bytesLess s t||decide (s=t))):=by simp[at1,fy8]
theorem cv4:at1 .gtr (.str s) (.str t)=some (.bool (!(Op.bytesLess s t||decide (s=t)))):=by simp[at1,fy8]
theorem cv5:at1 .geq (.str s) (.str t)=some (.bool (!Op.bytesLess s t)):=by simp[at1,fy8]
theorem cv6 {es:List (List IV)}:cd7 0 σ (.aa3 es)=some (.int .i64 es.length):=nr rfl
theorem cv7:cd7 0 σ .aa1=some (.int .i64 0):=nr rfl
theorem cv8:cd7 0 σ .ab9=some (.int .i64 0):=nr rfl
theorem ih9:cd7 0 σ .ad6=some (.int .i64 0):=nr rfl
theorem az9:cd7 0 σ (.slice n off len esz)=some (.int .i64 len):=nr rfl
theorem bb6:cd7 1 σ (.str s)=some (.int .i64 s.length):=nr rfl
theorem bx5:da2 (.ptr n off)=some (.ptr n off):=nr rfl
theorem bx6 {cs:List IV}:da2 (.ad4 cs)=some (.ad4 cs):=nr rfl
theorem bx7 {f:FuncId}{p q:List IV}:da2 (.func (.func f) p q)=some (.func (.func f) p q):=nr rfl
theorem cv9:fd7 .aa1=some .aa1:=nr rfl
theorem cw1:fd7 .ab9=some .ab9:=nr rfl
theorem ii1:fd7 .ad6=some .ab9:=nr rfl
theorem cw2 {es:List (List IV)}:fd7 (.aa3 es)=if es=[] then some (.aa3 []) else some .ab9:=nr rfl
theorem cw3:fd7 (.slice n off len esz)=some .ab9:=nr rfl
theorem eu7:irL σ fr []=some []:=nr rfl
theorem eu8:irL σ fr [.t n]=some [fr.get n]:=nr rfl
theorem cw4:irL σ fr [.t n,.t m]=some [fr.get n,fr.get m]:=nr rfl
theorem eu9 {ag:Option Nat}:irL σ fr [.cell ag n]=(ap4 σ ag (fr.get n)).map fun v=>[v]:=by
 simp only[irL,irV]; cases ap4 σ ag (fr.get n)<;>rfl
theorem bx8:dc2 [v]=v:=nr rfl
theorem bx9:dc2 [v,u]=.tuple [v,u]:=nr rfl
theorem by1:dc2 []=.tuple []:=nr rfl
def dc8 (ag:Option Nat)(off:Nat):Option ak2->Option IV
 | some (.cells cs)|some (.row cs)=>match ag with
  | none=>(cs.drop off).head?
  | some n=>if n<=(cs.drop off).length then some (.agg ((cs.drop off).take n)) else none
 | _=>none
theorem by2 {ag:Option Nat}:ap4 σ ag (.ptr n off)=dc8 ag off (σ.obj n):=by
 cases h:σ.obj n with
 | none=>simp[ap4,aj3,dc8,h]
 | some o=>cases o<;>cases ag<;>simp[ap4,aj3,dc8,h]
theorem by3 {cs:List IV}:ap4 σ none (.ad4 cs)=cs.head?:=nr rfl
theorem bi2 {cs:List IV}:ap4 σ (some n) (.ad4 cs)=if n<=cs.length then some (.agg (cs.take n)) else none:=nr rfl
theorem bk6 {cs:List IV}:dc8 none off (some (.cells cs))=(cs.drop off).head?:=nr rfl
theorem bq5 {cs:List IV}:dc8 (some n) off (some (.cells cs))=if n<=(cs.drop off).length then some (.agg ((cs.drop off).take n)) else none:=nr rfl
theorem ev1 {cs:List IV}:dc8 none off (some (.row cs))=(cs.drop off).head?:=nr rfl
theorem cb9 {cs:List IV}:dc8 (some n) off (some (.row cs))=if n<=(cs.drop off).length then some (.agg ((cs.drop off).take n)) else none:=nr rfl
def dm5 (σ:Store)(id off n:Nat)(vs:List IV):Option ak2->Option Store
 | some (.cells cs)=>if vs.length=n/\off+n<=cs.length/\vs.all IV.leaf=true then some (σ.put id (.cells (ax1 cs off vs))) else none
 | some (.row cs)=>if vs.length=n/\off+n<=cs.length/\vs.all IV.leaf=true then some (σ.put id (.row (ax1 cs off vs))) else none
 | _=>none
theorem bi3:ak3 σ n (.ptr m off) v=dm5 σ m off n v.cs (σ.obj m):=by
 cases h:σ.obj m with
 | none=>simp[ak3,dm5,h]
 | some o=>cases o<;>simp[ak3,dm5,h]
theorem ev2 {cs vs:List IV}:dm5 σ m off n vs (some (.cells cs))=if vs.length=n/\off+n<=cs.length/\vs.all IV.leaf=true then some (σ.put m (.cells (ax1 cs off vs))) else none:=nr rfl
theorem cc1 {cs vs:List IV}:dm5 σ m off n vs (some (.row cs))=if vs.length=n/\off+n<=cs.length/\vs.all IV.leaf=true then some (σ.put m (.row (ax1 cs off vs))) else none:=nr rfl
theorem bi4 {es:List (List IV)}:an1 esz (.aa3 es) (.int k a)=if 0<=a/\a<es.length/\(es.getD a.toNat []).length=esz then some (.ad4 (es.getD a.toNat [])) else none:=nr rfl
theorem bi5:an1 esz (.slice n off len m) (.int k a)=if 0<=a/\a<len/\m=esz then some (.ptr n (off+a.toNat*esz)) else none:=nr rfl
theorem by4 {cs:List IV}:cb5 n (.ad4 cs)=some (.ad4 (cs.drop n)):=nr rfl
theorem by5:cb5 n (.ptr m off)=some (.ptr m (off+n)):=nr rfl
theorem by6 {cs:List IV}:IV.cs (.agg cs)=cs:=nr rfl
theorem by7:IV.cs (.int k a)=[.int k a]:=nr rfl
theorem bi6 {c:Bool}:IV.cs (.bool c)=[.bool c]:=nr rfl
theorem by8:IV.cs (.str s)=[.str s]:=nr rfl
theorem by9:IV.cs (.ptr n off)=[.ptr n off]:=nr rfl
theorem bi7 {cs:List IV}:IV.cs (.ad4 cs)=[.ad4 cs]:=nr rfl
theorem ba1:IV.cs (.slice n off len esz)=[.slice n off len esz]:=nr rfl
theorem av5 {es:List (List IV)}:IV.cs (.aa3 es)=[.aa3 es]:=nr rfl
theorem bi8 {f:Fn}{p q:List IV}:IV.cs (.func f p q)=[.func f p q]:=nr rfl
theorem bz1:IV.cs (.map n)=[.map n]:=nr rfl
theorem bi9 {es:List (IV×IV)}:IV.cs (.am4 es)=[.am4 es]:=nr rfl
theorem cw5:IV.cs .aa1=[.aa1]:=nr rfl
theorem cw6:IV.cs .ab9=[.ab9]:=nr rfl
theorem ii2:IV.cs .ad6=[.ad6]:=nr rfl
theorem cw7:IV.cs .ad5=[.ad5]:=nr rfl
theorem bz2:IV.leaf (.int k a)=true:=nr rfl
theorem bj1 {c:Bool}:IV.leaf (.bool c)=true:=nr rfl
theorem bz3:IV.leaf (.str s)=true:=nr rfl
theorem bz4:IV.leaf (.ptr n off)=true:=nr rfl
theorem bj2 {cs:List IV}:IV.leaf (.ad4 cs)=true:=nr rfl
theorem ba2:IV.leaf (.slice n off len esz)=true:=nr rfl
theorem av6 {es:List (List IV)}:IV.leaf (.aa3 es)=true:=nr rfl
theorem bj3 {f:Fn}{p q:List IV}:IV.leaf (.func f p q)=true:=nr rfl
theorem bz5:IV.leaf (.map n)=true:=nr rfl
theorem bj4 {es:List (IV×IV)}:IV.leaf (.am4 es)=true:=nr rfl
theorem cw8:IV.leaf .aa1=true:=nr rfl
theorem cw9:IV.leaf .ab9=true:=nr rfl
theorem ii3:IV.leaf .ad6=true:=nr rfl
theorem cx1:IV.leaf .ad5=true:=nr rfl
def ed9 (σ:Store)(id:Nat):Option ak2->Option (IV×Store)
 | some (.as1 s pos)=>if pos<s.length then some (.tuple [.bool true,.int .i64 pos,.int .i32 (Utf8.decode ⟨s.toArray⟩ pos).1],σ.put id (.as1 s (pos+(Utf8.decode ⟨s.toArray⟩ pos).2))) else some (.tuple [.bool false],σ)
 | _=>none
theorem bb7:bc6 σ (.ptr n 0)=ed9 σ n (σ.obj n):=by
 cases h:σ.obj n with
 | none=>simp[bc6,ed9,h]
 | some o=>cases o<;>simp[bc6,ed9,h]
theorem gg9 {pos:Nat}:ed9 σ n (some (.as1 s pos))=if pos<s.length then some (.tuple [.bool true,.int .i64 pos,.int .i32 (Utf8.decode ⟨s.toArray⟩ pos).1],σ.put n (.as1 s (pos+(Utf8.decode ⟨s.toArray⟩ pos).2))) else some (.tuple [.bool false],σ):=nr rfl
theorem cx2 {cs:List IV}:gp1 n (.tuple cs)=cs[n]?:=by cases h:cs[n]?<;>simp[gp1,h]
theorem ev3:(Store.mk σ.next σ.obj)=σ:=nr rfl
theorem wrap64 {x:Int}(h1:-9223372036854775808<=x)(h2:x<9223372036854775808):IntKind.i64.wrap x=x:=by
 simp[IntKind.wrap,IntKind.bits,IntKind.signed];omega
end Go.Id
/- Memory that is done with becomes a tree: from the contract of a function that lays blocks to a pure one. Conditions: none; over any program. -/
namespace Go.Id
open Go
variable {P:Program} {w w' w'':World} {ρ ρ' ρ'':Rho} {E:Nat->IV} {σ σ':Store} {N n n':Nat}
abbrev Bnd (n:Nat)(v:IV):Prop:=Nm (fun i=>i<n) v
abbrev dh8 (σ:Store)(n:Nat)(v v':IV):Prop:=Frz σ (fun i=>i<n) v v'
def Rho.cut (ρ:Rho)(n:Nat):Rho:=⟨fun i=>if i<n then ρ i else .no,ρ.X⟩
theorem gt2 (ρ:Rho)(n:Nat):bp2 (fun i=>i<n) ρ (ρ.cut n):=
 ⟨fun i h=>by show (if i<n then ρ i else dh7.no)=_; rw[if_pos h],fun i h=>by show (if i<n then ρ i else dh7.no)=_; rw[if_neg h],fun _ h=>.inl h⟩
theorem ev4 (hf:∀ i,n<=i->ρ i=.no):∀ i,ρ i≠.no->i<n:=fun i h=>by
 rcases Nat.lt_or_ge i n with h'|h'
 ·exact h'
 ·exact absurd (hf i h') h
theorem iv4 {f:Nat}{args:List IV}{v:IV}
  (h:(∀ a∈args,Bnd σ.next a)->C P E f args σ fun v' σ'=>(∀ i,i<σ.next->σ'.obj i=σ.obj i)/\σ.next<=σ'.next/\dh8 σ' σ.next v' v):C P E f args σ (in6 v σ):=by
 intro ρ w rargs hs ha;have hlv:=ev4 hs.fresh;have hba:∀ a∈args,Bnd σ.next a:=fun a hm=>let ⟨i,hi,he⟩:=ag5 (d:=.undef) hm; he▸(ha.2 i hi).nm hlv
 refine CallsIn.mono (h hba ρ w rargs hs ha) ?_;rintro e w' ⟨v',r,ρ',σ',rfl,⟨hob,hle,hfrz⟩,hs',hv',hx⟩;have hno:∀ i,σ.next<=i->σ.obj i=none:=fun i hi=>hs.al7 i (hs.fresh i hi)
 have hk:=gt2 ρ' σ.next;refine ⟨v,r,ρ'.cut σ.next,σ,rfl,⟨rfl,rfl⟩,hs'.hu8 hk hob (fun i hi=>hno i (by omega)) (fun i o _ ho=>hs.nmO hlv i o ho) (fun i hi=>hk.off i (by omega)) (fun g=>(hs.env g).nm hlv),hfrz.vr hk rfl hs' r hv',?_⟩;exact ⟨hx.size,hx.keep,hx.shape,fun i B d hi=>hx.img i B d (hk.at hi).2,fun i B d hi h=>by rw[hk.on i hi]; exact hx.at_ i B d hi h,fun i hi h=>by rw[hk.on i hi]; exact hx.dead i hi h,fun i hi h=>by rw[hk.on i hi]; exact hx.no i hi h,hx.output,hx.os,hx.tape,hx.loops,hx.X⟩
theorem gt3 {f:Nat}{args:List IV}{v:IV}(h:PC P E f args v):C P E f args σ (in6 v σ):=h σ
theorem gt4 {f:Nat}{args:List IV}{v:IV}
  (h:∀ σ,(∀ a∈args,Bnd σ.next a)->C P E f args σ fun v' σ'=>(∀ i,i<σ.next->σ'.obj i=σ.obj i)/\σ.next<=σ'.next/\dh8 σ' σ.next v' v):PC P E f args v :=
 fun σ=>iv4 (h σ)
theorem iv5 {pt:PT}{ct:CT}{pf:List Nat}(hT:TOK P E pt ct){f:Nat}{an:Ann}{ic:IC}{irs:List IR}{args:List IV}{v:IV}(hf:fo4 P f N pf an ic irs)(hl:args.length<=N)
  (h:∀ σ,(∀ a∈args,Bnd σ.next a)->wpT pt ct P E N σ.next ic (ax2 args 0) σ (fo5 irs fun v' σ'=>(∀ i,i<σ.next->σ'.obj i=σ.obj i)/\σ.next<=σ'.next/\dh8 σ' σ.next v' v)):PC P E f args v :=
 gt4 fun σ hb=>C_T hT hf hl (h σ hb)
def IV.plain:IV->Bool
 | .bool _|.int _ _|.str _=>true
 | .tuple vs=>vs.attach.all fun ⟨v,_⟩=>v.plain
 | .agg vs=>vs.attach.all fun ⟨v,_⟩=>v.plain
 | _=>false
theorem gh1 {v:IV}{r:Value}(h:v.plain=true)(hv:VR ρ w v r):VR ρ' w' v r:=by
 induction hv with
 | bool b=>exact .bool _
 | int k n=>exact .int _ _
 | str s=>exact .str _
 | agg cs rs hl hv ih=>
  refine .agg cs rs hl fun i hi=>ih i hi ?_
  unfold IV.plain at h
  exact List.all_eq_true.1 h ⟨_,ad3 .undef hi⟩ (List.mem_attach _ _)
 | tuple cs rs hl hv ih=>
  refine .tuple cs rs hl fun i hi=>ih i hi ?_
  unfold IV.plain at h
  exact List.all_eq_true.1 h ⟨_,ad3 .undef hi⟩ (List.mem_attach _ _)
 | _=>simp[IV.plain] at h
theorem ci5 (S:Nat->Prop)(ρ:Rho):∃ ρ':Rho,bp2 S ρ ρ'/\∀ b,ρ'.X b↔ρ.X b\/∃ i d,¬ S i/\ρ i=.at b d:=by
 refine ⟨⟨fun i=>if Classical.propDecidable (S i) |>.decide then ρ i else .no,fun b=>ρ.X b\/∃ i d,¬ S i/\ρ i=.at b d⟩,⟨fun i h=>?_,fun i h=>?_,fun b h=>h⟩,fun b=>Iff.rfl⟩
 ·show (if (Classical.propDecidable (S i)).decide=true then ρ i else dh7.no)=_;rw[if_pos (by simpa using h)]
 ·show (if (Classical.propDecidable (S i)).decide=true then ρ i else dh7.no)=_;rw[if_neg (by simpa using h)]
def Store.only (σ:Store)(S:Nat->Bool):Store:=⟨σ.next,fun i=>if S i then σ.obj i else none⟩
def Store.back (σ' σ:Store)(S:Nat->Bool):Store:=⟨σ'.next,fun i=>if S i then σ'.obj i else σ.obj i⟩
theorem dc9 {f:Nat}{args:List IV}{v:IV}(hE:∀ g,Bnd 0 (E g))(ha:∀ a∈args,Bnd 0 a)(h:C P E f args ⟨0,fun _=>none⟩ fun v' σ'=>dh8 σ' 0 v' v):PC P E f args v:=by
 intro σ ρ w rargs hs hr;obtain ⟨ρ0,hk,hX⟩:=ci5 (fun _=>False) ρ;have hs0:Sim E ρ0 w ⟨0,fun _=>none⟩:=hs.hu8 hk (fun i h=>h.elim) (fun _ _=>rfl) (fun i o h=>h.elim) (fun i _=>hk.off i (fun h=>h)) (fun g=>(hE g).weak fun i h=>absurd h (Nat.not_lt_zero _));have hr0:CR ρ0 w args rargs:=⟨hr.1,fun i hi=>(hr.2 i hi).cut hk ((ha _ (ad3 _ hi)).weak fun i h=>absurd h (Nat.not_lt_zero _))⟩;refine CallsIn.mono (h ρ0 w rargs hs0 hr0) ?_;rintro e w' ⟨v',r,ρ',σ',rfl,hfz,hs',hv',hx⟩;have hno0:∀ i,ρ0 i=.no:=fun i=>hk.off i (fun h=>h)
 have hkeep:∀ b,b<w.heap.size->w'.heap[b]? = w.heap[b]?:=fun b hb=>hx.keep b ⟨hb,fun i d h=>by rw[hno0 i] at h; cases h⟩
 have hlt:∀ (b:Nat) (o:Obj),w.heap[b]? = some o->b<w.heap.size:=fun b o h=>by
  rcases Nat.lt_or_ge b w.heap.size with h'|h'
  ·exact h'
  ·rw[Array.getElem?_eq_none h'] at h; cases h
 have hext:∀ n,Ext n ρ w ρ w':=fun n=>
  ⟨hx.size,fun b hb=>hkeep b hb.1,fun b rcs el fz h=>⟨rcs,by rw[hkeep b (hlt b _ h)]; exact h,rfl⟩,fun i B d h=>.inl ⟨i,d,h⟩,fun i B d h=>.inl h,fun i h=>h,fun i _ h=>h,hx.output,hx.os,hx.tape,fun l L h=>⟨L,by rw[hkeep l (hlt l _ h)]; exact h⟩,rfl⟩
 -- the tree lies on no block that is in use
 let ρ1:Rho:=⟨fun _=>.no,ρ'.X⟩;have hk1:bp2 (fun i=>i<0) ρ' ρ1:=⟨fun i h=>absurd h (Nat.not_lt_zero _),fun i _=>rfl,fun b h=>.inl h⟩;have hv1:VR ρ1 w' v r:=hfz.vr hk1 rfl hs' r hv'
 have hv2:VR ρ w' v r:=hv1.refs (fun i h=>absurd rfl h) fun b hb=>⟨hb.1,fun i d hi=>hb.3 (by
   show ρ'.X b;rw[hx.X];exact (hX b).2 (.inr ⟨i,d,fun h=>h,hi⟩)),fun hxb=>hb.3 (by
   show ρ'.X b;rw[hx.X];exact (hX b).2 (.inl hxb))⟩
 refine ⟨v,r,ρ,σ,rfl,⟨rfl,rfl⟩,⟨hs.inj,fun i B d h=>Nat.lt_of_lt_of_le (hs.lt i B d h) hx.size,fun i B d h=>?_,hs.dead,hs.fresh,hs.al7,fun g=>(hs.env g).mono (hext 0),hs.nx,fun b h=>Nat.lt_of_lt_of_le (hs.xlt b h) hx.size⟩,hv2,(hext σ.next).weak (Nat.le_refl _)⟩;obtain ⟨o,h1,h2⟩:=hs.obj i B d h;exact ⟨o,h1,h2.mono (hext 0) (hkeep B (hs.lt i B d h))⟩
def Store.kills (σ:Store)(S:Nat->Bool):Store:=⟨σ.next,fun i=>if S i then σ.obj i else none⟩
theorem bb8 {S:Nat->Bool}(hs:Sim E ρ w σ):∃ ρd:Rho,Sim E ρd w (σ.kills S)/\(∀ n,Ext n ρ w ρd w)/\∀ v v' r,Frz σ (fun i=>S i=true) v v'->VR ρ w v r->VR ρd w v' r:=by
 let ρc:Rho:=⟨fun i=>if S i then ρ i else .no,ρ.X⟩;let ρd:Rho:=⟨fun i=>if S i then ρ i else match ρ i with|.no=>.no|_=>.dead,ρ.X⟩;have con:∀ i,S i=true->ρc i=ρ i:=fun i h=>by show (if S i=true then ρ i else .no)=_; rw[if_pos h]
 have coff:∀ i,S i=false->ρc i=.no:=fun i h=>by show (if S i=true then ρ i else .no)=_; rw[if_neg (by simp[h])]
 have don:∀ i,S i=true->ρd i=ρ i:=fun i h=>by show (if S i=true then ρ i else _)=_; rw[if_pos h]
 have doff:∀ i,S i=false->ρd i=(match ρ i with|.no=>.no|_=>.dead):=fun i h=>by show (if S i=true then ρ i else _)=_; rw[if_neg (by simp[h])]
 have hdat:∀ i B d,ρd i=.at B d->S i=true/\ρ i=.at B d:=fun i B d h=>by
  cases hsi:S i with
  | true=>rw[don i hsi] at h; exact ⟨rfl,h⟩
  | false=>rw[doff i hsi] at h; cases hri:ρ i<;>rw[hri] at h<;>cases h
 have hk:bp2 (fun i=>S i=true) ρ ρc:=⟨con,fun i h=>coff i (by simpa using h),fun b h=>.inl h⟩
 have hxd:∀ n,Ext n ρ w ρd w:=fun n=>da4 (fun i B d h=>by
   cases hsi:S i with
   | true=>rw[don i hsi]; exact .inl h
   | false=>rw[doff i hsi,h]; exact .inr rfl) (fun i h=>by
   cases hsi:S i with
   | true=>rw[don i hsi]; exact h
   | false=>rw[doff i hsi,h]) (fun i _ h=>by
   cases hsi:S i with
   | true=>rw[don i hsi]; exact h
   | false=>rw[doff i hsi,h]) (fun i B d h=>⟨i,d,(hdat i B d h).2⟩) rfl
 have hxc:Ext 0 ρc w ρd w:=da4 (fun i B d h=>by
   obtain ⟨h1,h2⟩:=hk.at h;exact .inl (by rw[don i h1]; exact h2)) (fun i h=>by
   cases hsi:S i with
   | true=>rw[con i hsi] at h; rw[don i hsi]; exact h
   | false=>rw[coff i hsi] at h; cases h) (fun i hi _=>absurd hi (Nat.not_lt_zero _)) (fun i B d h=>⟨i,d,by rw[con i (hdat i B d h).1]; exact (hdat i B d h).2⟩) rfl
 refine ⟨ρd,?_,hxd,fun v v' r hf hv=>(hf.vr hk rfl hs r hv).mono hxc⟩;refine ⟨fun i j B d d' hi hj=>hs.inj i j B d d' (hdat _ _ _ hi).2 (hdat _ _ _ hj).2,fun i B d hi=>hs.lt i B d (hdat _ _ _ hi).2,fun i B d hi=>?_,fun i hi=>?_,fun i hi=>?_,fun i hi=>?_,fun g=>(hs.env g).mono (hxd 0),fun i B d hi=>hs.nx i B d (hdat _ _ _ hi).2,hs.xlt⟩
 ·obtain ⟨h1,h2⟩:=hdat _ _ _ hi;obtain ⟨o,g1,g2⟩:=hs.obj i B d h2;exact ⟨o,by simp[Store.kills,h1,g1],g2.mono (hxd 0) rfl⟩
 ·cases hsi:S i with
  | true=>rw[don i hsi] at hi; simp[Store.kills,hsi,hs.dead i hi]
  | false=>simp[Store.kills,hsi]
 ·have hn:σ.next<=i:=hi;have:=hs.fresh i hn
  cases hsi:S i with
  | true=>rw[don i hsi]; exact this
  | false=>rw[doff i hsi,this]
 ·cases hsi:S i with
  | true=>rw[don i hsi] at hi; simp[Store.kills,hsi,hs.al7 i hi]
  | false=>simp[Store.kills,hsi]
theorem gt5 {S:Nat->Bool}{f:Nat}{args args':List IV}{Q:IV->Store->Prop}(hl:args'.length=args.length)(ha:∀ i,i<args.length->Frz σ (fun i=>S i=true) (args.getD i .undef) (args'.getD i .undef))
  (h:C P E f args' (σ.kills S) Q):C P E f args σ Q:=by
 intro ρ w rargs hs hr;obtain ⟨ρd,hs0,hxd,hvd⟩:=bb8 (S:=S) hs;have hr0:CR ρd w args' rargs:=⟨by rw[hl]; exact hr.1,fun i hi=>hvd _ _ _ (ha i (by omega)) (hr.2 i (by omega))⟩;refine CallsIn.mono (h ρd w rargs hs0 hr0) ?_;rintro e w' ⟨v,r,ρ',σ',rfl,hq,hs',hv',hx⟩;exact ⟨v,r,ρ',σ',rfl,hq,hs',hv',((hxd σ.next).weak (Nat.le_refl _)).trans hx⟩
theorem gt6 {S:Nat->Bool}{ic:IC}{n0:Nat}{fr fr':Frm}{Q:Exit->Frm->Store->Prop}(hf:∀ t,fr'.get t=fr.get t\/Frz σ (fun i=>S i=true) (fr.get t) (fr'.get t))
  (h:RI P E N n0 ic fr' (σ.kills S) Q):RI P E N n0 ic fr σ Q:=by
 intro pf an c hc hn ro h0 ρ w a hs hfr hd hr;obtain ⟨ρd,hs0,hxd,hvd⟩:=bb8 (S:=S) hs
 have hfr':FR ρd w N fr' a.tmps:=⟨hfr.size,fun t=>by
  rcases hf t with e|e
  ·rw[e]; exact (hfr.get t).mono (hxd 0)
  ·exact hvd _ _ _ e (hfr.get t)⟩
 have hxw:=(hxd n0).weak (Nat.le_refl n0);refine wpIn_mono (h pf an c hc hn ro h0 ρd w a hs0 hfr' (hd.mono hxw) (hr.mono hxw)) ?_;rintro e a' w' ⟨fr2,σ2,ρ2,hn2,q,hs2,hf2,hd2,hr2,hx2⟩;exact ⟨fr2,σ2,ρ2,hn2,q,hs2,hf2,hd2,hr2,hxw.trans hx2⟩
theorem fo8 {f:Nat}{args args':List IV}{v:IV}(hE:∀ g,Bnd 0 (E g))(hl:args'.length=args.length)(ha:∀ i,i<args.length->dh8 σ 0 (args.getD i .undef) (args'.getD i .undef))(hp:v.plain=true)(h:PC P E f args' v):C P E f args σ (in6 v σ):=by
 intro ρ w rargs hs hr;have hk:=gt2 ρ 0;have hs0:Sim E (ρ.cut 0) w ⟨0,fun _=>none⟩:=hs.hu8 hk (fun i h=>absurd h (Nat.not_lt_zero _)) (fun _ _=>rfl) (fun i o h=>absurd h (Nat.not_lt_zero _)) (fun i _=>hk.off i (Nat.not_lt_zero _)) hE;have hr0:CR (ρ.cut 0) w args' rargs:=⟨by rw[hl]; exact hr.1,fun i hi=>(ha i (by omega)).vr hk rfl hs _ (hr.2 i (by omega))⟩;refine CallsIn.mono (h ⟨0,fun _=>none⟩ (ρ.cut 0) w rargs hs0 hr0) ?_;rintro e w' ⟨v',r,ρ',σ',rfl,⟨rfl,rfl⟩,hs',hv',hx⟩;have hkeep:∀ b,b<w.heap.size->w'.heap[b]? = w.heap[b]?:=fun b hb=>hx.keep b ⟨hb,fun i d h=>absurd (hk.at h).1 (Nat.not_lt_zero _)⟩
 have hlt:∀ (b:Nat) (o:Obj),w.heap[b]? = some o->b<w.heap.size:=fun b o h=>by
  rcases Nat.lt_or_ge b w.heap.size with h'|h'
  ·exact h'
  ·rw[Array.getElem?_eq_none h'] at h; cases h
 have hext:∀ n,Ext n ρ w ρ w':=fun n=>
  ⟨hx.size,fun b hb=>hkeep b hb.1,fun b rcs el fz h=>⟨rcs,by rw[hkeep b (hlt b _ h)]; exact h,rfl⟩,fun i B d h=>.inl ⟨i,d,h⟩,fun i B d h=>.inl h,fun i h=>h,fun i _ h=>h,hx.output,hx.os,hx.tape,fun l L h=>⟨L,by rw[hkeep l (hlt l _ h)]; exact h⟩,rfl⟩
 refine ⟨_,r,ρ,σ,rfl,⟨rfl,rfl⟩,⟨hs.inj,fun i B d h=>Nat.lt_of_lt_of_le (hs.lt i B d h) hx.size,fun i B d h=>?_,hs.dead,hs.fresh,hs.al7,fun g=>(hs.env g).mono (hext 0),hs.nx,fun b h=>Nat.lt_of_lt_of_le (hs.xlt b h) hx.size⟩,gh1 hp hv',(hext σ.next).weak (Nat.le_refl _)⟩;obtain ⟨o,h1,h2⟩:=hs.obj i B d h;exact ⟨o,h1,h2.mono (hext 0) (hkeep B (hs.lt i B d h))⟩
end Go.Id
