/- A function compiled,whole: its code and its results. Conditions: none; over any program. -/
import Derived.Test.YthmabjmjjonlmaaGreatDoorFwI
import Derived.WideKeyElems2
import Derived.OpenShut
import Derived.FnData
import Derived.Below
import Derived.ChangeSame
import Derived.CallsIn
import Derived.ChangeArms
import Derived.MakeChecks
open Option renaming some→za,none→zb
open List renaming getD_eq_getElem?_getD→zc,getElem?_eq_getElem→zf,getElem?_cons_zero→zg,getElem?_cons_succ→zh,all_eq_true→zi,drop_succ_cons→zk,mem_cons→zl,cons_append→zo,nil_append→zr,head?_cons→zt,append_nil→zu,drop_zero→zv,getElem?_map→z0,all_cons→z2,length_cons→z9,all_nil→qb,mem_map→qg,mem_cons_of_mem→qj,getElem?_append→qk,mem_cons_self→ql
open Array renaming getD_eq_getD_getElem?→zd,getElem?_eq_none→zn,getElem?_eq_getElem→qf
open Nat renaming not_lt_zero→ze,zero_add→zj,succ_ne_zero→zp,reduceEqDiff→zq,lt_of_lt_of_le→zy,le_refl→z1,reduceMul→z7,reduceAdd→z8,reduceLT→qc,add_zero→qd,beq→qe,lt_or_ge→qh,le_of_ble_eq_true→qi
open Bool renaming false_eq_true→zm,xor_false→zw,not_false→zx,xor_true→z3,not_true→z4,and_true→z5,and_self→z6,and_eq_true→qa
open Classical renaming propDecidable→zz
set_option linter.all false
private theorem om{P:Prop}(h:P:=by omega):P:=h
namespace Go.Id
open Go
variable {P:Program} {w w' w'':World} {ρ ρ' ρ'':Rho} {E:Nat->IV} {σ σ':Store} {N n n':Nat} {fr:Frm} {a:Act} {pf:List Nat}
inductive IR where
 | t (n:Nat)
 | cell (agg:Option Nat) (n:Nat)
 deriving Inhabited
def jz8 (P:Program):ResultVar->Option IR
 | .tmp t=>za (.t t)
 | .cell ad t=>match ar2 P t with
  | some agg=>za (.cell agg ad)
  | none=>zb
def fo8 (P:Program):List ResultVar->Option (List IR)
 | []=>za []
 | r::rs=>match jz8 P r,fo8 P rs with
  | some x,za xs=>za (x::xs)
  | _,_=>zb
def irV (σ:Store)(fr:Frm):IR->Option IV
 | .t n=>za (fr.get n)
 | .cell agg n=>ba8 σ agg (fr.get n)
def irL (σ:Store)(fr:Frm):List IR->Option (List IV)
 | []=>za []
 | r::rs=>match irV σ fr r,irL σ fr rs with
  | some v,za vs=>za (v::vs)
  | _,_=>zb
theorem ij5:∀ (rs:List ResultVar) (irs:List IR),fo8 P rs=za irs->hn9 P σ fr rs=irL σ fr irs:=by
 intro rs
 induction rs with
 | nil=>intro irs h; cases h; rfl
 | cons r rs ih=>
  intro irs h;simp only[fo8] at h;split at h
  ·rename_i x xs hx hxs;cases h
   have h1:jq5 P σ fr r=irV σ fr x:=by
    cases r with
    | tmp t=>cases hx; rfl
    | cell ad t=>
     simp only[jz8] at hx;split at hx
     ·rename_i agg hagg;cases hx;simp[jq5,irV,hagg]
     ·cases hx
   simp only[hn9,irL,h1,ih _ hxs];cases irV σ fr x<;>cases irL σ fr xs<;>rfl
  ·cases h
def ij6 (P:Program)(f N:Nat)(pf:List Nat)(an:Ann)(ic:IC)(irs:List IR):Prop :=
 ∃ fn,P.funcs[f]? = za fn/\fn.ntmps=N/\fn.body.bind (bj3 P pf N an)=za ic/\fo8 P fn.results.toList=za irs
theorem ac9 {f:Nat}{fn:Func}{an:Ann}{ic:IC}{irs:List IR}(h:P.funcs[f]? = za fn)(hN:fn.ntmps=N)(hc:fn.body.bind (bj3 P pf N an)=za ic)(hr:fo8 P fn.results.toList=za irs):ij6 P f N pf an ic irs :=
 ⟨fn,h,hN,hc,hr⟩
def jz9 (irs:List IR)(Qc:IV->Store->Prop):Exit->Frm->Store->Prop
 | .normal,fr,σ|.ret,fr,σ=>∃ vs,irL σ fr irs=za vs/\Qc (fo1 vs) σ
 | _,_,_=>False
theorem kj7 {f:Nat}{an:Ann}{ic:IC}{irs:List IR}{args:List IV}{Qc:IV->Store->Prop}(hf:ij6 P f N pf an ic irs)(hl:args.length<=N)
  (h:wpI P E N σ.next ic (bn2 args 0) σ (jz9 irs Qc)):C P E f args σ Qc:=by
 obtain ⟨fn,h1,h2,h3,h4⟩:=hf
 cases hb:fn.body with
 | none=>rw[hb] at h3; cases h3
 | some c=>
  rw[hb] at h3;refine jh7 h1 hb h2 hl ((bp9 ic _ _ _ h pf an c h3).mono ?_);intro e fr' σ' q;cases e<;>first|(obtain ⟨vs,q1,q2⟩:=q; exact ⟨vs,by rw[ij5 _ _ h4]; exact q1,q2⟩)|exact q
end Go.Id
namespace Go.Id
open Go
theorem Frm.get_nil (t:Nat):Frm.get [] t=.undef:=by unfold Frm.get; simp
theorem Frm.bt7 (t s:Nat)(v:IV)(fr:Frm):Frm.get ((t,v)::fr) s=if s=t then v else Frm.get fr s:=Frm.ch5 fr t s v
end Go.Id
namespace Go.Id
open Go
universe u
variable {P:Program} {E:Nat->IV} {σ σ':Store} {N n n0:Nat} {fr:Frm} {a:Act} {pf:List Nat}
abbrev PT:=Nat->List IV->Option IV
abbrev CT:=Nat->List IV->Store->Option (IV->Store->Prop)
structure TOK (P:Program) (E:Nat->IV) (pt:PT) (ct:CT):Prop where
 p:∀ f args v,pt f args=za v->PC P E f args v
 c:∀ f args σ Q,ct f args σ=za Q->okF P f=true/\C P E f args σ Q
def noP:PT:=fun _ _=>zb
def noC:CT:=fun _ _ _=>zb
theorem noT:TOK P E noP noC:=⟨(fun _ _ _ h=>by cases h),(fun _ _ _ _ h=>by cases h)⟩
theorem fo9 {f:Nat}{args:List IV}:noP f args=zb:=by unfold noP; grind
theorem fp1 {f:Nat}{args:List IV}:noC f args σ=zb:=by unfold noC; grind
def ca1 {α:Type}:Option α->(α->Prop)->Prop
 | some v,K=>K v
 | none,_=>False
def is4:IV->(Bool->Prop)->Prop
 | .bool b,K=>K b
 | _,_=>False
def hc5 (v:IV)(want:Bool)(A B:Prop):Prop :=
 match hn6 v want with
 | some true=>A
 | some false=>B
 | none=>False
theorem ei5 {v:IV}{want:Bool}{A B:Prop}(h:hc5 v want A B):∃ act,hn6 v want=za act/\if act=true then A else B:=by
 unfold hc5 at h
 grind
theorem ap5 {α:Type}{o:Option α}{K:α->Prop}(h:ca1 o K):∃ v,o=za v/\K v:=by
 cases o with
 | none=>exact h.elim
 | some v=>exact ⟨v,rfl,h⟩
theorem fp3 {o:IV}{K:Bool->Prop}(h:is4 o K):∃ b,o=.bool b/\K b:=by
 cases o<;>first|exact ⟨_,rfl,h⟩|exact h.elim
def db6 (P:Program)(E:Nat->IV)(o:Option (IV->Store->Prop))(f:Nat)(args:List IV)(σ:Store)(K:IV->Store->Prop):Prop :=
 match o with
 | some Q=>∀ v s,Q v s->σ.next<=s.next/\K v s
 | none=>∃ Q,(okF P f=true/\C P E f args σ Q)/\∀ v s,Q v s->σ.next<=s.next/\K v s
def hp9 (P:Program)(E:Nat->IV)(o:Option IV)(f:Nat)(args:List IV)(σ:Store)(K:IV->Store->Prop):Prop :=
 match o with
 | some v=>K v σ
 | none=>∃ v,PC P E f args v/\K v σ
def opT (pt:PT)(ct:CT)(P:Program)(E:Nat->IV)(op:IK)(id:Nat)(fr:Frm)(σ:Store)(K:IV->Store->Prop):Prop :=
 match op with
 | .q q=>ca1 (evq E fr σ q) fun v=>K v σ
 | .alloc z=>K (.ptr id 0) (σ.put id (.cells z))
 | .box x=>(x.ev E fr).cs.all IV.leaf=true/\K (.ptr id 0) (σ.put id (.cells (x.ev E fr).cs))
 | .bsl esz n z parts=>ca1 (aw2 (rep z n) (parts.map fun p=>(p.1,p.2.1,p.2.2.ev E fr))) fun out=>K (.slice id 0 n esz) (σ.put id (.row out))
 | .store sz x y=>ca1 (as4 σ sz (x.ev E fr) (y.ev E fr)) fun σ'=>K .undef σ'
 | .bo6 x=>match x.ev E fr with
  | .str s=>K (.ptr id 0) (σ.put id (.bi6 s 0))
  | _=>False
 | .db4 x=>ca1 (bp7 σ (x.ev E fr)) fun r=>K r.1 r.2
 | .cj1=>K (.map id) (σ.put id (.map []))
 | .dj3 tag x k v=>ca1 (aw3 σ tag (x.ev E fr) (k.ev E fr) (v.ev E fr)) fun σ'=>K .undef σ'
 | .app esz s x=>ca1 (ba5 σ id esz (s.ev E fr) (x.ev E fr)) fun r=>K r.1 r.2
 | .call f args=>db6 P E (ct f (args.map (·.ev E fr)) σ) f (args.map (·.ev E fr)) σ K
 | .bd1 f args=>hp9 P E (pt f (args.map (·.ev E fr))) f (args.map (·.ev E fr)) σ K
 | .cv2 x args=>match x.ev E fr with
  | .func (.func f) first cap=>db6 P E (ct f (first++args.map (·.ev E fr)++cap) σ) f (first++args.map (·.ev E fr)++cap) σ K
  | .yield i=>∃ Q,CV P E (.yield i) (args.map (·.ev E fr)) σ Q/\∀ v σ',Q v σ'->σ.next<=σ'.next/\K v σ'
  | _=>False
 | .ar9 esz n z parts=>ca1 (aw2 (rep z n) (parts.map fun p=>(p.1,p.2.1,p.2.2.ev E fr))) fun out=>K (.aa4 (chunk esz n out)) σ
 | .cd1 x=>(x.ev E fr).cs.all IV.leaf=true/\K (.ab8 (x.ev E fr).cs) σ
 | .bg9 x=>match x.ev E fr with
  | .an9 es=>K (.ptr id 0) (σ.put id (.av2 es zb))
  | _=>False
 | .cj3 x=>ca1 (bp8 σ (x.ev E fr)) fun r=>(r.2=[]->K (.tuple [.bool false]) σ) /\
   ∀ j,j<r.2.length->K (.tuple [.bool true,(r.2.getD j (.undef,.undef)).1,(r.2.getD j (.undef,.undef)).2]) (σ.put r.1 (.av2 (r.2.eraseIdx j) (za (r.2.getD j (.undef,.undef)))))
 | .fo6 x=>ca1 (cu7 σ (x.ev E fr)) fun v=>K v σ
 | .dj4 esz z x=>ca1 (dv3 (x.ev E fr)) fun n=>K (.slice id 0 n esz) (σ.put id (.row (rep z n)))
 | .clr esz z x=>ca1 (fm8 σ esz z (x.ev E fr)) fun σ'=>σ'.next=σ.next/\K .undef σ'
 | .st k xs=>ca1 (stI k id σ (xs.map (·.ev E fr))) fun r=>K r.1 r.2
theorem dj5 {pt:PT}{ct:CT}(hT:TOK P E pt ct){f:Nat}{args:List IV}{K:IV->Store->Prop}(h:db6 P E (ct f args σ) f args σ K):∃ Q,(okF P f=true/\C P E f args σ Q)/\∀ v s,Q v s->σ.next<=s.next/\K v s:=by
 cases ho:ct f args σ with
 | none=>rw[ho] at h; exact h
 | some Q=>rw[ho] at h; exact ⟨Q,hT.c _ _ _ Q ho,h⟩
theorem bq7 {pt:PT}{ct:CT}(hT:TOK P E pt ct){op:IK}{id:Nat}{K:IV->Store->Prop}(h:opT pt ct P E op id fr σ K):opR P E op id fr σ K:=by
 cases op with
 | q q=>exact ap5 h
 | alloc z=>exact h
 | box x=>exact h
 | bsl e n z ps=>exact ap5 h
 | store e x y=>exact ap5 h
 | app e s x=>exact ap5 h
 | cj1=>exact h
 | bo6 x=>
  simp only[opT] at h;split at h
  ·rename_i s he; exact ⟨s,he,h⟩
  grind
 | db4 x=>exact ap5 h
 | dj3 t x y z=>exact ap5 h
 | call f xs=>
  obtain ⟨Q,h1,h2⟩:=dj5 hT h
  exact ⟨Q,h1.2,h2⟩
 | bd1 f xs=>
  simp only[opT] at h
  cases ho:pt f (xs.map (·.ev E fr)) with
  | none=>rw[ho] at h; exact h
  | some v=>rw[ho] at h; exact ⟨v,hT.p _ _ _ ho,h⟩
 | cv2 x xs=>
  simp only[opT] at h;split at h
  ·rename_i f first cap he
   obtain ⟨Q,h1,h2⟩:=dj5 hT h;refine ⟨Q,?_,h2⟩;rw[he];exact h1
  ·rename_i i he;rw[<- he] at h;exact h
  grind
 | ar9 e n z ps=>exact ap5 h
 | cd1 x=>exact h
 | bg9 x=>
  simp only[opT] at h;split at h
  ·rename_i s he; exact ⟨s,he,h⟩
  grind
 | cj3 x=>
  obtain ⟨⟨i,l⟩,h1,h2⟩:=ap5 h
  exact ⟨i,l,h1,h2⟩
 | fo6 x=>exact ap5 h
 | dj4 e z x=>exact ap5 h
 | clr e z x=>exact ap5 h
 | st k xs=>exact ap5 h
def cd3 (pt:PT) (ct:CT) (P:Program) (E:Nat->IV):List af8->Nat->Frm->Store->(Frm->Store->Prop)->Prop
 | [],_,fr,σ,K=>K fr σ
 | o::rest,id,fr,σ,K=>
  match o.guard with
  | none=>opT pt ct P E o.op id fr σ fun v σ'=>cd3 pt ct P E rest (if o.op.lays then id+1 else id) (fr.aq3 o.dst v) σ' K
  | some (s,want)=>hc5 (fr.get s) want (opT pt ct P E o.op id fr σ fun v σ'=>cd3 pt ct P E rest (if o.op.lays then id+1 else id) (fr.aq3 o.dst v) σ' K)
    (cd3 pt ct P E rest (if o.op.lays then id+1 else id) (fr.aq3 o.dst skV) σ K)
theorem er8 {pt:PT}{ct:CT}(hT:TOK P E pt ct):∀ (ops:List af8) (id:Nat) (fr:Frm) (σ:Store) (K:Frm->Store->Prop),cd3 pt ct P E ops id fr σ K->cc6 P E ops id fr σ K:=by
 intro ops
 induction ops with
 | nil=>intro id fr σ K h; exact h
 | cons o os ih=>
  intro id fr σ K h;obtain ⟨d,g,op⟩:=o
  cases g with
  | none=>
   simp only[cd3,cc6] at h ⊢
   exact ⟨true,rfl,ao5 (fun v s k=>ih _ _ _ _ k) (bq7 hT h)⟩
  | some p=>
   obtain ⟨s,want⟩:=p;simp only[cd3,cc6] at h ⊢;obtain ⟨act,ha,h⟩:=ei5 h;refine ⟨act,ha,?_⟩
   cases act with
   | true=>
    rw[if_pos rfl] at h ⊢
    exact ao5 (fun v s k=>ih _ _ _ _ k) (bq7 hT h)
   | false=>
    grind
def cb3 (E:Nat->IV)(fr:Frm)(σ:Store):IK->Prop
 | .q (.load _ x)=>match x.ev E fr with
  | .ab8 _=>True
  | .ptr i _=>match σ.obj i with
   | some (.cells _)=>True
   | _=>False
  | _=>False
 | _=>True
theorem dj6 {op:IK}(h:cb3 E fr σ op):bi8 E fr σ op:=by
 cases op with
 | q q=>
  cases q with
  | load ag x=>
   simp only[cb3,bi8] at h ⊢
   grind
  | _=>trivial
 | _=>trivial
def bq8 (pt:PT) (ct:CT) (P:Program) (E:Nat->IV) (B:Bool):List af8->Nat->Frm->Store->(Frm->Store->Prop)->Prop
 | [],_,fr,σ,K=>K fr σ
 | o::rest,id,fr,σ,K=>
  match o.guard with
  | none=>(B=true->cb3 E fr σ o.op)/\opT pt ct P E o.op id fr σ fun v σ'=>bq8 pt ct P E B rest (id+1) (fr.aq3 o.dst v) σ' K
  | some (s,want)=>hc5 (fr.get s) want ((B=true->cb3 E fr σ o.op)/\opT pt ct P E o.op id fr σ fun v σ'=>bq8 pt ct P E B rest (id+1) (fr.aq3 o.dst v) σ' K)
    (bq8 pt ct P E B rest (id+1) (fr.aq3 o.dst skV) σ K)
theorem er9 {pt:PT}{ct:CT}(hT:TOK P E pt ct){B:Bool}{base:Nat}:∀ (ops:List af8) (i:Nat) (fr:Frm) (σ:Store) (K:Frm->Store->Prop),bq8 pt ct P E B ops (base+i) fr σ K->bz7 P E B (fb5 base i ops) fr σ K:=by
 intro ops
 induction ops with
 | nil=>intro i fr σ K h; exact h
 | cons o os ih=>
  intro i fr σ K h;obtain ⟨d,g,op⟩:=o
  cases g with
  | none=>
   simp only[bq8] at h
   exact ⟨true,rfl,ao5 (fun v s k=>ih _ _ _ _ k) (bq7 hT h.2),fun hb=>dj6 (h.1 hb)⟩
  | some p=>
   obtain ⟨s,want⟩:=p;simp only[bq8] at h;obtain ⟨act,ha,h⟩:=ei5 h;refine ⟨act,ha,?_⟩
   cases act with
   | true=>exact ⟨ao5 (fun v s k=>ih _ _ _ _ k) (bq7 hT h.2),fun hb=>dj6 (h.1 hb)⟩
   | false=>grind
def wpT (pt:PT)(ct:CT)(P:Program)(E:Nat->IV)(N n0:Nat):IC->Frm->Store->(Exit->Frm->Store->Prop)->Prop
 | .skip,fr,σ,Q=>Q .normal fr σ
 | .reg _ ops keep,fr,σ,Q=>cd3 pt ct P E ops σ.next fr ⟨σ.next+cc7 ops,σ.obj⟩ (fun fr' σ'=>Q .normal (fr'.keep keep) σ')
 | .hi8 _ ops B keep,fr,σ,Q=>bq8 pt ct P E B ops σ.next fr ⟨σ.next+ops.length,σ.obj⟩ (fun fr' σ'=>Q .normal (fr'.keep keep) σ')
 | .hj4 _ ops keep,fr,σ,Q=>az4 P E (ii5 σ.next ops) [] fr { σ with next:=σ.next+ops.length } (fun fr' σ'=>Q .normal (fr'.keep keep) σ')
 | .seq a b,fr,σ,Q=>wpT pt ct P E N n0 a fr σ (fun e fr' σ'=>match e with|.normal=>wpT pt ct P E N n0 b fr' σ' Q|e=>Q e fr' σ')
 | .cond x a b,fr,σ,Q=>is4 (x.ev E fr) fun t=>if t=true then wpT pt ct P E N n0 a fr σ Q else wpT pt ct P E N n0 b fr σ Q
 | .block id a,fr,σ,Q=>wpT pt ct P E N n0 a fr σ (by6 id Q)
 | .loop a,fr,σ,Q=>RI P E N n0 (.loop a) fr σ Q
 | .exit id,fr,σ,Q=>Q (.exit id) fr σ
 | .ret,fr,σ,Q=>Q .ret fr σ
 | .by1 g ps y a,fr,σ,Q=>RI P E N n0 (.by1 g ps y a) fr σ Q
 | .scope a,fr,σ,Q=>wpT pt ct P E N n0 a fr σ (gh4 Q)
theorem cd4:∀ (ic:IC) (fr:Frm) (σ:Store) (Q Q':Exit->Frm->Store->Prop),(∀ e f s,Q e f s->Q' e f s)->wpI P E N n0 ic fr σ Q->wpI P E N n0 ic fr σ Q':=by
 have hrops:∀ (ops:List af8) (id:Nat) (fr:Frm) (σ:Store) (K K':Frm->Store->Prop),(∀ f s,K f s->K' f s)->cc6 P E ops id fr σ K->cc6 P E ops id fr σ K':=by
  intro ops
  induction ops with
  | nil=>intro id fr σ K K' hk h; exact hk _ _ h
  | cons o os ih=>
   intro id fr σ K K' hk h;simp only[cc6] at h ⊢;obtain ⟨act,ha,h⟩:=h;refine ⟨act,ha,?_⟩
   cases act with
   | true=>
    rw[if_pos rfl] at h ⊢
    exact ao5 (fun v s k=>ih _ _ _ _ _ hk k) h
   | false=>
    grind
 have htree:∀ (its:List Item) (B:Bool) (fr:Frm) (σ:Store) (K K':Frm->Store->Prop),(∀ f s,K f s->K' f s)->bz7 P E B its fr σ K->bz7 P E B its fr σ K':=by
  intro its
  induction its with
  | nil=>intro B fr σ K K' hk h; exact hk _ _ h
  | cons it its ih=>
   intro B fr σ K K' hk h;obtain ⟨i,o,id⟩:=it;obtain ⟨act,ha,hh⟩:=h;refine ⟨act,ha,?_⟩
   cases act with
   | true=>exact ⟨ao5 (fun v s k=>ih _ _ _ _ _ hk k) hh.1,hh.2⟩
   | false=>grind
 intro ic
 induction ic with
 | skip=>intro fr σ Q Q' hq h; exact hq _ _ _ h
 | reg id ops keep=>intro fr σ Q Q' hq h; exact hrops _ _ _ _ _ _ (fun f s k=>hq _ _ _ k) h
 | hi8 id ops B keep=>intro fr σ Q Q' hq h; exact htree _ _ _ _ _ _ (fun f s k=>hq _ _ _ k) h
 | hj4 id ops keep=>intro fr σ Q Q' hq h; exact fn5 _ _ _ _ (fun f s k=>hq _ _ _ k) h
 | seq x y ihx ihy=>
  intro fr σ Q Q' hq h;refine ihx _ _ _ _ ?_ h
  grind
 | cond x a b iha ihb=>
  intro fr σ Q Q' hq h;obtain ⟨t,ht,h⟩:=h;refine ⟨t,ht,?_⟩
  grind
 | block id x ih=>
  intro fr σ Q Q' hq h;refine ih _ _ _ _ ?_ h;intro e f s k
  cases e with
  | exit i=>simp only[by6] at k ⊢; grind
  | _=>exact hq _ _ _ k
 | scope x ih=>
  intro fr σ Q Q' hq h;refine ih _ _ _ _ ?_ h;intro e f s k
  cases e with
  | goto l=>exact k
  | _=>exact hq _ _ _ k
 | loop x ih=>intro fr σ Q Q' hq h; exact ao1 h hq
 | exit id=>intro fr σ Q Q' hq h; exact hq _ _ _ h
 | by1 g ps y x ihy ih=>intro fr σ Q Q' hq h; exact ao1 h hq
 | ret=>intro fr σ Q Q' hq h; exact hq _ _ _ h
theorem bk1 {pt:PT}{ct:CT}(hT:TOK P E pt ct):∀ (ic:IC) (fr:Frm) (σ:Store) (Q:Exit->Frm->Store->Prop),wpT pt ct P E N n0 ic fr σ Q->wpI P E N n0 ic fr σ Q:=by
 intro ic
 induction ic with
 | skip=>intro fr σ Q h; exact h
 | reg id ops keep=>intro fr σ Q h; exact er8 hT _ _ _ _ _ h
 | hi8 id ops B keep=>intro fr σ Q h; exact er9 hT _ 0 _ _ _ h
 | hj4 id ops keep=>intro fr σ Q h; exact h
 | seq x y ihx ihy=>
  intro fr σ Q h;have h1:=ihx _ _ _ (show wpT pt ct P E N n0 x fr σ _ from h);refine cd4 x fr σ _ (fun e fr' σ'=>match e with|.normal=>wpI P E N n0 y fr' σ' Q|e=>Q e fr' σ') ?_ h1
  grind
 | cond x a b iha ihb=>
  intro fr σ Q h;obtain ⟨t,ht,h⟩:=fp3 h;refine ⟨t,ht,?_⟩
  grind
 | block id x ih=>intro fr σ Q h; exact ih _ _ _ h
 | scope x ih=>intro fr σ Q h; exact ih _ _ _ h
 | loop x ih=>intro fr σ Q h; exact h
 | exit id=>intro fr σ Q h; exact h
 | ret=>intro fr σ Q h; exact h
 | by1 g ps y x ihy ih=>intro fr σ Q h; exact h
def gm1 (irs:List IR)(Qc:IV->Store->Prop):Exit->Frm->Store->Prop
 | .normal,fr,σ|.ret,fr,σ=>ca1 (irL σ fr irs) fun vs=>Qc (fo1 vs) σ
 | _,_,_=>False
theorem dj7 {irs:List IR}{Qc:IV->Store->Prop}{e:Exit}(h:gm1 irs Qc e fr σ):jz9 irs Qc e fr σ:=by
 cases e<;>first|exact ap5 h|exact h
theorem C_T {pt:PT}{ct:CT}(hT:TOK P E pt ct){f:Nat}{an:Ann}{ic:IC}{irs:List IR}{args:List IV}{Qc:IV->Store->Prop}(hf:ij6 P f N pf an ic irs)(hl:args.length<=N)
  (h:wpT pt ct P E N σ.next ic (bn2 args 0) σ (gm1 irs Qc)):C P E f args σ Qc :=
 kj7 hf hl (cd4 _ _ _ _ _ (fun _ _ _ k=>dj7 k) (bk1 hT _ _ _ _ h))
theorem kj8 {pt:PT}{ct:CT}(hT:TOK P E pt ct){f:Nat}{an:Ann}{ic:IC}{irs:List IR}{args:List IV}{v:IV}(hf:ij6 P f N pf an ic irs)(hl:args.length<=N)
  (h:∀ σ,wpT pt ct P E N σ.next ic (bn2 args 0) σ (gm1 irs fun v' σ'=>v'=v/\σ'=σ)):PC P E f args v :=
 fun σ=>C_T hT hf hl (h σ)
theorem ij7 {pt:PT}{ct:CT}(hT:TOK P E pt ct){x:IC}{Q:Exit->Frm->Store->Prop}(I:Nat->Frm->Store->Prop)(m:Nat)(h:I m fr σ)(hI:∀ m fr σ,I m fr σ->wpT pt ct P E N n0 x fr σ (eq4 I m Q)):RI P E N n0 (.loop x) fr σ Q :=
 gh5 I m h fun m fr σ hi=>bk1 hT _ _ _ _ (hI m fr σ hi)
theorem nr {α:Sort u}{a b:α}(h:a=b):a=b:=h
def is5 (o:Option IV)(σ:Store)(K:IV->Store->Prop):Prop:=ca1 o fun v=>K v σ
def ji3 (o:Option Store)(K:IV->Store->Prop):Prop:=ca1 o fun s=>K .undef s
def ji4 (o:Option (IV×Store))(K:IV->Store->Prop):Prop:=ca1 o fun r=>K r.1 r.2
def jc1 (v:IV)(σ:Store):IV->Store->Prop:=fun v' σ'=>v'=v/\σ'=σ
def ka1 (o:Option (List IV))(id n esz:Nat)(σ:Store)(K:IV->Store->Prop):Prop:=ca1 o fun out=>K (.slice id 0 n esz) (σ.put id (.row out))
def gm2 (ct:CT)(P:Program)(E:Nat->IV)(x:IV)(args:List IV)(σ:Store)(K:IV->Store->Prop):Prop:=match x with
 | .func (.func f) first cap=>db6 P E (ct f (first++args++cap) σ) f (first++args++cap) σ K
 | .yield i=>∃ Q,CV P E (.yield i) args σ Q/\∀ v σ',Q v σ'->σ.next<=σ'.next/\K v σ'
 | _=>False
def hq5 (pt:PT)(ct:CT)(P:Program)(E:Nat->IV)(rest:List af8)(id:Nat)(d:Option Nat)(fr:Frm)(K:Frm->Store->Prop):IV->Store->Prop:=fun v σ'=>cd3 pt ct P E rest id (fr.aq3 d v) σ' K
def es3 (pt:PT)(ct:CT)(P:Program)(E:Nat->IV)(B:Bool)(rest:List af8)(id:Nat)(d:Option Nat)(fr:Frm)(K:Frm->Store->Prop):IV->Store->Prop:=fun v σ'=>bq8 pt ct P E B rest id (fr.aq3 d v) σ' K
def hq6 (ks:List Nat)(Q:Exit->Frm->Store->Prop):Frm->Store->Prop:=fun fr σ=>Q .normal (fr.keep ks) σ
def jc2 (pt:PT)(ct:CT)(P:Program)(E:Nat->IV)(v:IV)(want:Bool)(op:IK)(id:Nat)(fr:Frm)(σ:Store)(K:IV->Store->Prop):Prop:=hc5 v want (opT pt ct P E op id fr σ K) (K skV σ)
def gc5 (pt:PT)(ct:CT)(P:Program)(E:Nat->IV)(B:Bool)(v:IV)(want:Bool)(op:IK)(id:Nat)(fr:Frm)(σ:Store)(K:IV->Store->Prop):Prop:=hc5 v want ((B=true->cb3 E fr σ op)/\opT pt ct P E op id fr σ K) (K skV σ)
def is6 (pt:PT)(ct:CT)(P:Program)(E:Nat->IV)(N n0:Nat)(v:IV)(a b:IC)(fr:Frm)(σ:Store)(Q:Exit->Frm->Store->Prop):Prop:=is4 v fun t=>if t=true then wpT pt ct P E N n0 a fr σ Q else wpT pt ct P E N n0 b fr σ Q
def jq7 (pt:PT)(ct:CT)(P:Program)(E:Nat->IV)(N n0:Nat)(b:IC)(Q:Exit->Frm->Store->Prop):Exit->Frm->Store->Prop:=fun e fr' σ'=>match e with
 | .normal=>wpT pt ct P E N n0 b fr' σ' Q
 | e=>Q e fr' σ'
variable {pt:PT} {ct:CT} {id want:Nat} {K:IV->Store->Prop} {Kf:Frm->Store->Prop} {Q:Exit->Frm->Store->Prop} {v:IV} {c:Prop} [Decidable c]
theorem dj8 {α:Type}(v:α)(K:α->Prop):ca1 (za v) K=K v:=nr rfl
theorem dj9 (v:IV):is5 (za v) σ K=K v σ:=nr rfl
theorem cj4 (v:IV):is5 (if c then za v else zb) σ K=(c/\K v σ):=by by_cases h:c<;>simp[h,is5,ca1]
theorem bt8 (v:IV):is5 (if c then zb else za v) σ K=(¬ c/\K v σ):=by by_cases h:c<;>simp[h,is5,ca1]
theorem dk4:ji3 (za σ) K=K .undef σ:=nr rfl
theorem cj5:ji3 (if c then za σ else zb) K=(c/\K .undef σ):=by by_cases h:c<;>simp[h,ji3,ca1]
theorem dk5 (v:IV):ji4 (za (v,σ)) K=K v σ:=nr rfl
theorem cj6 (v:IV):ji4 (if c then za (v,σ) else zb) K=(c/\K v σ):=by by_cases h:c<;>simp[h,ji4,ca1]
theorem fp4 {f:Nat}{args:List IV}(v:IV):db6 P E (za (jc1 v σ')) f args σ K=(σ.next<=σ'.next/\K v σ'):=propext ⟨fun h=>h v σ' ⟨rfl,rfl⟩,fun h v' s' ⟨e1,e2⟩=>by grind⟩
theorem jc3 {f:Nat}{args:List IV}(v:IV):hp9 P E (za v) f args σ K=K v σ:=nr rfl
theorem aa8 {f:Nat}{args:List IV}{v:IV}(h:PC P E f args v)(hk:K v σ):hp9 P E zb f args σ K:=⟨v,h,hk⟩
theorem ao9 {f:Nat}{args:List IV}{Qc:IV->Store->Prop}(ho:okF P f=true)(h:C P E f args σ Qc)(hk:∀ v s,Qc v s->σ.next<=s.next/\K v s):db6 P E zb f args σ K:=⟨Qc,⟨ho,h⟩,hk⟩
theorem dk6 {n esz:Nat}(out:List IV):ka1 (za out) id n esz σ K=K (.slice id 0 n esz) (σ.put id (.row out)):=nr rfl
theorem cj7 (f:Nat)(first cap args:List IV):gm2 ct P E (.func (.func f) first cap) args σ K=db6 P E (ct f (first++args++cap) σ) f (first++args++cap) σ K:=nr rfl
theorem dk7 {rest:List af8}{d:Nat}(v:IV):hq5 pt ct P E rest id (za d) fr Kf v σ=cd3 pt ct P E rest id ((d,v)::fr) σ Kf:=nr rfl
theorem cj8 {rest:List af8}(v:IV):hq5 pt ct P E rest id zb fr Kf v σ=cd3 pt ct P E rest id fr σ Kf:=nr rfl
theorem cj9 {B:Bool}{rest:List af8}{d:Nat}(v:IV):es3 pt ct P E B rest id (za d) fr Kf v σ=bq8 pt ct P E B rest id ((d,v)::fr) σ Kf:=nr rfl
theorem bt9 {B:Bool}{rest:List af8}(v:IV):es3 pt ct P E B rest id zb fr Kf v σ=bq8 pt ct P E B rest id fr σ Kf:=nr rfl
theorem dk8 {ks:List Nat}:hq6 ks Q fr σ=Q .normal (fr.keep ks) σ:=nr rfl
theorem w_q {q:IQ}:opT pt ct P E (.q q) id fr σ K=is5 (evq E fr σ q) σ K:=nr rfl
theorem ck3 {z:List IV}:opT pt ct P E (.alloc z) id fr σ K=K (.ptr id 0) (σ.put id (.cells z)):=nr rfl
theorem fp5 {x:IX}:opT pt ct P E (.box x) id fr σ K=((x.ev E fr).cs.all IV.leaf=true/\K (.ptr id 0) (σ.put id (.cells (x.ev E fr).cs))):=nr rfl
theorem fp6 {esz n:Nat}{z:List IV}{ps:List (Nat×Nat×IX)}:opT pt ct P E (.bsl esz n z ps) id fr σ K=ka1 (aw2 (rep z n) (ps.map fun p=>(p.1,p.2.1,p.2.2.ev E fr))) id n esz σ K:=nr rfl
theorem ck4 {sz:Nat}{x y:IX}:opT pt ct P E (.store sz x y) id fr σ K=ji3 (as4 σ sz (x.ev E fr) (y.ev E fr)) K:=nr rfl
def ka2 (v:IV)(id:Nat)(σ:Store)(K:IV->Store->Prop):Prop:=match v with
 | .str s=>K (.ptr id 0) (σ.put id (.bi6 s 0))
 | _=>False
theorem dk9 {s:List UInt8}:ka2 (.str s) id σ K=K (.ptr id 0) (σ.put id (.bi6 s 0)):=nr rfl
theorem bu1 {x:IX}:opT pt ct P E (.bo6 x) id fr σ K=ka2 (x.ev E fr) id σ K:=nr rfl
theorem ck5 {x:IX}:opT pt ct P E (.db4 x) id fr σ K=ji4 (bp7 σ (x.ev E fr)) K:=nr rfl
theorem ck6:opT pt ct P E .cj1 id fr σ K=K (.map id) (σ.put id (.map [])):=nr rfl
theorem dl1 {tag:Nat}{x k y:IX}:opT pt ct P E (.dj3 tag x k y) id fr σ K=ji3 (aw3 σ tag (x.ev E fr) (k.ev E fr) (y.ev E fr)) K:=nr rfl
theorem fp7 {esz:Nat}{s x:IX}:opT pt ct P E (.app esz s x) id fr σ K=ji4 (ba5 σ id esz (s.ev E fr) (x.ev E fr)) K:=nr rfl
theorem dl2 {f:Nat}{args:List IX}:opT pt ct P E (.call f args) id fr σ K=db6 P E (ct f (args.map (·.ev E fr)) σ) f (args.map (·.ev E fr)) σ K:=nr rfl
theorem ck7 {f:Nat}{args:List IX}:opT pt ct P E (.bd1 f args) id fr σ K=hp9 P E (pt f (args.map (·.ev E fr))) f (args.map (·.ev E fr)) σ K:=nr rfl
theorem bu2 {x:IX}{args:List IX}:opT pt ct P E (.cv2 x args) id fr σ K=gm2 ct P E (x.ev E fr) (args.map (·.ev E fr)) σ K:=nr rfl
theorem fp8:cd3 pt ct P E [] id fr σ Kf=Kf fr σ:=nr rfl
theorem dl3 {d:Option Nat}{op:IK}{rest:List af8}:cd3 pt ct P E (⟨d,zb,op⟩::rest) id fr σ Kf=opT pt ct P E op id fr σ (hq5 pt ct P E rest (if op.lays then id+1 else id) d fr Kf):=nr rfl
theorem fp9 {d:Option Nat}{op:IK}{rest:List af8}{s:Nat}{want:Bool}:cd3 pt ct P E (⟨d,za (s,want),op⟩::rest) id fr σ Kf=jc2 pt ct P E (fr.get s) want op id fr σ (hq5 pt ct P E rest (if op.lays then id+1 else id) d fr Kf):=nr rfl
theorem dl4 {B:Bool}:bq8 pt ct P E B [] id fr σ Kf=Kf fr σ:=nr rfl
theorem ck8 {d:Option Nat}{op:IK}{rest:List af8}:bq8 pt ct P E false (⟨d,zb,op⟩::rest) id fr σ Kf=opT pt ct P E op id fr σ (es3 pt ct P E false rest (id+1) d fr Kf):=by
 have:bq8 pt ct P E false (⟨d,zb,op⟩::rest) id fr σ Kf=((false=true->cb3 E fr σ op)/\opT pt ct P E op id fr σ (es3 pt ct P E false rest (id+1) d fr Kf)):=nr rfl;rw[this]; simp
theorem ck9 {d:Option Nat}{op:IK}{rest:List af8}:bq8 pt ct P E true (⟨d,zb,op⟩::rest) id fr σ Kf=(cb3 E fr σ op/\opT pt ct P E op id fr σ (es3 pt ct P E true rest (id+1) d fr Kf)):=by
 have:bq8 pt ct P E true (⟨d,zb,op⟩::rest) id fr σ Kf=((true=true->cb3 E fr σ op)/\opT pt ct P E op id fr σ (es3 pt ct P E true rest (id+1) d fr Kf)):=nr rfl;rw[this]; simp
theorem dl5 {B:Bool}{d:Option Nat}{op:IK}{rest:List af8}{s:Nat}{want:Bool}:bq8 pt ct P E B (⟨d,za (s,want),op⟩::rest) id fr σ Kf=gc5 pt ct P E B (fr.get s) want op id fr σ (es3 pt ct P E B rest (id+1) d fr Kf):=nr rfl
theorem fq1 {op:IK}:jc2 pt ct P E (.bool true) true op id fr σ K=opT pt ct P E op id fr σ K:=nr rfl
theorem fq2 {op:IK}:jc2 pt ct P E (.bool false) false op id fr σ K=opT pt ct P E op id fr σ K:=nr rfl
theorem fq3 {op:IK}:jc2 pt ct P E (.bool true) false op id fr σ K=K skV σ:=nr rfl
theorem fq4 {op:IK}:jc2 pt ct P E (.bool false) true op id fr σ K=K skV σ:=nr rfl
theorem fq5 {op:IK}:gc5 pt ct P E false (.bool true) true op id fr σ K=opT pt ct P E op id fr σ K:=by simp[gc5,hc5,hn6]
theorem fq6 {op:IK}:gc5 pt ct P E false (.bool false) false op id fr σ K=opT pt ct P E op id fr σ K:=by simp[gc5,hc5,hn6]
theorem fq7 {B:Bool}{op:IK}:gc5 pt ct P E B (.bool true) false op id fr σ K=K skV σ:=nr rfl
theorem fq8 {B:Bool}{op:IK}:gc5 pt ct P E B (.bool false) true op id fr σ K=K skV σ:=nr rfl
theorem fq9 {op:IK}:gc5 pt ct P E true (.bool true) true op id fr σ K=(cb3 E fr σ op/\opT pt ct P E op id fr σ K):=by simp[gc5,hc5,hn6]
theorem fr3 {op:IK}:gc5 pt ct P E true (.bool false) false op id fr σ K=(cb3 E fr σ op/\opT pt ct P E op id fr σ K):=by simp[gc5,hc5,hn6]
theorem jc4 {op:IK}{want:Bool}:jc2 pt ct P E skV want op id fr σ K=K skV σ:=nr rfl
theorem jc5 {B want:Bool}{op:IK}:gc5 pt ct P E B skV want op id fr σ K=K skV σ:=nr rfl
theorem dl6:wpT pt ct P E N n0 .skip fr σ Q=Q .normal fr σ:=nr rfl
theorem fr4 {i:Nat}{ops:List af8}{ks:List Nat}:wpT pt ct P E N n0 (.reg i ops ks) fr σ Q=cd3 pt ct P E ops σ.next fr ⟨σ.next+cc7 ops,σ.obj⟩ (hq6 ks Q):=nr rfl
theorem dl7 {i:Nat}{ops:List af8}{B:Bool}{ks:List Nat}:wpT pt ct P E N n0 (.hi8 i ops B ks) fr σ Q=bq8 pt ct P E B ops σ.next fr ⟨σ.next+ops.length,σ.obj⟩ (hq6 ks Q):=nr rfl
theorem fr5 {x y:IC}:wpT pt ct P E N n0 (.seq x y) fr σ Q=wpT pt ct P E N n0 x fr σ (jq7 pt ct P E N n0 y Q):=nr rfl
theorem dl8 {i:IX}{x y:IC}:wpT pt ct P E N n0 (.cond i x y) fr σ Q=is6 pt ct P E N n0 (i.ev E fr) x y fr σ Q:=nr rfl
theorem cl1 {i:Nat}{x:IC}:wpT pt ct P E N n0 (.block i x) fr σ Q=wpT pt ct P E N n0 x fr σ (by6 i Q):=nr rfl
theorem dl9 {x:IC}:wpT pt ct P E N n0 (.loop x) fr σ Q=RI P E N n0 (.loop x) fr σ Q:=nr rfl
theorem cl2 {g:IX}{ps:List Nat}{x y:IC}:wpT pt ct P E N n0 (.by1 g ps y x) fr σ Q=RI P E N n0 (.by1 g ps y x) fr σ Q:=nr rfl
def gm3 (v:IV)(id:Nat)(σ:Store)(K:IV->Store->Prop):Prop:=match v with
 | .an9 es=>K (.ptr id 0) (σ.put id (.av2 es zb))
 | _=>False
def ij8 (o:Option (Nat×List (IV×IV)))(σ:Store)(K:IV->Store->Prop):Prop:=ca1 o fun r=>(r.2=[]->K (.tuple [.bool false]) σ) /\
   ∀ j,j<r.2.length->K (.tuple [.bool true,(r.2.getD j (.undef,.undef)).1,(r.2.getD j (.undef,.undef)).2]) (σ.put r.1 (.av2 (r.2.eraseIdx j) (za (r.2.getD j (.undef,.undef)))))
theorem bu3 {x:IX}:opT pt ct P E (.bg9 x) id fr σ K=gm3 (x.ev E fr) id σ K:=nr rfl
theorem bk2 {es:List (IV×IV)}:gm3 (.an9 es) id σ K=K (.ptr id 0) (σ.put id (.av2 es zb)):=nr rfl
theorem cl3 {x:IX}:opT pt ct P E (.cj3 x) id fr σ K=ij8 (bp8 σ (x.ev E fr)) σ K:=nr rfl
theorem bu4 {i:Nat}{l:List (IV×IV)}:ij8 (za (i,l)) σ K=((l=[]->K (.tuple [.bool false]) σ) /\
   ∀ j,j<l.length->K (.tuple [.bool true,(l.getD j (.undef,.undef)).1,(l.getD j (.undef,.undef)).2]) (σ.put i (.av2 (l.eraseIdx j) (za (l.getD j (.undef,.undef)))))):=nr rfl
theorem dm1 {x:IX}:opT pt ct P E (.fo6 x) id fr σ K=is5 (cu7 σ (x.ev E fr)) σ K:=nr rfl
theorem dm2 {x:IX}:opT pt ct P E (.cd1 x) id fr σ K=((x.ev E fr).cs.all IV.leaf=true/\K (.ab8 (x.ev E fr).cs) σ):=nr rfl
def ji5 (o:Option (List IV))(esz n:Nat)(σ:Store)(K:IV->Store->Prop):Prop:=ca1 o fun out=>K (.aa4 (chunk esz n out)) σ
theorem dm3 {esz n:Nat}{z:List IV}{ps:List (Nat×Nat×IX)}:opT pt ct P E (.ar9 esz n z ps) id fr σ K=ji5 (aw2 (rep z n) (ps.map fun p=>(p.1,p.2.1,p.2.2.ev E fr))) esz n σ K:=nr rfl
theorem cl4 {esz n:Nat}{out:List IV}:ji5 (za out) esz n σ K=K (.aa4 (chunk esz n out)) σ:=nr rfl
theorem dm4 {i:Nat}:wpT pt ct P E N n0 (.exit i) fr σ Q=Q (.exit i) fr σ:=nr rfl
theorem fr6:wpT pt ct P E N n0 .ret fr σ Q=Q .ret fr σ:=nr rfl
theorem jc6 {x y:IC}:is6 pt ct P E N n0 (.bool true) x y fr σ Q=wpT pt ct P E N n0 x fr σ Q:=nr rfl
theorem jc7 {x y:IC}:is6 pt ct P E N n0 (.bool false) x y fr σ Q=wpT pt ct P E N n0 y fr σ Q:=nr rfl
theorem fr7 {y:IC}:jq7 pt ct P E N n0 y Q .normal fr σ=wpT pt ct P E N n0 y fr σ Q:=nr rfl
theorem fr8 {y:IC}{i:Nat}:jq7 pt ct P E N n0 y Q (.exit i) fr σ=Q (.exit i) fr σ:=nr rfl
theorem fr9 {y:IC}:jq7 pt ct P E N n0 y Q .ret fr σ=Q .ret fr σ:=nr rfl
theorem fs1 {i:Nat}:by6 i Q .normal fr σ=Q .normal fr σ:=nr rfl
theorem fs2 {i:Nat}:by6 i Q .ret fr σ=Q .ret fr σ:=nr rfl
theorem fs3 {i j:Nat}:by6 i Q (.exit j) fr σ=if j=i then Q .normal fr σ else Q (.exit j) fr σ:=nr rfl
theorem fs4 {I:Nat->Frm->Store->Prop}{m:Nat}:eq4 I m Q .normal fr σ=∃ m',m'<m/\I m' fr σ:=nr rfl
theorem fs5 {I:Nat->Frm->Store->Prop}{m i:Nat}:eq4 I m Q (.exit i) fr σ=Q (.exit i) fr σ:=nr rfl
theorem fs6 {I:Nat->Frm->Store->Prop}{m:Nat}:eq4 I m Q .ret fr σ=Q .ret fr σ:=nr rfl
theorem fs7 {irs:List IR}{Qc:IV->Store->Prop}:gm1 irs Qc .ret fr σ=ca1 (irL σ fr irs) fun vs=>Qc (fo1 vs) σ:=nr rfl
theorem dm5 {irs:List IR}{Qc:IV->Store->Prop}:gm1 irs Qc .normal fr σ=ca1 (irL σ fr irs) fun vs=>Qc (fo1 vs) σ:=nr rfl
end Go.Id
namespace Go.Id
open Go
variable {P:Program} {E:Nat->IV} {σ σ':Store} {fr:Frm} {x y z:IX} {k k':IntKind} {a b:Int} {s t:List UInt8} {n m off esz len:Nat} {v u:IV}
theorem ab7 {i:Nat}{o:al9}:(σ.put i o).next=σ.next:=nr rfl
theorem aa5 {i j:Nat}{o:al9}:(σ.put i o).obj j=if j=i then za o else σ.obj j:=nr rfl
theorem e_t:(IX.t n).ev E fr=fr.get n:=nr rfl
theorem e_c:(IX.c v).ev E fr=v:=nr rfl
theorem e_g:(IX.g n).ev E fr=E n:=nr rfl
theorem e_f:(IX.f n).ev E fr=.func (.func n) [] []:=nr rfl
theorem fs8:evq E fr σ (.mov x)=za (x.ev E fr):=nr rfl
theorem dm6:evq E fr σ (.pick x y z)=be3 (x.ev E fr) (y.ev E fr) (z.ev E fr):=nr rfl
theorem fs9:evq E fr σ (.not x)=jd4 (x.ev E fr):=nr rfl
theorem ft1:evq E fr σ (.neg x)=jd5 (x.ev E fr):=nr rfl
theorem ft2 {op:BinOp}:evq E fr σ (.bin op x y)=bc5 op (x.ev E fr) (y.ev E fr):=nr rfl
theorem aj6 {d:TypeDesc}{g:Bool}:evq E fr σ (.az1 d g x)=(by9 d (x.ev E fr)).map fun b=>.bool (b ^^ g):=nr rfl
theorem ft3 {tags:List Nat}{g h:Bool}:evq E fr σ (.eqs tags g h x y)=hf5 tags g h (x.ev E fr) (y.ev E fr):=nr rfl
theorem dm7:evq E fr σ (.conv k x)=ge3 k (x.ev E fr):=nr rfl
theorem cl5:evq E fr σ (.hg8 x)=ef3 (x.ev E fr):=nr rfl
theorem ft4:evq E fr σ (.len n x)=ch9 n σ (x.ev E fr):=nr rfl
theorem cl6:evq E fr σ (.bm6 off x)=cu5 off (x.ev E fr):=nr rfl
theorem ft5 {ag:Option Nat}:evq E fr σ (.fld ag off x)=jb5 ag off (x.ev E fr):=nr rfl
theorem cl7:evq E fr σ (.eg2 esz x y)=aw9 esz (x.ev E fr) (y.ev E fr):=nr rfl
theorem cl8:evq E fr σ (.dg7 n esz x y)=di4 n esz (x.ev E fr) (y.ev E fr):=nr rfl
theorem ft6 {ag:Option Nat}:evq E fr σ (.idx ag n esz x y)=in9 ag n esz (x.ev E fr) (y.ev E fr):=nr rfl
theorem dm8:evq E fr σ (.io5 x y)=ee6 (x.ev E fr) (y.ev E fr):=nr rfl
theorem ft7 {lo hi:Option IX}:evq E fr σ (.slc esz x lo hi)=cw7 esz (lo.map (·.ev E fr)) (hi.map (·.ev E fr)) (x.ev E fr):=nr rfl
theorem dm9 {lo hi:Option IX}:evq E fr σ (.hg9 x lo hi)=cu6 (lo.map (·.ev E fr)) (hi.map (·.ev E fr)) (x.ev E fr):=nr rfl
theorem ft8:evq E fr σ (.slz x)=hb8 (x.ev E fr):=nr rfl
theorem ft9:evq E fr σ (.ext n x)=io1 n (x.ev E fr):=nr rfl
theorem fu1 {fs cs:List IX}:evq E fr σ (.mkf n fs cs)=za (.func (.func n) (fs.map (·.ev E fr)) (cs.map (·.ev E fr))):=nr rfl
theorem fu2 {zs:List IV}{ps:List (Nat×Nat×IX)}:evq E fr σ (.bld zs ps)=(aw2 zs (ps.map fun p=>(p.1,p.2.1,p.2.2.ev E fr))).map .agg:=nr rfl
theorem dn1 {ag:Option Nat}:evq E fr σ (.load ag x)=ba8 σ ag (x.ev E fr):=nr rfl
theorem dn2:evq E fr σ (.io6 x)=ef4 (x.ev E fr):=nr rfl
theorem ij9 {mx:Bool}:evq E fr σ (.mm mx x y)=mmI mx (x.ev E fr) (y.ev E fr):=nr rfl
theorem ei6:mmI true (.int k a) (.int k' b)=za (.int k (if b>a then b else a)):=by simp[mmI]
theorem es4:mmI false (.int k a) (.int k' b)=za (.int k (if b<a then b else a)):=by simp[mmI]
theorem es5 {zero:IV}{ok:Bool}:evq E fr σ (.lkp n zero ok x y)=cz6 σ n zero ok (x.ev E fr) (y.ev E fr):=nr rfl
theorem cl9:Frm.keep fr []=[]:=nr rfl
theorem cm1 {ks:List Nat}:Frm.keep fr (n::ks)=(n,fr.get n)::Frm.keep fr ks:=nr rfl
theorem dn3:bn2 [] n=[]:=nr rfl
theorem dn4 {vs:List IV}:bn2 (v::vs) n=(n,v)::bn2 vs (n+1):=nr rfl
theorem cm2:cc7 []=0:=nr rfl
theorem cm3 {d:Option Nat}{g:Option (Nat×Bool)}{op:IK}{os:List af8}:cc7 (⟨d,g,op⟩::os)=(if op.lays=true then 1 else 0)+cc7 os:=nr (ci9 _ _)
theorem jc8 {q:IQ}:(IK.q q).lays=false:=nr rfl
theorem bu5 {zs:List IV}:(IK.alloc zs).lays=true:=nr rfl
theorem dn5:(IK.box x).lays=true:=nr rfl
theorem dn6 {zs:List IV}{ps:List (Nat×Nat×IX)}:(IK.bsl esz n zs ps).lays=true:=nr rfl
theorem dn7:(IK.app esz x y).lays=true:=nr rfl
theorem bu6:IK.cj1.lays=true:=nr rfl
theorem cm4:(IK.dj3 n x y z).lays=false:=nr rfl
theorem bk3:(IK.bo6 x).lays=true:=nr rfl
theorem bu7:(IK.db4 x).lays=false:=nr rfl
theorem bk4:(IK.bg9 x).lays=true:=nr rfl
theorem cm5 {zs:List IV}:(IK.dj4 esz zs x).lays=true:=nr rfl
theorem dn8 {zs:List IV}:(IK.clr esz zs x).lays=false:=nr rfl
theorem cm6:(IK.fo6 x).lays=false:=nr rfl
theorem bu8:(IK.cj3 x).lays=false:=nr rfl
theorem cm7:(IK.cd1 x).lays=false:=nr rfl
theorem cm8 {zs:List IV}{ps:List (Nat×Nat×IX)}:(IK.ar9 esz n zs ps).lays=false:=nr rfl
theorem jw7:evq E fr σ (.ibs x y)=jd6 (x.ev E fr) (y.ev E fr):=nr rfl
theorem ji6:jd6 (.str s) (.int .u8 a)=if 0<=a/\a<256 then za (.int .i64 (eo2 a.toNat s 0)) else zb:=nr rfl
theorem bu9:(IK.store n x y).lays=false:=nr rfl
theorem cm9 {xs:List IX}:(IK.call n xs).lays=false:=nr rfl
theorem bv1 {xs:List IX}:(IK.bd1 n xs).lays=false:=nr rfl
theorem bv2 {xs:List IX}:(IK.cv2 x xs).lays=false:=nr rfl
theorem dn9 {α β:Type}{f:α->β}:List.map f []=[]:=nr rfl
theorem do1 {α β:Type}{f:α->β}{c:α}{cs:List α}:List.map f (c::cs)=f c::List.map f cs:=nr rfl
theorem es6 {α β:Type}{f:α->β}:Option.map f zb=zb:=nr rfl
theorem es7 {α β:Type}{f:α->β}{c:α}:Option.map f (za c)=za (f c):=nr rfl
theorem cn1:be3 (.bool true) v u=za v:=nr rfl
theorem cn2:be3 (.bool false) v u=za u:=nr rfl
theorem cn3 {c d:Bool}:be3 (.bool c) (.bool true) (.bool d)=za (.bool (c||d)):=by cases c<;>rfl
theorem cn4 {c d:Bool}:be3 (.bool c) (.bool d) (.bool false)=za (.bool (c&&d)):=by cases c<;>rfl
theorem do2 {c:Bool}:jd4 (.bool c)=za (.bool !c):=nr rfl
theorem do3:jd5 (.int k a)=za (.int k (k.wrap (0-a))):=nr rfl
theorem cn5:ge3 k (.int k' a)=za (.int k (k.wrap a)):=nr rfl
theorem bv3:ef3 (.str s)=za (.str s):=nr rfl
theorem fu3:bc5 .add (.int k a) (.int k b)=za (.int k (k.wrap (a+b))):=by simp[bc5,eo5]
theorem fu4:bc5 .sub (.int k a) (.int k b)=za (.int k (k.wrap (a-b))):=by simp[bc5,eo5]
theorem fu5:bc5 .mul (.int k a) (.int k b)=za (.int k (k.wrap (a*b))):=by simp[bc5,eo5]
theorem fu6:bc5 .quo (.int k a) (.int k b)=if b=0 then zb else za (.int k (k.wrap (a.tdiv b))):=by simp[bc5,eo5]
theorem fu7:bc5 .rem (.int k a) (.int k b)=if b=0 then zb else za (.int k (a.tmod b)):=by simp[bc5,eo5]
theorem fu8:bc5 .eql (.int k a) (.int k b)=za (.bool (decide (a=b))):=by simp[bc5,eo5]
theorem fu9:bc5 .neq (.int k a) (.int k b)=za (.bool (!decide (a=b))):=by simp[bc5,eo5]
theorem fv1:bc5 .lss (.int k a) (.int k b)=za (.bool (decide (a<b))):=by simp[bc5,eo5]
theorem fv2:bc5 .leq (.int k a) (.int k b)=za (.bool (decide (a<=b))):=by simp[bc5,eo5]
theorem fv3:bc5 .gtr (.int k a) (.int k b)=za (.bool (decide (b<a))):=by simp[bc5,eo5]
theorem fv4:bc5 .geq (.int k a) (.int k b)=za (.bool (decide (b<=a))):=by simp[bc5,eo5]
theorem fv5:bc5 .shl (.int k a) (.int k' b)=if 0<=b then za (.int k (k.wrap (a*2^(min b.toNat k.bits)))) else zb:=by simp[bc5]
theorem fv6:bc5 .shr (.int k a) (.int k' b)=if 0<=b then za (.int k (a.fdiv (2^(min b.toNat k.bits)))) else zb:=by simp[bc5]
theorem do4:bc5 .add (.str s) (.str t)=if s.length+t.length<2^62 then za (.str (s++t)) else zb:=by simp[bc5,hd8]
theorem do5:bc5 .eql (.str s) (.str t)=za (.bool (decide (s=t))):=by simp[bc5,hd8]
theorem do6:bc5 .neq (.str s) (.str t)=za (.bool (!decide (s=t))):=by simp[bc5,hd8]
theorem do7:bc5 .lss (.str s) (.str t)=za (.bool (Op.bytesLess s t)):=by simp[bc5,hd8]
theorem do8:bc5 .leq (.str s) (.str t)=za (.bool (Op.bytesLess s t||decide (s=t))):=by simp[bc5,hd8]
theorem do9:bc5 .gtr (.str s) (.str t)=za (.bool (!(Op.bytesLess s t||decide (s=t)))):=by simp[bc5,hd8]
theorem dp1:bc5 .geq (.str s) (.str t)=za (.bool (!Op.bytesLess s t)):=by simp[bc5,hd8]
theorem dp2 {es:List (List IV)}:ch9 0 σ (.aa4 es)=za (.int .i64 es.length):=nr rfl
theorem dp3:ch9 0 σ .aa1=za (.int .i64 0):=nr rfl
theorem dp4:ch9 0 σ .ad4=za (.int .i64 0):=nr rfl
theorem ji7:ch9 0 σ .ag8=za (.int .i64 0):=nr rfl
theorem bo7:ch9 0 σ (.slice n off len esz)=za (.int .i64 len):=nr rfl
theorem bn3:ch9 1 σ (.str s)=za (.int .i64 s.length):=nr rfl
theorem cn6:ef4 (.ptr n off)=za (.ptr n off):=nr rfl
theorem cn7 {cs:List IV}:ef4 (.ab8 cs)=za (.ab8 cs):=nr rfl
theorem cn8 {f:FuncId}{p q:List IV}:ef4 (.func (.func f) p q)=za (.func (.func f) p q):=nr rfl
theorem dp5:hb8 .aa1=za .aa1:=nr rfl
theorem dp6:hb8 .ad4=za .ad4:=nr rfl
theorem ji8:hb8 .ag8=za .ad4:=nr rfl
theorem dp7 {es:List (List IV)}:hb8 (.aa4 es)=if es=[] then za (.aa4 []) else za .ad4:=nr rfl
theorem dp8:hb8 (.slice n off len esz)=za .ad4:=nr rfl
theorem fv7:irL σ fr []=za []:=nr rfl
theorem fv8:irL σ fr [.t n]=za [fr.get n]:=nr rfl
theorem dp9:irL σ fr [.t n,.t m]=za [fr.get n,fr.get m]:=nr rfl
theorem fv9 {ag:Option Nat}:irL σ fr [.cell ag n]=(ba8 σ ag (fr.get n)).map fun v=>[v]:=by
 simp only[irL,irV]; cases ba8 σ ag (fr.get n)<;>rfl
theorem cn9:fo1 [v]=v:=nr rfl
theorem co1:fo1 [v,u]=.tuple [v,u]:=nr rfl
theorem co2:fo1 []=.tuple []:=nr rfl
def dx2 (ag:Option Nat)(off:Nat):Option al9->Option IV
 | some (.cells cs)|some (.row cs)=>match ag with
  | none=>(cs.drop off).head?
  | some n=>if n<=(cs.drop off).length then za (.agg ((cs.drop off).take n)) else zb
 | _=>zb
theorem co3 {ag:Option Nat}:ba8 σ ag (.ptr n off)=dx2 ag off (σ.obj n):=by
 cases h:σ.obj n with
 | none=>simp[ba8,as2,dx2,h]
 | some o=>cases o<;>cases ag<;>simp[ba8,as2,dx2,h]
theorem co4 {cs:List IV}:ba8 σ zb (.ab8 cs)=cs.head?:=nr rfl
theorem bv4 {cs:List IV}:ba8 σ (za n) (.ab8 cs)=if n<=cs.length then za (.agg (cs.take n)) else zb:=nr rfl
theorem bp3 {cs:List IV}:dx2 zb off (za (.cells cs))=(cs.drop off).head?:=nr rfl
theorem cd5 {cs:List IV}:dx2 (za n) off (za (.cells cs))=if n<=(cs.drop off).length then za (.agg ((cs.drop off).take n)) else zb:=nr rfl
theorem fw1 {cs:List IV}:dx2 zb off (za (.row cs))=(cs.drop off).head?:=nr rfl
theorem cv3 {cs:List IV}:dx2 (za n) off (za (.row cs))=if n<=(cs.drop off).length then za (.agg ((cs.drop off).take n)) else zb:=nr rfl
def ei7 (σ:Store)(id off n:Nat)(vs:List IV):Option al9->Option Store
 | some (.cells cs)=>if vs.length=n/\off+n<=cs.length/\vs.all IV.leaf=true then za (σ.put id (.cells (ay4 cs off vs))) else zb
 | some (.row cs)=>if vs.length=n/\off+n<=cs.length/\vs.all IV.leaf=true then za (σ.put id (.row (ay4 cs off vs))) else zb
 | _=>zb
theorem bv5:as4 σ n (.ptr m off) v=ei7 σ m off n v.cs (σ.obj m):=by
 cases h:σ.obj m with
 | none=>simp[as4,ei7,h]
 | some o=>cases o<;>simp[as4,ei7,h]
theorem fw2 {cs vs:List IV}:ei7 σ m off n vs (za (.cells cs))=if vs.length=n/\off+n<=cs.length/\vs.all IV.leaf=true then za (σ.put m (.cells (ay4 cs off vs))) else zb:=nr rfl
theorem cv4 {cs vs:List IV}:ei7 σ m off n vs (za (.row cs))=if vs.length=n/\off+n<=cs.length/\vs.all IV.leaf=true then za (σ.put m (.row (ay4 cs off vs))) else zb:=nr rfl
theorem bv6 {es:List (List IV)}:aw9 esz (.aa4 es) (.int k a)=if 0<=a/\a<es.length/\(es.getD a.toNat []).length=esz then za (.ab8 (es.getD a.toNat [])) else zb:=nr rfl
theorem bv7:aw9 esz (.slice n off len m) (.int k a)=if 0<=a/\a<len/\m=esz then za (.ptr n (off+a.toNat*esz)) else zb:=nr rfl
theorem co5 {cs:List IV}:cu5 n (.ab8 cs)=za (.ab8 (cs.drop n)):=nr rfl
theorem co6:cu5 n (.ptr m off)=za (.ptr m (off+n)):=nr rfl
theorem co7 {cs:List IV}:IV.cs (.agg cs)=cs:=nr rfl
theorem co8:IV.cs (.int k a)=[.int k a]:=nr rfl
theorem bv8 {c:Bool}:IV.cs (.bool c)=[.bool c]:=nr rfl
theorem co9:IV.cs (.str s)=[.str s]:=nr rfl
theorem cp1:IV.cs (.ptr n off)=[.ptr n off]:=nr rfl
theorem bv9 {cs:List IV}:IV.cs (.ab8 cs)=[.ab8 cs]:=nr rfl
theorem bk5:IV.cs (.slice n off len esz)=[.slice n off len esz]:=nr rfl
theorem bd9 {es:List (List IV)}:IV.cs (.aa4 es)=[.aa4 es]:=nr rfl
theorem bw1 {f:Fn}{p q:List IV}:IV.cs (.func f p q)=[.func f p q]:=nr rfl
theorem cp3:IV.cs (.map n)=[.map n]:=nr rfl
theorem bw2 {es:List (IV×IV)}:IV.cs (.an9 es)=[.an9 es]:=nr rfl
theorem dq2:IV.cs .aa1=[.aa1]:=nr rfl
theorem dq3:IV.cs .ad4=[.ad4]:=nr rfl
theorem ji9:IV.cs .ag8=[.ag8]:=nr rfl
theorem dq4:IV.cs .af3=[.af3]:=nr rfl
theorem cp4:IV.leaf (.int k a)=true:=nr rfl
theorem bw3 {c:Bool}:IV.leaf (.bool c)=true:=nr rfl
theorem cp5:IV.leaf (.str s)=true:=nr rfl
theorem cp6:IV.leaf (.ptr n off)=true:=nr rfl
theorem bw4 {cs:List IV}:IV.leaf (.ab8 cs)=true:=nr rfl
theorem bk6:IV.leaf (.slice n off len esz)=true:=nr rfl
theorem be1 {es:List (List IV)}:IV.leaf (.aa4 es)=true:=nr rfl
theorem bw5 {f:Fn}{p q:List IV}:IV.leaf (.func f p q)=true:=nr rfl
theorem cp7:IV.leaf (.map n)=true:=nr rfl
theorem bw6 {es:List (IV×IV)}:IV.leaf (.an9 es)=true:=nr rfl
theorem dq5:IV.leaf .aa1=true:=nr rfl
theorem dq6:IV.leaf .ad4=true:=nr rfl
theorem jj1:IV.leaf .ag8=true:=nr rfl
theorem dq7:IV.leaf .af3=true:=nr rfl
def fc8 (σ:Store)(id:Nat):Option al9->Option (IV×Store)
 | some (.bi6 s pos)=>if pos<s.length then za (.tuple [.bool true,.int .i64 pos,.int .i32 (Utf8.decode ⟨s.toArray⟩ pos).1],σ.put id (.bi6 s (pos+(Utf8.decode ⟨s.toArray⟩ pos).2))) else za (.tuple [.bool false],σ)
 | _=>zb
theorem bq9:bp7 σ (.ptr n 0)=fc8 σ n (σ.obj n):=by
 cases h:σ.obj n with
 | none=>simp[bp7,fc8,h]
 | some o=>cases o<;>simp[bp7,fc8,h]
theorem ik1 {pos:Nat}:fc8 σ n (za (.bi6 s pos))=if pos<s.length then za (.tuple [.bool true,.int .i64 pos,.int .i32 (Utf8.decode ⟨s.toArray⟩ pos).1],σ.put n (.bi6 s (pos+(Utf8.decode ⟨s.toArray⟩ pos).2))) else za (.tuple [.bool false],σ):=nr rfl
theorem dq8 {cs:List IV}:io1 n (.tuple cs)=cs[n]?:=by cases h:cs[n]?<;>simp[io1,h]
theorem fw3:(Store.mk σ.next σ.obj)=σ:=nr rfl
theorem wrap64 {x:Int}(h1:-9223372036854775808<=x)(h2:x<9223372036854775808):IntKind.i64.wrap x=x:=by
 simp[IntKind.wrap,IntKind.bits,IntKind.signed];omega
end Go.Id
namespace Go.Id
open Go
variable {P:Program} {w w' w'':World} {ρ ρ' ρ'':Rho} {E:Nat->IV} {σ σ':Store} {N n n':Nat}
abbrev Bnd (n:Nat)(v:IV):Prop:=Nm (fun i=>i<n) v
abbrev bw7 (σ:Store)(n:Nat)(v v':IV):Prop:=Frz σ (fun i=>i<n) v v'
def Rho.cut (ρ:Rho)(n:Nat):Rho:=⟨fun i=>if i<n then ρ i else .no,ρ.X⟩
theorem ik2 (ρ:Rho)(n:Nat):ci5 (fun i=>i<n) ρ (ρ.cut n):=
 ⟨fun i h=>by show (if i<n then ρ i else ee3.no)=_; rw[if_pos h],fun i h=>by show (if i<n then ρ i else ee3.no)=_; rw[if_neg h],fun _ h=>.inl h⟩
theorem fw4 (hf:∀ i,n<=i->ρ i=.no):∀ i,ρ i≠.no->i<n:=fun i h=>by
 rcases qh i n with h'|h'
 ·exact h'
 ·exact absurd (hf i h') h
theorem jw8 {f:Nat}{args:List IV}{v:IV}
  (h:(∀ a∈args,Bnd σ.next a)->C P E f args σ fun v' σ'=>(∀ i,i<σ.next->σ'.obj i=σ.obj i)/\σ.next<=σ'.next/\bw7 σ' σ.next v' v):C P E f args σ (jc1 v σ):=by
 intro ρ w rargs hs ha;have hlv:=fw4 hs.fresh;have hba:∀ a∈args,Bnd σ.next a:=fun a hm=>let ⟨i,hi,he⟩:=ak3 (d:=.undef) hm; he▸(ha.2 i hi).nm hlv
 refine CallsIn.mono (h hba ρ w rargs hs ha) ?_;rintro e w' ⟨v',r,ρ',σ',rfl,⟨hob,hle,hfrz⟩,hs',hv',hx⟩;have hno:∀ i,σ.next<=i->σ.obj i=zb:=fun i hi=>hs.ax6 i (hs.fresh i hi)
 have hk:=ik2 ρ' σ.next;refine ⟨v,r,ρ'.cut σ.next,σ,rfl,⟨rfl,rfl⟩,hs'.jq1 hk hob (fun i hi=>hno i om) (fun i o _ ho=>hs.nmO hlv i o ho) (fun i hi=>hk.off i om) (fun g=>(hs.env g).nm hlv),hfrz.vr hk rfl hs' r hv',?_⟩;exact ⟨hx.size,hx.keep,hx.shape,fun i B d hi=>hx.img i B d (hk.at hi).2,fun i B d hi h=>by rw[hk.on i hi]; exact hx.at_ i B d hi h,fun i hi h=>by rw[hk.on i hi]; exact hx.dead i hi h,fun i hi h=>by rw[hk.on i hi]; exact hx.no i hi h,hx.output,hx.os,hx.tape,hx.loops,hx.X⟩
theorem es8 {f:Nat}{args:List IV}{v:IV}(h:PC P E f args v):C P E f args σ (jc1 v σ):=h σ
theorem ik3 {f:Nat}{args:List IV}{v:IV}
  (h:∀ σ,(∀ a∈args,Bnd σ.next a)->C P E f args σ fun v' σ'=>(∀ i,i<σ.next->σ'.obj i=σ.obj i)/\σ.next<=σ'.next/\bw7 σ' σ.next v' v):PC P E f args v :=
 fun σ=>jw8 (h σ)
theorem jw9 {pt:PT}{ct:CT}{pf:List Nat}(hT:TOK P E pt ct){f:Nat}{an:Ann}{ic:IC}{irs:List IR}{args:List IV}{v:IV}(hf:ij6 P f N pf an ic irs)(hl:args.length<=N)
  (h:∀ σ,(∀ a∈args,Bnd σ.next a)->wpT pt ct P E N σ.next ic (bn2 args 0) σ (gm1 irs fun v' σ'=>(∀ i,i<σ.next->σ'.obj i=σ.obj i)/\σ.next<=σ'.next/\bw7 σ' σ.next v' v)):PC P E f args v :=
 ik3 fun σ hb=>C_T hT hf hl (h σ hb)
def IV.plain:IV->Bool
 | .bool _|.int _ _|.str _=>true
 | .tuple vs=>vs.attach.all fun ⟨v,_⟩=>v.plain
 | .agg vs=>vs.attach.all fun ⟨v,_⟩=>v.plain
 | _=>false
theorem hq7 {v:IV}{r:Value}(h:v.plain=true)(hv:VR ρ w v r):VR ρ' w' v r:=by
 induction hv with
 | bool b=>exact .bool _
 | int k n=>exact .int _ _
 | str s=>exact .str _
 | agg cs rs hl hv ih=>
  refine .agg cs rs hl fun i hi=>ih i hi ?_
  unfold IV.plain at h
  exact zi.1 h ⟨_,ae5 .undef hi⟩ (List.mem_attach _ _)
 | tuple cs rs hl hv ih=>
  refine .tuple cs rs hl fun i hi=>ih i hi ?_
  unfold IV.plain at h
  exact zi.1 h ⟨_,ae5 .undef hi⟩ (List.mem_attach _ _)
 | _=>simp[IV.plain] at h
theorem es9 (S:Nat->Prop)(ρ:Rho):∃ ρ':Rho,ci5 S ρ ρ'/\∀ b,ρ'.X b↔ρ.X b\/∃ i d,¬ S i/\ρ i=.at b d:=by
 refine ⟨⟨fun i=>if zz (S i) |>.decide then ρ i else .no,fun b=>ρ.X b\/∃ i d,¬ S i/\ρ i=.at b d⟩,⟨fun i h=>?_,fun i h=>?_,fun b h=>h⟩,fun b=>Iff.rfl⟩
 ·show (if (zz (S i)).decide=true then ρ i else ee3.no)=_;rw[if_pos (by simpa using h)]
 ·show (if (zz (S i)).decide=true then ρ i else ee3.no)=_;rw[if_neg (by simpa using h)]
def Store.only (σ:Store)(S:Nat->Bool):Store:=⟨σ.next,fun i=>if S i then σ.obj i else zb⟩
theorem fc9 {f:Nat}{args:List IV}{v:IV}(hE:∀ g,Bnd 0 (E g))(ha:∀ a∈args,Bnd 0 a)(h:C P E f args ⟨0,fun _=>zb⟩ fun v' σ'=>bw7 σ' 0 v' v):PC P E f args v:=by
 intro σ ρ w rargs hs hr;obtain ⟨ρ0,hk,hX⟩:=es9 (fun _=>False) ρ;have hs0:Sim E ρ0 w ⟨0,fun _=>zb⟩:=hs.jq1 hk (fun i h=>h.elim) (fun _ _=>rfl) (fun i o h=>h.elim) (fun i _=>hk.off i (fun h=>h)) (fun g=>(hE g).weak fun i h=>absurd h (ze _));have hr0:CR ρ0 w args rargs:=⟨hr.1,fun i hi=>(hr.2 i hi).cut hk ((ha _ (ae5 _ hi)).weak fun i h=>absurd h (ze _))⟩;refine CallsIn.mono (h ρ0 w rargs hs0 hr0) ?_;rintro e w' ⟨v',r,ρ',σ',rfl,hfz,hs',hv',hx⟩;have hno0:∀ i,ρ0 i=.no:=fun i=>hk.off i (fun h=>h)
 have hkeep:∀ b,b<w.heap.size->w'.heap[b]? = w.heap[b]?:=fun b hb=>hx.keep b ⟨hb,fun i d h=>by rw[hno0 i] at h; cases h⟩
 have hlt:∀ (b:Nat) (o:Obj),w.heap[b]? = za o->b<w.heap.size:=fun b o h=>by
  rcases qh b w.heap.size with h'|h'
  ·exact h'
  ·rw[zn h'] at h; cases h
 have hext:∀ n,Ext n ρ w ρ w':=fun n=>
  ⟨hx.size,fun b hb=>hkeep b hb.1,fun b rcs el fz h=>⟨rcs,by rw[hkeep b (hlt b _ h)]; exact h,rfl⟩,fun i B d h=>.inl ⟨i,d,h⟩,fun i B d h=>.inl h,fun i h=>h,fun i _ h=>h,hx.output,hx.os,hx.tape,fun l L h=>⟨L,by rw[hkeep l (hlt l _ h)]; exact h⟩,rfl⟩
 -- the tree lies on no block that is in use
 let ρ1:Rho:=⟨fun _=>.no,ρ'.X⟩;have hk1:ci5 (fun i=>i<0) ρ' ρ1:=⟨fun i h=>absurd h (ze _),fun i _=>rfl,fun b h=>.inl h⟩;have hv1:VR ρ1 w' v r:=hfz.vr hk1 rfl hs' r hv'
 have hv2:VR ρ w' v r:=hv1.refs (fun i h=>absurd rfl h) fun b hb=>⟨hb.1,fun i d hi=>hb.3 (by
   show ρ'.X b;rw[hx.X];exact (hX b).2 (.inr ⟨i,d,fun h=>h,hi⟩)),fun hxb=>hb.3 (by
   show ρ'.X b;rw[hx.X];exact (hX b).2 (.inl hxb))⟩
 refine ⟨v,r,ρ,σ,rfl,⟨rfl,rfl⟩,⟨hs.inj,fun i B d h=>zy (hs.lt i B d h) hx.size,fun i B d h=>?_,hs.dead,hs.fresh,hs.ax6,fun g=>(hs.env g).mono (hext 0),hs.nx,fun b h=>zy (hs.xlt b h) hx.size⟩,hv2,(hext σ.next).weak (z1 _)⟩;obtain ⟨o,h1,h2⟩:=hs.obj i B d h;exact ⟨o,h1,h2.mono (hext 0) (hkeep B (hs.lt i B d h))⟩
def Store.kills (σ:Store)(S:Nat->Bool):Store:=⟨σ.next,fun i=>if S i then σ.obj i else zb⟩
theorem db7 {S:Nat->Bool}(hs:Sim E ρ w σ):∃ ρd:Rho,Sim E ρd w (σ.kills S)/\(∀ n,Ext n ρ w ρd w)/\∀ v v' r,Frz σ (fun i=>S i=true) v v'->VR ρ w v r->VR ρd w v' r:=by
 let ρc:Rho:=⟨fun i=>if S i then ρ i else .no,ρ.X⟩;let ρd:Rho:=⟨fun i=>if S i then ρ i else match ρ i with|.no=>.no|_=>.dead,ρ.X⟩;have con:∀ i,S i=true->ρc i=ρ i:=fun i h=>by show (if S i=true then ρ i else .no)=_; rw[if_pos h]
 have coff:∀ i,S i=false->ρc i=.no:=fun i h=>by show (if S i=true then ρ i else .no)=_; rw[if_neg (by simp[h])]
 have don:∀ i,S i=true->ρd i=ρ i:=fun i h=>by show (if S i=true then ρ i else _)=_; rw[if_pos h]
 have doff:∀ i,S i=false->ρd i=(match ρ i with|.no=>.no|_=>.dead):=fun i h=>by show (if S i=true then ρ i else _)=_; rw[if_neg (by simp[h])]
 have hdat:∀ i B d,ρd i=.at B d->S i=true/\ρ i=.at B d:=fun i B d h=>by
  cases hsi:S i with
  | true=>rw[don i hsi] at h; exact ⟨rfl,h⟩
  | false=>rw[doff i hsi] at h; cases hri:ρ i<;>rw[hri] at h<;>cases h
 have hk:ci5 (fun i=>S i=true) ρ ρc:=⟨con,fun i h=>coff i (by simpa using h),fun b h=>.inl h⟩
 have hxd:∀ n,Ext n ρ w ρd w:=fun n=>du8 (fun i B d h=>by
   cases hsi:S i with
   | true=>rw[don i hsi]; exact .inl h
   | false=>rw[doff i hsi,h]; exact .inr rfl) (fun i h=>by
   cases hsi:S i with
   | true=>rw[don i hsi]; exact h
   | false=>rw[doff i hsi,h]) (fun i _ h=>by
   cases hsi:S i with
   | true=>rw[don i hsi]; exact h
   | false=>rw[doff i hsi,h]) (fun i B d h=>⟨i,d,(hdat i B d h).2⟩) rfl
 have hxc:Ext 0 ρc w ρd w:=du8 (fun i B d h=>by
   obtain ⟨h1,h2⟩:=hk.at h;exact .inl (by rw[don i h1]; exact h2)) (fun i h=>by
   cases hsi:S i with
   | true=>rw[con i hsi] at h; rw[don i hsi]; exact h
   | false=>rw[coff i hsi] at h; cases h) (fun i hi _=>absurd hi (ze _)) (fun i B d h=>⟨i,d,by rw[con i (hdat i B d h).1]; exact (hdat i B d h).2⟩) rfl
 refine ⟨ρd,?_,hxd,fun v v' r hf hv=>(hf.vr hk rfl hs r hv).mono hxc⟩;refine ⟨fun i j B d d' hi hj=>hs.inj i j B d d' (hdat _ _ _ hi).2 (hdat _ _ _ hj).2,fun i B d hi=>hs.lt i B d (hdat _ _ _ hi).2,fun i B d hi=>?_,fun i hi=>?_,fun i hi=>?_,fun i hi=>?_,fun g=>(hs.env g).mono (hxd 0),fun i B d hi=>hs.nx i B d (hdat _ _ _ hi).2,hs.xlt⟩
 ·obtain ⟨h1,h2⟩:=hdat _ _ _ hi;obtain ⟨o,g1,g2⟩:=hs.obj i B d h2;exact ⟨o,by simp[Store.kills,h1,g1],g2.mono (hxd 0) rfl⟩
 ·cases hsi:S i with
  | true=>rw[don i hsi] at hi; simp[Store.kills,hsi,hs.dead i hi]
  | false=>simp[Store.kills,hsi]
 ·have hn:σ.next<=i:=hi;have:=hs.fresh i hn
  cases hsi:S i with
  | true=>rw[don i hsi]; exact this
  | false=>rw[doff i hsi,this]
 ·cases hsi:S i with
  | true=>rw[don i hsi] at hi; simp[Store.kills,hsi,hs.ax6 i hi]
  | false=>simp[Store.kills,hsi]
theorem gm4 {S:Nat->Bool}{f:Nat}{args args':List IV}{Q:IV->Store->Prop}(hl:args'.length=args.length)(ha:∀ i,i<args.length->Frz σ (fun i=>S i=true) (args.getD i .undef) (args'.getD i .undef))
  (h:C P E f args' (σ.kills S) Q):C P E f args σ Q:=by
 intro ρ w rargs hs hr;obtain ⟨ρd,hs0,hxd,hvd⟩:=db7 (S:=S) hs;have hr0:CR ρd w args' rargs:=⟨by rw[hl]; exact hr.1,fun i hi=>hvd _ _ _ (ha i om) (hr.2 i om)⟩;refine CallsIn.mono (h ρd w rargs hs0 hr0) ?_;rintro e w' ⟨v,r,ρ',σ',rfl,hq,hs',hv',hx⟩;exact ⟨v,r,ρ',σ',rfl,hq,hs',hv',((hxd σ.next).weak (z1 _)).trans hx⟩
theorem be6 {f:Nat}{args args':List IV}{v:IV}(hE:∀ g,Bnd 0 (E g))(hl:args'.length=args.length)(ha:∀ i,i<args.length->bw7 σ 0 (args.getD i .undef) (args'.getD i .undef))(hp:v.plain=true)(h:PC P E f args' v):C P E f args σ (jc1 v σ):=by
 intro ρ w rargs hs hr;have hk:=ik2 ρ 0;have hs0:Sim E (ρ.cut 0) w ⟨0,fun _=>zb⟩:=hs.jq1 hk (fun i h=>absurd h (ze _)) (fun _ _=>rfl) (fun i o h=>absurd h (ze _)) (fun i _=>hk.off i (ze _)) hE;have hr0:CR (ρ.cut 0) w args' rargs:=⟨by rw[hl]; exact hr.1,fun i hi=>(ha i om).vr hk rfl hs _ (hr.2 i om)⟩;refine CallsIn.mono (h ⟨0,fun _=>zb⟩ (ρ.cut 0) w rargs hs0 hr0) ?_;rintro e w' ⟨v',r,ρ',σ',rfl,⟨rfl,rfl⟩,hs',hv',hx⟩;have hkeep:∀ b,b<w.heap.size->w'.heap[b]? = w.heap[b]?:=fun b hb=>hx.keep b ⟨hb,fun i d h=>absurd (hk.at h).1 (ze _)⟩
 have hlt:∀ (b:Nat) (o:Obj),w.heap[b]? = za o->b<w.heap.size:=fun b o h=>by
  rcases qh b w.heap.size with h'|h'
  ·exact h'
  ·rw[zn h'] at h; cases h
 have hext:∀ n,Ext n ρ w ρ w':=fun n=>
  ⟨hx.size,fun b hb=>hkeep b hb.1,fun b rcs el fz h=>⟨rcs,by rw[hkeep b (hlt b _ h)]; exact h,rfl⟩,fun i B d h=>.inl ⟨i,d,h⟩,fun i B d h=>.inl h,fun i h=>h,fun i _ h=>h,hx.output,hx.os,hx.tape,fun l L h=>⟨L,by rw[hkeep l (hlt l _ h)]; exact h⟩,rfl⟩
 refine ⟨_,r,ρ,σ,rfl,⟨rfl,rfl⟩,⟨hs.inj,fun i B d h=>zy (hs.lt i B d h) hx.size,fun i B d h=>?_,hs.dead,hs.fresh,hs.ax6,fun g=>(hs.env g).mono (hext 0),hs.nx,fun b h=>zy (hs.xlt b h) hx.size⟩,hq7 hp hv',(hext σ.next).weak (z1 _)⟩;obtain ⟨o,h1,h2⟩:=hs.obj i B d h;exact ⟨o,h1,h2.mono (hext 0) (hkeep B (hs.lt i B d h))⟩
end Go.Id
namespace Go.Id
open Go
variable {P:Program} {E:Nat->IV} {σ σ':Store} {N n n0:Nat} {fr:Frm}
inductive et1 where
 | o (x:al9)
 | loop (N:Nat) (fr:Frm) (ps:List Nat) (asg body:IC) (st:LoopState) (pend:Option JX)
 | app (rev:List (List IV)) (n:Nat) (h:rev.reverse.flatten.length=n/\rev.reverse.flatten.all IV.leaf=true)
 deriving Inhabited
def et1.fin:Option et1->Option et1
 | some (.app rev _ _)=>za (.o (.row rev.reverse.flatten))
 | x=>x
inductive Tr where
 | e
 | n (v:Option et1) (l r:Tr)
 deriving Inhabited
def Tr.raw:Tr->Nat->Option et1
 | .e,_=>zb
 | .n v l r,i=>bif qe i 0 then v else bif qe (i%2) 1 then l.raw (i/2) else r.raw (i/2-1)
def Tr.get (t:Tr)(i:Nat):Option et1:=et1.fin (t.raw i)
def Tr.set (x:Option et1):Nat->Tr->Nat->Tr
 | 0,t,_=>t
 | f+1,.e,i=>bif qe i 0 then .n x .e .e else bif qe (i%2) 1 then .n zb (Tr.set x f .e (i/2)) .e else .n zb .e (Tr.set x f .e (i/2-1))
 | f+1,.n v l r,i=>bif qe i 0 then .n x l r else bif qe (i%2) 1 then .n v (Tr.set x f l (i/2)) r else .n v l (Tr.set x f r (i/2-1))
theorem bh3 {α:Type}(a b:Nat)(x y:α):(bif qe a b then x else y)=if a=b then x else y:=by
 simp_all
theorem Tr.is7 (x:Option et1):∀ (f:Nat) (t:Tr) (i j:Nat),i+1<2^f->(Tr.set x f t i).raw j=if j=i then x else t.raw j:=by
 intro f
 induction f with
 | zero=>intro t i j h; simp at h
 | succ f ih=>
  intro t i j h;have hp:2^(f+1)=2*2^f:=by rw[Nat.pow_succ]; omega
  cases t with
  | e =>
   simp only[Tr.set,bh3];split
   ·rename_i h0; subst h0;simp only[Tr.raw,bh3];split
    ·rfl
    ·split<;>rfl
   ·rename_i h0;split
    ·rename_i h1;simp only[Tr.raw,bh3];by_cases hj:j=0
     ·subst hj; rw[if_pos rfl,if_neg om]
     ·rw[if_neg hj];split
      ·rename_i h2;rw[ih _ _ _ om];by_cases hij:j=i
       ·rw[if_pos hij,if_pos om]
       ·rw[if_neg hij,if_neg om]; rfl
      ·rw[if_neg om]
    ·rename_i h1;simp only[Tr.raw,bh3];by_cases hj:j=0
     ·subst hj; rw[if_pos rfl,if_neg om]
     ·rw[if_neg hj];split
      ·rw[if_neg om]
      ·rename_i h2;rw[ih _ _ _ om];by_cases hij:j=i
       ·rw[if_pos hij,if_pos om]
       ·rw[if_neg hij,if_neg om]; rfl
  | n v l r=>
   simp only[Tr.set,bh3];split
   ·rename_i h0; subst h0;simp only[Tr.raw,bh3];split
    ·rfl
    ·rfl
   ·rename_i h0;split
    ·rename_i h1;simp only[Tr.raw,bh3];by_cases hj:j=0
     ·subst hj; rw[if_pos rfl,if_neg om]; rfl
     ·rw[if_neg hj,if_neg hj];split
      ·rename_i h2;rw[ih _ _ _ om];by_cases hij:j=i
       ·rw[if_pos hij,if_pos om]
       ·rw[if_neg hij,if_neg om]
      ·rw[if_neg om]
    ·rename_i h1;simp only[Tr.raw,bh3];by_cases hj:j=0
     ·subst hj; rw[if_pos rfl,if_neg om]; rfl
     ·rw[if_neg hj,if_neg hj];split
      ·rw[if_neg om]
      ·rename_i h2;rw[ih _ _ _ om];by_cases hij:j=i
       ·rw[if_pos hij,if_pos om]
       ·rw[if_neg hij,if_neg om]
theorem Tr.ch5 (x:Option et1)(f:Nat)(t:Tr)(i j:Nat)(h:i+1<2^f):(Tr.set x f t i).get j=if j=i then et1.fin x else t.get j:=by
 unfold Tr.get;rw[Tr.is7 x f t i j h];split<;>rfl
structure XSt where
 next:Nat
 t:Tr
 deriving Inhabited
def XSt.put (xs:XSt)(i:Nat)(x:Option et1):Option XSt :=
 bif Nat.blt i 1152921504606846976 then za ⟨xs.next,xs.t.set x 64 i⟩ else zb
def XSt.st (xs:XSt):Store:=⟨xs.next,fun i=>match xs.t.get i with|some (.o x)=>za x|_=>zb⟩
theorem XSt.gm5 {xs xs':XSt}{i:Nat}{x:Option et1}(h:xs.put i x=za xs'):xs'.next=xs.next/\∀ j,xs'.t.get j=if j=i then et1.fin x else xs.t.get j:=by
 unfold XSt.put at h
 cases hb:Nat.blt i 1152921504606846976 with
 | false=>grind
 | true=>
  rw[hb] at h;cases h;have:i<1152921504606846976:=qi hb;exact ⟨rfl,fun j=>Tr.ch5 x 64 _ i j om⟩
def YR (P:Program)(E:Nat->IV)(id N:Nat)(fr:Frm)(ps:List Nat)(asg body:IC)(L:LoopState->Option JX->al9):Prop :=
 ∀ (σ':Store) (args:List IV) (K:IV->Store->Prop),args.length=ps.length->σ'.obj id=za (L .ready zb) ->
  RI P E N σ'.next asg (dh1 fr ps args) σ' (fun e f s=>e=.normal/\s.obj id=za (L .ready zb)/\RI P E N σ'.next body f (s.put id (L .busy zb)) (da3 id L K))->CYd P E id args σ' K
abbrev Lam:=Nat->LoopState->Option JX->al9
def XOR (P:Program)(E:Nat->IV)(Λ:Lam)(i:Nat):Option et1->Option al9->Prop
 | none,o=>o=zb
 | some (.o x),o=>o=za x
 | some (.app rev _ _),o=>o=za (.row rev.reverse.flatten)
 | some (.loop N fr ps asg body st pend),o=>o=za (Λ i st pend)/\YR P E i N fr ps asg body (Λ i)
structure XR (P:Program) (E:Nat->IV) (Λ:Lam) (xs:XSt) (σ:Store):Prop where
 next:xs.next=σ.next
 obj:∀ i,XOR P E Λ i (xs.t.get i) (σ.obj i)
theorem XR.put {Λ:Lam}{xs xs':XSt}{i:Nat}{x:al9}(h:XR P E Λ xs σ)(hp:xs.put i (za (.o x))=za xs'):XR P E Λ xs' (σ.put i x):=by
 obtain ⟨h1,h2⟩:=XSt.gm5 hp;refine ⟨by rw[h1]; exact h.next,fun j=>?_⟩;rw[h2,aa5];by_cases hj:j=i
 ·rw[if_pos hj,if_pos hj]; rfl
 ·rw[if_neg hj,if_neg hj]; exact h.obj j
theorem XR.kill {Λ:Lam}{xs xs':XSt}{i:Nat}(h:XR P E Λ xs σ)(hp:xs.put i zb=za xs'):XR P E Λ xs' (σ.kill i):=by
 obtain ⟨h1,h2⟩:=XSt.gm5 hp;refine ⟨by rw[h1]; exact h.next,fun j=>?_⟩;rw[h2];show XOR P E Λ j _ (if j=i then zb else σ.obj j);by_cases hj:j=i
 ·rw[if_pos hj,if_pos hj]; rfl
 ·rw[if_neg hj,if_neg hj]; exact h.obj j
theorem XR.get {Λ:Lam}{xs:XSt}{i:Nat}{x:al9}(h:XR P E Λ xs σ)(hg:xs.t.get i=za (.o x)):σ.obj i=za x:=by
 have:=h.obj i;rw[hg] at this;exact this
def LeS (s σ:Store):Prop:=∀ i x,s.obj i=za x->σ.obj i=za x
theorem XR.le {Λ:Lam}{xs:XSt}(h:XR P E Λ xs σ):LeS xs.st σ:=by
 intro i x hx;simp only[XSt.st] at hx;split at hx
 ·rename_i y hy; cases hx; exact h.get hy
 ·cases hx
def aw5:Nat->IV->Bool
 | 0,_=>false
 | n+1,v=>match v with
  | .ptr _ _|.slice _ _ _ _|.map _|.yield _|.ah8 _ _ _ _|.am2 _ _ _ _ _=>false
  | .ab8 cs=>cs.all (aw5 n)
  | .aa4 es=>es.all fun e=>e.all (aw5 n)
  | .an9 es=>es.all fun e=>aw5 n e.1&&aw5 n e.2
  | .func _ a b=>a.all (aw5 n)&&b.all (aw5 n)
  | .iface _ v=>aw5 n v
  | .agg cs=>cs.all (aw5 n)
  | .tuple cs=>cs.all (aw5 n)
  | _=>true
theorem az5:∀ (n:Nat) (v:IV),aw5 n v=true->Bnd 0 v:=by
 intro n
 induction n with
 | zero=>intro v h; cases h
 | succ n ih=>
  intro v h;have all:∀ {cs:List IV},cs.all (aw5 n)=true->∀ c∈cs,Bnd 0 c:=fun h c hc=>ih c (zi.1 h c hc)
  cases v with
  | undef=>exact .undef
  | bool b=>exact .bool b
  | int k x=>exact .int k x
  | str s=>exact .str s
  | af3=>exact .af3
  | ptr id off=>cases h
  | ab8 cs=>exact .ab8 cs (all h)
  | aa1=>exact .aa1
  | ad4=>exact .ad4
  | ag8=>exact .ag8
  | slice a b c d=>cases h
  | aa4 es=>exact .aa4 es fun e he=>all (zi.1 h e he)
  | ak4=>exact .ak4
  | map id=>cases h
  | an9 es=>exact .an9 es (fun e he=>ih _ (by have:=zi.1 h e he; simp at this; exact this.1)) (fun e he=>ih _ (by have:=zi.1 h e he; simp at this; exact this.2))
  | func f a b=>
   simp only[aw5,qa] at h
   exact .func f a b (all h.1) (all h.2)
  | yield id=>cases h
  | ac5=>exact .ac5
  | iface t v=>exact .iface t v (ih v h)
  | aj4=>exact .aj4
  | agg cs=>exact .agg cs (all h)
  | tuple cs=>exact .tuple cs (all h)
  | ah8 a b c d=>cases h
  | am2 a b c d e=>cases h
def ei8 (E:Nat->IV)(σ:Store)(fr:Frm)(σ':Store)(fr':Frm):Prop :=
 ∀ (ρ:Rho) (w:World),Sim E ρ w σ->∃ ρd:Rho,Sim E ρd w σ'/\(∀ n,Ext n ρ w ρd w)/\∀ (N:Nat) (tmps:Array Value),FR ρ w N fr tmps->FR ρd w N fr' tmps
theorem ei8.trans {σ'':Store}{fr fr' fr'':Frm}(h:ei8 E σ fr σ' fr')(h':ei8 E σ' fr' σ'' fr''):ei8 E σ fr σ'' fr'':=fun ρ w hs=>
 let ⟨ρ1,a1,a2,a3⟩:=h ρ w hs;let ⟨ρ2,b1,b2,b3⟩:=h' ρ1 w a1
 ⟨ρ2,b1,fun n=>(a2 n).trans (b2 n) (z1 _),fun N tmps hf=>b3 N tmps (a3 N tmps hf)⟩
theorem ei8.refl (fr:Frm):ei8 E σ fr σ fr:=fun ρ w hs=>⟨ρ,hs,fun n=>Ext.refl _ _ _,fun _ _ h=>h⟩
theorem ei8.of {S:Nat->Bool}{fr fr':Frm}(hf:∀ t,fr'.get t=fr.get t\/Frz σ (fun i=>S i=true) (fr.get t) (fr'.get t)):ei8 E σ fr (σ.kills S) fr':=fun ρ w hs=>by
 obtain ⟨ρd,hs0,hxd,hvd⟩:=db7 (S:=S) hs;refine ⟨ρd,hs0,hxd,fun N tmps hfr=>⟨hfr.size,fun t=>?_⟩⟩;rcases hf t with e|e
 ·rw[e]; exact (hfr.get t).mono (hxd 0)
 ·exact hvd _ _ _ e (hfr.get t)
end Go.Id
namespace Go.Id
open Go
variable {P:Program} {E:Nat->IV} {σ σ':Store} {N n n0:Nat} {fr:Frm}
abbrev RD:=Nat->Nat->List IV->XSt->Option (IV×XSt)
where
 it4 (r:IV->IV->Bool):List IV->List IV->Bool
  | [],[]=>true
  | a::x,b::y=>r a b&&it4 r x y
  | _,_=>false
 sameLL (r:IV->IV->Bool):List (List IV)->List (List IV)->Bool
  | [],[]=>true
  | a::x,b::y=>it4 r a b&&sameLL r x y
  | _,_=>false
variable {rd:RD} {Λ:Lam} {xs xs':XSt}
theorem fw5 {pf:List Nat}{an:Ann}{c:Code}{i:Nat}{x:IC}(h:bj3 P pf N an c=za (.block i x)):∃ a,c=.block i a/\bj3 P pf N an a=za x:=by
 cases c with
 | block id a=>obtain ⟨_,h1,h⟩:=map_some h; grind
 | scope a=>obtain ⟨_,_,h⟩:=map_some h; cases h
 | region id ops draw=>simp only[bj3] at h; grind
 | seq a b=>simp only[bj3] at h; grind
 | cond c a b=>simp only[bj3] at h; grind
 | loop a=>obtain ⟨_,_,h⟩:=map_some h; cases h
 | rangeFunc g ps assign body=>simp only[bj3] at h; grind
 | _=>cases h
theorem gm6 {pf:List Nat}{an:Ann}{c:Code}{x:IC}(h:bj3 P pf N an c=za (.loop x)):∃ a,c=.loop a/\bj3 P pf N an a=za x:=by
 cases c with
 | loop a=>obtain ⟨_,h1,h⟩:=map_some h; grind
 | region id ops draw=>simp only[bj3] at h; grind
 | seq a b=>simp only[bj3] at h; grind
 | cond c a b=>simp only[bj3] at h; grind
 | block id a=>obtain ⟨_,_,h⟩:=map_some h; cases h
 | scope a=>obtain ⟨_,_,h⟩:=map_some h; cases h
 | rangeFunc g ps assign body=>simp only[bj3] at h; grind
 | _=>cases h
theorem al1 {i:Nat}{x:IC}{Q:Exit->Frm->Store->Prop}(h:RI P E N n0 x fr σ (by6 i Q)):RI P E N n0 (.block i x) fr σ Q:=by
 intro pf an c hc;obtain ⟨a,rfl,hx⟩:=fw5 hc;exact gh3 (h pf an a hx)
theorem hr5 {x:IC}{Q:Exit->Frm->Store->Prop}(I:Nat->Frm->Store->Prop)(m:Nat)(h:I m fr σ)(hI:∀ m fr σ,I m fr σ->RI P E N n0 x fr σ (eq4 I m Q)):RI P E N n0 (.loop x) fr σ Q:=by
 intro pf an c hc;obtain ⟨a,rfl,hx⟩:=gm6 hc;exact ii3 I m h fun m fr σ hi=>hI m fr σ hi pf an a hx
end Go.Id
namespace Go.Id
open Go
variable {P:Program} {E:Nat->IV} {σ σ':Store}
inductive BT (V:Type) where
 | e
 | n (k:Nat) (v:V) (l r:BT V)
def BT.get {V:Type}:BT V->Nat->Option V
 | .e,_=>zb
 | .n k v l r,i=>bif qe i k then za v else bif Nat.ble i k then l.get i else r.get i
abbrev FE:=Nat×IC×List IR
def FOK (P:Program)(f:Nat)(e:FE):Prop:=okF P f=true/\∃ pf an,ij6 P f e.1 pf an e.2.1 e.2.2
theorem FOK.mk {f N:Nat}{pf:List Nat}{an:Ann}{ic:IC}{rs:List IR}(h:okF P f=true)(hf:ij6 P f N pf an ic rs):FOK P f (N,ic,rs):=⟨h,pf,an,hf⟩
instance instIX (n:Nat):OfNat IX n:=⟨.t n⟩
def oQ (d:Nat)(q:IQ):af8:=⟨za d,zb,.q q⟩
def oM (d:Nat)(x:IX):af8:=⟨za d,zb,.q (.mov x)⟩
def oK (d:Nat)(k:IK):af8:=⟨za d,zb,k⟩
def gQ (d s:Nat)(w:Bool)(q:IQ):af8:=⟨za d,za (s,w),.q q⟩
def gK (d s:Nat)(w:Bool)(k:IK):af8:=⟨za d,za (s,w),k⟩
def oN (k:IK):af8:=⟨zb,zb,k⟩
def cI (n:Int):IX:=.c (.int .i64 n)
def cB (b:Bool):IX:=.c (.bool b)
def zI (n:Int):IV:=.int .i64 n
def zU (n:Int):IV:=.int .u8 n
def db8:IC->Ann
 | .reg id _ keep=>[(id,keep)]
 | .hi8 id _ _ keep=>[(id,keep)]
 | .hj4 id _ keep=>[(id,keep)]
 | .seq a b=>db8 a++db8 b
 | .cond _ a b=>db8 a++db8 b
 | .block _ a=>db8 a
 | .loop a=>db8 a
 | .by1 _ _ a b=>db8 a++db8 b
 | .scope a=>db8 a
 | _=>[]
theorem ad8 (pf:List Nat){f N:Nat}{fn:Func}{ic:IC}{rs:List IR}(h:P.funcs[f]? = za fn)(ho:okF P f=true:=by kernel_rfl)(hN:fn.ntmps=N:=by kernel_rfl)(hc:fn.body.bind (bj3 P pf N (db8 ic))=za ic:=by kernel_rfl)(hr:fo8 P fn.results.toList=za rs:=by kernel_rfl):FOK P f (N,ic,rs):=
 .mk (pf:=pf) (an:=db8 ic) ho (ac9 h hN hc hr)
end Go.Id
namespace Go.Id
open Go
variable {H:Type} {enc:TypeId×Value->H} {P:Program} {w w':World} {base:Nat} {sp:Nat->Bool} {held:Bool} {ρ:Rho} {E:Nat->IV}
structure VL (ρ:Rho) (w:World) (ivs:List IV) (cs:List Value):Prop where
 len:ivs.length=cs.length
 get:∀ i,i<ivs.length->VR ρ w (ivs.getD i .undef) (cs.getD i undef)
def dvF (r:TypeId->DataW H->Option (List IV))(P:Program):List (TypeId×Nat)->List (DataW H)->Nat->Option (List IV)
 | [],[],_=>za []
 | f::fs,d::ds,off=>if f.2=off then (match r f.1 d with
  | some a=>if a.length=P.cellsOf f.1 then (match dvF r P fs ds (off+P.cellsOf f.1) with
   | some b=>za (a++b)
   | none=>zb) else zb
  | none=>zb) else zb
 | _,_,_=>zb
def dvS (r:DataW H->Option (List IV))(c:Nat):List (DataW H)->Option (List (List IV))
 | []=>za []
 | d::ds=>match r d with
  | some a=>if a.length=c then (match dvS r c ds with
   | some b=>za (a::b)
   | none=>zb) else zb
  | none=>zb
def dvE (r:DataW H->Option (List IV))(x:Lit×DataW H):IV×IV:=match x.1,r x.2 with
 | .string bs,za [v]=>(.str bs,v)
 | _,_=>(.undef,.undef)
def db9:List IV->Bool
 | []=>true
 | .str a::r=>(r.all fun|.str b=>!(a==b)|_=>false)&&db9 r
 | _::_=>false
def flat (P:Program)(e:TypeId):Bool:=match P.underlying e with
 | some .bool|some (.int _)|some .string|some (.slice _)|some (.pointer _)=>true
 | _=>false
def dv (P:Program):Nat->TypeId->DataW H->Option (List IV)
 | 0,_,_=>zb
 | m+1,t,d=>match P.underlying t,d with
  | some .bool,.lit (.bool b)=>za [.bool b]
  | some (.int _),.lit (.int k n)=>za [.int k n]
  | some .string,.lit (.string bs)=>za [.str bs]
  | some (.pointer _),.nil=>za [.af3]
  | some (.pointer e),.ptr d=>match dv P m e d with
   | some (c::cs)=>za [.ab8 (c::cs)]
   | _=>zb
  | some (.slice _),.nil=>za [.aa4 []]
  | some (.slice e),.slice els _=>if P.cellsOf e=0 then zb else match dvS (dv P m e) (P.cellsOf e) els with
   | some es=>za [.aa4 es]
   | none=>zb
  | some (.struct fs),.agg ds=>match dvF (dv P m) P (fs.toList.map fun f=>(f.type,f.offset)) ds 0 with
   | some ivs=>if ivs.length=P.cellsOf t then za ivs else zb
   | none=>zb
  | some (.array n e),.agg ds=>match dvF (dv P m) P ((List.range n).map fun i=>(e,i*P.cellsOf e)) ds 0 with
   | some ivs=>if ivs.length=P.cellsOf t then za ivs else zb
   | none=>zb
  | some (.map k e),.map es=>match P.underlying k with
   | some .string=>if flat P e&&db9 (es.map fun x=>(dvE (dv P m e) x).1) then za [.an9 (es.map (dvE (dv P m e)))] else zb
   | _=>zb
  | _,_=>zb
theorem ct1 {v:IV}{r:Value}(h:VR ρ w v r):VL ρ w [v] [r]:=⟨rfl,fun i hi=>by
 have h0:i=0:=by simpa using hi
 rw[h0]; exact h⟩
theorem ik4 {r:TypeId->DataW H->Option (List IV)} {rd:TypeId->List Value->DataW H->Prop} (hr:∀ t cs d ivs,rd t cs d->r t d=za ivs->VL ρ w ivs cs) (cs:List Value) :
  ∀ (fs:List (TypeId×Nat)) (ds:List (DataW H)) (off:Nat) (ivs:List IV),fs.length=ds.length ->
   (∀ (i:Nat) (f:TypeId×Nat) (d:DataW H),fs[i]? = za f->ds[i]? = za d->rd f.1 ((cs.drop f.2).take (P.cellsOf f.1)) d)->dvF r P fs ds off=za ivs ->
   ∀ i,i<ivs.length->off+i<cs.length/\VR ρ w (ivs.getD i .undef) (cs.getD (off+i) undef):=by
 intro fs
 induction fs with
 | nil=>
  intro ds off ivs hl _ h
  cases ds with
  | nil=>cases h; intro i hi; simp at hi
  | cons d ds=>simp at hl
 | cons f fs ih=>
  intro ds off ivs hl hrd h
  cases ds with
  | nil=>simp at hl
  | cons d ds=>
   simp only[dvF] at h;split at h
   ·rename_i hoff;split at h
    ·rename_i a ha;split at h
     ·rename_i hal;split at h
      ·rename_i b hb;cases h;have h0:=hr _ _ _ _ (hrd 0 f d rfl rfl) ha;have hl0:=h0.len;rw[hoff] at h0 hl0;simp only[List.length_take,List.length_drop] at hl0;intro i hi;by_cases hia:i<a.length
       ·have h1:=h0.get i hia;have hlt:off+i<cs.length:=om
        refine ⟨hlt,?_⟩;have e1:(a++b).getD i .undef=a.getD i .undef:=by simp[zc,qk,hia]
        have e2:((cs.drop off).take (P.cellsOf f.1)).getD i undef=cs.getD (off+i) undef:=by
         have:i<P.cellsOf f.1:=om
         simp[zc,List.getElem?_take,this,List.getElem?_drop]
        rw[e1,<- e2]; exact h1
       ·have h1:=ih ds _ b (by simpa using hl) (fun i f' d' hf hd=>hrd (i+1) f' d' (by simpa using hf) (by simpa using hd)) hb (i-a.length) (by simp at hi; omega);have e0:off+P.cellsOf f.1+(i-a.length)=off+i:=om
        rw[e0] at h1;refine ⟨h1.1,?_⟩;have e1:(a++b).getD i .undef=b.getD (i-a.length) .undef:=by simp[zc,qk,hia]
        rw[e1]; exact h1.2
      ·cases h
     ·cases h
    ·cases h
   ·cases h
theorem is9 {r:DataW H->Option (List IV)}{c:Nat}:∀ (ds:List (DataW H)) (es:List (List IV)),dvS r c ds=za es->es.length=ds.length/\∀ i,i<es.length->(es.getD i []).length=c/\∃ d,ds[i]? = za d/\r d=za (es.getD i []):=by
 intro ds
 induction ds with
 | nil=>intro es h; cases h; exact ⟨rfl,fun i hi=>by simp at hi⟩
 | cons d ds ih=>
  intro es h;simp only[dvS] at h;split at h
  ·rename_i a ha;split at h
   ·rename_i hal;split at h
    ·rename_i b hb;cases h;obtain ⟨h1,h2⟩:=ih b hb;refine ⟨by simp[h1],fun i hi=>?_⟩
     cases i with
     | zero=>exact ⟨hal,d,rfl,ha⟩
     | succ i=>
      obtain ⟨h3,d',h4,h5⟩:=h2 i (by simpa using hi);exact ⟨h3,d',h4,h5⟩
    ·cases h
   ·cases h
  ·cases h
theorem et2 {es:List (IV×IV)}(h:db9 (es.map (·.1))=true):di1 es:=by
 have:∀ (l:List IV),db9 l=true->l.Nodup/\∀ v∈l,∃ s,v=.str s:=by
  intro l
  induction l with
  | nil=>intro _; exact ⟨.nil,fun _ h=>by cases h⟩
  | cons v l ih=>
   intro h
   cases v with
   | str a=>
    simp only[db9,qa] at h;obtain ⟨h1,h2⟩:=ih h.2;refine ⟨List.nodup_cons.2 ⟨fun hm=>?_,h1⟩,fun v hv=>?_⟩
    ·have:=zi.1 h.1 _ hm;simp at this
    ·rcases zl.1 hv with rfl|hv
     ·exact ⟨a,rfl⟩
     ·exact h2 v hv
   | _=>cases h
 obtain ⟨h1,h2⟩:=this _ h;refine ⟨h1,.str,fun e he=>?_⟩;obtain ⟨s,hs⟩:=h2 e.1 (qg.2 ⟨e,he,rfl⟩);rw[hs]; trivial
theorem br1 {a:Addr}{v:Value}(h:w.cell? a=za v):a.spot=zb/\a.block<w.heap.size:=by
 unfold World.cell? at h;split at h
 ·rename_i c _ _ hb;split at h
  ·cases h
  ·rename_i hs;refine ⟨by simpa using hs,?_⟩;exact Nat.lt_of_not_le fun hle=>by rw[zn hle] at hb; cases hb
 ·cases h
theorem fw6:∀ {l:List IV},db9 l=true->∀ v∈l,∃ s,v=.str s:=by
 intro l
 induction l with
 | nil=>intro _ _ h; cases h
 | cons v l ih=>
  intro h
  cases v with
  | str a=>
   simp only[db9,qa] at h;intro v hv;rcases zl.1 hv with rfl|hv
   ·exact ⟨a,rfl⟩
   ·exact ih h.2 v hv
  | _=>cases h
theorem it1 {k:TypeId}{v:Value}{bs:List UInt8}(hk:P.underlying k=za .string)(h:keyOf P k v=za (.string bs)):v=.string ⟨bs.toArray⟩:=by
 unfold keyOf mapKey at h;rw[hk] at h
 cases v with
 | string s=>
  simp only at h;split at h
  ·cases h;congr 1
  ·cases h
 | _=>cases h
theorem fw7 {e:TypeId}{v:Value}(h:flat P e=true)(hf:v.formed P e=true):v.cells.toList=[v]:=by
 unfold flat at h
 cases v with
 | agg cs=>
  unfold Value.formed at hf
  split at h<;>simp_all
 | _=>rfl
theorem cp8 (hF:∀ b,b<w.heap.size->FB ρ w b):∀ (m n:Nat) (t:TypeId) (d:DataW H) (cs:List Value) (ps:List MemPlace) (ivs:List IV),
  DataW.trod enc P w base sp held n t cs=za (d,ps)->dv P m t d=za ivs->VL ρ w ivs cs:=by
 intro m
 induction m with
 | zero=>intro n t d cs ps ivs _ h; cases h
 | succ m ih=>
  intro n t d cs ps ivs h hd;unfold dv at hd;split at hd
  ·rename_i b hu;obtain ⟨b',rfl,hx⟩:=DataW.trod_bool hu h;cases hx; cases hd;exact ct1 (.bool _)
  ·rename_i k0 k n0 hu;obtain ⟨n',rfl,hx,_⟩:=DataW.trod_int hu h;cases hx; cases hd;exact ct1 (.int _ _)
  ·rename_i bs hu;obtain ⟨s,rfl,hx,_⟩:=DataW.trod_string hu h;cases hx; cases hd;have:(⟨s.data.toList.toArray⟩:ByteArray)=s:=by cases s; simp
   exact ct1 (by have:=VR.str (ρ:=ρ) (w:=w) s.data.toList; simpa using this)
  ·rename_i hu;cases hd;rcases DataW.trod_pointer hu h with ⟨rfl,_⟩|⟨a,cs',y,n',_,_,hx,_⟩
   ·exact ct1 .af3
   ·cases hx
  ·rename_i e d' hu;rcases DataW.trod_pointer hu h with ⟨_,hx⟩|⟨a,cs',y,n',rfl,rfl,hx,hc,hy⟩
   ·cases hx
   ·cases hx;split at hd
    ·rename_i c0 cs0 hd0;cases hd;have hv:=ih n' e y.1 cs' y.2 (c0::cs0) hy hd0;obtain ⟨_,hl,hcell⟩:=World.cells?_some hc;have hlen:=hv.len;simp only[z9] at hlen;have h0:=hcell 0 om;rw[zf om] at h0;obtain ⟨h1,h2⟩:=br1 h0;have ea:a.add 0=a:=rfl;rw[ea] at h1 h2;obtain ⟨b,o,s⟩:=a;simp only at h1; subst h1;refine ct1 (.ab8 (c0::cs0) b o (fun j=>cs'.getD j undef) (hF b h2) (fun j hj=>?_) (fun j hj=>hv.get j hj));simp only[z9] at hj;have hj':=hcell j om;have ej:(⟨b,o,zb⟩:Addr).add j=⟨b,o+j,zb⟩:=by unfold Addr.add; by_cases hj0:j=0<;>simp[hj0]
     rw[ej] at hj';rw[hj',zc,zf om];rfl
    ·cases hd
  ·rename_i e hu;cases hd;rcases DataW.trod_slice hu h with ⟨rfl,_⟩|⟨a,len,cap,elems,rest,n',_,_,hx,_⟩
   ·exact ct1 .ch1
   ·cases hx
  ·rename_i e els rst hu;split at hd
   ·cases hd
   ·rename_i hc0;split at hd
    ·rename_i es hes;cases hd;rcases DataW.trod_slice hu h with ⟨rfl,hx⟩|⟨a,len,cap,elems,rest,n',rfl,rfl,hx,_,hlc,_,hel,hcell,_,_⟩
     ·cases hx
     ·cases hx;obtain ⟨g1,g2⟩:=is9 _ _ hes;have hlen:es.length=len:=by rw[g1,List.length_map,hel]
      have key:∀ i,i<es.length->∃ ci p,w.cells? base (a.add (i*P.cellsOf e)) (P.cellsOf e)=za ci/\(es.getD i []).length=P.cellsOf e/\VL ρ w (es.getD i []) ci/\p=():=by
       intro i hi;obtain ⟨g3,d',g4,g5⟩:=g2 i hi;have hc:=hcell i om;rw[z0] at g4
       cases hei:elems[i]? with
       | none=>rw[hei] at g4; cases g4
       | some x=>
        rw[hei] at g4 hc;cases g4;obtain ⟨ci,hci,hx⟩:=Option.bind_eq_some_iff.1 hc;exact ⟨ci,(),hci,g3,ih n' e x.1 ci x.2 _ hx g5,rfl⟩
      have hF0:es≠[]->FB ρ w a.block/\a.spot=zb:=by
       intro hne;have h0:0<es.length:=List.length_pos_iff.2 hne;obtain ⟨ci,_,hci,g3,_,_⟩:=key 0 h0;obtain ⟨_,hl,hcc⟩:=World.cells?_some hci;have hcc0:=hcc 0 om;rw[zf om] at hcc0;have ea:(a.add (0*P.cellsOf e)).add 0=a:=by simp[Addr.add]
       rw[ea] at hcc0;obtain ⟨h1,h2⟩:=br1 hcc0;exact ⟨hF _ h2,h1⟩
      have hcells:∀ i,i<es.length->∀ j,j<P.cellsOf e->∃ v,w.cell? ⟨a.block,a.off+(i*P.cellsOf e+j),zb⟩=za v/\VR ρ w ((es.getD i []).getD j .undef) v:=by
       intro i hi j hj;obtain ⟨ci,_,hci,g3,g4,_⟩:=key i hi;obtain ⟨_,hl,hcc⟩:=World.cells?_some hci;have hcj:=hcc j hj;have hsp:=(hF0 (by intro h0; rw[h0] at hi; simp at hi)).2
       have ea:(a.add (i*P.cellsOf e)).add j=⟨a.block,a.off+(i*P.cellsOf e+j),zb⟩:=by
        obtain ⟨b,o,s⟩:=a;simp only at hsp; subst hsp;unfold Addr.add;by_cases h1:i*P.cellsOf e=0<;>by_cases h2:j=0<;>simp[h1,h2,Nat.add_assoc]
       rw[ea,zf om] at hcj;refine ⟨_,hcj,?_⟩;have:=g4.get j om;rw[zc (l:=ci),zf om] at this;exact this
      refine ct1 ?_;obtain ⟨b,o,s⟩:=a;rw[<- hlen];refine .aa4 es b o cap (P.cellsOf e) s (fun i j=>(w.cell? ⟨b,o+(i*P.cellsOf e+j),zb⟩).getD undef) hF0 (fun i hi=>(g2 i hi).1) (fun i hi j hj=>?_) (fun i hi j hj=>?_) om
      ·obtain ⟨v,h1,_⟩:=hcells i hi j hj;simp only at h1;rw[h1]; rfl
      ·obtain ⟨v,h1,h2⟩:=hcells i hi j hj;simp only at h1;rw[h1]; exact h2
    ·cases hd
  ·rename_i fs ds hu;split at hd
   ·rename_i ivs' hd';split at hd
    ·rename_i hil;cases hd;obtain ⟨xs,n',rfl,hx,hlen,hxl,hfi⟩:=DataW.trod_struct hu h;cases hx
     have hg:=ik4 (P:=P) (rd:=fun t cs d=>∃ p,DataW.trod enc P w base sp held n' t cs=za (d,p)) (fun t cs d ivs ⟨p,hp⟩ h=>ih n' t d cs p ivs hp h) cs _ _ 0 _ (by simp[hxl]) (fun i f d hf hd=>by
      rw[z0] at hf hd
      cases hfi':fs.toList[i]? with
      | none=>rw[hfi'] at hf; cases hf
      | some f0=>
       rw[hfi'] at hf; cases hf;have:=hfi i f0 (by simpa using hfi')
       cases hxi:xs[i]? with
       | none=>rw[hxi] at hd; cases hd
       | some x=>rw[hxi] at hd this; cases hd; exact ⟨x.2,this⟩) hd'
     exact ⟨by rw[hil,hlen],fun i hi=>by have:=(hg i hi).2; rwa [zj] at this⟩
    ·cases hd
   ·cases hd
  ·rename_i k e ds hu;split at hd
   ·rename_i ivs' hd';split at hd
    ·rename_i hil;cases hd;obtain ⟨xs,n',rfl,hx,hlen,hxl,hfi⟩:=DataW.trod_array hu h;cases hx
     have hg:=ik4 (P:=P) (rd:=fun t cs d=>∃ p,DataW.trod enc P w base sp held n' t cs=za (d,p)) (fun t cs d ivs ⟨p,hp⟩ h=>ih n' t d cs p ivs hp h) cs _ _ 0 _ (by simp[hxl]) (fun i f d hf hd=>by
      rw[z0] at hf hd
      cases hfi':(List.range k)[i]? with
      | none=>rw[hfi'] at hf; cases hf
      | some f0=>
       rw[hfi'] at hf; cases hf;obtain ⟨hik,rfl⟩:=List.getElem?_eq_some_iff.1 hfi';simp only[List.length_range] at hik;have:=hfi i hik;simp only[List.getElem_range]
       cases hxi:xs[i]? with
       | none=>rw[hxi] at hd; cases hd
       | some x=>rw[hxi] at hd this; cases hd; exact ⟨x.2,this⟩) hd'
     exact ⟨by rw[hil,hlen],fun i hi=>by have:=(hg i hi).2; rwa [zj] at this⟩
    ·cases hd
   ·cases hd
  ·rename_i k e es hu;split at hd
   ·rename_i hk;split at hd
    ·rename_i hfn;cases hd;simp only[qa] at hfn;obtain ⟨hfl,hnd⟩:=hfn;rcases WideElems.open_map hu h with ⟨_,hx⟩|⟨b,mes,clock,n',rfl,rfl,hb,_,F,hx⟩
     ·cases hx
     ·simp only[Prod.mk.injEq,DataW.map.injEq] at hx;obtain ⟨hx,_⟩:=hx;have hlt:b<w.heap.size:=Nat.lt_of_not_le fun hle=>by rw[zn hle] at hb; cases hb
      let g:Lit×DataW H->IV×IV:=dvE (dv P m e);let L:=mes.toList.map (WideElems.rg P k (WideElems.elemAt enc P w base sp held n' e));have hp:L.Perm es:=by rw[hx]; exact (WideShapes.sorted_perm L).symm
      have hpg:(L.map g).Perm (es.map g):=hp.map g;have hko:di1 (es.map g):=et2 (by rw[List.map_map]; exact hnd)
      have ent:∀ i,i<mes.size->VR ρ w ((L.map g).getD i (.undef,.undef)).1 (mes.getD i default).key/\VR ρ w ((L.map g).getD i (.undef,.undef)).2 (mes.getD i default).val:=by
       intro i hi
       have hmem:mes.getD i default∈mes.toList:=by
        have:=ae5 (default:MapEntry) (l:=mes.toList) (i:=i) (by simpa using hi)
        simpa [zc,zd] using this
       obtain ⟨y,hy⟩:=F.reads _ hmem
       have e1:(L.map g).getD i (.undef,.undef)=g y:=by
        have:L[i]? = za y:=by
         simp only[L,z0];rw[show mes.toList[i]? = za (mes.getD i default) by simp[zd,hi]];exact congrArg za (WideElems.rg_of hy)
        simp[zc,this]
       rw[e1];have hyL:y∈L:=qg.2 ⟨_,hmem,WideElems.rg_of hy⟩;have hys:∃ s,(g y).1=.str s:=fw6 hnd _ (qg.2 ⟨y,hp.mem_iff.1 hyL,rfl⟩);have hkey:=WideElems.rd_key hy;obtain ⟨z,hz,hyz⟩:=WideElems.rd_val hy;simp only[g,dvE] at hys ⊢;split at hys
       ·rename_i bs v hl hv;refine ⟨?_,?_⟩
        ·rw[hl] at hkey;rw[it1 hk hkey]; exact .str _
        ·generalize mes.getD i default=me at hz ⊢;unfold WideElems.elemAt at hz;split at hz
         ·rename_i hform;have hvl:=ih n' e z.1 _ z.2 [v] hz (by rw[<- hyz]; exact hv);have hcl:=fw7 hfl hform;rw[hcl] at hvl;exact hvl.get 0 (by simp)
         ·cases hz
       ·obtain ⟨_,hys⟩:=hys; cases hys
      have hsz:(L.map g).length=mes.size:=by simp[L]
      obtain ⟨s1,s2,_⟩:=F.stamped;refine ct1 (.an9 (es.map g) (L.map g) b mes clock hpg hko (hF b hlt) hb hsz (fun i hi=>(ent i om).1) (fun i hi=>(ent i om).2) ?_ ?_)
      ·intro i hi;refine s1 _ ?_;have:=ae5 (default:MapEntry) (l:=mes.toList) (i:=i) (by simpa using hi)
       simpa [zc,zd] using this
      ·intro i j hij hj he;have:=(List.pairwise_iff_getElem.1 s2) i j (by simp; omega) (by simpa using hj) hij;simp only[List.getElem_map,Array.getElem_toList] at this;apply this;have hi:i<mes.size:=om
       simpa [zd,hi,hj] using he
    ·cases hd
   ·cases hd
  ·cases hd
def fw8 (l:List (Nat×List IV))(g:Nat):IV:=match l.lookup g with
 | some cs=>.ab8 cs
 | none=>.undef
theorem gm7 {laid:List (String×DataW Unit)}(hF:∀ b,b<w.heap.size->FB ρ w b):∀ (laid:List (String×DataW Unit)) (ps:List MemPlace),DataW.LaidVars P w laid ps->∀ (name:String) (d:DataW Unit),(name,d)∈laid->∀ (g:Nat) (t:TypeId) (m:Nat) (c:IV) (ivs:List IV),
  P.globalNamed name=za g->(P.globals[g]?).map (·.type)=za t->dv P m t d=za (c::ivs)->VR ρ w (.ab8 (c::ivs)) (.pointer (za ⟨g,0,zb⟩)):=by
 intro laid
 induction laid with
 | nil=>intro ps _ name d hm; cases hm
 | cons x r ih=>
  intro ps h name d hm g t m c ivs hg ht hd;obtain ⟨xn,xd⟩:=x;obtain ⟨g',t',cs,fuel,p,q,h1,h2,h3,h4,h5,_⟩:=h;rcases zl.1 hm with hm|hm
  ·cases hm;obtain rfl:=za.inj (h1.symm.trans hg);obtain rfl:=za.inj (h2.symm.trans ht);have hv:=cp8 hF m fuel _ d _ p _ h4 hd;have hc:=fun i=>World.var?_cell h1 h3 i
   have hlen:=hv.len;simp only[z9,Array.length_toList] at hlen;have h0:=hc 0;rw[qf om] at h0;refine .ab8 (c::ivs) _ 0 (fun j=>cs.getD j undef) (hF _ (br1 h0).2) (fun j hj=>?_) (fun j hj=>?_)
   ·simp only[z9] at hj;rw[zj,hc j,qf om];simp[zd,show j<cs.size by omega]
   ·have:=hv.get j hj
    simpa [zc,zd] using this
  ·exact ih _ h5 name d hm g t m c ivs hg ht hd
def gc6:Rho:=⟨fun _=>.no,fun _=>False⟩
theorem ca2:∀ b,b<w.heap.size->FB gc6 w b:=fun b h=>⟨h,(fun _ _ h=>by cases h),fun h=>h⟩
def ka3:Store:=⟨0,fun _=>zb⟩
theorem hr6 {laid:List (String×DataW Unit)}(h:laidMet P laid w)(l:List (Nat×List IV))
  (hl:∀ x∈l,∃ (name:String) (d:DataW Unit) (t:TypeId) (m:Nat) (c:IV) (ivs:List IV),x.2=c::ivs/\(name,d)∈laid/\P.globalNamed name=za x.1/\(P.globals[x.1]?).map (·.type)=za t/\dv P m t d=za (c::ivs)) :
  ∀ g,VR gc6 w (fw8 l g) (.pointer (za ⟨g,0,zb⟩)):=by
 intro g;unfold fw8
 cases hg:l.lookup g with
 | none=>exact .undef _
 | some cs=>
  obtain ⟨ps,hps,_,_⟩:=h
  have hm:(g,cs)∈l:=by
   clear hl
   induction l with
   | nil=>cases hg
   | cons x l ih=>
    obtain ⟨a,b⟩:=x;simp only[List.lookup] at hg;split at hg
    ·rename_i hb;cases hg;have:g=a:=by simpa using hb
     rw[this]; exact ql ..
    ·exact qj _ (ih hg)
  obtain ⟨name,d,t,m,c,ivs,h1,h2,h3,h4,h5⟩:=hl _ hm;simp only at h1 h3 h4;rw[h1];exact gm7 (laid:=laid) ca2 laid ps hps name d h2 g t m c ivs h3 h4 h5
theorem kl5 (h:∀ g,VR gc6 w (E g) (.pointer (za ⟨g,0,zb⟩))):Sim E gc6 w ka3 :=
 ⟨(fun _ _ _ _ _ h=>by cases h),(fun _ _ _ h=>by cases h),(fun _ _ _ h=>by cases h),(fun _ h=>by cases h),(fun _ _=>rfl),(fun _ _=>rfl),h,(fun _ _ _ h=>by cases h),fun _ h=>h.elim⟩
theorem hr7 {f:FuncId}{args:List IV}{rargs:Array Value}{b:Bool}(h:PC P E f args (.bool b))(he:∀ g,VR gc6 w (E g) (.pointer (za ⟨g,0,zb⟩)))(ha:CR gc6 w args rargs) :
  Calls P f rargs w fun e w'=>e=.returned (.bool b)/\RowKit.Below w.heap.size w w':=by
 refine callsIn_wide.1 (CallsIn.mono (h ka3 gc6 w rargs (kl5 he) ha) ?_);rintro e w' ⟨v,r,ρ',σ',rfl,⟨rfl,rfl⟩,_,hv,hx⟩;cases hv;exact ⟨rfl,hx.os,hx.tape.1,hx.output,hx.size,fun k hk=>hx.keep k (ca2 k hk).ub⟩
theorem dx3 {H:Type}{enc:TypeId×Value->H}{f:Func}{s:ChangeSpec}{apart fresh handsOn again:Bool}{W W':World}{args:Array Value}{v:Value}{ds gs:List (DataW H)}{before pa pv:List MemPlace}
  (hW:DataW.Whole enc P f.params.toList s.vars apart W args.toList ds gs before)
  (hres:∀ (b:Nat) (sp:Nat->Bool) (hd:Bool),DataW.TrodAll enc P W' b sp hd f.resultTypes.toList (v.resultList f.resultTypes.size) (s.fn H (ds++gs)).results [])
  (hargs:∀ sp:Nat->Bool,(∀ p∈before,sp p.block=true)->DataW.TrodAll enc P W' 0 sp true f.params.toList args.toList (s.fn H (ds++gs)).args pa)
  (hvars:∀ sp:Nat->Bool,(∀ p∈before,sp p.block=true)->DataW.TrodVars enc P W' sp s.vars (s.fn H (ds++gs)).vars pv)
  (hps:before=pa++pv) (hb:RowKit.Below W.heap.size W W')
  (hok:∀ (j:Nat) (t:TypeId) (r:Value),f.resultTypes[j]? = za t->(v.resultList f.resultTypes.size)[j]? = za r->Value.okWide P W' .any 0 t r) :
  s.post enc P f apart fresh handsOn again W args v W':=by
 have hlt:∀ p∈before,p.block<W.heap.size:=fun p hp=>hW.lt p hp
 have hold:∀ p∈before,(fun b=>decide (b<W.heap.size)) p.block=true:=fun p hp=>by simpa using hlt p hp
 refine ⟨ds,gs,before,[],pa,pv,hW,hres _ _ _,hargs _ hold,hvars _ hold,World.keptBut_mono (fun p hp=>⟨hp,?_⟩) (hb.frame (·∈before)),fun _=>?_⟩
 ·rw[hps,List.mem_append] at hp;exact Or.inr hp
 ·obtain ⟨_,_,_,_,_,hz,hn⟩:=hW;refine ⟨hok,_,_,([]++pa)++pv,⟨[]++pa,pv,ChangeShapes.trodAll_append (hargs _ (fun _ _=>rfl)) (hres _ _ _),hvars _ (fun _ _=>rfl),rfl,?_,?_⟩,?_⟩
  ·intro b off hp;have hin:MemPlace.cell b off∈before:=by rw[hps]; simpa using hp
   rw[hb.frozen (hlt _ hin)];exact hz b off hin
  ·intro ha;have:=hn ha;rw[hps] at this
   simpa using this
  ·intro p hp _;rw[hps]
   simpa using hp
end Go.Id
namespace Go.Id
open Go
variable {P:Program} {E:Nat->IV}
def opsL:List (IV×IV):=[(.str [],.int .u8 0),(.str [60],.int .u8 1),(.str [60,61],.int .u8 3),(.str [61],.int .u8 2),(.str [62],.int .u8 4),(.str [62,61],.int .u8 6)]
def eu3 (op:Int):List UInt8:=if op=1 then [60] else if op=2 then [61] else if op=3 then [60,61] else if op=4 then [62] else if op=6 then [62,61] else []
def ik9 (g:Nat):IC :=
(.seq
 (.reg 0 [⟨(za 2),zb,(.q (.mov (.c (.str []))))⟩] [0])
 (.seq
 (.seq
  (.reg 1 [⟨(za 5),zb,(.q (.load zb (.g g)))⟩,⟨(za 6),zb,(.bg9 (.t 5))⟩] [0,6])
  (.block 0
  (.loop
   (.seq
   (.reg 2 [⟨(za 7),zb,(.cj3 (.t 6))⟩,⟨(za 8),zb,(.q (.ext 0 (.t 7)))⟩] [0,6,8])
   (.seq
    (.cond (.t 8)
    .skip
    (.exit 0))
    (.block 1
    (.seq
     (.reg 3 [⟨(za 9),zb,(.fo6 (.t 6))⟩,⟨(za 10),zb,(.q (.ext 0 (.t 9)))⟩,⟨(za 11),zb,(.q (.ext 1 (.t 9)))⟩,⟨(za 3),zb,(.q (.mov (.t 10)))⟩,⟨(za 4),zb,(.q (.mov (.t 11)))⟩] [0,3,4,6])
     (.seq
     (.reg 4 [⟨(za 12),zb,(.q (.mov (.t 4)))⟩,⟨(za 13),zb,(.q (.mov (.t 0)))⟩,⟨(za 14),zb,(.q (.bin .eql (.t 12) (.t 13)))⟩] [0,3,6,14])
     (.cond (.t 14)
      (.seq
      (.reg 5 [⟨(za 15),zb,(.q (.mov (.t 3)))⟩,⟨(za 2),zb,(.q (.mov (.t 15)))⟩] [2])
      .ret)
      .skip)))))))))
 (.seq
  (.reg 6 [⟨(za 2),zb,(.q (.mov (.c (.str []))))⟩] [2])
  .ret)))
theorem ek2 {α:Type}{d:α}{e:α}:∀ {l:List α} {j:Nat},e∈l->e∈l.eraseIdx j\/e=l.getD j d:=by
 intro l
 induction l with
 | nil=>intro j h; cases h
 | cons x l ih=>
  intro j h
  cases j with
  | zero=>
   rcases zl.1 h with rfl|h
   ·exact .inr rfl
   ·exact .inl h
  | succ j=>
   rcases zl.1 h with rfl|h
   ·exact .inl (ql ..)
   ·rcases ih (j:=j) h with h|h
    ·exact .inl (qj _ h)
    ·exact .inr h
structure TxI (σ0:Store) (n:Int) (id:Nat) (m:Nat) (fr:Frm) (σ:Store):Prop where
 f0:fr.get 0=.int .u8 n
 f6:fr.get 6=.ptr id 0
 next:σ0.next<=σ.next
 low:∀ i,i<σ0.next->σ.obj i=σ0.obj i
 lt:σ0.next<=id
 obj:∃ left cur,σ.obj id=za (.av2 left cur)/\left.length=m/\(∀ e∈left,e∈opsL)/\∀ e∈opsL,e.2=.int .u8 n->e∈left
theorem hv8 {n:Int}{e:IV×IV}(h:e∈opsL)(hn:e.2=.int .u8 n):e.1=.str (eu3 n):=by
 simp only[opsL,zl,List.not_mem_nil,or_false] at h;rcases h with rfl|rfl|rfl|rfl|rfl|rfl<;>cases hn<;>rfl
theorem gp4 {n:Int}(h:∀ e∈opsL,e.2≠.int .u8 n):eu3 n=[]:=by
 have h1:=h (.str [60],.int .u8 1) (by simp[opsL]);have h2:=h (.str [61],.int .u8 2) (by simp[opsL]);have h3:=h (.str [60,61],.int .u8 3) (by simp[opsL]);have h4:=h (.str [62],.int .u8 4) (by simp[opsL]);have h6:=h (.str [62,61],.int .u8 6) (by simp[opsL]);simp only[ne_eq,IV.int.injEq,true_and] at h1 h2 h3 h4 h6;simp[eu3,Ne.symm h1,Ne.symm h2,Ne.symm h3,Ne.symm h4,Ne.symm h6]
theorem iu4 {f g:Nat}{pf:List Nat}{an:Ann}{n:Int}(hf:ij6 P f 16 pf an (ik9 g) [.t 2])(hg:E g=.ab8 [.an9 opsL]):PC P E f [.int .u8 n] (.str (eu3 n)):=by
 refine jw9 noT hf (qi rfl) fun σ hb=>?_
 simp only[ik9,dj8,dj9,cj4,bt8,dk4,cj5,dk5,cj6,fp4,jc3,fo9,fp1,dk6,cj7,dk7,cj8,cj9,bt9,dk8,w_q,ck3,fp5,fp6,ck4,fp7,ck6,bu1,ck5,dk9,dl1,dl2,ck7,bu2,fp8,dl3,fp9,dl4,ck8,ck9,dl5,fq1,fq2,fq3,fq4,fq5,fq6,fq7,fq8,fq9,fr3,dl6,fr4,dl7,fr5,dl8,cl1,dl9,dm4,fr6,jc6,jc7,fr7,fr8,fr9,fs1,fs2,fs3,fs4,fs5,fs6,fs7,dm5,cl2,bu3,bk2,cl3,bu4,dm1,dm2,dm3,cl4,jc4,jc5,bk4,bu8,cm6,cm7,cm8,cm5,dn8,e_t,e_c,e_g,e_f,fs8,dm6,fs9,ft1,ft2,aj6,ft3,dm7,cl5,ft4,cl6,ft5,cl7,cl8,ft6,dm8,ft7,dm9,ft8,ft9,fu1,fu2,dn1,dn2,es5,ij9,ei6,es4,cl9,cm1,dn3,dn4,cm2,cm3,jc8,bu5,dn5,dn6,dn7,bu6,cm4,bk3,bu7,bu9,cm9,bv1,bv2,dn9,do1,es6,es7,cn1,cn2,cn3,cn4,do2,do3,cn5,bv3,fu3,fu4,fu5,fu6,fu7,fu8,fu9,fv1,fv2,fv3,fv4,fv5,fv6,do4,do5,do6,do7,do8,do9,dp1,dp2,dp3,dp4,bo7,bn3,cn6,cn7,cn8,dp5,dp6,dp7,dp8,fv7,fv8,dp9,fv9,cn9,co1,co2,fw3,bq9,ik1,dq8,co3,co4,bv4,bp3,cd5,fw1,cv3,bv5,fw2,cv4,bv6,bv7,co5,co6,co7,co8,bv8,co9,cp1,bv9,bk5,bd9,bw1,cp3,bw2,dq2,dq3,dq4,cp4,bw3,cp5,cp6,bw4,bk6,be1,bw5,cp7,bw6,dq5,dq6,dq7,zg,zh,z2,qb,zv,zk,zt,z5,z6,Frm.bt7,Frm.get_nil,ab7,aa5,decide_true,decide_false,zu,zr,zo,zm,zw,z3,z4,zx,zq,z8,z7,qc,qd,zj,zp,if_true,if_false,↓reduceIte,reduceCtorEq,true_and,and_true,hg];refine ij7 noT (TxI σ n σ.next) opsL.length ⟨rfl,rfl,?_,?_,z1 _,opsL,zb,?_,rfl,fun _ h=>h,fun _ h _=>h⟩ ?_
 ·show σ.next<=σ.next+1; omega
 ·intro i hi; simp only[aa5]; rw[if_neg om]
 ·simp only[aa5,if_true]
 ·rintro m fr s ⟨f0,f6,h1,h2,h3,left,cur,h4,h5,h6,h7⟩;have hm:bp8 s (.ptr σ.next 0)=za (σ.next,left):=by simp only[bp8,h4]
  simp only[dj8,dj9,cj4,bt8,dk4,cj5,dk5,cj6,fp4,jc3,fo9,fp1,dk6,cj7,dk7,cj8,cj9,bt9,dk8,w_q,ck3,fp5,fp6,ck4,fp7,ck6,bu1,ck5,dk9,dl1,dl2,ck7,bu2,fp8,dl3,fp9,dl4,ck8,ck9,dl5,fq1,fq2,fq3,fq4,fq5,fq6,fq7,fq8,fq9,fr3,dl6,fr4,dl7,fr5,dl8,cl1,dl9,dm4,fr6,jc6,jc7,fr7,fr8,fr9,fs1,fs2,fs3,fs4,fs5,fs6,fs7,dm5,cl2,bu3,bk2,cl3,bu4,dm1,dm2,dm3,cl4,jc4,jc5,bk4,bu8,cm6,cm7,cm8,cm5,dn8,e_t,e_c,e_g,e_f,fs8,dm6,fs9,ft1,ft2,aj6,ft3,dm7,cl5,ft4,cl6,ft5,cl7,cl8,ft6,dm8,ft7,dm9,ft8,ft9,fu1,fu2,dn1,dn2,es5,ij9,ei6,es4,cl9,cm1,dn3,dn4,cm2,cm3,jc8,bu5,dn5,dn6,dn7,bu6,cm4,bk3,bu7,bu9,cm9,bv1,bv2,dn9,do1,es6,es7,cn1,cn2,cn3,cn4,do2,do3,cn5,bv3,fu3,fu4,fu5,fu6,fu7,fu8,fu9,fv1,fv2,fv3,fv4,fv5,fv6,do4,do5,do6,do7,do8,do9,dp1,dp2,dp3,dp4,bo7,bn3,cn6,cn7,cn8,dp5,dp6,dp7,dp8,fv7,fv8,dp9,fv9,cn9,co1,co2,fw3,bq9,ik1,dq8,co3,co4,bv4,bp3,cd5,fw1,cv3,bv5,fw2,cv4,bv6,bv7,co5,co6,co7,co8,bv8,co9,cp1,bv9,bk5,bd9,bw1,cp3,bw2,dq2,dq3,dq4,cp4,bw3,cp5,cp6,bw4,bk6,be1,bw5,cp7,bw6,dq5,dq6,dq7,zg,zh,z2,qb,zv,zk,zt,z5,z6,Frm.bt7,Frm.get_nil,ab7,aa5,decide_true,decide_false,zu,zr,zo,zm,zw,z3,z4,zx,zq,z8,z7,qc,qd,zj,zp,if_true,if_false,↓reduceIte,reduceCtorEq,true_and,and_true,f0,f6,hm];constructor
  ·intro h0;subst h0;have hno:∀ e∈opsL,e.2≠.int .u8 n:=fun e he hn=>by have:=h7 e he hn; cases this
   refine ⟨fun i hi=>h2 i hi,h1,?_⟩;rw[gp4 hno];exact .keep _ (.str _)
  ·intro j hj;have hmem:left.getD j (.undef,.undef)∈left:=ae5 _ hj;have hops:=h6 _ hmem;have hment:∀ c x,cu7 ⟨x,(s.put σ.next (.av2 (left.eraseIdx j) (za c))).obj⟩ (.ptr σ.next 0)=za (.tuple [c.1,c.2]):=fun c x=>by simp only[cu7,aa5,if_true]
   generalize hc:left.getD j (.undef,.undef)=c at hmem hops ⊢
   obtain ⟨k,hk⟩:∃ k,c.2=.int .u8 k:=by
    simp only[opsL,zl,List.not_mem_nil,or_false] at hops;rcases hops with rfl|rfl|rfl|rfl|rfl|rfl<;>exact ⟨_,rfl⟩
   simp only[hment,dj8,dj9,cj4,bt8,dk4,cj5,dk5,cj6,fp4,jc3,fo9,fp1,dk6,cj7,dk7,cj8,cj9,bt9,dk8,w_q,ck3,fp5,fp6,ck4,fp7,ck6,bu1,ck5,dk9,dl1,dl2,ck7,bu2,fp8,dl3,fp9,dl4,ck8,ck9,dl5,fq1,fq2,fq3,fq4,fq5,fq6,fq7,fq8,fq9,fr3,dl6,fr4,dl7,fr5,dl8,cl1,dl9,dm4,fr6,jc6,jc7,fr7,fr8,fr9,fs1,fs2,fs3,fs4,fs5,fs6,fs7,dm5,cl2,bu3,bk2,cl3,bu4,dm1,dm2,dm3,cl4,jc4,jc5,bk4,bu8,cm6,cm7,cm8,cm5,dn8,e_t,e_c,e_g,e_f,fs8,dm6,fs9,ft1,ft2,aj6,ft3,dm7,cl5,ft4,cl6,ft5,cl7,cl8,ft6,dm8,ft7,dm9,ft8,ft9,fu1,fu2,dn1,dn2,es5,ij9,ei6,es4,cl9,cm1,dn3,dn4,cm2,cm3,jc8,bu5,dn5,dn6,dn7,bu6,cm4,bk3,bu7,bu9,cm9,bv1,bv2,dn9,do1,es6,es7,cn1,cn2,cn3,cn4,do2,do3,cn5,bv3,fu3,fu4,fu5,fu6,fu7,fu8,fu9,fv1,fv2,fv3,fv4,fv5,fv6,do4,do5,do6,do7,do8,do9,dp1,dp2,dp3,dp4,bo7,bn3,cn6,cn7,cn8,dp5,dp6,dp7,dp8,fv7,fv8,dp9,fv9,cn9,co1,co2,fw3,bq9,ik1,dq8,co3,co4,bv4,bp3,cd5,fw1,cv3,bv5,fw2,cv4,bv6,bv7,co5,co6,co7,co8,bv8,co9,cp1,bv9,bk5,bd9,bw1,cp3,bw2,dq2,dq3,dq4,cp4,bw3,cp5,cp6,bw4,bk6,be1,bw5,cp7,bw6,dq5,dq6,dq7,zg,zh,z2,qb,zv,zk,zt,z5,z6,Frm.bt7,Frm.get_nil,ab7,aa5,decide_true,decide_false,zu,zr,zo,zm,zw,z3,z4,zx,zq,z8,z7,qc,qd,zj,zp,if_true,if_false,↓reduceIte,reduceCtorEq,true_and,and_true,hk];by_cases hkn:k=n
   ·subst hkn;simp only[dj8,dj9,cj4,bt8,dk4,cj5,dk5,cj6,fp4,jc3,fo9,fp1,dk6,cj7,dk7,cj8,cj9,bt9,dk8,w_q,ck3,fp5,fp6,ck4,fp7,ck6,bu1,ck5,dk9,dl1,dl2,ck7,bu2,fp8,dl3,fp9,dl4,ck8,ck9,dl5,fq1,fq2,fq3,fq4,fq5,fq6,fq7,fq8,fq9,fr3,dl6,fr4,dl7,fr5,dl8,cl1,dl9,dm4,fr6,jc6,jc7,fr7,fr8,fr9,fs1,fs2,fs3,fs4,fs5,fs6,fs7,dm5,cl2,bu3,bk2,cl3,bu4,dm1,dm2,dm3,cl4,jc4,jc5,bk4,bu8,cm6,cm7,cm8,cm5,dn8,e_t,e_c,e_g,e_f,fs8,dm6,fs9,ft1,ft2,aj6,ft3,dm7,cl5,ft4,cl6,ft5,cl7,cl8,ft6,dm8,ft7,dm9,ft8,ft9,fu1,fu2,dn1,dn2,es5,ij9,ei6,es4,cl9,cm1,dn3,dn4,cm2,cm3,jc8,bu5,dn5,dn6,dn7,bu6,cm4,bk3,bu7,bu9,cm9,bv1,bv2,dn9,do1,es6,es7,cn1,cn2,cn3,cn4,do2,do3,cn5,bv3,fu3,fu4,fu5,fu6,fu7,fu8,fu9,fv1,fv2,fv3,fv4,fv5,fv6,do4,do5,do6,do7,do8,do9,dp1,dp2,dp3,dp4,bo7,bn3,cn6,cn7,cn8,dp5,dp6,dp7,dp8,fv7,fv8,dp9,fv9,cn9,co1,co2,fw3,bq9,ik1,dq8,co3,co4,bv4,bp3,cd5,fw1,cv3,bv5,fw2,cv4,bv6,bv7,co5,co6,co7,co8,bv8,co9,cp1,bv9,bk5,bd9,bw1,cp3,bw2,dq2,dq3,dq4,cp4,bw3,cp5,cp6,bw4,bk6,be1,bw5,cp7,bw6,dq5,dq6,dq7,zg,zh,z2,qb,zv,zk,zt,z5,z6,Frm.bt7,Frm.get_nil,ab7,aa5,decide_true,decide_false,zu,zr,zo,zm,zw,z3,z4,zx,zq,z8,z7,qc,qd,zj,zp,if_true,if_false,↓reduceIte,reduceCtorEq,true_and,and_true];refine ⟨fun i hi=>by rw[if_neg om]; exact h2 i hi,h1,?_⟩;rw[hv8 hops hk];exact .keep _ (.str _)
   ·simp only[dj8,dj9,cj4,bt8,dk4,cj5,dk5,cj6,fp4,jc3,fo9,fp1,dk6,cj7,dk7,cj8,cj9,bt9,dk8,w_q,ck3,fp5,fp6,ck4,fp7,ck6,bu1,ck5,dk9,dl1,dl2,ck7,bu2,fp8,dl3,fp9,dl4,ck8,ck9,dl5,fq1,fq2,fq3,fq4,fq5,fq6,fq7,fq8,fq9,fr3,dl6,fr4,dl7,fr5,dl8,cl1,dl9,dm4,fr6,jc6,jc7,fr7,fr8,fr9,fs1,fs2,fs3,fs4,fs5,fs6,fs7,dm5,cl2,bu3,bk2,cl3,bu4,dm1,dm2,dm3,cl4,jc4,jc5,bk4,bu8,cm6,cm7,cm8,cm5,dn8,e_t,e_c,e_g,e_f,fs8,dm6,fs9,ft1,ft2,aj6,ft3,dm7,cl5,ft4,cl6,ft5,cl7,cl8,ft6,dm8,ft7,dm9,ft8,ft9,fu1,fu2,dn1,dn2,es5,ij9,ei6,es4,cl9,cm1,dn3,dn4,cm2,cm3,jc8,bu5,dn5,dn6,dn7,bu6,cm4,bk3,bu7,bu9,cm9,bv1,bv2,dn9,do1,es6,es7,cn1,cn2,cn3,cn4,do2,do3,cn5,bv3,fu3,fu4,fu5,fu6,fu7,fu8,fu9,fv1,fv2,fv3,fv4,fv5,fv6,do4,do5,do6,do7,do8,do9,dp1,dp2,dp3,dp4,bo7,bn3,cn6,cn7,cn8,dp5,dp6,dp7,dp8,fv7,fv8,dp9,fv9,cn9,co1,co2,fw3,bq9,ik1,dq8,co3,co4,bv4,bp3,cd5,fw1,cv3,bv5,fw2,cv4,bv6,bv7,co5,co6,co7,co8,bv8,co9,cp1,bv9,bk5,bd9,bw1,cp3,bw2,dq2,dq3,dq4,cp4,bw3,cp5,cp6,bw4,bk6,be1,bw5,cp7,bw6,dq5,dq6,dq7,zg,zh,z2,qb,zv,zk,zt,z5,z6,Frm.bt7,Frm.get_nil,ab7,aa5,decide_true,decide_false,zu,zr,zo,zm,zw,z3,z4,zx,zq,z8,z7,qc,qd,zj,zp,if_true,if_false,↓reduceIte,reduceCtorEq,true_and,and_true,hkn];refine ⟨left.length-1,om,rfl,rfl,h1,fun i hi=>?_,z1 _,left.eraseIdx j,za c,?_,?_,fun e he=>h6 e (List.mem_of_mem_eraseIdx he),fun e he hn=>?_⟩
    ·simp only[aa5]; rw[if_neg om]; exact h2 i hi
    ·simp only[aa5,if_true]
    ·rw[List.length_eraseIdx_of_lt hj]
    ·have h8:=h7 e he hn;rcases ek2 (d:=(IV.undef,IV.undef)) (j:=j) h8 with h9|h9
     ·exact h9
     ·rw[h9] at hn; rw[hc,hk] at hn; cases hn; exact absurd rfl hkn
end Go.Id
