/- A function compiled,whole: its code and its results. Conditions: none; over any program. -/
import Derived.Test.YtcdomcibjgbalaaGreatDoorFwI
import Derived.WideKeyElems2
import Derived.OpenShut
import Derived.FnData
import Derived.Below
import Derived.ChangeSame
import Derived.CallsIn
import Derived.ChangeArms
import Derived.MakeChecks
open Option renaming some→za,none→zb
open List renaming getD_eq_getElem?_getD→zc,getElem?_eq_getElem→zf,getElem?_cons_zero→zg,getElem?_cons_succ→zh,all_eq_true→zi,drop_succ_cons→zk,mem_cons→zl,cons_append→zo,nil_append→zt,head?_cons→zu,append_nil→zv,drop_zero→zw,getElem?_map→z1,all_cons→z2,length_cons→z9,all_nil→qb,mem_map→qg,mem_cons_of_mem→qj,getElem?_append→qk,mem_cons_self→ql
open Array renaming getD_eq_getD_getElem?→zd,getElem?_eq_none→zn,getElem?_eq_getElem→qf
open Nat renaming not_lt_zero→ze,zero_add→zj,succ_ne_zero→zp,reduceEqDiff→zq,le_refl→zr,lt_of_lt_of_le→zz,reduceMul→z7,reduceAdd→z8,reduceLT→qc,beq→qd,add_zero→qe,lt_or_ge→qh,le_of_ble_eq_true→qi
open Bool renaming false_eq_true→zm,xor_false→zx,not_false→zy,xor_true→z3,not_true→z4,and_true→z5,and_self→z6,and_eq_true→qa
open Classical renaming propDecidable→z0
set_option linter.all false
private theorem om{P:Prop}(h:P:=by omega):P:=h
namespace Go.Id
open Go
variable {P:Program} {w w' w'':World} {ρ ρ' ρ'':Rho} {E:Nat->IV} {σ σ':Store} {N n n':Nat} {fr:Frm} {a:Act} {pf:List Nat}
inductive IR where
 | t (n:Nat)
 | cell (agg:Option Nat) (n:Nat)
 deriving Inhabited
def kk6 (P:Program):ResultVar->Option IR
 | .tmp t=>za (.t t)
 | .cell ad t=>match aq2 P t with
  | some agg=>za (.cell agg ad)
  | none=>zb
def fu4 (P:Program):List ResultVar->Option (List IR)
 | []=>za []
 | r::rs=>match kk6 P r,fu4 P rs with
  | some x,za xs=>za (x::xs)
  | _,_=>zb
def irV (σ:Store)(fr:Frm):IR->Option IV
 | .t n=>za (fr.get n)
 | .cell agg n=>ay7 σ agg (fr.get n)
def irL (σ:Store)(fr:Frm):List IR->Option (List IV)
 | []=>za []
 | r::rs=>match irV σ fr r,irL σ fr rs with
  | some v,za vs=>za (v::vs)
  | _,_=>zb
theorem ir3:∀(rs:List ResultVar) (irs:List IR),fu4 P rs=za irs->ib6 P σ fr rs=irL σ fr irs:=by
 intro rs
 induction rs with
 | nil=>intro irs h;cases h;rfl
 | cons r rs ih=>
  intro irs h;simp only[fu4] at h;split at h
  ·rename_i x xs hx hxs;cases h
   have h1:jz9 P σ fr r=irV σ fr x:=by
    cases r with
    | tmp t=>cases hx;rfl
    | cell ad t=>
     simp only[kk6] at hx;split at hx
     ·rename_i agg hagg;cases hx;simp[jz9,irV,hagg]
     ·cases hx
   simp only[ib6,irL,h1,ih _ hxs];cases irV σ fr x<;>cases irL σ fr xs<;>rfl
  ·cases h
def ir4 (P:Program)(f N:Nat)(pf:List Nat)(an:Ann)(ic:IC)(irs:List IR):Prop :=
 ∃fn,P.funcs[f]? = za fn/\fn.ntmps=N/\fn.body.bind (bh3 P pf N an)=za ic/\fu4 P fn.results.toList=za irs
theorem ac8 {f:Nat}{fn:Func}{an:Ann}{ic:IC}{irs:List IR}(h:P.funcs[f]? = za fn)(hN:fn.ntmps=N)(hc:fn.body.bind (bh3 P pf N an)=za ic)(hr:fu4 P fn.results.toList=za irs):ir4 P f N pf an ic irs :=
 ⟨fn,h,hN,hc,hr⟩
def kk7 (irs:List IR)(Qc:IV->Store->Prop):Exit->Frm->Store->Prop
 | .normal,fr,σ|.ret,fr,σ=>∃vs,irL σ fr irs=za vs/\Qc (ft6 vs) σ
 | _,_,_=>False
theorem kv5 {f:Nat}{an:Ann}{ic:IC}{irs:List IR}{args:List IV}{Qc:IV->Store->Prop}(hf:ir4 P f N pf an ic irs)(hl:args.length<=N)
  (h:wpI P E N σ.next ic (bl9 args 0) σ (kk7 irs Qc)):C P E f args σ Qc:=by
 obtain ⟨fn,h1,h2,h3,h4⟩:=hf
 cases hb:fn.body with
 | none=>rw[hb] at h3;cases h3
 | some c=>
  rw[hb] at h3;refine jp7 h1 hb h2 hl ((bo7 ic _ _ _ h pf an c h3).mono ?_);intro e fr' σ' q;cases e<;>first|(obtain ⟨vs,q1,q2⟩:=q;exact ⟨vs,by rw[ir3 _ _ h4];exact q1,q2⟩)|exact q
end Go.Id
namespace Go.Id
open Go
theorem Frm.get_nil (t:Nat):Frm.get [] t=.undef:=by unfold Frm.get;simp
theorem Frm.bs7 (t s:Nat)(v:IV)(fr:Frm):Frm.get ((t,v)::fr) s=if s=t then v else Frm.get fr s:=Frm.ci8 fr t s v
universe u
variable {P:Program} {E:Nat->IV} {σ σ':Store} {N n n0:Nat} {fr:Frm} {a:Act} {pf:List Nat}
abbrev PT:=Nat->List IV->Option IV
abbrev CT:=Nat->List IV->Store->Option (IV->Store->Prop)
structure TOK (P:Program) (E:Nat->IV) (pt:PT) (ct:CT):Prop where
 p:∀f args v,pt f args=za v->PC P E f args v
 c:∀f args σ Q,ct f args σ=za Q->okF P f=true/\C P E f args σ Q
def noP:PT:=λ_ _=>zb
def noC:CT:=λ_ _ _=>zb
theorem noT:TOK P E noP noC:=⟨(λ_ _ _ h=>by cases h),(λ_ _ _ _ h=>by cases h)⟩
theorem fu5 {f:Nat}{args:List IV}:noP f args=zb:=by unfold noP;exact Eq.trans rfl rfl
theorem fu6 {f:Nat}{args:List IV}:noC f args σ=zb:=by unfold noC;exact Eq.trans rfl rfl
def bs8 {α:Type}:Option α->(α->Prop)->Prop
 | some v,K=>K v
 | none,_=>False
def ja8:IV->(Bool->Prop)->Prop
 | .bool b,K=>K b
 | _,_=>False
def hp4 (v:IV)(want:Bool)(A B:Prop):Prop :=
 match ia8 v want with
 | some true=>A
 | some false=>B
 | none=>False
theorem ek8 {v:IV}{want:Bool}{A B:Prop}(h:hp4 v want A B):∃act,ia8 v want=za act/\if act=true then A else B:=by
 unfold hp4 at h;split at h
 ·rename_i ha;exact ⟨true,ha,h⟩
 ·rename_i ha;exact ⟨false,ha,h⟩
 ·exact h.elim
theorem ao1 {α:Type}{o:Option α}{K:α->Prop}(h:bs8 o K):∃v,o=za v/\K v:=by
 cases o with
 | none=>exact h.elim
 | some v=>exact ⟨v,rfl,h⟩
theorem fu7 {o:IV}{K:Bool->Prop}(h:ja8 o K):∃b,o=.bool b/\K b:=by
 cases o<;>first|exact ⟨_,rfl,h⟩|exact h.elim
def dc7 (P:Program)(E:Nat->IV)(o:Option (IV->Store->Prop))(f:Nat)(args:List IV)(σ:Store)(K:IV->Store->Prop):Prop :=
 match o with
 | some Q=>∀v s,Q v s->σ.next<=s.next/\K v s
 | none=>∃Q,(okF P f=true/\C P E f args σ Q)/\∀v s,Q v s->σ.next<=s.next/\K v s
def id8 (P:Program)(E:Nat->IV)(o:Option IV)(f:Nat)(args:List IV)(σ:Store)(K:IV->Store->Prop):Prop :=
 match o with
 | some v=>K v σ
 | none=>∃v,PC P E f args v/\K v σ
def opT (pt:PT)(ct:CT)(P:Program)(E:Nat->IV)(op:IK)(id:Nat)(fr:Frm)(σ:Store)(K:IV->Store->Prop):Prop :=
 match op with
 | .q q=>bs8 (evq E fr σ q) λv=>K v σ
 | .alloc z=>K (.ptr id 0) (σ.put id (.cells z))
 | .box x=>(x.ev E fr).cs.all IV.leaf=true/\K (.ptr id 0) (σ.put id (.cells (x.ev E fr).cs))
 | .bsl esz n z parts=>bs8 (at7 (rep z n) (parts.map λp=>(p.1,p.2.1,p.2.2.ev E fr))) λout=>K (.slice id 0 n esz) (σ.put id (.row out))
 | .store sz x y=>bs8 (aq9 σ sz (x.ev E fr) (y.ev E fr)) λσ'=>K .undef σ'
 | .bn6 x=>match x.ev E fr with
  | .str s=>K (.ptr id 0) (σ.put id (.bg3 s 0))
  | _=>False
 | .dc5 x=>bs8 (bo5 σ (x.ev E fr)) λr=>K r.1 r.2
 | .ck6=>K (.map id) (σ.put id (.map []))
 | .ci4 tag x k v=>bs8 (ao9 σ tag (x.ev E fr) (k.ev E fr) (v.ev E fr)) λσ'=>K .undef σ'
 | .app esz s x=>bs8 (as2 σ id esz (s.ev E fr) (x.ev E fr)) λr=>K r.1 r.2
 | .call f args=>dc7 P E (ct f (args.map (·.ev E fr)) σ) f (args.map (·.ev E fr)) σ K
 | .bb1 f args=>id8 P E (pt f (args.map (·.ev E fr))) f (args.map (·.ev E fr)) σ K
 | .cw7 x args=>match x.ev E fr with
  | .func (.func f) first cap=>dc7 P E (ct f (first++args.map (·.ev E fr)++cap) σ) f (first++args.map (·.ev E fr)++cap) σ K
  | .yield i=>∃Q,CV P E (.yield i) (args.map (·.ev E fr)) σ Q/\∀v σ',Q v σ'->σ.next<=σ'.next/\K v σ'
  | _=>False
 | .aj3 esz n z parts=>bs8 (at7 (rep z n) (parts.map λp=>(p.1,p.2.1,p.2.2.ev E fr))) λout=>K (.aa3 (chunk esz n out)) σ
 | .cu6 x=>(x.ev E fr).cs.all IV.leaf=true/\K (.ab8 (x.ev E fr).cs) σ
 | .be9 x=>match x.ev E fr with
  | .al4 es=>K (.ptr id 0) (σ.put id (.as1 es zb))
  | _=>False
 | .ck7 x=>bs8 (bo6 σ (x.ev E fr)) λr=>(r.2=[]->K (.tuple [.bool false]) σ) /\
   ∀j,j<r.2.length->K (.tuple [.bool true,(r.2.getD j (.undef,.undef)).1,(r.2.getD j (.undef,.undef)).2]) (σ.put r.1 (.as1 (r.2.eraseIdx j) (za (r.2.getD j (.undef,.undef)))))
 | .fu2 x=>bs8 (cw4 σ (x.ev E fr)) λv=>K v σ
 | .dj2 esz z x=>bs8 (db2 (x.ev E fr)) λn=>K (.slice id 0 n esz) (σ.put id (.row (rep z n)))
 | .clr esz z x=>bs8 (gm4 σ esz z (x.ev E fr)) λσ'=>σ'.next=σ.next/\K .undef σ'
 | .st k xs=>bs8 (stI k id σ (xs.map (·.ev E fr))) λr=>K r.1 r.2
theorem dl9 {pt:PT}{ct:CT}(hT:TOK P E pt ct){f:Nat}{args:List IV}{K:IV->Store->Prop}(h:dc7 P E (ct f args σ) f args σ K):∃Q,(okF P f=true/\C P E f args σ Q)/\∀v s,Q v s->σ.next<=s.next/\K v s:=by
 cases ho:ct f args σ with
 | none=>rw[ho] at h;exact h
 | some Q=>rw[ho] at h;exact ⟨Q,hT.c _ _ _ Q ho,h⟩
theorem bp4 {pt:PT}{ct:CT}(hT:TOK P E pt ct){op:IK}{id:Nat}{K:IV->Store->Prop}(h:opT pt ct P E op id fr σ K):opR P E op id fr σ K:=by
 cases op with
 | q q=>exact ao1 h
 | alloc z=>exact h
 | box x=>exact h
 | bsl e n z ps=>exact ao1 h
 | store e x y=>exact ao1 h
 | app e s x=>exact ao1 h
 | ck6=>exact h
 | bn6 x=>
  simp only[opT] at h;split at h
  ·rename_i s he;exact ⟨s,he,h⟩
  ·exact h.elim
 | dc5 x=>exact ao1 h
 | ci4 t x y z=>exact ao1 h
 | call f xs=>
  obtain ⟨Q,h1,h2⟩:=dl9 hT h
  exact ⟨Q,h1.2,h2⟩
 | bb1 f xs=>
  simp only[opT] at h
  cases ho:pt f (xs.map (·.ev E fr)) with
  | none=>rw[ho] at h;exact h
  | some v=>rw[ho] at h;exact ⟨v,hT.p _ _ _ ho,h⟩
 | cw7 x xs=>
  simp only[opT] at h;split at h
  ·rename_i f first cap he
   obtain ⟨Q,h1,h2⟩:=dl9 hT h;refine ⟨Q,?_,h2⟩;rw[he];exact h1
  ·rename_i i he;rw[<- he] at h;exact h
  ·exact h.elim
 | aj3 e n z ps=>exact ao1 h
 | cu6 x=>exact h
 | be9 x=>
  simp only[opT] at h;split at h
  ·rename_i s he;exact ⟨s,he,h⟩
  ·exact h.elim
 | ck7 x=>
  obtain ⟨⟨i,l⟩,h1,h2⟩:=ao1 h
  exact ⟨i,l,h1,h2⟩
 | fu2 x=>exact ao1 h
 | dj2 e z x=>exact ao1 h
 | clr e z x=>exact ao1 h
 | st k xs=>exact ao1 h
def cd8 (pt:PT) (ct:CT) (P:Program) (E:Nat->IV):List ae7->Nat->Frm->Store->(Frm->Store->Prop)->Prop
 | [],_,fr,σ,K=>K fr σ
 | o::rest,id,fr,σ,K=>
  match o.guard with
  | none=>opT pt ct P E o.op id fr σ λv σ'=>cd8 pt ct P E rest (if o.op.lays then id+1 else id) (fr.ap3 o.dst v) σ' K
  | some (s,want)=>hp4 (fr.get s) want (opT pt ct P E o.op id fr σ λv σ'=>cd8 pt ct P E rest (if o.op.lays then id+1 else id) (fr.ap3 o.dst v) σ' K)
    (cd8 pt ct P E rest (if o.op.lays then id+1 else id) (fr.ap3 o.dst skV) σ K)
theorem ev6 {pt:PT}{ct:CT}(hT:TOK P E pt ct):∀(ops:List ae7) (id:Nat) (fr:Frm) (σ:Store) (K:Frm->Store->Prop),cd8 pt ct P E ops id fr σ K->cd3 P E ops id fr σ K:=by
 intro ops
 induction ops with
 | nil=>intro id fr σ K h;exact h
 | cons o os ih=>
  intro id fr σ K h;obtain ⟨d,g,op⟩:=o
  cases g with
  | none=>
   simp only[cd8,cd3] at h ⊢
   exact ⟨true,rfl,am7 (λv s k=>ih _ _ _ _ k) (bp4 hT h)⟩
  | some p=>
   obtain ⟨s,want⟩:=p;simp only[cd8,cd3] at h ⊢;obtain ⟨act,ha,h⟩:=ek8 h;refine ⟨act,ha,?_⟩
   cases act with
   | true=>
    rw[if_pos rfl] at h ⊢
    exact am7 (λv s k=>ih _ _ _ _ k) (bp4 hT h)
   | false=>
    rw[if_neg (by simp)] at h ⊢;exact ih _ _ _ _ h
def cb4 (E:Nat->IV)(fr:Frm)(σ:Store):IK->Prop
 | .q (.load _ x)=>match x.ev E fr with
  | .ab8 _=>True
  | .ptr i _=>match σ.obj i with
   | some (.cells _)=>True
   | _=>False
  | _=>False
 | _=>True
theorem dm1 {op:IK}(h:cb4 E fr σ op):bg6 E fr σ op:=by
 cases op with
 | q q=>
  cases q with
  | load ag x=>
   simp only[cb4,bg6] at h ⊢;cases he:x.ev E fr<;>rw[he] at h<;>simp only at h ⊢;rename_i i off
   cases ho:σ.obj i with
   | none=>rw[ho] at h;exact h.elim
   | some ob=>
    rw[ho] at h
    cases ob<;>first|exact ⟨_,rfl⟩|exact h.elim
  | _=>trivial
 | _=>trivial
def bp5 (pt:PT) (ct:CT) (P:Program) (E:Nat->IV) (B:Bool):List ae7->Nat->Frm->Store->(Frm->Store->Prop)->Prop
 | [],_,fr,σ,K=>K fr σ
 | o::rest,id,fr,σ,K=>
  match o.guard with
  | none=>(B=true->cb4 E fr σ o.op)/\opT pt ct P E o.op id fr σ λv σ'=>bp5 pt ct P E B rest (id+1) (fr.ap3 o.dst v) σ' K
  | some (s,want)=>hp4 (fr.get s) want ((B=true->cb4 E fr σ o.op)/\opT pt ct P E o.op id fr σ λv σ'=>bp5 pt ct P E B rest (id+1) (fr.ap3 o.dst v) σ' K)
    (bp5 pt ct P E B rest (id+1) (fr.ap3 o.dst skV) σ K)
theorem ev7 {pt:PT}{ct:CT}(hT:TOK P E pt ct){B:Bool}{base:Nat}:∀(ops:List ae7) (i:Nat) (fr:Frm) (σ:Store) (K:Frm->Store->Prop),bp5 pt ct P E B ops (base+i) fr σ K->bz5 P E B (ff3 base i ops) fr σ K:=by
 intro ops
 induction ops with
 | nil=>intro i fr σ K h;exact h
 | cons o os ih=>
  intro i fr σ K h;obtain ⟨d,g,op⟩:=o
  cases g with
  | none=>
   simp only[bp5] at h
   exact ⟨true,rfl,am7 (λv s k=>ih _ _ _ _ k) (bp4 hT h.2),λhb=>dm1 (h.1 hb)⟩
  | some p=>
   obtain ⟨s,want⟩:=p;simp only[bp5] at h;obtain ⟨act,ha,h⟩:=ek8 h;refine ⟨act,ha,?_⟩
   cases act with
   | true=>exact ⟨am7 (λv s k=>ih _ _ _ _ k) (bp4 hT h.2),λhb=>dm1 (h.1 hb)⟩
   | false=>exact ih _ _ _ _ h
def wpT (pt:PT)(ct:CT)(P:Program)(E:Nat->IV)(N n0:Nat):IC->Frm->Store->(Exit->Frm->Store->Prop)->Prop
 | .skip,fr,σ,Q=>Q .normal fr σ
 | .reg _ ops keep,fr,σ,Q=>cd8 pt ct P E ops σ.next fr ⟨σ.next+cd4 ops,σ.obj⟩ (λfr' σ'=>Q .normal (fr'.keep keep) σ')
 | .hw6 _ ops B keep,fr,σ,Q=>bp5 pt ct P E B ops σ.next fr ⟨σ.next+ops.length,σ.obj⟩ (λfr' σ'=>Q .normal (fr'.keep keep) σ')
 | .hw9 _ ops keep,fr,σ,Q=>ax3 P E (iq2 σ.next ops) [] fr { σ with next:=σ.next+ops.length } (λfr' σ'=>Q .normal (fr'.keep keep) σ')
 | .seq a b,fr,σ,Q=>wpT pt ct P E N n0 a fr σ (λe fr' σ'=>match e with|.normal=>wpT pt ct P E N n0 b fr' σ' Q|e=>Q e fr' σ')
 | .cond x a b,fr,σ,Q=>ja8 (x.ev E fr) λt=>if t=true then wpT pt ct P E N n0 a fr σ Q else wpT pt ct P E N n0 b fr σ Q
 | .block id a,fr,σ,Q=>wpT pt ct P E N n0 a fr σ (by3 id Q)
 | .loop a,fr,σ,Q=>RI P E N n0 (.loop a) fr σ Q
 | .exit id,fr,σ,Q=>Q (.exit id) fr σ
 | .ret,fr,σ,Q=>Q .ret fr σ
 | .bx5 g ps y a,fr,σ,Q=>RI P E N n0 (.bx5 g ps y a) fr σ Q
 | .scope a,fr,σ,Q=>wpT pt ct P E N n0 a fr σ (gm6 Q)
theorem cd9:∀(ic:IC) (fr:Frm) (σ:Store) (Q Q':Exit->Frm->Store->Prop),(∀e f s,Q e f s->Q' e f s)->wpI P E N n0 ic fr σ Q->wpI P E N n0 ic fr σ Q':=by
 have hrops:∀(ops:List ae7) (id:Nat) (fr:Frm) (σ:Store) (K K':Frm->Store->Prop),(∀f s,K f s->K' f s)->cd3 P E ops id fr σ K->cd3 P E ops id fr σ K':=by
  intro ops
  induction ops with
  | nil=>intro id fr σ K K' hk h;exact hk _ _ h
  | cons o os ih=>
   intro id fr σ K K' hk h;simp only[cd3] at h ⊢;obtain ⟨act,ha,h⟩:=h;refine ⟨act,ha,?_⟩
   cases act with
   | true=>
    rw[if_pos rfl] at h ⊢
    exact am7 (λv s k=>ih _ _ _ _ _ hk k) h
   | false=>
    rw[if_neg (by simp)] at h ⊢;exact ih _ _ _ _ _ hk h
 have htree:∀(its:List Item) (B:Bool) (fr:Frm) (σ:Store) (K K':Frm->Store->Prop),(∀f s,K f s->K' f s)->bz5 P E B its fr σ K->bz5 P E B its fr σ K':=by
  intro its
  induction its with
  | nil=>intro B fr σ K K' hk h;exact hk _ _ h
  | cons it its ih=>
   intro B fr σ K K' hk h;obtain ⟨i,o,id⟩:=it;obtain ⟨act,ha,hh⟩:=h;refine ⟨act,ha,?_⟩
   cases act with
   | true=>exact ⟨am7 (λv s k=>ih _ _ _ _ _ hk k) hh.1,hh.2⟩
   | false=>exact ih _ _ _ _ _ hk hh
 intro ic
 induction ic with
 | skip=>intro fr σ Q Q' hq h;exact hq _ _ _ h
 | reg id ops keep=>intro fr σ Q Q' hq h;exact hrops _ _ _ _ _ _ (λf s k=>hq _ _ _ k) h
 | hw6 id ops B keep=>intro fr σ Q Q' hq h;exact htree _ _ _ _ _ _ (λf s k=>hq _ _ _ k) h
 | hw9 id ops keep=>intro fr σ Q Q' hq h;exact ft3 _ _ _ _ (λf s k=>hq _ _ _ k) h
 | seq x y ihx ihy=>
  intro fr σ Q Q' hq h;refine ihx _ _ _ _ ?_ h;intro e f s k
  cases e with
  | normal=>exact ihy _ _ _ _ hq k
  | _=>exact hq _ _ _ k
 | cond x a b iha ihb=>
  intro fr σ Q Q' hq h;obtain ⟨t,ht,h⟩:=h;refine ⟨t,ht,?_⟩
  cases t with
  | true=>exact iha _ _ _ _ hq h
  | false=>exact ihb _ _ _ _ hq h
 | block id x ih=>
  intro fr σ Q Q' hq h;refine ih _ _ _ _ ?_ h;intro e f s k
  cases e with
  | exit i=>simp only[by3] at k ⊢;split<;>rename_i hi<;>simp only[hi,if_true,if_false] at k<;>exact hq _ _ _ k
  | _=>exact hq _ _ _ k
 | scope x ih=>
  intro fr σ Q Q' hq h;refine ih _ _ _ _ ?_ h;intro e f s k
  cases e with
  | goto l=>exact k
  | _=>exact hq _ _ _ k
 | loop x ih=>intro fr σ Q Q' hq h;exact an3 h hq
 | exit id=>intro fr σ Q Q' hq h;exact hq _ _ _ h
 | bx5 g ps y x ihy ih=>intro fr σ Q Q' hq h;exact an3 h hq
 | ret=>intro fr σ Q Q' hq h;exact hq _ _ _ h
theorem bi1 {pt:PT}{ct:CT}(hT:TOK P E pt ct):∀(ic:IC) (fr:Frm) (σ:Store) (Q:Exit->Frm->Store->Prop),wpT pt ct P E N n0 ic fr σ Q->wpI P E N n0 ic fr σ Q:=by
 intro ic
 induction ic with
 | skip=>intro fr σ Q h;exact h
 | reg id ops keep=>intro fr σ Q h;exact ev6 hT _ _ _ _ _ h
 | hw6 id ops B keep=>intro fr σ Q h;exact ev7 hT _ 0 _ _ _ h
 | hw9 id ops keep=>intro fr σ Q h;exact h
 | seq x y ihx ihy=>
  intro fr σ Q h;have h1:=ihx _ _ _ (show wpT pt ct P E N n0 x fr σ _ from h);refine cd9 x fr σ _ (λe fr' σ'=>match e with|.normal=>wpI P E N n0 y fr' σ' Q|e=>Q e fr' σ') ?_ h1;intro e f s k
  cases e with
  | normal=>exact ihy _ _ _ k
  | _=>exact k
 | cond x a b iha ihb=>
  intro fr σ Q h;obtain ⟨t,ht,h⟩:=fu7 h;refine ⟨t,ht,?_⟩
  cases t with
  | true=>exact iha _ _ _ h
  | false=>exact ihb _ _ _ h
 | block id x ih=>intro fr σ Q h;exact ih _ _ _ h
 | scope x ih=>intro fr σ Q h;exact ih _ _ _ h
 | loop x ih=>intro fr σ Q h;exact h
 | exit id=>intro fr σ Q h;exact h
 | ret=>intro fr σ Q h;exact h
 | bx5 g ps y x ihy ih=>intro fr σ Q h;exact h
def gr4 (irs:List IR)(Qc:IV->Store->Prop):Exit->Frm->Store->Prop
 | .normal,fr,σ|.ret,fr,σ=>bs8 (irL σ fr irs) λvs=>Qc (ft6 vs) σ
 | _,_,_=>False
theorem dm2 {irs:List IR}{Qc:IV->Store->Prop}{e:Exit}(h:gr4 irs Qc e fr σ):kk7 irs Qc e fr σ:=by
 cases e<;>first|exact ao1 h|exact h
theorem C_T {pt:PT}{ct:CT}(hT:TOK P E pt ct){f:Nat}{an:Ann}{ic:IC}{irs:List IR}{args:List IV}{Qc:IV->Store->Prop}(hf:ir4 P f N pf an ic irs)(hl:args.length<=N)
  (h:wpT pt ct P E N σ.next ic (bl9 args 0) σ (gr4 irs Qc)):C P E f args σ Qc :=
 kv5 hf hl (cd9 _ _ _ _ _ (λ_ _ _ k=>dm2 k) (bi1 hT _ _ _ _ h))
theorem kv6 {pt:PT}{ct:CT}(hT:TOK P E pt ct){f:Nat}{an:Ann}{ic:IC}{irs:List IR}{args:List IV}{v:IV}(hf:ir4 P f N pf an ic irs)(hl:args.length<=N)
  (h:∀σ,wpT pt ct P E N σ.next ic (bl9 args 0) σ (gr4 irs λv' σ'=>v'=v/\σ'=σ)):PC P E f args v :=
 λσ=>C_T hT hf hl (h σ)
theorem ir5 {pt:PT}{ct:CT}(hT:TOK P E pt ct){x:IC}{Q:Exit->Frm->Store->Prop}(I:Nat->Frm->Store->Prop)(m:Nat)(h:I m fr σ)(hI:∀m fr σ,I m fr σ->wpT pt ct P E N n0 x fr σ (eu3 I m Q)):RI P E N n0 (.loop x) fr σ Q :=
 gm7 I m h λm fr σ hi=>bi1 hT _ _ _ _ (hI m fr σ hi)
theorem nr {α:Sort u}{a b:α}(h:a=b):a=b:=h
def ja9 (o:Option IV)(σ:Store)(K:IV->Store->Prop):Prop:=bs8 o λv=>K v σ
def jj9 (o:Option Store)(K:IV->Store->Prop):Prop:=bs8 o λs=>K .undef s
def jq2 (o:Option (IV×Store))(K:IV->Store->Prop):Prop:=bs8 o λr=>K r.1 r.2
def jq3 (v:IV)(σ:Store):IV->Store->Prop:=λv' σ'=>v'=v/\σ'=σ
def kk8 (o:Option (List IV))(id n esz:Nat)(σ:Store)(K:IV->Store->Prop):Prop:=bs8 o λout=>K (.slice id 0 n esz) (σ.put id (.row out))
def gr5 (ct:CT)(P:Program)(E:Nat->IV)(x:IV)(args:List IV)(σ:Store)(K:IV->Store->Prop):Prop:=match x with
 | .func (.func f) first cap=>dc7 P E (ct f (first++args++cap) σ) f (first++args++cap) σ K
 | .yield i=>∃Q,CV P E (.yield i) args σ Q/\∀v σ',Q v σ'->σ.next<=σ'.next/\K v σ'
 | _=>False
def id9 (pt:PT)(ct:CT)(P:Program)(E:Nat->IV)(rest:List ae7)(id:Nat)(d:Option Nat)(fr:Frm)(K:Frm->Store->Prop):IV->Store->Prop:=λv σ'=>cd8 pt ct P E rest id (fr.ap3 d v) σ' K
def ev8 (pt:PT)(ct:CT)(P:Program)(E:Nat->IV)(B:Bool)(rest:List ae7)(id:Nat)(d:Option Nat)(fr:Frm)(K:Frm->Store->Prop):IV->Store->Prop:=λv σ'=>bp5 pt ct P E B rest id (fr.ap3 d v) σ' K
def ie1 (ks:List Nat)(Q:Exit->Frm->Store->Prop):Frm->Store->Prop:=λfr σ=>Q .normal (fr.keep ks) σ
def jk1 (pt:PT)(ct:CT)(P:Program)(E:Nat->IV)(v:IV)(want:Bool)(op:IK)(id:Nat)(fr:Frm)(σ:Store)(K:IV->Store->Prop):Prop:=hp4 v want (opT pt ct P E op id fr σ K) (K skV σ)
def gi2 (pt:PT)(ct:CT)(P:Program)(E:Nat->IV)(B:Bool)(v:IV)(want:Bool)(op:IK)(id:Nat)(fr:Frm)(σ:Store)(K:IV->Store->Prop):Prop:=hp4 v want ((B=true->cb4 E fr σ op)/\opT pt ct P E op id fr σ K) (K skV σ)
def jb5 (pt:PT)(ct:CT)(P:Program)(E:Nat->IV)(N n0:Nat)(v:IV)(a b:IC)(fr:Frm)(σ:Store)(Q:Exit->Frm->Store->Prop):Prop:=ja8 v λt=>if t=true then wpT pt ct P E N n0 a fr σ Q else wpT pt ct P E N n0 b fr σ Q
def ka2 (pt:PT)(ct:CT)(P:Program)(E:Nat->IV)(N n0:Nat)(b:IC)(Q:Exit->Frm->Store->Prop):Exit->Frm->Store->Prop:=λe fr' σ'=>match e with
 | .normal=>wpT pt ct P E N n0 b fr' σ' Q
 | e=>Q e fr' σ'
variable {pt:PT} {ct:CT} {id want:Nat} {K:IV->Store->Prop} {Kf:Frm->Store->Prop} {Q:Exit->Frm->Store->Prop} {v:IV} {c:Prop} [Decidable c]
theorem dm3 {α:Type}(v:α)(K:α->Prop):bs8 (za v) K=K v:=nr rfl
theorem dm4 (v:IV):ja9 (za v) σ K=K v σ:=nr rfl
theorem ck8 (v:IV):ja9 (if c then za v else zb) σ K=(c/\K v σ):=by by_cases h:c<;>simp[h,ja9,bs8]
theorem bs9 (v:IV):ja9 (if c then zb else za v) σ K=(¬c/\K v σ):=by by_cases h:c<;>simp[h,ja9,bs8]
theorem dm5:jj9 (za σ) K=K .undef σ:=nr rfl
theorem ck9:jj9 (if c then za σ else zb) K=(c/\K .undef σ):=by by_cases h:c<;>simp[h,jj9,bs8]
theorem dm6 (v:IV):jq2 (za (v,σ)) K=K v σ:=nr rfl
theorem cl1 (v:IV):jq2 (if c then za (v,σ) else zb) K=(c/\K v σ):=by by_cases h:c<;>simp[h,jq2,bs8]
theorem fu8 {f:Nat}{args:List IV}(v:IV):dc7 P E (za (jq3 v σ')) f args σ K=(σ.next<=σ'.next/\K v σ'):=propext ⟨λh=>h v σ' ⟨rfl,rfl⟩,λh v' s' ⟨e1,e2⟩=>by subst e1;subst e2;exact h⟩
theorem jk2 {f:Nat}{args:List IV}(v:IV):id8 P E (za v) f args σ K=K v σ:=nr rfl
theorem ab2 {f:Nat}{args:List IV}{v:IV}(h:PC P E f args v)(hk:K v σ):id8 P E zb f args σ K:=⟨v,h,hk⟩
theorem ap4 {f:Nat}{args:List IV}{Qc:IV->Store->Prop}(ho:okF P f=true)(h:C P E f args σ Qc)(hk:∀v s,Qc v s->σ.next<=s.next/\K v s):dc7 P E zb f args σ K:=⟨Qc,⟨ho,h⟩,hk⟩
theorem dm7 {n esz:Nat}(out:List IV):kk8 (za out) id n esz σ K=K (.slice id 0 n esz) (σ.put id (.row out)):=nr rfl
theorem cl2 (f:Nat)(first cap args:List IV):gr5 ct P E (.func (.func f) first cap) args σ K=dc7 P E (ct f (first++args++cap) σ) f (first++args++cap) σ K:=nr rfl
theorem dm8 {rest:List ae7}{d:Nat}(v:IV):id9 pt ct P E rest id (za d) fr Kf v σ=cd8 pt ct P E rest id ((d,v)::fr) σ Kf:=nr rfl
theorem cl3 {rest:List ae7}(v:IV):id9 pt ct P E rest id zb fr Kf v σ=cd8 pt ct P E rest id fr σ Kf:=nr rfl
theorem cl4 {B:Bool}{rest:List ae7}{d:Nat}(v:IV):ev8 pt ct P E B rest id (za d) fr Kf v σ=bp5 pt ct P E B rest id ((d,v)::fr) σ Kf:=nr rfl
theorem bt1 {B:Bool}{rest:List ae7}(v:IV):ev8 pt ct P E B rest id zb fr Kf v σ=bp5 pt ct P E B rest id fr σ Kf:=nr rfl
theorem dm9 {ks:List Nat}:ie1 ks Q fr σ=Q .normal (fr.keep ks) σ:=nr rfl
theorem w_q {q:IQ}:opT pt ct P E (.q q) id fr σ K=ja9 (evq E fr σ q) σ K:=nr rfl
theorem cl5 {z:List IV}:opT pt ct P E (.alloc z) id fr σ K=K (.ptr id 0) (σ.put id (.cells z)):=nr rfl
theorem fu9 {x:IX}:opT pt ct P E (.box x) id fr σ K=((x.ev E fr).cs.all IV.leaf=true/\K (.ptr id 0) (σ.put id (.cells (x.ev E fr).cs))):=nr rfl
theorem fv1 {esz n:Nat}{z:List IV}{ps:List (Nat×Nat×IX)}:opT pt ct P E (.bsl esz n z ps) id fr σ K=kk8 (at7 (rep z n) (ps.map λp=>(p.1,p.2.1,p.2.2.ev E fr))) id n esz σ K:=nr rfl
theorem cl6 {sz:Nat}{x y:IX}:opT pt ct P E (.store sz x y) id fr σ K=jj9 (aq9 σ sz (x.ev E fr) (y.ev E fr)) K:=nr rfl
def kk9 (v:IV)(id:Nat)(σ:Store)(K:IV->Store->Prop):Prop:=match v with
 | .str s=>K (.ptr id 0) (σ.put id (.bg3 s 0))
 | _=>False
theorem dn1 {s:List UInt8}:kk9 (.str s) id σ K=K (.ptr id 0) (σ.put id (.bg3 s 0)):=nr rfl
theorem bt2 {x:IX}:opT pt ct P E (.bn6 x) id fr σ K=kk9 (x.ev E fr) id σ K:=nr rfl
theorem cl7 {x:IX}:opT pt ct P E (.dc5 x) id fr σ K=jq2 (bo5 σ (x.ev E fr)) K:=nr rfl
theorem cl8:opT pt ct P E .ck6 id fr σ K=K (.map id) (σ.put id (.map [])):=nr rfl
theorem dn2 {tag:Nat}{x k y:IX}:opT pt ct P E (.ci4 tag x k y) id fr σ K=jj9 (ao9 σ tag (x.ev E fr) (k.ev E fr) (y.ev E fr)) K:=nr rfl
theorem fv2 {esz:Nat}{s x:IX}:opT pt ct P E (.app esz s x) id fr σ K=jq2 (as2 σ id esz (s.ev E fr) (x.ev E fr)) K:=nr rfl
theorem dn3 {f:Nat}{args:List IX}:opT pt ct P E (.call f args) id fr σ K=dc7 P E (ct f (args.map (·.ev E fr)) σ) f (args.map (·.ev E fr)) σ K:=nr rfl
theorem cl9 {f:Nat}{args:List IX}:opT pt ct P E (.bb1 f args) id fr σ K=id8 P E (pt f (args.map (·.ev E fr))) f (args.map (·.ev E fr)) σ K:=nr rfl
theorem bt3 {x:IX}{args:List IX}:opT pt ct P E (.cw7 x args) id fr σ K=gr5 ct P E (x.ev E fr) (args.map (·.ev E fr)) σ K:=nr rfl
theorem fv3:cd8 pt ct P E [] id fr σ Kf=Kf fr σ:=nr rfl
theorem dn4 {d:Option Nat}{op:IK}{rest:List ae7}:cd8 pt ct P E (⟨d,zb,op⟩::rest) id fr σ Kf=opT pt ct P E op id fr σ (id9 pt ct P E rest (if op.lays then id+1 else id) d fr Kf):=nr rfl
theorem fv4 {d:Option Nat}{op:IK}{rest:List ae7}{s:Nat}{want:Bool}:cd8 pt ct P E (⟨d,za (s,want),op⟩::rest) id fr σ Kf=jk1 pt ct P E (fr.get s) want op id fr σ (id9 pt ct P E rest (if op.lays then id+1 else id) d fr Kf):=nr rfl
theorem dn5 {B:Bool}:bp5 pt ct P E B [] id fr σ Kf=Kf fr σ:=nr rfl
theorem cm1 {d:Option Nat}{op:IK}{rest:List ae7}:bp5 pt ct P E false (⟨d,zb,op⟩::rest) id fr σ Kf=opT pt ct P E op id fr σ (ev8 pt ct P E false rest (id+1) d fr Kf):=by
 have:bp5 pt ct P E false (⟨d,zb,op⟩::rest) id fr σ Kf=((false=true->cb4 E fr σ op)/\opT pt ct P E op id fr σ (ev8 pt ct P E false rest (id+1) d fr Kf)):=nr rfl;rw[this];simp
theorem cm2 {d:Option Nat}{op:IK}{rest:List ae7}:bp5 pt ct P E true (⟨d,zb,op⟩::rest) id fr σ Kf=(cb4 E fr σ op/\opT pt ct P E op id fr σ (ev8 pt ct P E true rest (id+1) d fr Kf)):=by
 have:bp5 pt ct P E true (⟨d,zb,op⟩::rest) id fr σ Kf=((true=true->cb4 E fr σ op)/\opT pt ct P E op id fr σ (ev8 pt ct P E true rest (id+1) d fr Kf)):=nr rfl;rw[this];simp
theorem dn6 {B:Bool}{d:Option Nat}{op:IK}{rest:List ae7}{s:Nat}{want:Bool}:bp5 pt ct P E B (⟨d,za (s,want),op⟩::rest) id fr σ Kf=gi2 pt ct P E B (fr.get s) want op id fr σ (ev8 pt ct P E B rest (id+1) d fr Kf):=nr rfl
theorem fv5 {op:IK}:jk1 pt ct P E (.bool true) true op id fr σ K=opT pt ct P E op id fr σ K:=nr rfl
theorem fv6 {op:IK}:jk1 pt ct P E (.bool false) false op id fr σ K=opT pt ct P E op id fr σ K:=nr rfl
theorem fv7 {op:IK}:jk1 pt ct P E (.bool true) false op id fr σ K=K skV σ:=nr rfl
theorem fv8 {op:IK}:jk1 pt ct P E (.bool false) true op id fr σ K=K skV σ:=nr rfl
theorem fv9 {op:IK}:gi2 pt ct P E false (.bool true) true op id fr σ K=opT pt ct P E op id fr σ K:=by simp[gi2,hp4,ia8]
theorem fw1 {op:IK}:gi2 pt ct P E false (.bool false) false op id fr σ K=opT pt ct P E op id fr σ K:=by simp[gi2,hp4,ia8]
theorem fw2 {B:Bool}{op:IK}:gi2 pt ct P E B (.bool true) false op id fr σ K=K skV σ:=nr rfl
theorem fw3 {B:Bool}{op:IK}:gi2 pt ct P E B (.bool false) true op id fr σ K=K skV σ:=nr rfl
theorem fw4 {op:IK}:gi2 pt ct P E true (.bool true) true op id fr σ K=(cb4 E fr σ op/\opT pt ct P E op id fr σ K):=by simp[gi2,hp4,ia8]
theorem fw5 {op:IK}:gi2 pt ct P E true (.bool false) false op id fr σ K=(cb4 E fr σ op/\opT pt ct P E op id fr σ K):=by simp[gi2,hp4,ia8]
theorem jk3 {op:IK}{want:Bool}:jk1 pt ct P E skV want op id fr σ K=K skV σ:=nr rfl
theorem jk4 {B want:Bool}{op:IK}:gi2 pt ct P E B skV want op id fr σ K=K skV σ:=nr rfl
theorem dn7:wpT pt ct P E N n0 .skip fr σ Q=Q .normal fr σ:=nr rfl
theorem fw6 {i:Nat}{ops:List ae7}{ks:List Nat}:wpT pt ct P E N n0 (.reg i ops ks) fr σ Q=cd8 pt ct P E ops σ.next fr ⟨σ.next+cd4 ops,σ.obj⟩ (ie1 ks Q):=nr rfl
theorem dn8 {i:Nat}{ops:List ae7}{B:Bool}{ks:List Nat}:wpT pt ct P E N n0 (.hw6 i ops B ks) fr σ Q=bp5 pt ct P E B ops σ.next fr ⟨σ.next+ops.length,σ.obj⟩ (ie1 ks Q):=nr rfl
theorem fw7 {x y:IC}:wpT pt ct P E N n0 (.seq x y) fr σ Q=wpT pt ct P E N n0 x fr σ (ka2 pt ct P E N n0 y Q):=nr rfl
theorem dn9 {i:IX}{x y:IC}:wpT pt ct P E N n0 (.cond i x y) fr σ Q=jb5 pt ct P E N n0 (i.ev E fr) x y fr σ Q:=nr rfl
theorem cm3 {i:Nat}{x:IC}:wpT pt ct P E N n0 (.block i x) fr σ Q=wpT pt ct P E N n0 x fr σ (by3 i Q):=nr rfl
theorem do1 {x:IC}:wpT pt ct P E N n0 (.loop x) fr σ Q=RI P E N n0 (.loop x) fr σ Q:=nr rfl
theorem cm4 {g:IX}{ps:List Nat}{x y:IC}:wpT pt ct P E N n0 (.bx5 g ps y x) fr σ Q=RI P E N n0 (.bx5 g ps y x) fr σ Q:=nr rfl
def gr6 (v:IV)(id:Nat)(σ:Store)(K:IV->Store->Prop):Prop:=match v with
 | .al4 es=>K (.ptr id 0) (σ.put id (.as1 es zb))
 | _=>False
def ir6 (o:Option (Nat×List (IV×IV)))(σ:Store)(K:IV->Store->Prop):Prop:=bs8 o λr=>(r.2=[]->K (.tuple [.bool false]) σ) /\
   ∀j,j<r.2.length->K (.tuple [.bool true,(r.2.getD j (.undef,.undef)).1,(r.2.getD j (.undef,.undef)).2]) (σ.put r.1 (.as1 (r.2.eraseIdx j) (za (r.2.getD j (.undef,.undef)))))
theorem bt4 {x:IX}:opT pt ct P E (.be9 x) id fr σ K=gr6 (x.ev E fr) id σ K:=nr rfl
theorem bi2 {es:List (IV×IV)}:gr6 (.al4 es) id σ K=K (.ptr id 0) (σ.put id (.as1 es zb)):=nr rfl
theorem cm5 {x:IX}:opT pt ct P E (.ck7 x) id fr σ K=ir6 (bo6 σ (x.ev E fr)) σ K:=nr rfl
theorem bt5 {i:Nat}{l:List (IV×IV)}:ir6 (za (i,l)) σ K=((l=[]->K (.tuple [.bool false]) σ) /\
   ∀j,j<l.length->K (.tuple [.bool true,(l.getD j (.undef,.undef)).1,(l.getD j (.undef,.undef)).2]) (σ.put i (.as1 (l.eraseIdx j) (za (l.getD j (.undef,.undef)))))):=nr rfl
theorem do2 {x:IX}:opT pt ct P E (.fu2 x) id fr σ K=ja9 (cw4 σ (x.ev E fr)) σ K:=nr rfl
theorem do3 {x:IX}:opT pt ct P E (.cu6 x) id fr σ K=((x.ev E fr).cs.all IV.leaf=true/\K (.ab8 (x.ev E fr).cs) σ):=nr rfl
def jq4 (o:Option (List IV))(esz n:Nat)(σ:Store)(K:IV->Store->Prop):Prop:=bs8 o λout=>K (.aa3 (chunk esz n out)) σ
theorem do4 {esz n:Nat}{z:List IV}{ps:List (Nat×Nat×IX)}:opT pt ct P E (.aj3 esz n z ps) id fr σ K=jq4 (at7 (rep z n) (ps.map λp=>(p.1,p.2.1,p.2.2.ev E fr))) esz n σ K:=nr rfl
theorem cm6 {esz n:Nat}{out:List IV}:jq4 (za out) esz n σ K=K (.aa3 (chunk esz n out)) σ:=nr rfl
theorem do5 {i:Nat}:wpT pt ct P E N n0 (.exit i) fr σ Q=Q (.exit i) fr σ:=nr rfl
theorem fw8:wpT pt ct P E N n0 .ret fr σ Q=Q .ret fr σ:=nr rfl
theorem jk5 {x y:IC}:jb5 pt ct P E N n0 (.bool true) x y fr σ Q=wpT pt ct P E N n0 x fr σ Q:=nr rfl
theorem jk6 {x y:IC}:jb5 pt ct P E N n0 (.bool false) x y fr σ Q=wpT pt ct P E N n0 y fr σ Q:=nr rfl
theorem fw9 {y:IC}:ka2 pt ct P E N n0 y Q .normal fr σ=wpT pt ct P E N n0 y fr σ Q:=nr rfl
theorem fx1 {y:IC}{i:Nat}:ka2 pt ct P E N n0 y Q (.exit i) fr σ=Q (.exit i) fr σ:=nr rfl
theorem fx2 {y:IC}:ka2 pt ct P E N n0 y Q .ret fr σ=Q .ret fr σ:=nr rfl
theorem fx3 {i:Nat}:by3 i Q .normal fr σ=Q .normal fr σ:=nr rfl
theorem fx4 {i:Nat}:by3 i Q .ret fr σ=Q .ret fr σ:=nr rfl
theorem fx5 {i j:Nat}:by3 i Q (.exit j) fr σ=if j=i then Q .normal fr σ else Q (.exit j) fr σ:=nr rfl
theorem fx6 {I:Nat->Frm->Store->Prop}{m:Nat}:eu3 I m Q .normal fr σ=∃m',m'<m/\I m' fr σ:=nr rfl
theorem fx7 {I:Nat->Frm->Store->Prop}{m i:Nat}:eu3 I m Q (.exit i) fr σ=Q (.exit i) fr σ:=nr rfl
theorem fx8 {I:Nat->Frm->Store->Prop}{m:Nat}:eu3 I m Q .ret fr σ=Q .ret fr σ:=nr rfl
theorem fx9 {irs:List IR}{Qc:IV->Store->Prop}:gr4 irs Qc .ret fr σ=bs8 (irL σ fr irs) λvs=>Qc (ft6 vs) σ:=nr rfl
theorem do6 {irs:List IR}{Qc:IV->Store->Prop}:gr4 irs Qc .normal fr σ=bs8 (irL σ fr irs) λvs=>Qc (ft6 vs) σ:=nr rfl
end Go.Id
namespace Go.Id
open Go
variable {P:Program} {E:Nat->IV} {σ σ':Store} {fr:Frm} {x y z:IX} {k k':IntKind} {a b:Int} {s t:List UInt8} {n m off esz len:Nat} {v u:IV}
theorem aa8 {i:Nat}{o:aj2}:(σ.put i o).next=σ.next:=nr rfl
theorem aa5 {i j:Nat}{o:aj2}:(σ.put i o).obj j=if j=i then za o else σ.obj j:=nr rfl
theorem e_t:(IX.t n).ev E fr=fr.get n:=nr rfl
theorem e_c:(IX.c v).ev E fr=v:=nr rfl
theorem e_g:(IX.g n).ev E fr=E n:=nr rfl
theorem e_f:(IX.f n).ev E fr=.func (.func n) [] []:=nr rfl
theorem fy1:evq E fr σ (.mov x)=za (x.ev E fr):=nr rfl
theorem do7:evq E fr σ (.pick x y z)=bc5 (x.ev E fr) (y.ev E fr) (z.ev E fr):=nr rfl
theorem fy2:evq E fr σ (.not x)=jl4 (x.ev E fr):=nr rfl
theorem fy3:evq E fr σ (.neg x)=jl5 (x.ev E fr):=nr rfl
theorem fy4 {op:BinOp}:evq E fr σ (.bin op x y)=ba3 op (x.ev E fr) (y.ev E fr):=nr rfl
theorem ai7 {d:TypeDesc}{g:Bool}:evq E fr σ (.au1 d g x)=(ct9 d (x.ev E fr)).map λb=>.bool (b ^^ g):=nr rfl
theorem fy5 {tags:List Nat}{g h:Bool}:evq E fr σ (.eqs tags g h x y)=ip5 tags g h (x.ev E fr) (y.ev E fr):=nr rfl
theorem do8:evq E fr σ (.conv k x)=gj7 k (x.ev E fr):=nr rfl
theorem cm7:evq E fr σ (.hu4 x)=eh5 (x.ev E fr):=nr rfl
theorem fy6:evq E fr σ (.len n x)=cc2 n σ (x.ev E fr):=nr rfl
theorem cm8:evq E fr σ (.bg4 off x)=da4 off (x.ev E fr):=nr rfl
theorem fy7 {ag:Option Nat}:evq E fr σ (.fld ag off x)=jj5 ag off (x.ev E fr):=nr rfl
theorem cm9:evq E fr σ (.ei4 esz x y)=au7 esz (x.ev E fr) (y.ev E fr):=nr rfl
theorem cn1:evq E fr σ (.ei5 n esz x y)=dk8 n esz (x.ev E fr) (y.ev E fr):=nr rfl
theorem fy8 {ag:Option Nat}:evq E fr σ (.idx ag n esz x y)=iw5 ag n esz (x.ev E fr) (y.ev E fr):=nr rfl
theorem do9:evq E fr σ (.ix1 x y)=eg8 (x.ev E fr) (y.ev E fr):=nr rfl
theorem fy9 {lo hi:Option IX}:evq E fr σ (.slc esz x lo hi)=dk9 esz (lo.map (·.ev E fr)) (hi.map (·.ev E fr)) (x.ev E fr):=nr rfl
theorem dp1 {lo hi:Option IX}:evq E fr σ (.gl3 x lo hi)=cb8 (lo.map (·.ev E fr)) (hi.map (·.ev E fr)) (x.ev E fr):=nr rfl
theorem fz1:evq E fr σ (.slz x)=ho8 (x.ev E fr):=nr rfl
theorem fz2:evq E fr σ (.ext n x)=iw6 n (x.ev E fr):=nr rfl
theorem fz3 {fs cs:List IX}:evq E fr σ (.mkf n fs cs)=za (.func (.func n) (fs.map (·.ev E fr)) (cs.map (·.ev E fr))):=nr rfl
theorem fz4 {zs:List IV}{ps:List (Nat×Nat×IX)}:evq E fr σ (.bld zs ps)=(at7 zs (ps.map λp=>(p.1,p.2.1,p.2.2.ev E fr))).map .agg:=nr rfl
theorem dp2 {ag:Option Nat}:evq E fr σ (.load ag x)=ay7 σ ag (x.ev E fr):=nr rfl
theorem dp3:evq E fr σ (.ip6 x)=eh6 (x.ev E fr):=nr rfl
theorem ir7 {mx:Bool}:evq E fr σ (.mm mx x y)=mmI mx (x.ev E fr) (y.ev E fr):=nr rfl
theorem ek9:mmI true (.int k a) (.int k' b)=za (.int k (if b>a then b else a)):=by simp[mmI]
theorem ev9:mmI false (.int k a) (.int k' b)=za (.int k (if b<a then b else a)):=by simp[mmI]
theorem ew1 {zero:IV}{ok:Bool}:evq E fr σ (.lkp n zero ok x y)=cj1 σ n zero ok (x.ev E fr) (y.ev E fr):=nr rfl
theorem cn2:Frm.keep fr []=[]:=nr rfl
theorem cn3 {ks:List Nat}:Frm.keep fr (n::ks)=(n,fr.get n)::Frm.keep fr ks:=nr rfl
theorem dp4:bl9 [] n=[]:=nr rfl
theorem dp5 {vs:List IV}:bl9 (v::vs) n=(n,v)::bl9 vs (n+1):=nr rfl
theorem cn4:cd4 []=0:=nr rfl
theorem cn5 {d:Option Nat}{g:Option (Nat×Bool)}{op:IK}{os:List ae7}:cd4 (⟨d,g,op⟩::os)=(if op.lays=true then 1 else 0)+cd4 os:=nr (ck5 _ _)
theorem jk7 {q:IQ}:(IK.q q).lays=false:=nr rfl
theorem bt6 {zs:List IV}:(IK.alloc zs).lays=true:=nr rfl
theorem dp6:(IK.box x).lays=true:=nr rfl
theorem dp7 {zs:List IV}{ps:List (Nat×Nat×IX)}:(IK.bsl esz n zs ps).lays=true:=nr rfl
theorem dp8:(IK.app esz x y).lays=true:=nr rfl
theorem bt7:IK.ck6.lays=true:=nr rfl
theorem cn6:(IK.ci4 n x y z).lays=false:=nr rfl
theorem bi3:(IK.bn6 x).lays=true:=nr rfl
theorem bt8:(IK.dc5 x).lays=false:=nr rfl
theorem bi4:(IK.be9 x).lays=true:=nr rfl
theorem cn7 {zs:List IV}:(IK.dj2 esz zs x).lays=true:=nr rfl
theorem dp9 {zs:List IV}:(IK.clr esz zs x).lays=false:=nr rfl
theorem cn8:(IK.fu2 x).lays=false:=nr rfl
theorem bt9:(IK.ck7 x).lays=false:=nr rfl
theorem cn9:(IK.cu6 x).lays=false:=nr rfl
theorem co1 {zs:List IV}{ps:List (Nat×Nat×IX)}:(IK.aj3 esz n zs ps).lays=false:=nr rfl
theorem kg3:evq E fr σ (.ibs x y)=jl6 (x.ev E fr) (y.ev E fr):=nr rfl
theorem jq5:jl6 (.str s) (.int .u8 a)=if 0<=a/\a<256 then za (.int .i64 (er8 a.toNat s 0)) else zb:=nr rfl
theorem bu1:(IK.store n x y).lays=false:=nr rfl
theorem co2 {xs:List IX}:(IK.call n xs).lays=false:=nr rfl
theorem bu2 {xs:List IX}:(IK.bb1 n xs).lays=false:=nr rfl
theorem bu3 {xs:List IX}:(IK.cw7 x xs).lays=false:=nr rfl
theorem dq2 {α β:Type}{f:α->β}:List.map f []=[]:=nr rfl
theorem dq3 {α β:Type}{f:α->β}{c:α}{cs:List α}:List.map f (c::cs)=f c::List.map f cs:=nr rfl
theorem ew2 {α β:Type}{f:α->β}:Option.map f zb=zb:=nr rfl
theorem ew3 {α β:Type}{f:α->β}{c:α}:Option.map f (za c)=za (f c):=nr rfl
theorem co3:bc5 (.bool true) v u=za v:=nr rfl
theorem co4:bc5 (.bool false) v u=za u:=nr rfl
theorem co5 {c d:Bool}:bc5 (.bool c) (.bool true) (.bool d)=za (.bool (c||d)):=by cases c<;>rfl
theorem co6 {c d:Bool}:bc5 (.bool c) (.bool d) (.bool false)=za (.bool (c&&d)):=by cases c<;>rfl
theorem dq4 {c:Bool}:jl4 (.bool c)=za (.bool !c):=nr rfl
theorem dq5:jl5 (.int k a)=za (.int k (k.wrap (0-a))):=nr rfl
theorem co7:gj7 k (.int k' a)=za (.int k (k.wrap a)):=nr rfl
theorem bu4:eh5 (.str s)=za (.str s):=nr rfl
theorem fz5:ba3 .add (.int k a) (.int k b)=za (.int k (k.wrap (a+b))):=by simp[ba3,es3]
theorem fz6:ba3 .sub (.int k a) (.int k b)=za (.int k (k.wrap (a-b))):=by simp[ba3,es3]
theorem fz7:ba3 .mul (.int k a) (.int k b)=za (.int k (k.wrap (a*b))):=by simp[ba3,es3]
theorem fz8:ba3 .quo (.int k a) (.int k b)=if b=0 then zb else za (.int k (k.wrap (a.tdiv b))):=by simp[ba3,es3]
theorem fz9:ba3 .rem (.int k a) (.int k b)=if b=0 then zb else za (.int k (a.tmod b)):=by simp[ba3,es3]
theorem ga1:ba3 .eql (.int k a) (.int k b)=za (.bool (decide (a=b))):=by simp[ba3,es3]
theorem ga2:ba3 .neq (.int k a) (.int k b)=za (.bool (!decide (a=b))):=by simp[ba3,es3]
theorem ga3:ba3 .lss (.int k a) (.int k b)=za (.bool (decide (a<b))):=by simp[ba3,es3]
theorem ga4:ba3 .leq (.int k a) (.int k b)=za (.bool (decide (a<=b))):=by simp[ba3,es3]
theorem ga5:ba3 .gtr (.int k a) (.int k b)=za (.bool (decide (b<a))):=by simp[ba3,es3]
theorem ga6:ba3 .geq (.int k a) (.int k b)=za (.bool (decide (b<=a))):=by simp[ba3,es3]
theorem ga7:ba3 .shl (.int k a) (.int k' b)=if 0<=b then za (.int k (k.wrap (a*2^(min b.toNat k.bits)))) else zb:=by simp[ba3]
theorem ga8:ba3 .shr (.int k a) (.int k' b)=if 0<=b then za (.int k (a.fdiv (2^(min b.toNat k.bits)))) else zb:=by simp[ba3]
theorem dc8:ba3 .add (.str s) (.str t)=if s.length+t.length<2^62 then za (.str (s++t)) else zb:=by simp[ba3,hq9]
theorem dq6:ba3 .eql (.str s) (.str t)=za (.bool (decide (s=t))):=by simp[ba3,hq9]
theorem dq7:ba3 .neq (.str s) (.str t)=za (.bool (!decide (s=t))):=by simp[ba3,hq9]
theorem dq8:ba3 .lss (.str s) (.str t)=za (.bool (Op.bytesLess s t)):=by simp[ba3,hq9]
theorem dq9:ba3 .leq (.str s) (.str t)=za (.bool (Op.bytesLess s t||decide (s=t))):=by simp[ba3,hq9]
theorem dr1:ba3 .gtr (.str s) (.str t)=za (.bool (!(Op.bytesLess s t||decide (s=t)))):=by simp[ba3,hq9]
theorem dr2:ba3 .geq (.str s) (.str t)=za (.bool (!Op.bytesLess s t)):=by simp[ba3,hq9]
theorem dr3 {es:List (List IV)}:cc2 0 σ (.aa3 es)=za (.int .i64 es.length):=nr rfl
theorem dr4:cc2 0 σ .aa1=za (.int .i64 0):=nr rfl
theorem dr5:cc2 0 σ .ac6=za (.int .i64 0):=nr rfl
theorem jq6:cc2 0 σ .af6=za (.int .i64 0):=nr rfl
theorem dc9:cc2 0 σ (.slice n off len esz)=za (.int .i64 len):=nr rfl
theorem bm1:cc2 1 σ (.str s)=za (.int .i64 s.length):=nr rfl
theorem co8:eh6 (.ptr n off)=za (.ptr n off):=nr rfl
theorem co9 {cs:List IV}:eh6 (.ab8 cs)=za (.ab8 cs):=nr rfl
theorem cp1 {f:FuncId}{p q:List IV}:eh6 (.func (.func f) p q)=za (.func (.func f) p q):=nr rfl
theorem dr6:ho8 .aa1=za .aa1:=nr rfl
theorem dr7:ho8 .ac6=za .ac6:=nr rfl
theorem jq7:ho8 .af6=za .ac6:=nr rfl
theorem dr8 {es:List (List IV)}:ho8 (.aa3 es)=if es=[] then za (.aa3 []) else za .ac6:=nr rfl
theorem dr9:ho8 (.slice n off len esz)=za .ac6:=nr rfl
theorem ga9:irL σ fr []=za []:=nr rfl
theorem gb1:irL σ fr [.t n]=za [fr.get n]:=nr rfl
theorem ds2:irL σ fr [.t n,.t m]=za [fr.get n,fr.get m]:=nr rfl
theorem gb2 {ag:Option Nat}:irL σ fr [.cell ag n]=(ay7 σ ag (fr.get n)).map λv=>[v]:=by
 simp only[irL,irV];cases ay7 σ ag (fr.get n)<;>rfl
theorem cp3:ft6 [v]=v:=nr rfl
theorem cp4:ft6 [v,u]=.tuple [v,u]:=nr rfl
theorem cp5:ft6 []=.tuple []:=nr rfl
def ea8 (ag:Option Nat)(off:Nat):Option aj2->Option IV
 | some (.cells cs)|some (.row cs)=>match ag with
  | none=>(cs.drop off).head?
  | some n=>if n<=(cs.drop off).length then za (.agg ((cs.drop off).take n)) else zb
 | _=>zb
theorem cp6 {ag:Option Nat}:ay7 σ ag (.ptr n off)=ea8 ag off (σ.obj n):=by
 cases h:σ.obj n with
 | none=>simp[ay7,aq7,ea8,h]
 | some o=>cases o<;>cases ag<;>simp[ay7,aq7,ea8,h]
theorem cp7 {cs:List IV}:ay7 σ zb (.ab8 cs)=cs.head?:=nr rfl
theorem bu5 {cs:List IV}:ay7 σ (za n) (.ab8 cs)=if n<=cs.length then za (.agg (cs.take n)) else zb:=nr rfl
theorem bx6 {cs:List IV}:ea8 zb off (za (.cells cs))=(cs.drop off).head?:=nr rfl
theorem ce1 {cs:List IV}:ea8 (za n) off (za (.cells cs))=if n<=(cs.drop off).length then za (.agg ((cs.drop off).take n)) else zb:=nr rfl
theorem gb3 {cs:List IV}:ea8 zb off (za (.row cs))=(cs.drop off).head?:=nr rfl
theorem ew4 {cs:List IV}:ea8 (za n) off (za (.row cs))=if n<=(cs.drop off).length then za (.agg ((cs.drop off).take n)) else zb:=nr rfl
def el1 (σ:Store)(id off n:Nat)(vs:List IV):Option aj2->Option Store
 | some (.cells cs)=>if vs.length=n/\off+n<=cs.length/\vs.all IV.leaf=true then za (σ.put id (.cells (be4 cs off vs))) else zb
 | some (.row cs)=>if vs.length=n/\off+n<=cs.length/\vs.all IV.leaf=true then za (σ.put id (.row (be4 cs off vs))) else zb
 | _=>zb
theorem bu6:aq9 σ n (.ptr m off) v=el1 σ m off n v.cs (σ.obj m):=by
 cases h:σ.obj m with
 | none=>simp[aq9,el1,h]
 | some o=>cases o<;>simp[aq9,el1,h]
theorem gb4 {cs vs:List IV}:el1 σ m off n vs (za (.cells cs))=if vs.length=n/\off+n<=cs.length/\vs.all IV.leaf=true then za (σ.put m (.cells (be4 cs off vs))) else zb:=nr rfl
theorem ew5 {cs vs:List IV}:el1 σ m off n vs (za (.row cs))=if vs.length=n/\off+n<=cs.length/\vs.all IV.leaf=true then za (σ.put m (.row (be4 cs off vs))) else zb:=nr rfl
theorem bu7 {es:List (List IV)}:au7 esz (.aa3 es) (.int k a)=if 0<=a/\a<es.length/\(es.getD a.toNat []).length=esz then za (.ab8 (es.getD a.toNat [])) else zb:=nr rfl
theorem bu8:au7 esz (.slice n off len m) (.int k a)=if 0<=a/\a<len/\m=esz then za (.ptr n (off+a.toNat*esz)) else zb:=nr rfl
theorem cp8 {cs:List IV}:da4 n (.ab8 cs)=za (.ab8 (cs.drop n)):=nr rfl
theorem cp9:da4 n (.ptr m off)=za (.ptr m (off+n)):=nr rfl
theorem cq1 {cs:List IV}:IV.cs (.agg cs)=cs:=nr rfl
theorem cq2:IV.cs (.int k a)=[.int k a]:=nr rfl
theorem bu9 {c:Bool}:IV.cs (.bool c)=[.bool c]:=nr rfl
theorem cq3:IV.cs (.str s)=[.str s]:=nr rfl
theorem cq4:IV.cs (.ptr n off)=[.ptr n off]:=nr rfl
theorem bv1 {cs:List IV}:IV.cs (.ab8 cs)=[.ab8 cs]:=nr rfl
theorem bi5:IV.cs (.slice n off len esz)=[.slice n off len esz]:=nr rfl
theorem bb9 {es:List (List IV)}:IV.cs (.aa3 es)=[.aa3 es]:=nr rfl
theorem bv2 {f:Fn}{p q:List IV}:IV.cs (.func f p q)=[.func f p q]:=nr rfl
theorem cq5:IV.cs (.map n)=[.map n]:=nr rfl
theorem bv3 {es:List (IV×IV)}:IV.cs (.al4 es)=[.al4 es]:=nr rfl
theorem ds4:IV.cs .aa1=[.aa1]:=nr rfl
theorem ds5:IV.cs .ac6=[.ac6]:=nr rfl
theorem jq8:IV.cs .af6=[.af6]:=nr rfl
theorem ds6:IV.cs .ae3=[.ae3]:=nr rfl
theorem cq6:IV.leaf (.int k a)=true:=nr rfl
theorem bv4 {c:Bool}:IV.leaf (.bool c)=true:=nr rfl
theorem cq7:IV.leaf (.str s)=true:=nr rfl
theorem cq8:IV.leaf (.ptr n off)=true:=nr rfl
theorem bv5 {cs:List IV}:IV.leaf (.ab8 cs)=true:=nr rfl
theorem bi6:IV.leaf (.slice n off len esz)=true:=nr rfl
theorem bc1 {es:List (List IV)}:IV.leaf (.aa3 es)=true:=nr rfl
theorem bv6 {f:Fn}{p q:List IV}:IV.leaf (.func f p q)=true:=nr rfl
theorem cq9:IV.leaf (.map n)=true:=nr rfl
theorem bv7 {es:List (IV×IV)}:IV.leaf (.al4 es)=true:=nr rfl
theorem ds7:IV.leaf .aa1=true:=nr rfl
theorem ds8:IV.leaf .ac6=true:=nr rfl
theorem jq9:IV.leaf .af6=true:=nr rfl
theorem ds9:IV.leaf .ae3=true:=nr rfl
def fg5 (σ:Store)(id:Nat):Option aj2->Option (IV×Store)
 | some (.bg3 s pos)=>if pos<s.length then za (.tuple [.bool true,.int .i64 pos,.int .i32 (Utf8.decode ⟨s.toArray⟩ pos).1],σ.put id (.bg3 s (pos+(Utf8.decode ⟨s.toArray⟩ pos).2))) else za (.tuple [.bool false],σ)
 | _=>zb
theorem bp6:bo5 σ (.ptr n 0)=fg5 σ n (σ.obj n):=by
 cases h:σ.obj n with
 | none=>simp[bo5,fg5,h]
 | some o=>cases o<;>simp[bo5,fg5,h]
theorem ir8 {pos:Nat}:fg5 σ n (za (.bg3 s pos))=if pos<s.length then za (.tuple [.bool true,.int .i64 pos,.int .i32 (Utf8.decode ⟨s.toArray⟩ pos).1],σ.put n (.bg3 s (pos+(Utf8.decode ⟨s.toArray⟩ pos).2))) else za (.tuple [.bool false],σ):=nr rfl
theorem dt1 {cs:List IV}:iw6 n (.tuple cs)=cs[n]?:=by cases h:cs[n]?<;>simp[iw6,h]
theorem gb5:(Store.mk σ.next σ.obj)=σ:=nr rfl
theorem wrap64 {x:Int}(h1:-9223372036854775808<=x)(h2:x<9223372036854775808):IntKind.i64.wrap x=x:=by
 simp[IntKind.wrap,IntKind.bits,IntKind.signed];omega
end Go.Id
namespace Go.Id
open Go
variable {P:Program} {w w' w'':World} {ρ ρ' ρ'':Rho} {E:Nat->IV} {σ σ':Store} {N n n':Nat}
abbrev Bnd (n:Nat)(v:IV):Prop:=Nm (λi=>i<n) v
abbrev cb5 (σ:Store)(n:Nat)(v v':IV):Prop:=Frz σ (λi=>i<n) v v'
def Rho.cut (ρ:Rho)(n:Nat):Rho:=⟨λi=>if i<n then ρ i else .no,ρ.X⟩
theorem ir9 (ρ:Rho)(n:Nat):cj7 (λi=>i<n) ρ (ρ.cut n):=
 ⟨λi h=>by show (if i<n then ρ i else eg5.no)=_;rw[if_pos h],λi h=>by show (if i<n then ρ i else eg5.no)=_;rw[if_neg h],λ_ h=>.inl h⟩
theorem gb6 (hf:∀i,n<=i->ρ i=.no):∀i,ρ i≠.no->i<n:=λi h=>by
 rcases qh i n with h'|h'
 ·exact h'
 ·exact absurd (hf i h') h
theorem kg4 {f:Nat}{args:List IV}{v:IV}
  (h:(∀a∈args,Bnd σ.next a)->C P E f args σ λv' σ'=>(∀i,i<σ.next->σ'.obj i=σ.obj i)/\σ.next<=σ'.next/\cb5 σ' σ.next v' v):C P E f args σ (jq3 v σ):=by
 intro ρ w rargs hs ha;have hlv:=gb6 hs.fresh;have hba:∀a∈args,Bnd σ.next a:=λa hm=>let ⟨i,hi,he⟩:=ai1 (d:=.undef) hm;he▸(ha.2 i hi).nm hlv
 refine CallsIn.mono (h hba ρ w rargs hs ha) ?_;rintro e w' ⟨v',r,ρ',σ',rfl,⟨hob,hle,hfrz⟩,hs',hv',hx⟩;have hno:∀i,σ.next<=i->σ.obj i=zb:=λi hi=>hs.av3 i (hs.fresh i hi)
 have hk:=ir9 ρ' σ.next;refine ⟨v,r,ρ'.cut σ.next,σ,rfl,⟨rfl,rfl⟩,hs'.jz5 hk hob (λi hi=>hno i om) (λi o _ ho=>hs.nmO hlv i o ho) (λi hi=>hk.off i om) (λg=>(hs.env g).nm hlv),hfrz.vr hk rfl hs' r hv',?_⟩;exact ⟨hx.size,hx.keep,hx.shape,λi B d hi=>hx.img i B d (hk.at hi).2,λi B d hi h=>by rw[hk.on i hi];exact hx.at_ i B d hi h,λi hi h=>by rw[hk.on i hi];exact hx.dead i hi h,λi hi h=>by rw[hk.on i hi];exact hx.no i hi h,hx.output,hx.os,hx.tape,hx.loops,hx.X⟩
theorem ew6 {f:Nat}{args:List IV}{v:IV}(h:PC P E f args v):C P E f args σ (jq3 v σ):=h σ
theorem gr7 {f:Nat}{args:List IV}{v:IV}
  (h:∀σ,(∀a∈args,Bnd σ.next a)->C P E f args σ λv' σ'=>(∀i,i<σ.next->σ'.obj i=σ.obj i)/\σ.next<=σ'.next/\cb5 σ' σ.next v' v):PC P E f args v :=
 λσ=>kg4 (h σ)
theorem kg5 {pt:PT}{ct:CT}{pf:List Nat}(hT:TOK P E pt ct){f:Nat}{an:Ann}{ic:IC}{irs:List IR}{args:List IV}{v:IV}(hf:ir4 P f N pf an ic irs)(hl:args.length<=N)
  (h:∀σ,(∀a∈args,Bnd σ.next a)->wpT pt ct P E N σ.next ic (bl9 args 0) σ (gr4 irs λv' σ'=>(∀i,i<σ.next->σ'.obj i=σ.obj i)/\σ.next<=σ'.next/\cb5 σ' σ.next v' v)):PC P E f args v :=
 gr7 λσ hb=>C_T hT hf hl (h σ hb)
def IV.plain:IV->Bool
 | .bool _|.int _ _|.str _=>true
 | .tuple vs=>vs.attach.all λ⟨v,_⟩=>v.plain
 | .agg vs=>vs.attach.all λ⟨v,_⟩=>v.plain
 | _=>false
theorem ie2 {v:IV}{r:Value}(h:v.plain=true)(hv:VR ρ w v r):VR ρ' w' v r:=by
 induction hv with
 | bool b=>exact .bool _
 | int k n=>exact .int _ _
 | str s=>exact .str _
 | agg cs rs hl hv ih=>
  refine .agg cs rs hl λi hi=>ih i hi ?_
  unfold IV.plain at h
  exact zi.1 h ⟨_,ad3 .undef hi⟩ (List.mem_attach _ _)
 | tuple cs rs hl hv ih=>
  refine .tuple cs rs hl λi hi=>ih i hi ?_
  unfold IV.plain at h
  exact zi.1 h ⟨_,ad3 .undef hi⟩ (List.mem_attach _ _)
 | _=>simp[IV.plain] at h
theorem ew7 (S:Nat->Prop)(ρ:Rho):∃ρ':Rho,cj7 S ρ ρ'/\∀b,ρ'.X b↔ρ.X b\/∃i d,¬S i/\ρ i=.at b d:=by
 refine ⟨⟨λi=>if z0 (S i) |>.decide then ρ i else .no,λb=>ρ.X b\/∃i d,¬S i/\ρ i=.at b d⟩,⟨λi h=>?_,λi h=>?_,λb h=>h⟩,λb=>Iff.rfl⟩
 ·show (if (z0 (S i)).decide=true then ρ i else eg5.no)=_;rw[if_pos (by simpa using h)]
 ·show (if (z0 (S i)).decide=true then ρ i else eg5.no)=_;rw[if_neg (by simpa using h)]
def Store.only (σ:Store)(S:Nat->Bool):Store:=⟨σ.next,λi=>if S i then σ.obj i else zb⟩
theorem fg6 {f:Nat}{args:List IV}{v:IV}(hE:∀g,Bnd 0 (E g))(ha:∀a∈args,Bnd 0 a)(h:C P E f args ⟨0,λ_=>zb⟩ λv' σ'=>cb5 σ' 0 v' v):PC P E f args v:=by
 intro σ ρ w rargs hs hr;obtain ⟨ρ0,hk,hX⟩:=ew7 (λ_=>False) ρ;have hs0:Sim E ρ0 w ⟨0,λ_=>zb⟩:=hs.jz5 hk (λi h=>h.elim) (λ_ _=>rfl) (λi o h=>h.elim) (λi _=>hk.off i (λh=>h)) (λg=>(hE g).weak λi h=>absurd h (ze _));have hr0:CR ρ0 w args rargs:=⟨hr.1,λi hi=>(hr.2 i hi).cut hk ((ha _ (ad3 _ hi)).weak λi h=>absurd h (ze _))⟩;refine CallsIn.mono (h ρ0 w rargs hs0 hr0) ?_;rintro e w' ⟨v',r,ρ',σ',rfl,hfz,hs',hv',hx⟩;have hno0:∀i,ρ0 i=.no:=λi=>hk.off i (λh=>h)
 have hkeep:∀b,b<w.heap.size->w'.heap[b]? = w.heap[b]?:=λb hb=>hx.keep b ⟨hb,λi d h=>by rw[hno0 i] at h;cases h⟩
 have hlt:∀(b:Nat) (o:Obj),w.heap[b]? = za o->b<w.heap.size:=λb o h=>by
  rcases qh b w.heap.size with h'|h'
  ·exact h'
  ·rw[zn h'] at h;cases h
 have hext:∀n,Ext n ρ w ρ w':=λn=>
  ⟨hx.size,λb hb=>hkeep b hb.1,λb rcs el fz h=>⟨rcs,by rw[hkeep b (hlt b _ h)];exact h,rfl⟩,λi B d h=>.inl ⟨i,d,h⟩,λi B d h=>.inl h,λi h=>h,λi _ h=>h,hx.output,hx.os,hx.tape,λl L h=>⟨L,by rw[hkeep l (hlt l _ h)];exact h⟩,rfl⟩
 -- the tree lies on no block that is in use
 let ρ1:Rho:=⟨λ_=>.no,ρ'.X⟩;have hk1:cj7 (λi=>i<0) ρ' ρ1:=⟨λi h=>absurd h (ze _),λi _=>rfl,λb h=>.inl h⟩;have hv1:VR ρ1 w' v r:=hfz.vr hk1 rfl hs' r hv'
 have hv2:VR ρ w' v r:=hv1.refs (λi h=>absurd rfl h) λb hb=>⟨hb.1,λi d hi=>hb.3 (by
   show ρ'.X b;rw[hx.X];exact (hX b).2 (.inr ⟨i,d,λh=>h,hi⟩)),λhxb=>hb.3 (by
   show ρ'.X b;rw[hx.X];exact (hX b).2 (.inl hxb))⟩
 refine ⟨v,r,ρ,σ,rfl,⟨rfl,rfl⟩,⟨hs.inj,λi B d h=>zz (hs.lt i B d h) hx.size,λi B d h=>?_,hs.dead,hs.fresh,hs.av3,λg=>(hs.env g).mono (hext 0),hs.nx,λb h=>zz (hs.xlt b h) hx.size⟩,hv2,(hext σ.next).weak (zr _)⟩;obtain ⟨o,h1,h2⟩:=hs.obj i B d h;exact ⟨o,h1,h2.mono (hext 0) (hkeep B (hs.lt i B d h))⟩
def Store.kills (σ:Store)(S:Nat->Bool):Store:=⟨σ.next,λi=>if S i then σ.obj i else zb⟩
theorem bm2 {S:Nat->Bool}(hs:Sim E ρ w σ):∃ρd:Rho,Sim E ρd w (σ.kills S)/\(∀n,Ext n ρ w ρd w)/\∀v v' r,Frz σ (λi=>S i=true) v v'->VR ρ w v r->VR ρd w v' r:=by
 let ρc:Rho:=⟨λi=>if S i then ρ i else .no,ρ.X⟩;let ρd:Rho:=⟨λi=>if S i then ρ i else match ρ i with|.no=>.no|_=>.dead,ρ.X⟩;have con:∀i,S i=true->ρc i=ρ i:=λi h=>by show (if S i=true then ρ i else .no)=_;rw[if_pos h]
 have coff:∀i,S i=false->ρc i=.no:=λi h=>by show (if S i=true then ρ i else .no)=_;rw[if_neg (by simp[h])]
 have don:∀i,S i=true->ρd i=ρ i:=λi h=>by show (if S i=true then ρ i else _)=_;rw[if_pos h]
 have doff:∀i,S i=false->ρd i=(match ρ i with|.no=>.no|_=>.dead):=λi h=>by show (if S i=true then ρ i else _)=_;rw[if_neg (by simp[h])]
 have hdat:∀i B d,ρd i=.at B d->S i=true/\ρ i=.at B d:=λi B d h=>by
  cases hsi:S i with
  | true=>rw[don i hsi] at h;exact ⟨rfl,h⟩
  | false=>rw[doff i hsi] at h;cases hri:ρ i<;>rw[hri] at h<;>cases h
 have hk:cj7 (λi=>S i=true) ρ ρc:=⟨con,λi h=>coff i (by simpa using h),λb h=>.inl h⟩
 have hxd:∀n,Ext n ρ w ρd w:=λn=>dx6 (λi B d h=>by
   cases hsi:S i with
   | true=>rw[don i hsi];exact .inl h
   | false=>rw[doff i hsi,h];exact .inr rfl) (λi h=>by
   cases hsi:S i with
   | true=>rw[don i hsi];exact h
   | false=>rw[doff i hsi,h]) (λi _ h=>by
   cases hsi:S i with
   | true=>rw[don i hsi];exact h
   | false=>rw[doff i hsi,h]) (λi B d h=>⟨i,d,(hdat i B d h).2⟩) rfl
 have hxc:Ext 0 ρc w ρd w:=dx6 (λi B d h=>by
   obtain ⟨h1,h2⟩:=hk.at h;exact .inl (by rw[don i h1];exact h2)) (λi h=>by
   cases hsi:S i with
   | true=>rw[con i hsi] at h;rw[don i hsi];exact h
   | false=>rw[coff i hsi] at h;cases h) (λi hi _=>absurd hi (ze _)) (λi B d h=>⟨i,d,by rw[con i (hdat i B d h).1];exact (hdat i B d h).2⟩) rfl
 refine ⟨ρd,?_,hxd,λv v' r hf hv=>(hf.vr hk rfl hs r hv).mono hxc⟩;refine ⟨λi j B d d' hi hj=>hs.inj i j B d d' (hdat _ _ _ hi).2 (hdat _ _ _ hj).2,λi B d hi=>hs.lt i B d (hdat _ _ _ hi).2,λi B d hi=>?_,λi hi=>?_,λi hi=>?_,λi hi=>?_,λg=>(hs.env g).mono (hxd 0),λi B d hi=>hs.nx i B d (hdat _ _ _ hi).2,hs.xlt⟩
 ·obtain ⟨h1,h2⟩:=hdat _ _ _ hi;obtain ⟨o,g1,g2⟩:=hs.obj i B d h2;exact ⟨o,by simp[Store.kills,h1,g1],g2.mono (hxd 0) rfl⟩
 ·cases hsi:S i with
  | true=>rw[don i hsi] at hi;simp[Store.kills,hsi,hs.dead i hi]
  | false=>simp[Store.kills,hsi]
 ·have hn:σ.next<=i:=hi;have:=hs.fresh i hn
  cases hsi:S i with
  | true=>rw[don i hsi];exact this
  | false=>rw[doff i hsi,this]
 ·cases hsi:S i with
  | true=>rw[don i hsi] at hi;simp[Store.kills,hsi,hs.av3 i hi]
  | false=>simp[Store.kills,hsi]
theorem el3 {S:Nat->Bool}{f:Nat}{args args':List IV}{Q:IV->Store->Prop}(hl:args'.length=args.length)(ha:∀i,i<args.length->Frz σ (λi=>S i=true) (args.getD i .undef) (args'.getD i .undef))
  (h:C P E f args' (σ.kills S) Q):C P E f args σ Q:=by
 intro ρ w rargs hs hr;obtain ⟨ρd,hs0,hxd,hvd⟩:=bm2 (S:=S) hs;have hr0:CR ρd w args' rargs:=⟨by rw[hl];exact hr.1,λi hi=>hvd _ _ _ (ha i om) (hr.2 i om)⟩;refine CallsIn.mono (h ρd w rargs hs0 hr0) ?_;rintro e w' ⟨v,r,ρ',σ',rfl,hq,hs',hv',hx⟩;exact ⟨v,r,ρ',σ',rfl,hq,hs',hv',((hxd σ.next).weak (zr _)).trans hx⟩
theorem jr1 {S:Nat->Bool}{ic:IC}{n0:Nat}{fr fr':Frm}{Q:Exit->Frm->Store->Prop}(hf:∀t,fr'.get t=fr.get t\/Frz σ (λi=>S i=true) (fr.get t) (fr'.get t))
  (h:RI P E N n0 ic fr' (σ.kills S) Q):RI P E N n0 ic fr σ Q:=by
 intro pf an c hc hn ro h0 ρ w a hs hfr hd hr;obtain ⟨ρd,hs0,hxd,hvd⟩:=bm2 (S:=S) hs
 have hfr':FR ρd w N fr' a.tmps:=⟨hfr.size,λt=>by
  rcases hf t with e|e
  ·rw[e];exact (hfr.get t).mono (hxd 0)
  ·exact hvd _ _ _ e (hfr.get t)⟩
 have hxw:=(hxd n0).weak (zr n0);refine wpIn_mono (h pf an c hc hn ro h0 ρd w a hs0 hfr' (hd.mono hxw) (hr.mono hxw)) ?_;rintro e a' w' ⟨fr2,σ2,ρ2,hn2,q,hs2,hf2,hd2,hr2,hx2⟩;exact ⟨fr2,σ2,ρ2,hn2,q,hs2,hf2,hd2,hr2,hxw.trans hx2⟩
theorem cr1 {f:Nat}{args args':List IV}{v:IV}(hE:∀g,Bnd 0 (E g))(hl:args'.length=args.length)(ha:∀i,i<args.length->cb5 σ 0 (args.getD i .undef) (args'.getD i .undef))(hp:v.plain=true)(h:PC P E f args' v):C P E f args σ (jq3 v σ):=by
 intro ρ w rargs hs hr;have hk:=ir9 ρ 0;have hs0:Sim E (ρ.cut 0) w ⟨0,λ_=>zb⟩:=hs.jz5 hk (λi h=>absurd h (ze _)) (λ_ _=>rfl) (λi o h=>absurd h (ze _)) (λi _=>hk.off i (ze _)) hE;have hr0:CR (ρ.cut 0) w args' rargs:=⟨by rw[hl];exact hr.1,λi hi=>(ha i om).vr hk rfl hs _ (hr.2 i om)⟩;refine CallsIn.mono (h ⟨0,λ_=>zb⟩ (ρ.cut 0) w rargs hs0 hr0) ?_;rintro e w' ⟨v',r,ρ',σ',rfl,⟨rfl,rfl⟩,hs',hv',hx⟩;have hkeep:∀b,b<w.heap.size->w'.heap[b]? = w.heap[b]?:=λb hb=>hx.keep b ⟨hb,λi d h=>absurd (hk.at h).1 (ze _)⟩
 have hlt:∀(b:Nat) (o:Obj),w.heap[b]? = za o->b<w.heap.size:=λb o h=>by
  rcases qh b w.heap.size with h'|h'
  ·exact h'
  ·rw[zn h'] at h;cases h
 have hext:∀n,Ext n ρ w ρ w':=λn=>
  ⟨hx.size,λb hb=>hkeep b hb.1,λb rcs el fz h=>⟨rcs,by rw[hkeep b (hlt b _ h)];exact h,rfl⟩,λi B d h=>.inl ⟨i,d,h⟩,λi B d h=>.inl h,λi h=>h,λi _ h=>h,hx.output,hx.os,hx.tape,λl L h=>⟨L,by rw[hkeep l (hlt l _ h)];exact h⟩,rfl⟩
 refine ⟨_,r,ρ,σ,rfl,⟨rfl,rfl⟩,⟨hs.inj,λi B d h=>zz (hs.lt i B d h) hx.size,λi B d h=>?_,hs.dead,hs.fresh,hs.av3,λg=>(hs.env g).mono (hext 0),hs.nx,λb h=>zz (hs.xlt b h) hx.size⟩,ie2 hp hv',(hext σ.next).weak (zr _)⟩;obtain ⟨o,h1,h2⟩:=hs.obj i B d h;exact ⟨o,h1,h2.mono (hext 0) (hkeep B (hs.lt i B d h))⟩
end Go.Id
namespace Go.Id
open Go
variable {P:Program} {E:Nat->IV} {σ σ':Store} {N n n0:Nat} {fr:Frm}
inductive ew8 where
 | o (x:aj2)
 | loop (N:Nat) (fr:Frm) (ps:List Nat) (asg body:IC) (st:LoopState) (pend:Option JX)
 | app (rev:List (List IV)) (n:Nat) (h:rev.reverse.flatten.length=n/\rev.reverse.flatten.all IV.leaf=true)
 deriving Inhabited
def ew8.fin:Option ew8->Option ew8
 | some (.app rev _ _)=>za (.o (.row rev.reverse.flatten))
 | x=>x
inductive Tr where
 | e
 | n (v:Option ew8) (l r:Tr)
 deriving Inhabited
def Tr.raw:Tr->Nat->Option ew8
 | .e,_=>zb
 | .n v l r,i=>bif qd i 0 then v else bif qd (i%2) 1 then l.raw (i/2) else r.raw (i/2-1)
def Tr.get (t:Tr)(i:Nat):Option ew8:=ew8.fin (t.raw i)
def Tr.set (x:Option ew8):Nat->Tr->Nat->Tr
 | 0,t,_=>t
 | f+1,.e,i=>bif qd i 0 then .n x .e .e else bif qd (i%2) 1 then .n zb (Tr.set x f .e (i/2)) .e else .n zb .e (Tr.set x f .e (i/2-1))
 | f+1,.n v l r,i=>bif qd i 0 then .n x l r else bif qd (i%2) 1 then .n v (Tr.set x f l (i/2)) r else .n v l (Tr.set x f r (i/2-1))
theorem bf2 {α:Type}(a b:Nat)(x y:α):(bif qd a b then x else y)=if a=b then x else y:=by
 by_cases h:a=b
 ·subst h;simp
 ·have:qd a b=false:=by rw[<- Bool.not_eq_true,Nat.beq_eq];exact h
  simp[this,h]
theorem Tr.jb6 (x:Option ew8):∀(f:Nat) (t:Tr) (i j:Nat),i+1<2^f->(Tr.set x f t i).raw j=if j=i then x else t.raw j:=by
 intro f
 induction f with
 | zero=>intro t i j h;simp at h
 | succ f ih=>
  intro t i j h;have hp:2^(f+1)=2*2^f:=by rw[Nat.pow_succ];omega
  cases t with
  | e =>
   simp only[Tr.set,bf2];split
   ·rename_i h0;subst h0;simp only[Tr.raw,bf2];split
    ·rfl
    ·split<;>rfl
   ·rename_i h0;split
    ·rename_i h1;simp only[Tr.raw,bf2];by_cases hj:j=0
     ·subst hj;rw[if_pos rfl,if_neg om]
     ·rw[if_neg hj];split
      ·rename_i h2;rw[ih _ _ _ om];by_cases hij:j=i
       ·rw[if_pos hij,if_pos om]
       ·rw[if_neg hij,if_neg om];rfl
      ·rw[if_neg om]
    ·rename_i h1;simp only[Tr.raw,bf2];by_cases hj:j=0
     ·subst hj;rw[if_pos rfl,if_neg om]
     ·rw[if_neg hj];split
      ·rw[if_neg om]
      ·rename_i h2;rw[ih _ _ _ om];by_cases hij:j=i
       ·rw[if_pos hij,if_pos om]
       ·rw[if_neg hij,if_neg om];rfl
  | n v l r=>
   simp only[Tr.set,bf2];split
   ·rename_i h0;subst h0;simp only[Tr.raw,bf2];split
    ·rfl
    ·rfl
   ·rename_i h0;split
    ·rename_i h1;simp only[Tr.raw,bf2];by_cases hj:j=0
     ·subst hj;rw[if_pos rfl,if_neg om];rfl
     ·rw[if_neg hj,if_neg hj];split
      ·rename_i h2;rw[ih _ _ _ om];by_cases hij:j=i
       ·rw[if_pos hij,if_pos om]
       ·rw[if_neg hij,if_neg om]
      ·rw[if_neg om]
    ·rename_i h1;simp only[Tr.raw,bf2];by_cases hj:j=0
     ·subst hj;rw[if_pos rfl,if_neg om];rfl
     ·rw[if_neg hj,if_neg hj];split
      ·rw[if_neg om]
      ·rename_i h2;rw[ih _ _ _ om];by_cases hij:j=i
       ·rw[if_pos hij,if_pos om]
       ·rw[if_neg hij,if_neg om]
theorem Tr.ci8 (x:Option ew8)(f:Nat)(t:Tr)(i j:Nat)(h:i+1<2^f):(Tr.set x f t i).get j=if j=i then ew8.fin x else t.get j:=by
 unfold Tr.get;rw[Tr.jb6 x f t i j h];split<;>rfl
structure XSt where
 next:Nat
 t:Tr
 deriving Inhabited
def XSt.put (xs:XSt)(i:Nat)(x:Option ew8):Option XSt :=
 bif Nat.blt i 1152921504606846976 then za ⟨xs.next,xs.t.set x 64 i⟩ else zb
def XSt.st (xs:XSt):Store:=⟨xs.next,λi=>match xs.t.get i with|some (.o x)=>za x|_=>zb⟩
theorem XSt.gr8 {xs xs':XSt}{i:Nat}{x:Option ew8}(h:xs.put i x=za xs'):xs'.next=xs.next/\∀j,xs'.t.get j=if j=i then ew8.fin x else xs.t.get j:=by
 unfold XSt.put at h
 cases hb:Nat.blt i 1152921504606846976 with
 | false=>rw[hb] at h;cases h
 | true=>
  rw[hb] at h;cases h;have:i<1152921504606846976:=qi hb;exact ⟨rfl,λj=>Tr.ci8 x 64 _ i j om⟩
def YR (P:Program)(E:Nat->IV)(id N:Nat)(fr:Frm)(ps:List Nat)(asg body:IC)(L:LoopState->Option JX->aj2):Prop :=
 ∀(σ':Store) (args:List IV) (K:IV->Store->Prop),args.length=ps.length->σ'.obj id=za (L .ready zb) ->
  RI P E N σ'.next asg (dj1 fr ps args) σ' (λe f s=>e=.normal/\s.obj id=za (L .ready zb)/\RI P E N σ'.next body f (s.put id (L .busy zb)) (db4 id L K))->CYd P E id args σ' K
abbrev Lam:=Nat->LoopState->Option JX->aj2
def XOR (P:Program)(E:Nat->IV)(Λ:Lam)(i:Nat):Option ew8->Option aj2->Prop
 | none,o=>o=zb
 | some (.o x),o=>o=za x
 | some (.app rev _ _),o=>o=za (.row rev.reverse.flatten)
 | some (.loop N fr ps asg body st pend),o=>o=za (Λ i st pend)/\YR P E i N fr ps asg body (Λ i)
structure XR (P:Program) (E:Nat->IV) (Λ:Lam) (xs:XSt) (σ:Store):Prop where
 next:xs.next=σ.next
 obj:∀i,XOR P E Λ i (xs.t.get i) (σ.obj i)
theorem XR.put {Λ:Lam}{xs xs':XSt}{i:Nat}{x:aj2}(h:XR P E Λ xs σ)(hp:xs.put i (za (.o x))=za xs'):XR P E Λ xs' (σ.put i x):=by
 obtain ⟨h1,h2⟩:=XSt.gr8 hp;refine ⟨by rw[h1];exact h.next,λj=>?_⟩;rw[h2,aa5];by_cases hj:j=i
 ·rw[if_pos hj,if_pos hj];rfl
 ·rw[if_neg hj,if_neg hj];exact h.obj j
theorem XR.kill {Λ:Lam}{xs xs':XSt}{i:Nat}(h:XR P E Λ xs σ)(hp:xs.put i zb=za xs'):XR P E Λ xs' (σ.kill i):=by
 obtain ⟨h1,h2⟩:=XSt.gr8 hp;refine ⟨by rw[h1];exact h.next,λj=>?_⟩;rw[h2];show XOR P E Λ j _ (if j=i then zb else σ.obj j);by_cases hj:j=i
 ·rw[if_pos hj,if_pos hj];rfl
 ·rw[if_neg hj,if_neg hj];exact h.obj j
theorem XR.get {Λ:Lam}{xs:XSt}{i:Nat}{x:aj2}(h:XR P E Λ xs σ)(hg:xs.t.get i=za (.o x)):σ.obj i=za x:=by
 have:=h.obj i;rw[hg] at this;exact this
def LeS (s σ:Store):Prop:=∀i x,s.obj i=za x->σ.obj i=za x
theorem XR.le {Λ:Lam}{xs:XSt}(h:XR P E Λ xs σ):LeS xs.st σ:=by
 intro i x hx;simp only[XSt.st] at hx;split at hx
 ·rename_i y hy;cases hx;exact h.get hy
 ·cases hx
def au3:Nat->IV->Bool
 | 0,_=>false
 | n+1,v=>match v with
  | .ptr _ _|.slice _ _ _ _|.map _|.yield _|.ag6 _ _ _ _|.ak5 _ _ _ _ _=>false
  | .ab8 cs=>cs.all (au3 n)
  | .aa3 es=>es.all λe=>e.all (au3 n)
  | .al4 es=>es.all λe=>au3 n e.1&&au3 n e.2
  | .func _ a b=>a.all (au3 n)&&b.all (au3 n)
  | .iface _ v=>au3 n v
  | .agg cs=>cs.all (au3 n)
  | .tuple cs=>cs.all (au3 n)
  | _=>true
theorem ax4:∀(n:Nat) (v:IV),au3 n v=true->Bnd 0 v:=by
 intro n
 induction n with
 | zero=>intro v h;cases h
 | succ n ih=>
  intro v h;have all:∀ {cs:List IV},cs.all (au3 n)=true->∀c∈cs,Bnd 0 c:=λh c hc=>ih c (zi.1 h c hc)
  cases v with
  | undef=>exact .undef
  | bool b=>exact .bool b
  | int k x=>exact .int k x
  | str s=>exact .str s
  | ae3=>exact .ae3
  | ptr id off=>cases h
  | ab8 cs=>exact .ab8 cs (all h)
  | aa1=>exact .aa1
  | ac6=>exact .ac6
  | af6=>exact .af6
  | slice a b c d=>cases h
  | aa3 es=>exact .aa3 es λe he=>all (zi.1 h e he)
  | ah7=>exact .ah7
  | map id=>cases h
  | al4 es=>exact .al4 es (λe he=>ih _ (by have:=zi.1 h e he;simp at this;exact this.1)) (λe he=>ih _ (by have:=zi.1 h e he;simp at this;exact this.2))
  | func f a b=>
   simp only[au3,qa] at h
   exact .func f a b (all h.1) (all h.2)
  | yield id=>cases h
  | ad7=>exact .ad7
  | iface t v=>exact .iface t v (ih v h)
  | ah2=>exact .ah2
  | agg cs=>exact .agg cs (all h)
  | tuple cs=>exact .tuple cs (all h)
  | ag6 a b c d=>cases h
  | ak5 a b c d e=>cases h
def el4 (E:Nat->IV)(σ:Store)(fr:Frm)(σ':Store)(fr':Frm):Prop :=
 ∀(ρ:Rho) (w:World),Sim E ρ w σ->∃ρd:Rho,Sim E ρd w σ'/\(∀n,Ext n ρ w ρd w)/\∀(N:Nat) (tmps:Array Value),FR ρ w N fr tmps->FR ρd w N fr' tmps
theorem el4.trans {σ'':Store}{fr fr' fr'':Frm}(h:el4 E σ fr σ' fr')(h':el4 E σ' fr' σ'' fr''):el4 E σ fr σ'' fr'':=λρ w hs=>
 let ⟨ρ1,a1,a2,a3⟩:=h ρ w hs;let ⟨ρ2,b1,b2,b3⟩:=h' ρ1 w a1
 ⟨ρ2,b1,λn=>(a2 n).trans (b2 n) (zr _),λN tmps hf=>b3 N tmps (a3 N tmps hf)⟩
theorem el4.refl (fr:Frm):el4 E σ fr σ fr:=λρ w hs=>⟨ρ,hs,λn=>Ext.refl _ _ _,λ_ _ h=>h⟩
theorem el4.of {S:Nat->Bool}{fr fr':Frm}(hf:∀t,fr'.get t=fr.get t\/Frz σ (λi=>S i=true) (fr.get t) (fr'.get t)):el4 E σ fr (σ.kills S) fr':=λρ w hs=>by
 obtain ⟨ρd,hs0,hxd,hvd⟩:=bm2 (S:=S) hs;refine ⟨ρd,hs0,hxd,λN tmps hfr=>⟨hfr.size,λt=>?_⟩⟩;rcases hf t with e|e
 ·rw[e];exact (hfr.get t).mono (hxd 0)
 ·exact hvd _ _ _ e (hfr.get t)
end Go.Id
namespace Go.Id
open Go
variable {P:Program} {E:Nat->IV} {σ σ':Store} {N n n0:Nat} {fr:Frm}
abbrev RD:=Nat->Nat->List IV->XSt->Option (IV×XSt)
where
 jc3 (r:IV->IV->Bool):List IV->List IV->Bool
  | [],[]=>true
  | a::x,b::y=>r a b&&jc3 r x y
  | _,_=>false
 sameLL (r:IV->IV->Bool):List (List IV)->List (List IV)->Bool
  | [],[]=>true
  | a::x,b::y=>jc3 r a b&&sameLL r x y
  | _,_=>false
variable {rd:RD} {Λ:Lam} {xs xs':XSt}
theorem gb7 {pf:List Nat}{an:Ann}{c:Code}{i:Nat}{x:IC}(h:bh3 P pf N an c=za (.block i x)):∃a,c=.block i a/\bh3 P pf N an a=za x:=by
 cases c with
 | block id a=>obtain ⟨_,h1,h⟩:=map_some h;cases h;exact ⟨a,rfl,h1⟩
 | scope a=>obtain ⟨_,_,h⟩:=map_some h;cases h
 | region id ops draw=>simp only[bh3] at h;split at h<;>first|(cases h;done)|(split at h<;>first|(cases h;done)|(split at h<;>cases h))
 | seq a b=>simp only[bh3] at h;split at h<;>cases h
 | cond c a b=>simp only[bh3] at h;split at h<;>cases h
 | loop a=>obtain ⟨_,_,h⟩:=map_some h;cases h
 | rangeFunc g ps assign body=>simp only[bh3] at h;split at h<;>first|(cases h;done)|(split at h<;>cases h)
 | _=>cases h
theorem gr9 {pf:List Nat}{an:Ann}{c:Code}{x:IC}(h:bh3 P pf N an c=za (.loop x)):∃a,c=.loop a/\bh3 P pf N an a=za x:=by
 cases c with
 | loop a=>obtain ⟨_,h1,h⟩:=map_some h;cases h;exact ⟨a,rfl,h1⟩
 | region id ops draw=>simp only[bh3] at h;split at h<;>first|(cases h;done)|(split at h<;>first|(cases h;done)|(split at h<;>cases h))
 | seq a b=>simp only[bh3] at h;split at h<;>cases h
 | cond c a b=>simp only[bh3] at h;split at h<;>cases h
 | block id a=>obtain ⟨_,_,h⟩:=map_some h;cases h
 | scope a=>obtain ⟨_,_,h⟩:=map_some h;cases h
 | rangeFunc g ps assign body=>simp only[bh3] at h;split at h<;>first|(cases h;done)|(split at h<;>cases h)
 | _=>cases h
theorem ai3 {i:Nat}{x:IC}{Q:Exit->Frm->Store->Prop}(h:RI P E N n0 x fr σ (by3 i Q)):RI P E N n0 (.block i x) fr σ Q:=by
 intro pf an c hc;obtain ⟨a,rfl,hx⟩:=gb7 hc;exact gm5 (h pf an a hx)
theorem ie3 {x:IC}{Q:Exit->Frm->Store->Prop}(I:Nat->Frm->Store->Prop)(m:Nat)(h:I m fr σ)(hI:∀m fr σ,I m fr σ->RI P E N n0 x fr σ (eu3 I m Q)):RI P E N n0 (.loop x) fr σ Q:=by
 intro pf an c hc;obtain ⟨a,rfl,hx⟩:=gr9 hc;exact ip9 I m h λm fr σ hi=>hI m fr σ hi pf an a hx
end Go.Id
namespace Go.Id
open Go
variable {P:Program} {E:Nat->IV} {σ σ':Store}
inductive BT (V:Type) where
 | e
 | n (k:Nat) (v:V) (l r:BT V)
def BT.get {V:Type}:BT V->Nat->Option V
 | .e,_=>zb
 | .n k v l r,i=>bif qd i k then za v else bif Nat.ble i k then l.get i else r.get i
abbrev FE:=Nat×IC×List IR
def FOK (P:Program)(f:Nat)(e:FE):Prop:=okF P f=true/\∃pf an,ir4 P f e.1 pf an e.2.1 e.2.2
theorem FOK.mk {f N:Nat}{pf:List Nat}{an:Ann}{ic:IC}{rs:List IR}(h:okF P f=true)(hf:ir4 P f N pf an ic rs):FOK P f (N,ic,rs):=⟨h,pf,an,hf⟩
instance instIX (n:Nat):OfNat IX n:=⟨.t n⟩
def oQ (d:Nat)(q:IQ):ae7:=⟨za d,zb,.q q⟩
def oM (d:Nat)(x:IX):ae7:=⟨za d,zb,.q (.mov x)⟩
def oK (d:Nat)(k:IK):ae7:=⟨za d,zb,k⟩
def gQ (d s:Nat)(w:Bool)(q:IQ):ae7:=⟨za d,za (s,w),.q q⟩
def gK (d s:Nat)(w:Bool)(k:IK):ae7:=⟨za d,za (s,w),k⟩
def oN (k:IK):ae7:=⟨zb,zb,k⟩
def cI (n:Int):IX:=.c (.int .i64 n)
def cB (b:Bool):IX:=.c (.bool b)
def zI (n:Int):IV:=.int .i64 n
def zU (n:Int):IV:=.int .u8 n
def dd2:IC->Ann
 | .reg id _ keep=>[(id,keep)]
 | .hw6 id _ _ keep=>[(id,keep)]
 | .hw9 id _ keep=>[(id,keep)]
 | .seq a b=>dd2 a++dd2 b
 | .cond _ a b=>dd2 a++dd2 b
 | .block _ a=>dd2 a
 | .loop a=>dd2 a
 | .bx5 _ _ a b=>dd2 a++dd2 b
 | .scope a=>dd2 a
 | _=>[]
theorem ae2 (pf:List Nat){f N:Nat}{fn:Func}{ic:IC}{rs:List IR}(h:P.funcs[f]? = za fn)(ho:okF P f=true:=by kernel_rfl)(hN:fn.ntmps=N:=by kernel_rfl)(hc:fn.body.bind (bh3 P pf N (dd2 ic))=za ic:=by kernel_rfl)(hr:fu4 P fn.results.toList=za rs:=by kernel_rfl):FOK P f (N,ic,rs):=
 .mk (pf:=pf) (an:=dd2 ic) ho (ac8 h hN hc hr)
end Go.Id
namespace Go.Id
open Go
variable {H:Type} {enc:TypeId×Value->H} {P:Program} {w w':World} {base:Nat} {sp:Nat->Bool} {held:Bool} {ρ:Rho} {E:Nat->IV}
structure VL (ρ:Rho) (w:World) (ivs:List IV) (cs:List Value):Prop where
 len:ivs.length=cs.length
 get:∀i,i<ivs.length->VR ρ w (ivs.getD i .undef) (cs.getD i undef)
def dvF (r:TypeId->DataW H->Option (List IV))(P:Program):List (TypeId×Nat)->List (DataW H)->Nat->Option (List IV)
 | [],[],_=>za []
 | f::fs,d::ds,off=>if f.2=off then (match r f.1 d with
  | some a=>if a.length=P.cellsOf f.1 then (match dvF r P fs ds (off+P.cellsOf f.1) with
   | some b=>za (a++b)
   | none=>zb) else zb
  | none=>zb) else zb
 | _,_,_=>zb
def dvS (r:DataW H->Option (List IV))(c:Nat):List (DataW H)->Option (List (List IV))
 | []=>za []
 | d::ds=>match r d with
  | some a=>if a.length=c then (match dvS r c ds with
   | some b=>za (a::b)
   | none=>zb) else zb
  | none=>zb
def dvE (r:DataW H->Option (List IV))(x:Lit×DataW H):IV×IV:=match x.1,r x.2 with
 | .string bs,za [v]=>(.str bs,v)
 | _,_=>(.undef,.undef)
def dd3:List IV->Bool
 | []=>true
 | .str a::r=>(r.all fun|.str b=>!(a==b)|_=>false)&&dd3 r
 | _::_=>false
def flat (P:Program)(e:TypeId):Bool:=match P.underlying e with
 | some .bool|some (.int _)|some .string|some (.slice _)|some (.pointer _)=>true
 | _=>false
def dv (P:Program):Nat->TypeId->DataW H->Option (List IV)
 | 0,_,_=>zb
 | m+1,t,d=>match P.underlying t,d with
  | some .bool,.lit (.bool b)=>za [.bool b]
  | some (.int _),.lit (.int k n)=>za [.int k n]
  | some .string,.lit (.string bs)=>za [.str bs]
  | some (.pointer _),.nil=>za [.ae3]
  | some (.pointer e),.ptr d=>match dv P m e d with
   | some (c::cs)=>za [.ab8 (c::cs)]
   | _=>zb
  | some (.slice _),.nil=>za [.aa3 []]
  | some (.slice e),.slice els _=>if P.cellsOf e=0 then zb else match dvS (dv P m e) (P.cellsOf e) els with
   | some es=>za [.aa3 es]
   | none=>zb
  | some (.struct fs),.agg ds=>match dvF (dv P m) P (fs.toList.map λf=>(f.type,f.offset)) ds 0 with
   | some ivs=>if ivs.length=P.cellsOf t then za ivs else zb
   | none=>zb
  | some (.array n e),.agg ds=>match dvF (dv P m) P ((List.range n).map λi=>(e,i*P.cellsOf e)) ds 0 with
   | some ivs=>if ivs.length=P.cellsOf t then za ivs else zb
   | none=>zb
  | some (.map k e),.map es=>match P.underlying k with
   | some .string=>if flat P e&&dd3 (es.map λx=>(dvE (dv P m e) x).1) then za [.al4 (es.map (dvE (dv P m e)))] else zb
   | _=>zb
  | _,_=>zb
theorem cu7 {v:IV}{r:Value}(h:VR ρ w v r):VL ρ w [v] [r]:=⟨rfl,λi hi=>by
 have h0:i=0:=by simpa using hi
 rw[h0];exact h⟩
theorem is1 {r:TypeId->DataW H->Option (List IV)} {rd:TypeId->List Value->DataW H->Prop} (hr:∀t cs d ivs,rd t cs d->r t d=za ivs->VL ρ w ivs cs) (cs:List Value) :
  ∀(fs:List (TypeId×Nat)) (ds:List (DataW H)) (off:Nat) (ivs:List IV),fs.length=ds.length ->
   (∀(i:Nat) (f:TypeId×Nat) (d:DataW H),fs[i]? = za f->ds[i]? = za d->rd f.1 ((cs.drop f.2).take (P.cellsOf f.1)) d)->dvF r P fs ds off=za ivs ->
   ∀i,i<ivs.length->off+i<cs.length/\VR ρ w (ivs.getD i .undef) (cs.getD (off+i) undef):=by
 intro fs
 induction fs with
 | nil=>
  intro ds off ivs hl _ h
  cases ds with
  | nil=>cases h;intro i hi;simp at hi
  | cons d ds=>simp at hl
 | cons f fs ih=>
  intro ds off ivs hl hrd h
  cases ds with
  | nil=>simp at hl
  | cons d ds=>
   simp only[dvF] at h;split at h
   ·rename_i hoff;split at h
    ·rename_i a ha;split at h
     ·rename_i hal;split at h
      ·rename_i b hb;cases h;have h0:=hr _ _ _ _ (hrd 0 f d rfl rfl) ha;have hl0:=h0.len;rw[hoff] at h0 hl0;simp only[List.length_take,List.length_drop] at hl0;intro i hi;by_cases hia:i<a.length
       ·have h1:=h0.get i hia;have hlt:off+i<cs.length:=om;refine ⟨hlt,?_⟩;have e1:(a++b).getD i .undef=a.getD i .undef:=by simp[zc,qk,hia]
        have e2:((cs.drop off).take (P.cellsOf f.1)).getD i undef=cs.getD (off+i) undef:=by
         have:i<P.cellsOf f.1:=om;simp[zc,List.getElem?_take,this,List.getElem?_drop]
        rw[e1,<- e2];exact h1
       ·have h1:=ih ds _ b (by simpa using hl) (λi f' d' hf hd=>hrd (i+1) f' d' (by simpa using hf) (by simpa using hd)) hb (i-a.length) (by simp at hi;omega);have e0:off+P.cellsOf f.1+(i-a.length)=off+i:=om;rw[e0] at h1;refine ⟨h1.1,?_⟩;have e1:(a++b).getD i .undef=b.getD (i-a.length) .undef:=by simp[zc,qk,hia]
        rw[e1];exact h1.2
      ·cases h
     ·cases h
    ·cases h
   ·cases h
theorem jb8 {r:DataW H->Option (List IV)}{c:Nat}:∀(ds:List (DataW H)) (es:List (List IV)),dvS r c ds=za es->es.length=ds.length/\∀i,i<es.length->(es.getD i []).length=c/\∃d,ds[i]? = za d/\r d=za (es.getD i []):=by
 intro ds
 induction ds with
 | nil=>intro es h;cases h;exact ⟨rfl,λi hi=>by simp at hi⟩
 | cons d ds ih=>
  intro es h;simp only[dvS] at h;split at h
  ·rename_i a ha;split at h
   ·rename_i hal;split at h
    ·rename_i b hb;cases h;obtain ⟨h1,h2⟩:=ih b hb;refine ⟨by simp[h1],λi hi=>?_⟩
     cases i with
     | zero=>exact ⟨hal,d,rfl,ha⟩
     | succ i=>
      obtain ⟨h3,d',h4,h5⟩:=h2 i (by simpa using hi);exact ⟨h3,d',h4,h5⟩
    ·cases h
   ·cases h
  ·cases h
theorem ew9 {es:List (IV×IV)}(h:dd3 (es.map (·.1))=true):da2 es:=by
 have:∀(l:List IV),dd3 l=true->l.Nodup/\∀v∈l,∃s,v=.str s:=by
  intro l
  induction l with
  | nil=>intro _;exact ⟨.nil,λ_ h=>by cases h⟩
  | cons v l ih=>
   intro h
   cases v with
   | str a=>
    simp only[dd3,qa] at h;obtain ⟨h1,h2⟩:=ih h.2;refine ⟨List.nodup_cons.2 ⟨λhm=>?_,h1⟩,λv hv=>?_⟩
    ·have:=zi.1 h.1 _ hm;simp at this
    ·rcases zl.1 hv with rfl|hv
     ·exact ⟨a,rfl⟩
     ·exact h2 v hv
   | _=>cases h
 obtain ⟨h1,h2⟩:=this _ h;refine ⟨h1,.str,λe he=>?_⟩;obtain ⟨s,hs⟩:=h2 e.1 (qg.2 ⟨e,he,rfl⟩);rw[hs];trivial
theorem bp7 {a:Addr}{v:Value}(h:w.cell? a=za v):a.spot=zb/\a.block<w.heap.size:=by
 unfold World.cell? at h;split at h
 ·rename_i c _ _ hb;split at h
  ·cases h
  ·rename_i hs;refine ⟨by simpa using hs,?_⟩;exact Nat.lt_of_not_le λhle=>by rw[zn hle] at hb;cases hb
 ·cases h
theorem gb8:∀ {l:List IV},dd3 l=true->∀v∈l,∃s,v=.str s:=by
 intro l
 induction l with
 | nil=>intro _ _ h;cases h
 | cons v l ih=>
  intro h
  cases v with
  | str a=>
   simp only[dd3,qa] at h;intro v hv;rcases zl.1 hv with rfl|hv
   ·exact ⟨a,rfl⟩
   ·exact ih h.2 v hv
  | _=>cases h
theorem jb9 {k:TypeId}{v:Value}{bs:List UInt8}(hk:P.underlying k=za .string)(h:keyOf P k v=za (.string bs)):v=.string ⟨bs.toArray⟩:=by
 unfold keyOf mapKey at h;rw[hk] at h
 cases v with
 | string s=>
  simp only at h;split at h
  ·cases h;congr 1
  ·cases h
 | _=>cases h
theorem gb9 {e:TypeId}{v:Value}(h:flat P e=true)(hf:v.formed P e=true):v.cells.toList=[v]:=by
 unfold flat at h
 cases v with
 | agg cs=>
  unfold Value.formed at hf
  split at h<;>simp_all
 | _=>rfl
theorem dd4 (hF:∀b,b<w.heap.size->FB ρ w b):∀(m n:Nat) (t:TypeId) (d:DataW H) (cs:List Value) (ps:List MemPlace) (ivs:List IV),
  DataW.trod enc P w base sp held n t cs=za (d,ps)->dv P m t d=za ivs->VL ρ w ivs cs:=by
 intro m
 induction m with
 | zero=>intro n t d cs ps ivs _ h;cases h
 | succ m ih=>
  intro n t d cs ps ivs h hd;unfold dv at hd;split at hd
  ·rename_i b hu;obtain ⟨b',rfl,hx⟩:=DataW.trod_bool hu h;cases hx;cases hd;exact cu7 (.bool _)
  ·rename_i k0 k n0 hu;obtain ⟨n',rfl,hx,_⟩:=DataW.trod_int hu h;cases hx;cases hd;exact cu7 (.int _ _)
  ·rename_i bs hu;obtain ⟨s,rfl,hx,_⟩:=DataW.trod_string hu h;cases hx;cases hd;have:(⟨s.data.toList.toArray⟩:ByteArray)=s:=by cases s;simp
   exact cu7 (by have:=VR.str (ρ:=ρ) (w:=w) s.data.toList;simpa using this)
  ·rename_i hu;cases hd;rcases DataW.trod_pointer hu h with ⟨rfl,_⟩|⟨a,cs',y,n',_,_,hx,_⟩
   ·exact cu7 .ae3
   ·cases hx
  ·rename_i e d' hu;rcases DataW.trod_pointer hu h with ⟨_,hx⟩|⟨a,cs',y,n',rfl,rfl,hx,hc,hy⟩
   ·cases hx
   ·cases hx;split at hd
    ·rename_i c0 cs0 hd0;cases hd;have hv:=ih n' e y.1 cs' y.2 (c0::cs0) hy hd0;obtain ⟨_,hl,hcell⟩:=World.cells?_some hc;have hlen:=hv.len;simp only[z9] at hlen;have h0:=hcell 0 om;rw[zf om] at h0;obtain ⟨h1,h2⟩:=bp7 h0;have ea:a.add 0=a:=rfl;rw[ea] at h1 h2;obtain ⟨b,o,s⟩:=a;simp only at h1;subst h1;refine cu7 (.ab8 (c0::cs0) b o (λj=>cs'.getD j undef) (hF b h2) (λj hj=>?_) (λj hj=>hv.get j hj));simp only[z9] at hj;have hj':=hcell j om;have ej:(⟨b,o,zb⟩:Addr).add j=⟨b,o+j,zb⟩:=by unfold Addr.add;by_cases hj0:j=0<;>simp[hj0]
     rw[ej] at hj';rw[hj',zc,zf om];rfl
    ·cases hd
  ·rename_i e hu;cases hd;rcases DataW.trod_slice hu h with ⟨rfl,_⟩|⟨a,len,cap,elems,rest,n',_,_,hx,_⟩
   ·exact cu7 .ci3
   ·cases hx
  ·rename_i e els rst hu;split at hd
   ·cases hd
   ·rename_i hc0;split at hd
    ·rename_i es hes;cases hd;rcases DataW.trod_slice hu h with ⟨rfl,hx⟩|⟨a,len,cap,elems,rest,n',rfl,rfl,hx,_,hlc,_,hel,hcell,_,_⟩
     ·cases hx
     ·cases hx;obtain ⟨g1,g2⟩:=jb8 _ _ hes;have hlen:es.length=len:=by rw[g1,List.length_map,hel]
      have key:∀i,i<es.length->∃ci p,w.cells? base (a.add (i*P.cellsOf e)) (P.cellsOf e)=za ci/\(es.getD i []).length=P.cellsOf e/\VL ρ w (es.getD i []) ci/\p=():=by
       intro i hi;obtain ⟨g3,d',g4,g5⟩:=g2 i hi;have hc:=hcell i om;rw[z1] at g4
       cases hei:elems[i]? with
       | none=>rw[hei] at g4;cases g4
       | some x=>
        rw[hei] at g4 hc;cases g4;obtain ⟨ci,hci,hx⟩:=Option.bind_eq_some_iff.1 hc;exact ⟨ci,(),hci,g3,ih n' e x.1 ci x.2 _ hx g5,rfl⟩
      have hF0:es≠[]->FB ρ w a.block/\a.spot=zb:=by
       intro hne;have h0:0<es.length:=List.length_pos_iff.2 hne;obtain ⟨ci,_,hci,g3,_,_⟩:=key 0 h0;obtain ⟨_,hl,hcc⟩:=World.cells?_some hci;have hcc0:=hcc 0 om;rw[zf om] at hcc0;have ea:(a.add (0*P.cellsOf e)).add 0=a:=by simp[Addr.add]
       rw[ea] at hcc0;obtain ⟨h1,h2⟩:=bp7 hcc0;exact ⟨hF _ h2,h1⟩
      have hcells:∀i,i<es.length->∀j,j<P.cellsOf e->∃v,w.cell? ⟨a.block,a.off+(i*P.cellsOf e+j),zb⟩=za v/\VR ρ w ((es.getD i []).getD j .undef) v:=by
       intro i hi j hj;obtain ⟨ci,_,hci,g3,g4,_⟩:=key i hi;obtain ⟨_,hl,hcc⟩:=World.cells?_some hci;have hcj:=hcc j hj;have hsp:=(hF0 (by intro h0;rw[h0] at hi;simp at hi)).2
       have ea:(a.add (i*P.cellsOf e)).add j=⟨a.block,a.off+(i*P.cellsOf e+j),zb⟩:=by
        obtain ⟨b,o,s⟩:=a;simp only at hsp;subst hsp;unfold Addr.add;by_cases h1:i*P.cellsOf e=0<;>by_cases h2:j=0<;>simp[h1,h2,Nat.add_assoc]
       rw[ea,zf om] at hcj;refine ⟨_,hcj,?_⟩;have:=g4.get j om;rw[zc (l:=ci),zf om] at this;exact this
      refine cu7 ?_;obtain ⟨b,o,s⟩:=a;rw[<- hlen];refine .aa3 es b o cap (P.cellsOf e) s (λi j=>(w.cell? ⟨b,o+(i*P.cellsOf e+j),zb⟩).getD undef) hF0 (λi hi=>(g2 i hi).1) (λi hi j hj=>?_) (λi hi j hj=>?_) om
      ·obtain ⟨v,h1,_⟩:=hcells i hi j hj;simp only at h1;rw[h1];rfl
      ·obtain ⟨v,h1,h2⟩:=hcells i hi j hj;simp only at h1;rw[h1];exact h2
    ·cases hd
  ·rename_i fs ds hu;split at hd
   ·rename_i ivs' hd';split at hd
    ·rename_i hil;cases hd;obtain ⟨xs,n',rfl,hx,hlen,hxl,hfi⟩:=DataW.trod_struct hu h;cases hx
     have hg:=is1 (P:=P) (rd:=λt cs d=>∃p,DataW.trod enc P w base sp held n' t cs=za (d,p)) (λt cs d ivs ⟨p,hp⟩ h=>ih n' t d cs p ivs hp h) cs _ _ 0 _ (by simp[hxl]) (λi f d hf hd=>by
      rw[z1] at hf hd
      cases hfi':fs.toList[i]? with
      | none=>rw[hfi'] at hf;cases hf
      | some f0=>
       rw[hfi'] at hf;cases hf;have:=hfi i f0 (by simpa using hfi')
       cases hxi:xs[i]? with
       | none=>rw[hxi] at hd;cases hd
       | some x=>rw[hxi] at hd this;cases hd;exact ⟨x.2,this⟩) hd'
     exact ⟨by rw[hil,hlen],λi hi=>by have:=(hg i hi).2;rwa [zj] at this⟩
    ·cases hd
   ·cases hd
  ·rename_i k e ds hu;split at hd
   ·rename_i ivs' hd';split at hd
    ·rename_i hil;cases hd;obtain ⟨xs,n',rfl,hx,hlen,hxl,hfi⟩:=DataW.trod_array hu h;cases hx
     have hg:=is1 (P:=P) (rd:=λt cs d=>∃p,DataW.trod enc P w base sp held n' t cs=za (d,p)) (λt cs d ivs ⟨p,hp⟩ h=>ih n' t d cs p ivs hp h) cs _ _ 0 _ (by simp[hxl]) (λi f d hf hd=>by
      rw[z1] at hf hd
      cases hfi':(List.range k)[i]? with
      | none=>rw[hfi'] at hf;cases hf
      | some f0=>
       rw[hfi'] at hf;cases hf;obtain ⟨hik,rfl⟩:=List.getElem?_eq_some_iff.1 hfi';simp only[List.length_range] at hik;have:=hfi i hik;simp only[List.getElem_range]
       cases hxi:xs[i]? with
       | none=>rw[hxi] at hd;cases hd
       | some x=>rw[hxi] at hd this;cases hd;exact ⟨x.2,this⟩) hd'
     exact ⟨by rw[hil,hlen],λi hi=>by have:=(hg i hi).2;rwa [zj] at this⟩
    ·cases hd
   ·cases hd
  ·rename_i k e es hu;split at hd
   ·rename_i hk;split at hd
    ·rename_i hfn;cases hd;simp only[qa] at hfn;obtain ⟨hfl,hnd⟩:=hfn;rcases WideElems.open_map hu h with ⟨_,hx⟩|⟨b,mes,clock,n',rfl,rfl,hb,_,F,hx⟩
     ·cases hx
     ·simp only[Prod.mk.injEq,DataW.map.injEq] at hx;obtain ⟨hx,_⟩:=hx;have hlt:b<w.heap.size:=Nat.lt_of_not_le λhle=>by rw[zn hle] at hb;cases hb
      let g:Lit×DataW H->IV×IV:=dvE (dv P m e);let L:=mes.toList.map (WideElems.rg P k (WideElems.elemAt enc P w base sp held n' e));have hp:L.Perm es:=by rw[hx];exact (WideShapes.sorted_perm L).symm
      have hpg:(L.map g).Perm (es.map g):=hp.map g;have hko:da2 (es.map g):=ew9 (by rw[List.map_map];exact hnd)
      have ent:∀i,i<mes.size->VR ρ w ((L.map g).getD i (.undef,.undef)).1 (mes.getD i default).key/\VR ρ w ((L.map g).getD i (.undef,.undef)).2 (mes.getD i default).val:=by
       intro i hi
       have hmem:mes.getD i default∈mes.toList:=by
        have:=ad3 (default:MapEntry) (l:=mes.toList) (i:=i) (by simpa using hi)
        simpa [zc,zd] using this
       obtain ⟨y,hy⟩:=F.reads _ hmem
       have e1:(L.map g).getD i (.undef,.undef)=g y:=by
        have:L[i]? = za y:=by
         simp only[L,z1];rw[show mes.toList[i]? = za (mes.getD i default) by simp[zd,hi]];exact congrArg za (WideElems.rg_of hy)
        simp[zc,this]
       rw[e1];have hyL:y∈L:=qg.2 ⟨_,hmem,WideElems.rg_of hy⟩;have hys:∃s,(g y).1=.str s:=gb8 hnd _ (qg.2 ⟨y,hp.mem_iff.1 hyL,rfl⟩);have hkey:=WideElems.rd_key hy;obtain ⟨z,hz,hyz⟩:=WideElems.rd_val hy;simp only[g,dvE] at hys ⊢;split at hys
       ·rename_i bs v hl hv;refine ⟨?_,?_⟩
        ·rw[hl] at hkey;rw[jb9 hk hkey];exact .str _
        ·generalize mes.getD i default=me at hz ⊢;unfold WideElems.elemAt at hz;split at hz
         ·rename_i hform;have hvl:=ih n' e z.1 _ z.2 [v] hz (by rw[<- hyz];exact hv);have hcl:=gb9 hfl hform;rw[hcl] at hvl;exact hvl.get 0 (by simp)
         ·cases hz
       ·obtain ⟨_,hys⟩:=hys;cases hys
      have hsz:(L.map g).length=mes.size:=by simp[L]
      obtain ⟨s1,s2,_⟩:=F.stamped;refine cu7 (.al4 (es.map g) (L.map g) b mes clock hpg hko (hF b hlt) hb hsz (λi hi=>(ent i om).1) (λi hi=>(ent i om).2) ?_ ?_)
      ·intro i hi;refine s1 _ ?_;have:=ad3 (default:MapEntry) (l:=mes.toList) (i:=i) (by simpa using hi)
       simpa [zc,zd] using this
      ·intro i j hij hj he;have:=(List.pairwise_iff_getElem.1 s2) i j (by simp;omega) (by simpa using hj) hij;simp only[List.getElem_map,Array.getElem_toList] at this;apply this;have hi:i<mes.size:=om
       simpa [zd,hi,hj] using he
    ·cases hd
   ·cases hd
  ·cases hd
def gc1 (l:List (Nat×List IV))(g:Nat):IV:=match l.lookup g with
 | some cs=>.ab8 cs
 | none=>.undef
theorem gs2 {laid:List (String×DataW Unit)}(hF:∀b,b<w.heap.size->FB ρ w b):∀(laid:List (String×DataW Unit)) (ps:List MemPlace),DataW.LaidVars P w laid ps->∀(name:String) (d:DataW Unit),(name,d)∈laid->∀(g:Nat) (t:TypeId) (m:Nat) (c:IV) (ivs:List IV),
  P.globalNamed name=za g->(P.globals[g]?).map (·.type)=za t->dv P m t d=za (c::ivs)->VR ρ w (.ab8 (c::ivs)) (.pointer (za ⟨g,0,zb⟩)):=by
 intro laid
 induction laid with
 | nil=>intro ps _ name d hm;cases hm
 | cons x r ih=>
  intro ps h name d hm g t m c ivs hg ht hd;obtain ⟨xn,xd⟩:=x;obtain ⟨g',t',cs,fuel,p,q,h1,h2,h3,h4,h5,_⟩:=h;rcases zl.1 hm with hm|hm
  ·cases hm;obtain rfl:=za.inj (h1.symm.trans hg);obtain rfl:=za.inj (h2.symm.trans ht);have hv:=dd4 hF m fuel _ d _ p _ h4 hd;have hc:=λi=>World.var?_cell h1 h3 i
   have hlen:=hv.len;simp only[z9,Array.length_toList] at hlen;have h0:=hc 0;rw[qf om] at h0;refine .ab8 (c::ivs) _ 0 (λj=>cs.getD j undef) (hF _ (bp7 h0).2) (λj hj=>?_) (λj hj=>?_)
   ·simp only[z9] at hj;rw[zj,hc j,qf om];simp[zd,show j<cs.size by omega]
   ·have:=hv.get j hj
    simpa [zc,zd] using this
  ·exact ih _ h5 name d hm g t m c ivs hg ht hd
def gi3:Rho:=⟨λ_=>.no,λ_=>False⟩
theorem cr2:∀b,b<w.heap.size->FB gi3 w b:=λb h=>⟨h,(λ_ _ h=>by cases h),λh=>h⟩
def kl1:Store:=⟨0,λ_=>zb⟩
theorem ie4 {laid:List (String×DataW Unit)}(h:laidMet P laid w)(l:List (Nat×List IV))
  (hl:∀x∈l,∃(name:String) (d:DataW Unit) (t:TypeId) (m:Nat) (c:IV) (ivs:List IV),x.2=c::ivs/\(name,d)∈laid/\P.globalNamed name=za x.1/\(P.globals[x.1]?).map (·.type)=za t/\dv P m t d=za (c::ivs)) :
  ∀g,VR gi3 w (gc1 l g) (.pointer (za ⟨g,0,zb⟩)):=by
 intro g;unfold gc1
 cases hg:l.lookup g with
 | none=>exact .undef _
 | some cs=>
  obtain ⟨ps,hps,_,_⟩:=h
  have hm:(g,cs)∈l:=by
   clear hl
   induction l with
   | nil=>cases hg
   | cons x l ih=>
    obtain ⟨a,b⟩:=x;simp only[List.lookup] at hg;split at hg
    ·rename_i hb;cases hg;have:g=a:=by simpa using hb
     rw[this];exact ql ..
    ·exact qj _ (ih hg)
  obtain ⟨name,d,t,m,c,ivs,h1,h2,h3,h4,h5⟩:=hl _ hm;simp only at h1 h3 h4;rw[h1];exact gs2 (laid:=laid) cr2 laid ps hps name d h2 g t m c ivs h3 h4 h5
theorem kw8 (h:∀g,VR gi3 w (E g) (.pointer (za ⟨g,0,zb⟩))):Sim E gi3 w kl1 :=
 ⟨(λ_ _ _ _ _ h=>by cases h),(λ_ _ _ h=>by cases h),(λ_ _ _ h=>by cases h),(λ_ h=>by cases h),(λ_ _=>rfl),(λ_ _=>rfl),h,(λ_ _ _ h=>by cases h),λ_ h=>h.elim⟩
theorem ie5 {f:FuncId}{args:List IV}{rargs:Array Value}{b:Bool}(h:PC P E f args (.bool b))(he:∀g,VR gi3 w (E g) (.pointer (za ⟨g,0,zb⟩)))(ha:CR gi3 w args rargs) :
  Calls P f rargs w λe w'=>e=.returned (.bool b)/\RowKit.Below w.heap.size w w':=by
 refine callsIn_wide.1 (CallsIn.mono (h kl1 gi3 w rargs (kw8 he) ha) ?_);rintro e w' ⟨v,r,ρ',σ',rfl,⟨rfl,rfl⟩,_,hv,hx⟩;cases hv;exact ⟨rfl,hx.os,hx.tape.1,hx.output,hx.size,λk hk=>hx.keep k (cr2 k hk).ub⟩
theorem ea9 {H:Type}{enc:TypeId×Value->H}{f:Func}{s:ChangeSpec}{apart fresh handsOn again:Bool}{W W':World}{args:Array Value}{v:Value}{ds gs:List (DataW H)}{before pa pv:List MemPlace}
  (hW:DataW.Whole enc P f.params.toList s.vars apart W args.toList ds gs before)
  (hres:∀(b:Nat) (sp:Nat->Bool) (hd:Bool),DataW.TrodAll enc P W' b sp hd f.resultTypes.toList (v.resultList f.resultTypes.size) (s.fn H (ds++gs)).results [])
  (hargs:∀sp:Nat->Bool,(∀p∈before,sp p.block=true)->DataW.TrodAll enc P W' 0 sp true f.params.toList args.toList (s.fn H (ds++gs)).args pa)
  (hvars:∀sp:Nat->Bool,(∀p∈before,sp p.block=true)->DataW.TrodVars enc P W' sp s.vars (s.fn H (ds++gs)).vars pv)
  (hps:before=pa++pv) (hb:RowKit.Below W.heap.size W W')
  (hok:∀(j:Nat) (t:TypeId) (r:Value),f.resultTypes[j]? = za t->(v.resultList f.resultTypes.size)[j]? = za r->Value.okWide P W' .any 0 t r) :
  s.post enc P f apart fresh handsOn again W args v W':=by
 have hlt:∀p∈before,p.block<W.heap.size:=λp hp=>hW.lt p hp
 have hold:∀p∈before,(λb=>decide (b<W.heap.size)) p.block=true:=λp hp=>by simpa using hlt p hp
 refine ⟨ds,gs,before,[],pa,pv,hW,hres _ _ _,hargs _ hold,hvars _ hold,World.keptBut_mono (λp hp=>⟨hp,?_⟩) (hb.frame (·∈before)),λ_=>?_⟩
 ·rw[hps,List.mem_append] at hp;exact Or.inr hp
 ·obtain ⟨_,_,_,_,_,hz,hn⟩:=hW;refine ⟨hok,_,_,([]++pa)++pv,⟨[]++pa,pv,ChangeShapes.trodAll_append (hargs _ (λ_ _=>rfl)) (hres _ _ _),hvars _ (λ_ _=>rfl),rfl,?_,?_⟩,?_⟩
  ·intro b off hp;have hin:MemPlace.cell b off∈before:=by rw[hps];simpa using hp
   rw[hb.frozen (hlt _ hin)];exact hz b off hin
  ·intro ha;have:=hn ha;rw[hps] at this
   simpa using this
  ·intro p hp _;rw[hps]
   simpa using hp
end Go.Id
namespace Go.Id
open Go
variable {P:Program} {E:Nat->IV}
def opsL:List (IV×IV):=[(.str [],.int .u8 0),(.str [60],.int .u8 1),(.str [60,61],.int .u8 3),(.str [61],.int .u8 2),(.str [62],.int .u8 4),(.str [62,61],.int .u8 6)]
def ez3 (op:Int):List UInt8:=if op=1 then [60] else if op=2 then [61] else if op=3 then [60,61] else if op=4 then [62] else if op=6 then [62,61] else []
def it5 (g:Nat):IC :=
(.seq
 (.reg 0 [⟨(za 2),zb,(.q (.mov (.c (.str []))))⟩] [0])
 (.seq
 (.seq
  (.reg 1 [⟨(za 5),zb,(.q (.load zb (.g g)))⟩,⟨(za 6),zb,(.be9 (.t 5))⟩] [0,6])
  (.block 0
  (.loop
   (.seq
   (.reg 2 [⟨(za 7),zb,(.ck7 (.t 6))⟩,⟨(za 8),zb,(.q (.ext 0 (.t 7)))⟩] [0,6,8])
   (.seq
    (.cond (.t 8)
    .skip
    (.exit 0))
    (.block 1
    (.seq
     (.reg 3 [⟨(za 9),zb,(.fu2 (.t 6))⟩,⟨(za 10),zb,(.q (.ext 0 (.t 9)))⟩,⟨(za 11),zb,(.q (.ext 1 (.t 9)))⟩,⟨(za 3),zb,(.q (.mov (.t 10)))⟩,⟨(za 4),zb,(.q (.mov (.t 11)))⟩] [0,3,4,6])
     (.seq
     (.reg 4 [⟨(za 12),zb,(.q (.mov (.t 4)))⟩,⟨(za 13),zb,(.q (.mov (.t 0)))⟩,⟨(za 14),zb,(.q (.bin .eql (.t 12) (.t 13)))⟩] [0,3,6,14])
     (.cond (.t 14)
      (.seq
      (.reg 5 [⟨(za 15),zb,(.q (.mov (.t 3)))⟩,⟨(za 2),zb,(.q (.mov (.t 15)))⟩] [2])
      .ret)
      .skip)))))))))
 (.seq
  (.reg 6 [⟨(za 2),zb,(.q (.mov (.c (.str []))))⟩] [2])
  .ret)))
theorem en3 {α:Type}{d:α}{e:α}:∀ {l:List α} {j:Nat},e∈l->e∈l.eraseIdx j\/e=l.getD j d:=by
 intro l
 induction l with
 | nil=>intro j h;cases h
 | cons x l ih=>
  intro j h
  cases j with
  | zero=>
   rcases zl.1 h with rfl|h
   ·exact .inr rfl
   ·exact .inl h
  | succ j=>
   rcases zl.1 h with rfl|h
   ·exact .inl (ql ..)
   ·rcases ih (j:=j) h with h|h
    ·exact .inl (qj _ h)
    ·exact .inr h
structure TxI (σ0:Store) (n:Int) (id:Nat) (m:Nat) (fr:Frm) (σ:Store):Prop where
 f0:fr.get 0=.int .u8 n
 f6:fr.get 6=.ptr id 0
 next:σ0.next<=σ.next
 low:∀i,i<σ0.next->σ.obj i=σ0.obj i
 lt:σ0.next<=id
 obj:∃left cur,σ.obj id=za (.as1 left cur)/\left.length=m/\(∀e∈left,e∈opsL)/\∀e∈opsL,e.2=.int .u8 n->e∈left
theorem ih9 {n:Int}{e:IV×IV}(h:e∈opsL)(hn:e.2=.int .u8 n):e.1=.str (ez3 n):=by
 simp only[opsL,zl,List.not_mem_nil,or_false] at h;rcases h with rfl|rfl|rfl|rfl|rfl|rfl<;>cases hn<;>rfl
theorem gw4 {n:Int}(h:∀e∈opsL,e.2≠.int .u8 n):ez3 n=[]:=by
 have h1:=h (.str [60],.int .u8 1) (by simp[opsL]);have h2:=h (.str [61],.int .u8 2) (by simp[opsL]);have h3:=h (.str [60,61],.int .u8 3) (by simp[opsL]);have h4:=h (.str [62],.int .u8 4) (by simp[opsL]);have h6:=h (.str [62,61],.int .u8 6) (by simp[opsL]);simp only[ne_eq,IV.int.injEq,true_and] at h1 h2 h3 h4 h6;simp[ez3,Ne.symm h1,Ne.symm h2,Ne.symm h3,Ne.symm h4,Ne.symm h6]
theorem jd7 {f g:Nat}{pf:List Nat}{an:Ann}{n:Int}(hf:ir4 P f 16 pf an (it5 g) [.t 2])(hg:E g=.ab8 [.al4 opsL]):PC P E f [.int .u8 n] (.str (ez3 n)):=by
 refine kg5 noT hf (qi rfl) λσ hb=>?_
 simp only[it5,dm3,dm4,ck8,bs9,dm5,ck9,dm6,cl1,fu8,jk2,fu5,fu6,dm7,cl2,dm8,cl3,cl4,bt1,dm9,w_q,cl5,fu9,fv1,cl6,fv2,cl8,bt2,cl7,dn1,dn2,dn3,cl9,bt3,fv3,dn4,fv4,dn5,cm1,cm2,dn6,fv5,fv6,fv7,fv8,fv9,fw1,fw2,fw3,fw4,fw5,dn7,fw6,dn8,fw7,dn9,cm3,do1,do5,fw8,jk5,jk6,fw9,fx1,fx2,fx3,fx4,fx5,fx6,fx7,fx8,fx9,do6,cm4,bt4,bi2,cm5,bt5,do2,do3,do4,cm6,jk3,jk4,bi4,bt9,cn8,cn9,co1,cn7,dp9,e_t,e_c,e_g,e_f,fy1,do7,fy2,fy3,fy4,ai7,fy5,do8,cm7,fy6,cm8,fy7,cm9,cn1,fy8,do9,fy9,dp1,fz1,fz2,fz3,fz4,dp2,dp3,ew1,ir7,ek9,ev9,cn2,cn3,dp4,dp5,cn4,cn5,jk7,bt6,dp6,dp7,dp8,bt7,cn6,bi3,bt8,bu1,co2,bu2,bu3,dq2,dq3,ew2,ew3,co3,co4,co5,co6,dq4,dq5,co7,bu4,fz5,fz6,fz7,fz8,fz9,ga1,ga2,ga3,ga4,ga5,ga6,ga7,ga8,dc8,dq6,dq7,dq8,dq9,dr1,dr2,dr3,dr4,dr5,dc9,bm1,co8,co9,cp1,dr6,dr7,dr8,dr9,ga9,gb1,ds2,gb2,cp3,cp4,cp5,gb5,bp6,ir8,dt1,cp6,cp7,bu5,bx6,ce1,gb3,ew4,bu6,gb4,ew5,bu7,bu8,cp8,cp9,cq1,cq2,bu9,cq3,cq4,bv1,bi5,bb9,bv2,cq5,bv3,ds4,ds5,ds6,cq6,bv4,cq7,cq8,bv5,bi6,bc1,bv6,cq9,bv7,ds7,ds8,ds9,zg,zh,z2,qb,zw,zk,zu,z5,z6,Frm.bs7,Frm.get_nil,aa8,aa5,decide_true,decide_false,zv,zt,zo,zm,zx,z3,z4,zy,zq,z8,z7,qc,qe,zj,zp,if_true,if_false,↓reduceIte,reduceCtorEq,true_and,and_true,hg];refine ir5 noT (TxI σ n σ.next) opsL.length ⟨rfl,rfl,?_,?_,zr _,opsL,zb,?_,rfl,λ_ h=>h,λ_ h _=>h⟩ ?_
 ·show σ.next<=σ.next+1;omega
 ·intro i hi;simp only[aa5];rw[if_neg om]
 ·simp only[aa5,if_true]
 ·rintro m fr s ⟨f0,f6,h1,h2,h3,left,cur,h4,h5,h6,h7⟩;have hm:bo6 s (.ptr σ.next 0)=za (σ.next,left):=by simp only[bo6,h4]
  simp only[dm3,dm4,ck8,bs9,dm5,ck9,dm6,cl1,fu8,jk2,fu5,fu6,dm7,cl2,dm8,cl3,cl4,bt1,dm9,w_q,cl5,fu9,fv1,cl6,fv2,cl8,bt2,cl7,dn1,dn2,dn3,cl9,bt3,fv3,dn4,fv4,dn5,cm1,cm2,dn6,fv5,fv6,fv7,fv8,fv9,fw1,fw2,fw3,fw4,fw5,dn7,fw6,dn8,fw7,dn9,cm3,do1,do5,fw8,jk5,jk6,fw9,fx1,fx2,fx3,fx4,fx5,fx6,fx7,fx8,fx9,do6,cm4,bt4,bi2,cm5,bt5,do2,do3,do4,cm6,jk3,jk4,bi4,bt9,cn8,cn9,co1,cn7,dp9,e_t,e_c,e_g,e_f,fy1,do7,fy2,fy3,fy4,ai7,fy5,do8,cm7,fy6,cm8,fy7,cm9,cn1,fy8,do9,fy9,dp1,fz1,fz2,fz3,fz4,dp2,dp3,ew1,ir7,ek9,ev9,cn2,cn3,dp4,dp5,cn4,cn5,jk7,bt6,dp6,dp7,dp8,bt7,cn6,bi3,bt8,bu1,co2,bu2,bu3,dq2,dq3,ew2,ew3,co3,co4,co5,co6,dq4,dq5,co7,bu4,fz5,fz6,fz7,fz8,fz9,ga1,ga2,ga3,ga4,ga5,ga6,ga7,ga8,dc8,dq6,dq7,dq8,dq9,dr1,dr2,dr3,dr4,dr5,dc9,bm1,co8,co9,cp1,dr6,dr7,dr8,dr9,ga9,gb1,ds2,gb2,cp3,cp4,cp5,gb5,bp6,ir8,dt1,cp6,cp7,bu5,bx6,ce1,gb3,ew4,bu6,gb4,ew5,bu7,bu8,cp8,cp9,cq1,cq2,bu9,cq3,cq4,bv1,bi5,bb9,bv2,cq5,bv3,ds4,ds5,ds6,cq6,bv4,cq7,cq8,bv5,bi6,bc1,bv6,cq9,bv7,ds7,ds8,ds9,zg,zh,z2,qb,zw,zk,zu,z5,z6,Frm.bs7,Frm.get_nil,aa8,aa5,decide_true,decide_false,zv,zt,zo,zm,zx,z3,z4,zy,zq,z8,z7,qc,qe,zj,zp,if_true,if_false,↓reduceIte,reduceCtorEq,true_and,and_true,f0,f6,hm];constructor
  ·intro h0;subst h0;have hno:∀e∈opsL,e.2≠.int .u8 n:=λe he hn=>by have:=h7 e he hn;cases this
   refine ⟨λi hi=>h2 i hi,h1,?_⟩;rw[gw4 hno];exact .keep _ (.str _)
  ·intro j hj;have hmem:left.getD j (.undef,.undef)∈left:=ad3 _ hj;have hops:=h6 _ hmem;have hment:∀c x,cw4 ⟨x,(s.put σ.next (.as1 (left.eraseIdx j) (za c))).obj⟩ (.ptr σ.next 0)=za (.tuple [c.1,c.2]):=λc x=>by simp only[cw4,aa5,if_true]
   generalize hc:left.getD j (.undef,.undef)=c at hmem hops ⊢
   obtain ⟨k,hk⟩:∃k,c.2=.int .u8 k:=by
    simp only[opsL,zl,List.not_mem_nil,or_false] at hops;rcases hops with rfl|rfl|rfl|rfl|rfl|rfl<;>exact ⟨_,rfl⟩
   simp only[hment,dm3,dm4,ck8,bs9,dm5,ck9,dm6,cl1,fu8,jk2,fu5,fu6,dm7,cl2,dm8,cl3,cl4,bt1,dm9,w_q,cl5,fu9,fv1,cl6,fv2,cl8,bt2,cl7,dn1,dn2,dn3,cl9,bt3,fv3,dn4,fv4,dn5,cm1,cm2,dn6,fv5,fv6,fv7,fv8,fv9,fw1,fw2,fw3,fw4,fw5,dn7,fw6,dn8,fw7,dn9,cm3,do1,do5,fw8,jk5,jk6,fw9,fx1,fx2,fx3,fx4,fx5,fx6,fx7,fx8,fx9,do6,cm4,bt4,bi2,cm5,bt5,do2,do3,do4,cm6,jk3,jk4,bi4,bt9,cn8,cn9,co1,cn7,dp9,e_t,e_c,e_g,e_f,fy1,do7,fy2,fy3,fy4,ai7,fy5,do8,cm7,fy6,cm8,fy7,cm9,cn1,fy8,do9,fy9,dp1,fz1,fz2,fz3,fz4,dp2,dp3,ew1,ir7,ek9,ev9,cn2,cn3,dp4,dp5,cn4,cn5,jk7,bt6,dp6,dp7,dp8,bt7,cn6,bi3,bt8,bu1,co2,bu2,bu3,dq2,dq3,ew2,ew3,co3,co4,co5,co6,dq4,dq5,co7,bu4,fz5,fz6,fz7,fz8,fz9,ga1,ga2,ga3,ga4,ga5,ga6,ga7,ga8,dc8,dq6,dq7,dq8,dq9,dr1,dr2,dr3,dr4,dr5,dc9,bm1,co8,co9,cp1,dr6,dr7,dr8,dr9,ga9,gb1,ds2,gb2,cp3,cp4,cp5,gb5,bp6,ir8,dt1,cp6,cp7,bu5,bx6,ce1,gb3,ew4,bu6,gb4,ew5,bu7,bu8,cp8,cp9,cq1,cq2,bu9,cq3,cq4,bv1,bi5,bb9,bv2,cq5,bv3,ds4,ds5,ds6,cq6,bv4,cq7,cq8,bv5,bi6,bc1,bv6,cq9,bv7,ds7,ds8,ds9,zg,zh,z2,qb,zw,zk,zu,z5,z6,Frm.bs7,Frm.get_nil,aa8,aa5,decide_true,decide_false,zv,zt,zo,zm,zx,z3,z4,zy,zq,z8,z7,qc,qe,zj,zp,if_true,if_false,↓reduceIte,reduceCtorEq,true_and,and_true,hk];by_cases hkn:k=n
   ·subst hkn;simp only[dm3,dm4,ck8,bs9,dm5,ck9,dm6,cl1,fu8,jk2,fu5,fu6,dm7,cl2,dm8,cl3,cl4,bt1,dm9,w_q,cl5,fu9,fv1,cl6,fv2,cl8,bt2,cl7,dn1,dn2,dn3,cl9,bt3,fv3,dn4,fv4,dn5,cm1,cm2,dn6,fv5,fv6,fv7,fv8,fv9,fw1,fw2,fw3,fw4,fw5,dn7,fw6,dn8,fw7,dn9,cm3,do1,do5,fw8,jk5,jk6,fw9,fx1,fx2,fx3,fx4,fx5,fx6,fx7,fx8,fx9,do6,cm4,bt4,bi2,cm5,bt5,do2,do3,do4,cm6,jk3,jk4,bi4,bt9,cn8,cn9,co1,cn7,dp9,e_t,e_c,e_g,e_f,fy1,do7,fy2,fy3,fy4,ai7,fy5,do8,cm7,fy6,cm8,fy7,cm9,cn1,fy8,do9,fy9,dp1,fz1,fz2,fz3,fz4,dp2,dp3,ew1,ir7,ek9,ev9,cn2,cn3,dp4,dp5,cn4,cn5,jk7,bt6,dp6,dp7,dp8,bt7,cn6,bi3,bt8,bu1,co2,bu2,bu3,dq2,dq3,ew2,ew3,co3,co4,co5,co6,dq4,dq5,co7,bu4,fz5,fz6,fz7,fz8,fz9,ga1,ga2,ga3,ga4,ga5,ga6,ga7,ga8,dc8,dq6,dq7,dq8,dq9,dr1,dr2,dr3,dr4,dr5,dc9,bm1,co8,co9,cp1,dr6,dr7,dr8,dr9,ga9,gb1,ds2,gb2,cp3,cp4,cp5,gb5,bp6,ir8,dt1,cp6,cp7,bu5,bx6,ce1,gb3,ew4,bu6,gb4,ew5,bu7,bu8,cp8,cp9,cq1,cq2,bu9,cq3,cq4,bv1,bi5,bb9,bv2,cq5,bv3,ds4,ds5,ds6,cq6,bv4,cq7,cq8,bv5,bi6,bc1,bv6,cq9,bv7,ds7,ds8,ds9,zg,zh,z2,qb,zw,zk,zu,z5,z6,Frm.bs7,Frm.get_nil,aa8,aa5,decide_true,decide_false,zv,zt,zo,zm,zx,z3,z4,zy,zq,z8,z7,qc,qe,zj,zp,if_true,if_false,↓reduceIte,reduceCtorEq,true_and,and_true];refine ⟨λi hi=>by rw[if_neg om];exact h2 i hi,h1,?_⟩;rw[ih9 hops hk];exact .keep _ (.str _)
   ·simp only[dm3,dm4,ck8,bs9,dm5,ck9,dm6,cl1,fu8,jk2,fu5,fu6,dm7,cl2,dm8,cl3,cl4,bt1,dm9,w_q,cl5,fu9,fv1,cl6,fv2,cl8,bt2,cl7,dn1,dn2,dn3,cl9,bt3,fv3,dn4,fv4,dn5,cm1,cm2,dn6,fv5,fv6,fv7,fv8,fv9,fw1,fw2,fw3,fw4,fw5,dn7,fw6,dn8,fw7,dn9,cm3,do1,do5,fw8,jk5,jk6,fw9,fx1,fx2,fx3,fx4,fx5,fx6,fx7,fx8,fx9,do6,cm4,bt4,bi2,cm5,bt5,do2,do3,do4,cm6,jk3,jk4,bi4,bt9,cn8,cn9,co1,cn7,dp9,e_t,e_c,e_g,e_f,fy1,do7,fy2,fy3,fy4,ai7,fy5,do8,cm7,fy6,cm8,fy7,cm9,cn1,fy8,do9,fy9,dp1,fz1,fz2,fz3,fz4,dp2,dp3,ew1,ir7,ek9,ev9,cn2,cn3,dp4,dp5,cn4,cn5,jk7,bt6,dp6,dp7,dp8,bt7,cn6,bi3,bt8,bu1,co2,bu2,bu3,dq2,dq3,ew2,ew3,co3,co4,co5,co6,dq4,dq5,co7,bu4,fz5,fz6,fz7,fz8,fz9,ga1,ga2,ga3,ga4,ga5,ga6,ga7,ga8,dc8,dq6,dq7,dq8,dq9,dr1,dr2,dr3,dr4,dr5,dc9,bm1,co8,co9,cp1,dr6,dr7,dr8,dr9,ga9,gb1,ds2,gb2,cp3,cp4,cp5,gb5,bp6,ir8,dt1,cp6,cp7,bu5,bx6,ce1,gb3,ew4,bu6,gb4,ew5,bu7,bu8,cp8,cp9,cq1,cq2,bu9,cq3,cq4,bv1,bi5,bb9,bv2,cq5,bv3,ds4,ds5,ds6,cq6,bv4,cq7,cq8,bv5,bi6,bc1,bv6,cq9,bv7,ds7,ds8,ds9,zg,zh,z2,qb,zw,zk,zu,z5,z6,Frm.bs7,Frm.get_nil,aa8,aa5,decide_true,decide_false,zv,zt,zo,zm,zx,z3,z4,zy,zq,z8,z7,qc,qe,zj,zp,if_true,if_false,↓reduceIte,reduceCtorEq,true_and,and_true,hkn];refine ⟨left.length-1,om,rfl,rfl,h1,λi hi=>?_,zr _,left.eraseIdx j,za c,?_,?_,λe he=>h6 e (List.mem_of_mem_eraseIdx he),λe he hn=>?_⟩
    ·simp only[aa5];rw[if_neg om];exact h2 i hi
    ·simp only[aa5,if_true]
    ·rw[List.length_eraseIdx_of_lt hj]
    ·have h8:=h7 e he hn;rcases en3 (d:=(IV.undef,IV.undef)) (j:=j) h8 with h9|h9
     ·exact h9
     ·rw[h9] at hn;rw[hc,hk] at hn;cases hn;exact absurd rfl hkn
end Go.Id
