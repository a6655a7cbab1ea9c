/- A function compiled,whole: its code and its results. Conditions: none; over any program. -/
import Derived.Test.YthjhfdodeghbpaaGreatDoorFwI
import Derived.WideKeyElems2
import Derived.OpenShut
import Derived.FnData
import Derived.Below
import Derived.ChangeSame
import Derived.CallsIn
import Derived.ChangeArms
import Derived.MakeChecks
open Option renaming some→za,none→zb
open List renaming getD_eq_getElem?_getD→zc,getElem?_eq_getElem→zf,getElem?_cons_zero→zg,getElem?_cons_succ→zh,all_eq_true→zi,drop_succ_cons→zk,mem_cons→zl,cons_append→zp,nil_append→zt,head?_cons→zu,append_nil→zv,drop_zero→zw,getElem?_map→z1,all_cons→z2,length_cons→z9,all_nil→qb,mem_map→qg,mem_cons_of_mem→qj,getElem?_append→qk,mem_cons_self→ql
open Array renaming getD_eq_getD_getElem?→zd,getElem?_eq_none→zo,getElem?_eq_getElem→qf
open Nat renaming not_lt_zero→ze,zero_add→zj,le_refl→zn,succ_ne_zero→zq,reduceEqDiff→zr,lt_of_lt_of_le→zz,reduceMul→z7,reduceAdd→z8,reduceLT→qc,beq→qd,add_zero→qe,lt_or_ge→qh,le_of_ble_eq_true→qi
open Bool renaming false_eq_true→zm,xor_false→zx,not_false→zy,xor_true→z3,not_true→z4,and_true→z5,and_self→z6,and_eq_true→qa
open Classical renaming propDecidable→z0
set_option linter.all false
private theorem om{P:Prop}(h:P:=by omega):P:=h
private theorem sm{P:Prop}(h:P:=by simp):P:=h
namespace Go.Id
open Go
variable {P:Program} {w w' w'':World} {ρ ρ' ρ'':Rho} {E:Nat->IV} {σ σ':Store} {N n n':Nat} {fr:Frm} {a:Act} {pf:List Nat}
inductive IR where
 | t (n:Nat)
 | cell (agg:Option Nat) (n:Nat)
 deriving Inhabited
def kw8 (P:Program):ResultVar->Option IR
 | .tmp t=>za (.t t)
 | .cell ad t=>match aq5 P t with
  | some agg=>za (.cell agg ad)
  | none=>zb
def ex4 (P:Program):List ResultVar->Option (List IR)
 | []=>za []
 | r::rs=>match kw8 P r,ex4 P rs with
  | some x,za xs=>za (x::xs)
  | _,_=>zb
def irV (σ:Store)(fr:Frm):IR->Option IV
 | .t n=>za (fr.get n)
 | .cell agg n=>ay8 σ agg (fr.get n)
def irL (σ:Store)(fr:Frm):List IR->Option (List IV)
 | []=>za []
 | r::rs=>match irV σ fr r,irL σ fr rs with
  | some v,za vs=>za (v::vs)
  | _,_=>zb
def iz3:∀(c:List ResultVar) (b:List IR),ex4 P c=za b->ii8 P σ fr c=irL σ fr b:=by
 intro c
 induction c with
 | nil=>intro b h;cases h;rfl
 | cons r c ih=>
  intro b h;simp only[ex4] at h;split at h
  .rename_i x xs d f;cases h
   have g:kl8 P σ fr r=irV σ fr x:=by
    cases r with
    | tmp t=>cases d;rfl
    | cell ad t=>
     simp only[kw8] at d;split at d
     .rename_i i e;cases d;simp[kl8,irV,e]
     .cases d
   simp only[ii8,irL,g,ih _ f];cases irV σ fr x<;>cases irL σ fr xs<;>rfl
  .cases h
def iz4 (P:Program)(f N:Nat)(pf:List Nat)(an:Ann)(ic:IC)(irs:List IR):Prop :=
 ∃fn,P.funcs[f]? = za fn/\fn.ntmps=N/\fn.body.bind (bh9 P pf N an)=za ic/\ex4 P fn.results.toList=za irs
def ji8 {f:Nat}{c:Func}{an:Ann}{d:IC}{b:List IR}(h:P.funcs[f]? = za c)(e:c.ntmps=N)(hc:c.body.bind (bh9 P pf N an)=za d)(hr:ex4 P c.results.toList=za b):iz4 P f N pf an d b :=
 ⟨c,h,e,hc,hr⟩
def kw9 (irs:List IR)(Qc:IV->Store->Prop):Exit->Frm->Store->Prop
 | .normal,fr,σ|.ret,fr,σ=>∃vs,irL σ fr irs=za vs/\Qc (fx1 vs) σ
 | _,_,_=>False
def lb8 {f:Nat}{an:Ann}{g:IC}{b:List IR}{args:List IV}{j:IV->Store->Prop}(hf:iz4 P f N pf an g b)(o:args.length<=N)
  (h:wpI P E N σ.next g (bm7 args 0) σ (kw9 b j)):C P E f args σ j:=by
 have⟨t,s,r,d,p⟩:=hf
 cases i:t.body with
 | none=>rw[i] at d;cases d
 | some c=>
  rw[i] at d;refine jz9 s i r o ((bp7 g _ _ _ h pf an c d).mono ?_);intro e fr' σ' q;cases e<;>first|(have⟨vs,m,k⟩:=q;exact ⟨vs,by rw[iz3 _ _ p];exact m,k⟩)|exact q
end Go.Id
namespace Go.Id
open Go
def Frm.get_nil (t:Nat):Frm.get [] t=.undef:=by unfold Frm.get;simp
def Frm.bt2 (t s:Nat)(v:IV)(fr:Frm):Frm.get ((t,v)::fr) s=if s=t then v else Frm.get fr s:=Frm.ci8 fr t s v
universe u
variable {P:Program} {E:Nat->IV} {σ σ':Store} {N n n0:Nat} {fr:Frm} {a:Act} {pf:List Nat}
abbrev PT:=Nat->List IV->Option IV
abbrev CT:=Nat->List IV->Store->Option (IV->Store->Prop)
structure TOK (P:Program) (E:Nat->IV) (pt:PT) (ct:CT):Prop where
 p:∀f args v,pt f args=za v->PC P E f args v
 c:∀f args σ Q,ct f args σ=za Q->okF P f=true/\C P E f args σ Q
def noP:PT:=λ_ _=>zb
def noC:CT:=λ_ _ _=>zb
def noT:TOK P E noP noC:=⟨(λ_ _ _ h=>by cases h),(λ_ _ _ _ h=>by cases h)⟩
def fx6 {f:Nat}{args:List IV}:noP f args=zb:=by unfold noP;exact Eq.trans rfl rfl
def fx7 {f:Nat}{args:List IV}:noC f args σ=zb:=by unfold noC;exact Eq.trans rfl rfl
def bt3 {α:Type}:Option α->(α->Prop)->Prop
 | some v,K=>K v
 | none,_=>False
def ji9:IV->(Bool->Prop)->Prop
 | .bool b,K=>K b
 | _,_=>False
def id3 (v:IV)(want:Bool)(A B:Prop):Prop :=
 match ii5 v want with
 | some true=>A
 | some false=>B
 | none=>False
def el9 {v:IV}{b:Bool}{A B:Prop}(h:id3 v b A B):∃c,ii5 v b=za c/\if c=true then A else B:=by
 unfold id3 at h;split at h
 .rename_i d;exact ⟨true,d,h⟩
 .rename_i d;exact ⟨false,d,h⟩
 .exact h.elim
def ao2 {b:Type}{o:Option b}{K:b->Prop}(h:bt3 o K):∃v,o=za v/\K v:=by
 cases o with
 | none=>exact h.elim
 | some v=>exact ⟨v,rfl,h⟩
def fx8 {o:IV}{K:Bool->Prop}(h:ji9 o K):∃b,o=.bool b/\K b:=by
 cases o<;>first|exact ⟨_,rfl,h⟩|exact h.elim
def dc7 (P:Program)(E:Nat->IV)(o:Option (IV->Store->Prop))(f:Nat)(args:List IV)(σ:Store)(K:IV->Store->Prop):Prop :=
 match o with
 | some Q=>∀v s,Q v s->σ.next<=s.next/\K v s
 | none=>∃Q,(okF P f=true/\C P E f args σ Q)/\∀v s,Q v s->σ.next<=s.next/\K v s
def gv1 (P:Program)(E:Nat->IV)(x:IV)(args:List IV)(σ:Store)(K:IV->Store->Prop):Prop:=∃v,PCV P E x args v/\K v σ
def ij8 (P:Program)(E:Nat->IV)(o:Option IV)(f:Nat)(args:List IV)(σ:Store)(K:IV->Store->Prop):Prop :=
 match o with
 | some v=>K v σ
 | none=>∃v,PC P E f args v/\K v σ
def opT (pt:PT)(ct:CT)(P:Program)(E:Nat->IV)(op:IK)(id:Nat)(fr:Frm)(σ:Store)(K:IV->Store->Prop):Prop :=
 match op with
 | .q q=>bt3 (evq E fr σ q) λv=>K v σ
 | .alloc z=>K (.ptr id 0) (σ.put id (.cells z))
 | .box x=>(x.ev E fr).cs.all IV.leaf=true/\K (.ptr id 0) (σ.put id (.cells (x.ev E fr).cs))
 | .bsl esz n z parts=>bt3 (au8 (rep z n) (parts.map λp=>(p.1,p.2.1,p.2.2.ev E fr))) λout=>K (.slice id 0 n esz) (σ.put id (.row out))
 | .store sz x y=>bt3 (ar5 σ sz (x.ev E fr) (y.ev E fr)) λσ'=>K .undef σ'
 | .bq1 x=>match x.ev E fr with
  | .str s=>K (.ptr id 0) (σ.put id (.bh7 s 0))
  | _=>False
 | .dj8 x=>bt3 (bp5 σ (x.ev E fr)) λr=>K r.1 r.2
 | .dc4=>K (.map id) (σ.put id (.map []))
 | .gl8 tag x k v=>bt3 (ap3 σ tag (x.ev E fr) (k.ev E fr) (v.ev E fr)) λσ'=>K .undef σ'
 | .app esz s x=>bt3 (bb4 σ id esz (s.ev E fr) (x.ev E fr)) λr=>K r.1 r.2
 | .call f args=>dc7 P E (ct f (args.map (·.ev E fr)) σ) f (args.map (·.ev E fr)) σ K
 | .ay6 x args=>gv1 P E (x.ev E fr) (args.map (·.ev E fr)) σ K
 | .bo9 f args=>ij8 P E (pt f (args.map (·.ev E fr))) f (args.map (·.ev E fr)) σ K
 | .dj9 x args=>match x.ev E fr with
  | .func (.func f) first cap=>dc7 P E (ct f (first++args.map (·.ev E fr)++cap) σ) f (first++args.map (·.ev E fr)++cap) σ K
  | .yield i=>∃Q,CV P E (.yield i) (args.map (·.ev E fr)) σ Q/\∀v σ',Q v σ'->σ.next<=σ'.next/\K v σ'
  | _=>False
 | .eb1 esz n z parts=>bt3 (au8 (rep z n) (parts.map λp=>(p.1,p.2.1,p.2.2.ev E fr))) λout=>K (.aa2 (chunk esz n out)) σ
 | .el4 x=>(x.ev E fr).cs.all IV.leaf=true/\K (.ab5 (x.ev E fr).cs) σ
 | .bo5 x=>match x.ev E fr with
  | .am2 es=>K (.ptr id 0) (σ.put id (.as9 es zb))
  | _=>False
 | .dc5 x=>bt3 (bp6 σ (x.ev E fr)) λr=>(r.2=[]->K (.tuple [.bool false]) σ) /\
   ∀j,j<r.2.length->K (.tuple [.bool true,(r.2.getD j (.undef,.undef)).1,(r.2.getD j (.undef,.undef)).2]) (σ.put r.1 (.as9 (r.2.eraseIdx j) (za (r.2.getD j (.undef,.undef)))))
 | .gu4 x=>bt3 (cw4 σ (x.ev E fr)) λv=>K v σ
 | .dn3 esz z x=>bt3 (db4 (x.ev E fr)) λn=>K (.slice id 0 n esz) (σ.put id (.row (rep z n)))
 | .clr esz z x=>bt3 (gq9 σ esz z (x.ev E fr)) λσ'=>σ'.next=σ.next/\K .undef σ'
 | .st k xs=>bt3 (stI k id σ (xs.map (·.ev E fr))) λr=>K r.1 r.2
def dn4 {e:PT}{d:CT}(g:TOK P E e d){f:Nat}{args:List IV}{K:IV->Store->Prop}(h:dc7 P E (d f args σ) f args σ K):∃Q,(okF P f=true/\C P E f args σ Q)/\∀v s,Q v s->σ.next<=s.next/\K v s:=by
 cases b:d f args σ with
 | none=>rw[b] at h;exact h
 | some Q=>rw[b] at h;exact ⟨Q,g.c _ _ _ Q b,h⟩
def ce1 {g:PT}{o:CT}(m:TOK P E g o){op:IK}{id:Nat}{K:IV->Store->Prop}(h:opT g o P E op id fr σ K):opR P E op id fr σ K:=by
 cases op with
 | q q=>exact ao2 h
 | alloc z=>exact h
 | box x=>exact h
 | bsl e n z ps=>exact ao2 h
 | store e x y=>exact ao2 h
 | app e s x=>exact ao2 h
 | dc4=>exact h
 | bq1 x=>
  simp only[opT] at h;split at h
  .rename_i s b;exact ⟨s,b,h⟩
  .exact h.elim
 | dj8 x=>exact ao2 h
 | gl8 t x y z=>exact ao2 h
 | call f xs=>
  have⟨Q,d,c⟩:=dn4 m h
  exact ⟨Q,d.2,c⟩
 | ay6 x xs=>exact h
 | bo9 f xs=>
  simp only[opT] at h
  cases j:g f (xs.map (·.ev E fr)) with
  | none=>rw[j] at h;exact h
  | some v=>rw[j] at h;exact ⟨v,m.p _ _ _ j,h⟩
 | dj9 x xs=>
  simp only[opT] at h;split at h
  .rename_i f first cap b
   have⟨Q,d,c⟩:=dn4 m h;refine ⟨Q,?_,c⟩;rw[b];exact d
  .rename_i i b;rw[<- b] at h;exact h
  .exact h.elim
 | eb1 e n z ps=>exact ao2 h
 | el4 x=>exact h
 | bo5 x=>
  simp only[opT] at h;split at h
  .rename_i s b;exact ⟨s,b,h⟩
  .exact h.elim
 | dc5 x=>
  have⟨⟨i,l⟩,d,c⟩:=ao2 h
  exact ⟨i,l,d,c⟩
 | gu4 x=>exact ao2 h
 | dn3 e z x=>exact ao2 h
 | clr e z x=>exact ao2 h
 | st k xs=>exact ao2 h
def ce2 (pt:PT) (ct:CT) (P:Program) (E:Nat->IV):List af1->Nat->Frm->Store->(Frm->Store->Prop)->Prop
 | [],_,fr,σ,K=>K fr σ
 | o::rest,id,fr,σ,K=>
  match o.guard with
  | none=>opT pt ct P E o.op id fr σ λv σ'=>ce2 pt ct P E rest (if o.op.lays then id+1 else id) (fr.ba3 o.dst v) σ' K
  | some (s,want)=>id3 (fr.get s) want (opT pt ct P E o.op id fr σ λv σ'=>ce2 pt ct P E rest (if o.op.lays then id+1 else id) (fr.ba3 o.dst v) σ' K)
    (ce2 pt ct P E rest (if o.op.lays then id+1 else id) (fr.ba3 o.dst skV) σ K)
def ex5 {e:PT}{i:CT}(f:TOK P E e i):∀(ops:List af1) (id:Nat) (fr:Frm) (σ:Store) (K:Frm->Store->Prop),ce2 e i P E ops id fr σ K->cd6 P E ops id fr σ K:=by
 intro ops
 induction ops with
 | nil=>intro id fr σ K h;exact h
 | cons o os ih=>
  intro id fr σ K h;have⟨d,g,op⟩:=o
  cases g with
  | none=>
   simp only[ce2,cd6] at h ⊢
   exact ⟨true,rfl,bb9 (λv s k=>ih _ _ _ _ k) (ce1 f h)⟩
  | some p=>
   have⟨s,c⟩:=p;simp only[ce2,cd6] at h ⊢;have⟨b,j,h⟩:=el9 h;refine ⟨b,j,?_⟩
   cases b with
   | true=>
    rw[if_pos rfl] at h ⊢
    exact bb9 (λv s k=>ih _ _ _ _ k) (ce1 f h)
   | false=>
    rw[if_neg sm] at h ⊢;exact ih _ _ _ _ h
def bz9 (E:Nat->IV)(fr:Frm)(σ:Store):IK->Prop
 | .q (.load _ x)=>match x.ev E fr with
  | .ab5 _=>True
  | .ptr i _=>match σ.obj i with
   | some (.cells _)=>True
   | _=>False
  | _=>False
 | _=>True
def dn5 {op:IK}(h:bz9 E fr σ op):bi1 E fr σ op:=by
 cases op with
 | q q=>
  cases q with
  | load ag x=>
   simp only[bz9,bi1] at h ⊢;cases c:x.ev E fr<;>rw[c] at h<;>simp only at h ⊢;rename_i i off
   cases b:σ.obj i with
   | none=>rw[b] at h;exact h.elim
   | some ob=>
    rw[b] at h
    cases ob<;>first|exact ⟨_,rfl⟩|exact h.elim
  | _=>trivial
 | _=>trivial
def bq2 (pt:PT) (ct:CT) (P:Program) (E:Nat->IV) (B:Bool):List af1->Nat->Frm->Store->(Frm->Store->Prop)->Prop
 | [],_,fr,σ,K=>K fr σ
 | o::rest,id,fr,σ,K=>
  match o.guard with
  | none=>(B=true->bz9 E fr σ o.op)/\opT pt ct P E o.op id fr σ λv σ'=>bq2 pt ct P E B rest (id+1) (fr.ba3 o.dst v) σ' K
  | some (s,want)=>id3 (fr.get s) want ((B=true->bz9 E fr σ o.op)/\opT pt ct P E o.op id fr σ λv σ'=>bq2 pt ct P E B rest (id+1) (fr.ba3 o.dst v) σ' K)
    (bq2 pt ct P E B rest (id+1) (fr.ba3 o.dst skV) σ K)
def ex6 {pt:PT}{ct:CT}(hT:TOK P E pt ct){B:Bool}{base:Nat}:∀(ops:List af1) (i:Nat) (fr:Frm) (σ:Store) (K:Frm->Store->Prop),bq2 pt ct P E B ops (base+i) fr σ K->bi2 P E B (fw4 base i ops) fr σ K:=by
 intro ops
 induction ops with
 | nil=>intro i fr σ K h;exact h
 | cons o os ih=>
  intro i fr σ K h;have⟨d,g,op⟩:=o
  cases g with
  | none=>
   simp only[bq2] at h
   exact ⟨true,rfl,bb9 (λv s k=>ih _ _ _ _ k) (ce1 hT h.2),λhb=>dn5 (h.1 hb)⟩
  | some p=>
   have⟨s,want⟩:=p;simp only[bq2] at h;have⟨act,ha,h⟩:=el9 h;refine ⟨act,ha,?_⟩
   cases act with
   | true=>exact ⟨bb9 (λv s k=>ih _ _ _ _ k) (ce1 hT h.2),λhb=>dn5 (h.1 hb)⟩
   | false=>exact ih _ _ _ _ h
def wpT (pt:PT)(ct:CT)(P:Program)(E:Nat->IV)(N n0:Nat):IC->Frm->Store->(Exit->Frm->Store->Prop)->Prop
 | .skip,fr,σ,Q=>Q .normal fr σ
 | .reg _ ops keep,fr,σ,Q=>ce2 pt ct P E ops σ.next fr ⟨σ.next+cd7 ops,σ.obj⟩ (λfr' σ'=>Q .normal (fr'.keep keep) σ')
 | .ib9 _ ops B keep,fr,σ,Q=>bq2 pt ct P E B ops σ.next fr ⟨σ.next+ops.length,σ.obj⟩ (λfr' σ'=>Q .normal (fr'.keep keep) σ')
 | .iy5 _ ops keep,fr,σ,Q=>fw7 P E (kw5 σ.next ops) [] fr { σ with next:=σ.next+ops.length } (λfr' σ'=>Q .normal (fr'.keep keep) σ')
 | .seq a b,fr,σ,Q=>wpT pt ct P E N n0 a fr σ (λe fr' σ'=>match e with|.normal=>wpT pt ct P E N n0 b fr' σ' Q|e=>Q e fr' σ')
 | .cond x a b,fr,σ,Q=>ji9 (x.ev E fr) λt=>if t=true then wpT pt ct P E N n0 a fr σ Q else wpT pt ct P E N n0 b fr σ Q
 | .block id a,fr,σ,Q=>wpT pt ct P E N n0 a fr σ (by2 id Q)
 | .loop a,fr,σ,Q=>RI P E N n0 (.loop a) fr σ Q
 | .exit id,fr,σ,Q=>Q (.exit id) fr σ
 | .ret,fr,σ,Q=>Q .ret fr σ
 | .bz6 g ps y a,fr,σ,Q=>RI P E N n0 (.bz6 g ps y a) fr σ Q
 | .scope a,fr,σ,Q=>wpT pt ct P E N n0 a fr σ (gr2 Q)
def ce3:∀(u:IC) (fr:Frm) (σ:Store) (Q Q':Exit->Frm->Store->Prop),(∀e f s,Q e f s->Q' e f s)->wpI P E N n0 u fr σ Q->wpI P E N n0 u fr σ Q':=by
 have r:∀(ops:List af1) (id:Nat) (fr:Frm) (σ:Store) (K p:Frm->Store->Prop),(∀f s,K f s->p f s)->cd6 P E ops id fr σ K->cd6 P E ops id fr σ p:=by
  intro ops
  induction ops with
  | nil=>intro id fr σ K p m h;exact m _ _ h
  | cons o os ih=>
   intro id fr σ K p m h;simp only[cd6] at h ⊢;have⟨j,A,h⟩:=h;refine ⟨j,A,?_⟩
   cases j with
   | true=>
    rw[if_pos rfl] at h ⊢
    exact bb9 (λv s k=>ih _ _ _ _ _ m k) h
   | false=>
    rw[if_neg sm] at h ⊢;exact ih _ _ _ _ _ m h
 have q:∀(d:List Item) (B:Bool) (fr:Frm) (σ:Store) (K p:Frm->Store->Prop),(∀f s,K f s->p f s)->bi2 P E B d fr σ K->bi2 P E B d fr σ p:=by
  intro d
  induction d with
  | nil=>intro B fr σ K p m h;exact m _ _ h
  | cons it d ih=>
   intro B fr σ K p m h;have⟨i,o,id⟩:=it;have⟨j,A,z⟩:=h;refine ⟨j,A,?_⟩
   cases j with
   | true=>exact ⟨bb9 (λv s k=>ih _ _ _ _ _ m k) z.1,z.2⟩
   | false=>exact ih _ _ _ _ _ m z
 intro u
 induction u with
 | skip=>intro fr σ Q Q' c h;exact c _ _ _ h
 | reg id ops keep=>intro fr σ Q Q' c h;exact r _ _ _ _ _ _ (λf s k=>c _ _ _ k) h
 | ib9 id ops B keep=>intro fr σ Q Q' c h;exact q _ _ _ _ _ _ (λf s k=>c _ _ _ k) h
 | iy5 id ops keep=>intro fr σ Q Q' c h;exact fw8 _ _ _ _ (λf s k=>c _ _ _ k) h
 | seq x y ihx ihy=>
  intro fr σ Q Q' c h;refine ihx _ _ _ _ ?_ h;intro e f s k
  cases e with
  | normal=>exact ihy _ _ _ _ c k
  | _=>exact c _ _ _ k
 | cond x a b iha ihb=>
  intro fr σ Q Q' c h;have⟨t,D,h⟩:=h;refine ⟨t,D,?_⟩
  cases t with
  | true=>exact iha _ _ _ _ c h
  | false=>exact ihb _ _ _ _ c h
 | block id x ih=>
  intro fr σ Q Q' c h;refine ih _ _ _ _ ?_ h;intro e f s k
  cases e with
  | exit i=>simp only[by2] at k ⊢;split<;>rename_i hi<;>simp only[hi,if_true,if_false] at k<;>exact c _ _ _ k
  | _=>exact c _ _ _ k
 | scope x ih=>
  intro fr σ Q Q' c h;refine ih _ _ _ _ ?_ h;intro e f s k
  cases e with
  | goto l=>exact k
  | _=>exact c _ _ _ k
 | loop x ih=>intro fr σ Q Q' c h;exact ak9 h c
 | exit id=>intro fr σ Q Q' c h;exact c _ _ _ h
 | bz6 g ps y x ihy ih=>intro fr σ Q Q' c h;exact ak9 h c
 | ret=>intro fr σ Q Q' c h;exact c _ _ _ h
def bj2 {d:PT}{i:CT}(j:TOK P E d i):∀(c:IC) (fr:Frm) (σ:Store) (Q:Exit->Frm->Store->Prop),wpT d i P E N n0 c fr σ Q->wpI P E N n0 c fr σ Q:=by
 intro c
 induction c with
 | skip=>intro fr σ Q h;exact h
 | reg id ops keep=>intro fr σ Q h;exact ex5 j _ _ _ _ _ h
 | ib9 id ops B keep=>intro fr σ Q h;exact ex6 j _ 0 _ _ _ h
 | iy5 id ops keep=>intro fr σ Q h;exact h
 | seq x y ihx ihy=>
  intro fr σ Q h;have o:=ihx _ _ _ (show wpT d i P E N n0 x fr σ _ from h);refine ce3 x fr σ _ (λe fr' σ'=>match e with|.normal=>wpI P E N n0 y fr' σ' Q|e=>Q e fr' σ') ?_ o;intro e f s k
  cases e with
  | normal=>exact ihy _ _ _ k
  | _=>exact k
 | cond x a b iha ihb=>
  intro fr σ Q h;have⟨t,m,h⟩:=fx8 h;refine ⟨t,m,?_⟩
  cases t with
  | true=>exact iha _ _ _ h
  | false=>exact ihb _ _ _ h
 | block id x ih=>intro fr σ Q h;exact ih _ _ _ h
 | scope x ih=>intro fr σ Q h;exact ih _ _ _ h
 | loop x ih=>intro fr σ Q h;exact h
 | exit id=>intro fr σ Q h;exact h
 | ret=>intro fr σ Q h;exact h
 | bz6 g ps y x ihy ih=>intro fr σ Q h;exact h
def gv2 (irs:List IR)(Qc:IV->Store->Prop):Exit->Frm->Store->Prop
 | .normal,fr,σ|.ret,fr,σ=>bt3 (irL σ fr irs) λvs=>Qc (fx1 vs) σ
 | _,_,_=>False
def dn6 {b:List IR}{c:IV->Store->Prop}{e:Exit}(h:gv2 b c e fr σ):kw9 b c e fr σ:=by
 cases e<;>first|exact ao2 h|exact h
def C_T {c:PT}{e:CT}(j:TOK P E c e){f:Nat}{an:Ann}{d:IC}{b:List IR}{args:List IV}{g:IV->Store->Prop}(hf:iz4 P f N pf an d b)(i:args.length<=N)
  (h:wpT c e P E N σ.next d (bm7 args 0) σ (gv2 b g)):C P E f args σ g :=
 lb8 hf i (ce3 _ _ _ _ _ (λ_ _ _ k=>dn6 k) (bj2 j _ _ _ _ h))
def lb9 {pt:PT}{ct:CT}(hT:TOK P E pt ct){f:Nat}{an:Ann}{ic:IC}{irs:List IR}{args:List IV}{v:IV}(hf:iz4 P f N pf an ic irs)(hl:args.length<=N)
  (h:∀σ,wpT pt ct P E N σ.next ic (bm7 args 0) σ (gv2 irs λv' σ'=>v'=v/\σ'=σ)):PC P E f args v :=
 λσ=>C_T hT hf hl (h σ)
def iz5 {b:PT}{c:CT}(d:TOK P E b c){x:IC}{Q:Exit->Frm->Store->Prop}(I:Nat->Frm->Store->Prop)(m:Nat)(h:I m fr σ)(e:∀m fr σ,I m fr σ->wpT b c P E N n0 x fr σ (ew3 I m Q)):RI P E N n0 (.loop x) fr σ Q :=
 gr3 I m h λm fr σ hi=>bj2 d _ _ _ _ (e m fr σ hi)
def nr {c:Sort u}{a b:c}(h:a=b):a=b:=h
def jj1 (o:Option IV)(σ:Store)(K:IV->Store->Prop):Prop:=bt3 o λv=>K v σ
def ju2 (o:Option Store)(K:IV->Store->Prop):Prop:=bt3 o λs=>K .undef s
def ka3 (o:Option (IV×Store))(K:IV->Store->Prop):Prop:=bt3 o λr=>K r.1 r.2
def ka4 (v:IV)(σ:Store):IV->Store->Prop:=λv' σ'=>v'=v/\σ'=σ
def kx1 (o:Option (List IV))(id n esz:Nat)(σ:Store)(K:IV->Store->Prop):Prop:=bt3 o λout=>K (.slice id 0 n esz) (σ.put id (.row out))
def gv3 (ct:CT)(P:Program)(E:Nat->IV)(x:IV)(args:List IV)(σ:Store)(K:IV->Store->Prop):Prop:=match x with
 | .func (.func f) first cap=>dc7 P E (ct f (first++args++cap) σ) f (first++args++cap) σ K
 | .yield i=>∃Q,CV P E (.yield i) args σ Q/\∀v σ',Q v σ'->σ.next<=σ'.next/\K v σ'
 | _=>False
def ij9 (pt:PT)(ct:CT)(P:Program)(E:Nat->IV)(rest:List af1)(id:Nat)(d:Option Nat)(fr:Frm)(K:Frm->Store->Prop):IV->Store->Prop:=λv σ'=>ce2 pt ct P E rest id (fr.ba3 d v) σ' K
def ex8 (pt:PT)(ct:CT)(P:Program)(E:Nat->IV)(B:Bool)(rest:List af1)(id:Nat)(d:Option Nat)(fr:Frm)(K:Frm->Store->Prop):IV->Store->Prop:=λv σ'=>bq2 pt ct P E B rest id (fr.ba3 d v) σ' K
def jj2 (ks:List Nat)(Q:Exit->Frm->Store->Prop):Frm->Store->Prop:=λfr σ=>Q .normal (fr.keep ks) σ
def ju3 (pt:PT)(ct:CT)(P:Program)(E:Nat->IV)(v:IV)(want:Bool)(op:IK)(id:Nat)(fr:Frm)(σ:Store)(K:IV->Store->Prop):Prop:=id3 v want (opT pt ct P E op id fr σ K) (K skV σ)
def gl9 (pt:PT)(ct:CT)(P:Program)(E:Nat->IV)(B:Bool)(v:IV)(want:Bool)(op:IK)(id:Nat)(fr:Frm)(σ:Store)(K:IV->Store->Prop):Prop:=id3 v want ((B=true->bz9 E fr σ op)/\opT pt ct P E op id fr σ K) (K skV σ)
def jj3 (pt:PT)(ct:CT)(P:Program)(E:Nat->IV)(N n0:Nat)(v:IV)(a b:IC)(fr:Frm)(σ:Store)(Q:Exit->Frm->Store->Prop):Prop:=ji9 v λt=>if t=true then wpT pt ct P E N n0 a fr σ Q else wpT pt ct P E N n0 b fr σ Q
def kl9 (pt:PT)(ct:CT)(P:Program)(E:Nat->IV)(N n0:Nat)(b:IC)(Q:Exit->Frm->Store->Prop):Exit->Frm->Store->Prop:=λe fr' σ'=>match e with
 | .normal=>wpT pt ct P E N n0 b fr' σ' Q
 | e=>Q e fr' σ'
variable {pt:PT} {ct:CT} {id want:Nat} {K:IV->Store->Prop} {Kf:Frm->Store->Prop} {Q:Exit->Frm->Store->Prop} {v:IV} {c:Prop} [Decidable c]
def dn7 {b:Type}(v:b)(K:b->Prop):bt3 (za v) K=K v:=nr rfl
def dn8 (v:IV):jj1 (za v) σ K=K v σ:=nr rfl
def ck7 (v:IV):jj1 (if c then za v else zb) σ K=(c/\K v σ):=by by_cases h:c<;>simp[h,jj1,bt3]
def bt4 (v:IV):jj1 (if c then zb else za v) σ K=(¬c/\K v σ):=by by_cases h:c<;>simp[h,jj1,bt3]
def dn9:ju2 (za σ) K=K .undef σ:=nr rfl
def ck8:ju2 (if c then za σ else zb) K=(c/\K .undef σ):=by by_cases h:c<;>simp[h,ju2,bt3]
def do1 (v:IV):ka3 (za (v,σ)) K=K v σ:=nr rfl
def ck9 (v:IV):ka3 (if c then za (v,σ) else zb) K=(c/\K v σ):=by by_cases h:c<;>simp[h,ka3,bt3]
def fx9 {f:Nat}{args:List IV}(v:IV):dc7 P E (za (ka4 v σ')) f args σ K=(σ.next<=σ'.next/\K v σ'):=propext ⟨λh=>h v σ' ⟨rfl,rfl⟩,λh b s' ⟨e1,e2⟩=>by subst e1;subst e2;exact h⟩
def ju4 {f:Nat}{args:List IV}(v:IV):ij8 P E (za v) f args σ K=K v σ:=nr rfl
def aa8 {f:Nat}{args:List IV}{v:IV}(h:PC P E f args v)(b:K v σ):ij8 P E zb f args σ K:=⟨v,h,b⟩
def ak7 {f:Nat}{args:List IV}{b:IV->Store->Prop}(d:okF P f=true)(h:C P E f args σ b)(e:∀v s,b v s->σ.next<=s.next/\K v s):dc7 P E zb f args σ K:=⟨b,⟨d,h⟩,e⟩
def do2 {n esz:Nat}(b:List IV):kx1 (za b) id n esz σ K=K (.slice id 0 n esz) (σ.put id (.row b)):=nr rfl
def cl1 (f:Nat)(first cap args:List IV):gv3 ct P E (.func (.func f) first cap) args σ K=dc7 P E (ct f (first++args++cap) σ) f (first++args++cap) σ K:=nr rfl
def do3 {b:List af1}{d:Nat}(v:IV):ij9 pt ct P E b id (za d) fr Kf v σ=ce2 pt ct P E b id ((d,v)::fr) σ Kf:=nr rfl
def cl2 {b:List af1}(v:IV):ij9 pt ct P E b id zb fr Kf v σ=ce2 pt ct P E b id fr σ Kf:=nr rfl
def cl3 {B:Bool}{b:List af1}{d:Nat}(v:IV):ex8 pt ct P E B b id (za d) fr Kf v σ=bq2 pt ct P E B b id ((d,v)::fr) σ Kf:=nr rfl
def bt5 {B:Bool}{b:List af1}(v:IV):ex8 pt ct P E B b id zb fr Kf v σ=bq2 pt ct P E B b id fr σ Kf:=nr rfl
def do4 {ks:List Nat}:jj2 ks Q fr σ=Q .normal (fr.keep ks) σ:=nr rfl
def w_q {q:IQ}:opT pt ct P E (.q q) id fr σ K=jj1 (evq E fr σ q) σ K:=nr rfl
def cl4 {z:List IV}:opT pt ct P E (.alloc z) id fr σ K=K (.ptr id 0) (σ.put id (.cells z)):=nr rfl
def fy1 {x:IX}:opT pt ct P E (.box x) id fr σ K=((x.ev E fr).cs.all IV.leaf=true/\K (.ptr id 0) (σ.put id (.cells (x.ev E fr).cs))):=nr rfl
def fy2 {esz n:Nat}{z:List IV}{ps:List (Nat×Nat×IX)}:opT pt ct P E (.bsl esz n z ps) id fr σ K=kx1 (au8 (rep z n) (ps.map λp=>(p.1,p.2.1,p.2.2.ev E fr))) id n esz σ K:=nr rfl
def cl5 {b:Nat}{x y:IX}:opT pt ct P E (.store b x y) id fr σ K=ju2 (ar5 σ b (x.ev E fr) (y.ev E fr)) K:=nr rfl
def kx2 (v:IV)(id:Nat)(σ:Store)(K:IV->Store->Prop):Prop:=match v with
 | .str s=>K (.ptr id 0) (σ.put id (.bh7 s 0))
 | _=>False
def do5 {s:List UInt8}:kx2 (.str s) id σ K=K (.ptr id 0) (σ.put id (.bh7 s 0)):=nr rfl
def bt6 {x:IX}:opT pt ct P E (.bq1 x) id fr σ K=kx2 (x.ev E fr) id σ K:=nr rfl
def cl6 {x:IX}:opT pt ct P E (.dj8 x) id fr σ K=ka3 (bp5 σ (x.ev E fr)) K:=nr rfl
def cl7:opT pt ct P E .dc4 id fr σ K=K (.map id) (σ.put id (.map [])):=nr rfl
def do6 {b:Nat}{x k y:IX}:opT pt ct P E (.gl8 b x k y) id fr σ K=ju2 (ap3 σ b (x.ev E fr) (k.ev E fr) (y.ev E fr)) K:=nr rfl
def fy3 {esz:Nat}{s x:IX}:opT pt ct P E (.app esz s x) id fr σ K=ka3 (bb4 σ id esz (s.ev E fr) (x.ev E fr)) K:=nr rfl
def do7 {f:Nat}{args:List IX}:opT pt ct P E (.call f args) id fr σ K=dc7 P E (ct f (args.map (·.ev E fr)) σ) f (args.map (·.ev E fr)) σ K:=nr rfl
def cl8 {f:Nat}{args:List IX}:opT pt ct P E (.bo9 f args) id fr σ K=ij8 P E (pt f (args.map (·.ev E fr))) f (args.map (·.ev E fr)) σ K:=nr rfl
def ik1 {x:IX}{args:List IX}:opT pt ct P E (.ay6 x args) id fr σ K=gv1 P E (x.ev E fr) (args.map (·.ev E fr)) σ K:=nr rfl
def gv4 {f:Nat}{first cap args:List IV}{v:IV}(b:okF P f=true)(h:PC P E f (first++args++cap) v)(d:K v σ):gv1 P E (.func (.func f) first cap) args σ K:=⟨v,⟨f,first,cap,rfl,b,h⟩,d⟩
def bt7 {x:IX}{args:List IX}:opT pt ct P E (.dj9 x args) id fr σ K=gv3 ct P E (x.ev E fr) (args.map (·.ev E fr)) σ K:=nr rfl
def fy4:ce2 pt ct P E [] id fr σ Kf=Kf fr σ:=nr rfl
def do8 {d:Option Nat}{op:IK}{b:List af1}:ce2 pt ct P E (⟨d,zb,op⟩::b) id fr σ Kf=opT pt ct P E op id fr σ (ij9 pt ct P E b (if op.lays then id+1 else id) d fr Kf):=nr rfl
def fy5 {d:Option Nat}{op:IK}{b:List af1}{s:Nat}{want:Bool}:ce2 pt ct P E (⟨d,za (s,want),op⟩::b) id fr σ Kf=ju3 pt ct P E (fr.get s) want op id fr σ (ij9 pt ct P E b (if op.lays then id+1 else id) d fr Kf):=nr rfl
def do9 {B:Bool}:bq2 pt ct P E B [] id fr σ Kf=Kf fr σ:=nr rfl
def cl9 {d:Option Nat}{op:IK}{b:List af1}:bq2 pt ct P E false (⟨d,zb,op⟩::b) id fr σ Kf=opT pt ct P E op id fr σ (ex8 pt ct P E false b (id+1) d fr Kf):=by
 have:bq2 pt ct P E false (⟨d,zb,op⟩::b) id fr σ Kf=((false=true->bz9 E fr σ op)/\opT pt ct P E op id fr σ (ex8 pt ct P E false b (id+1) d fr Kf)):=nr rfl;rw[this];simp
def cm1 {d:Option Nat}{op:IK}{b:List af1}:bq2 pt ct P E true (⟨d,zb,op⟩::b) id fr σ Kf=(bz9 E fr σ op/\opT pt ct P E op id fr σ (ex8 pt ct P E true b (id+1) d fr Kf)):=by
 have:bq2 pt ct P E true (⟨d,zb,op⟩::b) id fr σ Kf=((true=true->bz9 E fr σ op)/\opT pt ct P E op id fr σ (ex8 pt ct P E true b (id+1) d fr Kf)):=nr rfl;rw[this];simp
def dp1 {B:Bool}{d:Option Nat}{op:IK}{b:List af1}{s:Nat}{want:Bool}:bq2 pt ct P E B (⟨d,za (s,want),op⟩::b) id fr σ Kf=gl9 pt ct P E B (fr.get s) want op id fr σ (ex8 pt ct P E B b (id+1) d fr Kf):=nr rfl
def fy6 {op:IK}:ju3 pt ct P E (.bool true) true op id fr σ K=opT pt ct P E op id fr σ K:=nr rfl
def fy7 {op:IK}:ju3 pt ct P E (.bool false) false op id fr σ K=opT pt ct P E op id fr σ K:=nr rfl
def fy8 {op:IK}:ju3 pt ct P E (.bool true) false op id fr σ K=K skV σ:=nr rfl
def fy9 {op:IK}:ju3 pt ct P E (.bool false) true op id fr σ K=K skV σ:=nr rfl
def fz1 {op:IK}:gl9 pt ct P E false (.bool true) true op id fr σ K=opT pt ct P E op id fr σ K:=by simp[gl9,id3,ii5]
def fz2 {op:IK}:gl9 pt ct P E false (.bool false) false op id fr σ K=opT pt ct P E op id fr σ K:=by simp[gl9,id3,ii5]
def fz3 {B:Bool}{op:IK}:gl9 pt ct P E B (.bool true) false op id fr σ K=K skV σ:=nr rfl
def fz4 {B:Bool}{op:IK}:gl9 pt ct P E B (.bool false) true op id fr σ K=K skV σ:=nr rfl
def fz5 {op:IK}:gl9 pt ct P E true (.bool true) true op id fr σ K=(bz9 E fr σ op/\opT pt ct P E op id fr σ K):=by simp[gl9,id3,ii5]
def fz6 {op:IK}:gl9 pt ct P E true (.bool false) false op id fr σ K=(bz9 E fr σ op/\opT pt ct P E op id fr σ K):=by simp[gl9,id3,ii5]
def ju5 {op:IK}{want:Bool}:ju3 pt ct P E skV want op id fr σ K=K skV σ:=nr rfl
def ju6 {B want:Bool}{op:IK}:gl9 pt ct P E B skV want op id fr σ K=K skV σ:=nr rfl
def dp2:wpT pt ct P E N n0 .skip fr σ Q=Q .normal fr σ:=nr rfl
def fz7 {i:Nat}{ops:List af1}{ks:List Nat}:wpT pt ct P E N n0 (.reg i ops ks) fr σ Q=ce2 pt ct P E ops σ.next fr ⟨σ.next+cd7 ops,σ.obj⟩ (jj2 ks Q):=nr rfl
def dp3 {i:Nat}{ops:List af1}{B:Bool}{ks:List Nat}:wpT pt ct P E N n0 (.ib9 i ops B ks) fr σ Q=bq2 pt ct P E B ops σ.next fr ⟨σ.next+ops.length,σ.obj⟩ (jj2 ks Q):=nr rfl
def fz8 {x y:IC}:wpT pt ct P E N n0 (.seq x y) fr σ Q=wpT pt ct P E N n0 x fr σ (kl9 pt ct P E N n0 y Q):=nr rfl
def dp4 {i:IX}{x y:IC}:wpT pt ct P E N n0 (.cond i x y) fr σ Q=jj3 pt ct P E N n0 (i.ev E fr) x y fr σ Q:=nr rfl
def cm2 {i:Nat}{x:IC}:wpT pt ct P E N n0 (.block i x) fr σ Q=wpT pt ct P E N n0 x fr σ (by2 i Q):=nr rfl
def dp5 {x:IC}:wpT pt ct P E N n0 (.loop x) fr σ Q=RI P E N n0 (.loop x) fr σ Q:=nr rfl
def cm3 {g:IX}{ps:List Nat}{x y:IC}:wpT pt ct P E N n0 (.bz6 g ps y x) fr σ Q=RI P E N n0 (.bz6 g ps y x) fr σ Q:=nr rfl
def gv5 (v:IV)(id:Nat)(σ:Store)(K:IV->Store->Prop):Prop:=match v with
 | .am2 es=>K (.ptr id 0) (σ.put id (.as9 es zb))
 | _=>False
def iz6 (o:Option (Nat×List (IV×IV)))(σ:Store)(K:IV->Store->Prop):Prop:=bt3 o λr=>(r.2=[]->K (.tuple [.bool false]) σ) /\
   ∀j,j<r.2.length->K (.tuple [.bool true,(r.2.getD j (.undef,.undef)).1,(r.2.getD j (.undef,.undef)).2]) (σ.put r.1 (.as9 (r.2.eraseIdx j) (za (r.2.getD j (.undef,.undef)))))
def bt8 {x:IX}:opT pt ct P E (.bo5 x) id fr σ K=gv5 (x.ev E fr) id σ K:=nr rfl
def bj3 {es:List (IV×IV)}:gv5 (.am2 es) id σ K=K (.ptr id 0) (σ.put id (.as9 es zb)):=nr rfl
def cm4 {x:IX}:opT pt ct P E (.dc5 x) id fr σ K=iz6 (bp6 σ (x.ev E fr)) σ K:=nr rfl
def bt9 {i:Nat}{l:List (IV×IV)}:iz6 (za (i,l)) σ K=((l=[]->K (.tuple [.bool false]) σ) /\
   ∀j,j<l.length->K (.tuple [.bool true,(l.getD j (.undef,.undef)).1,(l.getD j (.undef,.undef)).2]) (σ.put i (.as9 (l.eraseIdx j) (za (l.getD j (.undef,.undef)))))):=nr rfl
def dp6 {x:IX}:opT pt ct P E (.gu4 x) id fr σ K=jj1 (cw4 σ (x.ev E fr)) σ K:=nr rfl
def dp7 {x:IX}:opT pt ct P E (.el4 x) id fr σ K=((x.ev E fr).cs.all IV.leaf=true/\K (.ab5 (x.ev E fr).cs) σ):=nr rfl
def ka5 (o:Option (List IV))(esz n:Nat)(σ:Store)(K:IV->Store->Prop):Prop:=bt3 o λout=>K (.aa2 (chunk esz n out)) σ
def dp8 {esz n:Nat}{z:List IV}{ps:List (Nat×Nat×IX)}:opT pt ct P E (.eb1 esz n z ps) id fr σ K=ka5 (au8 (rep z n) (ps.map λp=>(p.1,p.2.1,p.2.2.ev E fr))) esz n σ K:=nr rfl
def cm5 {esz n:Nat}{b:List IV}:ka5 (za b) esz n σ K=K (.aa2 (chunk esz n b)) σ:=nr rfl
def dp9 {i:Nat}:wpT pt ct P E N n0 (.exit i) fr σ Q=Q (.exit i) fr σ:=nr rfl
def fz9:wpT pt ct P E N n0 .ret fr σ Q=Q .ret fr σ:=nr rfl
def ju7 {x y:IC}:jj3 pt ct P E N n0 (.bool true) x y fr σ Q=wpT pt ct P E N n0 x fr σ Q:=nr rfl
def ju8 {x y:IC}:jj3 pt ct P E N n0 (.bool false) x y fr σ Q=wpT pt ct P E N n0 y fr σ Q:=nr rfl
def ga1 {y:IC}:kl9 pt ct P E N n0 y Q .normal fr σ=wpT pt ct P E N n0 y fr σ Q:=nr rfl
def ga2 {y:IC}{i:Nat}:kl9 pt ct P E N n0 y Q (.exit i) fr σ=Q (.exit i) fr σ:=nr rfl
def ga3 {y:IC}:kl9 pt ct P E N n0 y Q .ret fr σ=Q .ret fr σ:=nr rfl
def ga4 {i:Nat}:by2 i Q .normal fr σ=Q .normal fr σ:=nr rfl
def ga5 {i:Nat}:by2 i Q .ret fr σ=Q .ret fr σ:=nr rfl
def ga6 {i j:Nat}:by2 i Q (.exit j) fr σ=if j=i then Q .normal fr σ else Q (.exit j) fr σ:=nr rfl
def ga7 {I:Nat->Frm->Store->Prop}{m:Nat}:ew3 I m Q .normal fr σ=∃b,b<m/\I b fr σ:=nr rfl
def ga8 {I:Nat->Frm->Store->Prop}{m i:Nat}:ew3 I m Q (.exit i) fr σ=Q (.exit i) fr σ:=nr rfl
def ga9 {I:Nat->Frm->Store->Prop}{m:Nat}:ew3 I m Q .ret fr σ=Q .ret fr σ:=nr rfl
def gb1 {b:List IR}{d:IV->Store->Prop}:gv2 b d .ret fr σ=bt3 (irL σ fr b) λvs=>d (fx1 vs) σ:=nr rfl
def dq1 {b:List IR}{d:IV->Store->Prop}:gv2 b d .normal fr σ=bt3 (irL σ fr b) λvs=>d (fx1 vs) σ:=nr rfl
end Go.Id
namespace Go.Id
open Go
variable {P:Program} {E:Nat->IV} {σ σ':Store} {fr:Frm} {x y z:IX} {k k':IntKind} {a b:Int} {s t:List UInt8} {n m off esz len:Nat} {v u:IV}
def aa7 {i:Nat}{o:aj8}:(σ.put i o).next=σ.next:=nr rfl
def aa3 {i j:Nat}{o:aj8}:(σ.put i o).obj j=if j=i then za o else σ.obj j:=nr rfl
def e_t:(IX.t n).ev E fr=fr.get n:=nr rfl
def e_c:(IX.c v).ev E fr=v:=nr rfl
def e_g:(IX.g n).ev E fr=E n:=nr rfl
def e_f:(IX.f n).ev E fr=.func (.func n) [] []:=nr rfl
def gb2:evq E fr σ (.mov x)=za (x.ev E fr):=nr rfl
def dq2:evq E fr σ (.pick x y z)=be1 (x.ev E fr) (y.ev E fr) (z.ev E fr):=nr rfl
def gb3:evq E fr σ (.not x)=jv6 (x.ev E fr):=nr rfl
def gb4:evq E fr σ (.neg x)=jv7 (x.ev E fr):=nr rfl
def gb5 {op:BinOp}:evq E fr σ (.bin op x y)=aw5 op (x.ev E fr) (y.ev E fr):=nr rfl
def aj9 {d:TypeDesc}{g:Bool}:evq E fr σ (.fu6 d g x)=(ci5 d (x.ev E fr)).map λb=>.bool (b ^^ g):=nr rfl
def gb6 {d:List Nat}{g h:Bool}:evq E fr σ (.eqs d g h x y)=ib8 d g h (x.ev E fr) (y.ev E fr):=nr rfl
def dq3:evq E fr σ (.conv k x)=go3 k (x.ev E fr):=nr rfl
def cm6:evq E fr σ (.gp4 x)=ei2 (x.ev E fr):=nr rfl
def gb7:evq E fr σ (.len n x)=cx6 n σ (x.ev E fr):=nr rfl
def cm7:evq E fr σ (.ev1 off x)=ci9 off (x.ev E fr):=nr rfl
def gb8 {d:Option Nat}:evq E fr σ (.fld d off x)=jt3 d off (x.ev E fr):=nr rfl
def cm8:evq E fr σ (.ev2 esz x y)=av5 esz (x.ev E fr) (y.ev E fr):=nr rfl
def cm9:evq E fr σ (.fu7 n esz x y)=dm3 n esz (x.ev E fr) (y.ev E fr):=nr rfl
def gb9 {d:Option Nat}:evq E fr σ (.idx d n esz x y)=je2 d n esz (x.ev E fr) (y.ev E fr):=nr rfl
def dq4:evq E fr σ (.jt6 x y)=dy7 (x.ev E fr) (y.ev E fr):=nr rfl
def gc1 {lo hi:Option IX}:evq E fr σ (.slc esz x lo hi)=dj2 esz (lo.map (·.ev E fr)) (hi.map (·.ev E fr)) (x.ev E fr):=nr rfl
def dq5 {lo hi:Option IX}:evq E fr σ (.jt7 x lo hi)=cw2 (lo.map (·.ev E fr)) (hi.map (·.ev E fr)) (x.ev E fr):=nr rfl
def gc2:evq E fr σ (.slz x)=ib6 (x.ev E fr):=nr rfl
def gc3:evq E fr σ (.ext n x)=je3 n (x.ev E fr):=nr rfl
def gc4 {d cs:List IX}:evq E fr σ (.mkf n d cs)=za (.func (.func n) (d.map (·.ev E fr)) (cs.map (·.ev E fr))):=nr rfl
def gc5 {zs:List IV}{ps:List (Nat×Nat×IX)}:evq E fr σ (.bld zs ps)=(au8 zs (ps.map λp=>(p.1,p.2.1,p.2.2.ev E fr))).map .agg:=nr rfl
def dq6 {d:Option Nat}:evq E fr σ (.load d x)=ay8 σ d (x.ev E fr):=nr rfl
def dq7:evq E fr σ (.jt8 x)=dy9 (x.ev E fr):=nr rfl
def iz7 {d:Bool}:evq E fr σ (.mm d x y)=mmI d (x.ev E fr) (y.ev E fr):=nr rfl
def em1:mmI true (.int k a) (.int k' b)=za (.int k (if b>a then b else a)):=by simp[mmI]
def ex9:mmI false (.int k a) (.int k' b)=za (.int k (if b<a then b else a)):=by simp[mmI]
def ey1 {d:IV}{ok:Bool}:evq E fr σ (.lkp n d ok x y)=cj3 σ n d ok (x.ev E fr) (y.ev E fr):=nr rfl
def cn1:Frm.keep fr []=[]:=nr rfl
def cn2 {ks:List Nat}:Frm.keep fr (n::ks)=(n,fr.get n)::Frm.keep fr ks:=nr rfl
def dq8:bm7 [] n=[]:=nr rfl
def dq9 {vs:List IV}:bm7 (v::vs) n=(n,v)::bm7 vs (n+1):=nr rfl
def cn3:cd7 []=0:=nr rfl
def cn4 {d:Option Nat}{g:Option (Nat×Bool)}{op:IK}{e:List af1}:cd7 (⟨d,g,op⟩::e)=(if op.lays=true then 1 else 0)+cd7 e:=nr (ck6 _ _)
def ju9 {q:IQ}:(IK.q q).lays=false:=nr rfl
def bu1 {zs:List IV}:(IK.alloc zs).lays=true:=nr rfl
def dr1:(IK.box x).lays=true:=nr rfl
def dr2 {zs:List IV}{ps:List (Nat×Nat×IX)}:(IK.bsl esz n zs ps).lays=true:=nr rfl
def dr3:(IK.app esz x y).lays=true:=nr rfl
def bu2:IK.dc4.lays=true:=nr rfl
def cn5:(IK.gl8 n x y z).lays=false:=nr rfl
def bj4:(IK.bq1 x).lays=true:=nr rfl
def bu3:(IK.dj8 x).lays=false:=nr rfl
def bj5:(IK.bo5 x).lays=true:=nr rfl
def cn6 {zs:List IV}:(IK.dn3 esz zs x).lays=true:=nr rfl
def dr4 {zs:List IV}:(IK.clr esz zs x).lays=false:=nr rfl
def cn7:(IK.gu4 x).lays=false:=nr rfl
def bu4:(IK.dc5 x).lays=false:=nr rfl
def cn8:(IK.el4 x).lays=false:=nr rfl
def cn9 {zs:List IV}{ps:List (Nat×Nat×IX)}:(IK.eb1 esz n zs ps).lays=false:=nr rfl
def ks2:evq E fr σ (.ibs x y)=jv8 (x.ev E fr) (y.ev E fr):=nr rfl
def ka6:jv8 (.str s) (.int .u8 a)=if 0<=a/\a<256 then za (.int .i64 (et9 a.toNat s 0)) else zb:=nr rfl
def bu5:(IK.store n x y).lays=false:=nr rfl
def co1 {xs:List IX}:(IK.call n xs).lays=false:=nr rfl
def bu6 {xs:List IX}:(IK.bo9 n xs).lays=false:=nr rfl
def gv6 {xs:List IX}:(IK.ay6 x xs).lays=false:=nr rfl
def bu7 {xs:List IX}:(IK.dj9 x xs).lays=false:=nr rfl
def dr5 {e d:Type}{f:e->d}:List.map f []=[]:=nr rfl
def dr6 {d e:Type}{f:d->e}{c:d}{cs:List d}:List.map f (c::cs)=f c::List.map f cs:=nr rfl
def ey2 {e d:Type}{f:e->d}:Option.map f zb=zb:=nr rfl
def ey3 {d e:Type}{f:d->e}{c:d}:Option.map f (za c)=za (f c):=nr rfl
def co2:be1 (.bool true) v u=za v:=nr rfl
def co3:be1 (.bool false) v u=za u:=nr rfl
def co4 {c d:Bool}:be1 (.bool c) (.bool true) (.bool d)=za (.bool (c||d)):=by cases c<;>rfl
def co5 {c d:Bool}:be1 (.bool c) (.bool d) (.bool false)=za (.bool (c&&d)):=by cases c<;>rfl
def dr7 {c:Bool}:jv6 (.bool c)=za (.bool !c):=nr rfl
def dr8:jv7 (.int k a)=za (.int k (k.wrap (0-a))):=nr rfl
def co6:go3 k (.int k' a)=za (.int k (k.wrap a)):=nr rfl
def bu8:ei2 (.str s)=za (.str s):=nr rfl
def gc6:aw5 .add (.int k a) (.int k b)=za (.int k (k.wrap (a+b))):=by simp[aw5,eh6]
def gc7:aw5 .sub (.int k a) (.int k b)=za (.int k (k.wrap (a-b))):=by simp[aw5,eh6]
def gc8:aw5 .mul (.int k a) (.int k b)=za (.int k (k.wrap (a*b))):=by simp[aw5,eh6]
def gc9:aw5 .quo (.int k a) (.int k b)=if b=0 then zb else za (.int k (k.wrap (a.tdiv b))):=by simp[aw5,eh6]
def gd1:aw5 .rem (.int k a) (.int k b)=if b=0 then zb else za (.int k (a.tmod b)):=by simp[aw5,eh6]
def gd2:aw5 .eql (.int k a) (.int k b)=za (.bool (decide (a=b))):=by simp[aw5,eh6]
def gd3:aw5 .neq (.int k a) (.int k b)=za (.bool (!decide (a=b))):=by simp[aw5,eh6]
def gd4:aw5 .lss (.int k a) (.int k b)=za (.bool (decide (a<b))):=by simp[aw5,eh6]
def gd5:aw5 .leq (.int k a) (.int k b)=za (.bool (decide (a<=b))):=by simp[aw5,eh6]
def gd6:aw5 .gtr (.int k a) (.int k b)=za (.bool (decide (b<a))):=by simp[aw5,eh6]
def gd7:aw5 .geq (.int k a) (.int k b)=za (.bool (decide (b<=a))):=by simp[aw5,eh6]
def em2:aw5 .shl (.int k a) (.int k' b)=if 0<=b then za (.int k (k.wrap (a*2^(min b.toNat k.bits)))) else zb:=by simp[aw5]
def ey4:aw5 .shr (.int k a) (.int k' b)=if 0<=b then za (.int k (a.fdiv (2^(min b.toNat k.bits)))) else zb:=by simp[aw5]
def dc8:aw5 .add (.str s) (.str t)=if s.length+t.length<2^62 then za (.str (s++t)) else zb:=by simp[aw5,id8]
def dr9:aw5 .eql (.str s) (.str t)=za (.bool (decide (s=t))):=by simp[aw5,id8]
def ds2:aw5 .neq (.str s) (.str t)=za (.bool (!decide (s=t))):=by simp[aw5,id8]
def ds4:aw5 .lss (.str s) (.str t)=za (.bool (Op.bytesLess s t)):=by simp[aw5,id8]
def ds5:aw5 .leq (.str s) (.str t)=za (.bool (Op.bytesLess s t||decide (s=t))):=by simp[aw5,id8]
def ds6:aw5 .gtr (.str s) (.str t)=za (.bool (!(Op.bytesLess s t||decide (s=t)))):=by simp[aw5,id8]
def ds7:aw5 .geq (.str s) (.str t)=za (.bool (!Op.bytesLess s t)):=by simp[aw5,id8]
def ds8 {es:List (List IV)}:cx6 0 σ (.aa2 es)=za (.int .i64 es.length):=nr rfl
def ds9:cx6 0 σ .aa5=za (.int .i64 0):=nr rfl
def dt1:cx6 0 σ .ad2=za (.int .i64 0):=nr rfl
def ka7:cx6 0 σ .af7=za (.int .i64 0):=nr rfl
def dc9:cx6 0 σ (.slice n off len esz)=za (.int .i64 len):=nr rfl
def bm8:cx6 1 σ (.str s)=za (.int .i64 s.length):=nr rfl
def co7:dy9 (.ptr n off)=za (.ptr n off):=nr rfl
def co8 {cs:List IV}:dy9 (.ab5 cs)=za (.ab5 cs):=nr rfl
def co9 {f:FuncId}{p q:List IV}:dy9 (.func (.func f) p q)=za (.func (.func f) p q):=nr rfl
def dt2:ib6 .aa5=za .aa5:=nr rfl
def dt3:ib6 .ad2=za .ad2:=nr rfl
def ka8:ib6 .af7=za .ad2:=nr rfl
def dt4 {es:List (List IV)}:ib6 (.aa2 es)=if es=[] then za (.aa2 []) else za .ad2:=nr rfl
def dt5:ib6 (.slice n off len esz)=za .ad2:=nr rfl
def gd8:irL σ fr []=za []:=nr rfl
def gd9:irL σ fr [.t n]=za [fr.get n]:=nr rfl
def dt6:irL σ fr [.t n,.t m]=za [fr.get n,fr.get m]:=nr rfl
def ge1 {d:Option Nat}:irL σ fr [.cell d n]=(ay8 σ d (fr.get n)).map λv=>[v]:=by
 simp only[irL,irV];cases ay8 σ d (fr.get n)<;>rfl
def cp1:fx1 [v]=v:=nr rfl
def cp3:fx1 [v,u]=.tuple [v,u]:=nr rfl
def cp4:fx1 []=.tuple []:=nr rfl
def eb5 (ag:Option Nat)(off:Nat):Option aj8->Option IV
 | some (.cells cs)|some (.row cs)=>match ag with
  | none=>(cs.drop off).head?
  | some n=>if n<=(cs.drop off).length then za (.agg ((cs.drop off).take n)) else zb
 | _=>zb
def cp5 {d:Option Nat}:ay8 σ d (.ptr n off)=eb5 d off (σ.obj n):=by
 cases h:σ.obj n with
 | none=>simp[ay8,ar3,eb5,h]
 | some o=>cases o<;>cases d<;>simp[ay8,ar3,eb5,h]
def cp6 {cs:List IV}:ay8 σ zb (.ab5 cs)=cs.head?:=nr rfl
def bu9 {cs:List IV}:ay8 σ (za n) (.ab5 cs)=if n<=cs.length then za (.agg (cs.take n)) else zb:=nr rfl
def bx5 {cs:List IV}:eb5 zb off (za (.cells cs))=(cs.drop off).head?:=nr rfl
def ce4 {cs:List IV}:eb5 (za n) off (za (.cells cs))=if n<=(cs.drop off).length then za (.agg ((cs.drop off).take n)) else zb:=nr rfl
def ge2 {cs:List IV}:eb5 zb off (za (.row cs))=(cs.drop off).head?:=nr rfl
def ey5 {cs:List IV}:eb5 (za n) off (za (.row cs))=if n<=(cs.drop off).length then za (.agg ((cs.drop off).take n)) else zb:=nr rfl
def em3 (σ:Store)(id off n:Nat)(vs:List IV):Option aj8->Option Store
 | some (.cells cs)=>if vs.length=n/\off+n<=cs.length/\vs.all IV.leaf=true then za (σ.put id (.cells (ay4 cs off vs))) else zb
 | some (.row cs)=>if vs.length=n/\off+n<=cs.length/\vs.all IV.leaf=true then za (σ.put id (.row (ay4 cs off vs))) else zb
 | _=>zb
def bv1:ar5 σ n (.ptr m off) v=em3 σ m off n v.cs (σ.obj m):=by
 cases h:σ.obj m with
 | none=>simp[ar5,em3,h]
 | some o=>cases o<;>simp[ar5,em3,h]
def ge3 {cs vs:List IV}:em3 σ m off n vs (za (.cells cs))=if vs.length=n/\off+n<=cs.length/\vs.all IV.leaf=true then za (σ.put m (.cells (ay4 cs off vs))) else zb:=nr rfl
def ey6 {cs vs:List IV}:em3 σ m off n vs (za (.row cs))=if vs.length=n/\off+n<=cs.length/\vs.all IV.leaf=true then za (σ.put m (.row (ay4 cs off vs))) else zb:=nr rfl
def bv2 {es:List (List IV)}:av5 esz (.aa2 es) (.int k a)=if 0<=a/\a<es.length/\(es.getD a.toNat []).length=esz then za (.ab5 (es.getD a.toNat [])) else zb:=nr rfl
def bv3:av5 esz (.slice n off len m) (.int k a)=if 0<=a/\a<len/\m=esz then za (.ptr n (off+a.toNat*esz)) else zb:=nr rfl
def cp7 {cs:List IV}:ci9 n (.ab5 cs)=za (.ab5 (cs.drop n)):=nr rfl
def cp8:ci9 n (.ptr m off)=za (.ptr m (off+n)):=nr rfl
def cp9 {cs:List IV}:IV.cs (.agg cs)=cs:=nr rfl
def cq1:IV.cs (.int k a)=[.int k a]:=nr rfl
def bv4 {c:Bool}:IV.cs (.bool c)=[.bool c]:=nr rfl
def cq2:IV.cs (.str s)=[.str s]:=nr rfl
def cq3:IV.cs (.ptr n off)=[.ptr n off]:=nr rfl
def bv5 {cs:List IV}:IV.cs (.ab5 cs)=[.ab5 cs]:=nr rfl
def bj6:IV.cs (.slice n off len esz)=[.slice n off len esz]:=nr rfl
def bd1 {es:List (List IV)}:IV.cs (.aa2 es)=[.aa2 es]:=nr rfl
def bv6 {f:Fn}{p q:List IV}:IV.cs (.func f p q)=[.func f p q]:=nr rfl
def cq4:IV.cs (.map n)=[.map n]:=nr rfl
def bv7 {es:List (IV×IV)}:IV.cs (.am2 es)=[.am2 es]:=nr rfl
def dt7:IV.cs .aa5=[.aa5]:=nr rfl
def dt8:IV.cs .ad2=[.ad2]:=nr rfl
def ka9:IV.cs .af7=[.af7]:=nr rfl
def dt9:IV.cs .ag2=[.ag2]:=nr rfl
def cq5:IV.leaf (.int k a)=true:=nr rfl
def bv8 {c:Bool}:IV.leaf (.bool c)=true:=nr rfl
def cq6:IV.leaf (.str s)=true:=nr rfl
def cq7:IV.leaf (.ptr n off)=true:=nr rfl
def bv9 {cs:List IV}:IV.leaf (.ab5 cs)=true:=nr rfl
def bj7:IV.leaf (.slice n off len esz)=true:=nr rfl
def bd2 {es:List (List IV)}:IV.leaf (.aa2 es)=true:=nr rfl
def bw1 {f:Fn}{p q:List IV}:IV.leaf (.func f p q)=true:=nr rfl
def cq8:IV.leaf (.map n)=true:=nr rfl
def bw2 {es:List (IV×IV)}:IV.leaf (.am2 es)=true:=nr rfl
def du1:IV.leaf .aa5=true:=nr rfl
def du2:IV.leaf .ad2=true:=nr rfl
def kb1:IV.leaf .af7=true:=nr rfl
def du3:IV.leaf .ag2=true:=nr rfl
def fj1 (σ:Store)(id:Nat):Option aj8->Option (IV×Store)
 | some (.bh7 s pos)=>if pos<s.length then za (.tuple [.bool true,.int .i64 pos,.int .i32 (Utf8.decode ⟨s.toArray⟩ pos).1],σ.put id (.bh7 s (pos+(Utf8.decode ⟨s.toArray⟩ pos).2))) else za (.tuple [.bool false],σ)
 | _=>zb
def bq3:bp5 σ (.ptr n 0)=fj1 σ n (σ.obj n):=by
 cases h:σ.obj n with
 | none=>simp[bp5,fj1,h]
 | some o=>cases o<;>simp[bp5,fj1,h]
def iz8 {d:Nat}:fj1 σ n (za (.bh7 s d))=if d<s.length then za (.tuple [.bool true,.int .i64 d,.int .i32 (Utf8.decode ⟨s.toArray⟩ d).1],σ.put n (.bh7 s (d+(Utf8.decode ⟨s.toArray⟩ d).2))) else za (.tuple [.bool false],σ):=nr rfl
def du4 {cs:List IV}:je3 n (.tuple cs)=cs[n]?:=by cases h:cs[n]?<;>simp[je3,h]
def ge4:(Store.mk σ.next σ.obj)=σ:=nr rfl
def wrap64 {x:Int}(e:-9223372036854775808<=x)(d:x<9223372036854775808):IntKind.i64.wrap x=x:=by
 simp[IntKind.wrap,IntKind.bits,IntKind.signed];omega
end Go.Id
namespace Go.Id
open Go
variable {P:Program} {w w' w'':World} {ρ ρ' ρ'':Rho} {E:Nat->IV} {σ σ':Store} {N n n':Nat}
abbrev Bnd (n:Nat)(v:IV):Prop:=Nm (λi=>i<n) v
abbrev cc3 (σ:Store)(n:Nat)(v v':IV):Prop:=Frz σ (λi=>i<n) v v'
def Rho.cut (ρ:Rho)(n:Nat):Rho:=⟨λi=>if i<n then ρ i else .no,ρ.X⟩
def iz9 (ρ:Rho)(n:Nat):cj8 (λi=>i<n) ρ (ρ.cut n):=
 ⟨λi h=>by show (if i<n then ρ i else eh4.no)=_;rw[if_pos h],λi h=>by show (if i<n then ρ i else eh4.no)=_;rw[if_neg h],λ_ h=>.inl h⟩
def ge5 (hf:∀i,n<=i->ρ i=.no):∀i,ρ i≠.no->i<n:=λi h=>by
 rcases qh i n with d|d
 .exact d
 .exact absurd (hf i d) h
def ks3 {f:Nat}{args:List IV}{v:IV}
  (h:(∀a∈args,Bnd σ.next a)->C P E f args σ λv' σ'=>(∀i,i<σ.next->σ'.obj i=σ.obj i)/\σ.next<=σ'.next/\cc3 σ' σ.next v' v):C P E f args σ (ka4 v σ):=by
 intro ρ w rargs hs ha;have hlv:=ge5 hs.fresh;have hba:∀a∈args,Bnd σ.next a:=λa hm=>let ⟨i,hi,he⟩:=aj3 (d:=.undef) hm;he▸(ha.2 i hi).nm hlv
 refine CallsIn.mono (h hba ρ w rargs hs ha) ?_;rintro e w' ⟨v',r,ρ',σ',rfl,⟨hob,hle,hfrz⟩,hs',hv',hx⟩;have hno:∀i,σ.next<=i->σ.obj i=zb:=λi hi=>hs.aw6 i (hs.fresh i hi)
 have hk:=iz9 ρ' σ.next;refine ⟨v,r,ρ'.cut σ.next,σ,rfl,⟨rfl,rfl⟩,hs'.kl2 hk hob (λi hi=>hno i om) (λi o _ ho=>hs.nmO hlv i o ho) (λi hi=>hk.off i om) (λg=>(hs.env g).nm hlv),hfrz.vr hk rfl hs' r hv',?_⟩;exact ⟨hx.size,hx.keep,hx.shape,λi B d hi=>hx.img i B d (hk.at hi).2,λi B d hi h=>by rw[hk.on i hi];exact hx.at_ i B d hi h,λi hi h=>by rw[hk.on i hi];exact hx.dead i hi h,λi hi h=>by rw[hk.on i hi];exact hx.no i hi h,hx.output,hx.os,hx.tape,hx.loops,hx.X⟩
def ey8 {f:Nat}{args:List IV}{v:IV}(h:PC P E f args v):C P E f args σ (ka4 v σ):=h σ
def ja1 {f:Nat}{args:List IV}{v:IV}
  (h:∀σ,(∀a∈args,Bnd σ.next a)->C P E f args σ λv' σ'=>(∀i,i<σ.next->σ'.obj i=σ.obj i)/\σ.next<=σ'.next/\cc3 σ' σ.next v' v):PC P E f args v :=
 λσ=>ks3 (h σ)
def ks4 {pt:PT}{ct:CT}{pf:List Nat}(hT:TOK P E pt ct){f:Nat}{an:Ann}{ic:IC}{irs:List IR}{args:List IV}{v:IV}(hf:iz4 P f N pf an ic irs)(hl:args.length<=N)
  (h:∀σ,(∀a∈args,Bnd σ.next a)->wpT pt ct P E N σ.next ic (bm7 args 0) σ (gv2 irs λv' σ'=>(∀i,i<σ.next->σ'.obj i=σ.obj i)/\σ.next<=σ'.next/\cc3 σ' σ.next v' v)):PC P E f args v :=
 ja1 λσ hb=>C_T hT hf hl (h σ hb)
def IV.plain:IV->Bool
 | .bool _|.int _ _|.str _=>true
 | .tuple vs=>vs.attach.all λ⟨v,_⟩=>v.plain
 | .agg vs=>vs.attach.all λ⟨v,_⟩=>v.plain
 | _=>false
def ik2 {v:IV}{r:Value}(h:v.plain=true)(d:VR ρ w v r):VR ρ' w' v r:=by
 induction d with
 | bool b=>exact .bool _
 | int k n=>exact .int _ _
 | str s=>exact .str _
 | agg cs rs hl d ih=>
  refine .agg cs rs hl λi hi=>ih i hi ?_
  unfold IV.plain at h
  exact zi.1 h ⟨_,ad5 .undef hi⟩ (List.mem_attach _ _)
 | tuple cs rs hl d ih=>
  refine .tuple cs rs hl λi hi=>ih i hi ?_
  unfold IV.plain at h
  exact zi.1 h ⟨_,ad5 .undef hi⟩ (List.mem_attach _ _)
 | _=>simp[IV.plain] at h
def ey9 (S:Nat->Prop)(ρ:Rho):∃ρ':Rho,cj8 S ρ ρ'/\∀b,ρ'.X b↔ρ.X b\/∃i d,¬S i/\ρ i=.at b d:=by
 refine ⟨⟨λi=>if z0 (S i) |>.decide then ρ i else .no,λb=>ρ.X b\/∃i d,¬S i/\ρ i=.at b d⟩,⟨λi h=>?_,λi h=>?_,λb h=>h⟩,λb=>Iff.rfl⟩
 .show (if (z0 (S i)).decide=true then ρ i else eh4.no)=_;rw[if_pos (by simpa using h)]
 .show (if (z0 (S i)).decide=true then ρ i else eh4.no)=_;rw[if_neg (by simpa using h)]
def Store.only (σ:Store)(S:Nat->Bool):Store:=⟨σ.next,λi=>if S i then σ.obj i else zb⟩
def fj3 {f:Nat}{args:List IV}{v:IV}(hE:∀g,Bnd 0 (E g))(ha:∀a∈args,Bnd 0 a)(h:C P E f args ⟨0,λ_=>zb⟩ λv' σ'=>cc3 σ' 0 v' v):PC P E f args v:=by
 intro σ ρ w rargs hs hr;have⟨ρ0,hk,hX⟩:=ey9 (λ_=>False) ρ;have hs0:Sim E ρ0 w ⟨0,λ_=>zb⟩:=hs.kl2 hk (λi h=>h.elim) (λ_ _=>rfl) (λi o h=>h.elim) (λi _=>hk.off i (λh=>h)) (λg=>(hE g).weak λi h=>absurd h (ze _));have hr0:CR ρ0 w args rargs:=⟨hr.1,λi hi=>(hr.2 i hi).cut hk ((ha _ (ad5 _ hi)).weak λi h=>absurd h (ze _))⟩;refine CallsIn.mono (h ρ0 w rargs hs0 hr0) ?_;rintro e w' ⟨v',r,ρ',σ',rfl,hfz,hs',hv',hx⟩;have hno0:∀i,ρ0 i=.no:=λi=>hk.off i (λh=>h)
 have hkeep:∀b,b<w.heap.size->w'.heap[b]? = w.heap[b]?:=λb hb=>hx.keep b ⟨hb,λi d h=>by rw[hno0 i] at h;cases h⟩
 have hlt:∀(b:Nat) (o:Obj),w.heap[b]? = za o->b<w.heap.size:=λb o h=>by
  rcases qh b w.heap.size with h'|h'
  .exact h'
  .rw[zo h'] at h;cases h
 have hext:∀n,Ext n ρ w ρ w':=λn=>
  ⟨hx.size,λb hb=>hkeep b hb.1,λb rcs el fz h=>⟨rcs,by rw[hkeep b (hlt b _ h)];exact h,rfl⟩,λi B d h=>.inl ⟨i,d,h⟩,λi B d h=>.inl h,λi h=>h,λi _ h=>h,hx.output,hx.os,hx.tape,λl L h=>⟨L,by rw[hkeep l (hlt l _ h)];exact h⟩,rfl⟩
 -- the tree lies on no block that is in use
 let ρ1:Rho:=⟨λ_=>.no,ρ'.X⟩;have hk1:cj8 (λi=>i<0) ρ' ρ1:=⟨λi h=>absurd h (ze _),λi _=>rfl,λb h=>.inl h⟩;have hv1:VR ρ1 w' v r:=hfz.vr hk1 rfl hs' r hv'
 have hv2:VR ρ w' v r:=hv1.refs (λi h=>absurd rfl h) λb hb=>⟨hb.1,λi d hi=>hb.3 (by
   show ρ'.X b;rw[hx.X];exact (hX b).2 (.inr ⟨i,d,λh=>h,hi⟩)),λhxb=>hb.3 (by
   show ρ'.X b;rw[hx.X];exact (hX b).2 (.inl hxb))⟩
 refine ⟨v,r,ρ,σ,rfl,⟨rfl,rfl⟩,⟨hs.inj,λi B d h=>zz (hs.lt i B d h) hx.size,λi B d h=>?_,hs.dead,hs.fresh,hs.aw6,λg=>(hs.env g).mono (hext 0),hs.nx,λb h=>zz (hs.xlt b h) hx.size⟩,hv2,(hext σ.next).weak (zn _)⟩;have⟨o,h1,h2⟩:=hs.obj i B d h;exact ⟨o,h1,h2.mono (hext 0) (hkeep B (hs.lt i B d h))⟩
def Store.kills (σ:Store)(S:Nat->Bool):Store:=⟨σ.next,λi=>if S i then σ.obj i else zb⟩
def be4 {S:Nat->Bool}(hs:Sim E ρ w σ):∃p:Rho,Sim E p w (σ.kills S)/\(∀n,Ext n ρ w p w)/\∀v I r,Frz σ (λi=>S i=true) v I->VR ρ w v r->VR p w I r:=by
 let ρc:Rho:=⟨λi=>if S i then ρ i else .no,ρ.X⟩;let p:Rho:=⟨λi=>if S i then ρ i else match ρ i with|.no=>.no|_=>.dead,ρ.X⟩;have H:∀i,S i=true->ρc i=ρ i:=λi h=>by show (if S i=true then ρ i else .no)=_;rw[if_pos h]
 have D:∀i,S i=false->ρc i=.no:=λi h=>by show (if S i=true then ρ i else .no)=_;rw[if_neg (by simp[h])]
 have q:∀i,S i=true->p i=ρ i:=λi h=>by show (if S i=true then ρ i else _)=_;rw[if_pos h]
 have A:∀i,S i=false->p i=(match ρ i with|.no=>.no|_=>.dead):=λi h=>by show (if S i=true then ρ i else _)=_;rw[if_neg (by simp[h])]
 have f:∀i B d,p i=.at B d->S i=true/\ρ i=.at B d:=λi B d h=>by
  cases e:S i with
  | true=>rw[q i e] at h;exact ⟨rfl,h⟩
  | false=>rw[A i e] at h;cases L:ρ i<;>rw[L] at h<;>cases h
 have U:cj8 (λi=>S i=true) ρ ρc:=⟨H,λi h=>D i (by simpa using h),λb h=>.inl h⟩
 have F:∀n,Ext n ρ w p w:=λn=>dz4 (λi B d h=>by
   cases e:S i with
   | true=>rw[q i e];exact .inl h
   | false=>rw[A i e,h];exact .inr rfl) (λi h=>by
   cases e:S i with
   | true=>rw[q i e];exact h
   | false=>rw[A i e,h]) (λi _ h=>by
   cases e:S i with
   | true=>rw[q i e];exact h
   | false=>rw[A i e,h]) (λi B d h=>⟨i,d,(f i B d h).2⟩) rfl
 have J:Ext 0 ρc w p w:=dz4 (λi B d h=>by
   have⟨T,M⟩:=U.at h;exact .inl (by rw[q i T];exact M)) (λi h=>by
   cases e:S i with
   | true=>rw[H i e] at h;rw[q i e];exact h
   | false=>rw[D i e] at h;cases h) (λi hi _=>absurd hi (ze _)) (λi B d h=>⟨i,d,by rw[H i (f i B d h).1];exact (f i B d h).2⟩) rfl
 refine ⟨p,?_,F,λv I r hf V=>(hf.vr U rfl hs r V).mono J⟩;refine ⟨λi j B d d' hi Y=>hs.inj i j B d d' (f _ _ _ hi).2 (f _ _ _ Y).2,λi B d hi=>hs.lt i B d (f _ _ _ hi).2,λi B d hi=>?_,λi hi=>?_,λi hi=>?_,λi hi=>?_,λg=>(hs.env g).mono (F 0),λi B d hi=>hs.nx i B d (f _ _ _ hi).2,hs.xlt⟩
 .have⟨T,M⟩:=f _ _ _ hi;have⟨o,g1,g2⟩:=hs.obj i B d M;exact ⟨o,by simp[Store.kills,T,g1],g2.mono (F 0) rfl⟩
 .cases e:S i with
  | true=>rw[q i e] at hi;simp[Store.kills,e,hs.dead i hi]
  | false=>simp[Store.kills,e]
 .have W:σ.next<=i:=hi;have:=hs.fresh i W
  cases e:S i with
  | true=>rw[q i e];exact this
  | false=>rw[A i e,this]
 .cases e:S i with
  | true=>rw[q i e] at hi;simp[Store.kills,e,hs.aw6 i hi]
  | false=>simp[Store.kills,e]
def fj4 {S:Nat->Bool}{f:Nat}{args args':List IV}{Q:IV->Store->Prop}(H:args'.length=args.length)(I:∀i,i<args.length->Frz σ (λi=>S i=true) (args.getD i .undef) (args'.getD i .undef))
  (h:C P E f args' (σ.kills S) Q):C P E f args σ Q:=by
 intro ρ w d hs hr;have⟨g,q,j,o⟩:=be4 (S:=S) hs;have B:CR g w args' d:=⟨by rw[H];exact hr.1,λi hi=>o _ _ _ (I i om) (hr.2 i om)⟩;refine CallsIn.mono (h g w d q B) ?_;rintro e w' ⟨v,r,ρ',σ',rfl,F,A,p,D⟩;exact ⟨v,r,ρ',σ',rfl,F,A,p,((j σ.next).weak (zn _)).trans D⟩
def fj5 {S:Nat->Bool}{T:IC}{n0:Nat}{fr fr':Frm}{Q:Exit->Frm->Store->Prop}(hf:∀t,fr'.get t=fr.get t\/Frz σ (λi=>S i=true) (fr.get t) (fr'.get t))
  (h:RI P E N n0 T fr' (σ.kills S) Q):RI P E N n0 T fr σ Q:=by
 intro pf an c hc V U h0 ρ w a hs f W hr;have⟨g,F,j,B⟩:=be4 (S:=S) hs
 have o:FR g w N fr' a.tmps:=⟨f.size,λt=>by
  rcases hf t with e|e
  .rw[e];exact (f.get t).mono (j 0)
  .exact B _ _ _ e (f.get t)⟩
 have d:=(j n0).weak (zn n0);refine wpIn_mono (h pf an c hc V U h0 g w a F o (W.mono d) (hr.mono d)) ?_;rintro e X w' ⟨M,p,r,I,q,D,J,L,H,A⟩;exact ⟨M,p,r,I,q,D,J,L,H,d.trans A⟩
def bq4 {f:Nat}{args args':List IV}{v:IV}(hE:∀g,Bnd 0 (E g))(V:args'.length=args.length)(W:∀i,i<args.length->cc3 σ 0 (args.getD i .undef) (args'.getD i .undef))(hp:v.plain=true)(h:PC P E f args' v):C P E f args σ (ka4 v σ):=by
 intro ρ w p hs hr;have F:=iz9 ρ 0;have J:Sim E (ρ.cut 0) w ⟨0,λ_=>zb⟩:=hs.kl2 F (λi h=>absurd h (ze _)) (λ_ _=>rfl) (λi o h=>absurd h (ze _)) (λi _=>F.off i (ze _)) hE;have M:CR (ρ.cut 0) w args' p:=⟨by rw[V];exact hr.1,λi hi=>(W i om).vr F rfl hs _ (hr.2 i om)⟩;refine CallsIn.mono (h ⟨0,λ_=>zb⟩ (ρ.cut 0) w p J M) ?_;rintro e w' ⟨v',r,ρ',σ',rfl,⟨rfl,rfl⟩,U,I,A⟩;have j:∀b,b<w.heap.size->w'.heap[b]? = w.heap[b]?:=λb S=>A.keep b ⟨S,λi d h=>absurd (F.at h).1 (ze _)⟩
 have D:∀(b:Nat) (o:Obj),w.heap[b]? = za o->b<w.heap.size:=λb o h=>by
  rcases qh b w.heap.size with T|T
  .exact T
  .rw[zo T] at h;cases h
 have q:∀n,Ext n ρ w ρ w':=λn=>
  ⟨A.size,λb S=>j b S.1,λb H el fz h=>⟨H,by rw[j b (D b _ h)];exact h,rfl⟩,λi B d h=>.inl ⟨i,d,h⟩,λi B d h=>.inl h,λi h=>h,λi _ h=>h,A.output,A.os,A.tape,λl L h=>⟨L,by rw[j l (D l _ h)];exact h⟩,rfl⟩
 refine ⟨_,r,ρ,σ,rfl,⟨rfl,rfl⟩,⟨hs.inj,λi B d h=>zz (hs.lt i B d h) A.size,λi B d h=>?_,hs.dead,hs.fresh,hs.aw6,λg=>(hs.env g).mono (q 0),hs.nx,λb h=>zz (hs.xlt b h) A.size⟩,ik2 hp I,(q σ.next).weak (zn _)⟩;have⟨o,Y,X⟩:=hs.obj i B d h;exact ⟨o,Y,X.mono (q 0) (j B (hs.lt i B d h))⟩
end Go.Id
namespace Go.Id
open Go
variable {P:Program} {E:Nat->IV} {σ σ':Store} {N n n0:Nat} {fr:Frm}
inductive ez1 where
 | o (x:aj8)
 | loop (N:Nat) (fr:Frm) (ps:List Nat) (asg body:IC) (st:LoopState) (pend:Option JX)
 | app (rev:List (List IV)) (n:Nat) (h:rev.reverse.flatten.length=n/\rev.reverse.flatten.all IV.leaf=true)
 deriving Inhabited
def ez1.fin:Option ez1->Option ez1
 | some (.app rev _ _)=>za (.o (.row rev.reverse.flatten))
 | x=>x
inductive Tr where
 | e
 | n (v:Option ez1) (l r:Tr)
 deriving Inhabited
def Tr.raw:Tr->Nat->Option ez1
 | .e,_=>zb
 | .n v l r,i=>bif qd i 0 then v else bif qd (i%2) 1 then l.raw (i/2) else r.raw (i/2-1)
def Tr.get (t:Tr)(i:Nat):Option ez1:=ez1.fin (t.raw i)
def Tr.set (x:Option ez1):Nat->Tr->Nat->Tr
 | 0,t,_=>t
 | f+1,.e,i=>bif qd i 0 then .n x .e .e else bif qd (i%2) 1 then .n zb (Tr.set x f .e (i/2)) .e else .n zb .e (Tr.set x f .e (i/2-1))
 | f+1,.n v l r,i=>bif qd i 0 then .n x l r else bif qd (i%2) 1 then .n v (Tr.set x f l (i/2)) r else .n v l (Tr.set x f r (i/2-1))
def bg3 {d:Type}(a b:Nat)(x y:d):(bif qd a b then x else y)=if a=b then x else y:=by
 by_cases h:a=b
 .subst h;simp
 .have:qd a b=false:=by rw[<- Bool.not_eq_true,Nat.beq_eq];exact h
  simp[this,h]
def Tr.jj4 (x:Option ez1):∀(f:Nat) (t:Tr) (i j:Nat),i+1<2^f->(Tr.set x f t i).raw j=if j=i then x else t.raw j:=by
 intro f
 induction f with
 | zero=>intro t i j h;simp at h
 | succ f ih=>
  intro t i j h;have hp:2^(f+1)=2*2^f:=by rw[Nat.pow_succ];omega
  cases t with
  | e =>
   simp only[Tr.set,bg3];split
   .rename_i h0;subst h0;simp only[Tr.raw,bg3];split
    .rfl
    .split<;>rfl
   .rename_i h0;split
    .rename_i p;simp only[Tr.raw,bg3];by_cases g:j=0
     .subst g;rw[if_pos rfl,if_neg om]
     .rw[if_neg g];split
      .rename_i o;rw[ih _ _ _ om];by_cases d:j=i
       .rw[if_pos d,if_pos om]
       .rw[if_neg d,if_neg om];rfl
      .rw[if_neg om]
    .rename_i p;simp only[Tr.raw,bg3];by_cases g:j=0
     .subst g;rw[if_pos rfl,if_neg om]
     .rw[if_neg g];split
      .rw[if_neg om]
      .rename_i o;rw[ih _ _ _ om];by_cases d:j=i
       .rw[if_pos d,if_pos om]
       .rw[if_neg d,if_neg om];rfl
  | n v l r=>
   simp only[Tr.set,bg3];split
   .rename_i h0;subst h0;simp only[Tr.raw,bg3];split
    .rfl
    .rfl
   .rename_i h0;split
    .rename_i p;simp only[Tr.raw,bg3];by_cases g:j=0
     .subst g;rw[if_pos rfl,if_neg om];rfl
     .rw[if_neg g,if_neg g];split
      .rename_i o;rw[ih _ _ _ om];by_cases d:j=i
       .rw[if_pos d,if_pos om]
       .rw[if_neg d,if_neg om]
      .rw[if_neg om]
    .rename_i p;simp only[Tr.raw,bg3];by_cases g:j=0
     .subst g;rw[if_pos rfl,if_neg om];rfl
     .rw[if_neg g,if_neg g];split
      .rw[if_neg om]
      .rename_i o;rw[ih _ _ _ om];by_cases d:j=i
       .rw[if_pos d,if_pos om]
       .rw[if_neg d,if_neg om]
def Tr.ci8 (x:Option ez1)(f:Nat)(t:Tr)(i j:Nat)(h:i+1<2^f):(Tr.set x f t i).get j=if j=i then ez1.fin x else t.get j:=by
 unfold Tr.get;rw[Tr.jj4 x f t i j h];split<;>rfl
structure XSt where
 next:Nat
 t:Tr
 deriving Inhabited
def XSt.put (xs:XSt)(i:Nat)(x:Option ez1):Option XSt :=
 bif Nat.blt i 1152921504606846976 then za ⟨xs.next,xs.t.set x 64 i⟩ else zb
def XSt.st (xs:XSt):Store:=⟨xs.next,λi=>match xs.t.get i with|some (.o x)=>za x|_=>zb⟩
def XSt.gv7 {xs d:XSt}{i:Nat}{x:Option ez1}(h:xs.put i x=za d):d.next=xs.next/\∀j,d.t.get j=if j=i then ez1.fin x else xs.t.get j:=by
 unfold XSt.put at h
 cases e:Nat.blt i 1152921504606846976 with
 | false=>rw[e] at h;cases h
 | true=>
  rw[e] at h;cases h;have:i<1152921504606846976:=qi e;exact ⟨rfl,λj=>Tr.ci8 x 64 _ i j om⟩
def YR (P:Program)(E:Nat->IV)(id N:Nat)(fr:Frm)(ps:List Nat)(asg body:IC)(L:LoopState->Option JX->aj8):Prop :=
 ∀(σ':Store) (args:List IV) (K:IV->Store->Prop),args.length=ps.length->σ'.obj id=za (L .ready zb) ->
  RI P E N σ'.next asg (dj7 fr ps args) σ' (λe f s=>e=.normal/\s.obj id=za (L .ready zb)/\RI P E N σ'.next body f (s.put id (L .busy zb)) (db6 id L K))->CYd P E id args σ' K
abbrev Lam:=Nat->LoopState->Option JX->aj8
def XOR (P:Program)(E:Nat->IV)(Λ:Lam)(i:Nat):Option ez1->Option aj8->Prop
 | none,o=>o=zb
 | some (.o x),o=>o=za x
 | some (.app rev _ _),o=>o=za (.row rev.reverse.flatten)
 | some (.loop N fr ps asg body st pend),o=>o=za (Λ i st pend)/\YR P E i N fr ps asg body (Λ i)
structure XR (P:Program) (E:Nat->IV) (Λ:Lam) (xs:XSt) (σ:Store):Prop where
 next:xs.next=σ.next
 obj:∀i,XOR P E Λ i (xs.t.get i) (σ.obj i)
def XR.put {f:Lam}{xs d:XSt}{i:Nat}{x:aj8}(h:XR P E f xs σ)(hp:xs.put i (za (.o x))=za d):XR P E f d (σ.put i x):=by
 have⟨p,g⟩:=XSt.gv7 hp;refine ⟨by rw[p];exact h.next,λj=>?_⟩;rw[g,aa3];by_cases e:j=i
 .rw[if_pos e,if_pos e];rfl
 .rw[if_neg e,if_neg e];exact h.obj j
def XR.kill {f:Lam}{xs d:XSt}{i:Nat}(h:XR P E f xs σ)(hp:xs.put i zb=za d):XR P E f d (σ.kill i):=by
 have⟨o,g⟩:=XSt.gv7 hp;refine ⟨by rw[o];exact h.next,λj=>?_⟩;rw[g];show XOR P E f j _ (if j=i then zb else σ.obj j);by_cases e:j=i
 .rw[if_pos e,if_pos e];rfl
 .rw[if_neg e,if_neg e];exact h.obj j
def XR.get {d:Lam}{xs:XSt}{i:Nat}{x:aj8}(h:XR P E d xs σ)(e:xs.t.get i=za (.o x)):σ.obj i=za x:=by
 have:=h.obj i;rw[e] at this;exact this
def LeS (s σ:Store):Prop:=∀i x,s.obj i=za x->σ.obj i=za x
def XR.le {e:Lam}{xs:XSt}(h:XR P E e xs σ):LeS xs.st σ:=by
 intro i x d;simp only[XSt.st] at d;split at d
 .rename_i y f;cases d;exact h.get f
 .cases d
def au9:Nat->IV->Bool
 | 0,_=>false
 | n+1,v=>match v with
  | .ptr _ _|.slice _ _ _ _|.map _|.yield _|.ag6 _ _ _ _|.al2 _ _ _ _ _=>false
  | .ab5 cs=>cs.all (au9 n)
  | .aa2 es=>es.all λe=>e.all (au9 n)
  | .am2 es=>es.all λe=>au9 n e.1&&au9 n e.2
  | .func _ a b=>a.all (au9 n)&&b.all (au9 n)
  | .iface _ v=>au9 n v
  | .agg cs=>cs.all (au9 n)
  | .tuple cs=>cs.all (au9 n)
  | _=>true
def az5:∀(n:Nat) (v:IV),au9 n v=true->Bnd 0 v:=by
 intro n
 induction n with
 | zero=>intro v h;cases h
 | succ n ih=>
  intro v h;have g:∀ {cs:List IV},cs.all (au9 n)=true->∀c∈cs,Bnd 0 c:=λh c hc=>ih c (zi.1 h c hc)
  cases v with
  | undef=>exact .undef
  | bool b=>exact .bool b
  | int k x=>exact .int k x
  | str s=>exact .str s
  | ag2=>exact .ag2
  | ptr id off=>cases h
  | ab5 cs=>exact .ab5 cs (g h)
  | aa5=>exact .aa5
  | ad2=>exact .ad2
  | af7=>exact .af7
  | slice a b c d=>cases h
  | aa2 es=>exact .aa2 es λe i=>g (zi.1 h e i)
  | am1=>exact .am1
  | map id=>cases h
  | am2 es=>exact .am2 es (λe i=>ih _ (by have:=zi.1 h e i;simp at this;exact this.1)) (λe i=>ih _ (by have:=zi.1 h e i;simp at this;exact this.2))
  | func f a b=>
   simp only[au9,qa] at h
   exact .func f a b (g h.1) (g h.2)
  | yield id=>cases h
  | ai8=>exact .ai8
  | iface t v=>exact .iface t v (ih v h)
  | ah6=>exact .ah6
  | agg cs=>exact .agg cs (g h)
  | tuple cs=>exact .tuple cs (g h)
  | ag6 a b c d=>cases h
  | al2 a b c d e=>cases h
def ge6 {ρ:Rho}{w:World}{S:Nat->Bool}{id:Nat}{cs cs':List IV}(hs:Sim E ρ w σ)(hS:S id=true)(U:σ.obj id=za (.cells cs))(V:cs'.length=cs.length)
  (hc:∀i,i<cs.length->cs'.getD i .undef=cs.getD i .undef\/Frz σ (λi=>S i=true) (cs.getD i .undef) (cs'.getD i .undef)) :
  ∃j:Rho,Sim E j w ((σ.kills S).put id (.cells cs'))/\(∀n,Ext n ρ w j w):=by
 have⟨j,f,g,H⟩:=be4 (S:=S) hs;have p:(σ.kills S).obj id=za (.cells cs):=by simp[Store.kills,hS,U]
 refine ⟨j,⟨f.inj,f.lt,λi B d hi=>?_,λi hi=>?_,f.fresh,λi hi=>?_,f.env,f.nx,f.xlt⟩,g⟩
 .have⟨o,M,X⟩:=f.obj i B d hi;by_cases e:i=id
  .subst e;rw[p] at M;cases M;have⟨F,el,W,J,hv⟩:=X;refine ⟨.cells cs',by simp[Store.put],F,el,W,by rw[V];exact J,λk D=>?_⟩;rw[V] at D;rcases hc k D with e1|e1
   .rw[e1];exact hv k D
   ·-- what lay there before the blocks went
    have L:∃A,ρ i=.at B A:=by
     match hr:ρ i with
     | .no=>have:=(g (i+1)).no i (Nat.lt_succ_self _) hr;rw[hi] at this;cases this
     | .dead=>have:=(g 0).dead i hr;rw[hi] at this;cases this
     | .at B2 d2=>
      rcases (g 0).at_ i B2 d2 hr with h|h
      .rw[hi] at h;cases h;exact ⟨_,rfl⟩
      .rw[hi] at h;cases h
    have⟨A,r⟩:=L
    have hd:A=d:=by
     rcases (g 0).at_ i B A r with h|h
     .rw[hi] at h;cases h;rfl
     .rw[hi] at h;cases h
    subst hd;have⟨o2,Y,g2⟩:=hs.obj i B A r;rw[U] at Y;cases Y;have⟨T,aa,q,_,I⟩:=g2;rw[W] at q;cases q;exact H _ _ _ e1 (I k D)
  .exact ⟨o,by simp[Store.put,e,M],X⟩
 .have h0:=f.dead i hi;have:i≠id:=λe=>by subst e;rw[p] at h0;cases h0
  simp[Store.put,this,h0]
 .have h0:=f.aw6 i hi;have:i≠id:=λe=>by subst e;rw[p] at h0;cases h0
  simp[Store.put,this,h0]
def cw7 (E:Nat->IV)(σ:Store)(fr:Frm)(σ':Store)(fr':Frm):Prop :=
 ∀(ρ:Rho) (w:World),Sim E ρ w σ->∃ρd:Rho,Sim E ρd w σ'/\(∀n,Ext n ρ w ρd w)/\∀(N:Nat) (tmps:Array Value),FR ρ w N fr tmps->FR ρd w N fr' tmps
def cw7.trans {d:Store}{fr fr' e:Frm}(h:cw7 E σ fr σ' fr')(f:cw7 E σ' fr' d e):cw7 E σ fr d e:=λρ w hs=>
 let ⟨ρ1,a1,a2,a3⟩:=h ρ w hs;let ⟨ρ2,b1,b2,b3⟩:=f ρ1 w a1
 ⟨ρ2,b1,λn=>(a2 n).trans (b2 n) (zn _),λN tmps hf=>b3 N tmps (a3 N tmps hf)⟩
def cw7.refl (fr:Frm):cw7 E σ fr σ fr:=λρ w hs=>⟨ρ,hs,λn=>Ext.refl _ _ _,λ_ _ h=>h⟩
def cw7.of {S:Nat->Bool}{fr fr':Frm}(hf:∀t,fr'.get t=fr.get t\/Frz σ (λi=>S i=true) (fr.get t) (fr'.get t)):cw7 E σ fr (σ.kills S) fr':=λρ w hs=>by
 have⟨g,j,f,h⟩:=be4 (S:=S) hs;refine ⟨g,j,f,λN tmps d=>⟨d.size,λt=>?_⟩⟩;rcases hf t with e|e
 .rw[e];exact (d.get t).mono (f 0)
 .exact h _ _ _ e (d.get t)
def ik3 {L:IC}{n0:Nat}{fr fr':Frm}{Q:Exit->Frm->Store->Prop}(T:cw7 E σ fr σ' fr')(S:σ'.next=σ.next)(h:RI P E N n0 L fr' σ' Q):RI P E N n0 L fr σ Q:=by
 intro pf an c hc D M h0 ρ w a hs F U hr;have⟨g,r,j,hf⟩:=T ρ w hs;have d:=(j n0).weak (zn n0);refine wpIn_mono (h pf an c hc (by rw[S];exact D) M h0 g w a r (hf _ _ F) (U.mono d) (hr.mono d)) ?_;rintro e V w' ⟨J,f,i,B,q,p,H,I,A,o⟩;exact ⟨J,f,i,B,q,p,H,I,A,d.trans o⟩
end Go.Id
namespace Go.Id
open Go
variable {P:Program} {E:Nat->IV} {σ σ':Store} {N n n0:Nat} {fr:Frm}
inductive XE where
 | normal
 | exit (i:Nat)
 | ret
 deriving Inhabited
def XE.ex:XE->Exit
 | .normal=>.normal
 | .exit i=>.exit i
 | .ret=>.ret
abbrev RD:=Nat->Nat->List IV->XSt->Option (IV×XSt)
where
 jj9 (r:IV->IV->Bool):List IV->List IV->Bool
  | [],[]=>true
  | a::x,b::y=>r a b&&jj9 r x y
  | _,_=>false
 sameLL (r:IV->IV->Bool):List (List IV)->List (List IV)->Bool
  | [],[]=>true
  | a::x,b::y=>jj9 r a b&&sameLL r x y
  | _,_=>false
variable {rd:RD} {Λ:Lam} {xs xs':XSt}
def ge7 {pf:List Nat}{an:Ann}{c:Code}{i:Nat}{x:IC}(h:bh9 P pf N an c=za (.block i x)):∃a,c=.block i a/\bh9 P pf N an a=za x:=by
 cases c with
 | block id a=>have⟨_,d,h⟩:=map_some h;cases h;exact ⟨a,rfl,d⟩
 | scope a=>have⟨_,_,h⟩:=map_some h;cases h
 | region id ops draw=>simp only[bh9] at h;split at h<;>first|(cases h;done)|(split at h<;>first|(cases h;done)|(split at h<;>cases h))
 | seq a b=>simp only[bh9] at h;split at h<;>cases h
 | cond c a b=>simp only[bh9] at h;split at h<;>cases h
 | loop a=>have⟨_,_,h⟩:=map_some h;cases h
 | rangeFunc g ps assign body=>simp only[bh9] at h;split at h<;>first|(cases h;done)|(split at h<;>cases h)
 | _=>cases h
def gv9 {pf:List Nat}{an:Ann}{c:Code}{x:IC}(h:bh9 P pf N an c=za (.loop x)):∃a,c=.loop a/\bh9 P pf N an a=za x:=by
 cases c with
 | loop a=>have⟨_,d,h⟩:=map_some h;cases h;exact ⟨a,rfl,d⟩
 | region id ops draw=>simp only[bh9] at h;split at h<;>first|(cases h;done)|(split at h<;>first|(cases h;done)|(split at h<;>cases h))
 | seq a b=>simp only[bh9] at h;split at h<;>cases h
 | cond c a b=>simp only[bh9] at h;split at h<;>cases h
 | block id a=>have⟨_,_,h⟩:=map_some h;cases h
 | scope a=>have⟨_,_,h⟩:=map_some h;cases h
 | rangeFunc g ps assign body=>simp only[bh9] at h;split at h<;>first|(cases h;done)|(split at h<;>cases h)
 | _=>cases h
def aj4 {i:Nat}{x:IC}{Q:Exit->Frm->Store->Prop}(h:RI P E N n0 x fr σ (by2 i Q)):RI P E N n0 (.block i x) fr σ Q:=by
 intro pf an c hc;obtain ⟨a,rfl,d⟩:=ge7 hc;exact gr1 (h pf an a d)
def cx9 {x:IC}{Q:Exit->Frm->Store->Prop}(I:Nat->Frm->Store->Prop)(m:Nat)(h:I m fr σ)(e:∀m fr σ,I m fr σ->RI P E N n0 x fr σ (ew3 I m Q)):RI P E N n0 (.loop x) fr σ Q:=by
 intro pf an c hc;obtain ⟨a,rfl,d⟩:=gv9 hc;exact iy4 I m h λm fr σ hi=>e m fr σ hi pf an a d
end Go.Id
namespace Go.Id
open Go
variable {P:Program} {E:Nat->IV} {σ σ':Store}
inductive BT (V:Type) where
 | e
 | n (k:Nat) (v:V) (l r:BT V)
def BT.get {V:Type}:BT V->Nat->Option V
 | .e,_=>zb
 | .n k v l r,i=>bif qd i k then za v else bif Nat.ble i k then l.get i else r.get i
abbrev FE:=Nat×IC×List IR
def FOK (P:Program)(f:Nat)(e:FE):Prop:=okF P f=true/\∃pf an,iz4 P f e.1 pf an e.2.1 e.2.2
def FOK.mk {f N:Nat}{pf:List Nat}{an:Ann}{e:IC}{d:List IR}(h:okF P f=true)(hf:iz4 P f N pf an e d):FOK P f (N,e,d):=⟨h,pf,an,hf⟩
instance instIX (n:Nat):OfNat IX n:=⟨.t n⟩
def oQ (d:Nat)(q:IQ):af1:=⟨za d,zb,.q q⟩
def oM (d:Nat)(x:IX):af1:=⟨za d,zb,.q (.mov x)⟩
def oK (d:Nat)(k:IK):af1:=⟨za d,zb,k⟩
def gQ (d s:Nat)(w:Bool)(q:IQ):af1:=⟨za d,za (s,w),.q q⟩
def gK (d s:Nat)(w:Bool)(k:IK):af1:=⟨za d,za (s,w),k⟩
def oN (k:IK):af1:=⟨zb,zb,k⟩
def cI (n:Int):IX:=.c (.int .i64 n)
def cB (b:Bool):IX:=.c (.bool b)
def zI (n:Int):IV:=.int .i64 n
def zU (n:Int):IV:=.int .u8 n
def dd2:IC->Ann
 | .reg id _ keep=>[(id,keep)]
 | .ib9 id _ _ keep=>[(id,keep)]
 | .iy5 id _ keep=>[(id,keep)]
 | .seq a b=>dd2 a++dd2 b
 | .cond _ a b=>dd2 a++dd2 b
 | .block _ a=>dd2 a
 | .loop a=>dd2 a
 | .bz6 _ _ a b=>dd2 a++dd2 b
 | .scope a=>dd2 a
 | _=>[]
end Go.Id
namespace Go.Id
open Go
variable {H:Type} {enc:TypeId×Value->H} {P:Program} {w w':World} {base:Nat} {sp:Nat->Bool} {held:Bool} {ρ:Rho} {E:Nat->IV}
structure VL (ρ:Rho) (w:World) (ivs:List IV) (cs:List Value):Prop where
 len:ivs.length=cs.length
 get:∀i,i<ivs.length->VR ρ w (ivs.getD i .undef) (cs.getD i undef)
def dvF (r:TypeId->DataW H->Option (List IV))(P:Program):List (TypeId×Nat)->List (DataW H)->Nat->Option (List IV)
 | [],[],_=>za []
 | f::fs,d::ds,off=>if f.2=off then (match r f.1 d with
  | some a=>if a.length=P.cellsOf f.1 then (match dvF r P fs ds (off+P.cellsOf f.1) with
   | some b=>za (a++b)
   | none=>zb) else zb
  | none=>zb) else zb
 | _,_,_=>zb
def dvS (r:DataW H->Option (List IV))(c:Nat):List (DataW H)->Option (List (List IV))
 | []=>za []
 | d::ds=>match r d with
  | some a=>if a.length=c then (match dvS r c ds with
   | some b=>za (a::b)
   | none=>zb) else zb
  | none=>zb
def dvE (r:DataW H->Option (List IV))(x:Lit×DataW H):IV×IV:=match x.1,r x.2 with
 | .string bs,za [v]=>(.str bs,v)
 | _,_=>(.undef,.undef)
def dd3:List IV->Bool
 | []=>true
 | .str a::r=>(r.all fun|.str b=>!(a==b)|_=>false)&&dd3 r
 | _::_=>false
def flat (P:Program)(e:TypeId):Bool:=match P.underlying e with
 | some .bool|some (.int _)|some .string|some (.slice _)|some (.pointer _)=>true
 | _=>false
def dv (P:Program):Nat->TypeId->DataW H->Option (List IV)
 | 0,_,_=>zb
 | m+1,t,d=>match P.underlying t,d with
  | some .bool,.lit (.bool b)=>za [.bool b]
  | some (.int _),.lit (.int k n)=>za [.int k n]
  | some .string,.lit (.string bs)=>za [.str bs]
  | some (.pointer _),.nil=>za [.ag2]
  | some (.pointer e),.ptr d=>match dv P m e d with
   | some (c::cs)=>za [.ab5 (c::cs)]
   | _=>zb
  | some (.slice _),.nil=>za [.aa2 []]
  | some (.slice e),.slice els _=>if P.cellsOf e=0 then zb else match dvS (dv P m e) (P.cellsOf e) els with
   | some es=>za [.aa2 es]
   | none=>zb
  | some (.struct fs),.agg ds=>match dvF (dv P m) P (fs.toList.map λf=>(f.type,f.offset)) ds 0 with
   | some ivs=>if ivs.length=P.cellsOf t then za ivs else zb
   | none=>zb
  | some (.array n e),.agg ds=>match dvF (dv P m) P ((List.range n).map λi=>(e,i*P.cellsOf e)) ds 0 with
   | some ivs=>if ivs.length=P.cellsOf t then za ivs else zb
   | none=>zb
  | some (.map k e),.map es=>match P.underlying k with
   | some .string=>if flat P e&&dd3 (es.map λx=>(dvE (dv P m e) x).1) then za [.am2 (es.map (dvE (dv P m e)))] else zb
   | _=>zb
  | _,_=>zb
def cu5 {v:IV}{r:Value}(h:VR ρ w v r):VL ρ w [v] [r]:=⟨rfl,λi hi=>by
 have h0:i=0:=by simpa using hi
 rw[h0];exact h⟩
def ja2 {r:TypeId->DataW H->Option (List IV)} {rd:TypeId->List Value->DataW H->Prop} (hr:∀t cs d e,rd t cs d->r t d=za e->VL ρ w e cs) (cs:List Value) :
  ∀(j:List (TypeId×Nat)) (ds:List (DataW H)) (off:Nat) (e:List IV),j.length=ds.length ->
   (∀(i:Nat) (f:TypeId×Nat) (d:DataW H),j[i]? = za f->ds[i]? = za d->rd f.1 ((cs.drop f.2).take (P.cellsOf f.1)) d)->dvF r P j ds off=za e ->
   ∀i,i<e.length->off+i<cs.length/\VR ρ w (e.getD i .undef) (cs.getD (off+i) undef):=by
 intro j
 induction j with
 | nil=>
  intro ds off e B _ h
  cases ds with
  | nil=>cases h;intro i hi;simp at hi
  | cons d ds=>simp at B
 | cons f j ih=>
  intro ds off e B o h
  cases ds with
  | nil=>simp at B
  | cons d ds=>
   simp only[dvF] at h;split at h
   .rename_i p;split at h
    .rename_i a L;split at h
     .rename_i J;split at h
      .rename_i b I;cases h;have h0:=hr _ _ _ _ (o 0 f d rfl rfl) L;have q:=h0.len;rw[p] at h0 q;simp only[List.length_take,List.length_drop] at q;intro i hi;by_cases g:i<a.length
       .have A:=h0.get i g;have D:off+i<cs.length:=om;refine ⟨D,?_⟩;have e1:(a++b).getD i .undef=a.getD i .undef:=by simp[zc,qk,g]
        have e2:((cs.drop off).take (P.cellsOf f.1)).getD i undef=cs.getD (off+i) undef:=by
         have:i<P.cellsOf f.1:=om;simp[zc,List.getElem?_take,this,List.getElem?_drop]
        rw[e1,<- e2];exact A
       .have A:=ih ds _ b (by simpa using B) (λi M T hf F=>o (i+1) M T (by simpa using hf) (by simpa using F)) I (i-a.length) (by simp at hi;omega);have S:off+P.cellsOf f.1+(i-a.length)=off+i:=om;rw[S] at A;refine ⟨A.1,?_⟩;have e1:(a++b).getD i .undef=b.getD (i-a.length) .undef:=by simp[zc,qk,g]
        rw[e1];exact A.2
      .cases h
     .cases h
    .cases h
   .cases h
def jj5 {r:DataW H->Option (List IV)}{c:Nat}:∀(ds:List (DataW H)) (es:List (List IV)),dvS r c ds=za es->es.length=ds.length/\∀i,i<es.length->(es.getD i []).length=c/\∃d,ds[i]? = za d/\r d=za (es.getD i []):=by
 intro ds
 induction ds with
 | nil=>intro es h;cases h;exact ⟨rfl,λi hi=>by simp at hi⟩
 | cons d ds ih=>
  intro es h;simp only[dvS] at h;split at h
  .rename_i a g;split at h
   .rename_i e;split at h
    .rename_i b f;cases h;have⟨A,q⟩:=ih b f;refine ⟨by simp[A],λi hi=>?_⟩
     cases i with
     | zero=>exact ⟨e,d,rfl,g⟩
     | succ i=>
      have⟨p,B,o,j⟩:=q i (by simpa using hi);exact ⟨p,B,o,j⟩
    .cases h
   .cases h
  .cases h
def ez2 {es:List (IV×IV)}(h:dd3 (es.map (·.1))=true):da5 es:=by
 have:∀(l:List IV),dd3 l=true->l.Nodup/\∀v∈l,∃s,v=.str s:=by
  intro l
  induction l with
  | nil=>intro _;exact ⟨.nil,λ_ h=>by cases h⟩
  | cons v l ih=>
   intro h
   cases v with
   | str a=>
    simp only[dd3,qa] at h;have⟨h1,h2⟩:=ih h.2;refine ⟨List.nodup_cons.2 ⟨λhm=>?_,h1⟩,λv hv=>?_⟩
    .have:=zi.1 h.1 _ hm;simp at this
    .rcases zl.1 hv with rfl|hv
     .exact ⟨a,rfl⟩
     .exact h2 v hv
   | _=>cases h
 have⟨h1,h2⟩:=this _ h;refine ⟨h1,.str,λe he=>?_⟩;have⟨s,hs⟩:=h2 e.1 (qg.2 ⟨e,he,rfl⟩);rw[hs];trivial
def bq5 {a:Addr}{v:Value}(h:w.cell? a=za v):a.spot=zb/\a.block<w.heap.size:=by
 unfold World.cell? at h;split at h
 .rename_i c _ _ hb;split at h
  .cases h
  .rename_i hs;refine ⟨by simpa using hs,?_⟩;exact Nat.lt_of_not_le λhle=>by rw[zo hle] at hb;cases hb
 .cases h
def ge8:∀ {l:List IV},dd3 l=true->∀v∈l,∃s,v=.str s:=by
 intro l
 induction l with
 | nil=>intro _ _ h;cases h
 | cons v l ih=>
  intro h
  cases v with
  | str a=>
   simp only[dd3,qa] at h;intro v d;rcases zl.1 d with rfl|d
   .exact ⟨a,rfl⟩
   .exact ih h.2 v d
  | _=>cases h
def jj6 {k:TypeId}{v:Value}{d:List UInt8}(e:P.underlying k=za .string)(h:keyOf P k v=za (.string d)):v=.string ⟨d.toArray⟩:=by
 unfold keyOf mapKey at h;rw[e] at h
 cases v with
 | string s=>
  simp only at h;split at h
  .cases h;congr 1
  .cases h
 | _=>cases h
def ge9 {e:TypeId}{v:Value}(h:flat P e=true)(hf:v.formed P e=true):v.cells.toList=[v]:=by
 unfold flat at h
 cases v with
 | agg cs=>
  unfold Value.formed at hf
  split at h<;>simp_all
 | _=>rfl
def eb6 (hF:∀b,b<w.heap.size->FB ρ w b):∀(m n:Nat) (t:TypeId) (d:DataW H) (cs:List Value) (ps:List MemPlace) (ivs:List IV),
  DataW.trod enc P w base sp held n t cs=za (d,ps)->dv P m t d=za ivs->VL ρ w ivs cs:=by
 intro m
 induction m with
 | zero=>intro n t d cs ps ivs _ h;cases h
 | succ m ih=>
  intro n t d cs ps ivs h hd;unfold dv at hd;split at hd
  .rename_i b hu;obtain ⟨b',rfl,hx⟩:=DataW.trod_bool hu h;cases hx;cases hd;exact cu5 (.bool _)
  .rename_i k0 k n0 hu;obtain ⟨n',rfl,hx,_⟩:=DataW.trod_int hu h;cases hx;cases hd;exact cu5 (.int _ _)
  .rename_i bs hu;obtain ⟨s,rfl,hx,_⟩:=DataW.trod_string hu h;cases hx;cases hd;have:(⟨s.data.toList.toArray⟩:ByteArray)=s:=by cases s;simp
   exact cu5 (by have:=VR.str (ρ:=ρ) (w:=w) s.data.toList;simpa using this)
  .rename_i hu;cases hd;rcases DataW.trod_pointer hu h with ⟨rfl,_⟩|⟨a,cs',y,n',_,_,hx,_⟩
   .exact cu5 .ag2
   .cases hx
  .rename_i e d' hu;rcases DataW.trod_pointer hu h with ⟨_,hx⟩|⟨a,cs',y,n',rfl,rfl,hx,hc,hy⟩
   .cases hx
   .cases hx;split at hd
    .rename_i c0 cs0 hd0;cases hd;have hv:=ih n' e y.1 cs' y.2 (c0::cs0) hy hd0;have⟨_,hl,hcell⟩:=World.cells?_some hc;have hlen:=hv.len;simp only[z9] at hlen;have h0:=hcell 0 om;rw[zf om] at h0;have⟨h1,h2⟩:=bq5 h0;have ea:a.add 0=a:=rfl;rw[ea] at h1 h2;have⟨b,o,s⟩:=a;simp only at h1;subst h1;refine cu5 (.ab5 (c0::cs0) b o (λj=>cs'.getD j undef) (hF b h2) (λj hj=>?_) (λj hj=>hv.get j hj));simp only[z9] at hj;have hj':=hcell j om;have ej:(⟨b,o,zb⟩:Addr).add j=⟨b,o+j,zb⟩:=by unfold Addr.add;by_cases hj0:j=0<;>simp[hj0]
     rw[ej] at hj';rw[hj',zc,zf om];rfl
    .cases hd
  .rename_i e hu;cases hd;rcases DataW.trod_slice hu h with ⟨rfl,_⟩|⟨a,len,cap,elems,rest,n',_,_,hx,_⟩
   .exact cu5 .ci6
   .cases hx
  .rename_i e els rst hu;split at hd
   .cases hd
   .rename_i hc0;split at hd
    .rename_i es hes;cases hd;rcases DataW.trod_slice hu h with ⟨rfl,hx⟩|⟨a,len,cap,elems,rest,n',rfl,rfl,hx,_,hlc,_,hel,hcell,_,_⟩
     .cases hx
     .cases hx;have⟨g1,g2⟩:=jj5 _ _ hes;have hlen:es.length=len:=by rw[g1,List.length_map,hel]
      have key:∀i,i<es.length->∃ci p,w.cells? base (a.add (i*P.cellsOf e)) (P.cellsOf e)=za ci/\(es.getD i []).length=P.cellsOf e/\VL ρ w (es.getD i []) ci/\p=():=by
       intro i hi;have⟨g3,d',g4,g5⟩:=g2 i hi;have hc:=hcell i om;rw[z1] at g4
       cases hei:elems[i]? with
       | none=>rw[hei] at g4;cases g4
       | some x=>
        rw[hei] at g4 hc;cases g4;have⟨ci,hci,hx⟩:=Option.bind_eq_some_iff.1 hc;exact ⟨ci,(),hci,g3,ih n' e x.1 ci x.2 _ hx g5,rfl⟩
      have hF0:es≠[]->FB ρ w a.block/\a.spot=zb:=by
       intro hne;have h0:0<es.length:=List.length_pos_iff.2 hne;have⟨ci,_,hci,g3,_,_⟩:=key 0 h0;have⟨_,hl,hcc⟩:=World.cells?_some hci;have hcc0:=hcc 0 om;rw[zf om] at hcc0;have ea:(a.add (0*P.cellsOf e)).add 0=a:=by simp[Addr.add]
       rw[ea] at hcc0;have⟨h1,h2⟩:=bq5 hcc0;exact ⟨hF _ h2,h1⟩
      have hcells:∀i,i<es.length->∀j,j<P.cellsOf e->∃v,w.cell? ⟨a.block,a.off+(i*P.cellsOf e+j),zb⟩=za v/\VR ρ w ((es.getD i []).getD j .undef) v:=by
       intro i hi j hj;have⟨ci,_,hci,g3,g4,_⟩:=key i hi;have⟨_,hl,hcc⟩:=World.cells?_some hci;have hcj:=hcc j hj;have hsp:=(hF0 (by intro h0;rw[h0] at hi;simp at hi)).2
       have ea:(a.add (i*P.cellsOf e)).add j=⟨a.block,a.off+(i*P.cellsOf e+j),zb⟩:=by
        have⟨b,o,s⟩:=a;simp only at hsp;subst hsp;unfold Addr.add;by_cases h1:i*P.cellsOf e=0<;>by_cases h2:j=0<;>simp[h1,h2,Nat.add_assoc]
       rw[ea,zf om] at hcj;refine ⟨_,hcj,?_⟩;have:=g4.get j om;rw[zc (l:=ci),zf om] at this;exact this
      refine cu5 ?_;have⟨b,o,s⟩:=a;rw[<- hlen];refine .aa2 es b o cap (P.cellsOf e) s (λi j=>(w.cell? ⟨b,o+(i*P.cellsOf e+j),zb⟩).getD undef) hF0 (λi hi=>(g2 i hi).1) (λi hi j hj=>?_) (λi hi j hj=>?_) om
      .have⟨v,h1,_⟩:=hcells i hi j hj;simp only at h1;rw[h1];rfl
      .have⟨v,h1,h2⟩:=hcells i hi j hj;simp only at h1;rw[h1];exact h2
    .cases hd
  .rename_i fs ds hu;split at hd
   .rename_i ivs' hd';split at hd
    .rename_i hil;cases hd;obtain ⟨xs,n',rfl,hx,hlen,hxl,hfi⟩:=DataW.trod_struct hu h;cases hx
     have hg:=ja2 (P:=P) (rd:=λt cs d=>∃p,DataW.trod enc P w base sp held n' t cs=za (d,p)) (λt cs d ivs ⟨p,hp⟩ h=>ih n' t d cs p ivs hp h) cs _ _ 0 _ (by simp[hxl]) (λi f d hf hd=>by
      rw[z1] at hf hd
      cases hfi':fs.toList[i]? with
      | none=>rw[hfi'] at hf;cases hf
      | some f0=>
       rw[hfi'] at hf;cases hf;have:=hfi i f0 (by simpa using hfi')
       cases hxi:xs[i]? with
       | none=>rw[hxi] at hd;cases hd
       | some x=>rw[hxi] at hd this;cases hd;exact ⟨x.2,this⟩) hd'
     exact ⟨by rw[hil,hlen],λi hi=>by have:=(hg i hi).2;rwa [zj] at this⟩
    .cases hd
   .cases hd
  .rename_i k e ds hu;split at hd
   .rename_i ivs' hd';split at hd
    .rename_i hil;cases hd;obtain ⟨xs,n',rfl,hx,hlen,hxl,hfi⟩:=DataW.trod_array hu h;cases hx
     have hg:=ja2 (P:=P) (rd:=λt cs d=>∃p,DataW.trod enc P w base sp held n' t cs=za (d,p)) (λt cs d ivs ⟨p,hp⟩ h=>ih n' t d cs p ivs hp h) cs _ _ 0 _ (by simp[hxl]) (λi f d hf hd=>by
      rw[z1] at hf hd
      cases hfi':(List.range k)[i]? with
      | none=>rw[hfi'] at hf;cases hf
      | some f0=>
       rw[hfi'] at hf;cases hf;obtain ⟨hik,rfl⟩:=List.getElem?_eq_some_iff.1 hfi';simp only[List.length_range] at hik;have:=hfi i hik;simp only[List.getElem_range]
       cases hxi:xs[i]? with
       | none=>rw[hxi] at hd;cases hd
       | some x=>rw[hxi] at hd this;cases hd;exact ⟨x.2,this⟩) hd'
     exact ⟨by rw[hil,hlen],λi hi=>by have:=(hg i hi).2;rwa [zj] at this⟩
    .cases hd
   .cases hd
  .rename_i k e es hu;split at hd
   .rename_i hk;split at hd
    .rename_i hfn;cases hd;simp only[qa] at hfn;have⟨hfl,hnd⟩:=hfn;rcases WideElems.open_map hu h with ⟨_,hx⟩|⟨b,mes,clock,n',rfl,rfl,hb,_,F,hx⟩
     .cases hx
     .simp only[Prod.mk.injEq,DataW.map.injEq] at hx;have⟨hx,_⟩:=hx;have hlt:b<w.heap.size:=Nat.lt_of_not_le λhle=>by rw[zo hle] at hb;cases hb
      let g:Lit×DataW H->IV×IV:=dvE (dv P m e);let L:=mes.toList.map (WideElems.rg P k (WideElems.elemAt enc P w base sp held n' e));have hp:L.Perm es:=by rw[hx];exact (WideShapes.sorted_perm L).symm
      have hpg:(L.map g).Perm (es.map g):=hp.map g;have hko:da5 (es.map g):=ez2 (by rw[List.map_map];exact hnd)
      have ent:∀i,i<mes.size->VR ρ w ((L.map g).getD i (.undef,.undef)).1 (mes.getD i default).key/\VR ρ w ((L.map g).getD i (.undef,.undef)).2 (mes.getD i default).val:=by
       intro i hi
       have hmem:mes.getD i default∈mes.toList:=by
        have:=ad5 (default:MapEntry) (l:=mes.toList) (i:=i) (by simpa using hi)
        simpa [zc,zd] using this
       have⟨y,hy⟩:=F.reads _ hmem
       have e1:(L.map g).getD i (.undef,.undef)=g y:=by
        have:L[i]? = za y:=by
         simp only[L,z1];rw[show mes.toList[i]? = za (mes.getD i default) by simp[zd,hi]];exact congrArg za (WideElems.rg_of hy)
        simp[zc,this]
       rw[e1];have hyL:y∈L:=qg.2 ⟨_,hmem,WideElems.rg_of hy⟩;have hys:∃s,(g y).1=.str s:=ge8 hnd _ (qg.2 ⟨y,hp.mem_iff.1 hyL,rfl⟩);have hkey:=WideElems.rd_key hy;have⟨z,hz,hyz⟩:=WideElems.rd_val hy;simp only[g,dvE] at hys ⊢;split at hys
       .rename_i bs v hl hv;refine ⟨?_,?_⟩
        .rw[hl] at hkey;rw[jj6 hk hkey];exact .str _
        .generalize mes.getD i default=me at hz ⊢;unfold WideElems.elemAt at hz;split at hz
         .rename_i hform;have hvl:=ih n' e z.1 _ z.2 [v] hz (by rw[<- hyz];exact hv);have hcl:=ge9 hfl hform;rw[hcl] at hvl;exact hvl.get 0 sm
         .cases hz
       .have⟨_,hys⟩:=hys;cases hys
      have hsz:(L.map g).length=mes.size:=by simp[L]
      have⟨s1,s2,_⟩:=F.stamped;refine cu5 (.am2 (es.map g) (L.map g) b mes clock hpg hko (hF b hlt) hb hsz (λi hi=>(ent i om).1) (λi hi=>(ent i om).2) ?_ ?_)
      .intro i hi;refine s1 _ ?_;have:=ad5 (default:MapEntry) (l:=mes.toList) (i:=i) (by simpa using hi)
       simpa [zc,zd] using this
      .intro i j hij hj he;have:=(List.pairwise_iff_getElem.1 s2) i j (by simp;omega) (by simpa using hj) hij;simp only[List.getElem_map,Array.getElem_toList] at this;apply this;have hi:i<mes.size:=om
       simpa [zd,hi,hj] using he
    .cases hd
   .cases hd
  .cases hd
def gf1 (l:List (Nat×List IV))(g:Nat):IV:=match l.lookup g with
 | some cs=>.ab5 cs
 | none=>.undef
def gw1 {laid:List (String×DataW Unit)}(L:∀b,b<w.heap.size->FB ρ w b):∀(laid:List (String×DataW Unit)) (ps:List MemPlace),DataW.LaidVars P w laid ps->∀(name:String) (d:DataW Unit),(name,d)∈laid->∀(g:Nat) (t:TypeId) (m:Nat) (c:IV) (e:List IV),
  P.globalNamed name=za g->(P.globals[g]?).map (·.type)=za t->dv P m t d=za (c::e)->VR ρ w (.ab5 (c::e)) (.pointer (za ⟨g,0,zb⟩)):=by
 intro laid
 induction laid with
 | nil=>intro ps _ name d f;cases f
 | cons x r ih=>
  intro ps h name d f g t m c e I F J;have⟨W,X⟩:=x;have⟨g',Y,cs,A,p,q,M,V,U,T,S,_⟩:=h;rcases zl.1 f with f|f
  .cases f;obtain rfl:=za.inj (M.symm.trans I);obtain rfl:=za.inj (V.symm.trans F);have D:=eb6 L m A _ d _ p _ T J;have hc:=λi=>World.var?_cell M U i
   have o:=D.len;simp only[z9,Array.length_toList] at o;have h0:=hc 0;rw[qf om] at h0;refine .ab5 (c::e) _ 0 (λj=>cs.getD j undef) (L _ (bq5 h0).2) (λj B=>?_) (λj B=>?_)
   .simp only[z9] at B;rw[zj,hc j,qf om];simp[zd,show j<cs.size by omega]
   .have:=D.get j B
    simpa [zc,zd] using this
  .exact ih _ S name d f g t m c e I F J
def gm1:Rho:=⟨λ_=>.no,λ_=>False⟩
def dd4:∀b,b<w.heap.size->FB gm1 w b:=λb h=>⟨h,(λ_ _ h=>by cases h),λh=>h⟩
def kx4:Store:=⟨0,λ_=>zb⟩
def ik4 {laid:List (String×DataW Unit)}(h:laidMet P laid w)(l:List (Nat×List IV))
  (j:∀x∈l,∃(name:String) (d:DataW Unit) (t:TypeId) (m:Nat) (c:IV) (e:List IV),x.2=c::e/\(name,d)∈laid/\P.globalNamed name=za x.1/\(P.globals[x.1]?).map (·.type)=za t/\dv P m t d=za (c::e)) :
  ∀g,VR gm1 w (gf1 l g) (.pointer (za ⟨g,0,zb⟩)):=by
 intro g;unfold gf1
 cases f:l.lookup g with
 | none=>exact .undef _
 | some cs=>
  have⟨ps,i,_,_⟩:=h
  have r:(g,cs)∈l:=by
   clear j
   induction l with
   | nil=>cases f
   | cons x l ih=>
    have⟨a,b⟩:=x;simp only[List.lookup] at f;split at f
    .rename_i A;cases f;have:g=a:=by simpa using A
     rw[this];exact ql ..
    .exact qj _ (ih f)
  have⟨name,d,t,m,c,e,q,D,p,o,B⟩:=j _ r;simp only at q p o;rw[q];exact gw1 (laid:=laid) dd4 laid ps i name d D g t m c e p o B
def ld3 (h:∀g,VR gm1 w (E g) (.pointer (za ⟨g,0,zb⟩))):Sim E gm1 w kx4 :=
 ⟨(λ_ _ _ _ _ h=>by cases h),(λ_ _ _ h=>by cases h),(λ_ _ _ h=>by cases h),(λ_ h=>by cases h),(λ_ _=>rfl),(λ_ _=>rfl),h,(λ_ _ _ h=>by cases h),λ_ h=>h.elim⟩
def ik5 {f:FuncId}{args:List IV}{d:Array Value}{b:Bool}(h:PC P E f args (.bool b))(p:∀g,VR gm1 w (E g) (.pointer (za ⟨g,0,zb⟩)))(q:CR gm1 w args d) :
  Calls P f d w λe w'=>e=.returned (.bool b)/\RowKit.Below w.heap.size w w':=by
 refine callsIn_wide.1 (CallsIn.mono (h kx4 gm1 w d (ld3 p) q) ?_);rintro e w' ⟨v,r,ρ',σ',rfl,⟨rfl,rfl⟩,_,j,i⟩;cases j;exact ⟨rfl,i.os,i.tape,i.output,i.size,λk o=>i.keep k (dd4 k o).ub⟩
def eb7 {H:Type}{enc:TypeId×Value->H}{f:Func}{s:ChangeSpec}{i B h D:Bool}{W F:World}{args:Array Value}{v:Value}{ds L:List (DataW H)}{d pa pv:List MemPlace}
  (S:DataW.Whole enc P f.params.toList s.vars i W args.toList ds L d)
  (q:∀(b:Nat) (sp:Nat->Bool) (X:Bool),DataW.TrodAll enc P F b sp X f.resultTypes.toList (v.resultList f.resultTypes.size) (s.fn H (ds++L)).results [])
  (g:∀sp:Nat->Bool,(∀p∈d,sp p.block=true)->DataW.TrodAll enc P F 0 sp true f.params.toList args.toList (s.fn H (ds++L)).args pa)
  (e:∀sp:Nat->Bool,(∀p∈d,sp p.block=true)->DataW.TrodVars enc P F sp s.vars (s.fn H (ds++L)).vars pv)
  (o:d=pa++pv) (T:RowKit.Below W.heap.size W F)
  (M:∀(j:Nat) (t:TypeId) (r:Value),f.resultTypes[j]? = za t->(v.resultList f.resultTypes.size)[j]? = za r->Value.okWide P F .any 0 t r) :
  s.post enc P f i B h D W args v F:=by
 have I:∀p∈d,p.block<W.heap.size:=λp hp=>S.lt p hp
 have A:∀p∈d,(λb=>decide (b<W.heap.size)) p.block=true:=λp hp=>by simpa using I p hp
 refine ⟨ds,L,d,[],pa,pv,S,q _ _ _,g _ A,e _ A,World.keptBut_mono (λp hp=>⟨hp,?_⟩) (T.frame (·∈d)),λ_=>?_⟩
 .rw[o,List.mem_append] at hp;exact Or.inr hp
 .have⟨_,_,_,_,_,U,V⟩:=S;refine ⟨M,_,_,([]++pa)++pv,⟨[]++pa,pv,ChangeShapes.trodAll_append (g _ (λ_ _=>rfl)) (q _ _ _),e _ (λ_ _=>rfl),rfl,?_,?_⟩,?_⟩
  .intro b off hp;have J:MemPlace.cell b off∈d:=by rw[o];simpa using hp
   rw[T.frozen (I _ J)];exact U b off J
  .intro Y;have:=V Y;rw[o] at this
   simpa using this
  .intro p hp _;rw[o]
   simpa using hp
end Go.Id
namespace Go.Id
open Go
variable {P:Program} {E:Nat->IV}
def opsL:List (IV×IV):=[(.str [],.int .u8 0),(.str [60],.int .u8 1),(.str [60,61],.int .u8 3),(.str [61],.int .u8 2),(.str [62],.int .u8 4),(.str [62,61],.int .u8 6)]
def fc1 (op:Int):List UInt8:=if op=1 then [60] else if op=2 then [61] else if op=3 then [60,61] else if op=4 then [62] else if op=6 then [62,61] else []
def jb6 (g:Nat):IC :=
(.seq
 (.reg 0 [⟨(za 2),zb,(.q (.mov (.c (.str []))))⟩] [0])
 (.seq
 (.seq
  (.reg 1 [⟨(za 5),zb,(.q (.load zb (.g g)))⟩,⟨(za 6),zb,(.bo5 (.t 5))⟩] [0,6])
  (.block 0
  (.loop
   (.seq
   (.reg 2 [⟨(za 7),zb,(.dc5 (.t 6))⟩,⟨(za 8),zb,(.q (.ext 0 (.t 7)))⟩] [0,6,8])
   (.seq
    (.cond (.t 8)
    .skip
    (.exit 0))
    (.block 1
    (.seq
     (.reg 3 [⟨(za 9),zb,(.gu4 (.t 6))⟩,⟨(za 10),zb,(.q (.ext 0 (.t 9)))⟩,⟨(za 11),zb,(.q (.ext 1 (.t 9)))⟩,⟨(za 3),zb,(.q (.mov (.t 10)))⟩,⟨(za 4),zb,(.q (.mov (.t 11)))⟩] [0,3,4,6])
     (.seq
     (.reg 4 [⟨(za 12),zb,(.q (.mov (.t 4)))⟩,⟨(za 13),zb,(.q (.mov (.t 0)))⟩,⟨(za 14),zb,(.q (.bin .eql (.t 12) (.t 13)))⟩] [0,3,6,14])
     (.cond (.t 14)
      (.seq
      (.reg 5 [⟨(za 15),zb,(.q (.mov (.t 3)))⟩,⟨(za 2),zb,(.q (.mov (.t 15)))⟩] [2])
      .ret)
      .skip)))))))))
 (.seq
  (.reg 6 [⟨(za 2),zb,(.q (.mov (.c (.str []))))⟩] [2])
  .ret)))
def eo8 {f:Type}{d:f}{e:f}:∀ {l:List f} {j:Nat},e∈l->e∈l.eraseIdx j\/e=l.getD j d:=by
 intro l
 induction l with
 | nil=>intro j h;cases h
 | cons x l ih=>
  intro j h
  cases j with
  | zero=>
   rcases zl.1 h with rfl|h
   .exact .inr rfl
   .exact .inl h
  | succ j=>
   rcases zl.1 h with rfl|h
   .exact .inl (ql ..)
   .rcases ih (j:=j) h with h|h
    .exact .inl (qj _ h)
    .exact .inr h
structure TxI (σ0:Store) (n:Int) (id:Nat) (m:Nat) (fr:Frm) (σ:Store):Prop where
 f0:fr.get 0=.int .u8 n
 f6:fr.get 6=.ptr id 0
 next:σ0.next<=σ.next
 low:∀i,i<σ0.next->σ.obj i=σ0.obj i
 lt:σ0.next<=id
 obj:∃left cur,σ.obj id=za (.as9 left cur)/\left.length=m/\(∀e∈left,e∈opsL)/\∀e∈opsL,e.2=.int .u8 n->e∈left
def io1 {n:Int}{e:IV×IV}(h:e∈opsL)(d:e.2=.int .u8 n):e.1=.str (fc1 n):=by
 simp only[opsL,zl,List.not_mem_nil,or_false] at h;rcases h with rfl|rfl|rfl|rfl|rfl|rfl<;>cases d<;>rfl
def hd9 {n:Int}(h:∀e∈opsL,e.2≠.int .u8 n):fc1 n=[]:=by
 have j:=h (.str [60],.int .u8 1) (by simp[opsL]);have i:=h (.str [61],.int .u8 2) (by simp[opsL]);have g:=h (.str [60,61],.int .u8 3) (by simp[opsL]);have f:=h (.str [62],.int .u8 4) (by simp[opsL]);have d:=h (.str [62,61],.int .u8 6) (by simp[opsL]);simp only[ne_eq,IV.int.injEq,true_and] at j i g f d;simp[fc1,Ne.symm j,Ne.symm i,Ne.symm g,Ne.symm f,Ne.symm d]
def jl7 {f g:Nat}{pf:List Nat}{an:Ann}{n:Int}(hf:iz4 P f 16 pf an (jb6 g) [.t 2])(V:E g=.ab5 [.am2 opsL]):PC P E f [.int .u8 n] (.str (fc1 n)):=by
 refine ks4 noT hf (qi rfl) λσ hb=>?_
 simp only[jb6,dn7,dn8,ck7,bt4,dn9,ck8,do1,ck9,fx9,ju4,fx6,fx7,do2,cl1,do3,cl2,cl3,bt5,do4,w_q,cl4,fy1,fy2,cl5,fy3,cl7,bt6,cl6,do5,do6,do7,cl8,bt7,fy4,do8,fy5,do9,cl9,cm1,dp1,fy6,fy7,fy8,fy9,fz1,fz2,fz3,fz4,fz5,fz6,dp2,fz7,dp3,fz8,dp4,cm2,dp5,dp9,fz9,ju7,ju8,ga1,ga2,ga3,ga4,ga5,ga6,ga7,ga8,ga9,gb1,dq1,cm3,bt8,bj3,cm4,bt9,dp6,dp7,dp8,cm5,ju5,ju6,bj5,bu4,cn7,cn8,cn9,cn6,dr4,e_t,e_c,e_g,e_f,gb2,dq2,gb3,gb4,gb5,aj9,gb6,dq3,cm6,gb7,cm7,gb8,cm8,cm9,gb9,dq4,gc1,dq5,gc2,gc3,gc4,gc5,dq6,dq7,ey1,iz7,em1,ex9,cn1,cn2,dq8,dq9,cn3,cn4,ju9,bu1,dr1,dr2,dr3,bu2,cn5,bj4,bu3,bu5,co1,bu6,bu7,dr5,dr6,ey2,ey3,co2,co3,co4,co5,dr7,dr8,co6,bu8,gc6,gc7,gc8,gc9,gd1,gd2,gd3,gd4,gd5,gd6,gd7,em2,ey4,dc8,dr9,ds2,ds4,ds5,ds6,ds7,ds8,ds9,dt1,dc9,bm8,co7,co8,co9,dt2,dt3,dt4,dt5,gd8,gd9,dt6,ge1,cp1,cp3,cp4,ge4,bq3,iz8,du4,cp5,cp6,bu9,bx5,ce4,ge2,ey5,bv1,ge3,ey6,bv2,bv3,cp7,cp8,cp9,cq1,bv4,cq2,cq3,bv5,bj6,bd1,bv6,cq4,bv7,dt7,dt8,dt9,cq5,bv8,cq6,cq7,bv9,bj7,bd2,bw1,cq8,bw2,du1,du2,du3,zg,zh,z2,qb,zw,zk,zu,z5,z6,Frm.bt2,Frm.get_nil,aa7,aa3,decide_true,decide_false,zv,zt,zp,zm,zx,z3,z4,zy,zr,z8,z7,qc,qe,zj,zq,if_true,if_false,↓reduceIte,reduceCtorEq,true_and,and_true,V];refine iz5 noT (TxI σ n σ.next) opsL.length ⟨rfl,rfl,?_,?_,zn _,opsL,zb,?_,rfl,λ_ h=>h,λ_ h _=>h⟩ ?_
 .show σ.next<=σ.next+1;omega
 .intro i hi;simp only[aa3];rw[if_neg om]
 .simp only[aa3,if_true]
 .rintro m fr s ⟨f0,Y,L,J,h3,left,cur,X,h5,T,S⟩;have U:bp6 s (.ptr σ.next 0)=za (σ.next,left):=by simp only[bp6,X]
  simp only[dn7,dn8,ck7,bt4,dn9,ck8,do1,ck9,fx9,ju4,fx6,fx7,do2,cl1,do3,cl2,cl3,bt5,do4,w_q,cl4,fy1,fy2,cl5,fy3,cl7,bt6,cl6,do5,do6,do7,cl8,bt7,fy4,do8,fy5,do9,cl9,cm1,dp1,fy6,fy7,fy8,fy9,fz1,fz2,fz3,fz4,fz5,fz6,dp2,fz7,dp3,fz8,dp4,cm2,dp5,dp9,fz9,ju7,ju8,ga1,ga2,ga3,ga4,ga5,ga6,ga7,ga8,ga9,gb1,dq1,cm3,bt8,bj3,cm4,bt9,dp6,dp7,dp8,cm5,ju5,ju6,bj5,bu4,cn7,cn8,cn9,cn6,dr4,e_t,e_c,e_g,e_f,gb2,dq2,gb3,gb4,gb5,aj9,gb6,dq3,cm6,gb7,cm7,gb8,cm8,cm9,gb9,dq4,gc1,dq5,gc2,gc3,gc4,gc5,dq6,dq7,ey1,iz7,em1,ex9,cn1,cn2,dq8,dq9,cn3,cn4,ju9,bu1,dr1,dr2,dr3,bu2,cn5,bj4,bu3,bu5,co1,bu6,bu7,dr5,dr6,ey2,ey3,co2,co3,co4,co5,dr7,dr8,co6,bu8,gc6,gc7,gc8,gc9,gd1,gd2,gd3,gd4,gd5,gd6,gd7,em2,ey4,dc8,dr9,ds2,ds4,ds5,ds6,ds7,ds8,ds9,dt1,dc9,bm8,co7,co8,co9,dt2,dt3,dt4,dt5,gd8,gd9,dt6,ge1,cp1,cp3,cp4,ge4,bq3,iz8,du4,cp5,cp6,bu9,bx5,ce4,ge2,ey5,bv1,ge3,ey6,bv2,bv3,cp7,cp8,cp9,cq1,bv4,cq2,cq3,bv5,bj6,bd1,bv6,cq4,bv7,dt7,dt8,dt9,cq5,bv8,cq6,cq7,bv9,bj7,bd2,bw1,cq8,bw2,du1,du2,du3,zg,zh,z2,qb,zw,zk,zu,z5,z6,Frm.bt2,Frm.get_nil,aa7,aa3,decide_true,decide_false,zv,zt,zp,zm,zx,z3,z4,zy,zr,z8,z7,qc,qe,zj,zq,if_true,if_false,↓reduceIte,reduceCtorEq,true_and,and_true,f0,Y,U];constructor
  .intro h0;subst h0;have D:∀e∈opsL,e.2≠.int .u8 n:=λe B A=>by have:=S e B A;cases this
   refine ⟨λi hi=>J i hi,L,?_⟩;rw[hd9 D];exact .keep _ (.str _)
  .intro j M;have p:left.getD j (.undef,.undef)∈left:=ad5 _ M;have o:=T _ p;have q:∀c x,cw4 ⟨x,(s.put σ.next (.as9 (left.eraseIdx j) (za c))).obj⟩ (.ptr σ.next 0)=za (.tuple [c.1,c.2]):=λc x=>by simp only[cw4,aa3,if_true]
   generalize hc:left.getD j (.undef,.undef)=c at p o ⊢
   obtain ⟨k,F⟩:∃k,c.2=.int .u8 k:=by
    simp only[opsL,zl,List.not_mem_nil,or_false] at o;rcases o with rfl|rfl|rfl|rfl|rfl|rfl<;>exact ⟨_,rfl⟩
   simp only[q,dn7,dn8,ck7,bt4,dn9,ck8,do1,ck9,fx9,ju4,fx6,fx7,do2,cl1,do3,cl2,cl3,bt5,do4,w_q,cl4,fy1,fy2,cl5,fy3,cl7,bt6,cl6,do5,do6,do7,cl8,bt7,fy4,do8,fy5,do9,cl9,cm1,dp1,fy6,fy7,fy8,fy9,fz1,fz2,fz3,fz4,fz5,fz6,dp2,fz7,dp3,fz8,dp4,cm2,dp5,dp9,fz9,ju7,ju8,ga1,ga2,ga3,ga4,ga5,ga6,ga7,ga8,ga9,gb1,dq1,cm3,bt8,bj3,cm4,bt9,dp6,dp7,dp8,cm5,ju5,ju6,bj5,bu4,cn7,cn8,cn9,cn6,dr4,e_t,e_c,e_g,e_f,gb2,dq2,gb3,gb4,gb5,aj9,gb6,dq3,cm6,gb7,cm7,gb8,cm8,cm9,gb9,dq4,gc1,dq5,gc2,gc3,gc4,gc5,dq6,dq7,ey1,iz7,em1,ex9,cn1,cn2,dq8,dq9,cn3,cn4,ju9,bu1,dr1,dr2,dr3,bu2,cn5,bj4,bu3,bu5,co1,bu6,bu7,dr5,dr6,ey2,ey3,co2,co3,co4,co5,dr7,dr8,co6,bu8,gc6,gc7,gc8,gc9,gd1,gd2,gd3,gd4,gd5,gd6,gd7,em2,ey4,dc8,dr9,ds2,ds4,ds5,ds6,ds7,ds8,ds9,dt1,dc9,bm8,co7,co8,co9,dt2,dt3,dt4,dt5,gd8,gd9,dt6,ge1,cp1,cp3,cp4,ge4,bq3,iz8,du4,cp5,cp6,bu9,bx5,ce4,ge2,ey5,bv1,ge3,ey6,bv2,bv3,cp7,cp8,cp9,cq1,bv4,cq2,cq3,bv5,bj6,bd1,bv6,cq4,bv7,dt7,dt8,dt9,cq5,bv8,cq6,cq7,bv9,bj7,bd2,bw1,cq8,bw2,du1,du2,du3,zg,zh,z2,qb,zw,zk,zu,z5,z6,Frm.bt2,Frm.get_nil,aa7,aa3,decide_true,decide_false,zv,zt,zp,zm,zx,z3,z4,zy,zr,z8,z7,qc,qe,zj,zq,if_true,if_false,↓reduceIte,reduceCtorEq,true_and,and_true,F];by_cases r:k=n
   .subst r;simp only[dn7,dn8,ck7,bt4,dn9,ck8,do1,ck9,fx9,ju4,fx6,fx7,do2,cl1,do3,cl2,cl3,bt5,do4,w_q,cl4,fy1,fy2,cl5,fy3,cl7,bt6,cl6,do5,do6,do7,cl8,bt7,fy4,do8,fy5,do9,cl9,cm1,dp1,fy6,fy7,fy8,fy9,fz1,fz2,fz3,fz4,fz5,fz6,dp2,fz7,dp3,fz8,dp4,cm2,dp5,dp9,fz9,ju7,ju8,ga1,ga2,ga3,ga4,ga5,ga6,ga7,ga8,ga9,gb1,dq1,cm3,bt8,bj3,cm4,bt9,dp6,dp7,dp8,cm5,ju5,ju6,bj5,bu4,cn7,cn8,cn9,cn6,dr4,e_t,e_c,e_g,e_f,gb2,dq2,gb3,gb4,gb5,aj9,gb6,dq3,cm6,gb7,cm7,gb8,cm8,cm9,gb9,dq4,gc1,dq5,gc2,gc3,gc4,gc5,dq6,dq7,ey1,iz7,em1,ex9,cn1,cn2,dq8,dq9,cn3,cn4,ju9,bu1,dr1,dr2,dr3,bu2,cn5,bj4,bu3,bu5,co1,bu6,bu7,dr5,dr6,ey2,ey3,co2,co3,co4,co5,dr7,dr8,co6,bu8,gc6,gc7,gc8,gc9,gd1,gd2,gd3,gd4,gd5,gd6,gd7,em2,ey4,dc8,dr9,ds2,ds4,ds5,ds6,ds7,ds8,ds9,dt1,dc9,bm8,co7,co8,co9,dt2,dt3,dt4,dt5,gd8,gd9,dt6,ge1,cp1,cp3,cp4,ge4,bq3,iz8,du4,cp5,cp6,bu9,bx5,ce4,ge2,ey5,bv1,ge3,ey6,bv2,bv3,cp7,cp8,cp9,cq1,bv4,cq2,cq3,bv5,bj6,bd1,bv6,cq4,bv7,dt7,dt8,dt9,cq5,bv8,cq6,cq7,bv9,bj7,bd2,bw1,cq8,bw2,du1,du2,du3,zg,zh,z2,qb,zw,zk,zu,z5,z6,Frm.bt2,Frm.get_nil,aa7,aa3,decide_true,decide_false,zv,zt,zp,zm,zx,z3,z4,zy,zr,z8,z7,qc,qe,zj,zq,if_true,if_false,↓reduceIte,reduceCtorEq,true_and,and_true];refine ⟨λi hi=>by rw[if_neg om];exact J i hi,L,?_⟩;rw[io1 o F];exact .keep _ (.str _)
   .simp only[dn7,dn8,ck7,bt4,dn9,ck8,do1,ck9,fx9,ju4,fx6,fx7,do2,cl1,do3,cl2,cl3,bt5,do4,w_q,cl4,fy1,fy2,cl5,fy3,cl7,bt6,cl6,do5,do6,do7,cl8,bt7,fy4,do8,fy5,do9,cl9,cm1,dp1,fy6,fy7,fy8,fy9,fz1,fz2,fz3,fz4,fz5,fz6,dp2,fz7,dp3,fz8,dp4,cm2,dp5,dp9,fz9,ju7,ju8,ga1,ga2,ga3,ga4,ga5,ga6,ga7,ga8,ga9,gb1,dq1,cm3,bt8,bj3,cm4,bt9,dp6,dp7,dp8,cm5,ju5,ju6,bj5,bu4,cn7,cn8,cn9,cn6,dr4,e_t,e_c,e_g,e_f,gb2,dq2,gb3,gb4,gb5,aj9,gb6,dq3,cm6,gb7,cm7,gb8,cm8,cm9,gb9,dq4,gc1,dq5,gc2,gc3,gc4,gc5,dq6,dq7,ey1,iz7,em1,ex9,cn1,cn2,dq8,dq9,cn3,cn4,ju9,bu1,dr1,dr2,dr3,bu2,cn5,bj4,bu3,bu5,co1,bu6,bu7,dr5,dr6,ey2,ey3,co2,co3,co4,co5,dr7,dr8,co6,bu8,gc6,gc7,gc8,gc9,gd1,gd2,gd3,gd4,gd5,gd6,gd7,em2,ey4,dc8,dr9,ds2,ds4,ds5,ds6,ds7,ds8,ds9,dt1,dc9,bm8,co7,co8,co9,dt2,dt3,dt4,dt5,gd8,gd9,dt6,ge1,cp1,cp3,cp4,ge4,bq3,iz8,du4,cp5,cp6,bu9,bx5,ce4,ge2,ey5,bv1,ge3,ey6,bv2,bv3,cp7,cp8,cp9,cq1,bv4,cq2,cq3,bv5,bj6,bd1,bv6,cq4,bv7,dt7,dt8,dt9,cq5,bv8,cq6,cq7,bv9,bj7,bd2,bw1,cq8,bw2,du1,du2,du3,zg,zh,z2,qb,zw,zk,zu,z5,z6,Frm.bt2,Frm.get_nil,aa7,aa3,decide_true,decide_false,zv,zt,zp,zm,zx,z3,z4,zy,zr,z8,z7,qc,qe,zj,zq,if_true,if_false,↓reduceIte,reduceCtorEq,true_and,and_true,r];refine ⟨left.length-1,om,rfl,rfl,L,λi hi=>?_,zn _,left.eraseIdx j,za c,?_,?_,λe B=>T e (List.mem_of_mem_eraseIdx B),λe B A=>?_⟩
    .simp only[aa3];rw[if_neg om];exact J i hi
    .simp only[aa3,if_true]
    .rw[List.length_eraseIdx_of_lt M]
    .have W:=S e B A;rcases eo8 (d:=(IV.undef,IV.undef)) (j:=j) W with I|I
     .exact I
     .rw[I] at A;rw[hc,F] at A;cases A;exact absurd rfl r
end Go.Id
