/- A function compiled,whole: its code and its results. Conditions: none; over any program. -/
import Derived.Test.YtcdakaadeghccaaGreatDoorFwI
import Derived.WideKeyElems2
import Derived.OpenShut
import Derived.FnData
import Derived.Below
import Derived.ChangeSame
import Derived.CallsIn
import Derived.ChangeArms
import Derived.MakeChecks
open Option renaming some→za,none→zb
open List renaming getD_eq_getElem?_getD→zc,getElem?_eq_getElem→zf,getElem?_cons_zero→zg,getElem?_cons_succ→zh,all_eq_true→zi,drop_succ_cons→zk,mem_cons→zl,cons_append→zo,nil_append→zr,head?_cons→zt,append_nil→zu,drop_zero→zv,getElem?_map→z0,all_cons→z2,length_cons→z9,all_nil→qb,mem_map→qg,mem_cons_of_mem→qj,getElem?_append→qk,mem_cons_self→ql
open Array renaming getD_eq_getD_getElem?→zd,getElem?_eq_none→zn,getElem?_eq_getElem→qf
open Nat renaming not_lt_zero→ze,zero_add→zj,succ_ne_zero→zp,reduceEqDiff→zq,lt_of_lt_of_le→zy,le_refl→z1,reduceMul→z7,reduceAdd→z8,reduceLT→qc,add_zero→qd,beq→qe,lt_or_ge→qh,le_of_ble_eq_true→qi
open Bool renaming false_eq_true→zm,xor_false→zw,not_false→zx,xor_true→z3,not_true→z4,and_true→z5,and_self→z6,and_eq_true→qa
open Classical renaming propDecidable→zz
set_option linter.all false
private theorem om{P:Prop}(h:P:=by omega):P:=h
namespace Go.Id
open Go
variable {P:Program} {w w' w'':World} {ρ ρ' ρ'':Rho} {E:Nat->IV} {σ σ':Store} {N n n':Nat} {fr:Frm} {a:Act} {pf:List Nat}
inductive IR where
 | t (n:Nat)
 | cell (agg:Option Nat) (n:Nat)
 deriving Inhabited
def jt3 (P:Program):ResultVar->Option IR
 | .tmp t=>za (.t t)
 | .cell ad t=>match ap7 P t with
  | some agg=>za (.cell agg ad)
  | none=>zb
def fi9 (P:Program):List ResultVar->Option (List IR)
 | []=>za []
 | r::rs=>match jt3 P r,fi9 P rs with
  | some x,za xs=>za (x::xs)
  | _,_=>zb
def irV (σ:Store)(fr:Frm):IR->Option IV
 | .t n=>za (fr.get n)
 | .cell agg n=>aw4 σ agg (fr.get n)
def irL (σ:Store)(fr:Frm):List IR->Option (List IV)
 | []=>za []
 | r::rs=>match irV σ fr r,irL σ fr rs with
  | some v,za vs=>za (v::vs)
  | _,_=>zb
theorem ia9:∀ (rs:List ResultVar) (irs:List IR),fi9 P rs=za irs->gz1 P σ fr rs=irL σ fr irs:=by
 intro rs
 induction rs with
 | nil=>intro irs h; cases h; rfl
 | cons r rs ih=>
  intro irs h;simp only[fi9] at h;split at h
  ·rename_i x xs hx hxs;cases h
   have h1:jj9 P σ fr r=irV σ fr x:=by
    cases r with
    | tmp t=>cases hx; rfl
    | cell ad t=>
     simp only[jt3] at hx;split at hx
     ·rename_i agg hagg;cases hx;simp[jj9,irV,hagg]
     ·cases hx
   simp only[gz1,irL,h1,ih _ hxs];cases irV σ fr x<;>cases irL σ fr xs<;>rfl
  ·cases h
def ib5 (P:Program)(f N:Nat)(pf:List Nat)(an:Ann)(ic:IC)(irs:List IR):Prop :=
 ∃ fn,P.funcs[f]? = za fn/\fn.ntmps=N/\fn.body.bind (be7 P pf N an)=za ic/\fi9 P fn.results.toList=za irs
theorem ac7 {f:Nat}{fn:Func}{an:Ann}{ic:IC}{irs:List IR}(h:P.funcs[f]? = za fn)(hN:fn.ntmps=N)(hc:fn.body.bind (be7 P pf N an)=za ic)(hr:fi9 P fn.results.toList=za irs):ib5 P f N pf an ic irs :=
 ⟨fn,h,hN,hc,hr⟩
def jt4 (irs:List IR)(Qc:IV->Store->Prop):Exit->Frm->Store->Prop
 | .normal,fr,σ|.ret,fr,σ=>∃ vs,irL σ fr irs=za vs/\Qc (fi3 vs) σ
 | _,_,_=>False
theorem kd5 {f:Nat}{an:Ann}{ic:IC}{irs:List IR}{args:List IV}{Qc:IV->Store->Prop}(hf:ib5 P f N pf an ic irs)(hl:args.length<=N)
  (h:wpI P E N σ.next ic (bk5 args 0) σ (jt4 irs Qc)):C P E f args σ Qc:=by
 obtain ⟨fn,h1,h2,h3,h4⟩:=hf
 cases hb:fn.body with
 | none=>rw[hb] at h3; cases h3
 | some c=>
  rw[hb] at h3;refine ja6 h1 hb h2 hl ((bm2 ic _ _ _ h pf an c h3).mono ?_);intro e fr' σ' q;cases e<;>first|(obtain ⟨vs,q1,q2⟩:=q; exact ⟨vs,by rw[ia9 _ _ h4]; exact q1,q2⟩)|exact q
end Go.Id
namespace Go.Id
open Go
theorem Frm.get_nil (t:Nat):Frm.get [] t=.undef:=by unfold Frm.get; simp
theorem Frm.bp7 (t s:Nat)(v:IV)(fr:Frm):Frm.get ((t,v)::fr) s=if s=t then v else Frm.get fr s:=Frm.ce4 fr t s v
end Go.Id
namespace Go.Id
open Go
universe u
variable {P:Program} {E:Nat->IV} {σ σ':Store} {N n n0:Nat} {fr:Frm} {a:Act} {pf:List Nat}
abbrev PT:=Nat->List IV->Option IV
abbrev CT:=Nat->List IV->Store->Option (IV->Store->Prop)
structure TOK (P:Program) (E:Nat->IV) (pt:PT) (ct:CT):Prop where
 p:∀ f args v,pt f args=za v->PC P E f args v
 c:∀ f args σ Q,ct f args σ=za Q->okF P f=true/\C P E f args σ Q
def noP:PT:=fun _ _=>zb
def noC:CT:=fun _ _ _=>zb
theorem noT:TOK P E noP noC:=⟨(fun _ _ _ h=>by cases h),(fun _ _ _ _ h=>by cases h)⟩
theorem fj1 {f:Nat}{args:List IV}:noP f args=zb:=by unfold noP; grind
theorem fj3 {f:Nat}{args:List IV}:noC f args σ=zb:=by unfold noC; grind
def bw6 {α:Type}:Option α->(α->Prop)->Prop
 | some v,K=>K v
 | none,_=>False
def ik9:IV->(Bool->Prop)->Prop
 | .bool b,K=>K b
 | _,_=>False
def gt4 (v:IV)(want:Bool)(A B:Prop):Prop :=
 match gy7 v want with
 | some true=>A
 | some false=>B
 | none=>False
theorem eb6 {v:IV}{want:Bool}{A B:Prop}(h:gt4 v want A B):∃ act,gy7 v want=za act/\if act=true then A else B:=by
 unfold gt4 at h
 grind
theorem ao2 {α:Type}{o:Option α}{K:α->Prop}(h:bw6 o K):∃ v,o=za v/\K v:=by
 cases o with
 | none=>exact h.elim
 | some v=>exact ⟨v,rfl,h⟩
theorem fj4 {o:IV}{K:Bool->Prop}(h:ik9 o K):∃ b,o=.bool b/\K b:=by
 cases o<;>first|exact ⟨_,rfl,h⟩|exact h.elim
def cx6 (P:Program)(E:Nat->IV)(o:Option (IV->Store->Prop))(f:Nat)(args:List IV)(σ:Store)(K:IV->Store->Prop):Prop :=
 match o with
 | some Q=>∀ v s,Q v s->σ.next<=s.next/\K v s
 | none=>∃ Q,(okF P f=true/\C P E f args σ Q)/\∀ v s,Q v s->σ.next<=s.next/\K v s
def gz9 (P:Program)(E:Nat->IV)(o:Option IV)(f:Nat)(args:List IV)(σ:Store)(K:IV->Store->Prop):Prop :=
 match o with
 | some v=>K v σ
 | none=>∃ v,PC P E f args v/\K v σ
def opT (pt:PT)(ct:CT)(P:Program)(E:Nat->IV)(op:IK)(id:Nat)(fr:Frm)(σ:Store)(K:IV->Store->Prop):Prop :=
 match op with
 | .q q=>bw6 (evq E fr σ q) fun v=>K v σ
 | .alloc z=>K (.ptr id 0) (σ.put id (.cells z))
 | .box x=>(x.ev E fr).cs.all IV.leaf=true/\K (.ptr id 0) (σ.put id (.cells (x.ev E fr).cs))
 | .bsl esz n z parts=>bw6 (as8 (rep z n) (parts.map fun p=>(p.1,p.2.1,p.2.2.ev E fr))) fun out=>K (.slice id 0 n esz) (σ.put id (.row out))
 | .store sz x y=>bw6 (ar1 σ sz (x.ev E fr) (y.ev E fr)) fun σ'=>K .undef σ'
 | .bm5 x=>match x.ev E fr with
  | .str s=>K (.ptr id 0) (σ.put id (.bd8 s 0))
  | _=>False
 | .dc3 x=>bw6 (bl9 σ (x.ev E fr)) fun r=>K r.1 r.2
 | .bu8=>K (.map id) (σ.put id (.map []))
 | .dw4 tag x k v=>bw6 (aw8 σ tag (x.ev E fr) (k.ev E fr) (v.ev E fr)) fun σ'=>K .undef σ'
 | .app esz s x=>bw6 (as5 σ id esz (s.ev E fr) (x.ev E fr)) fun r=>K r.1 r.2
 | .call f args=>cx6 P E (ct f (args.map (·.ev E fr)) σ) f (args.map (·.ev E fr)) σ K
 | .bi6 f args=>gz9 P E (pt f (args.map (·.ev E fr))) f (args.map (·.ev E fr)) σ K
 | .cx2 x args=>match x.ev E fr with
  | .func (.func f) first cap=>cx6 P E (ct f (first++args.map (·.ev E fr)++cap) σ) f (first++args.map (·.ev E fr)++cap) σ K
  | .yield i=>∃ Q,CV P E (.yield i) (args.map (·.ev E fr)) σ Q/\∀ v σ',Q v σ'->σ.next<=σ'.next/\K v σ'
  | _=>False
 | .ax8 esz n z parts=>bw6 (as8 (rep z n) (parts.map fun p=>(p.1,p.2.1,p.2.2.ev E fr))) fun out=>K (.aa4 (chunk esz n out)) σ
 | .dc4 x=>(x.ev E fr).cs.all IV.leaf=true/\K (.ab5 (x.ev E fr).cs) σ
 | .bf4 x=>match x.ev E fr with
  | .an9 es=>K (.ptr id 0) (σ.put id (.ar8 es zb))
  | _=>False
 | .cs6 x=>bw6 (bm1 σ (x.ev E fr)) fun r=>(r.2=[]->K (.tuple [.bool false]) σ) /\
   ∀ j,j<r.2.length->K (.tuple [.bool true,(r.2.getD j (.undef,.undef)).1,(r.2.getD j (.undef,.undef)).2]) (σ.put r.1 (.ar8 (r.2.eraseIdx j) (za (r.2.getD j (.undef,.undef)))))
 | .fw8 x=>bw6 (cs3 σ (x.ev E fr)) fun v=>K v σ
 | .dr2 esz z x=>bw6 (dp8 (x.ev E fr)) fun n=>K (.slice id 0 n esz) (σ.put id (.row (rep z n)))
 | .clr esz z x=>bw6 (gb2 σ esz z (x.ev E fr)) fun σ'=>σ'.next=σ.next/\K .undef σ'
 | .st k xs=>bw6 (stI k id σ (xs.map (·.ev E fr))) fun r=>K r.1 r.2
theorem de6 {pt:PT}{ct:CT}(hT:TOK P E pt ct){f:Nat}{args:List IV}{K:IV->Store->Prop}(h:cx6 P E (ct f args σ) f args σ K):∃ Q,(okF P f=true/\C P E f args σ Q)/\∀ v s,Q v s->σ.next<=s.next/\K v s:=by
 cases ho:ct f args σ with
 | none=>rw[ho] at h; exact h
 | some Q=>rw[ho] at h; exact ⟨Q,hT.c _ _ _ Q ho,h⟩
theorem bz9 {pt:PT}{ct:CT}(hT:TOK P E pt ct){op:IK}{id:Nat}{K:IV->Store->Prop}(h:opT pt ct P E op id fr σ K):opR P E op id fr σ K:=by
 cases op with
 | q q=>exact ao2 h
 | alloc z=>exact h
 | box x=>exact h
 | bsl e n z ps=>exact ao2 h
 | store e x y=>exact ao2 h
 | app e s x=>exact ao2 h
 | bu8=>exact h
 | bm5 x=>
  simp only[opT] at h;split at h
  ·rename_i s he; exact ⟨s,he,h⟩
  grind
 | dc3 x=>exact ao2 h
 | dw4 t x y z=>exact ao2 h
 | call f xs=>
  obtain ⟨Q,h1,h2⟩:=de6 hT h
  exact ⟨Q,h1.2,h2⟩
 | bi6 f xs=>
  simp only[opT] at h
  cases ho:pt f (xs.map (·.ev E fr)) with
  | none=>rw[ho] at h; exact h
  | some v=>rw[ho] at h; exact ⟨v,hT.p _ _ _ ho,h⟩
 | cx2 x xs=>
  simp only[opT] at h;split at h
  ·rename_i f first cap he
   obtain ⟨Q,h1,h2⟩:=de6 hT h;refine ⟨Q,?_,h2⟩;rw[he];exact h1
  ·rename_i i he;rw[<- he] at h;exact h
  grind
 | ax8 e n z ps=>exact ao2 h
 | dc4 x=>exact h
 | bf4 x=>
  simp only[opT] at h;split at h
  ·rename_i s he; exact ⟨s,he,h⟩
  grind
 | cs6 x=>
  obtain ⟨⟨i,l⟩,h1,h2⟩:=ao2 h
  exact ⟨i,l,h1,h2⟩
 | fw8 x=>exact ao2 h
 | dr2 e z x=>exact ao2 h
 | clr e z x=>exact ao2 h
 | st k xs=>exact ao2 h
def ca1 (pt:PT) (ct:CT) (P:Program) (E:Nat->IV):List af7->Nat->Frm->Store->(Frm->Store->Prop)->Prop
 | [],_,fr,σ,K=>K fr σ
 | o::rest,id,fr,σ,K=>
  match o.guard with
  | none=>opT pt ct P E o.op id fr σ fun v σ'=>ca1 pt ct P E rest (if o.op.lays then id+1 else id) (fr.bc2 o.dst v) σ' K
  | some (s,want)=>gt4 (fr.get s) want (opT pt ct P E o.op id fr σ fun v σ'=>ca1 pt ct P E rest (if o.op.lays then id+1 else id) (fr.bc2 o.dst v) σ' K)
    (ca1 pt ct P E rest (if o.op.lays then id+1 else id) (fr.bc2 o.dst skV) σ K)
theorem em2 {pt:PT}{ct:CT}(hT:TOK P E pt ct):∀ (ops:List af7) (id:Nat) (fr:Frm) (σ:Store) (K:Frm->Store->Prop),ca1 pt ct P E ops id fr σ K->bz4 P E ops id fr σ K:=by
 intro ops
 induction ops with
 | nil=>intro id fr σ K h; exact h
 | cons o os ih=>
  intro id fr σ K h;obtain ⟨d,g,op⟩:=o
  cases g with
  | none=>
   simp only[ca1,bz4] at h ⊢
   exact ⟨true,rfl,bc4 (fun v s k=>ih _ _ _ _ k) (bz9 hT h)⟩
  | some p=>
   obtain ⟨s,want⟩:=p;simp only[ca1,bz4] at h ⊢;obtain ⟨act,ha,h⟩:=eb6 h;refine ⟨act,ha,?_⟩
   cases act with
   | true=>
    rw[if_pos rfl] at h ⊢
    exact bc4 (fun v s k=>ih _ _ _ _ k) (bz9 hT h)
   | false=>
    grind
def bw7 (E:Nat->IV)(fr:Frm)(σ:Store):IK->Prop
 | .q (.load _ x)=>match x.ev E fr with
  | .ab5 _=>True
  | .ptr i _=>match σ.obj i with
   | some (.cells _)=>True
   | _=>False
  | _=>False
 | _=>True
theorem de7 {op:IK}(h:bw7 E fr σ op):be2 E fr σ op:=by
 cases op with
 | q q=>
  cases q with
  | load ag x=>
   simp only[bw7,be2] at h ⊢
   grind
  | _=>trivial
 | _=>trivial
def bm6 (pt:PT) (ct:CT) (P:Program) (E:Nat->IV) (B:Bool):List af7->Nat->Frm->Store->(Frm->Store->Prop)->Prop
 | [],_,fr,σ,K=>K fr σ
 | o::rest,id,fr,σ,K=>
  match o.guard with
  | none=>(B=true->bw7 E fr σ o.op)/\opT pt ct P E o.op id fr σ fun v σ'=>bm6 pt ct P E B rest (id+1) (fr.bc2 o.dst v) σ' K
  | some (s,want)=>gt4 (fr.get s) want ((B=true->bw7 E fr σ o.op)/\opT pt ct P E o.op id fr σ fun v σ'=>bm6 pt ct P E B rest (id+1) (fr.bc2 o.dst v) σ' K)
    (bm6 pt ct P E B rest (id+1) (fr.bc2 o.dst skV) σ K)
theorem em3 {pt:PT}{ct:CT}(hT:TOK P E pt ct){B:Bool}{base:Nat}:∀ (ops:List af7) (i:Nat) (fr:Frm) (σ:Store) (K:Frm->Store->Prop),bm6 pt ct P E B ops (base+i) fr σ K->bw5 P E B (fh6 base i ops) fr σ K:=by
 intro ops
 induction ops with
 | nil=>intro i fr σ K h; exact h
 | cons o os ih=>
  intro i fr σ K h;obtain ⟨d,g,op⟩:=o
  cases g with
  | none=>
   simp only[bm6] at h
   exact ⟨true,rfl,bc4 (fun v s k=>ih _ _ _ _ k) (bz9 hT h.2),fun hb=>de7 (h.1 hb)⟩
  | some p=>
   obtain ⟨s,want⟩:=p;simp only[bm6] at h;obtain ⟨act,ha,h⟩:=eb6 h;refine ⟨act,ha,?_⟩
   cases act with
   | true=>exact ⟨bc4 (fun v s k=>ih _ _ _ _ k) (bz9 hT h.2),fun hb=>de7 (h.1 hb)⟩
   | false=>grind
def wpT (pt:PT)(ct:CT)(P:Program)(E:Nat->IV)(N n0:Nat):IC->Frm->Store->(Exit->Frm->Store->Prop)->Prop
 | .skip,fr,σ,Q=>Q .normal fr σ
 | .reg _ ops keep,fr,σ,Q=>ca1 pt ct P E ops σ.next fr ⟨σ.next+bz5 ops,σ.obj⟩ (fun fr' σ'=>Q .normal (fr'.keep keep) σ')
 | .gw6 _ ops B keep,fr,σ,Q=>bm6 pt ct P E B ops σ.next fr ⟨σ.next+ops.length,σ.obj⟩ (fun fr' σ'=>Q .normal (fr'.keep keep) σ')
 | .ix2 _ ops keep,fr,σ,Q=>fh9 P E (js8 σ.next ops) [] fr { σ with next:=σ.next+ops.length } (fun fr' σ'=>Q .normal (fr'.keep keep) σ')
 | .seq a b,fr,σ,Q=>wpT pt ct P E N n0 a fr σ (fun e fr' σ'=>match e with|.normal=>wpT pt ct P E N n0 b fr' σ' Q|e=>Q e fr' σ')
 | .cond x a b,fr,σ,Q=>ik9 (x.ev E fr) fun t=>if t=true then wpT pt ct P E N n0 a fr σ Q else wpT pt ct P E N n0 b fr σ Q
 | .block id a,fr,σ,Q=>wpT pt ct P E N n0 a fr σ (bv3 id Q)
 | .loop a,fr,σ,Q=>RI P E N n0 (.loop a) fr σ Q
 | .exit id,fr,σ,Q=>Q (.exit id) fr σ
 | .ret,fr,σ,Q=>Q .ret fr σ
 | .bm3 g ps y a,fr,σ,Q=>RI P E N n0 (.bm3 g ps y a) fr σ Q
 | .scope a,fr,σ,Q=>wpT pt ct P E N n0 a fr σ (gb4 Q)
theorem ca2:∀ (ic:IC) (fr:Frm) (σ:Store) (Q Q':Exit->Frm->Store->Prop),(∀ e f s,Q e f s->Q' e f s)->wpI P E N n0 ic fr σ Q->wpI P E N n0 ic fr σ Q':=by
 have hrops:∀ (ops:List af7) (id:Nat) (fr:Frm) (σ:Store) (K K':Frm->Store->Prop),(∀ f s,K f s->K' f s)->bz4 P E ops id fr σ K->bz4 P E ops id fr σ K':=by
  intro ops
  induction ops with
  | nil=>intro id fr σ K K' hk h; exact hk _ _ h
  | cons o os ih=>
   intro id fr σ K K' hk h;simp only[bz4] at h ⊢;obtain ⟨act,ha,h⟩:=h;refine ⟨act,ha,?_⟩
   cases act with
   | true=>
    rw[if_pos rfl] at h ⊢
    exact bc4 (fun v s k=>ih _ _ _ _ _ hk k) h
   | false=>
    grind
 have htree:∀ (its:List Item) (B:Bool) (fr:Frm) (σ:Store) (K K':Frm->Store->Prop),(∀ f s,K f s->K' f s)->bw5 P E B its fr σ K->bw5 P E B its fr σ K':=by
  intro its
  induction its with
  | nil=>intro B fr σ K K' hk h; exact hk _ _ h
  | cons it its ih=>
   intro B fr σ K K' hk h;obtain ⟨i,o,id⟩:=it;obtain ⟨act,ha,hh⟩:=h;refine ⟨act,ha,?_⟩
   cases act with
   | true=>exact ⟨bc4 (fun v s k=>ih _ _ _ _ _ hk k) hh.1,hh.2⟩
   | false=>grind
 intro ic
 induction ic with
 | skip=>intro fr σ Q Q' hq h; exact hq _ _ _ h
 | reg id ops keep=>intro fr σ Q Q' hq h; exact hrops _ _ _ _ _ _ (fun f s k=>hq _ _ _ k) h
 | gw6 id ops B keep=>intro fr σ Q Q' hq h; exact htree _ _ _ _ _ _ (fun f s k=>hq _ _ _ k) h
 | ix2 id ops keep=>intro fr σ Q Q' hq h; exact fi1 _ _ _ _ (fun f s k=>hq _ _ _ k) h
 | seq x y ihx ihy=>
  intro fr σ Q Q' hq h;refine ihx _ _ _ _ ?_ h
  grind
 | cond x a b iha ihb=>
  intro fr σ Q Q' hq h;obtain ⟨t,ht,h⟩:=h;refine ⟨t,ht,?_⟩
  grind
 | block id x ih=>
  intro fr σ Q Q' hq h;refine ih _ _ _ _ ?_ h;intro e f s k
  cases e with
  | exit i=>simp only[bv3] at k ⊢; grind
  | _=>exact hq _ _ _ k
 | scope x ih=>
  intro fr σ Q Q' hq h;refine ih _ _ _ _ ?_ h;intro e f s k
  cases e with
  | goto l=>exact k
  | _=>exact hq _ _ _ k
 | loop x ih=>intro fr σ Q Q' hq h; exact be1 h hq
 | exit id=>intro fr σ Q Q' hq h; exact hq _ _ _ h
 | bm3 g ps y x ihy ih=>intro fr σ Q Q' hq h; exact be1 h hq
 | ret=>intro fr σ Q Q' hq h; exact hq _ _ _ h
theorem bf5 {pt:PT}{ct:CT}(hT:TOK P E pt ct):∀ (ic:IC) (fr:Frm) (σ:Store) (Q:Exit->Frm->Store->Prop),wpT pt ct P E N n0 ic fr σ Q->wpI P E N n0 ic fr σ Q:=by
 intro ic
 induction ic with
 | skip=>intro fr σ Q h; exact h
 | reg id ops keep=>intro fr σ Q h; exact em2 hT _ _ _ _ _ h
 | gw6 id ops B keep=>intro fr σ Q h; exact em3 hT _ 0 _ _ _ h
 | ix2 id ops keep=>intro fr σ Q h; exact h
 | seq x y ihx ihy=>
  intro fr σ Q h;have h1:=ihx _ _ _ (show wpT pt ct P E N n0 x fr σ _ from h);refine ca2 x fr σ _ (fun e fr' σ'=>match e with|.normal=>wpI P E N n0 y fr' σ' Q|e=>Q e fr' σ') ?_ h1
  grind
 | cond x a b iha ihb=>
  intro fr σ Q h;obtain ⟨t,ht,h⟩:=fj4 h;refine ⟨t,ht,?_⟩
  grind
 | block id x ih=>intro fr σ Q h; exact ih _ _ _ h
 | scope x ih=>intro fr σ Q h; exact ih _ _ _ h
 | loop x ih=>intro fr σ Q h; exact h
 | exit id=>intro fr σ Q h; exact h
 | ret=>intro fr σ Q h; exact h
 | bm3 g ps y x ihy ih=>intro fr σ Q h; exact h
def gt5 (irs:List IR)(Qc:IV->Store->Prop):Exit->Frm->Store->Prop
 | .normal,fr,σ|.ret,fr,σ=>bw6 (irL σ fr irs) fun vs=>Qc (fi3 vs) σ
 | _,_,_=>False
theorem de8 {irs:List IR}{Qc:IV->Store->Prop}{e:Exit}(h:gt5 irs Qc e fr σ):jt4 irs Qc e fr σ:=by
 cases e<;>first|exact ao2 h|exact h
theorem C_T {pt:PT}{ct:CT}(hT:TOK P E pt ct){f:Nat}{an:Ann}{ic:IC}{irs:List IR}{args:List IV}{Qc:IV->Store->Prop}(hf:ib5 P f N pf an ic irs)(hl:args.length<=N)
  (h:wpT pt ct P E N σ.next ic (bk5 args 0) σ (gt5 irs Qc)):C P E f args σ Qc :=
 kd5 hf hl (ca2 _ _ _ _ _ (fun _ _ _ k=>de8 k) (bf5 hT _ _ _ _ h))
theorem kd6 {pt:PT}{ct:CT}(hT:TOK P E pt ct){f:Nat}{an:Ann}{ic:IC}{irs:List IR}{args:List IV}{v:IV}(hf:ib5 P f N pf an ic irs)(hl:args.length<=N)
  (h:∀ σ,wpT pt ct P E N σ.next ic (bk5 args 0) σ (gt5 irs fun v' σ'=>v'=v/\σ'=σ)):PC P E f args v :=
 fun σ=>C_T hT hf hl (h σ)
theorem ib6 {pt:PT}{ct:CT}(hT:TOK P E pt ct){x:IC}{Q:Exit->Frm->Store->Prop}(I:Nat->Frm->Store->Prop)(m:Nat)(h:I m fr σ)(hI:∀ m fr σ,I m fr σ->wpT pt ct P E N n0 x fr σ (ek7 I m Q)):RI P E N n0 (.loop x) fr σ Q :=
 gb5 I m h fun m fr σ hi=>bf5 hT _ _ _ _ (hI m fr σ hi)
theorem nr {α:Sort u}{a b:α}(h:a=b):a=b:=h
def il1 (o:Option IV)(σ:Store)(K:IV->Store->Prop):Prop:=bw6 o fun v=>K v σ
def jb6 (o:Option Store)(K:IV->Store->Prop):Prop:=bw6 o fun s=>K .undef s
def jb7 (o:Option (IV×Store))(K:IV->Store->Prop):Prop:=bw6 o fun r=>K r.1 r.2
def jb8 (v:IV)(σ:Store):IV->Store->Prop:=fun v' σ'=>v'=v/\σ'=σ
def jt5 (o:Option (List IV))(id n esz:Nat)(σ:Store)(K:IV->Store->Prop):Prop:=bw6 o fun out=>K (.slice id 0 n esz) (σ.put id (.row out))
def ge7 (ct:CT)(P:Program)(E:Nat->IV)(x:IV)(args:List IV)(σ:Store)(K:IV->Store->Prop):Prop:=match x with
 | .func (.func f) first cap=>cx6 P E (ct f (first++args++cap) σ) f (first++args++cap) σ K
 | .yield i=>∃ Q,CV P E (.yield i) args σ Q/\∀ v σ',Q v σ'->σ.next<=σ'.next/\K v σ'
 | _=>False
def ha5 (pt:PT)(ct:CT)(P:Program)(E:Nat->IV)(rest:List af7)(id:Nat)(d:Option Nat)(fr:Frm)(K:Frm->Store->Prop):IV->Store->Prop:=fun v σ'=>ca1 pt ct P E rest id (fr.bc2 d v) σ' K
def em4 (pt:PT)(ct:CT)(P:Program)(E:Nat->IV)(B:Bool)(rest:List af7)(id:Nat)(d:Option Nat)(fr:Frm)(K:Frm->Store->Prop):IV->Store->Prop:=fun v σ'=>bm6 pt ct P E B rest id (fr.bc2 d v) σ' K
def il2 (ks:List Nat)(Q:Exit->Frm->Store->Prop):Frm->Store->Prop:=fun fr σ=>Q .normal (fr.keep ks) σ
def iv1 (pt:PT)(ct:CT)(P:Program)(E:Nat->IV)(v:IV)(want:Bool)(op:IK)(id:Nat)(fr:Frm)(σ:Store)(K:IV->Store->Prop):Prop:=gt4 v want (opT pt ct P E op id fr σ K) (K skV σ)
def fw9 (pt:PT)(ct:CT)(P:Program)(E:Nat->IV)(B:Bool)(v:IV)(want:Bool)(op:IK)(id:Nat)(fr:Frm)(σ:Store)(K:IV->Store->Prop):Prop:=gt4 v want ((B=true->bw7 E fr σ op)/\opT pt ct P E op id fr σ K) (K skV σ)
def il3 (pt:PT)(ct:CT)(P:Program)(E:Nat->IV)(N n0:Nat)(v:IV)(a b:IC)(fr:Frm)(σ:Store)(Q:Exit->Frm->Store->Prop):Prop:=ik9 v fun t=>if t=true then wpT pt ct P E N n0 a fr σ Q else wpT pt ct P E N n0 b fr σ Q
def jk1 (pt:PT)(ct:CT)(P:Program)(E:Nat->IV)(N n0:Nat)(b:IC)(Q:Exit->Frm->Store->Prop):Exit->Frm->Store->Prop:=fun e fr' σ'=>match e with
 | .normal=>wpT pt ct P E N n0 b fr' σ' Q
 | e=>Q e fr' σ'
variable {pt:PT} {ct:CT} {id want:Nat} {K:IV->Store->Prop} {Kf:Frm->Store->Prop} {Q:Exit->Frm->Store->Prop} {v:IV} {c:Prop} [Decidable c]
theorem de9 {α:Type}(v:α)(K:α->Prop):bw6 (za v) K=K v:=nr rfl
theorem df1 (v:IV):il1 (za v) σ K=K v σ:=nr rfl
theorem cf8 (v:IV):il1 (if c then za v else zb) σ K=(c/\K v σ):=by by_cases h:c<;>simp[h,il1,bw6]
theorem bp8 (v:IV):il1 (if c then zb else za v) σ K=(¬ c/\K v σ):=by by_cases h:c<;>simp[h,il1,bw6]
theorem df2:jb6 (za σ) K=K .undef σ:=nr rfl
theorem cf9:jb6 (if c then za σ else zb) K=(c/\K .undef σ):=by by_cases h:c<;>simp[h,jb6,bw6]
theorem df3 (v:IV):jb7 (za (v,σ)) K=K v σ:=nr rfl
theorem cg1 (v:IV):jb7 (if c then za (v,σ) else zb) K=(c/\K v σ):=by by_cases h:c<;>simp[h,jb7,bw6]
theorem fj5 {f:Nat}{args:List IV}(v:IV):cx6 P E (za (jb8 v σ')) f args σ K=(σ.next<=σ'.next/\K v σ'):=propext ⟨fun h=>h v σ' ⟨rfl,rfl⟩,fun h v' s' ⟨e1,e2⟩=>by grind⟩
theorem iv2 {f:Nat}{args:List IV}(v:IV):gz9 P E (za v) f args σ K=K v σ:=nr rfl
theorem aa8 {f:Nat}{args:List IV}{v:IV}(h:PC P E f args v)(hk:K v σ):gz9 P E zb f args σ K:=⟨v,h,hk⟩
theorem aq1 {f:Nat}{args:List IV}{Qc:IV->Store->Prop}(ho:okF P f=true)(h:C P E f args σ Qc)(hk:∀ v s,Qc v s->σ.next<=s.next/\K v s):cx6 P E zb f args σ K:=⟨Qc,⟨ho,h⟩,hk⟩
theorem df4 {n esz:Nat}(out:List IV):jt5 (za out) id n esz σ K=K (.slice id 0 n esz) (σ.put id (.row out)):=nr rfl
theorem cg2 (f:Nat)(first cap args:List IV):ge7 ct P E (.func (.func f) first cap) args σ K=cx6 P E (ct f (first++args++cap) σ) f (first++args++cap) σ K:=nr rfl
theorem df5 {rest:List af7}{d:Nat}(v:IV):ha5 pt ct P E rest id (za d) fr Kf v σ=ca1 pt ct P E rest id ((d,v)::fr) σ Kf:=nr rfl
theorem cg3 {rest:List af7}(v:IV):ha5 pt ct P E rest id zb fr Kf v σ=ca1 pt ct P E rest id fr σ Kf:=nr rfl
theorem cg5 {B:Bool}{rest:List af7}{d:Nat}(v:IV):em4 pt ct P E B rest id (za d) fr Kf v σ=bm6 pt ct P E B rest id ((d,v)::fr) σ Kf:=nr rfl
theorem bp9 {B:Bool}{rest:List af7}(v:IV):em4 pt ct P E B rest id zb fr Kf v σ=bm6 pt ct P E B rest id fr σ Kf:=nr rfl
theorem df6 {ks:List Nat}:il2 ks Q fr σ=Q .normal (fr.keep ks) σ:=nr rfl
theorem w_q {q:IQ}:opT pt ct P E (.q q) id fr σ K=il1 (evq E fr σ q) σ K:=nr rfl
theorem cg6 {z:List IV}:opT pt ct P E (.alloc z) id fr σ K=K (.ptr id 0) (σ.put id (.cells z)):=nr rfl
theorem fj6 {x:IX}:opT pt ct P E (.box x) id fr σ K=((x.ev E fr).cs.all IV.leaf=true/\K (.ptr id 0) (σ.put id (.cells (x.ev E fr).cs))):=nr rfl
theorem fj7 {esz n:Nat}{z:List IV}{ps:List (Nat×Nat×IX)}:opT pt ct P E (.bsl esz n z ps) id fr σ K=jt5 (as8 (rep z n) (ps.map fun p=>(p.1,p.2.1,p.2.2.ev E fr))) id n esz σ K:=nr rfl
theorem cg7 {sz:Nat}{x y:IX}:opT pt ct P E (.store sz x y) id fr σ K=jb6 (ar1 σ sz (x.ev E fr) (y.ev E fr)) K:=nr rfl
def jt6 (v:IV)(id:Nat)(σ:Store)(K:IV->Store->Prop):Prop:=match v with
 | .str s=>K (.ptr id 0) (σ.put id (.bd8 s 0))
 | _=>False
theorem df7 {s:List UInt8}:jt6 (.str s) id σ K=K (.ptr id 0) (σ.put id (.bd8 s 0)):=nr rfl
theorem bq1 {x:IX}:opT pt ct P E (.bm5 x) id fr σ K=jt6 (x.ev E fr) id σ K:=nr rfl
theorem cg8 {x:IX}:opT pt ct P E (.dc3 x) id fr σ K=jb7 (bl9 σ (x.ev E fr)) K:=nr rfl
theorem cg9:opT pt ct P E .bu8 id fr σ K=K (.map id) (σ.put id (.map [])):=nr rfl
theorem df8 {tag:Nat}{x k y:IX}:opT pt ct P E (.dw4 tag x k y) id fr σ K=jb6 (aw8 σ tag (x.ev E fr) (k.ev E fr) (y.ev E fr)) K:=nr rfl
theorem fj8 {esz:Nat}{s x:IX}:opT pt ct P E (.app esz s x) id fr σ K=jb7 (as5 σ id esz (s.ev E fr) (x.ev E fr)) K:=nr rfl
theorem df9 {f:Nat}{args:List IX}:opT pt ct P E (.call f args) id fr σ K=cx6 P E (ct f (args.map (·.ev E fr)) σ) f (args.map (·.ev E fr)) σ K:=nr rfl
theorem ch1 {f:Nat}{args:List IX}:opT pt ct P E (.bi6 f args) id fr σ K=gz9 P E (pt f (args.map (·.ev E fr))) f (args.map (·.ev E fr)) σ K:=nr rfl
theorem bq2 {x:IX}{args:List IX}:opT pt ct P E (.cx2 x args) id fr σ K=ge7 ct P E (x.ev E fr) (args.map (·.ev E fr)) σ K:=nr rfl
theorem fj9:ca1 pt ct P E [] id fr σ Kf=Kf fr σ:=nr rfl
theorem dg1 {d:Option Nat}{op:IK}{rest:List af7}:ca1 pt ct P E (⟨d,zb,op⟩::rest) id fr σ Kf=opT pt ct P E op id fr σ (ha5 pt ct P E rest (if op.lays then id+1 else id) d fr Kf):=nr rfl
theorem fk1 {d:Option Nat}{op:IK}{rest:List af7}{s:Nat}{want:Bool}:ca1 pt ct P E (⟨d,za (s,want),op⟩::rest) id fr σ Kf=iv1 pt ct P E (fr.get s) want op id fr σ (ha5 pt ct P E rest (if op.lays then id+1 else id) d fr Kf):=nr rfl
theorem dg2 {B:Bool}:bm6 pt ct P E B [] id fr σ Kf=Kf fr σ:=nr rfl
theorem ch2 {d:Option Nat}{op:IK}{rest:List af7}:bm6 pt ct P E false (⟨d,zb,op⟩::rest) id fr σ Kf=opT pt ct P E op id fr σ (em4 pt ct P E false rest (id+1) d fr Kf):=by
 have:bm6 pt ct P E false (⟨d,zb,op⟩::rest) id fr σ Kf=((false=true->bw7 E fr σ op)/\opT pt ct P E op id fr σ (em4 pt ct P E false rest (id+1) d fr Kf)):=nr rfl;rw[this]; simp
theorem ch3 {d:Option Nat}{op:IK}{rest:List af7}:bm6 pt ct P E true (⟨d,zb,op⟩::rest) id fr σ Kf=(bw7 E fr σ op/\opT pt ct P E op id fr σ (em4 pt ct P E true rest (id+1) d fr Kf)):=by
 have:bm6 pt ct P E true (⟨d,zb,op⟩::rest) id fr σ Kf=((true=true->bw7 E fr σ op)/\opT pt ct P E op id fr σ (em4 pt ct P E true rest (id+1) d fr Kf)):=nr rfl;rw[this]; simp
theorem dg3 {B:Bool}{d:Option Nat}{op:IK}{rest:List af7}{s:Nat}{want:Bool}:bm6 pt ct P E B (⟨d,za (s,want),op⟩::rest) id fr σ Kf=fw9 pt ct P E B (fr.get s) want op id fr σ (em4 pt ct P E B rest (id+1) d fr Kf):=nr rfl
theorem fk2 {op:IK}:iv1 pt ct P E (.bool true) true op id fr σ K=opT pt ct P E op id fr σ K:=nr rfl
theorem fk3 {op:IK}:iv1 pt ct P E (.bool false) false op id fr σ K=opT pt ct P E op id fr σ K:=nr rfl
theorem fk4 {op:IK}:iv1 pt ct P E (.bool true) false op id fr σ K=K skV σ:=nr rfl
theorem fk5 {op:IK}:iv1 pt ct P E (.bool false) true op id fr σ K=K skV σ:=nr rfl
theorem fk6 {op:IK}:fw9 pt ct P E false (.bool true) true op id fr σ K=opT pt ct P E op id fr σ K:=by simp[fw9,gt4,gy7]
theorem fk7 {op:IK}:fw9 pt ct P E false (.bool false) false op id fr σ K=opT pt ct P E op id fr σ K:=by simp[fw9,gt4,gy7]
theorem fk8 {B:Bool}{op:IK}:fw9 pt ct P E B (.bool true) false op id fr σ K=K skV σ:=nr rfl
theorem fk9 {B:Bool}{op:IK}:fw9 pt ct P E B (.bool false) true op id fr σ K=K skV σ:=nr rfl
theorem fl1 {op:IK}:fw9 pt ct P E true (.bool true) true op id fr σ K=(bw7 E fr σ op/\opT pt ct P E op id fr σ K):=by simp[fw9,gt4,gy7]
theorem fl2 {op:IK}:fw9 pt ct P E true (.bool false) false op id fr σ K=(bw7 E fr σ op/\opT pt ct P E op id fr σ K):=by simp[fw9,gt4,gy7]
theorem iv3 {op:IK}{want:Bool}:iv1 pt ct P E skV want op id fr σ K=K skV σ:=nr rfl
theorem iv4 {B want:Bool}{op:IK}:fw9 pt ct P E B skV want op id fr σ K=K skV σ:=nr rfl
theorem dg4:wpT pt ct P E N n0 .skip fr σ Q=Q .normal fr σ:=nr rfl
theorem fl3 {i:Nat}{ops:List af7}{ks:List Nat}:wpT pt ct P E N n0 (.reg i ops ks) fr σ Q=ca1 pt ct P E ops σ.next fr ⟨σ.next+bz5 ops,σ.obj⟩ (il2 ks Q):=nr rfl
theorem dg5 {i:Nat}{ops:List af7}{B:Bool}{ks:List Nat}:wpT pt ct P E N n0 (.gw6 i ops B ks) fr σ Q=bm6 pt ct P E B ops σ.next fr ⟨σ.next+ops.length,σ.obj⟩ (il2 ks Q):=nr rfl
theorem fl4 {x y:IC}:wpT pt ct P E N n0 (.seq x y) fr σ Q=wpT pt ct P E N n0 x fr σ (jk1 pt ct P E N n0 y Q):=nr rfl
theorem dg6 {i:IX}{x y:IC}:wpT pt ct P E N n0 (.cond i x y) fr σ Q=il3 pt ct P E N n0 (i.ev E fr) x y fr σ Q:=nr rfl
theorem ch4 {i:Nat}{x:IC}:wpT pt ct P E N n0 (.block i x) fr σ Q=wpT pt ct P E N n0 x fr σ (bv3 i Q):=nr rfl
theorem dg7 {x:IC}:wpT pt ct P E N n0 (.loop x) fr σ Q=RI P E N n0 (.loop x) fr σ Q:=nr rfl
theorem ch5 {g:IX}{ps:List Nat}{x y:IC}:wpT pt ct P E N n0 (.bm3 g ps y x) fr σ Q=RI P E N n0 (.bm3 g ps y x) fr σ Q:=nr rfl
def ge8 (v:IV)(id:Nat)(σ:Store)(K:IV->Store->Prop):Prop:=match v with
 | .an9 es=>K (.ptr id 0) (σ.put id (.ar8 es zb))
 | _=>False
def ib7 (o:Option (Nat×List (IV×IV)))(σ:Store)(K:IV->Store->Prop):Prop:=bw6 o fun r=>(r.2=[]->K (.tuple [.bool false]) σ) /\
   ∀ j,j<r.2.length->K (.tuple [.bool true,(r.2.getD j (.undef,.undef)).1,(r.2.getD j (.undef,.undef)).2]) (σ.put r.1 (.ar8 (r.2.eraseIdx j) (za (r.2.getD j (.undef,.undef)))))
theorem bq3 {x:IX}:opT pt ct P E (.bf4 x) id fr σ K=ge8 (x.ev E fr) id σ K:=nr rfl
theorem bf6 {es:List (IV×IV)}:ge8 (.an9 es) id σ K=K (.ptr id 0) (σ.put id (.ar8 es zb)):=nr rfl
theorem ch6 {x:IX}:opT pt ct P E (.cs6 x) id fr σ K=ib7 (bm1 σ (x.ev E fr)) σ K:=nr rfl
theorem bq4 {i:Nat}{l:List (IV×IV)}:ib7 (za (i,l)) σ K=((l=[]->K (.tuple [.bool false]) σ) /\
   ∀ j,j<l.length->K (.tuple [.bool true,(l.getD j (.undef,.undef)).1,(l.getD j (.undef,.undef)).2]) (σ.put i (.ar8 (l.eraseIdx j) (za (l.getD j (.undef,.undef)))))):=nr rfl
theorem dg8 {x:IX}:opT pt ct P E (.fw8 x) id fr σ K=il1 (cs3 σ (x.ev E fr)) σ K:=nr rfl
theorem dg9 {x:IX}:opT pt ct P E (.dc4 x) id fr σ K=((x.ev E fr).cs.all IV.leaf=true/\K (.ab5 (x.ev E fr).cs) σ):=nr rfl
def jb9 (o:Option (List IV))(esz n:Nat)(σ:Store)(K:IV->Store->Prop):Prop:=bw6 o fun out=>K (.aa4 (chunk esz n out)) σ
theorem dh1 {esz n:Nat}{z:List IV}{ps:List (Nat×Nat×IX)}:opT pt ct P E (.ax8 esz n z ps) id fr σ K=jb9 (as8 (rep z n) (ps.map fun p=>(p.1,p.2.1,p.2.2.ev E fr))) esz n σ K:=nr rfl
theorem ch7 {esz n:Nat}{out:List IV}:jb9 (za out) esz n σ K=K (.aa4 (chunk esz n out)) σ:=nr rfl
theorem dh2 {i:Nat}:wpT pt ct P E N n0 (.exit i) fr σ Q=Q (.exit i) fr σ:=nr rfl
theorem fl5:wpT pt ct P E N n0 .ret fr σ Q=Q .ret fr σ:=nr rfl
theorem iv5 {x y:IC}:il3 pt ct P E N n0 (.bool true) x y fr σ Q=wpT pt ct P E N n0 x fr σ Q:=nr rfl
theorem iv6 {x y:IC}:il3 pt ct P E N n0 (.bool false) x y fr σ Q=wpT pt ct P E N n0 y fr σ Q:=nr rfl
theorem fl6 {y:IC}:jk1 pt ct P E N n0 y Q .normal fr σ=wpT pt ct P E N n0 y fr σ Q:=nr rfl
theorem fl7 {y:IC}{i:Nat}:jk1 pt ct P E N n0 y Q (.exit i) fr σ=Q (.exit i) fr σ:=nr rfl
theorem fl8 {y:IC}:jk1 pt ct P E N n0 y Q .ret fr σ=Q .ret fr σ:=nr rfl
theorem fl9 {i:Nat}:bv3 i Q .normal fr σ=Q .normal fr σ:=nr rfl
theorem fm1 {i:Nat}:bv3 i Q .ret fr σ=Q .ret fr σ:=nr rfl
theorem fm2 {i j:Nat}:bv3 i Q (.exit j) fr σ=if j=i then Q .normal fr σ else Q (.exit j) fr σ:=nr rfl
theorem fm3 {I:Nat->Frm->Store->Prop}{m:Nat}:ek7 I m Q .normal fr σ=∃ m',m'<m/\I m' fr σ:=nr rfl
theorem fm4 {I:Nat->Frm->Store->Prop}{m i:Nat}:ek7 I m Q (.exit i) fr σ=Q (.exit i) fr σ:=nr rfl
theorem fm5 {I:Nat->Frm->Store->Prop}{m:Nat}:ek7 I m Q .ret fr σ=Q .ret fr σ:=nr rfl
theorem fm6 {irs:List IR}{Qc:IV->Store->Prop}:gt5 irs Qc .ret fr σ=bw6 (irL σ fr irs) fun vs=>Qc (fi3 vs) σ:=nr rfl
theorem dh3 {irs:List IR}{Qc:IV->Store->Prop}:gt5 irs Qc .normal fr σ=bw6 (irL σ fr irs) fun vs=>Qc (fi3 vs) σ:=nr rfl
end Go.Id
namespace Go.Id
open Go
variable {P:Program} {E:Nat->IV} {σ σ':Store} {fr:Frm} {x y z:IX} {k k':IntKind} {a b:Int} {s t:List UInt8} {n m off esz len:Nat} {v u:IV}
theorem aa7 {i:Nat}{o:al8}:(σ.put i o).next=σ.next:=nr rfl
theorem aa5 {i j:Nat}{o:al8}:(σ.put i o).obj j=if j=i then za o else σ.obj j:=nr rfl
theorem e_t:(IX.t n).ev E fr=fr.get n:=nr rfl
theorem e_c:(IX.c v).ev E fr=v:=nr rfl
theorem e_g:(IX.g n).ev E fr=E n:=nr rfl
theorem e_f:(IX.f n).ev E fr=.func (.func n) [] []:=nr rfl
theorem fm7:evq E fr σ (.mov x)=za (x.ev E fr):=nr rfl
theorem dh4:evq E fr σ (.pick x y z)=ej6 (x.ev E fr) (y.ev E fr) (z.ev E fr):=nr rfl
theorem fm8:evq E fr σ (.not x)=iw3 (x.ev E fr):=nr rfl
theorem fm9:evq E fr σ (.neg x)=iw4 (x.ev E fr):=nr rfl
theorem fn1 {op:BinOp}:evq E fr σ (.bin op x y)=au9 op (x.ev E fr) (y.ev E fr):=nr rfl
theorem al2 {d:TypeDesc}{g:Bool}:evq E fr σ (.ba5 d g x)=(ct5 d (x.ev E fr)).map fun b=>.bool (b ^^ g):=nr rfl
theorem fn2 {tags:List Nat}{g h:Bool}:evq E fr σ (.eqs tags g h x y)=gt2 tags g h (x.ev E fr) (y.ev E fr):=nr rfl
theorem dh5:evq E fr σ (.conv k x)=fy6 k (x.ev E fr):=nr rfl
theorem ch8:evq E fr σ (.gv5 x)=dx3 (x.ev E fr):=nr rfl
theorem fn3:evq E fr σ (.len n x)=db4 n σ (x.ev E fr):=nr rfl
theorem ch9:evq E fr σ (.bd9 off x)=ce5 off (x.ev E fr):=nr rfl
theorem fn4 {ag:Option Nat}:evq E fr σ (.fld ag off x)=iu6 ag off (x.ev E fr):=nr rfl
theorem ci1:evq E fr σ (.dy1 esz x y)=au3 esz (x.ev E fr) (y.ev E fr):=nr rfl
theorem ci2:evq E fr σ (.dy2 n esz x y)=dd9 n esz (x.ev E fr) (y.ev E fr):=nr rfl
theorem fn5 {ag:Option Nat}:evq E fr σ (.idx ag n esz x y)=ig1 ag n esz (x.ev E fr) (y.ev E fr):=nr rfl
theorem dh6:evq E fr σ (.ig6 x y)=do7 (x.ev E fr) (y.ev E fr):=nr rfl
theorem fn6 {lo hi:Option IX}:evq E fr σ (.slc esz x lo hi)=bv7 esz (lo.map (·.ev E fr)) (hi.map (·.ev E fr)) (x.ev E fr):=nr rfl
theorem dh7 {lo hi:Option IX}:evq E fr σ (.gv6 x lo hi)=cr8 (lo.map (·.ev E fr)) (hi.map (·.ev E fr)) (x.ev E fr):=nr rfl
theorem fn8:evq E fr σ (.slz x)=gs9 (x.ev E fr):=nr rfl
theorem fn9:evq E fr σ (.ext n x)=ig2 n (x.ev E fr):=nr rfl
theorem fo1 {fs cs:List IX}:evq E fr σ (.mkf n fs cs)=za (.func (.func n) (fs.map (·.ev E fr)) (cs.map (·.ev E fr))):=nr rfl
theorem fo2 {zs:List IV}{ps:List (Nat×Nat×IX)}:evq E fr σ (.bld zs ps)=(as8 zs (ps.map fun p=>(p.1,p.2.1,p.2.2.ev E fr))).map .agg:=nr rfl
theorem dh8 {ag:Option Nat}:evq E fr σ (.load ag x)=aw4 σ ag (x.ev E fr):=nr rfl
theorem dh9:evq E fr σ (.ig7 x)=do9 (x.ev E fr):=nr rfl
theorem ib8 {mx:Bool}:evq E fr σ (.mm mx x y)=mmI mx (x.ev E fr) (y.ev E fr):=nr rfl
theorem eb7:mmI true (.int k a) (.int k' b)=za (.int k (if b>a then b else a)):=by simp[mmI]
theorem em5:mmI false (.int k a) (.int k' b)=za (.int k (if b<a then b else a)):=by simp[mmI]
theorem em6 {zero:IV}{ok:Bool}:evq E fr σ (.lkp n zero ok x y)=de1 σ n zero ok (x.ev E fr) (y.ev E fr):=nr rfl
theorem ci3:Frm.keep fr []=[]:=nr rfl
theorem ci4 {ks:List Nat}:Frm.keep fr (n::ks)=(n,fr.get n)::Frm.keep fr ks:=nr rfl
theorem di1:bk5 [] n=[]:=nr rfl
theorem di2 {vs:List IV}:bk5 (v::vs) n=(n,v)::bk5 vs (n+1):=nr rfl
theorem ci5:bz5 []=0:=nr rfl
theorem ci6 {d:Option Nat}{g:Option (Nat×Bool)}{op:IK}{os:List af7}:bz5 (⟨d,g,op⟩::os)=(if op.lays=true then 1 else 0)+bz5 os:=nr (cf7 _ _)
theorem iv7 {q:IQ}:(IK.q q).lays=false:=nr rfl
theorem bq5 {zs:List IV}:(IK.alloc zs).lays=true:=nr rfl
theorem di3:(IK.box x).lays=true:=nr rfl
theorem di4 {zs:List IV}{ps:List (Nat×Nat×IX)}:(IK.bsl esz n zs ps).lays=true:=nr rfl
theorem di5:(IK.app esz x y).lays=true:=nr rfl
theorem bq6:IK.bu8.lays=true:=nr rfl
theorem ci7:(IK.dw4 n x y z).lays=false:=nr rfl
theorem bf7:(IK.bm5 x).lays=true:=nr rfl
theorem bq7:(IK.dc3 x).lays=false:=nr rfl
theorem bf8:(IK.bf4 x).lays=true:=nr rfl
theorem ci8 {zs:List IV}:(IK.dr2 esz zs x).lays=true:=nr rfl
theorem di6 {zs:List IV}:(IK.clr esz zs x).lays=false:=nr rfl
theorem ci9:(IK.fw8 x).lays=false:=nr rfl
theorem bq8:(IK.cs6 x).lays=false:=nr rfl
theorem cj1:(IK.dc4 x).lays=false:=nr rfl
theorem cj3 {zs:List IV}{ps:List (Nat×Nat×IX)}:(IK.ax8 esz n zs ps).lays=false:=nr rfl
theorem jp8:evq E fr σ (.ibs x y)=iw5 (x.ev E fr) (y.ev E fr):=nr rfl
theorem jc1:iw5 (.str s) (.int .u8 a)=if 0<=a/\a<256 then za (.int .i64 (ei5 a.toNat s 0)) else zb:=nr rfl
theorem bq9:(IK.store n x y).lays=false:=nr rfl
theorem cj4 {xs:List IX}:(IK.call n xs).lays=false:=nr rfl
theorem br1 {xs:List IX}:(IK.bi6 n xs).lays=false:=nr rfl
theorem br2 {xs:List IX}:(IK.cx2 x xs).lays=false:=nr rfl
theorem di7 {α β:Type}{f:α->β}:List.map f []=[]:=nr rfl
theorem di8 {α β:Type}{f:α->β}{c:α}{cs:List α}:List.map f (c::cs)=f c::List.map f cs:=nr rfl
theorem em7 {α β:Type}{f:α->β}:Option.map f zb=zb:=nr rfl
theorem em8 {α β:Type}{f:α->β}{c:α}:Option.map f (za c)=za (f c):=nr rfl
theorem cj5:ej6 (.bool true) v u=za v:=nr rfl
theorem cj6:ej6 (.bool false) v u=za u:=nr rfl
theorem cj7 {c d:Bool}:ej6 (.bool c) (.bool true) (.bool d)=za (.bool (c||d)):=by cases c<;>rfl
theorem cj8 {c d:Bool}:ej6 (.bool c) (.bool d) (.bool false)=za (.bool (c&&d)):=by cases c<;>rfl
theorem di9 {c:Bool}:iw3 (.bool c)=za (.bool !c):=nr rfl
theorem dj1:iw4 (.int k a)=za (.int k (k.wrap (0-a))):=nr rfl
theorem cj9:fy6 k (.int k' a)=za (.int k (k.wrap a)):=nr rfl
theorem br3:dx3 (.str s)=za (.str s):=nr rfl
theorem fo3:au9 .add (.int k a) (.int k b)=za (.int k (k.wrap (a+b))):=by simp[au9,dw6]
theorem fo4:au9 .sub (.int k a) (.int k b)=za (.int k (k.wrap (a-b))):=by simp[au9,dw6]
theorem fo5:au9 .mul (.int k a) (.int k b)=za (.int k (k.wrap (a*b))):=by simp[au9,dw6]
theorem fo6:au9 .quo (.int k a) (.int k b)=if b=0 then zb else za (.int k (k.wrap (a.tdiv b))):=by simp[au9,dw6]
theorem fo7:au9 .rem (.int k a) (.int k b)=if b=0 then zb else za (.int k (a.tmod b)):=by simp[au9,dw6]
theorem fo8:au9 .eql (.int k a) (.int k b)=za (.bool (decide (a=b))):=by simp[au9,dw6]
theorem fo9:au9 .neq (.int k a) (.int k b)=za (.bool (!decide (a=b))):=by simp[au9,dw6]
theorem fp1:au9 .lss (.int k a) (.int k b)=za (.bool (decide (a<b))):=by simp[au9,dw6]
theorem fp3:au9 .leq (.int k a) (.int k b)=za (.bool (decide (a<=b))):=by simp[au9,dw6]
theorem fp4:au9 .gtr (.int k a) (.int k b)=za (.bool (decide (b<a))):=by simp[au9,dw6]
theorem fp5:au9 .geq (.int k a) (.int k b)=za (.bool (decide (b<=a))):=by simp[au9,dw6]
theorem eb8:au9 .shl (.int k a) (.int k' b)=if 0<=b then za (.int k (k.wrap (a*2^(min b.toNat k.bits)))) else zb:=by simp[au9]
theorem em9:au9 .shr (.int k a) (.int k' b)=if 0<=b then za (.int k (a.fdiv (2^(min b.toNat k.bits)))) else zb:=by simp[au9]
theorem dj2:au9 .add (.str s) (.str t)=if s.length+t.length<2^62 then za (.str (s++t)) else zb:=by simp[au9,gt9]
theorem dj3:au9 .eql (.str s) (.str t)=za (.bool (decide (s=t))):=by simp[au9,gt9]
theorem dj4:au9 .neq (.str s) (.str t)=za (.bool (!decide (s=t))):=by simp[au9,gt9]
theorem dj5:au9 .lss (.str s) (.str t)=za (.bool (Op.bytesLess s t)):=by simp[au9,gt9]
theorem dj6:au9 .leq (.str s) (.str t)=za (.bool (Op.bytesLess s t||decide (s=t))):=by simp[au9,gt9]
theorem dj7:au9 .gtr (.str s) (.str t)=za (.bool (!(Op.bytesLess s t||decide (s=t)))):=by simp[au9,gt9]
theorem dj8:au9 .geq (.str s) (.str t)=za (.bool (!Op.bytesLess s t)):=by simp[au9,gt9]
theorem dj9 {es:List (List IV)}:db4 0 σ (.aa4 es)=za (.int .i64 es.length):=nr rfl
theorem dk4:db4 0 σ .aa1=za (.int .i64 0):=nr rfl
theorem dk5:db4 0 σ .ac8=za (.int .i64 0):=nr rfl
theorem jc2:db4 0 σ .af6=za (.int .i64 0):=nr rfl
theorem bk3:db4 0 σ (.slice n off len esz)=za (.int .i64 len):=nr rfl
theorem br4:db4 1 σ (.str s)=za (.int .i64 s.length):=nr rfl
theorem ck3:do9 (.ptr n off)=za (.ptr n off):=nr rfl
theorem ck4 {cs:List IV}:do9 (.ab5 cs)=za (.ab5 cs):=nr rfl
theorem ck5 {f:FuncId}{p q:List IV}:do9 (.func (.func f) p q)=za (.func (.func f) p q):=nr rfl
theorem dk6:gs9 .aa1=za .aa1:=nr rfl
theorem dk7:gs9 .ac8=za .ac8:=nr rfl
theorem jc3:gs9 .af6=za .ac8:=nr rfl
theorem dk8 {es:List (List IV)}:gs9 (.aa4 es)=if es=[] then za (.aa4 []) else za .ac8:=nr rfl
theorem dk9:gs9 (.slice n off len esz)=za .ac8:=nr rfl
theorem fp6:irL σ fr []=za []:=nr rfl
theorem fp7:irL σ fr [.t n]=za [fr.get n]:=nr rfl
theorem dl1:irL σ fr [.t n,.t m]=za [fr.get n,fr.get m]:=nr rfl
theorem fp8 {ag:Option Nat}:irL σ fr [.cell ag n]=(aw4 σ ag (fr.get n)).map fun v=>[v]:=by
 simp only[irL,irV]; cases aw4 σ ag (fr.get n)<;>rfl
theorem ck6:fi3 [v]=v:=nr rfl
theorem ck7:fi3 [v,u]=.tuple [v,u]:=nr rfl
theorem ck8:fi3 []=.tuple []:=nr rfl
def dr4 (ag:Option Nat)(off:Nat):Option al8->Option IV
 | some (.cells cs)|some (.row cs)=>match ag with
  | none=>(cs.drop off).head?
  | some n=>if n<=(cs.drop off).length then za (.agg ((cs.drop off).take n)) else zb
 | _=>zb
theorem ck9 {ag:Option Nat}:aw4 σ ag (.ptr n off)=dr4 ag off (σ.obj n):=by
 cases h:σ.obj n with
 | none=>simp[aw4,aq8,dr4,h]
 | some o=>cases o<;>cases ag<;>simp[aw4,aq8,dr4,h]
theorem cl1 {cs:List IV}:aw4 σ zb (.ab5 cs)=cs.head?:=nr rfl
theorem br5 {cs:List IV}:aw4 σ (za n) (.ab5 cs)=if n<=cs.length then za (.agg (cs.take n)) else zb:=nr rfl
theorem bi7 {cs:List IV}:dr4 zb off (za (.cells cs))=(cs.drop off).head?:=nr rfl
theorem ca3 {cs:List IV}:dr4 (za n) off (za (.cells cs))=if n<=(cs.drop off).length then za (.agg ((cs.drop off).take n)) else zb:=nr rfl
theorem fp9 {cs:List IV}:dr4 zb off (za (.row cs))=(cs.drop off).head?:=nr rfl
theorem cs7 {cs:List IV}:dr4 (za n) off (za (.row cs))=if n<=(cs.drop off).length then za (.agg ((cs.drop off).take n)) else zb:=nr rfl
def eb9 (σ:Store)(id off n:Nat)(vs:List IV):Option al8->Option Store
 | some (.cells cs)=>if vs.length=n/\off+n<=cs.length/\vs.all IV.leaf=true then za (σ.put id (.cells (av1 cs off vs))) else zb
 | some (.row cs)=>if vs.length=n/\off+n<=cs.length/\vs.all IV.leaf=true then za (σ.put id (.row (av1 cs off vs))) else zb
 | _=>zb
theorem br6:ar1 σ n (.ptr m off) v=eb9 σ m off n v.cs (σ.obj m):=by
 cases h:σ.obj m with
 | none=>simp[ar1,eb9,h]
 | some o=>cases o<;>simp[ar1,eb9,h]
theorem fq1 {cs vs:List IV}:eb9 σ m off n vs (za (.cells cs))=if vs.length=n/\off+n<=cs.length/\vs.all IV.leaf=true then za (σ.put m (.cells (av1 cs off vs))) else zb:=nr rfl
theorem cs8 {cs vs:List IV}:eb9 σ m off n vs (za (.row cs))=if vs.length=n/\off+n<=cs.length/\vs.all IV.leaf=true then za (σ.put m (.row (av1 cs off vs))) else zb:=nr rfl
theorem br7 {es:List (List IV)}:au3 esz (.aa4 es) (.int k a)=if 0<=a/\a<es.length/\(es.getD a.toNat []).length=esz then za (.ab5 (es.getD a.toNat [])) else zb:=nr rfl
theorem br8:au3 esz (.slice n off len m) (.int k a)=if 0<=a/\a<len/\m=esz then za (.ptr n (off+a.toNat*esz)) else zb:=nr rfl
theorem cl2 {cs:List IV}:ce5 n (.ab5 cs)=za (.ab5 (cs.drop n)):=nr rfl
theorem cl3:ce5 n (.ptr m off)=za (.ptr m (off+n)):=nr rfl
theorem cl4 {cs:List IV}:IV.cs (.agg cs)=cs:=nr rfl
theorem cl5:IV.cs (.int k a)=[.int k a]:=nr rfl
theorem br9 {c:Bool}:IV.cs (.bool c)=[.bool c]:=nr rfl
theorem cl6:IV.cs (.str s)=[.str s]:=nr rfl
theorem cl7:IV.cs (.ptr n off)=[.ptr n off]:=nr rfl
theorem bs1 {cs:List IV}:IV.cs (.ab5 cs)=[.ab5 cs]:=nr rfl
theorem bf9:IV.cs (.slice n off len esz)=[.slice n off len esz]:=nr rfl
theorem az9 {es:List (List IV)}:IV.cs (.aa4 es)=[.aa4 es]:=nr rfl
theorem bs2 {f:Fn}{p q:List IV}:IV.cs (.func f p q)=[.func f p q]:=nr rfl
theorem cl8:IV.cs (.map n)=[.map n]:=nr rfl
theorem bs3 {es:List (IV×IV)}:IV.cs (.an9 es)=[.an9 es]:=nr rfl
theorem dl2:IV.cs .aa1=[.aa1]:=nr rfl
theorem dl3:IV.cs .ac8=[.ac8]:=nr rfl
theorem jc4:IV.cs .af6=[.af6]:=nr rfl
theorem dl4:IV.cs .ae7=[.ae7]:=nr rfl
theorem cl9:IV.leaf (.int k a)=true:=nr rfl
theorem bs4 {c:Bool}:IV.leaf (.bool c)=true:=nr rfl
theorem cm1:IV.leaf (.str s)=true:=nr rfl
theorem cm2:IV.leaf (.ptr n off)=true:=nr rfl
theorem bs5 {cs:List IV}:IV.leaf (.ab5 cs)=true:=nr rfl
theorem bg1:IV.leaf (.slice n off len esz)=true:=nr rfl
theorem ba1 {es:List (List IV)}:IV.leaf (.aa4 es)=true:=nr rfl
theorem bs6 {f:Fn}{p q:List IV}:IV.leaf (.func f p q)=true:=nr rfl
theorem cm3:IV.leaf (.map n)=true:=nr rfl
theorem bs7 {es:List (IV×IV)}:IV.leaf (.an9 es)=true:=nr rfl
theorem dl5:IV.leaf .aa1=true:=nr rfl
theorem dl6:IV.leaf .ac8=true:=nr rfl
theorem jc5:IV.leaf .af6=true:=nr rfl
theorem dl7:IV.leaf .ae7=true:=nr rfl
def ew7 (σ:Store)(id:Nat):Option al8->Option (IV×Store)
 | some (.bd8 s pos)=>if pos<s.length then za (.tuple [.bool true,.int .i64 pos,.int .i32 (Utf8.decode ⟨s.toArray⟩ pos).1],σ.put id (.bd8 s (pos+(Utf8.decode ⟨s.toArray⟩ pos).2))) else za (.tuple [.bool false],σ)
 | _=>zb
theorem bm7:bl9 σ (.ptr n 0)=ew7 σ n (σ.obj n):=by
 cases h:σ.obj n with
 | none=>simp[bl9,ew7,h]
 | some o=>cases o<;>simp[bl9,ew7,h]
theorem ib9 {pos:Nat}:ew7 σ n (za (.bd8 s pos))=if pos<s.length then za (.tuple [.bool true,.int .i64 pos,.int .i32 (Utf8.decode ⟨s.toArray⟩ pos).1],σ.put n (.bd8 s (pos+(Utf8.decode ⟨s.toArray⟩ pos).2))) else za (.tuple [.bool false],σ):=nr rfl
theorem dl8 {cs:List IV}:ig2 n (.tuple cs)=cs[n]?:=by cases h:cs[n]?<;>simp[ig2,h]
theorem fq2:(Store.mk σ.next σ.obj)=σ:=nr rfl
theorem wrap64 {x:Int}(h1:-9223372036854775808<=x)(h2:x<9223372036854775808):IntKind.i64.wrap x=x:=by
 simp[IntKind.wrap,IntKind.bits,IntKind.signed];omega
end Go.Id
namespace Go.Id
open Go
variable {P:Program} {w w' w'':World} {ρ ρ' ρ'':Rho} {E:Nat->IV} {σ σ':Store} {N n n':Nat}
abbrev Bnd (n:Nat)(v:IV):Prop:=Nm (fun i=>i<n) v
abbrev cs9 (σ:Store)(n:Nat)(v v':IV):Prop:=Frz σ (fun i=>i<n) v v'
def Rho.cut (ρ:Rho)(n:Nat):Rho:=⟨fun i=>if i<n then ρ i else .no,ρ.X⟩
theorem ic1 (ρ:Rho)(n:Nat):cf2 (fun i=>i<n) ρ (ρ.cut n):=
 ⟨fun i h=>by show (if i<n then ρ i else dw3.no)=_; rw[if_pos h],fun i h=>by show (if i<n then ρ i else dw3.no)=_; rw[if_neg h],fun _ h=>.inl h⟩
theorem fq3 (hf:∀ i,n<=i->ρ i=.no):∀ i,ρ i≠.no->i<n:=fun i h=>by
 rcases qh i n with h'|h'
 ·exact h'
 ·exact absurd (hf i h') h
theorem jp9 {f:Nat}{args:List IV}{v:IV}
  (h:(∀ a∈args,Bnd σ.next a)->C P E f args σ fun v' σ'=>(∀ i,i<σ.next->σ'.obj i=σ.obj i)/\σ.next<=σ'.next/\cs9 σ' σ.next v' v):C P E f args σ (jb8 v σ):=by
 intro ρ w rargs hs ha;have hlv:=fq3 hs.fresh;have hba:∀ a∈args,Bnd σ.next a:=fun a hm=>let ⟨i,hi,he⟩:=ai9 (d:=.undef) hm; he▸(ha.2 i hi).nm hlv
 refine CallsIn.mono (h hba ρ w rargs hs ha) ?_;rintro e w' ⟨v',r,ρ',σ',rfl,⟨hob,hle,hfrz⟩,hs',hv',hx⟩;have hno:∀ i,σ.next<=i->σ.obj i=zb:=fun i hi=>hs.av7 i (hs.fresh i hi)
 have hk:=ic1 ρ' σ.next;refine ⟨v,r,ρ'.cut σ.next,σ,rfl,⟨rfl,rfl⟩,hs'.jj3 hk hob (fun i hi=>hno i om) (fun i o _ ho=>hs.nmO hlv i o ho) (fun i hi=>hk.off i om) (fun g=>(hs.env g).nm hlv),hfrz.vr hk rfl hs' r hv',?_⟩;exact ⟨hx.size,hx.keep,hx.shape,fun i B d hi=>hx.img i B d (hk.at hi).2,fun i B d hi h=>by rw[hk.on i hi]; exact hx.at_ i B d hi h,fun i hi h=>by rw[hk.on i hi]; exact hx.dead i hi h,fun i hi h=>by rw[hk.on i hi]; exact hx.no i hi h,hx.output,hx.os,hx.tape,hx.loops,hx.X⟩
theorem en1 {f:Nat}{args:List IV}{v:IV}(h:PC P E f args v):C P E f args σ (jb8 v σ):=h σ
theorem jc6 {f:Nat}{args:List IV}{v:IV}
  (h:∀ σ,(∀ a∈args,Bnd σ.next a)->C P E f args σ fun v' σ'=>(∀ i,i<σ.next->σ'.obj i=σ.obj i)/\σ.next<=σ'.next/\cs9 σ' σ.next v' v):PC P E f args v :=
 fun σ=>jp9 (h σ)
theorem jq1 {pt:PT}{ct:CT}{pf:List Nat}(hT:TOK P E pt ct){f:Nat}{an:Ann}{ic:IC}{irs:List IR}{args:List IV}{v:IV}(hf:ib5 P f N pf an ic irs)(hl:args.length<=N)
  (h:∀ σ,(∀ a∈args,Bnd σ.next a)->wpT pt ct P E N σ.next ic (bk5 args 0) σ (gt5 irs fun v' σ'=>(∀ i,i<σ.next->σ'.obj i=σ.obj i)/\σ.next<=σ'.next/\cs9 σ' σ.next v' v)):PC P E f args v :=
 jc6 fun σ hb=>C_T hT hf hl (h σ hb)
def IV.plain:IV->Bool
 | .bool _|.int _ _|.str _=>true
 | .tuple vs=>vs.attach.all fun ⟨v,_⟩=>v.plain
 | .agg vs=>vs.attach.all fun ⟨v,_⟩=>v.plain
 | _=>false
theorem ha6 {v:IV}{r:Value}(h:v.plain=true)(hv:VR ρ w v r):VR ρ' w' v r:=by
 induction hv with
 | bool b=>exact .bool _
 | int k n=>exact .int _ _
 | str s=>exact .str _
 | agg cs rs hl hv ih=>
  refine .agg cs rs hl fun i hi=>ih i hi ?_
  unfold IV.plain at h
  exact zi.1 h ⟨_,ae1 .undef hi⟩ (List.mem_attach _ _)
 | tuple cs rs hl hv ih=>
  refine .tuple cs rs hl fun i hi=>ih i hi ?_
  unfold IV.plain at h
  exact zi.1 h ⟨_,ae1 .undef hi⟩ (List.mem_attach _ _)
 | _=>simp[IV.plain] at h
theorem en2 (S:Nat->Prop)(ρ:Rho):∃ ρ':Rho,cf2 S ρ ρ'/\∀ b,ρ'.X b↔ρ.X b\/∃ i d,¬ S i/\ρ i=.at b d:=by
 refine ⟨⟨fun i=>if zz (S i) |>.decide then ρ i else .no,fun b=>ρ.X b\/∃ i d,¬ S i/\ρ i=.at b d⟩,⟨fun i h=>?_,fun i h=>?_,fun b h=>h⟩,fun b=>Iff.rfl⟩
 ·show (if (zz (S i)).decide=true then ρ i else dw3.no)=_;rw[if_pos (by simpa using h)]
 ·show (if (zz (S i)).decide=true then ρ i else dw3.no)=_;rw[if_neg (by simpa using h)]
def Store.only (σ:Store)(S:Nat->Bool):Store:=⟨σ.next,fun i=>if S i then σ.obj i else zb⟩
theorem ha7 {f:Nat}{args:List IV}{v:IV}(hE:∀ g,Bnd 0 (E g))(ha:∀ a∈args,Bnd 0 a)(h:C P E f args ⟨0,fun _=>zb⟩ fun v' σ'=>cs9 σ' 0 v' v):PC P E f args v:=by
 intro σ ρ w rargs hs hr;obtain ⟨ρ0,hk,hX⟩:=en2 (fun _=>False) ρ;have hs0:Sim E ρ0 w ⟨0,fun _=>zb⟩:=hs.jj3 hk (fun i h=>h.elim) (fun _ _=>rfl) (fun i o h=>h.elim) (fun i _=>hk.off i (fun h=>h)) (fun g=>(hE g).weak fun i h=>absurd h (ze _));have hr0:CR ρ0 w args rargs:=⟨hr.1,fun i hi=>(hr.2 i hi).cut hk ((ha _ (ae1 _ hi)).weak fun i h=>absurd h (ze _))⟩;refine CallsIn.mono (h ρ0 w rargs hs0 hr0) ?_;rintro e w' ⟨v',r,ρ',σ',rfl,hfz,hs',hv',hx⟩;have hno0:∀ i,ρ0 i=.no:=fun i=>hk.off i (fun h=>h)
 have hkeep:∀ b,b<w.heap.size->w'.heap[b]? = w.heap[b]?:=fun b hb=>hx.keep b ⟨hb,fun i d h=>by rw[hno0 i] at h; cases h⟩
 have hlt:∀ (b:Nat) (o:Obj),w.heap[b]? = za o->b<w.heap.size:=fun b o h=>by
  rcases qh b w.heap.size with h'|h'
  ·exact h'
  ·rw[zn h'] at h; cases h
 have hext:∀ n,Ext n ρ w ρ w':=fun n=>
  ⟨hx.size,fun b hb=>hkeep b hb.1,fun b rcs el fz h=>⟨rcs,by rw[hkeep b (hlt b _ h)]; exact h,rfl⟩,fun i B d h=>.inl ⟨i,d,h⟩,fun i B d h=>.inl h,fun i h=>h,fun i _ h=>h,hx.output,hx.os,hx.tape,fun l L h=>⟨L,by rw[hkeep l (hlt l _ h)]; exact h⟩,rfl⟩
 -- the tree lies on no block that is in use
 let ρ1:Rho:=⟨fun _=>.no,ρ'.X⟩;have hk1:cf2 (fun i=>i<0) ρ' ρ1:=⟨fun i h=>absurd h (ze _),fun i _=>rfl,fun b h=>.inl h⟩;have hv1:VR ρ1 w' v r:=hfz.vr hk1 rfl hs' r hv'
 have hv2:VR ρ w' v r:=hv1.refs (fun i h=>absurd rfl h) fun b hb=>⟨hb.1,fun i d hi=>hb.3 (by
   show ρ'.X b;rw[hx.X];exact (hX b).2 (.inr ⟨i,d,fun h=>h,hi⟩)),fun hxb=>hb.3 (by
   show ρ'.X b;rw[hx.X];exact (hX b).2 (.inl hxb))⟩
 refine ⟨v,r,ρ,σ,rfl,⟨rfl,rfl⟩,⟨hs.inj,fun i B d h=>zy (hs.lt i B d h) hx.size,fun i B d h=>?_,hs.dead,hs.fresh,hs.av7,fun g=>(hs.env g).mono (hext 0),hs.nx,fun b h=>zy (hs.xlt b h) hx.size⟩,hv2,(hext σ.next).weak (z1 _)⟩;obtain ⟨o,h1,h2⟩:=hs.obj i B d h;exact ⟨o,h1,h2.mono (hext 0) (hkeep B (hs.lt i B d h))⟩
def Store.kills (σ:Store)(S:Nat->Bool):Store:=⟨σ.next,fun i=>if S i then σ.obj i else zb⟩
theorem cx7 {S:Nat->Bool}(hs:Sim E ρ w σ):∃ ρd:Rho,Sim E ρd w (σ.kills S)/\(∀ n,Ext n ρ w ρd w)/\∀ v v' r,Frz σ (fun i=>S i=true) v v'->VR ρ w v r->VR ρd w v' r:=by
 let ρc:Rho:=⟨fun i=>if S i then ρ i else .no,ρ.X⟩;let ρd:Rho:=⟨fun i=>if S i then ρ i else match ρ i with|.no=>.no|_=>.dead,ρ.X⟩;have con:∀ i,S i=true->ρc i=ρ i:=fun i h=>by show (if S i=true then ρ i else .no)=_; rw[if_pos h]
 have coff:∀ i,S i=false->ρc i=.no:=fun i h=>by show (if S i=true then ρ i else .no)=_; rw[if_neg (by simp[h])]
 have don:∀ i,S i=true->ρd i=ρ i:=fun i h=>by show (if S i=true then ρ i else _)=_; rw[if_pos h]
 have doff:∀ i,S i=false->ρd i=(match ρ i with|.no=>.no|_=>.dead):=fun i h=>by show (if S i=true then ρ i else _)=_; rw[if_neg (by simp[h])]
 have hdat:∀ i B d,ρd i=.at B d->S i=true/\ρ i=.at B d:=fun i B d h=>by
  cases hsi:S i with
  | true=>rw[don i hsi] at h; exact ⟨rfl,h⟩
  | false=>rw[doff i hsi] at h; cases hri:ρ i<;>rw[hri] at h<;>cases h
 have hk:cf2 (fun i=>S i=true) ρ ρc:=⟨con,fun i h=>coff i (by simpa using h),fun b h=>.inl h⟩
 have hxd:∀ n,Ext n ρ w ρd w:=fun n=>dp4 (fun i B d h=>by
   cases hsi:S i with
   | true=>rw[don i hsi]; exact .inl h
   | false=>rw[doff i hsi,h]; exact .inr rfl) (fun i h=>by
   cases hsi:S i with
   | true=>rw[don i hsi]; exact h
   | false=>rw[doff i hsi,h]) (fun i _ h=>by
   cases hsi:S i with
   | true=>rw[don i hsi]; exact h
   | false=>rw[doff i hsi,h]) (fun i B d h=>⟨i,d,(hdat i B d h).2⟩) rfl
 have hxc:Ext 0 ρc w ρd w:=dp4 (fun i B d h=>by
   obtain ⟨h1,h2⟩:=hk.at h;exact .inl (by rw[don i h1]; exact h2)) (fun i h=>by
   cases hsi:S i with
   | true=>rw[con i hsi] at h; rw[don i hsi]; exact h
   | false=>rw[coff i hsi] at h; cases h) (fun i hi _=>absurd hi (ze _)) (fun i B d h=>⟨i,d,by rw[con i (hdat i B d h).1]; exact (hdat i B d h).2⟩) rfl
 refine ⟨ρd,?_,hxd,fun v v' r hf hv=>(hf.vr hk rfl hs r hv).mono hxc⟩;refine ⟨fun i j B d d' hi hj=>hs.inj i j B d d' (hdat _ _ _ hi).2 (hdat _ _ _ hj).2,fun i B d hi=>hs.lt i B d (hdat _ _ _ hi).2,fun i B d hi=>?_,fun i hi=>?_,fun i hi=>?_,fun i hi=>?_,fun g=>(hs.env g).mono (hxd 0),fun i B d hi=>hs.nx i B d (hdat _ _ _ hi).2,hs.xlt⟩
 ·obtain ⟨h1,h2⟩:=hdat _ _ _ hi;obtain ⟨o,g1,g2⟩:=hs.obj i B d h2;exact ⟨o,by simp[Store.kills,h1,g1],g2.mono (hxd 0) rfl⟩
 ·cases hsi:S i with
  | true=>rw[don i hsi] at hi; simp[Store.kills,hsi,hs.dead i hi]
  | false=>simp[Store.kills,hsi]
 ·have hn:σ.next<=i:=hi;have:=hs.fresh i hn
  cases hsi:S i with
  | true=>rw[don i hsi]; exact this
  | false=>rw[doff i hsi,this]
 ·cases hsi:S i with
  | true=>rw[don i hsi] at hi; simp[Store.kills,hsi,hs.av7 i hi]
  | false=>simp[Store.kills,hsi]
theorem ew8 {S:Nat->Bool}{f:Nat}{args args':List IV}{Q:IV->Store->Prop}(hl:args'.length=args.length)(ha:∀ i,i<args.length->Frz σ (fun i=>S i=true) (args.getD i .undef) (args'.getD i .undef))
  (h:C P E f args' (σ.kills S) Q):C P E f args σ Q:=by
 intro ρ w rargs hs hr;obtain ⟨ρd,hs0,hxd,hvd⟩:=cx7 (S:=S) hs;have hr0:CR ρd w args' rargs:=⟨by rw[hl]; exact hr.1,fun i hi=>hvd _ _ _ (ha i om) (hr.2 i om)⟩;refine CallsIn.mono (h ρd w rargs hs0 hr0) ?_;rintro e w' ⟨v,r,ρ',σ',rfl,hq,hs',hv',hx⟩;exact ⟨v,r,ρ',σ',rfl,hq,hs',hv',((hxd σ.next).weak (z1 _)).trans hx⟩
theorem be3 {f:Nat}{args args':List IV}{v:IV}(hE:∀ g,Bnd 0 (E g))(hl:args'.length=args.length)(ha:∀ i,i<args.length->cs9 σ 0 (args.getD i .undef) (args'.getD i .undef))(hp:v.plain=true)(h:PC P E f args' v):C P E f args σ (jb8 v σ):=by
 intro ρ w rargs hs hr;have hk:=ic1 ρ 0;have hs0:Sim E (ρ.cut 0) w ⟨0,fun _=>zb⟩:=hs.jj3 hk (fun i h=>absurd h (ze _)) (fun _ _=>rfl) (fun i o h=>absurd h (ze _)) (fun i _=>hk.off i (ze _)) hE;have hr0:CR (ρ.cut 0) w args' rargs:=⟨by rw[hl]; exact hr.1,fun i hi=>(ha i om).vr hk rfl hs _ (hr.2 i om)⟩;refine CallsIn.mono (h ⟨0,fun _=>zb⟩ (ρ.cut 0) w rargs hs0 hr0) ?_;rintro e w' ⟨v',r,ρ',σ',rfl,⟨rfl,rfl⟩,hs',hv',hx⟩;have hkeep:∀ b,b<w.heap.size->w'.heap[b]? = w.heap[b]?:=fun b hb=>hx.keep b ⟨hb,fun i d h=>absurd (hk.at h).1 (ze _)⟩
 have hlt:∀ (b:Nat) (o:Obj),w.heap[b]? = za o->b<w.heap.size:=fun b o h=>by
  rcases qh b w.heap.size with h'|h'
  ·exact h'
  ·rw[zn h'] at h; cases h
 have hext:∀ n,Ext n ρ w ρ w':=fun n=>
  ⟨hx.size,fun b hb=>hkeep b hb.1,fun b rcs el fz h=>⟨rcs,by rw[hkeep b (hlt b _ h)]; exact h,rfl⟩,fun i B d h=>.inl ⟨i,d,h⟩,fun i B d h=>.inl h,fun i h=>h,fun i _ h=>h,hx.output,hx.os,hx.tape,fun l L h=>⟨L,by rw[hkeep l (hlt l _ h)]; exact h⟩,rfl⟩
 refine ⟨_,r,ρ,σ,rfl,⟨rfl,rfl⟩,⟨hs.inj,fun i B d h=>zy (hs.lt i B d h) hx.size,fun i B d h=>?_,hs.dead,hs.fresh,hs.av7,fun g=>(hs.env g).mono (hext 0),hs.nx,fun b h=>zy (hs.xlt b h) hx.size⟩,ha6 hp hv',(hext σ.next).weak (z1 _)⟩;obtain ⟨o,h1,h2⟩:=hs.obj i B d h;exact ⟨o,h1,h2.mono (hext 0) (hkeep B (hs.lt i B d h))⟩
end Go.Id
namespace Go.Id
open Go
variable {P:Program} {E:Nat->IV} {σ σ':Store} {N n n0:Nat} {fr:Frm}
inductive en3 where
 | o (x:al8)
 | loop (N:Nat) (fr:Frm) (ps:List Nat) (asg body:IC) (st:LoopState) (pend:Option JX)
 | app (rev:List (List IV)) (n:Nat) (h:rev.reverse.flatten.length=n/\rev.reverse.flatten.all IV.leaf=true)
 deriving Inhabited
def en3.fin:Option en3->Option en3
 | some (.app rev _ _)=>za (.o (.row rev.reverse.flatten))
 | x=>x
inductive Tr where
 | e
 | n (v:Option en3) (l r:Tr)
 deriving Inhabited
def Tr.raw:Tr->Nat->Option en3
 | .e,_=>zb
 | .n v l r,i=>bif qe i 0 then v else bif qe (i%2) 1 then l.raw (i/2) else r.raw (i/2-1)
def Tr.get (t:Tr)(i:Nat):Option en3:=en3.fin (t.raw i)
def Tr.set (x:Option en3):Nat->Tr->Nat->Tr
 | 0,t,_=>t
 | f+1,.e,i=>bif qe i 0 then .n x .e .e else bif qe (i%2) 1 then .n zb (Tr.set x f .e (i/2)) .e else .n zb .e (Tr.set x f .e (i/2-1))
 | f+1,.n v l r,i=>bif qe i 0 then .n x l r else bif qe (i%2) 1 then .n v (Tr.set x f l (i/2)) r else .n v l (Tr.set x f r (i/2-1))
theorem bc6 {α:Type}(a b:Nat)(x y:α):(bif qe a b then x else y)=if a=b then x else y:=by
 simp_all
theorem Tr.il4 (x:Option en3):∀ (f:Nat) (t:Tr) (i j:Nat),i+1<2^f->(Tr.set x f t i).raw j=if j=i then x else t.raw j:=by
 intro f
 induction f with
 | zero=>intro t i j h; simp at h
 | succ f ih=>
  intro t i j h;have hp:2^(f+1)=2*2^f:=by rw[Nat.pow_succ]; omega
  cases t with
  | e =>
   simp only[Tr.set,bc6];split
   ·rename_i h0; subst h0;simp only[Tr.raw,bc6];split
    ·rfl
    ·split<;>rfl
   ·rename_i h0;split
    ·rename_i h1;simp only[Tr.raw,bc6];by_cases hj:j=0
     ·subst hj; rw[if_pos rfl,if_neg om]
     ·rw[if_neg hj];split
      ·rename_i h2;rw[ih _ _ _ om];by_cases hij:j=i
       ·rw[if_pos hij,if_pos om]
       ·rw[if_neg hij,if_neg om]; rfl
      ·rw[if_neg om]
    ·rename_i h1;simp only[Tr.raw,bc6];by_cases hj:j=0
     ·subst hj; rw[if_pos rfl,if_neg om]
     ·rw[if_neg hj];split
      ·rw[if_neg om]
      ·rename_i h2;rw[ih _ _ _ om];by_cases hij:j=i
       ·rw[if_pos hij,if_pos om]
       ·rw[if_neg hij,if_neg om]; rfl
  | n v l r=>
   simp only[Tr.set,bc6];split
   ·rename_i h0; subst h0;simp only[Tr.raw,bc6];split
    ·rfl
    ·rfl
   ·rename_i h0;split
    ·rename_i h1;simp only[Tr.raw,bc6];by_cases hj:j=0
     ·subst hj; rw[if_pos rfl,if_neg om]; rfl
     ·rw[if_neg hj,if_neg hj];split
      ·rename_i h2;rw[ih _ _ _ om];by_cases hij:j=i
       ·rw[if_pos hij,if_pos om]
       ·rw[if_neg hij,if_neg om]
      ·rw[if_neg om]
    ·rename_i h1;simp only[Tr.raw,bc6];by_cases hj:j=0
     ·subst hj; rw[if_pos rfl,if_neg om]; rfl
     ·rw[if_neg hj,if_neg hj];split
      ·rw[if_neg om]
      ·rename_i h2;rw[ih _ _ _ om];by_cases hij:j=i
       ·rw[if_pos hij,if_pos om]
       ·rw[if_neg hij,if_neg om]
theorem Tr.ce4 (x:Option en3)(f:Nat)(t:Tr)(i j:Nat)(h:i+1<2^f):(Tr.set x f t i).get j=if j=i then en3.fin x else t.get j:=by
 unfold Tr.get;rw[Tr.il4 x f t i j h];split<;>rfl
structure XSt where
 next:Nat
 t:Tr
 deriving Inhabited
def XSt.put (xs:XSt)(i:Nat)(x:Option en3):Option XSt :=
 bif Nat.blt i 1152921504606846976 then za ⟨xs.next,xs.t.set x 64 i⟩ else zb
def XSt.st (xs:XSt):Store:=⟨xs.next,fun i=>match xs.t.get i with|some (.o x)=>za x|_=>zb⟩
theorem XSt.ge9 {xs xs':XSt}{i:Nat}{x:Option en3}(h:xs.put i x=za xs'):xs'.next=xs.next/\∀ j,xs'.t.get j=if j=i then en3.fin x else xs.t.get j:=by
 unfold XSt.put at h
 cases hb:Nat.blt i 1152921504606846976 with
 | false=>grind
 | true=>
  rw[hb] at h;cases h;have:i<1152921504606846976:=qi hb;exact ⟨rfl,fun j=>Tr.ce4 x 64 _ i j om⟩
def YR (P:Program)(E:Nat->IV)(id N:Nat)(fr:Frm)(ps:List Nat)(asg body:IC)(L:LoopState->Option JX->al8):Prop :=
 ∀ (σ':Store) (args:List IV) (K:IV->Store->Prop),args.length=ps.length->σ'.obj id=za (L .ready zb) ->
  RI P E N σ'.next asg (dc2 fr ps args) σ' (fun e f s=>e=.normal/\s.obj id=za (L .ready zb)/\RI P E N σ'.next body f (s.put id (L .busy zb)) (cw6 id L K))->CYd P E id args σ' K
abbrev Lam:=Nat->LoopState->Option JX->al8
def XOR (P:Program)(E:Nat->IV)(Λ:Lam)(i:Nat):Option en3->Option al8->Prop
 | none,o=>o=zb
 | some (.o x),o=>o=za x
 | some (.app rev _ _),o=>o=za (.row rev.reverse.flatten)
 | some (.loop N fr ps asg body st pend),o=>o=za (Λ i st pend)/\YR P E i N fr ps asg body (Λ i)
structure XR (P:Program) (E:Nat->IV) (Λ:Lam) (xs:XSt) (σ:Store):Prop where
 next:xs.next=σ.next
 obj:∀ i,XOR P E Λ i (xs.t.get i) (σ.obj i)
theorem XR.put {Λ:Lam}{xs xs':XSt}{i:Nat}{x:al8}(h:XR P E Λ xs σ)(hp:xs.put i (za (.o x))=za xs'):XR P E Λ xs' (σ.put i x):=by
 obtain ⟨h1,h2⟩:=XSt.ge9 hp;refine ⟨by rw[h1]; exact h.next,fun j=>?_⟩;rw[h2,aa5];by_cases hj:j=i
 ·rw[if_pos hj,if_pos hj]; rfl
 ·rw[if_neg hj,if_neg hj]; exact h.obj j
theorem XR.kill {Λ:Lam}{xs xs':XSt}{i:Nat}(h:XR P E Λ xs σ)(hp:xs.put i zb=za xs'):XR P E Λ xs' (σ.kill i):=by
 obtain ⟨h1,h2⟩:=XSt.ge9 hp;refine ⟨by rw[h1]; exact h.next,fun j=>?_⟩;rw[h2];show XOR P E Λ j _ (if j=i then zb else σ.obj j);by_cases hj:j=i
 ·rw[if_pos hj,if_pos hj]; rfl
 ·rw[if_neg hj,if_neg hj]; exact h.obj j
theorem XR.get {Λ:Lam}{xs:XSt}{i:Nat}{x:al8}(h:XR P E Λ xs σ)(hg:xs.t.get i=za (.o x)):σ.obj i=za x:=by
 have:=h.obj i;rw[hg] at this;exact this
def LeS (s σ:Store):Prop:=∀ i x,s.obj i=za x->σ.obj i=za x
theorem XR.le {Λ:Lam}{xs:XSt}(h:XR P E Λ xs σ):LeS xs.st σ:=by
 intro i x hx;simp only[XSt.st] at hx;split at hx
 ·rename_i y hy; cases hx; exact h.get hy
 ·cases hx
def as9:Nat->IV->Bool
 | 0,_=>false
 | n+1,v=>match v with
  | .ptr _ _|.slice _ _ _ _|.map _|.yield _|.ag9 _ _ _ _|.ak7 _ _ _ _ _=>false
  | .ab5 cs=>cs.all (as9 n)
  | .aa4 es=>es.all fun e=>e.all (as9 n)
  | .an9 es=>es.all fun e=>as9 n e.1&&as9 n e.2
  | .func _ a b=>a.all (as9 n)&&b.all (as9 n)
  | .iface _ v=>as9 n v
  | .agg cs=>cs.all (as9 n)
  | .tuple cs=>cs.all (as9 n)
  | _=>true
theorem ax1:∀ (n:Nat) (v:IV),as9 n v=true->Bnd 0 v:=by
 intro n
 induction n with
 | zero=>intro v h; cases h
 | succ n ih=>
  intro v h;have all:∀ {cs:List IV},cs.all (as9 n)=true->∀ c∈cs,Bnd 0 c:=fun h c hc=>ih c (zi.1 h c hc)
  cases v with
  | undef=>exact .undef
  | bool b=>exact .bool b
  | int k x=>exact .int k x
  | str s=>exact .str s
  | ae7=>exact .ae7
  | ptr id off=>cases h
  | ab5 cs=>exact .ab5 cs (all h)
  | aa1=>exact .aa1
  | ac8=>exact .ac8
  | af6=>exact .af6
  | slice a b c d=>cases h
  | aa4 es=>exact .aa4 es fun e he=>all (zi.1 h e he)
  | aj6=>exact .aj6
  | map id=>cases h
  | an9 es=>exact .an9 es (fun e he=>ih _ (by have:=zi.1 h e he; simp at this; exact this.1)) (fun e he=>ih _ (by have:=zi.1 h e he; simp at this; exact this.2))
  | func f a b=>
   simp only[as9,qa] at h
   exact .func f a b (all h.1) (all h.2)
  | yield id=>cases h
  | ad5=>exact .ad5
  | iface t v=>exact .iface t v (ih v h)
  | ah9=>exact .ah9
  | agg cs=>exact .agg cs (all h)
  | tuple cs=>exact .tuple cs (all h)
  | ag9 a b c d=>cases h
  | ak7 a b c d e=>cases h
def ec1 (E:Nat->IV)(σ:Store)(fr:Frm)(σ':Store)(fr':Frm):Prop :=
 ∀ (ρ:Rho) (w:World),Sim E ρ w σ->∃ ρd:Rho,Sim E ρd w σ'/\(∀ n,Ext n ρ w ρd w)/\∀ (N:Nat) (tmps:Array Value),FR ρ w N fr tmps->FR ρd w N fr' tmps
theorem ec1.trans {σ'':Store}{fr fr' fr'':Frm}(h:ec1 E σ fr σ' fr')(h':ec1 E σ' fr' σ'' fr''):ec1 E σ fr σ'' fr'':=fun ρ w hs=>
 let ⟨ρ1,a1,a2,a3⟩:=h ρ w hs;let ⟨ρ2,b1,b2,b3⟩:=h' ρ1 w a1
 ⟨ρ2,b1,fun n=>(a2 n).trans (b2 n) (z1 _),fun N tmps hf=>b3 N tmps (a3 N tmps hf)⟩
theorem ec1.refl (fr:Frm):ec1 E σ fr σ fr:=fun ρ w hs=>⟨ρ,hs,fun n=>Ext.refl _ _ _,fun _ _ h=>h⟩
theorem ec1.of {S:Nat->Bool}{fr fr':Frm}(hf:∀ t,fr'.get t=fr.get t\/Frz σ (fun i=>S i=true) (fr.get t) (fr'.get t)):ec1 E σ fr (σ.kills S) fr':=fun ρ w hs=>by
 obtain ⟨ρd,hs0,hxd,hvd⟩:=cx7 (S:=S) hs;refine ⟨ρd,hs0,hxd,fun N tmps hfr=>⟨hfr.size,fun t=>?_⟩⟩;rcases hf t with e|e
 ·rw[e]; exact (hfr.get t).mono (hxd 0)
 ·exact hvd _ _ _ e (hfr.get t)
end Go.Id
namespace Go.Id
open Go
variable {P:Program} {E:Nat->IV} {σ σ':Store} {N n n0:Nat} {fr:Frm}
abbrev RD:=Nat->Nat->List IV->XSt->Option (IV×XSt)
where
 im1 (r:IV->IV->Bool):List IV->List IV->Bool
  | [],[]=>true
  | a::x,b::y=>r a b&&im1 r x y
  | _,_=>false
 sameLL (r:IV->IV->Bool):List (List IV)->List (List IV)->Bool
  | [],[]=>true
  | a::x,b::y=>im1 r a b&&sameLL r x y
  | _,_=>false
variable {rd:RD} {Λ:Lam} {xs xs':XSt}
theorem fq4 {pf:List Nat}{an:Ann}{c:Code}{i:Nat}{x:IC}(h:be7 P pf N an c=za (.block i x)):∃ a,c=.block i a/\be7 P pf N an a=za x:=by
 cases c with
 | block id a=>obtain ⟨_,h1,h⟩:=map_some h; grind
 | scope a=>obtain ⟨_,_,h⟩:=map_some h; cases h
 | region id ops draw=>simp only[be7] at h; grind
 | seq a b=>simp only[be7] at h; grind
 | cond c a b=>simp only[be7] at h; grind
 | loop a=>obtain ⟨_,_,h⟩:=map_some h; cases h
 | rangeFunc g ps assign body=>simp only[be7] at h; grind
 | _=>cases h
theorem gf1 {pf:List Nat}{an:Ann}{c:Code}{x:IC}(h:be7 P pf N an c=za (.loop x)):∃ a,c=.loop a/\be7 P pf N an a=za x:=by
 cases c with
 | loop a=>obtain ⟨_,h1,h⟩:=map_some h; grind
 | region id ops draw=>simp only[be7] at h; grind
 | seq a b=>simp only[be7] at h; grind
 | cond c a b=>simp only[be7] at h; grind
 | block id a=>obtain ⟨_,_,h⟩:=map_some h; cases h
 | scope a=>obtain ⟨_,_,h⟩:=map_some h; cases h
 | rangeFunc g ps assign body=>simp only[be7] at h; grind
 | _=>cases h
theorem ca4 {i:Nat}{x:IC}{Q:Exit->Frm->Store->Prop}(h:RI P E N n0 x fr σ (bv3 i Q)):RI P E N n0 (.block i x) fr σ Q:=by
 intro pf an c hc;obtain ⟨a,rfl,hx⟩:=fq4 hc;exact gb3 (h pf an a hx)
theorem ew9 {x:IC}{Q:Exit->Frm->Store->Prop}(I:Nat->Frm->Store->Prop)(m:Nat)(h:I m fr σ)(hI:∀ m fr σ,I m fr σ->RI P E N n0 x fr σ (ek7 I m Q)):RI P E N n0 (.loop x) fr σ Q:=by
 intro pf an c hc;obtain ⟨a,rfl,hx⟩:=gf1 hc;exact ia2 I m h fun m fr σ hi=>hI m fr σ hi pf an a hx
end Go.Id
namespace Go.Id
open Go
variable {P:Program} {E:Nat->IV} {σ σ':Store}
inductive BT (V:Type) where
 | e
 | n (k:Nat) (v:V) (l r:BT V)
def BT.get {V:Type}:BT V->Nat->Option V
 | .e,_=>zb
 | .n k v l r,i=>bif qe i k then za v else bif Nat.ble i k then l.get i else r.get i
abbrev FE:=Nat×IC×List IR
def FOK (P:Program)(f:Nat)(e:FE):Prop:=okF P f=true/\∃ pf an,ib5 P f e.1 pf an e.2.1 e.2.2
theorem FOK.mk {f N:Nat}{pf:List Nat}{an:Ann}{ic:IC}{rs:List IR}(h:okF P f=true)(hf:ib5 P f N pf an ic rs):FOK P f (N,ic,rs):=⟨h,pf,an,hf⟩
instance instIX (n:Nat):OfNat IX n:=⟨.t n⟩
def oQ (d:Nat)(q:IQ):af7:=⟨za d,zb,.q q⟩
def oM (d:Nat)(x:IX):af7:=⟨za d,zb,.q (.mov x)⟩
def oK (d:Nat)(k:IK):af7:=⟨za d,zb,k⟩
def gQ (d s:Nat)(w:Bool)(q:IQ):af7:=⟨za d,za (s,w),.q q⟩
def gK (d s:Nat)(w:Bool)(k:IK):af7:=⟨za d,za (s,w),k⟩
def oN (k:IK):af7:=⟨zb,zb,k⟩
def cI (n:Int):IX:=.c (.int .i64 n)
def cB (b:Bool):IX:=.c (.bool b)
def zI (n:Int):IV:=.int .i64 n
def zU (n:Int):IV:=.int .u8 n
def cx8:IC->Ann
 | .reg id _ keep=>[(id,keep)]
 | .gw6 id _ _ keep=>[(id,keep)]
 | .ix2 id _ keep=>[(id,keep)]
 | .seq a b=>cx8 a++cx8 b
 | .cond _ a b=>cx8 a++cx8 b
 | .block _ a=>cx8 a
 | .loop a=>cx8 a
 | .bm3 _ _ a b=>cx8 a++cx8 b
 | .scope a=>cx8 a
 | _=>[]
theorem ad7 (pf:List Nat){f N:Nat}{fn:Func}{ic:IC}{rs:List IR}(h:P.funcs[f]? = za fn)(ho:okF P f=true:=by kernel_rfl)(hN:fn.ntmps=N:=by kernel_rfl)(hc:fn.body.bind (be7 P pf N (cx8 ic))=za ic:=by kernel_rfl)(hr:fi9 P fn.results.toList=za rs:=by kernel_rfl):FOK P f (N,ic,rs):=
 .mk (pf:=pf) (an:=cx8 ic) ho (ac7 h hN hc hr)
end Go.Id
namespace Go.Id
open Go
variable {H:Type} {enc:TypeId×Value->H} {P:Program} {w w':World} {base:Nat} {sp:Nat->Bool} {held:Bool} {ρ:Rho} {E:Nat->IV}
structure VL (ρ:Rho) (w:World) (ivs:List IV) (cs:List Value):Prop where
 len:ivs.length=cs.length
 get:∀ i,i<ivs.length->VR ρ w (ivs.getD i .undef) (cs.getD i undef)
def dvF (r:TypeId->DataW H->Option (List IV))(P:Program):List (TypeId×Nat)->List (DataW H)->Nat->Option (List IV)
 | [],[],_=>za []
 | f::fs,d::ds,off=>if f.2=off then (match r f.1 d with
  | some a=>if a.length=P.cellsOf f.1 then (match dvF r P fs ds (off+P.cellsOf f.1) with
   | some b=>za (a++b)
   | none=>zb) else zb
  | none=>zb) else zb
 | _,_,_=>zb
def dvS (r:DataW H->Option (List IV))(c:Nat):List (DataW H)->Option (List (List IV))
 | []=>za []
 | d::ds=>match r d with
  | some a=>if a.length=c then (match dvS r c ds with
   | some b=>za (a::b)
   | none=>zb) else zb
  | none=>zb
def dvE (r:DataW H->Option (List IV))(x:Lit×DataW H):IV×IV:=match x.1,r x.2 with
 | .string bs,za [v]=>(.str bs,v)
 | _,_=>(.undef,.undef)
def cx9:List IV->Bool
 | []=>true
 | .str a::r=>(r.all fun|.str b=>!(a==b)|_=>false)&&cx9 r
 | _::_=>false
def flat (P:Program)(e:TypeId):Bool:=match P.underlying e with
 | some .bool|some (.int _)|some .string|some (.slice _)|some (.pointer _)=>true
 | _=>false
def dv (P:Program):Nat->TypeId->DataW H->Option (List IV)
 | 0,_,_=>zb
 | m+1,t,d=>match P.underlying t,d with
  | some .bool,.lit (.bool b)=>za [.bool b]
  | some (.int _),.lit (.int k n)=>za [.int k n]
  | some .string,.lit (.string bs)=>za [.str bs]
  | some (.pointer _),.nil=>za [.ae7]
  | some (.pointer e),.ptr d=>match dv P m e d with
   | some (c::cs)=>za [.ab5 (c::cs)]
   | _=>zb
  | some (.slice _),.nil=>za [.aa4 []]
  | some (.slice e),.slice els _=>if P.cellsOf e=0 then zb else match dvS (dv P m e) (P.cellsOf e) els with
   | some es=>za [.aa4 es]
   | none=>zb
  | some (.struct fs),.agg ds=>match dvF (dv P m) P (fs.toList.map fun f=>(f.type,f.offset)) ds 0 with
   | some ivs=>if ivs.length=P.cellsOf t then za ivs else zb
   | none=>zb
  | some (.array n e),.agg ds=>match dvF (dv P m) P ((List.range n).map fun i=>(e,i*P.cellsOf e)) ds 0 with
   | some ivs=>if ivs.length=P.cellsOf t then za ivs else zb
   | none=>zb
  | some (.map k e),.map es=>match P.underlying k with
   | some .string=>if flat P e&&cx9 (es.map fun x=>(dvE (dv P m e) x).1) then za [.an9 (es.map (dvE (dv P m e)))] else zb
   | _=>zb
  | _,_=>zb
theorem cq2 {v:IV}{r:Value}(h:VR ρ w v r):VL ρ w [v] [r]:=⟨rfl,fun i hi=>by
 have h0:i=0:=by simpa using hi
 rw[h0]; exact h⟩
theorem ic2 {r:TypeId->DataW H->Option (List IV)} {rd:TypeId->List Value->DataW H->Prop} (hr:∀ t cs d ivs,rd t cs d->r t d=za ivs->VL ρ w ivs cs) (cs:List Value) :
  ∀ (fs:List (TypeId×Nat)) (ds:List (DataW H)) (off:Nat) (ivs:List IV),fs.length=ds.length ->
   (∀ (i:Nat) (f:TypeId×Nat) (d:DataW H),fs[i]? = za f->ds[i]? = za d->rd f.1 ((cs.drop f.2).take (P.cellsOf f.1)) d)->dvF r P fs ds off=za ivs ->
   ∀ i,i<ivs.length->off+i<cs.length/\VR ρ w (ivs.getD i .undef) (cs.getD (off+i) undef):=by
 intro fs
 induction fs with
 | nil=>
  intro ds off ivs hl _ h
  cases ds with
  | nil=>cases h; intro i hi; simp at hi
  | cons d ds=>simp at hl
 | cons f fs ih=>
  intro ds off ivs hl hrd h
  cases ds with
  | nil=>simp at hl
  | cons d ds=>
   simp only[dvF] at h;split at h
   ·rename_i hoff;split at h
    ·rename_i a ha;split at h
     ·rename_i hal;split at h
      ·rename_i b hb;cases h;have h0:=hr _ _ _ _ (hrd 0 f d rfl rfl) ha;have hl0:=h0.len;rw[hoff] at h0 hl0;simp only[List.length_take,List.length_drop] at hl0;intro i hi;by_cases hia:i<a.length
       ·have h1:=h0.get i hia;have hlt:off+i<cs.length:=om
        refine ⟨hlt,?_⟩;have e1:(a++b).getD i .undef=a.getD i .undef:=by simp[zc,qk,hia]
        have e2:((cs.drop off).take (P.cellsOf f.1)).getD i undef=cs.getD (off+i) undef:=by
         have:i<P.cellsOf f.1:=om
         simp[zc,List.getElem?_take,this,List.getElem?_drop]
        rw[e1,<- e2]; exact h1
       ·have h1:=ih ds _ b (by simpa using hl) (fun i f' d' hf hd=>hrd (i+1) f' d' (by simpa using hf) (by simpa using hd)) hb (i-a.length) (by simp at hi; omega);have e0:off+P.cellsOf f.1+(i-a.length)=off+i:=om
        rw[e0] at h1;refine ⟨h1.1,?_⟩;have e1:(a++b).getD i .undef=b.getD (i-a.length) .undef:=by simp[zc,qk,hia]
        rw[e1]; exact h1.2
      ·cases h
     ·cases h
    ·cases h
   ·cases h
theorem il6 {r:DataW H->Option (List IV)}{c:Nat}:∀ (ds:List (DataW H)) (es:List (List IV)),dvS r c ds=za es->es.length=ds.length/\∀ i,i<es.length->(es.getD i []).length=c/\∃ d,ds[i]? = za d/\r d=za (es.getD i []):=by
 intro ds
 induction ds with
 | nil=>intro es h; cases h; exact ⟨rfl,fun i hi=>by simp at hi⟩
 | cons d ds ih=>
  intro es h;simp only[dvS] at h;split at h
  ·rename_i a ha;split at h
   ·rename_i hal;split at h
    ·rename_i b hb;cases h;obtain ⟨h1,h2⟩:=ih b hb;refine ⟨by simp[h1],fun i hi=>?_⟩
     cases i with
     | zero=>exact ⟨hal,d,rfl,ha⟩
     | succ i=>
      obtain ⟨h3,d',h4,h5⟩:=h2 i (by simpa using hi);exact ⟨h3,d',h4,h5⟩
    ·cases h
   ·cases h
  ·cases h
theorem en5 {es:List (IV×IV)}(h:cx9 (es.map (·.1))=true):dw5 es:=by
 have:∀ (l:List IV),cx9 l=true->l.Nodup/\∀ v∈l,∃ s,v=.str s:=by
  intro l
  induction l with
  | nil=>intro _; exact ⟨.nil,fun _ h=>by cases h⟩
  | cons v l ih=>
   intro h
   cases v with
   | str a=>
    simp only[cx9,qa] at h;obtain ⟨h1,h2⟩:=ih h.2;refine ⟨List.nodup_cons.2 ⟨fun hm=>?_,h1⟩,fun v hv=>?_⟩
    ·have:=zi.1 h.1 _ hm;simp at this
    ·rcases zl.1 hv with rfl|hv
     ·exact ⟨a,rfl⟩
     ·exact h2 v hv
   | _=>cases h
 obtain ⟨h1,h2⟩:=this _ h;refine ⟨h1,.str,fun e he=>?_⟩;obtain ⟨s,hs⟩:=h2 e.1 (qg.2 ⟨e,he,rfl⟩);rw[hs]; trivial
theorem bm8 {a:Addr}{v:Value}(h:w.cell? a=za v):a.spot=zb/\a.block<w.heap.size:=by
 unfold World.cell? at h;split at h
 ·rename_i c _ _ hb;split at h
  ·cases h
  ·rename_i hs;refine ⟨by simpa using hs,?_⟩;exact Nat.lt_of_not_le fun hle=>by rw[zn hle] at hb; cases hb
 ·cases h
theorem fq5:∀ {l:List IV},cx9 l=true->∀ v∈l,∃ s,v=.str s:=by
 intro l
 induction l with
 | nil=>intro _ _ h; cases h
 | cons v l ih=>
  intro h
  cases v with
  | str a=>
   simp only[cx9,qa] at h;intro v hv;rcases zl.1 hv with rfl|hv
   ·exact ⟨a,rfl⟩
   ·exact ih h.2 v hv
  | _=>cases h
theorem il7 {k:TypeId}{v:Value}{bs:List UInt8}(hk:P.underlying k=za .string)(h:keyOf P k v=za (.string bs)):v=.string ⟨bs.toArray⟩:=by
 unfold keyOf mapKey at h;rw[hk] at h
 cases v with
 | string s=>
  simp only at h;split at h
  ·cases h;congr 1
  ·cases h
 | _=>cases h
theorem fq6 {e:TypeId}{v:Value}(h:flat P e=true)(hf:v.formed P e=true):v.cells.toList=[v]:=by
 unfold flat at h
 cases v with
 | agg cs=>
  unfold Value.formed at hf
  split at h<;>simp_all
 | _=>rfl
theorem bw8 (hF:∀ b,b<w.heap.size->FB ρ w b):∀ (m n:Nat) (t:TypeId) (d:DataW H) (cs:List Value) (ps:List MemPlace) (ivs:List IV),
  DataW.trod enc P w base sp held n t cs=za (d,ps)->dv P m t d=za ivs->VL ρ w ivs cs:=by
 intro m
 induction m with
 | zero=>intro n t d cs ps ivs _ h; cases h
 | succ m ih=>
  intro n t d cs ps ivs h hd;unfold dv at hd;split at hd
  ·rename_i b hu;obtain ⟨b',rfl,hx⟩:=DataW.trod_bool hu h;cases hx; cases hd;exact cq2 (.bool _)
  ·rename_i k0 k n0 hu;obtain ⟨n',rfl,hx,_⟩:=DataW.trod_int hu h;cases hx; cases hd;exact cq2 (.int _ _)
  ·rename_i bs hu;obtain ⟨s,rfl,hx,_⟩:=DataW.trod_string hu h;cases hx; cases hd;have:(⟨s.data.toList.toArray⟩:ByteArray)=s:=by cases s; simp
   exact cq2 (by have:=VR.str (ρ:=ρ) (w:=w) s.data.toList; simpa using this)
  ·rename_i hu;cases hd;rcases DataW.trod_pointer hu h with ⟨rfl,_⟩|⟨a,cs',y,n',_,_,hx,_⟩
   ·exact cq2 .ae7
   ·cases hx
  ·rename_i e d' hu;rcases DataW.trod_pointer hu h with ⟨_,hx⟩|⟨a,cs',y,n',rfl,rfl,hx,hc,hy⟩
   ·cases hx
   ·cases hx;split at hd
    ·rename_i c0 cs0 hd0;cases hd;have hv:=ih n' e y.1 cs' y.2 (c0::cs0) hy hd0;obtain ⟨_,hl,hcell⟩:=World.cells?_some hc;have hlen:=hv.len;simp only[z9] at hlen;have h0:=hcell 0 om;rw[zf om] at h0;obtain ⟨h1,h2⟩:=bm8 h0;have ea:a.add 0=a:=rfl;rw[ea] at h1 h2;obtain ⟨b,o,s⟩:=a;simp only at h1; subst h1;refine cq2 (.ab5 (c0::cs0) b o (fun j=>cs'.getD j undef) (hF b h2) (fun j hj=>?_) (fun j hj=>hv.get j hj));simp only[z9] at hj;have hj':=hcell j om;have ej:(⟨b,o,zb⟩:Addr).add j=⟨b,o+j,zb⟩:=by unfold Addr.add; by_cases hj0:j=0<;>simp[hj0]
     rw[ej] at hj';rw[hj',zc,zf om];rfl
    ·cases hd
  ·rename_i e hu;cases hd;rcases DataW.trod_slice hu h with ⟨rfl,_⟩|⟨a,len,cap,elems,rest,n',_,_,hx,_⟩
   ·exact cq2 .cd9
   ·cases hx
  ·rename_i e els rst hu;split at hd
   ·cases hd
   ·rename_i hc0;split at hd
    ·rename_i es hes;cases hd;rcases DataW.trod_slice hu h with ⟨rfl,hx⟩|⟨a,len,cap,elems,rest,n',rfl,rfl,hx,_,hlc,_,hel,hcell,_,_⟩
     ·cases hx
     ·cases hx;obtain ⟨g1,g2⟩:=il6 _ _ hes;have hlen:es.length=len:=by rw[g1,List.length_map,hel]
      have key:∀ i,i<es.length->∃ ci p,w.cells? base (a.add (i*P.cellsOf e)) (P.cellsOf e)=za ci/\(es.getD i []).length=P.cellsOf e/\VL ρ w (es.getD i []) ci/\p=():=by
       intro i hi;obtain ⟨g3,d',g4,g5⟩:=g2 i hi;have hc:=hcell i om;rw[z0] at g4
       cases hei:elems[i]? with
       | none=>rw[hei] at g4; cases g4
       | some x=>
        rw[hei] at g4 hc;cases g4;obtain ⟨ci,hci,hx⟩:=Option.bind_eq_some_iff.1 hc;exact ⟨ci,(),hci,g3,ih n' e x.1 ci x.2 _ hx g5,rfl⟩
      have hF0:es≠[]->FB ρ w a.block/\a.spot=zb:=by
       intro hne;have h0:0<es.length:=List.length_pos_iff.2 hne;obtain ⟨ci,_,hci,g3,_,_⟩:=key 0 h0;obtain ⟨_,hl,hcc⟩:=World.cells?_some hci;have hcc0:=hcc 0 om;rw[zf om] at hcc0;have ea:(a.add (0*P.cellsOf e)).add 0=a:=by simp[Addr.add]
       rw[ea] at hcc0;obtain ⟨h1,h2⟩:=bm8 hcc0;exact ⟨hF _ h2,h1⟩
      have hcells:∀ i,i<es.length->∀ j,j<P.cellsOf e->∃ v,w.cell? ⟨a.block,a.off+(i*P.cellsOf e+j),zb⟩=za v/\VR ρ w ((es.getD i []).getD j .undef) v:=by
       intro i hi j hj;obtain ⟨ci,_,hci,g3,g4,_⟩:=key i hi;obtain ⟨_,hl,hcc⟩:=World.cells?_some hci;have hcj:=hcc j hj;have hsp:=(hF0 (by intro h0; rw[h0] at hi; simp at hi)).2
       have ea:(a.add (i*P.cellsOf e)).add j=⟨a.block,a.off+(i*P.cellsOf e+j),zb⟩:=by
        obtain ⟨b,o,s⟩:=a;simp only at hsp; subst hsp;unfold Addr.add;by_cases h1:i*P.cellsOf e=0<;>by_cases h2:j=0<;>simp[h1,h2,Nat.add_assoc]
       rw[ea,zf om] at hcj;refine ⟨_,hcj,?_⟩;have:=g4.get j om;rw[zc (l:=ci),zf om] at this;exact this
      refine cq2 ?_;obtain ⟨b,o,s⟩:=a;rw[<- hlen];refine .aa4 es b o cap (P.cellsOf e) s (fun i j=>(w.cell? ⟨b,o+(i*P.cellsOf e+j),zb⟩).getD undef) hF0 (fun i hi=>(g2 i hi).1) (fun i hi j hj=>?_) (fun i hi j hj=>?_) om
      ·obtain ⟨v,h1,_⟩:=hcells i hi j hj;simp only at h1;rw[h1]; rfl
      ·obtain ⟨v,h1,h2⟩:=hcells i hi j hj;simp only at h1;rw[h1]; exact h2
    ·cases hd
  ·rename_i fs ds hu;split at hd
   ·rename_i ivs' hd';split at hd
    ·rename_i hil;cases hd;obtain ⟨xs,n',rfl,hx,hlen,hxl,hfi⟩:=DataW.trod_struct hu h;cases hx
     have hg:=ic2 (P:=P) (rd:=fun t cs d=>∃ p,DataW.trod enc P w base sp held n' t cs=za (d,p)) (fun t cs d ivs ⟨p,hp⟩ h=>ih n' t d cs p ivs hp h) cs _ _ 0 _ (by simp[hxl]) (fun i f d hf hd=>by
      rw[z0] at hf hd
      cases hfi':fs.toList[i]? with
      | none=>rw[hfi'] at hf; cases hf
      | some f0=>
       rw[hfi'] at hf; cases hf;have:=hfi i f0 (by simpa using hfi')
       cases hxi:xs[i]? with
       | none=>rw[hxi] at hd; cases hd
       | some x=>rw[hxi] at hd this; cases hd; exact ⟨x.2,this⟩) hd'
     exact ⟨by rw[hil,hlen],fun i hi=>by have:=(hg i hi).2; rwa [zj] at this⟩
    ·cases hd
   ·cases hd
  ·rename_i k e ds hu;split at hd
   ·rename_i ivs' hd';split at hd
    ·rename_i hil;cases hd;obtain ⟨xs,n',rfl,hx,hlen,hxl,hfi⟩:=DataW.trod_array hu h;cases hx
     have hg:=ic2 (P:=P) (rd:=fun t cs d=>∃ p,DataW.trod enc P w base sp held n' t cs=za (d,p)) (fun t cs d ivs ⟨p,hp⟩ h=>ih n' t d cs p ivs hp h) cs _ _ 0 _ (by simp[hxl]) (fun i f d hf hd=>by
      rw[z0] at hf hd
      cases hfi':(List.range k)[i]? with
      | none=>rw[hfi'] at hf; cases hf
      | some f0=>
       rw[hfi'] at hf; cases hf;obtain ⟨hik,rfl⟩:=List.getElem?_eq_some_iff.1 hfi';simp only[List.length_range] at hik;have:=hfi i hik;simp only[List.getElem_range]
       cases hxi:xs[i]? with
       | none=>rw[hxi] at hd; cases hd
       | some x=>rw[hxi] at hd this; cases hd; exact ⟨x.2,this⟩) hd'
     exact ⟨by rw[hil,hlen],fun i hi=>by have:=(hg i hi).2; rwa [zj] at this⟩
    ·cases hd
   ·cases hd
  ·rename_i k e es hu;split at hd
   ·rename_i hk;split at hd
    ·rename_i hfn;cases hd;simp only[qa] at hfn;obtain ⟨hfl,hnd⟩:=hfn;rcases WideElems.open_map hu h with ⟨_,hx⟩|⟨b,mes,clock,n',rfl,rfl,hb,_,F,hx⟩
     ·cases hx
     ·simp only[Prod.mk.injEq,DataW.map.injEq] at hx;obtain ⟨hx,_⟩:=hx;have hlt:b<w.heap.size:=Nat.lt_of_not_le fun hle=>by rw[zn hle] at hb; cases hb
      let g:Lit×DataW H->IV×IV:=dvE (dv P m e);let L:=mes.toList.map (WideElems.rg P k (WideElems.elemAt enc P w base sp held n' e));have hp:L.Perm es:=by rw[hx]; exact (WideShapes.sorted_perm L).symm
      have hpg:(L.map g).Perm (es.map g):=hp.map g;have hko:dw5 (es.map g):=en5 (by rw[List.map_map]; exact hnd)
      have ent:∀ i,i<mes.size->VR ρ w ((L.map g).getD i (.undef,.undef)).1 (mes.getD i default).key/\VR ρ w ((L.map g).getD i (.undef,.undef)).2 (mes.getD i default).val:=by
       intro i hi
       have hmem:mes.getD i default∈mes.toList:=by
        have:=ae1 (default:MapEntry) (l:=mes.toList) (i:=i) (by simpa using hi)
        simpa [zc,zd] using this
       obtain ⟨y,hy⟩:=F.reads _ hmem
       have e1:(L.map g).getD i (.undef,.undef)=g y:=by
        have:L[i]? = za y:=by
         simp only[L,z0];rw[show mes.toList[i]? = za (mes.getD i default) by simp[zd,hi]];exact congrArg za (WideElems.rg_of hy)
        simp[zc,this]
       rw[e1];have hyL:y∈L:=qg.2 ⟨_,hmem,WideElems.rg_of hy⟩;have hys:∃ s,(g y).1=.str s:=fq5 hnd _ (qg.2 ⟨y,hp.mem_iff.1 hyL,rfl⟩);have hkey:=WideElems.rd_key hy;obtain ⟨z,hz,hyz⟩:=WideElems.rd_val hy;simp only[g,dvE] at hys ⊢;split at hys
       ·rename_i bs v hl hv;refine ⟨?_,?_⟩
        ·rw[hl] at hkey;rw[il7 hk hkey]; exact .str _
        ·generalize mes.getD i default=me at hz ⊢;unfold WideElems.elemAt at hz;split at hz
         ·rename_i hform;have hvl:=ih n' e z.1 _ z.2 [v] hz (by rw[<- hyz]; exact hv);have hcl:=fq6 hfl hform;rw[hcl] at hvl;exact hvl.get 0 (by simp)
         ·cases hz
       ·obtain ⟨_,hys⟩:=hys; cases hys
      have hsz:(L.map g).length=mes.size:=by simp[L]
      obtain ⟨s1,s2,_⟩:=F.stamped;refine cq2 (.an9 (es.map g) (L.map g) b mes clock hpg hko (hF b hlt) hb hsz (fun i hi=>(ent i om).1) (fun i hi=>(ent i om).2) ?_ ?_)
      ·intro i hi;refine s1 _ ?_;have:=ae1 (default:MapEntry) (l:=mes.toList) (i:=i) (by simpa using hi)
       simpa [zc,zd] using this
      ·intro i j hij hj he;have:=(List.pairwise_iff_getElem.1 s2) i j (by simp; omega) (by simpa using hj) hij;simp only[List.getElem_map,Array.getElem_toList] at this;apply this;have hi:i<mes.size:=om
       simpa [zd,hi,hj] using he
    ·cases hd
   ·cases hd
  ·cases hd
def fq7 (l:List (Nat×List IV))(g:Nat):IV:=match l.lookup g with
 | some cs=>.ab5 cs
 | none=>.undef
theorem gf2 {laid:List (String×DataW Unit)}(hF:∀ b,b<w.heap.size->FB ρ w b):∀ (laid:List (String×DataW Unit)) (ps:List MemPlace),DataW.LaidVars P w laid ps->∀ (name:String) (d:DataW Unit),(name,d)∈laid->∀ (g:Nat) (t:TypeId) (m:Nat) (c:IV) (ivs:List IV),
  P.globalNamed name=za g->(P.globals[g]?).map (·.type)=za t->dv P m t d=za (c::ivs)->VR ρ w (.ab5 (c::ivs)) (.pointer (za ⟨g,0,zb⟩)):=by
 intro laid
 induction laid with
 | nil=>intro ps _ name d hm; cases hm
 | cons x r ih=>
  intro ps h name d hm g t m c ivs hg ht hd;obtain ⟨xn,xd⟩:=x;obtain ⟨g',t',cs,fuel,p,q,h1,h2,h3,h4,h5,_⟩:=h;rcases zl.1 hm with hm|hm
  ·cases hm;obtain rfl:=za.inj (h1.symm.trans hg);obtain rfl:=za.inj (h2.symm.trans ht);have hv:=bw8 hF m fuel _ d _ p _ h4 hd;have hc:=fun i=>World.var?_cell h1 h3 i
   have hlen:=hv.len;simp only[z9,Array.length_toList] at hlen;have h0:=hc 0;rw[qf om] at h0;refine .ab5 (c::ivs) _ 0 (fun j=>cs.getD j undef) (hF _ (bm8 h0).2) (fun j hj=>?_) (fun j hj=>?_)
   ·simp only[z9] at hj;rw[zj,hc j,qf om];simp[zd,show j<cs.size by omega]
   ·have:=hv.get j hj
    simpa [zc,zd] using this
  ·exact ih _ h5 name d hm g t m c ivs hg ht hd
def ex1:Rho:=⟨fun _=>.no,fun _=>False⟩
theorem bm9:∀ b,b<w.heap.size->FB ex1 w b:=fun b h=>⟨h,(fun _ _ h=>by cases h),fun h=>h⟩
def jt7:Store:=⟨0,fun _=>zb⟩
theorem ha8 {laid:List (String×DataW Unit)}(h:laidMet P laid w)(l:List (Nat×List IV))
  (hl:∀ x∈l,∃ (name:String) (d:DataW Unit) (t:TypeId) (m:Nat) (c:IV) (ivs:List IV),x.2=c::ivs/\(name,d)∈laid/\P.globalNamed name=za x.1/\(P.globals[x.1]?).map (·.type)=za t/\dv P m t d=za (c::ivs)) :
  ∀ g,VR ex1 w (fq7 l g) (.pointer (za ⟨g,0,zb⟩)):=by
 intro g;unfold fq7
 cases hg:l.lookup g with
 | none=>exact .undef _
 | some cs=>
  obtain ⟨ps,hps,_,_⟩:=h
  have hm:(g,cs)∈l:=by
   clear hl
   induction l with
   | nil=>cases hg
   | cons x l ih=>
    obtain ⟨a,b⟩:=x;simp only[List.lookup] at hg;split at hg
    ·rename_i hb;cases hg;have:g=a:=by simpa using hb
     rw[this]; exact ql ..
    ·exact qj _ (ih hg)
  obtain ⟨name,d,t,m,c,ivs,h1,h2,h3,h4,h5⟩:=hl _ hm;simp only at h1 h3 h4;rw[h1];exact gf2 (laid:=laid) bm9 laid ps hps name d h2 g t m c ivs h3 h4 h5
theorem ke8 (h:∀ g,VR ex1 w (E g) (.pointer (za ⟨g,0,zb⟩))):Sim E ex1 w jt7 :=
 ⟨(fun _ _ _ _ _ h=>by cases h),(fun _ _ _ h=>by cases h),(fun _ _ _ h=>by cases h),(fun _ h=>by cases h),(fun _ _=>rfl),(fun _ _=>rfl),h,(fun _ _ _ h=>by cases h),fun _ h=>h.elim⟩
theorem ha9 {f:FuncId}{args:List IV}{rargs:Array Value}{b:Bool}(h:PC P E f args (.bool b))(he:∀ g,VR ex1 w (E g) (.pointer (za ⟨g,0,zb⟩)))(ha:CR ex1 w args rargs) :
  Calls P f rargs w fun e w'=>e=.returned (.bool b)/\RowKit.Below w.heap.size w w':=by
 refine callsIn_wide.1 (CallsIn.mono (h jt7 ex1 w rargs (ke8 he) ha) ?_);rintro e w' ⟨v,r,ρ',σ',rfl,⟨rfl,rfl⟩,_,hv,hx⟩;cases hv;exact ⟨rfl,hx.os,hx.tape.1,hx.output,hx.size,fun k hk=>hx.keep k (bm9 k hk).ub⟩
theorem dr5 {H:Type}{enc:TypeId×Value->H}{f:Func}{s:ChangeSpec}{apart fresh handsOn again:Bool}{W W':World}{args:Array Value}{v:Value}{ds gs:List (DataW H)}{before pa pv:List MemPlace}
  (hW:DataW.Whole enc P f.params.toList s.vars apart W args.toList ds gs before)
  (hres:∀ (b:Nat) (sp:Nat->Bool) (hd:Bool),DataW.TrodAll enc P W' b sp hd f.resultTypes.toList (v.resultList f.resultTypes.size) (s.fn H (ds++gs)).results [])
  (hargs:∀ sp:Nat->Bool,(∀ p∈before,sp p.block=true)->DataW.TrodAll enc P W' 0 sp true f.params.toList args.toList (s.fn H (ds++gs)).args pa)
  (hvars:∀ sp:Nat->Bool,(∀ p∈before,sp p.block=true)->DataW.TrodVars enc P W' sp s.vars (s.fn H (ds++gs)).vars pv)
  (hps:before=pa++pv) (hb:RowKit.Below W.heap.size W W')
  (hok:∀ (j:Nat) (t:TypeId) (r:Value),f.resultTypes[j]? = za t->(v.resultList f.resultTypes.size)[j]? = za r->Value.okWide P W' .any 0 t r) :
  s.post enc P f apart fresh handsOn again W args v W':=by
 have hlt:∀ p∈before,p.block<W.heap.size:=fun p hp=>hW.lt p hp
 have hold:∀ p∈before,(fun b=>decide (b<W.heap.size)) p.block=true:=fun p hp=>by simpa using hlt p hp
 refine ⟨ds,gs,before,[],pa,pv,hW,hres _ _ _,hargs _ hold,hvars _ hold,World.keptBut_mono (fun p hp=>⟨hp,?_⟩) (hb.frame (·∈before)),fun _=>?_⟩
 ·rw[hps,List.mem_append] at hp;exact Or.inr hp
 ·obtain ⟨_,_,_,_,_,hz,hn⟩:=hW;refine ⟨hok,_,_,([]++pa)++pv,⟨[]++pa,pv,ChangeShapes.trodAll_append (hargs _ (fun _ _=>rfl)) (hres _ _ _),hvars _ (fun _ _=>rfl),rfl,?_,?_⟩,?_⟩
  ·intro b off hp;have hin:MemPlace.cell b off∈before:=by rw[hps]; simpa using hp
   rw[hb.frozen (hlt _ hin)];exact hz b off hin
  ·intro ha;have:=hn ha;rw[hps] at this
   simpa using this
  ·intro p hp _;rw[hps]
   simpa using hp
end Go.Id
namespace Go.Id
open Go
variable {P:Program} {E:Nat->IV}
def opsL:List (IV×IV):=[(.str [],.int .u8 0),(.str [60],.int .u8 1),(.str [60,61],.int .u8 3),(.str [61],.int .u8 2),(.str [62],.int .u8 4),(.str [62,61],.int .u8 6)]
def ep1 (op:Int):List UInt8:=if op=1 then [60] else if op=2 then [61] else if op=3 then [60,61] else if op=4 then [62] else if op=6 then [62,61] else []
def id9 (g:Nat):IC :=
(.seq
 (.reg 0 [⟨(za 2),zb,(.q (.mov (.c (.str []))))⟩] [0])
 (.seq
 (.seq
  (.reg 1 [⟨(za 5),zb,(.q (.load zb (.g g)))⟩,⟨(za 6),zb,(.bf4 (.t 5))⟩] [0,6])
  (.block 0
  (.loop
   (.seq
   (.reg 2 [⟨(za 7),zb,(.cs6 (.t 6))⟩,⟨(za 8),zb,(.q (.ext 0 (.t 7)))⟩] [0,6,8])
   (.seq
    (.cond (.t 8)
    .skip
    (.exit 0))
    (.block 1
    (.seq
     (.reg 3 [⟨(za 9),zb,(.fw8 (.t 6))⟩,⟨(za 10),zb,(.q (.ext 0 (.t 9)))⟩,⟨(za 11),zb,(.q (.ext 1 (.t 9)))⟩,⟨(za 3),zb,(.q (.mov (.t 10)))⟩,⟨(za 4),zb,(.q (.mov (.t 11)))⟩] [0,3,4,6])
     (.seq
     (.reg 4 [⟨(za 12),zb,(.q (.mov (.t 4)))⟩,⟨(za 13),zb,(.q (.mov (.t 0)))⟩,⟨(za 14),zb,(.q (.bin .eql (.t 12) (.t 13)))⟩] [0,3,6,14])
     (.cond (.t 14)
      (.seq
      (.reg 5 [⟨(za 15),zb,(.q (.mov (.t 3)))⟩,⟨(za 2),zb,(.q (.mov (.t 15)))⟩] [2])
      .ret)
      .skip)))))))))
 (.seq
  (.reg 6 [⟨(za 2),zb,(.q (.mov (.c (.str []))))⟩] [2])
  .ret)))
theorem ee3 {α:Type}{d:α}{e:α}:∀ {l:List α} {j:Nat},e∈l->e∈l.eraseIdx j\/e=l.getD j d:=by
 intro l
 induction l with
 | nil=>intro j h; cases h
 | cons x l ih=>
  intro j h
  cases j with
  | zero=>
   rcases zl.1 h with rfl|h
   ·exact .inr rfl
   ·exact .inl h
  | succ j=>
   rcases zl.1 h with rfl|h
   ·exact .inl (ql ..)
   ·rcases ih (j:=j) h with h|h
    ·exact .inl (qj _ h)
    ·exact .inr h
structure TxI (σ0:Store) (n:Int) (id:Nat) (m:Nat) (fr:Frm) (σ:Store):Prop where
 f0:fr.get 0=.int .u8 n
 f6:fr.get 6=.ptr id 0
 next:σ0.next<=σ.next
 low:∀ i,i<σ0.next->σ.obj i=σ0.obj i
 lt:σ0.next<=id
 obj:∃ left cur,σ.obj id=za (.ar8 left cur)/\left.length=m/\(∀ e∈left,e∈opsL)/\∀ e∈opsL,e.2=.int .u8 n->e∈left
theorem hf8 {n:Int}{e:IV×IV}(h:e∈opsL)(hn:e.2=.int .u8 n):e.1=.str (ep1 n):=by
 simp only[opsL,zl,List.not_mem_nil,or_false] at h;rcases h with rfl|rfl|rfl|rfl|rfl|rfl<;>cases hn<;>rfl
theorem gi3 {n:Int}(h:∀ e∈opsL,e.2≠.int .u8 n):ep1 n=[]:=by
 have h1:=h (.str [60],.int .u8 1) (by simp[opsL]);have h2:=h (.str [61],.int .u8 2) (by simp[opsL]);have h3:=h (.str [60,61],.int .u8 3) (by simp[opsL]);have h4:=h (.str [62],.int .u8 4) (by simp[opsL]);have h6:=h (.str [62,61],.int .u8 6) (by simp[opsL]);simp only[ne_eq,IV.int.injEq,true_and] at h1 h2 h3 h4 h6;simp[ep1,Ne.symm h1,Ne.symm h2,Ne.symm h3,Ne.symm h4,Ne.symm h6]
theorem in5 {f g:Nat}{pf:List Nat}{an:Ann}{n:Int}(hf:ib5 P f 16 pf an (id9 g) [.t 2])(hg:E g=.ab5 [.an9 opsL]):PC P E f [.int .u8 n] (.str (ep1 n)):=by
 refine jq1 noT hf (qi rfl) fun σ hb=>?_
 simp only[id9,de9,df1,cf8,bp8,df2,cf9,df3,cg1,fj5,iv2,fj1,fj3,df4,cg2,df5,cg3,cg5,bp9,df6,w_q,cg6,fj6,fj7,cg7,fj8,cg9,bq1,cg8,df7,df8,df9,ch1,bq2,fj9,dg1,fk1,dg2,ch2,ch3,dg3,fk2,fk3,fk4,fk5,fk6,fk7,fk8,fk9,fl1,fl2,dg4,fl3,dg5,fl4,dg6,ch4,dg7,dh2,fl5,iv5,iv6,fl6,fl7,fl8,fl9,fm1,fm2,fm3,fm4,fm5,fm6,dh3,ch5,bq3,bf6,ch6,bq4,dg8,dg9,dh1,ch7,iv3,iv4,bf8,bq8,ci9,cj1,cj3,ci8,di6,e_t,e_c,e_g,e_f,fm7,dh4,fm8,fm9,fn1,al2,fn2,dh5,ch8,fn3,ch9,fn4,ci1,ci2,fn5,dh6,fn6,dh7,fn8,fn9,fo1,fo2,dh8,dh9,em6,ib8,eb7,em5,ci3,ci4,di1,di2,ci5,ci6,iv7,bq5,di3,di4,di5,bq6,ci7,bf7,bq7,bq9,cj4,br1,br2,di7,di8,em7,em8,cj5,cj6,cj7,cj8,di9,dj1,cj9,br3,fo3,fo4,fo5,fo6,fo7,fo8,fo9,fp1,fp3,fp4,fp5,eb8,em9,dj2,dj3,dj4,dj5,dj6,dj7,dj8,dj9,dk4,dk5,bk3,br4,ck3,ck4,ck5,dk6,dk7,dk8,dk9,fp6,fp7,dl1,fp8,ck6,ck7,ck8,fq2,bm7,ib9,dl8,ck9,cl1,br5,bi7,ca3,fp9,cs7,br6,fq1,cs8,br7,br8,cl2,cl3,cl4,cl5,br9,cl6,cl7,bs1,bf9,az9,bs2,cl8,bs3,dl2,dl3,dl4,cl9,bs4,cm1,cm2,bs5,bg1,ba1,bs6,cm3,bs7,dl5,dl6,dl7,zg,zh,z2,qb,zv,zk,zt,z5,z6,Frm.bp7,Frm.get_nil,aa7,aa5,decide_true,decide_false,zu,zr,zo,zm,zw,z3,z4,zx,zq,z8,z7,qc,qd,zj,zp,if_true,if_false,↓reduceIte,reduceCtorEq,true_and,and_true,hg];refine ib6 noT (TxI σ n σ.next) opsL.length ⟨rfl,rfl,?_,?_,z1 _,opsL,zb,?_,rfl,fun _ h=>h,fun _ h _=>h⟩ ?_
 ·show σ.next<=σ.next+1; omega
 ·intro i hi; simp only[aa5]; rw[if_neg om]
 ·simp only[aa5,if_true]
 ·rintro m fr s ⟨f0,f6,h1,h2,h3,left,cur,h4,h5,h6,h7⟩;have hm:bm1 s (.ptr σ.next 0)=za (σ.next,left):=by simp only[bm1,h4]
  simp only[de9,df1,cf8,bp8,df2,cf9,df3,cg1,fj5,iv2,fj1,fj3,df4,cg2,df5,cg3,cg5,bp9,df6,w_q,cg6,fj6,fj7,cg7,fj8,cg9,bq1,cg8,df7,df8,df9,ch1,bq2,fj9,dg1,fk1,dg2,ch2,ch3,dg3,fk2,fk3,fk4,fk5,fk6,fk7,fk8,fk9,fl1,fl2,dg4,fl3,dg5,fl4,dg6,ch4,dg7,dh2,fl5,iv5,iv6,fl6,fl7,fl8,fl9,fm1,fm2,fm3,fm4,fm5,fm6,dh3,ch5,bq3,bf6,ch6,bq4,dg8,dg9,dh1,ch7,iv3,iv4,bf8,bq8,ci9,cj1,cj3,ci8,di6,e_t,e_c,e_g,e_f,fm7,dh4,fm8,fm9,fn1,al2,fn2,dh5,ch8,fn3,ch9,fn4,ci1,ci2,fn5,dh6,fn6,dh7,fn8,fn9,fo1,fo2,dh8,dh9,em6,ib8,eb7,em5,ci3,ci4,di1,di2,ci5,ci6,iv7,bq5,di3,di4,di5,bq6,ci7,bf7,bq7,bq9,cj4,br1,br2,di7,di8,em7,em8,cj5,cj6,cj7,cj8,di9,dj1,cj9,br3,fo3,fo4,fo5,fo6,fo7,fo8,fo9,fp1,fp3,fp4,fp5,eb8,em9,dj2,dj3,dj4,dj5,dj6,dj7,dj8,dj9,dk4,dk5,bk3,br4,ck3,ck4,ck5,dk6,dk7,dk8,dk9,fp6,fp7,dl1,fp8,ck6,ck7,ck8,fq2,bm7,ib9,dl8,ck9,cl1,br5,bi7,ca3,fp9,cs7,br6,fq1,cs8,br7,br8,cl2,cl3,cl4,cl5,br9,cl6,cl7,bs1,bf9,az9,bs2,cl8,bs3,dl2,dl3,dl4,cl9,bs4,cm1,cm2,bs5,bg1,ba1,bs6,cm3,bs7,dl5,dl6,dl7,zg,zh,z2,qb,zv,zk,zt,z5,z6,Frm.bp7,Frm.get_nil,aa7,aa5,decide_true,decide_false,zu,zr,zo,zm,zw,z3,z4,zx,zq,z8,z7,qc,qd,zj,zp,if_true,if_false,↓reduceIte,reduceCtorEq,true_and,and_true,f0,f6,hm];constructor
  ·intro h0;subst h0;have hno:∀ e∈opsL,e.2≠.int .u8 n:=fun e he hn=>by have:=h7 e he hn; cases this
   refine ⟨fun i hi=>h2 i hi,h1,?_⟩;rw[gi3 hno];exact .keep _ (.str _)
  ·intro j hj;have hmem:left.getD j (.undef,.undef)∈left:=ae1 _ hj;have hops:=h6 _ hmem;have hment:∀ c x,cs3 ⟨x,(s.put σ.next (.ar8 (left.eraseIdx j) (za c))).obj⟩ (.ptr σ.next 0)=za (.tuple [c.1,c.2]):=fun c x=>by simp only[cs3,aa5,if_true]
   generalize hc:left.getD j (.undef,.undef)=c at hmem hops ⊢
   obtain ⟨k,hk⟩:∃ k,c.2=.int .u8 k:=by
    simp only[opsL,zl,List.not_mem_nil,or_false] at hops;rcases hops with rfl|rfl|rfl|rfl|rfl|rfl<;>exact ⟨_,rfl⟩
   simp only[hment,de9,df1,cf8,bp8,df2,cf9,df3,cg1,fj5,iv2,fj1,fj3,df4,cg2,df5,cg3,cg5,bp9,df6,w_q,cg6,fj6,fj7,cg7,fj8,cg9,bq1,cg8,df7,df8,df9,ch1,bq2,fj9,dg1,fk1,dg2,ch2,ch3,dg3,fk2,fk3,fk4,fk5,fk6,fk7,fk8,fk9,fl1,fl2,dg4,fl3,dg5,fl4,dg6,ch4,dg7,dh2,fl5,iv5,iv6,fl6,fl7,fl8,fl9,fm1,fm2,fm3,fm4,fm5,fm6,dh3,ch5,bq3,bf6,ch6,bq4,dg8,dg9,dh1,ch7,iv3,iv4,bf8,bq8,ci9,cj1,cj3,ci8,di6,e_t,e_c,e_g,e_f,fm7,dh4,fm8,fm9,fn1,al2,fn2,dh5,ch8,fn3,ch9,fn4,ci1,ci2,fn5,dh6,fn6,dh7,fn8,fn9,fo1,fo2,dh8,dh9,em6,ib8,eb7,em5,ci3,ci4,di1,di2,ci5,ci6,iv7,bq5,di3,di4,di5,bq6,ci7,bf7,bq7,bq9,cj4,br1,br2,di7,di8,em7,em8,cj5,cj6,cj7,cj8,di9,dj1,cj9,br3,fo3,fo4,fo5,fo6,fo7,fo8,fo9,fp1,fp3,fp4,fp5,eb8,em9,dj2,dj3,dj4,dj5,dj6,dj7,dj8,dj9,dk4,dk5,bk3,br4,ck3,ck4,ck5,dk6,dk7,dk8,dk9,fp6,fp7,dl1,fp8,ck6,ck7,ck8,fq2,bm7,ib9,dl8,ck9,cl1,br5,bi7,ca3,fp9,cs7,br6,fq1,cs8,br7,br8,cl2,cl3,cl4,cl5,br9,cl6,cl7,bs1,bf9,az9,bs2,cl8,bs3,dl2,dl3,dl4,cl9,bs4,cm1,cm2,bs5,bg1,ba1,bs6,cm3,bs7,dl5,dl6,dl7,zg,zh,z2,qb,zv,zk,zt,z5,z6,Frm.bp7,Frm.get_nil,aa7,aa5,decide_true,decide_false,zu,zr,zo,zm,zw,z3,z4,zx,zq,z8,z7,qc,qd,zj,zp,if_true,if_false,↓reduceIte,reduceCtorEq,true_and,and_true,hk];by_cases hkn:k=n
   ·subst hkn;simp only[de9,df1,cf8,bp8,df2,cf9,df3,cg1,fj5,iv2,fj1,fj3,df4,cg2,df5,cg3,cg5,bp9,df6,w_q,cg6,fj6,fj7,cg7,fj8,cg9,bq1,cg8,df7,df8,df9,ch1,bq2,fj9,dg1,fk1,dg2,ch2,ch3,dg3,fk2,fk3,fk4,fk5,fk6,fk7,fk8,fk9,fl1,fl2,dg4,fl3,dg5,fl4,dg6,ch4,dg7,dh2,fl5,iv5,iv6,fl6,fl7,fl8,fl9,fm1,fm2,fm3,fm4,fm5,fm6,dh3,ch5,bq3,bf6,ch6,bq4,dg8,dg9,dh1,ch7,iv3,iv4,bf8,bq8,ci9,cj1,cj3,ci8,di6,e_t,e_c,e_g,e_f,fm7,dh4,fm8,fm9,fn1,al2,fn2,dh5,ch8,fn3,ch9,fn4,ci1,ci2,fn5,dh6,fn6,dh7,fn8,fn9,fo1,fo2,dh8,dh9,em6,ib8,eb7,em5,ci3,ci4,di1,di2,ci5,ci6,iv7,bq5,di3,di4,di5,bq6,ci7,bf7,bq7,bq9,cj4,br1,br2,di7,di8,em7,em8,cj5,cj6,cj7,cj8,di9,dj1,cj9,br3,fo3,fo4,fo5,fo6,fo7,fo8,fo9,fp1,fp3,fp4,fp5,eb8,em9,dj2,dj3,dj4,dj5,dj6,dj7,dj8,dj9,dk4,dk5,bk3,br4,ck3,ck4,ck5,dk6,dk7,dk8,dk9,fp6,fp7,dl1,fp8,ck6,ck7,ck8,fq2,bm7,ib9,dl8,ck9,cl1,br5,bi7,ca3,fp9,cs7,br6,fq1,cs8,br7,br8,cl2,cl3,cl4,cl5,br9,cl6,cl7,bs1,bf9,az9,bs2,cl8,bs3,dl2,dl3,dl4,cl9,bs4,cm1,cm2,bs5,bg1,ba1,bs6,cm3,bs7,dl5,dl6,dl7,zg,zh,z2,qb,zv,zk,zt,z5,z6,Frm.bp7,Frm.get_nil,aa7,aa5,decide_true,decide_false,zu,zr,zo,zm,zw,z3,z4,zx,zq,z8,z7,qc,qd,zj,zp,if_true,if_false,↓reduceIte,reduceCtorEq,true_and,and_true];refine ⟨fun i hi=>by rw[if_neg om]; exact h2 i hi,h1,?_⟩;rw[hf8 hops hk];exact .keep _ (.str _)
   ·simp only[de9,df1,cf8,bp8,df2,cf9,df3,cg1,fj5,iv2,fj1,fj3,df4,cg2,df5,cg3,cg5,bp9,df6,w_q,cg6,fj6,fj7,cg7,fj8,cg9,bq1,cg8,df7,df8,df9,ch1,bq2,fj9,dg1,fk1,dg2,ch2,ch3,dg3,fk2,fk3,fk4,fk5,fk6,fk7,fk8,fk9,fl1,fl2,dg4,fl3,dg5,fl4,dg6,ch4,dg7,dh2,fl5,iv5,iv6,fl6,fl7,fl8,fl9,fm1,fm2,fm3,fm4,fm5,fm6,dh3,ch5,bq3,bf6,ch6,bq4,dg8,dg9,dh1,ch7,iv3,iv4,bf8,bq8,ci9,cj1,cj3,ci8,di6,e_t,e_c,e_g,e_f,fm7,dh4,fm8,fm9,fn1,al2,fn2,dh5,ch8,fn3,ch9,fn4,ci1,ci2,fn5,dh6,fn6,dh7,fn8,fn9,fo1,fo2,dh8,dh9,em6,ib8,eb7,em5,ci3,ci4,di1,di2,ci5,ci6,iv7,bq5,di3,di4,di5,bq6,ci7,bf7,bq7,bq9,cj4,br1,br2,di7,di8,em7,em8,cj5,cj6,cj7,cj8,di9,dj1,cj9,br3,fo3,fo4,fo5,fo6,fo7,fo8,fo9,fp1,fp3,fp4,fp5,eb8,em9,dj2,dj3,dj4,dj5,dj6,dj7,dj8,dj9,dk4,dk5,bk3,br4,ck3,ck4,ck5,dk6,dk7,dk8,dk9,fp6,fp7,dl1,fp8,ck6,ck7,ck8,fq2,bm7,ib9,dl8,ck9,cl1,br5,bi7,ca3,fp9,cs7,br6,fq1,cs8,br7,br8,cl2,cl3,cl4,cl5,br9,cl6,cl7,bs1,bf9,az9,bs2,cl8,bs3,dl2,dl3,dl4,cl9,bs4,cm1,cm2,bs5,bg1,ba1,bs6,cm3,bs7,dl5,dl6,dl7,zg,zh,z2,qb,zv,zk,zt,z5,z6,Frm.bp7,Frm.get_nil,aa7,aa5,decide_true,decide_false,zu,zr,zo,zm,zw,z3,z4,zx,zq,z8,z7,qc,qd,zj,zp,if_true,if_false,↓reduceIte,reduceCtorEq,true_and,and_true,hkn];refine ⟨left.length-1,om,rfl,rfl,h1,fun i hi=>?_,z1 _,left.eraseIdx j,za c,?_,?_,fun e he=>h6 e (List.mem_of_mem_eraseIdx he),fun e he hn=>?_⟩
    ·simp only[aa5]; rw[if_neg om]; exact h2 i hi
    ·simp only[aa5,if_true]
    ·rw[List.length_eraseIdx_of_lt hj]
    ·have h8:=h7 e he hn;rcases ee3 (d:=(IV.undef,IV.undef)) (j:=j) h8 with h9|h9
     ·exact h9
     ·rw[h9] at hn; rw[hc,hk] at hn; cases hn; exact absurd rfl hkn
end Go.Id
