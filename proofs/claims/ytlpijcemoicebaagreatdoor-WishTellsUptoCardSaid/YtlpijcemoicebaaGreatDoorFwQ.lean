/- A function compiled,whole: its code and its results. Conditions: none; over any program. -/
import Derived.Test.YtlpijcemoicebaaGreatDoorFwI
import Derived.WideKeyElems2
import Derived.OpenShut
import Derived.FnData
import Derived.Below
import Derived.ChangeSame
import Derived.CallsIn
import Derived.ChangeArms
import Derived.MakeChecks
open Option renaming some→za,none→zb
open List renaming getD_eq_getElem?_getD→zc,all_eq_true→zd,getElem?_eq_getElem→ze,getElem?_cons_succ→zf,getElem?_cons_zero→zi,mem_cons_of_mem→zl,drop_succ_cons→zn,mem_cons_self→zo,nil_append→zq,length_cons→zr,cons_append→zt,mem_cons→zw,head?_cons→zx,append_nil→zy,drop_zero→z1,all_cons→z5,getElem?_append→qa,all_nil→qb,getElem?_map→qd,mem_map→qj,take_append_drop→ql,flatten_cons→qn
open Bool renaming and_eq_true→zg,false_eq_true→zp,xor_false→z2,not_false→z3,xor_true→z6,not_true→z7,and_true→z8,and_self→z9
open Array renaming getD_eq_getD_getElem?→zh,getElem?_eq_none→z0,getElem?_eq_getElem→qi
open Nat renaming not_lt_zero→zj,lt_of_lt_of_le→zk,zero_add→zm,succ_ne_zero→zu,add_zero→zv,le_refl→zz,reduceEqDiff→z4,reduceMul→qe,reduceAdd→qf,reduceLT→qg,add_mul→qh,lt_or_ge→qk,eq_of_beq_eq_true→qm
open Classical renaming propDecidable→qc
set_option linter.all false
private theorem om{P:Prop}(h:P:=by omega):P:=h
namespace Go.Id
open Go
variable {P:Program} {w w' w'':World} {ρ ρ' ρ'':b8} {E:Nat->IV} {O O':aW} {N n n':Nat} {fr:bz} {a:Act} {pf:List Nat}
inductive IR where|t (n:Nat)|cell (agg:Option Nat)(n:Nat) deriving Inhabited
def RC(P:Program):ResultVar->Option IR|.tmp t=>za (.t t)|.cell ad t=>match fL P t with|some agg=>za (.cell agg ad)|none=>zb
def wY(P:Program):List ResultVar->Option (List IR)|[]=>za []|r::rs=>match RC P r,wY P rs with|some x,za xs=>za (x::xs)|_,_=>zb
def irV(O:aW)(fr:bz):IR->Option IV|.t n=>za (fr.get n)|.cell agg n=>jq O agg (fr.get n)
def oB(O:aW)(fr:bz):List IR->Option (List IV)|[]=>za []|r::rs=>match irV O fr r,oB O fr rs with|some v,za vs=>za (v::vs)|_,_=>zb
def Qe:∀(c:List ResultVar)(b:List IR),wY P c=za b->uy P O fr c=oB O fr b:=by intro c;induction c with|nil=>intro b h;cases h;rfl|cons r c ih=>intro b h;simp only[wY]at h;split at h;{rename_i x xs d f;cases h;have g:HE P O fr r=irV O fr x:=(by cases r with|tmp t=>cases d;rfl|cell ad t=>simp only[RC]at d;split at d;{rename_i i e;cases d;simp[HE,irV,e]};cases d);simp only[uy,oB,g,ih _ f];cases irV O fr x<;>cases oB O fr xs<;>rfl};cases h
def vE(P:Program)(f N:Nat)(pf:List Nat)(an:oD)(ic:IC)(irs:List IR):Prop :=∃fn,P.funcs[f]? = za fn/\fn.ntmps=N/\fn.body.bind (fg P pf N an)=za ic/\wY P fn.results.toList=za irs
def kb3{f:Nat}{c:Func}{an:oD}{d:IC}{b:List IR}(h:P.funcs[f]? = za c)(g:c.ntmps=N)(hc:c.body.bind (fg P pf N an)=za d)(e:wY P c.results.toList=za b):vE P f N pf an d b :=⟨c,h,g,hc,e⟩
def RE(irs:List IR)(Qc:IV->aW->Prop):Exit->bz->aW->Prop|.normal,fr,O|.ret,fr,O=>∃vs,oB O fr irs=za vs/\Qc (pR vs) O|_,_,_=>False
def lw5{f:Nat}{an:oD}{g:IC}{b:List IR}{args:List IV}{j:IV->aW->Prop}(hf:vE P f N pf an g b)(m:args.length<=N)(h:oC P E N O.aV g (lN args 0) O (RE b j)):C P E f args O j:=by have⟨s,r,p,d,o⟩:=hf;cases i:s.body with|none=>rw[i]at d;cases d|some c=>rw[i]at d;refine Q6 r i p m ((DB g _ _ _ h pf an c d).mono ?_);intro e fr' O' q;cases e<;>first|(have⟨vs,q1,k⟩:=q;exact ⟨vs,by rw[Qe _ _ o];exact q1,k⟩)|exact q
end Go.Id
namespace Go.Id
open Go
def bz.get_nil (t:Nat):bz.get [] t=.undef:=by unfold bz.get;simp
def bz.yp (t s:Nat)(v:IV)(fr:bz):bz.get ((t,v)::fr) s=if s=t then v else bz.get fr s:=bz.Gq fr t s v
universe u
variable {P:Program} {E:Nat->IV} {O O':aW} {N n n0:Nat} {fr:bz} {a:Act} {pf:List Nat}
abbrev PT:=Nat->List IV->Option IV
abbrev CT:=Nat->List IV->aW->Option (IV->aW->Prop)
structure TOK (P:Program) (E:Nat->IV) (pt:PT) (ct:CT):Prop where
 p:∀f args v,pt f args=za v->PC P E f args v
 c:∀f args O Q,ct f args O=za Q->okF P f=true/\C P E f args O Q
def noP:PT:=λ_ _=>zb
def rj:CT:=λ_ _ _=>zb
def bN:TOK P E noP rj:=⟨(λ_ _ _ h=>by cases h),(λ_ _ _ _ h=>by cases h)⟩
def B3 {f:Nat}{args:List IV}:noP f args=zb:=by unfold noP;exact Eq.trans rfl rfl
def B4 {f:Nat}{args:List IV}:rj f args O=zb:=by unfold rj;exact Eq.trans rfl rfl
def gw{α:Type}:Option α->(α->Prop)->Prop|some v,K=>K v|none,_=>False
def Kn:IV->(Bool->Prop)->Prop|.bool b,K=>K b|_,_=>False
def th(v:IV)(want:Bool)(A B:Prop):Prop :=match ux v want with|some true=>A|some false=>B|none=>False
def ME{v:IV}{b:Bool}{A B:Prop}(h:th v b A B):∃c,ux v b=za c/\if c=true then A else B:=by unfold th at h;split at h;{rename_i d;exact ⟨true,d,h⟩};{rename_i d;exact ⟨false,d,h⟩};exact h.elim
def pA{b:Type}{o:Option b}{K:b->Prop}(h:gw o K):∃v,o=za v/\K v:=by cases o with|none=>exact h.elim|some v=>exact ⟨v,rfl,h⟩
def UQ{o:IV}{K:Bool->Prop}(h:Kn o K):∃b,o=.bool b/\K b:=by cases o<;>first|exact ⟨_,rfl,h⟩|exact h.elim
def rZ(P:Program)(E:Nat->IV)(o:Option (IV->aW->Prop))(f:Nat)(args:List IV)(O:aW)(K:IV->aW->Prop):Prop :=match o with|some Q=>∀v s,Q v s->O.aV<=s.aV/\K v s|none=>∃Q,(okF P f=true/\C P E f args O Q)/\∀v s,Q v s->O.aV<=s.aV/\K v s
def J2 (P:Program)(E:Nat->IV)(x:IV)(args:List IV)(O:aW)(K:IV->aW->Prop):Prop:=∃v,PCV P E x args v/\K v O
def He(P:Program)(E:Nat->IV)(o:Option IV)(f:Nat)(args:List IV)(O:aW)(K:IV->aW->Prop):Prop :=match o with|some v=>K v O|none=>∃v,PC P E f args v/\K v O
def eZ(pt:PT)(ct:CT)(P:Program)(E:Nat->IV)(op:IK)(id:Nat)(fr:bz)(O:aW)(K:IV->aW->Prop):Prop :=match op with|.q q=>gw (du E fr O q) λv=>K v O|.alloc z=>K (.ptr id 0) (O.put id (.cells z))|.box x=>(x.ev E fr).cs.all IV.bn=true/\K (.ptr id 0) (O.put id (.cells (x.ev E fr).cs))|.mo esz n z parts=>gw (ig (rep z n) (parts.map λp=>(p.1,p.2.1,p.2.2.ev E fr))) λout=>K (.slice id 0 n esz) (O.put id (.row out))|.store sz x y=>gw (kc O sz (x.ev E fr) (y.ev E fr)) λO'=>K .undef O'|.rQ x=>(match x.ev E fr with|.str s=>K (.ptr id 0) (O.put id (.lj s 0))|_=>False)|.sV x=>gw (rO O (x.ev E fr)) λr=>K r.1 r.2|.rX=>K (.map id) (O.put id (.map []))|.qP tag x k v=>gw (lJ O tag (x.ev E fr) (k.ev E fr) (v.ev E fr)) λO'=>K .undef O'|.app esz s x=>gw (di O id esz (s.ev E fr) (x.ev E fr)) λr=>K r.1 r.2|.call f args=>rZ P E (ct f (args.map (·.ev E fr)) O) f (args.map (·.ev E fr)) O K|.mg x args=>J2 P E (x.ev E fr) (args.map (·.ev E fr)) O K|.mr f args=>He P E (pt f (args.map (·.ev E fr))) f (args.map (·.ev E fr)) O K|.sW x args=>(match x.ev E fr with|.func (.func f) first cap=>rZ P E (ct f (first++args.map (·.ev E fr)++cap) O) f (first++args.map (·.ev E fr)++cap) O K|.yield i=>∃Q,CV P E (.yield i) (args.map (·.ev E fr)) O Q/\∀v O',Q v O'->O.aV<=O'.aV/\K v O'|_=>False)|.lS esz n z parts=>gw (ig (rep z n) (parts.map λp=>(p.1,p.2.1,p.2.2.ev E fr))) λout=>K (.a8 (chunk esz n out)) O|.nk x=>(x.ev E fr).cs.all IV.bn=true/\K (.bj (x.ev E fr).cs) O|.qF x=>(match x.ev E fr with|.cH es=>K (.ptr id 0) (O.put id (.ie es zb))|_=>False)|.rY x=>gw (rP O (x.ev E fr)) λr=>(r.2=[]->K (.tuple [.bool false]) O) /\ ∀j,j<r.2.length->K (.tuple [.bool true,(r.2.getD j (.undef,.undef)).1,(r.2.getD j (.undef,.undef)).2]) (O.put r.1 (.ie (r.2.eraseIdx j) (za (r.2.getD j (.undef,.undef)))))|.sh x=>gw (qJ O (x.ev E fr)) λv=>K v O|.lu esz z x=>gw (rT (x.ev E fr)) λn=>K (.slice id 0 n esz) (O.put id (.row (rep z n)))|.clr esz z x=>gw (sg O esz z (x.ev E fr)) λO'=>O'.aV=O.aV/\K .undef O'|.st k xs=>gw (stI k id O (xs.map (·.ev E fr))) λr=>K r.1 r.2
def LM{e:PT}{d:CT}(g:TOK P E e d){f:Nat}{args:List IV}{K:IV->aW->Prop}(h:rZ P E (d f args O) f args O K):∃Q,(okF P f=true/\C P E f args O Q)/\∀v s,Q v s->O.aV<=s.aV/\K v s:=by cases b:d f args O with|none=>rw[b]at h;exact h|some Q=>rw[b]at h;exact ⟨Q,g.c _ _ _ Q b,h⟩
def FH{g:PT}{o:CT}(m:TOK P E g o){op:IK}{id:Nat}{K:IV->aW->Prop}(h:eZ g o P E op id fr O K):fV P E op id fr O K:=by cases op with|q q=>exact pA h|alloc z=>exact h|box x=>exact h|mo e n z ps=>exact pA h|store e x y=>exact pA h|app e s x=>exact pA h|rX=>exact h|rQ x=>simp only[eZ]at h;split at h;{rename_i s b;exact ⟨s,b,h⟩};exact h.elim|sV x=>exact pA h|qP t x y z=>exact pA h|call f xs=>have⟨Q,d,c⟩:=LM m h;exact ⟨Q,d.2,c⟩|mg x xs=>exact h|mr f xs=>(simp only[eZ]at h;cases j:g f (xs.map (·.ev E fr))with|none=>rw[j]at h;exact h|some v=>rw[j]at h;exact ⟨v,m.p _ _ _ j,h⟩)|sW x xs=>simp only[eZ]at h;split at h;{rename_i f first cap b;have⟨Q,d,c⟩:=LM m h;refine ⟨Q,?_,c⟩;rw[b];exact d};{rename_i i b;rw[<- b]at h;exact h};exact h.elim|lS e n z ps=>exact pA h|nk x=>exact h|qF x=>simp only[eZ]at h;split at h;{rename_i s b;exact ⟨s,b,h⟩};exact h.elim|rY x=>have⟨⟨i,l⟩,d,c⟩:=pA h;exact ⟨i,l,d,c⟩|sh x=>exact pA h|lu e z x=>exact pA h|clr e z x=>exact pA h|st k xs=>exact pA h
def oV(pt:PT)(ct:CT)(P:Program)(E:Nat->IV):List de->Nat->bz->aW->(bz->aW->Prop)->Prop|[],_,fr,O,K=>K fr O|o::rest,id,fr,O,K=>match o.guard with|none=>eZ pt ct P E o.op id fr O λv O'=>oV pt ct P E rest (if o.op.cS then id+1 else id) (fr.dY o.dst v) O' K|some (s,want)=>th (fr.get s) want (eZ pt ct P E o.op id fr O λv O'=>oV pt ct P E rest (if o.op.cS then id+1 else id) (fr.dY o.dst v) O' K) (oV pt ct P E rest (if o.op.cS then id+1 else id) (fr.dY o.dst lF) O K)
def TA{e:PT}{i:CT}(f:TOK P E e i):∀(ops:List de)(id:Nat)(fr:bz)(O:aW)(K:bz->aW->Prop),oV e i P E ops id fr O K->oT P E ops id fr O K:=by intro ops;induction ops with|nil=>intro id fr O K h;exact h|cons o os ih=>intro id fr O K h;have⟨d,g,op⟩:=o;cases g with|none=>simp only[oV,oT]at h ⊢;exact ⟨true,rfl,tB (λv s k=>ih _ _ _ _ k) (FH f h)⟩|some p=>have⟨s,c⟩:=p;simp only[oV,oT]at h ⊢;have⟨b,j,h⟩:=ME h;refine ⟨b,j,?_⟩;cases b with|true=>rw[ab rfl]at h ⊢;exact tB (λv s k=>ih _ _ _ _ k) (FH f h)|false=>rw[aa (by simp)]at h ⊢;exact ih _ _ _ _ h
def gV(E:Nat->IV)(fr:bz)(O:aW):IK->Prop|.q (.load _ x)=>(match x.ev E fr with|.bj _=>True|.ptr i _=>(match O.aY i with|some (.cells _)=>True|_=>False)|_=>False)|_=>True
def LN{op:IK}(h:gV E fr O op):kM E fr O op:=by cases op with|q q=>(cases q with|load ag x=>(simp only[gV,kM]at h ⊢;cases c:x.ev E fr<;>rw[c]at h<;>simp only at h ⊢;rename_i i off;cases b:O.aY i with|none=>rw[b]at h;exact h.elim|some ob=>rw[b]at h;cases ob<;>first|exact ⟨_,rfl⟩|exact h.elim)|_=>trivial)|_=>trivial
def mV(pt:PT)(ct:CT)(P:Program)(E:Nat->IV)(B:Bool):List de->Nat->bz->aW->(bz->aW->Prop)->Prop|[],_,fr,O,K=>K fr O|o::rest,id,fr,O,K=>match o.guard with|none=>(B=true->gV E fr O o.op)/\eZ pt ct P E o.op id fr O λv O'=>mV pt ct P E B rest (id+1) (fr.dY o.dst v) O' K|some (s,want)=>th (fr.get s) want ((B=true->gV E fr O o.op)/\eZ pt ct P E o.op id fr O λv O'=>mV pt ct P E B rest (id+1) (fr.dY o.dst v) O' K) (mV pt ct P E B rest (id+1) (fr.dY o.dst lF) O K)
def TB{f:PT}{m:CT}(j:TOK P E f m){B:Bool}{base:Nat}:∀(ops:List de)(i:Nat)(fr:bz)(O:aW)(K:bz->aW->Prop),mV f m P E B ops (base+i) fr O K->kN P E B (pQ base i ops) fr O K:=by intro ops;induction ops with|nil=>intro i fr O K h;exact h|cons o os ih=>intro i fr O K h;have⟨d,g,op⟩:=o;cases g with|none=>simp only[mV]at h;exact ⟨true,rfl,tB (λv s k=>ih _ _ _ _ k) (FH j h.2),λc=>LN (h.1 c)⟩|some p=>have⟨s,e⟩:=p;simp only[mV]at h;have⟨b,q,h⟩:=ME h;refine ⟨b,q,?_⟩;cases b with|true=>exact ⟨tB (λv s k=>ih _ _ _ _ k) (FH j h.2),λc=>LN (h.1 c)⟩|false=>exact ih _ _ _ _ h
def fI(pt:PT)(ct:CT)(P:Program)(E:Nat->IV)(N n0:Nat):IC->bz->aW->(Exit->bz->aW->Prop)->Prop|.skip,fr,O,Q=>Q .normal fr O|.mK _ ops bd,fr,O,Q=>oV pt ct P E ops O.aV fr ⟨O.aV+oU ops,O.aY⟩ (λfr' O'=>Q .normal (fr'.bd bd) O')|.tc _ ops B bd,fr,O,Q=>mV pt ct P E B ops O.aV fr ⟨O.aV+ops.length,O.aY⟩ (λfr' O'=>Q .normal (fr'.bd bd) O')|.vC _ ops bd,fr,O,Q=>B0 P E (Rz O.aV ops) [] fr { O with aV:=O.aV+ops.length } (λfr' O'=>Q .normal (fr'.bd bd) O')|.seq a b,fr,O,Q=>fI pt ct P E N n0 a fr O (λe fr' O'=>match e with|.normal=>fI pt ct P E N n0 b fr' O' Q|e=>Q e fr' O')|.cond x a b,fr,O,Q=>Kn (x.ev E fr) λt=>if t=true then fI pt ct P E N n0 a fr O Q else fI pt ct P E N n0 b fr O Q|.block id a,fr,O,Q=>fI pt ct P E N n0 a fr O (sO id Q)|.loop a,fr,O,Q=>RI P E N n0 (.loop a) fr O Q|.exit id,fr,O,Q=>Q (.exit id) fr O|.ret,fr,O,Q=>Q .ret fr O|.oq g ps y a,fr,O,Q=>RI P E N n0 (.oq g ps y a) fr O Q|.scope a,fr,O,Q=>fI pt ct P E N n0 a fr O (JZ Q)
def DS:∀(u:IC)(fr:bz)(O:aW)(Q Q':Exit->bz->aW->Prop),(∀e f s,Q e f s->Q' e f s)->oC P E N n0 u fr O Q->oC P E N n0 u fr O Q':=by have q:∀(ops:List de)(id:Nat)(fr:bz)(O:aW)(K m:bz->aW->Prop),(∀f s,K f s->m f s)->oT P E ops id fr O K->oT P E ops id fr O m:=(by intro ops;induction ops with|nil=>intro id fr O K m j h;exact j _ _ h|cons o os ih=>intro id fr O K m j h;simp only[oT]at h ⊢;have⟨d,A,h⟩:=h;refine ⟨d,A,?_⟩;cases d with|true=>rw[ab rfl]at h ⊢;exact tB (λv s k=>ih _ _ _ _ _ j k) h|false=>rw[aa (by simp)]at h ⊢;exact ih _ _ _ _ _ j h);have p:∀(r:List Item)(B:Bool)(fr:bz)(O:aW)(K m:bz->aW->Prop),(∀f s,K f s->m f s)->kN P E B r fr O K->kN P E B r fr O m:=(by intro r;induction r with|nil=>intro B fr O K m j h;exact j _ _ h|cons it r ih=>intro B fr O K m j h;have⟨i,o,id⟩:=it;have⟨d,A,z⟩:=h;refine ⟨d,A,?_⟩;cases d with|true=>exact ⟨tB (λv s k=>ih _ _ _ _ _ j k) z.1,z.2⟩|false=>exact ih _ _ _ _ _ j z);intro u;induction u with|skip=>intro fr O Q Q' c h;exact c _ _ _ h|mK id ops bd=>intro fr O Q Q' c h;exact q _ _ _ _ _ _ (λf s k=>c _ _ _ k) h|tc id ops B bd=>intro fr O Q Q' c h;exact p _ _ _ _ _ _ (λf s k=>c _ _ _ k) h|vC id ops bd=>intro fr O Q Q' c h;exact UK _ _ _ _ (λf s k=>c _ _ _ k) h|seq x y ihx ihy=>(intro fr O Q Q' c h;refine ihx _ _ _ _ ?_ h;intro e f s k;cases e with|normal=>exact ihy _ _ _ _ c k|_=>exact c _ _ _ k)|cond x a b iha ihb=>(intro fr O Q Q' c h;have⟨t,D,h⟩:=h;refine ⟨t,D,?_⟩;cases t with|true=>exact iha _ _ _ _ c h|false=>exact ihb _ _ _ _ c h)|block id x ih=>(intro fr O Q Q' c h;refine ih _ _ _ _ ?_ h;intro e f s k;cases e with|exit i=>simp only[sO]at k ⊢;split<;>rename_i hi<;>simp only[hi,af,ae]at k<;>exact c _ _ _ k|_=>exact c _ _ _ k)|scope x ih=>(intro fr O Q Q' c h;refine ih _ _ _ _ ?_ h;intro e f s k;cases e with|goto l=>exact k|_=>exact c _ _ _ k)|loop x ih=>intro fr O Q Q' c h;exact gS h c|exit id=>intro fr O Q Q' c h;exact c _ _ _ h|oq g ps y x ihy ih=>intro fr O Q Q' c h;exact gS h c|ret=>intro fr O Q Q' c h;exact c _ _ _ h
def xY{d:PT}{i:CT}(j:TOK P E d i):∀(c:IC)(fr:bz)(O:aW)(Q:Exit->bz->aW->Prop),fI d i P E N n0 c fr O Q->oC P E N n0 c fr O Q:=by intro c;induction c with|skip=>intro fr O Q h;exact h|mK id ops bd=>intro fr O Q h;exact TA j _ _ _ _ _ h|tc id ops B bd=>intro fr O Q h;exact TB j _ 0 _ _ _ h|vC id ops bd=>intro fr O Q h;exact h|seq x y ihx ihy=>(intro fr O Q h;have o:=ihx _ _ _ (show fI d i P E N n0 x fr O _ from h);refine DS x fr O _ (λe fr' O'=>match e with|.normal=>oC P E N n0 y fr' O' Q|e=>Q e fr' O') ?_ o;intro e f s k;cases e with|normal=>exact ihy _ _ _ k|_=>exact k)|cond x a b iha ihb=>(intro fr O Q h;have⟨t,m,h⟩:=UQ h;refine ⟨t,m,?_⟩;cases t with|true=>exact iha _ _ _ h|false=>exact ihb _ _ _ h)|block id x ih=>intro fr O Q h;exact ih _ _ _ h|scope x ih=>intro fr O Q h;exact ih _ _ _ h|loop x ih=>intro fr O Q h;exact h|exit id=>intro fr O Q h;exact h|ret=>intro fr O Q h;exact h|oq g ps y x ihy ih=>intro fr O Q h;exact h
def sj(irs:List IR)(Qc:IV->aW->Prop):Exit->bz->aW->Prop|.normal,fr,O|.ret,fr,O=>gw (oB O fr irs) λvs=>Qc (pR vs) O|_,_,_=>False
def LO{b:List IR}{c:IV->aW->Prop}{e:Exit}(h:sj b c e fr O):RE b c e fr O:=by cases e<;>first|exact pA h|exact h
def C_T{c:PT}{e:CT}(j:TOK P E c e){f:Nat}{an:oD}{d:IC}{b:List IR}{args:List IV}{g:IV->aW->Prop}(hf:vE P f N pf an d b)(i:args.length<=N)(h:fI c e P E N O.aV d (lN args 0) O (sj b g)):C P E f args O g :=lw5 hf i (DS _ _ _ _ _ (λ_ _ _ k=>LO k) (xY j _ _ _ _ h))
def lw6{c:PT}{e:CT}(j:TOK P E c e){f:Nat}{an:oD}{d:IC}{b:List IR}{args:List IV}{v:IV}(hf:vE P f N pf an d b)(i:args.length<=N)(h:∀O,fI c e P E N O.aV d (lN args 0) O (sj b λg O'=>g=v/\O'=O)):PC P E f args v :=λO=>C_T j hf i (h O)
def Qf{b:PT}{c:CT}(d:TOK P E b c){x:IC}{Q:Exit->bz->aW->Prop}(I:Nat->bz->aW->Prop)(m:Nat)(h:I m fr O)(e:∀m fr O,I m fr O->fI b c P E N n0 x fr O (wX I m Q)):RI P E N n0 (.loop x) fr O Q :=OW I m h λm fr O hi=>xY d _ _ _ _ (e m fr O hi)
def nr {c:Sort u}{a b:c}(h:a=b):a=b:=h
def xC (o:Option IV)(O:aW)(K:IV->aW->Prop):Prop:=gw o λv=>K v O
def Dh (o:Option aW)(K:IV->aW->Prop):Prop:=gw o λs=>K .undef s
def EW (o:Option (IV×aW))(K:IV->aW->Prop):Prop:=gw o λr=>K r.1 r.2
def EX (v:IV)(O:aW):IV->aW->Prop:=λv' O'=>v'=v/\O'=O
def RF (o:Option (List IV))(id n esz:Nat)(O:aW)(K:IV->aW->Prop):Prop:=gw o λout=>K (.slice id 0 n esz) (O.put id (.row out))
def J3(ct:CT)(P:Program)(E:Nat->IV)(x:IV)(args:List IV)(O:aW)(K:IV->aW->Prop):Prop:=match x with|.func (.func f) first cap=>rZ P E (ct f (first++args++cap) O) f (first++args++cap) O K|.yield i=>∃Q,CV P E (.yield i) args O Q/\∀v O',Q v O'->O.aV<=O'.aV/\K v O'|_=>False
def Hf (pt:PT)(ct:CT)(P:Program)(E:Nat->IV)(rest:List de)(id:Nat)(d:Option Nat)(fr:bz)(K:bz->aW->Prop):IV->aW->Prop:=λv O'=>oV pt ct P E rest id (fr.dY d v) O' K
def wZ (pt:PT)(ct:CT)(P:Program)(E:Nat->IV)(B:Bool)(rest:List de)(id:Nat)(d:Option Nat)(fr:bz)(K:bz->aW->Prop):IV->aW->Prop:=λv O'=>mV pt ct P E B rest id (fr.dY d v) O' K
def Ko (ks:List Nat)(Q:Exit->bz->aW->Prop):bz->aW->Prop:=λfr O=>Q .normal (fr.bd ks) O
def Di (pt:PT)(ct:CT)(P:Program)(E:Nat->IV)(v:IV)(want:Bool)(op:IK)(id:Nat)(fr:bz)(O:aW)(K:IV->aW->Prop):Prop:=th v want (eZ pt ct P E op id fr O K) (K lF O)
def qQ (pt:PT)(ct:CT)(P:Program)(E:Nat->IV)(B:Bool)(v:IV)(want:Bool)(op:IK)(id:Nat)(fr:bz)(O:aW)(K:IV->aW->Prop):Prop:=th v want ((B=true->gV E fr O op)/\eZ pt ct P E op id fr O K) (K lF O)
def Kp (pt:PT)(ct:CT)(P:Program)(E:Nat->IV)(N n0:Nat)(v:IV)(a b:IC)(fr:bz)(O:aW)(Q:Exit->bz->aW->Prop):Prop:=Kn v λt=>if t=true then fI pt ct P E N n0 a fr O Q else fI pt ct P E N n0 b fr O Q
def HF(pt:PT)(ct:CT)(P:Program)(E:Nat->IV)(N n0:Nat)(b:IC)(Q:Exit->bz->aW->Prop):Exit->bz->aW->Prop:=λe fr' O'=>match e with|.normal=>fI pt ct P E N n0 b fr' O' Q|e=>Q e fr' O'
variable {pt:PT} {ct:CT} {id want:Nat} {K:IV->aW->Prop} {Kf:bz->aW->Prop} {Q:Exit->bz->aW->Prop} {v:IV} {c:Prop} [Decidable c]
def AN {b:Type}(v:b)(K:b->Prop):gw (za v) K=K v:=nr rfl
def AO (v:IV):xC (za v) O K=K v O:=nr rfl
def y6 (v:IV):xC (if c then za v else zb) O K=(c/\K v O):=by by_cases h:c<;>simp[h,xC,gw]
def yq (v:IV):xC (if c then zb else za v) O K=(¬c/\K v O):=by by_cases h:c<;>simp[h,xC,gw]
def AP:Dh (za O) K=K .undef O:=nr rfl
def y7:Dh (if c then za O else zb) K=(c/\K .undef O):=by by_cases h:c<;>simp[h,Dh,gw]
def AQ (v:IV):EW (za (v,O)) K=K v O:=nr rfl
def y8 (v:IV):EW (if c then za (v,O) else zb) K=(c/\K v O):=by by_cases h:c<;>simp[h,EW,gw]
def B5 {f:Nat}{args:List IV}(v:IV):rZ P E (za (EX v O')) f args O K=(O.aV<=O'.aV/\K v O'):=propext ⟨λh=>h v O' ⟨rfl,rfl⟩,λh e s' ⟨d,b⟩=>by subst d;subst b;exact h⟩
def Dj {f:Nat}{args:List IV}(v:IV):He P E (za v) f args O K=K v O:=nr rfl
def bS {f:Nat}{args:List IV}{v:IV}(h:PC P E f args v)(b:K v O):He P E zb f args O K:=⟨v,h,b⟩
def kU {f:Nat}{args:List IV}{b:IV->aW->Prop}(d:okF P f=true)(h:C P E f args O b)(e:∀v s,b v s->O.aV<=s.aV/\K v s):rZ P E zb f args O K:=⟨b,⟨d,h⟩,e⟩
def AR {n esz:Nat}(b:List IV):RF (za b) id n esz O K=K (.slice id 0 n esz) (O.put id (.row b)):=nr rfl
def y9 (f:Nat)(first cap args:List IV):J3 ct P E (.func (.func f) first cap) args O K=rZ P E (ct f (first++args++cap) O) f (first++args++cap) O K:=nr rfl
def AS {b:List de}{d:Nat}(v:IV):Hf pt ct P E b id (za d) fr Kf v O=oV pt ct P E b id ((d,v)::fr) O Kf:=nr rfl
def zA {b:List de}(v:IV):Hf pt ct P E b id zb fr Kf v O=oV pt ct P E b id fr O Kf:=nr rfl
def zB {B:Bool}{b:List de}{d:Nat}(v:IV):wZ pt ct P E B b id (za d) fr Kf v O=mV pt ct P E B b id ((d,v)::fr) O Kf:=nr rfl
def yr {B:Bool}{b:List de}(v:IV):wZ pt ct P E B b id zb fr Kf v O=mV pt ct P E B b id fr O Kf:=nr rfl
def AT {ks:List Nat}:Ko ks Q fr O=Q .normal (fr.bd ks) O:=nr rfl
def w_q {q:IQ}:eZ pt ct P E (.q q) id fr O K=xC (du E fr O q) O K:=nr rfl
def zC {z:List IV}:eZ pt ct P E (.alloc z) id fr O K=K (.ptr id 0) (O.put id (.cells z)):=nr rfl
def B6 {x:IX}:eZ pt ct P E (.box x) id fr O K=((x.ev E fr).cs.all IV.bn=true/\K (.ptr id 0) (O.put id (.cells (x.ev E fr).cs))):=nr rfl
def B7 {esz n:Nat}{z:List IV}{ps:List (Nat×Nat×IX)}:eZ pt ct P E (.mo esz n z ps) id fr O K=RF (ig (rep z n) (ps.map λp=>(p.1,p.2.1,p.2.2.ev E fr))) id n esz O K:=nr rfl
def zD {b:Nat}{x y:IX}:eZ pt ct P E (.store b x y) id fr O K=Dh (kc O b (x.ev E fr) (y.ev E fr)) K:=nr rfl
def RG(v:IV)(id:Nat)(O:aW)(K:IV->aW->Prop):Prop:=match v with|.str s=>K (.ptr id 0) (O.put id (.lj s 0))|_=>False
def AU {s:List UInt8}:RG (.str s) id O K=K (.ptr id 0) (O.put id (.lj s 0)):=nr rfl
def yu {x:IX}:eZ pt ct P E (.rQ x) id fr O K=RG (x.ev E fr) id O K:=nr rfl
def zE {x:IX}:eZ pt ct P E (.sV x) id fr O K=EW (rO O (x.ev E fr)) K:=nr rfl
def zF:eZ pt ct P E .rX id fr O K=K (.map id) (O.put id (.map [])):=nr rfl
def AW {b:Nat}{x k y:IX}:eZ pt ct P E (.qP b x k y) id fr O K=Dh (lJ O b (x.ev E fr) (k.ev E fr) (y.ev E fr)) K:=nr rfl
def B8 {esz:Nat}{s x:IX}:eZ pt ct P E (.app esz s x) id fr O K=EW (di O id esz (s.ev E fr) (x.ev E fr)) K:=nr rfl
def AX {f:Nat}{args:List IX}:eZ pt ct P E (.call f args) id fr O K=rZ P E (ct f (args.map (·.ev E fr)) O) f (args.map (·.ev E fr)) O K:=nr rfl
def zG {f:Nat}{args:List IX}:eZ pt ct P E (.mr f args) id fr O K=He P E (pt f (args.map (·.ev E fr))) f (args.map (·.ev E fr)) O K:=nr rfl
def Y6 {x:IX}{args:List IX}:eZ pt ct P E (.mg x args) id fr O K=J2 P E (x.ev E fr) (args.map (·.ev E fr)) O K:=nr rfl
def WR {f:Nat}{first cap args:List IV}{v:IV}(b:okF P f=true)(h:PC P E f (first++args++cap) v)(d:K v O):J2 P E (.func (.func f) first cap) args O K:=⟨v,⟨f,first,cap,rfl,b,h⟩,d⟩
def yw {x:IX}{args:List IX}:eZ pt ct P E (.sW x args) id fr O K=J3 ct P E (x.ev E fr) (args.map (·.ev E fr)) O K:=nr rfl
def B9:oV pt ct P E [] id fr O Kf=Kf fr O:=nr rfl
def AY {d:Option Nat}{op:IK}{b:List de}:oV pt ct P E (⟨d,zb,op⟩::b) id fr O Kf=eZ pt ct P E op id fr O (Hf pt ct P E b (if op.cS then id+1 else id) d fr Kf):=nr rfl
def Ca {d:Option Nat}{op:IK}{b:List de}{s:Nat}{want:Bool}:oV pt ct P E (⟨d,za (s,want),op⟩::b) id fr O Kf=Di pt ct P E (fr.get s) want op id fr O (Hf pt ct P E b (if op.cS then id+1 else id) d fr Kf):=nr rfl
def AZ {B:Bool}:mV pt ct P E B [] id fr O Kf=Kf fr O:=nr rfl
def zH{d:Option Nat}{op:IK}{b:List de}:mV pt ct P E false (⟨d,zb,op⟩::b) id fr O Kf=eZ pt ct P E op id fr O (wZ pt ct P E false b (id+1) d fr Kf):=by have:mV pt ct P E false (⟨d,zb,op⟩::b) id fr O Kf=((false=true->gV E fr O op)/\eZ pt ct P E op id fr O (wZ pt ct P E false b (id+1) d fr Kf)):=nr rfl;rw[this];simp
def zJ{d:Option Nat}{op:IK}{b:List de}:mV pt ct P E true (⟨d,zb,op⟩::b) id fr O Kf=(gV E fr O op/\eZ pt ct P E op id fr O (wZ pt ct P E true b (id+1) d fr Kf)):=by have:mV pt ct P E true (⟨d,zb,op⟩::b) id fr O Kf=((true=true->gV E fr O op)/\eZ pt ct P E op id fr O (wZ pt ct P E true b (id+1) d fr Kf)):=nr rfl;rw[this];simp
def A0 {B:Bool}{d:Option Nat}{op:IK}{b:List de}{s:Nat}{want:Bool}:mV pt ct P E B (⟨d,za (s,want),op⟩::b) id fr O Kf=qQ pt ct P E B (fr.get s) want op id fr O (wZ pt ct P E B b (id+1) d fr Kf):=nr rfl
def Cb {op:IK}:Di pt ct P E (.bool true) true op id fr O K=eZ pt ct P E op id fr O K:=nr rfl
def Cc {op:IK}:Di pt ct P E (.bool false) false op id fr O K=eZ pt ct P E op id fr O K:=nr rfl
def Cd {op:IK}:Di pt ct P E (.bool true) false op id fr O K=K lF O:=nr rfl
def Ce {op:IK}:Di pt ct P E (.bool false) true op id fr O K=K lF O:=nr rfl
def Cf {op:IK}:qQ pt ct P E false (.bool true) true op id fr O K=eZ pt ct P E op id fr O K:=by simp[qQ,th,ux]
def Cg {op:IK}:qQ pt ct P E false (.bool false) false op id fr O K=eZ pt ct P E op id fr O K:=by simp[qQ,th,ux]
def Ch {B:Bool}{op:IK}:qQ pt ct P E B (.bool true) false op id fr O K=K lF O:=nr rfl
def Ci {B:Bool}{op:IK}:qQ pt ct P E B (.bool false) true op id fr O K=K lF O:=nr rfl
def Cj {op:IK}:qQ pt ct P E true (.bool true) true op id fr O K=(gV E fr O op/\eZ pt ct P E op id fr O K):=by simp[qQ,th,ux]
def Ck {op:IK}:qQ pt ct P E true (.bool false) false op id fr O K=(gV E fr O op/\eZ pt ct P E op id fr O K):=by simp[qQ,th,ux]
def Dk {op:IK}{want:Bool}:Di pt ct P E lF want op id fr O K=K lF O:=nr rfl
def Dl {B want:Bool}{op:IK}:qQ pt ct P E B lF want op id fr O K=K lF O:=nr rfl
def A1:fI pt ct P E N n0 .skip fr O Q=Q .normal fr O:=nr rfl
def Cl {i:Nat}{ops:List de}{ks:List Nat}:fI pt ct P E N n0 (.mK i ops ks) fr O Q=oV pt ct P E ops O.aV fr ⟨O.aV+oU ops,O.aY⟩ (Ko ks Q):=nr rfl
def A2 {i:Nat}{ops:List de}{B:Bool}{ks:List Nat}:fI pt ct P E N n0 (.tc i ops B ks) fr O Q=mV pt ct P E B ops O.aV fr ⟨O.aV+ops.length,O.aY⟩ (Ko ks Q):=nr rfl
def Cm {x y:IC}:fI pt ct P E N n0 (.seq x y) fr O Q=fI pt ct P E N n0 x fr O (HF pt ct P E N n0 y Q):=nr rfl
def A3 {i:IX}{x y:IC}:fI pt ct P E N n0 (.cond i x y) fr O Q=Kp pt ct P E N n0 (i.ev E fr) x y fr O Q:=nr rfl
def zK {i:Nat}{x:IC}:fI pt ct P E N n0 (.block i x) fr O Q=fI pt ct P E N n0 x fr O (sO i Q):=nr rfl
def A4 {x:IC}:fI pt ct P E N n0 (.loop x) fr O Q=RI P E N n0 (.loop x) fr O Q:=nr rfl
def zL {g:IX}{ps:List Nat}{x y:IC}:fI pt ct P E N n0 (.oq g ps y x) fr O Q=RI P E N n0 (.oq g ps y x) fr O Q:=nr rfl
def O6(v:IV)(id:Nat)(O:aW)(K:IV->aW->Prop):Prop:=match v with|.cH es=>K (.ptr id 0) (O.put id (.ie es zb))|_=>False
def Qg(o:Option (Nat×List (IV×IV)))(O:aW)(K:IV->aW->Prop):Prop:=gw o λr=>(r.2=[]->K (.tuple [.bool false]) O) /\ ∀j,j<r.2.length->K (.tuple [.bool true,(r.2.getD j (.undef,.undef)).1,(r.2.getD j (.undef,.undef)).2]) (O.put r.1 (.ie (r.2.eraseIdx j) (za (r.2.getD j (.undef,.undef)))))
def yx {x:IX}:eZ pt ct P E (.qF x) id fr O K=O6 (x.ev E fr) id O K:=nr rfl
def xZ {es:List (IV×IV)}:O6 (.cH es) id O K=K (.ptr id 0) (O.put id (.ie es zb)):=nr rfl
def zM {x:IX}:eZ pt ct P E (.rY x) id fr O K=Qg (rP O (x.ev E fr)) O K:=nr rfl
def yy{i:Nat}{l:List (IV×IV)}:Qg (za (i,l)) O K=((l=[]->K (.tuple [.bool false]) O) /\ ∀j,j<l.length->K (.tuple [.bool true,(l.getD j (.undef,.undef)).1,(l.getD j (.undef,.undef)).2]) (O.put i (.ie (l.eraseIdx j) (za (l.getD j (.undef,.undef)))))):=nr rfl
def A5 {x:IX}:eZ pt ct P E (.sh x) id fr O K=xC (qJ O (x.ev E fr)) O K:=nr rfl
def A6 {x:IX}:eZ pt ct P E (.nk x) id fr O K=((x.ev E fr).cs.all IV.bn=true/\K (.bj (x.ev E fr).cs) O):=nr rfl
def Q7 (o:Option (List IV))(esz n:Nat)(O:aW)(K:IV->aW->Prop):Prop:=gw o λout=>K (.a8 (chunk esz n out)) O
def A7 {esz n:Nat}{z:List IV}{ps:List (Nat×Nat×IX)}:eZ pt ct P E (.lS esz n z ps) id fr O K=Q7 (ig (rep z n) (ps.map λp=>(p.1,p.2.1,p.2.2.ev E fr))) esz n O K:=nr rfl
def zN {esz n:Nat}{b:List IV}:Q7 (za b) esz n O K=K (.a8 (chunk esz n b)) O:=nr rfl
def A8 {i:Nat}:fI pt ct P E N n0 (.exit i) fr O Q=Q (.exit i) fr O:=nr rfl
def Cn:fI pt ct P E N n0 .ret fr O Q=Q .ret fr O:=nr rfl
def Dm {x y:IC}:Kp pt ct P E N n0 (.bool true) x y fr O Q=fI pt ct P E N n0 x fr O Q:=nr rfl
def Dn {x y:IC}:Kp pt ct P E N n0 (.bool false) x y fr O Q=fI pt ct P E N n0 y fr O Q:=nr rfl
def Co {y:IC}:HF pt ct P E N n0 y Q .normal fr O=fI pt ct P E N n0 y fr O Q:=nr rfl
def Cp {y:IC}{i:Nat}:HF pt ct P E N n0 y Q (.exit i) fr O=Q (.exit i) fr O:=nr rfl
def Cr {y:IC}:HF pt ct P E N n0 y Q .ret fr O=Q .ret fr O:=nr rfl
def Cs {i:Nat}:sO i Q .normal fr O=Q .normal fr O:=nr rfl
def Ct {i:Nat}:sO i Q .ret fr O=Q .ret fr O:=nr rfl
def Cu {i j:Nat}:sO i Q (.exit j) fr O=if j=i then Q .normal fr O else Q (.exit j) fr O:=nr rfl
def Cv {I:Nat->bz->aW->Prop}{m:Nat}:wX I m Q .normal fr O=∃b,b<m/\I b fr O:=nr rfl
def Cw {I:Nat->bz->aW->Prop}{m i:Nat}:wX I m Q (.exit i) fr O=Q (.exit i) fr O:=nr rfl
def Cx {I:Nat->bz->aW->Prop}{m:Nat}:wX I m Q .ret fr O=Q .ret fr O:=nr rfl
def Cy {b:List IR}{d:IV->aW->Prop}:sj b d .ret fr O=gw (oB O fr b) λvs=>d (pR vs) O:=nr rfl
def A9 {b:List IR}{d:IV->aW->Prop}:sj b d .normal fr O=gw (oB O fr b) λvs=>d (pR vs) O:=nr rfl
end Go.Id
namespace Go.Id
open Go
variable {P:Program} {E:Nat->IV} {O O':aW} {fr:bz} {x y z:IX} {k k':IntKind} {a b:Int} {s t:List UInt8} {n m off esz len:Nat} {v u:IV}
variable {j:Nat}
def bU{o:cx}:(O.put j o).aV=O.aV:=nr rfl
def bq{i:Nat}{o:cx}:(O.put j o).aY i=if i=j then za o else O.aY i:=nr rfl
def e_t:(IX.t n).ev E fr=fr.get n:=nr rfl
def e_c:(IX.c v).ev E fr=v:=nr rfl
def e_g:(IX.g n).ev E fr=E n:=nr rfl
def e_f:(IX.f n).ev E fr=.func (.func n) [] []:=nr rfl
def Cz:du E fr O (.mJ x)=za (x.ev E fr):=nr rfl
def Ba:du E fr O (.pick x y z)=kg (x.ev E fr) (y.ev E fr) (z.ev E fr):=nr rfl
def CA:du E fr O (.not x)=ES (x.ev E fr):=nr rfl
def CB:du E fr O (.neg x)=ET (x.ev E fr):=nr rfl
def CC {op:BinOp}:du E fr O (.bin op x y)=dL op (x.ev E fr) (y.ev E fr):=nr rfl
variable {c:Bool}
def jk{d:TypeDesc}:du E fr O (.BW d c x)=(iY d (x.ev E fr)).map λb=>.bool (b ^^ c):=nr rfl
def CD{d:List Nat}{h:Bool}:du E fr O (.eqs d c h x y)=uv d c h (x.ev E fr) (y.ev E fr):=nr rfl
def Bb:du E fr O (.conv k x)=Ew k (x.ev E fr):=nr rfl
def zO:du E fr O (.Ex x)=Eg (x.ev E fr):=nr rfl
def CE:du E fr O (.len n x)=jQ n O (x.ev E fr):=nr rfl
def zP:du E fr O (.wV off x)=pJ off (x.ev E fr):=nr rfl
variable {d:Option Nat}
def CF:du E fr O (.fld d off x)=Db d off (x.ev E fr):=nr rfl
def zQ:du E fr O (.wW esz x y)=kX esz (x.ev E fr) (y.ev E fr):=nr rfl
def zR:du E fr O (.BY n esz x y)=AI n esz (x.ev E fr) (y.ev E fr):=nr rfl
def CG:du E fr O (.idx d n esz x y)=xy d n esz (x.ev E fr) (y.ev E fr):=nr rfl
def Bc:du E fr O (.De x y)=tW (x.ev E fr) (y.ev E fr):=nr rfl
def CH {lo hi:Option IX}:du E fr O (.slc esz x lo hi)=gJ esz (lo.map (·.ev E fr)) (hi.map (·.ev E fr)) (x.ev E fr):=nr rfl
def Bd {lo hi:Option IX}:du E fr O (.Df x lo hi)=oR (lo.map (·.ev E fr)) (hi.map (·.ev E fr)) (x.ev E fr):=nr rfl
def CI:du E fr O (.slz x)=ta (x.ev E fr):=nr rfl
def CJ:du E fr O (.ext n x)=xz n (x.ev E fr):=nr rfl
variable {f:List IX}
def CK{cs:List IX}:du E fr O (.mkf n f cs)=za (.func (.func n) (f.map (·.ev E fr)) (cs.map (·.ev E fr))):=nr rfl
variable {g:List (Nat×Nat×IX)}
def CL{zs:List IV}:du E fr O (.bld zs g)=(ig zs (g.map λp=>(p.1,p.2.1,p.2.2.ev E fr))).map .agg:=nr rfl
def Be:du E fr O (.load d x)=jq O d (x.ev E fr):=nr rfl
def Bf:du E fr O (.Dg x)=tX (x.ev E fr):=nr rfl
def vF:du E fr O (.mm c x y)=pZ c (x.ev E fr) (y.ev E fr):=nr rfl
def vj:pZ true (.int k a) (.int k' b)=za (.int k (if b>a then b else a)):=by simp[pZ]
def xc:pZ false (.int k a) (.int k' b)=za (.int k (if b<a then b else a)):=by simp[pZ]
def xg{d:IV}:du E fr O (.pY n d c x y)=jr O n d c (x.ev E fr) (y.ev E fr):=nr rfl
def zS:bz.bd fr []=[]:=nr rfl
def zT {ks:List Nat}:bz.bd fr (n::ks)=(n,fr.get n)::bz.bd fr ks:=nr rfl
def Bg:lN [] n=[]:=nr rfl
variable {p:List IV}
def Bh:lN (v::p) n=(n,v)::lN p (n+1):=nr rfl
def zV:oU []=0:=nr rfl
def zW{g:Option (Nat×Bool)}{op:IK}{e:List de}:oU (⟨d,g,op⟩::e)=(if op.cS=true then 1 else 0)+oU e:=nr (H9 _ _)
def Do {q:IQ}:(IK.q q).cS=false:=nr rfl
def yz {zs:List IV}:(IK.alloc zs).cS=true:=nr rfl
def Bi:(IK.box x).cS=true:=nr rfl
def Bj{zs:List IV}:(IK.mo esz n zs g).cS=true:=nr rfl
def Bk:(IK.app esz x y).cS=true:=nr rfl
def yA:IK.rX.cS=true:=nr rfl
def zX:(IK.qP n x y z).cS=false:=nr rfl
def yc:(IK.rQ x).cS=true:=nr rfl
def yB:(IK.sV x).cS=false:=nr rfl
def yd:(IK.qF x).cS=true:=nr rfl
def zY {zs:List IV}:(IK.lu esz zs x).cS=true:=nr rfl
def Bl {zs:List IV}:(IK.clr esz zs x).cS=false:=nr rfl
def zZ:(IK.sh x).cS=false:=nr rfl
def yC:(IK.rY x).cS=false:=nr rfl
def Aa:(IK.nk x).cS=false:=nr rfl
def Ab{zs:List IV}:(IK.lS esz n zs g).cS=false:=nr rfl
def lm1:du E fr O (.ibs x y)=EU (x.ev E fr) (y.ev E fr):=nr rfl
def ku4:EU (.str s) (.int .u8 a)=if 0<=a/\a<256 then za (.int .i64 (nQ a.toNat s 0)) else zb:=nr rfl
def yD:(IK.store n x y).cS=false:=nr rfl
def Ac:(IK.call n f).cS=false:=nr rfl
def yE:(IK.mr n f).cS=false:=nr rfl
def WS:(IK.mg x f).cS=false:=nr rfl
def yF:(IK.sW x f).cS=false:=nr rfl
variable {i h:Type}
def Bm{f:i->h}:List.map f []=[]:=nr rfl
def Bn{f:i->h}{c:i}{cs:List i}:List.map f (c::cs)=f c::List.map f cs:=nr rfl
def xh{f:i->h}:Option.map f zb=zb:=nr rfl
def xj{f:i->h}{c:i}:Option.map f (za c)=za (f c):=nr rfl
def Ad:kg (.bool true) v u=za v:=nr rfl
def Ae:kg (.bool false) v u=za u:=nr rfl
def Af{d:Bool}:kg (.bool c) (.bool true) (.bool d)=za (.bool (c||d)):=by cases c<;>rfl
def Ag{d:Bool}:kg (.bool c) (.bool d) (.bool false)=za (.bool (c&&d)):=by cases c<;>rfl
def Bo:ES (.bool c)=za (.bool !c):=nr rfl
def Bp:ET (.int k a)=za (.int k (k.wrap (0-a))):=nr rfl
def Ah:Ew k (.int k' a)=za (.int k (k.wrap a)):=nr rfl
def yG:Eg (.str s)=za (.str s):=nr rfl
def CM:dL .add (.int k a) (.int k b)=za (.int k (k.wrap (a+b))):=by simp[dL,ng]
def CN:dL .sub (.int k a) (.int k b)=za (.int k (k.wrap (a-b))):=by simp[dL,ng]
def CO:dL .mul (.int k a) (.int k b)=za (.int k (k.wrap (a*b))):=by simp[dL,ng]
def CP:dL .quo (.int k a) (.int k b)=if b=0 then zb else za (.int k (k.wrap (a.tdiv b))):=by simp[dL,ng]
def CQ:dL .rem (.int k a) (.int k b)=if b=0 then zb else za (.int k (a.tmod b)):=by simp[dL,ng]
def CU:dL .eql (.int k a) (.int k b)=za (.bool (decide (a=b))):=by simp[dL,ng]
def CW:dL .neq (.int k a) (.int k b)=za (.bool (!decide (a=b))):=by simp[dL,ng]
def CX:dL .lss (.int k a) (.int k b)=za (.bool (decide (a<b))):=by simp[dL,ng]
def CY:dL .leq (.int k a) (.int k b)=za (.bool (decide (a<=b))):=by simp[dL,ng]
def CZ:dL .gtr (.int k a) (.int k b)=za (.bool (decide (b<a))):=by simp[dL,ng]
def C1:dL .geq (.int k a) (.int k b)=za (.bool (decide (b<=a))):=by simp[dL,ng]
def vl:dL .shl (.int k a) (.int k' b)=if 0<=b then za (.int k (k.wrap (a*2^(min b.toNat k.bits)))) else zb:=by simp[dL]
def xk:dL .shr (.int k a) (.int k' b)=if 0<=b then za (.int k (a.fdiv (2^(min b.toNat k.bits)))) else zb:=by simp[dL]
def wJ:dL .add (.str s) (.str t)=if s.length+t.length<2^62 then za (.str (s++t)) else zb:=by simp[dL,ur]
def Bq:dL .eql (.str s) (.str t)=za (.bool (decide (s=t))):=by simp[dL,ur]
def Br:dL .neq (.str s) (.str t)=za (.bool (!decide (s=t))):=by simp[dL,ur]
def Bs:dL .lss (.str s) (.str t)=za (.bool (Op.bytesLess s t)):=by simp[dL,ur]
def Bt:dL .leq (.str s) (.str t)=za (.bool (Op.bytesLess s t||decide (s=t))):=by simp[dL,ur]
def Bu:dL .gtr (.str s) (.str t)=za (.bool (!(Op.bytesLess s t||decide (s=t)))):=by simp[dL,ur]
def Bv:dL .geq (.str s) (.str t)=za (.bool (!Op.bytesLess s t)):=by simp[dL,ur]
variable {e:List (List IV)}
def Bw:jQ 0 O (.a8 e)=za (.int .i64 e.length):=nr rfl
def By:jQ 0 O .bA=za (.int .i64 0):=nr rfl
def Bz:jQ 0 O .dq=za (.int .i64 0):=nr rfl
def ku5:jQ 0 O .ez=za (.int .i64 0):=nr rfl
def wK:jQ 0 O (.slice n off len esz)=za (.int .i64 len):=nr rfl
def vZ:jQ 1 O (.str s)=za (.int .i64 s.length):=nr rfl
def Ai:tX (.ptr n off)=za (.ptr n off):=nr rfl
def Aj {cs:List IV}:tX (.bj cs)=za (.bj cs):=nr rfl
variable {q:List IV}
def Ak{f:FuncId}:tX (.func (.func f) p q)=za (.func (.func f) p q):=nr rfl
def BA:ta .bA=za .bA:=nr rfl
def BC:ta .dq=za .dq:=nr rfl
def ku6:ta .ez=za .dq:=nr rfl
def BD:ta (.a8 e)=if e=[] then za (.a8 []) else za .dq:=nr rfl
def BE:ta (.slice n off len esz)=za .dq:=nr rfl
def C2:oB O fr []=za []:=nr rfl
def C3:oB O fr [.t n]=za [fr.get n]:=nr rfl
def BF:oB O fr [.t n,.t m]=za [fr.get n,fr.get m]:=nr rfl
def C4:oB O fr [.cell d n]=(jq O d (fr.get n)).map λv=>[v]:=by simp only[oB,irV];cases jq O d (fr.get n)<;>rfl
def Al:pR [v]=v:=nr rfl
def Am:pR [v,u]=.tuple [v,u]:=nr rfl
def An:pR []=.tuple []:=nr rfl
def uc(ag:Option Nat)(off:Nat):Option cx->Option IV|some (.cells cs)|some (.row cs)=>(match ag with|none=>(cs.drop off).head?|some n=>if n<=(cs.drop off).length then za (.agg ((cs.drop off).take n)) else zb)|_=>zb
def Ao:jq O d (.ptr n off)=uc d off (O.aY n):=by cases h:O.aY n with|none=>simp[jq,mO,uc,h]|some o=>cases o<;>cases d<;>simp[jq,mO,uc,h]
def Ap {cs:List IV}:jq O zb (.bj cs)=cs.head?:=nr rfl
def yH {cs:List IV}:jq O (za n) (.bj cs)=if n<=cs.length then za (.agg (cs.take n)) else zb:=nr rfl
def nM {cs:List IV}:uc zb off (za (.cells cs))=(cs.drop off).head?:=nr rfl
def oW {cs:List IV}:uc (za n) off (za (.cells cs))=if n<=(cs.drop off).length then za (.agg ((cs.drop off).take n)) else zb:=nr rfl
def C5 {cs:List IV}:uc zb off (za (.row cs))=(cs.drop off).head?:=nr rfl
def xm {cs:List IV}:uc (za n) off (za (.row cs))=if n<=(cs.drop off).length then za (.agg ((cs.drop off).take n)) else zb:=nr rfl
def Ek(O:aW)(id off n:Nat)(vs:List IV):Option cx->Option aW|some (.cells cs)=>if vs.length=n/\off+n<=cs.length/\vs.all IV.bn=true then za (O.put id (.cells (dQ cs off vs))) else zb|some (.row cs)=>if vs.length=n/\off+n<=cs.length/\vs.all IV.bn=true then za (O.put id (.row (dQ cs off vs))) else zb|_=>zb
def yI:kc O n (.ptr m off) v=Ek O m off n v.cs (O.aY m):=by cases h:O.aY m with|none=>simp[kc,Ek,h]|some o=>cases o<;>simp[kc,Ek,h]
def C6{cs:List IV}:Ek O m off n p (za (.cells cs))=if p.length=n/\off+n<=cs.length/\p.all IV.bn=true then za (O.put m (.cells (dQ cs off p))) else zb:=nr rfl
def xo{cs:List IV}:Ek O m off n p (za (.row cs))=if p.length=n/\off+n<=cs.length/\p.all IV.bn=true then za (O.put m (.row (dQ cs off p))) else zb:=nr rfl
def yJ:kX esz (.a8 e) (.int k a)=if 0<=a/\a<e.length/\(e.getD a.toNat []).length=esz then za (.bj (e.getD a.toNat [])) else zb:=nr rfl
def yK:kX esz (.slice n off len m) (.int k a)=if 0<=a/\a<len/\m=esz then za (.ptr n (off+a.toNat*esz)) else zb:=nr rfl
def Aq {cs:List IV}:pJ n (.bj cs)=za (.bj (cs.drop n)):=nr rfl
def Ar:pJ n (.ptr m off)=za (.ptr m (off+n)):=nr rfl
def As {cs:List IV}:IV.cs (.agg cs)=cs:=nr rfl
def Au:IV.cs (.int k a)=[.int k a]:=nr rfl
def yL:IV.cs (.bool c)=[.bool c]:=nr rfl
def Aw:IV.cs (.str s)=[.str s]:=nr rfl
def Ax:IV.cs (.ptr n off)=[.ptr n off]:=nr rfl
def yM {cs:List IV}:IV.cs (.bj cs)=[.bj cs]:=nr rfl
def ye:IV.cs (.slice n off len esz)=[.slice n off len esz]:=nr rfl
def xP:IV.cs (.a8 e)=[.a8 e]:=nr rfl
def yN{f:Fn}:IV.cs (.func f p q)=[.func f p q]:=nr rfl
def Ay:IV.cs (.map n)=[.map n]:=nr rfl
def yO {es:List (IV×IV)}:IV.cs (.cH es)=[.cH es]:=nr rfl
def BG:IV.cs .bA=[.bA]:=nr rfl
def BH:IV.cs .dq=[.dq]:=nr rfl
def ku7:IV.cs .ez=[.ez]:=nr rfl
def BI:IV.cs .eI=[.eI]:=nr rfl
def Az:IV.bn (.int k a)=true:=nr rfl
def yP:IV.bn (.bool c)=true:=nr rfl
def AA:IV.bn (.str s)=true:=nr rfl
def AB:IV.bn (.ptr n off)=true:=nr rfl
def yQ {cs:List IV}:IV.bn (.bj cs)=true:=nr rfl
def yf:IV.bn (.slice n off len esz)=true:=nr rfl
def xQ:IV.bn (.a8 e)=true:=nr rfl
def yR{f:Fn}:IV.bn (.func f p q)=true:=nr rfl
def AC:IV.bn (.map n)=true:=nr rfl
def yS {es:List (IV×IV)}:IV.bn (.cH es)=true:=nr rfl
def BJ:IV.bn .bA=true:=nr rfl
def BK:IV.bn .dq=true:=nr rfl
def ku8:IV.bn .ez=true:=nr rfl
def BL:IV.bn .eI=true:=nr rfl
def GQ(O:aW)(id:Nat):Option cx->Option (IV×aW)|some (.lj s pos)=>if pos<s.length then za (.tuple [.bool true,.int .i64 pos,.int .i32 (Utf8.decode ⟨s.toArray⟩ pos).1],O.put id (.lj s (pos+(Utf8.decode ⟨s.toArray⟩ pos).2))) else za (.tuple [.bool false],O)|_=>zb
def uV:rO O (.ptr n 0)=GQ O n (O.aY n):=by cases h:O.aY n with|none=>simp[rO,GQ,h]|some o=>cases o<;>simp[rO,GQ,h]
def vG:GQ O n (za (.lj s j))=if j<s.length then za (.tuple [.bool true,.int .i64 j,.int .i32 (Utf8.decode ⟨s.toArray⟩ j).1],O.put n (.lj s (j+(Utf8.decode ⟨s.toArray⟩ j).2))) else za (.tuple [.bool false],O):=nr rfl
def BM {cs:List IV}:xz n (.tuple cs)=cs[n]?:=by cases h:cs[n]?<;>simp[xz,h]
def C7:(aW.mk O.aV O.aY)=O:=nr rfl
def wrap64{x:Int}(e:-9223372036854775808<=x)(d:x<9223372036854775808):IntKind.i64.wrap x=x:=by simp[IntKind.wrap,IntKind.bits,IntKind.signed];omega
end Go.Id
namespace Go.Id
open Go
variable {P:Program} {w w' w'':World} {ρ ρ' ρ'':b8} {E:Nat->IV} {O O':aW} {N n n':Nat}
abbrev bZ (n:Nat)(v:IV):Prop:=Nm (λi=>i<n) v
abbrev gM (O:aW)(n:Nat)(v v':IV):Prop:=dz O (λi=>i<n) v v'
def b8.cut (ρ:b8)(n:Nat):b8:=⟨λi=>if i<n then ρ i else .no,ρ.X⟩
def Qh(ρ:b8)(n:Nat):pK (λi=>i<n) ρ (ρ.cut n):=⟨λi h=>by show (if i<n then ρ i else mE.no)=_;rw[ab h],λi h=>by show (if i<n then ρ i else mE.no)=_;rw[aa h],λ_ h=>.inl h⟩
def UR(hf:∀i,n<=i->ρ i=.no):∀i,ρ i≠.no->i<n:=λi h=>by rcases qk i n with d|d;{exact d};exact aw (hf i d) h
variable {f:Nat}{a:List IV}
def lm2{v:IV}(h:(∀b∈a,bZ O.aV b)->C P E f a O λL O'=>(∀i,i<O.aV->O'.aY i=O.aY i)/\O.aV<=O'.aV/\gM O' O.aV L v):C P E f a O (EX v O):=by intro ρ w p hs M;have q:=UR hs.fresh;have J:∀b∈a,bZ O.aV b:=λb T=>let ⟨i,hi,he⟩:=kA (d:=.undef) T;he▸(M.2 i hi).nm q;refine CallsIn.mono (h J ρ w p hs M) ?_;rintro e w' ⟨L,r,ρ',O',rfl,⟨H,U,F⟩,D,G,j⟩;have I:∀i,O.aV<=i->O.aY i=zb:=λi hi=>hs.iI i (hs.fresh i hi);have A:=Qh ρ' O.aV;refine ⟨v,r,ρ'.cut O.aV,O,rfl,⟨rfl,rfl⟩,D.Hy A H (λi hi=>I i om) (λi o _ S=>hs.nmO q i o S) (λi hi=>A.off i om) (λg=>(hs.env g).nm q),F.vr A rfl D r G,?_⟩;exact ⟨j.size,j.bd,j.shape,λi B d hi=>j.kD i B d (A.at hi).2,λi B d hi h=>by rw[A.on i hi];exact j.at_ i B d hi h,λi hi h=>by rw[A.on i hi];exact j.dead i hi h,λi hi h=>by rw[A.on i hi];exact j.no i hi h,j.output,j.os,j.tape,j.loops,j.X⟩
def nS{v:IV}(h:PC P E f a v):C P E f a O (EX v O):=h O
def Qi{v:IV}(h:∀O,(∀b∈a,bZ O.aV b)->C P E f a O λd O'=>(∀i,i<O.aV->O'.aY i=O.aY i)/\O.aV<=O'.aV/\gM O' O.aV d v):PC P E f a v :=λO=>lm2 (h O)
def lm3{pt:PT}{ct:CT}{pf:List Nat}(p:TOK P E pt ct){an:oD}{e:IC}{d:List IR}{v:IV}(hf:vE P f N pf an e d)(j:a.length<=N)(h:∀O,(∀b∈a,bZ O.aV b)->fI pt ct P E N O.aV e (lN a 0) O (sj d λg O'=>(∀i,i<O.aV->O'.aY i=O.aY i)/\O.aV<=O'.aV/\gM O' O.aV g v)):PC P E f a v :=Qi λO o=>C_T p hf j (h O o)
def IV.plain:IV->Bool|.bool _|.int _ _|.str _=>true|.tuple vs=>vs.attach.all λ⟨v,_⟩=>v.plain|.agg vs=>vs.attach.all λ⟨v,_⟩=>v.plain|_=>false
def Y7{v:IV}{r:Value}(h:v.plain=true)(d:VR ρ w v r):VR ρ' w' v r:=by induction d with|bool b=>exact .bool _|int k n=>exact .int _ _|str s=>exact .str _|agg cs rs hl d ih=>refine .agg cs rs hl λi hi=>ih i hi ?_;unfold IV.plain at h;exact zd.1 h ⟨_,fq .undef hi⟩ (List.mem_attach _ _)|tuple cs rs hl d ih=>refine .tuple cs rs hl λi hi=>ih i hi ?_;unfold IV.plain at h;exact zd.1 h ⟨_,fq .undef hi⟩ (List.mem_attach _ _)|_=>simp[IV.plain]at h
def TC(S:Nat->Prop)(ρ:b8):∃ρ':b8,pK S ρ ρ'/\∀b,ρ'.X b↔ρ.X b\/∃i d,¬S i/\ρ i=.at b d:=by refine ⟨⟨λi=>if qc (S i) |>.decide then ρ i else .no,λb=>ρ.X b\/∃i d,¬S i/\ρ i=.at b d⟩,⟨λi h=>?_,λi h=>?_,λb h=>h⟩,λb=>Iff.rfl⟩;{show (if (qc (S i)).decide=true then ρ i else mE.no)=_;rw[ab (by simpa using h)]};show (if (qc (S i)).decide=true then ρ i else mE.no)=_;rw[aa (by simpa using h)]
def aW.only (O:aW)(S:Nat->Bool):aW:=⟨O.aV,λi=>if S i then O.aY i else zb⟩
def NG{v:IV}(hE:∀g,bZ 0 (E g))(ha:∀c∈a,bZ 0 c)(h:C P E f a ⟨0,λ_=>zb⟩ λv' O'=>gM O' 0 v' v):PC P E f a v:=by intro O ρ w p hs hr;have⟨ρ0,H,hX⟩:=TC (λ_=>False) ρ;have U:bY E ρ0 w ⟨0,λ_=>zb⟩:=hs.Hy H (λi h=>h.elim) (λ_ _=>rfl) (λi o h=>h.elim) (λi _=>H.off i (λh=>h)) (λg=>(hE g).dw λi h=>aw h (zj _));have W:CR ρ0 w a p:=⟨hr.1,λi hi=>(hr.2 i hi).cut H ((ha _ (fq _ hi)).dw λi h=>aw h (zj _))⟩;refine CallsIn.mono (h ρ0 w p U W) ?_;rintro e w' ⟨v',r,ρ',O',rfl,Z,V,T,A⟩;have F:∀i,ρ0 i=.no:=λi=>H.off i (λh=>h);have j:∀b,b<w.heap.size->w'.heap[b]? = w.heap[b]?:=λb D=>A.bd b ⟨D,λi d h=>by rw[F i]at h;cases h⟩;have G:∀(b:Nat)(o:Obj),w.heap[b]? = za o->b<w.heap.size:=λb o h=>(by rcases qk b w.heap.size with h'|h';{exact h'};rw[z0 h']at h;cases h);have q:∀n,Ext n ρ w ρ w':=λn=>⟨A.size,λb D=>j b D.1,λb I el fz h=>⟨I,by rw[j b (G b _ h)];exact h,rfl⟩,λi B d h=>.inl ⟨i,d,h⟩,λi B d h=>.inl h,λi h=>h,λi _ h=>h,A.output,A.os,A.tape,λl L h=>⟨L,by rw[j l (G l _ h)];exact h⟩,rfl⟩;let ρ1:b8:=⟨λ_=>.no,ρ'.X⟩;have Y:pK (λi=>i<0) ρ' ρ1:=⟨λi h=>aw h (zj _),λi _=>rfl,λb h=>.inl h⟩;have S:VR ρ1 w' v r:=Z.vr Y rfl V r T;have M:VR ρ w' v r:=S.refs (λi h=>aw rfl h) λb D=>⟨D.1,λi d hi=>D.3 (by show ρ'.X b;rw[A.X];exact (hX b).2 (.inr ⟨i,d,λh=>h,hi⟩)),λJ=>D.3 (by show ρ'.X b;rw[A.X];exact (hX b).2 (.inl J))⟩;refine ⟨v,r,ρ,O,rfl,⟨rfl,rfl⟩,⟨hs.inj,λi B d h=>zk (hs.lt i B d h) A.size,λi B d h=>?_,hs.dead,hs.fresh,hs.iI,λg=>(hs.env g).mono (q 0),hs.nx,λb h=>zk (hs.jT b h) A.size⟩,M,(q O.aV).dw (zz _)⟩;have⟨o,h1,h2⟩:=hs.aY i B d h;exact ⟨o,h1,h2.mono (q 0) (j B (hs.lt i B d h))⟩
def aW.cq (O:aW)(S:Nat->Bool):aW:=⟨O.aV,λi=>if S i then O.aY i else zb⟩
def E6{S:Nat->Bool}(hs:bY E ρ w O):∃p:b8,bY E p w (O.cq S)/\(∀n,Ext n ρ w p w)/\∀v H r,dz O (λi=>S i=true) v H->VR ρ w v r->VR p w H r:=by
 let ρc:b8:=⟨λi=>if S i then ρ i else .no,ρ.X⟩;let p:b8:=⟨λi=>if S i then ρ i else match ρ i with|.no=>.no|_=>.dead,ρ.X⟩;have G:∀i,S i=true->ρc i=ρ i:=λi h=>by show (if S i=true then ρ i else .no)=_;rw[ab h]
 have D:∀i,S i=false->ρc i=.no:=λi h=>by show (if S i=true then ρ i else .no)=_;rw[aa (by simp[h])]
 have q:∀i,S i=true->p i=ρ i:=λi h=>by show (if S i=true then ρ i else _)=_;rw[ab h]
 have A:∀i,S i=false->p i=(match ρ i with|.no=>.no|_=>.dead):=λi h=>by show (if S i=true then ρ i else _)=_;rw[aa (by simp[h])]
 have f:∀i B d,p i=.at B d->S i=true/\ρ i=.at B d:=λi B d h=>by cases e:S i with|true=>rw[q i e]at h;exact ⟨rfl,h⟩|false=>rw[A i e]at h;cases J:ρ i<;>rw[J]at h<;>cases h
 have T:pK (λi=>S i=true) ρ ρc:=⟨G,λi h=>D i (by simpa using h),λb h=>.inl h⟩;have F:∀n,Ext n ρ w p w:=λn=>Gr (λi B d h=>by cases e:S i with|true=>rw[q i e];exact .inl h|false=>rw[A i e,h];exact .inr rfl) (λi h=>by cases e:S i with|true=>rw[q i e];exact h|false=>rw[A i e,h]) (λi _ h=>by cases e:S i with|true=>rw[q i e];exact h|false=>rw[A i e,h]) (λi B d h=>⟨i,d,(f i B d h).2⟩) rfl;have I:Ext 0 ρc w p w:=Gr (λi B d h=>by have⟨M,L⟩:=T.at h;exact .inl (by rw[q i M];exact L)) (λi h=>by cases e:S i with|true=>rw[G i e]at h;rw[q i e];exact h|false=>rw[D i e]at h;cases h) (λi hi _=>aw hi (zj _)) (λi B d h=>⟨i,d,by rw[G i (f i B d h).1];exact (f i B d h).2⟩) rfl;refine ⟨p,?_,F,λv H r hf U=>(hf.vr T rfl hs r U).mono I⟩;refine ⟨λi j B d d' hi W=>hs.inj i j B d d' (f _ _ _ hi).2 (f _ _ _ W).2,λi B d hi=>hs.lt i B d (f _ _ _ hi).2,λi B d hi=>?_,λi hi=>?_,λi hi=>?_,λi hi=>?_,λg=>(hs.env g).mono (F 0),λi B d hi=>hs.nx i B d (f _ _ _ hi).2,hs.jT⟩;{have⟨M,L⟩:=f _ _ _ hi;have⟨o,Z,Y⟩:=hs.aY i B d L;exact ⟨o,by simp[aW.cq,M,Z],Y.mono (F 0) rfl⟩};{cases e:S i with|true=>rw[q i e]at hi;simp[aW.cq,e,hs.dead i hi]|false=>simp[aW.cq,e]};{have V:O.aV<=i:=hi;have:=hs.fresh i V;cases e:S i with|true=>rw[q i e];exact this|false=>rw[A i e,this]};cases e:S i with|true=>rw[q i e]at hi;simp[aW.cq,e,hs.iI i hi]|false=>simp[aW.cq,e]
def El{S:Nat->Bool}{args':List IV}{Q:IV->aW->Prop}(H:args'.length=a.length)(I:∀i,i<a.length->dz O (λi=>S i=true) (a.getD i .undef) (args'.getD i .undef))(h:C P E f args' (O.cq S) Q):C P E f a O Q:=by intro ρ w d hs D;have⟨g,q,j,o⟩:=E6 (S:=S) hs;have B:CR g w args' d:=⟨by rw[H];exact D.1,λi hi=>o _ _ _ (I i om) (D.2 i om)⟩;refine CallsIn.mono (h g w d q B) ?_;rintro e w' ⟨v,r,ρ',O',rfl,G,A,p,F⟩;exact ⟨v,r,ρ',O',rfl,G,A,p,((j O.aV).dw (zz _)).trans F⟩
def Em{S:Nat->Bool}{L:IC}{fr fr':bz}{Q:Exit->bz->aW->Prop}(hf:∀t,fr'.get t=fr.get t\/dz O (λi=>S i=true) (fr.get t) (fr'.get t))(h:RI P E N f L fr' (O.cq S) Q):RI P E N f L fr O Q:=by intro pf an c hc U M h0 ρ w a hs b V T;have⟨g,D,j,A⟩:=E6 (S:=S) hs;have o:FR g w N fr' a.tmps:=⟨b.size,λt=>by rcases hf t with e|e;{rw[e];exact (b.get t).mono (j 0)};exact A _ _ _ e (b.get t)⟩;have d:=(j f).dw (zz f);refine wpIn_mono (h pf an c hc U M h0 g w a D o (V.mono d) (T.mono d)) ?_;rintro e X w' ⟨J,W,p,G,q,B,H,I,F,r⟩;exact ⟨J,W,p,G,q,B,H,I,F,d.trans r⟩
def tO{args args':List IV}{v:IV}(hE:∀g,bZ 0 (E g))(W:args'.length=args.length)(X:∀i,i<args.length->gM O 0 (args.getD i .undef) (args'.getD i .undef))(V:v.plain=true)(h:PC P E f args' v):C P E f args O (EX v O):=by intro ρ w p hs T;have F:=Qh ρ 0;have I:bY E (ρ.cut 0) w ⟨0,λ_=>zb⟩:=hs.Hy F (λi h=>aw h (zj _)) (λ_ _=>rfl) (λi o h=>aw h (zj _)) (λi _=>F.off i (zj _)) hE;have J:CR (ρ.cut 0) w args' p:=⟨by rw[W];exact T.1,λi hi=>(X i om).vr F rfl hs _ (T.2 i om)⟩;refine CallsIn.mono (h ⟨0,λ_=>zb⟩ (ρ.cut 0) w p I J) ?_;rintro e w' ⟨v',r,ρ',O',rfl,⟨rfl,rfl⟩,U,H,A⟩;have j:∀b,b<w.heap.size->w'.heap[b]? = w.heap[b]?:=λb M=>A.bd b ⟨M,λi d h=>aw (F.at h).1 (zj _)⟩;have D:∀(b:Nat)(o:Obj),w.heap[b]? = za o->b<w.heap.size:=λb o h=>(by rcases qk b w.heap.size with S|S;{exact S};rw[z0 S]at h;cases h);have q:∀n,Ext n ρ w ρ w':=λn=>⟨A.size,λb M=>j b M.1,λb G el fz h=>⟨G,by rw[j b (D b _ h)];exact h,rfl⟩,λi B d h=>.inl ⟨i,d,h⟩,λi B d h=>.inl h,λi h=>h,λi _ h=>h,A.output,A.os,A.tape,λl L h=>⟨L,by rw[j l (D l _ h)];exact h⟩,rfl⟩;refine ⟨_,r,ρ,O,rfl,⟨rfl,rfl⟩,⟨hs.inj,λi B d h=>zk (hs.lt i B d h) A.size,λi B d h=>?_,hs.dead,hs.fresh,hs.iI,λg=>(hs.env g).mono (q 0),hs.nx,λb h=>zk (hs.jT b h) A.size⟩,Y7 V H,(q O.aV).dw (zz _)⟩;have⟨o,Z,Y⟩:=hs.aY i B d h;exact ⟨o,Z,Y.mono (q 0) (j B (hs.lt i B d h))⟩
end Go.Id
namespace Go.Id
open Go
variable {P:Program} {E:Nat->IV} {O O':aW} {N n n0:Nat} {fr:bz}
inductive xD where|o (x:cx)|loop (N:Nat)(fr:bz)(ps:List Nat)(asg body:IC)(st:LoopState)(pend:Option JX)|app (rev:List (List IV))(n:Nat)(h:rev.reverse.flatten.length=n/\rev.reverse.flatten.all IV.bn=true) deriving Inhabited
def xD.fin:Option xD->Option xD|some (.app rev _ _)=>za (.o (.row rev.reverse.flatten))|x=>x
inductive Tr where|e|n (v:Option xD)(l r:Tr) deriving Inhabited
def Tr.raw:Tr->Nat->Option xD|.e,_=>zb|.n v l r,i=>bif Nat.beq i 0 then v else bif Nat.beq (i%2) 1 then l.raw (i/2) else r.raw (i/2-1)
def Tr.get (t:Tr)(i:Nat):Option xD:=xD.fin (t.raw i)
structure XSt where
 aV:Nat
 t:Tr
 deriving Inhabited
def XSt.st (xs:XSt):aW:=⟨xs.aV,λi=>match xs.t.get i with|some (.o x)=>za x|_=>zb⟩
abbrev Lam:=Nat->LoopState->Option JX->cx
def od:Nat->IV->Bool|0,_=>false|n+1,v=>match v with|.ptr _ _|.slice _ _ _ _|.map _|.yield _|.eW _ _ _ _|.gG _ _ _ _ _=>false|.bj cs=>cs.all (od n)|.a8 es=>es.all λe=>e.all (od n)|.cH es=>es.all λe=>od n e.1&&od n e.2|.func _ a b=>a.all (od n)&&b.all (od n)|.iface _ v=>od n v|.agg cs=>cs.all (od n)|.tuple cs=>cs.all (od n)|_=>true
def xM:∀(n:Nat)(v:IV),od n v=true->bZ 0 v:=by intro n;induction n with|zero=>intro v h;cases h|succ n ih=>intro v h;have g:∀ {cs:List IV},cs.all (od n)=true->∀c∈cs,bZ 0 c:=λh c hc=>ih c (zd.1 h c hc);cases v with|undef=>exact .undef|bool b=>exact .bool b|int k x=>exact .int k x|str s=>exact .str s|eI=>exact .eI|ptr id off=>cases h|bj cs=>exact .bj cs (g h)|bA=>exact .bA|dq=>exact .dq|ez=>exact .ez|slice a b c d=>cases h|a8 es=>exact .a8 es λe i=>g (zd.1 h e i)|gX=>exact .gX|map id=>cases h|cH es=>exact .cH es (λe i=>ih _ (by have:=zd.1 h e i;simp at this;exact this.1)) (λe i=>ih _ (by have:=zd.1 h e i;simp at this;exact this.2))|func f a b=>simp only[od,zg]at h;exact .func f a b (g h.1) (g h.2)|yield id=>cases h|iU=>exact .iU|iface t v=>exact .iface t v (ih v h)|jV=>exact .jV|agg cs=>exact .agg cs (g h)|tuple cs=>exact .tuple cs (g h)|eW a b c d=>cases h|gG a b c d e=>cases h
def US{ρ:b8}{w:World}{S:Nat->Bool}{id:Nat}{cs cs':List IV}(hs:bY E ρ w O)(hS:S id=true)(V:O.aY id=za (.cells cs))(W:cs'.length=cs.length)(hc:∀i,i<cs.length->cs'.getD i .undef=cs.getD i .undef\/dz O (λi=>S i=true) (cs.getD i .undef) (cs'.getD i .undef)): ∃j:b8,bY E j w ((O.cq S).put id (.cells cs'))/\(∀n,Ext n ρ w j w):=by have⟨j,f,g,G⟩:=E6 (S:=S) hs;have p:(O.cq S).aY id=za (.cells cs):=(by simp[aW.cq,hS,V]);refine ⟨j,⟨f.inj,f.lt,λi B d hi=>?_,λi hi=>?_,f.fresh,λi hi=>?_,f.env,f.nx,f.jT⟩,g⟩;{have⟨o,M,Y⟩:=f.aY i B d hi;by_cases e:i=id;{subst e;rw[p]at M;cases M;have⟨F,el,X,I,hv⟩:=Y;refine ⟨.cells cs',by simp[aW.put],F,el,X,by rw[W];exact I,λk D=>?_⟩;rw[W]at D;rcases hc k D with T|T;{rw[T];exact hv k D};have L:∃A,ρ i=.at B A:=(by match J:ρ i with|.no=>have:=(g (i+1)).no i (Nat.lt_succ_self _) J;rw[hi]at this;cases this|.dead=>have:=(g 0).dead i J;rw[hi]at this;cases this|.at B2 d2=>rcases (g 0).at_ i B2 d2 J with h|h;{rw[hi]at h;cases h;exact ⟨_,rfl⟩};rw[hi]at h;cases h);have⟨A,r⟩:=L;have hd:A=d:=(by rcases (g 0).at_ i B A r with h|h;{rw[hi]at h;cases h;rfl};rw[hi]at h;cases h);subst hd;have⟨o2,Z,g2⟩:=hs.aY i B A r;rw[V]at Z;cases Z;have⟨U,ac,q,_,H⟩:=g2;rw[X]at q;cases q;exact G _ _ _ T (H k D)};exact ⟨o,by simp[aW.put,e,M],Y⟩};{have h0:=f.dead i hi;have:i≠id:=λe=>(by subst e;rw[p]at h0;cases h0);simp[aW.put,this,h0]};have h0:=f.iI i hi;have:i≠id:=λe=>(by subst e;rw[p]at h0;cases h0);simp[aW.put,this,h0]
def Hg(E:Nat->IV)(O:aW)(fr:bz)(O':aW)(fr':bz):Prop :=∀(ρ:b8)(w:World),bY E ρ w O->∃ρd:b8,bY E ρd w O'/\(∀n,Ext n ρ w ρd w)/\∀(N:Nat)(tmps:Array Value),FR ρ w N fr tmps->FR ρd w N fr' tmps
def Y8{I:IC}{n0:Nat}{fr fr':bz}{Q:Exit->bz->aW->Prop}(S:Hg E O fr O' fr')(M:O'.aV=O.aV)(h:RI P E N n0 I fr' O' Q):RI P E N n0 I fr O Q:=by intro pf an c hc B J h0 ρ w a hs D T L;have⟨f,p,i,hf⟩:=S ρ w hs;have d:=(i n0).dw (zz n0);refine wpIn_mono (h pf an c hc (by rw[M];exact B) J h0 f w a p (hf _ _ D) (T.mono d) (L.mono d)) ?_;rintro e V w' ⟨H,U,g,A,q,o,F,G,r,j⟩;exact ⟨H,U,g,A,q,o,F,G,r,d.trans j⟩
end Go.Id
namespace Go.Id
open Go
variable {P:Program} {E:Nat->IV} {O O':aW} {N n n0:Nat} {fr:bz}
inductive XE where|normal|exit (i:Nat)|ret deriving Inhabited
def XE.ex:XE->Exit|.normal=>.normal|.exit i=>.exit i|.ret=>.ret
abbrev RD:=Nat->Nat->List IV->XSt->Option (IV×XSt)
where
 Kr (r:IV->IV->Bool):List IV->List IV->Bool
  | [],[]=>true
  | a::x,b::y=>r a b&&Kr r x y
  | _,_=>false
 sameLL (r:IV->IV->Bool):List (List IV)->List (List IV)->Bool
  | [],[]=>true
  | a::x,b::y=>Kr r a b&&sameLL r x y
  | _,_=>false
variable {rd:RD} {Λ:Lam} {xs xs':XSt}
variable {x:IC}
def UT{pf:List Nat}{an:oD}{c:Code}{i:Nat}(h:fg P pf N an c=za (.block i x)):∃a,c=.block i a/\fg P pf N an a=za x:=by cases c with|block id a=>have⟨_,d,h⟩:=map_some h;cases h;exact ⟨a,rfl,d⟩|scope a=>have⟨_,_,h⟩:=map_some h;cases h|region id ops draw=>(simp only[fg]at h;split at h<;>first|(cases h;done)|(split at h<;>first|(cases h;done)|(split at h<;>cases h)))|seq a b=>simp only[fg]at h;split at h<;>cases h|cond c a b=>simp only[fg]at h;split at h<;>cases h|loop a=>have⟨_,_,h⟩:=map_some h;cases h|rangeFunc g ps assign body=>(simp only[fg]at h;split at h<;>first|(cases h;done)|(split at h<;>cases h))|_=>cases h
def WU{pf:List Nat}{an:oD}{c:Code}(h:fg P pf N an c=za (.loop x)):∃a,c=.loop a/\fg P pf N an a=za x:=by cases c with|loop a=>have⟨_,d,h⟩:=map_some h;cases h;exact ⟨a,rfl,d⟩|region id ops draw=>(simp only[fg]at h;split at h<;>first|(cases h;done)|(split at h<;>first|(cases h;done)|(split at h<;>cases h)))|seq a b=>simp only[fg]at h;split at h<;>cases h|cond c a b=>simp only[fg]at h;split at h<;>cases h|block id a=>have⟨_,_,h⟩:=map_some h;cases h|scope a=>have⟨_,_,h⟩:=map_some h;cases h|rangeFunc g ps assign body=>(simp only[fg]at h;split at h<;>first|(cases h;done)|(split at h<;>cases h))|_=>cases h
def iR{i:Nat}{Q:Exit->bz->aW->Prop}(h:RI P E N n0 x fr O (sO i Q)):RI P E N n0 (.block i x) fr O Q:=by intro pf an c hc;obtain ⟨a,rfl,d⟩:=UT hc;exact OV (h pf an a d)
def F1{Q:Exit->bz->aW->Prop}(I:Nat->bz->aW->Prop)(m:Nat)(h:I m fr O)(e:∀m fr O,I m fr O->RI P E N n0 x fr O (wX I m Q)):RI P E N n0 (.loop x) fr O Q:=by intro pf an c hc;obtain ⟨a,rfl,d⟩:=WU hc;exact P6 I m h λm fr O hi=>e m fr O hi pf an a d
end Go.Id
namespace Go.Id
open Go
variable {P:Program} {E:Nat->IV} {O O':aW}
abbrev FE:=Nat×IC×List IR
def FOK (P:Program)(f:Nat)(e:FE):Prop:=okF P f=true/\∃pf an,vE P f e.1 pf an e.2.1 e.2.2
def FOK.mk {f N:Nat}{pf:List Nat}{an:oD}{e:IC}{d:List IR}(h:okF P f=true)(hf:vE P f N pf an e d):FOK P f (N,e,d):=⟨h,pf,an,hf⟩
instance instIX (n:Nat):OfNat IX n:=⟨.t n⟩
def oQ (d:Nat)(q:IQ):de:=⟨za d,zb,.q q⟩
def oM (d:Nat)(x:IX):de:=⟨za d,zb,.q (.mJ x)⟩
def oK (d:Nat)(k:IK):de:=⟨za d,zb,k⟩
def gQ (d s:Nat)(w:Bool)(q:IQ):de:=⟨za d,za (s,w),.q q⟩
def gK (d s:Nat)(w:Bool)(k:IK):de:=⟨za d,za (s,w),k⟩
def oN (k:IK):de:=⟨zb,zb,k⟩
def cI (n:Int):IX:=.c (.int .i64 n)
def cB (b:Bool):IX:=.c (.bool b)
def zI (n:Int):IV:=.int .i64 n
def zU (n:Int):IV:=.int .u8 n
def se:IC->oD|.mK id _ bd=>[(id,bd)]|.tc id _ _ bd=>[(id,bd)]|.vC id _ bd=>[(id,bd)]|.seq a b=>se a++se b|.cond _ a b=>se a++se b|.block _ a=>se a|.loop a=>se a|.oq _ _ a b=>se a++se b|.scope a=>se a|_=>[]
end Go.Id
namespace Go.Id
open Go
variable {H:Type} {enc:TypeId×Value->H} {P:Program} {w w':World} {base:Nat} {sp:Nat->Bool} {held:Bool} {ρ:b8} {E:Nat->IV}
structure VL (ρ:b8) (w:World) (ivs:List IV) (cs:List Value):Prop where
 len:ivs.length=cs.length
 get:∀i,i<ivs.length->VR ρ w (ivs.getD i .undef) (cs.getD i undef)
def mz(r:TypeId->DataW H->Option (List IV))(P:Program):List (TypeId×Nat)->List (DataW H)->Nat->Option (List IV)|[],[],_=>za []|f::fs,d::ds,off=>if f.2=off then (match r f.1 d with|some a=>if a.length=P.cellsOf f.1 then (match mz r P fs ds (off+P.cellsOf f.1)with|some b=>za (a++b)|none=>zb) else zb|none=>zb) else zb|_,_,_=>zb
def dvS(r:DataW H->Option (List IV))(c:Nat):List (DataW H)->Option (List (List IV))|[]=>za []|d::ds=>match r d with|some a=>if a.length=c then (match dvS r c ds with|some b=>za (a::b)|none=>zb) else zb|none=>zb
def dvE(r:DataW H->Option (List IV))(x:Lit×DataW H):IV×IV:=match x.1,r x.2 with|.string bs,za [v]=>(.str bs,v)|_,_=>(.undef,.undef)
def wL:List IV->Bool|[]=>true|.str a::r=>(r.all fun|.str b=>!(a==b)|_=>false)&&wL r|_::_=>false
def flat(P:Program)(e:TypeId):Bool:=match P.underlying e with|some .bool|some (.int _)|some .string|some (.slice _)|some (.pointer _)=>true|_=>false
def dv(P:Program):Nat->TypeId->DataW H->Option (List IV)|0,_,_=>zb|m+1,t,d=>match P.underlying t,d with|some .bool,.lit (.bool b)=>za [.bool b]|some (.int _),.lit (.int k n)=>za [.int k n]|some .string,.lit (.string bs)=>za [.str bs]|some (.pointer _),.nil=>za [.eI]|some (.pointer e),.ptr d=>(match dv P m e d with|some (c::cs)=>za [.bj (c::cs)]|_=>zb)|some (.slice _),.nil=>za [.a8 []]|some (.slice e),.slice els _=>(if P.cellsOf e=0 then zb else match dvS (dv P m e) (P.cellsOf e) els with|some es=>za [.a8 es]|none=>zb)|some (.struct fs),.agg ds=>(match mz (dv P m) P (fs.toList.map λf=>(f.type,f.offset)) ds 0 with|some ivs=>if ivs.length=P.cellsOf t then za ivs else zb|none=>zb)|some (.array n e),.agg ds=>(match mz (dv P m) P ((List.range n).map λi=>(e,i*P.cellsOf e)) ds 0 with|some ivs=>if ivs.length=P.cellsOf t then za ivs else zb|none=>zb)|some (.map k e),.map es=>(match P.underlying k with|some .string=>if flat P e&&wL (es.map λx=>(dvE (dv P m e) x).1) then za [.cH (es.map (dvE (dv P m e)))] else zb|_=>zb)|_,_=>zb
def uY{v:IV}{r:Value}(h:VR ρ w v r):VL ρ w [v] [r]:=⟨rfl,λi hi=>by have h0:i=0:=(by simpa using hi);rw[h0];exact h⟩
def Qj{r:TypeId->DataW H->Option (List IV)}{rd:TypeId->List Value->DataW H->Prop}(G:∀t cs d e,rd t cs d->r t d=za e->VL ρ w e cs)(cs:List Value): ∀(j:List (TypeId×Nat))(ds:List (DataW H))(off:Nat)(e:List IV),j.length=ds.length -> (∀(i:Nat)(f:TypeId×Nat)(d:DataW H),j[i]? = za f->ds[i]? = za d->rd f.1 ((cs.drop f.2).take (P.cellsOf f.1)) d)->mz r P j ds off=za e -> ∀i,i<e.length->off+i<cs.length/\VR ρ w (e.getD i .undef) (cs.getD (off+i) undef):=by intro j;induction j with|nil=>(intro ds off e B _ h;cases ds with|nil=>cases h;intro i hi;simp at hi|cons d ds=>simp at B)|cons f j ih=>intro ds off e B o h;cases ds with|nil=>simp at B|cons d ds=>simp only[mz]at h;split at h;{rename_i p;split at h;{rename_i a M;split at h;{rename_i L;split at h;{rename_i b J;cases h;have h0:=G _ _ _ _ (o 0 f d rfl rfl) M;have q:=h0.len;rw[p]at h0 q;simp only[List.length_take,List.length_drop]at q;intro i hi;by_cases g:i<a.length;{have A:=h0.get i g;have D:off+i<cs.length:=om;refine ⟨D,?_⟩;have F:(a++b).getD i .undef=a.getD i .undef:=(by simp[zc,qa,g]);have T:((cs.drop off).take (P.cellsOf f.1)).getD i undef=cs.getD (off+i) undef:=(by have:i<P.cellsOf f.1:=om;simp[zc,List.getElem?_take,this,List.getElem?_drop]);rw[F,<- T];exact A};have A:=ih ds _ b (by simpa using B) (λi S V hf I=>o (i+1) S V (by simpa using hf) (by simpa using I)) J (i-a.length) (by simp at hi;omega);have U:off+P.cellsOf f.1+(i-a.length)=off+i:=om;rw[U]at A;refine ⟨A.1,?_⟩;have F:(a++b).getD i .undef=b.getD (i-a.length) .undef:=(by simp[zc,qa,g]);rw[F];exact A.2};cases h};cases h};cases h};cases h
def kc1{r:DataW H->Option (List IV)}{c:Nat}:∀(ds:List (DataW H))(es:List (List IV)),dvS r c ds=za es->es.length=ds.length/\∀i,i<es.length->(es.getD i []).length=c/\∃d,ds[i]? = za d/\r d=za (es.getD i []):=by intro ds;induction ds with|nil=>intro es h;cases h;exact ⟨rfl,λi hi=>by simp at hi⟩|cons d ds ih=>intro es h;simp only[dvS]at h;split at h;{rename_i a g;split at h;{rename_i e;split at h;{rename_i b f;cases h;have⟨A,q⟩:=ih b f;refine ⟨by simp[A],λi hi=>?_⟩;cases i with|zero=>exact ⟨e,d,rfl,g⟩|succ i=>have⟨p,B,o,j⟩:=q i (by simpa using hi);exact ⟨p,B,o,j⟩};cases h};cases h};cases h
def TD{es:List (IV×IV)}(h:wL (es.map (·.1))=true):wH es:=by have:∀(l:List IV),wL l=true->l.Nodup/\∀v∈l,∃s,v=.str s:=(by intro l;induction l with|nil=>intro _;exact ⟨.nil,λ_ h=>by cases h⟩|cons v l ih=>intro h;cases v with|str a=>simp only[wL,zg]at h;have⟨g,f⟩:=ih h.2;refine ⟨List.nodup_cons.2 ⟨λi=>?_,g⟩,λv d=>?_⟩;{have:=zd.1 h.1 _ i;simp at this};rcases zw.1 d with rfl|d;{exact ⟨a,rfl⟩};exact f v d|_=>cases h);have⟨g,f⟩:=this _ h;refine ⟨g,.str,λe j=>?_⟩;have⟨s,hs⟩:=f e.1 (qj.2 ⟨e,j,rfl⟩);rw[hs];trivial
def HO{a:Addr}{v:Value}(h:w.cell? a=za v):a.spot=zb/\a.block<w.heap.size:=by unfold World.cell? at h;split at h;{rename_i c _ _ e;split at h;{cases h};rename_i hs;refine ⟨by simpa using hs,?_⟩;exact Nat.lt_of_not_le λd=>by rw[z0 d]at e;cases e};cases h
def UU:∀ {l:List IV},wL l=true->∀v∈l,∃s,v=.str s:=by intro l;induction l with|nil=>intro _ _ h;cases h|cons v l ih=>intro h;cases v with|str a=>simp only[wL,zg]at h;intro v d;rcases zw.1 d with rfl|d;{exact ⟨a,rfl⟩};exact ih h.2 v d|_=>cases h
def kc2{k:TypeId}{v:Value}{d:List UInt8}(e:P.underlying k=za .string)(h:keyOf P k v=za (.string d)):v=.string ⟨d.toArray⟩:=by unfold keyOf mapKey at h;rw[e]at h;cases v with|string s=>simp only at h;split at h;{cases h;congr 1};cases h|_=>cases h
def UV{e:TypeId}{v:Value}(h:flat P e=true)(hf:v.formed P e=true):v.cells.toList=[v]:=by unfold flat at h;cases v with|agg cs=>unfold Value.formed at hf;split at h<;>simp_all|_=>rfl
def Gx(hF:∀b,b<w.heap.size->FB ρ w b):∀(m n:Nat)(t:TypeId)(d:DataW H)(cs:List Value)(ps:List MemPlace)(J:List IV),DataW.trod enc P w base sp held n t cs=za (d,ps)->dv P m t d=za J->VL ρ w J cs:=by intro m;induction m with|zero=>intro n t d cs ps J _ h;cases h|succ m ih=>intro n t d cs ps J h q;unfold dv at q;split at q;{rename_i b G;obtain ⟨b',rfl,r⟩:=DataW.trod_bool G h;cases r;cases q;exact uY (.bool _)};{rename_i k0 k n0 G;obtain ⟨n',rfl,r,_⟩:=DataW.trod_int G h;cases r;cases q;exact uY (.int _ _)};{rename_i bs G;obtain ⟨s,rfl,r,_⟩:=DataW.trod_string G h;cases r;cases q;have:(⟨s.data.toList.toArray⟩:ByteArray)=s:=(by cases s;simp);exact uY (by have:=VR.str (ρ:=ρ) (w:=w) s.data.toList;simpa using this)};{rename_i G;cases q;rcases DataW.trod_pointer G h with ⟨rfl,_⟩|⟨a,cs',y,n',_,_,r,_⟩;{exact uY .eI};cases r};{rename_i e d' G;rcases DataW.trod_pointer G h with ⟨_,r⟩|⟨a,cs',y,n',rfl,rfl,r,hc,hy⟩;{cases r};cases r;split at q;{rename_i c0 bi bT;cases q;have hv:=ih n' e y.1 cs' y.2 (c0::bi) hy bT;have⟨_,hl,I⟩:=World.cells?_some hc;have B:=hv.len;simp only[zr]at B;have h0:=I 0 om;rw[ze om]at h0;have⟨S,h2⟩:=HO h0;have ea:a.add 0=a:=rfl;rw[ea]at S h2;have⟨b,o,s⟩:=a;simp only at S;subst S;refine uY (.bj (c0::bi) b o (λj=>cs'.getD j undef) (hF b h2) (λj T=>?_) (λj T=>hv.get j T));simp only[zr]at T;have aR:=I j om;have ej:(⟨b,o,zb⟩:Addr).add j=⟨b,o+j,zb⟩:=(by unfold Addr.add;by_cases bA:j=0<;>simp[bA]);rw[ej]at aR;rw[aR,zc,ze om];rfl};cases q};{rename_i e G;cases q;rcases DataW.trod_slice G h with ⟨rfl,_⟩|⟨a,len,cap,Y,ak,n',_,_,r,_⟩;{exact uY .iZ};cases r};{rename_i e ch cb G;split at q;{cases q};rename_i cf;split at q;{rename_i es bI;cases q;rcases DataW.trod_slice G h with ⟨rfl,r⟩|⟨a,len,cap,Y,ak,n',rfl,rfl,r,_,ce,_,bP,I,_,_⟩;{cases r};cases r;have⟨g1,g2⟩:=kc1 _ _ bI;have B:es.length=len:=(by rw[g1,List.length_map,bP]);have ax:∀i,i<es.length->∃ci p,w.cells? base (a.add (i*P.cellsOf e)) (P.cellsOf e)=za ci/\(es.getD i []).length=P.cellsOf e/\VL ρ w (es.getD i []) ci/\p=():=(by intro i hi;have⟨g3,d',g4,g5⟩:=g2 i hi;have hc:=I i om;rw[qd]at g4;cases aZ:Y[i]? with|none=>rw[aZ]at g4;cases g4|some x=>rw[aZ]at g4 hc;cases g4;have⟨ci,W,r⟩:=Option.bind_eq_some_iff.1 hc;exact ⟨ci,(),W,g3,ih n' e x.1 ci x.2 _ r g5,rfl⟩);have be:es≠[]->FB ρ w a.block/\a.spot=zb:=(by intro bp;have h0:0<es.length:=List.length_pos_iff.2 bp;have⟨ci,_,W,g3,_,_⟩:=ax 0 h0;have⟨_,hl,av⟩:=World.cells?_some W;have X:=av 0 om;rw[ze om]at X;have ea:(a.add (0*P.cellsOf e)).add 0=a:=(by simp[Addr.add]);rw[ea]at X;have⟨S,h2⟩:=HO X;exact ⟨hF _ h2,S⟩);have M:∀i,i<es.length->∀j,j<P.cellsOf e->∃v,w.cell? ⟨a.block,a.off+(i*P.cellsOf e+j),zb⟩=za v/\VR ρ w ((es.getD i []).getD j .undef) v:=(by intro i hi j T;have⟨ci,_,W,g3,g4,_⟩:=ax i hi;have⟨_,hl,av⟩:=World.cells?_some W;have bb:=av j T;have aL:=(be (by intro h0;rw[h0]at hi;simp at hi)).2;have ea:(a.add (i*P.cellsOf e)).add j=⟨a.block,a.off+(i*P.cellsOf e+j),zb⟩:=(by have⟨b,o,s⟩:=a;simp only at aL;subst aL;unfold Addr.add;by_cases S:i*P.cellsOf e=0<;>by_cases h2:j=0<;>simp[S,h2,Nat.add_assoc]);rw[ea,ze om]at bb;refine ⟨_,bb,?_⟩;have:=g4.get j om;rw[zc (l:=ci),ze om]at this;exact this);refine uY ?_;have⟨b,o,s⟩:=a;rw[<- B];refine .a8 es b o cap (P.cellsOf e) s (λi j=>(w.cell? ⟨b,o+(i*P.cellsOf e+j),zb⟩).getD undef) be (λi hi=>(g2 i hi).1) (λi hi j T=>?_) (λi hi j T=>?_) om;{have⟨v,S,_⟩:=M i hi j T;simp only at S;rw[S];rfl};have⟨v,S,h2⟩:=M i hi j T;simp only at S;rw[S];exact h2};cases q};{rename_i fs ds G;split at q;{rename_i al ar;split at q;{rename_i an;cases q;obtain ⟨xs,n',rfl,r,B,am,ap⟩:=DataW.trod_struct G h;cases r;have hg:=Qj (P:=P) (rd:=λt cs d=>∃p,DataW.trod enc P w base sp held n' t cs=za (d,p)) (λt cs d J ⟨p,hp⟩ h=>ih n' t d cs p J hp h) cs _ _ 0 _ (by simp[am]) (λi f d hf q=>by rw[qd]at hf q;cases D:fs.toList[i]? with|none=>rw[D]at hf;cases hf|some f0=>rw[D]at hf;cases hf;have:=ap i f0 (by simpa using D);cases V:xs[i]? with|none=>rw[V]at q;cases q|some x=>rw[V]at q this;cases q;exact ⟨x.2,this⟩) ar;exact ⟨by rw[an,B],λi hi=>by have:=(hg i hi).2;rwa [zm]at this⟩};cases q};cases q};{rename_i k e ds G;split at q;{rename_i al ar;split at q;{rename_i an;cases q;obtain ⟨xs,n',rfl,r,B,am,ap⟩:=DataW.trod_array G h;cases r;have hg:=Qj (P:=P) (rd:=λt cs d=>∃p,DataW.trod enc P w base sp held n' t cs=za (d,p)) (λt cs d J ⟨p,hp⟩ h=>ih n' t d cs p J hp h) cs _ _ 0 _ (by simp[am]) (λi f d hf q=>by rw[qd]at hf q;cases D:(List.range k)[i]? with|none=>rw[D]at hf;cases hf|some f0=>rw[D]at hf;cases hf;obtain ⟨aV,rfl⟩:=List.getElem?_eq_some_iff.1 D;simp only[List.length_range]at aV;have:=ap i aV;simp only[List.getElem_range];cases V:xs[i]? with|none=>rw[V]at q;cases q|some x=>rw[V]at q this;cases q;exact ⟨x.2,this⟩) ar;exact ⟨by rw[an,B],λi hi=>by have:=(hg i hi).2;rwa [zm]at this⟩};cases q};cases q};{rename_i k e es G;split at q;{rename_i hk;split at q;{rename_i aY;cases q;simp only[zg]at aY;have⟨bE,aP⟩:=aY;rcases WideElems.open_map G h with ⟨_,r⟩|⟨b,A,ag,n',rfl,rfl,hb,_,F,r⟩;{cases r};simp only[Prod.mk.injEq,DataW.map.injEq]at r;have⟨r,_⟩:=r;have br:b<w.heap.size:=Nat.lt_of_not_le λbt=>(by rw[z0 bt]at hb;cases hb);let g:Lit×DataW H->IV×IV:=dvE (dv P m e);let L:=A.toList.map (WideElems.rg P k (WideElems.elemAt enc P w base sp held n' e));have hp:L.Perm es:=(by rw[r];exact (WideShapes.sorted_perm L).symm);have bo:(L.map g).Perm (es.map g):=hp.map g;have bv:wH (es.map g):=TD (by rw[List.map_map];exact aP);have bh:∀i,i<A.size->VR ρ w ((L.map g).getD i (.undef,.undef)).1 (A.getD i default).key/\VR ρ w ((L.map g).getD i (.undef,.undef)).2 (A.getD i default).val:=(by intro i hi;have Z:A.getD i default∈A.toList:=(by have:=fq (default:MapEntry) (l:=A.toList) (i:=i) (by simpa using hi);simpa [zc,zh] using this);have⟨y,hy⟩:=F.reads _ Z;have e1:(L.map g).getD i (.undef,.undef)=g y:=(by have:L[i]? = za y:=(by simp only[L,qd];rw[show A.toList[i]? = za (A.getD i default) by simp[zh,hi]];exact az za (WideElems.rg_of hy));simp[zc,this]);rw[e1];have bl:y∈L:=qj.2 ⟨_,Z,WideElems.rg_of hy⟩;have U:∃s,(g y).1=.str s:=UU aP _ (qj.2 ⟨y,hp.mem_iff.1 bl,rfl⟩);have ac:=WideElems.rd_key hy;have⟨z,hz,bk⟩:=WideElems.rd_val hy;simp only[g,dvE]at U ⊢;split at U;{rename_i bs v hl hv;refine ⟨?_,?_⟩;{rw[hl]at ac;rw[kc2 hk ac];exact .str _};generalize A.getD i default=me at hz ⊢;unfold WideElems.elemAt at hz;split at hz;{rename_i ad;have ay:=ih n' e z.1 _ z.2 [v] hz (by rw[<- bk];exact hv);have ca:=UV bE ad;rw[ca]at ay;exact ay.get 0 (by simp)};cases hz};have⟨_,U⟩:=U;cases U);have bm:(L.map g).length=A.size:=(by simp[L]);have⟨s1,s2,_⟩:=F.stamped;refine uY (.cH (es.map g) (L.map g) b A ag bo bv (hF b br) hb bm (λi hi=>(bh i om).1) (λi hi=>(bh i om).2) ?_ ?_);{intro i hi;refine s1 _ ?_;have:=fq (default:MapEntry) (l:=A.toList) (i:=i) (by simpa using hi);simpa [zc,zh] using this};intro i j bB T he;have:=(List.pairwise_iff_getElem.1 s2) i j (by simp;omega) (by simpa using T) bB;simp only[List.getElem_map,Array.getElem_toList]at this;apply this;have hi:i<A.size:=om;simpa [zh,hi,T] using he};cases q};cases q};cases q
def C8(l:List (Nat×List IV))(g:Nat):IV:=match l.lookup g with|some cs=>.bj cs|none=>.undef
def WV{laid:List (String×DataW Unit)}(J:∀b,b<w.heap.size->FB ρ w b):∀(laid:List (String×DataW Unit))(ps:List MemPlace),DataW.LaidVars P w laid ps->∀(name:String)(d:DataW Unit),(name,d)∈laid->∀(g:Nat)(t:TypeId)(m:Nat)(c:IV)(e:List IV),P.globalNamed name=za g->(P.globals[g]?).map (·.type)=za t->dv P m t d=za (c::e)->VR ρ w (.bj (c::e)) (.pointer (za ⟨g,0,zb⟩)):=by intro laid;induction laid with|nil=>intro ps _ name d f;cases f|cons x r ih=>intro ps h name d f g t m c e G F I;have⟨V,W⟩:=x;have⟨Y,X,cs,A,p,q,L,U,T,S,M,_⟩:=h;rcases zw.1 f with f|f;{cases f;obtain rfl:=za.inj (L.symm.trans G);obtain rfl:=za.inj (U.symm.trans F);have D:=Gx J m A _ d _ p _ S I;have hc:=λi=>World.var?_cell L T i;have o:=D.len;simp only[zr,Array.length_toList]at o;have h0:=hc 0;rw[qi om]at h0;refine .bj (c::e) _ 0 (λj=>cs.getD j undef) (J _ (HO h0).2) (λj B=>?_) (λj B=>?_);{simp only[zr]at B;rw[zm,hc j,qi om];simp[zh,show j<cs.size by omega]};have:=D.get j B;simpa [zc,zh] using this};exact ih _ M name d f g t m c e G F I
def qR:b8:=⟨λ_=>.no,λ_=>False⟩
def D9:∀b,b<w.heap.size->FB qR w b:=λb h=>⟨h,(λ_ _ h=>by cases h),λh=>h⟩
def RH:aW:=⟨0,λ_=>zb⟩
def Y9{laid:List (String×DataW Unit)}(h:laidMet P laid w)(l:List (Nat×List IV))(j:∀x∈l,∃(name:String) (d:DataW Unit) (t:TypeId) (m:Nat) (c:IV) (e:List IV),x.2=c::e/\(name,d)∈laid/\P.globalNamed name=za x.1/\(P.globals[x.1]?).map (·.type)=za t/\dv P m t d=za (c::e)): ∀g,VR qR w (C8 l g) (.pointer (za ⟨g,0,zb⟩)):=by intro g;unfold C8;cases f:l.lookup g with|none=>exact .undef _|some cs=>have⟨ps,i,_,_⟩:=h;have r:(g,cs)∈l:=(by clear j;induction l with|nil=>cases f|cons x l ih=>have⟨a,b⟩:=x;simp only[List.lookup]at f;split at f;{rename_i A;cases f;have:g=a:=(by simpa using A);rw[this];exact zo ..};exact zl _ (ih f));have⟨name,d,t,m,c,e,q,D,p,o,B⟩:=j _ r;simp only at q p o;rw[q];exact WV (laid:=laid) D9 laid ps i name d D g t m c e p o B
def lx8(h:∀g,VR qR w (E g) (.pointer (za ⟨g,0,zb⟩))):bY E qR w RH :=⟨(λ_ _ _ _ _ h=>by cases h),(λ_ _ _ h=>by cases h),(λ_ _ _ h=>by cases h),(λ_ h=>by cases h),(λ_ _=>rfl),(λ_ _=>rfl),h,(λ_ _ _ h=>by cases h),λ_ h=>h.elim⟩
def Za{f:FuncId}{args:List IV}{d:Array Value}{b:Bool}(h:PC P E f args (.bool b))(p:∀g,VR qR w (E g) (.pointer (za ⟨g,0,zb⟩)))(q:CR qR w args d): Calls P f d w λe w'=>e=.returned (.bool b)/\RowKit.Below w.heap.size w w':=by refine callsIn_wide.1 (CallsIn.mono (h RH qR w d (lx8 p) q) ?_);rintro e w' ⟨v,r,ρ',O',rfl,⟨rfl,rfl⟩,_,j,i⟩;cases j;exact ⟨rfl,i.os,i.tape,i.output,i.size,λk o=>i.bd k (D9 k o).ub⟩
def Sr{H:Type}{enc:TypeId×Value->H}{f:Func}{s:ChangeSpec}{o D i F:Bool}{W G:World}{args:Array Value}{v:Value}{ds L:List (DataW H)}{d pa pv:List MemPlace}(S:DataW.Whole enc P f.params.toList s.vars o W args.toList ds L d)(A:∀(b:Nat)(sp:Nat->Bool)(X:Bool),DataW.TrodAll enc P G b sp X f.resultTypes.toList (v.resultList f.resultTypes.size) (s.fn H (ds++L)).results [])(h:∀sp:Nat->Bool,(∀p∈d,sp p.block=true)->DataW.TrodAll enc P G 0 sp true f.params.toList args.toList (s.fn H (ds++L)).args pa)(e:∀sp:Nat->Bool,(∀p∈d,sp p.block=true)->DataW.TrodVars enc P G sp s.vars (s.fn H (ds++L)).vars pv)(q:d=pa++pv)(T:RowKit.Below W.heap.size W G)(M:∀(j:Nat)(t:TypeId)(r:Value),f.resultTypes[j]? = za t->(v.resultList f.resultTypes.size)[j]? = za r->Value.okWide P G .any 0 t r): s.post enc P f o D i F W args v G:=by have I:∀p∈d,p.block<W.heap.size:=λp g=>S.lt p g;have B:∀p∈d,(λb=>decide (b<W.heap.size)) p.block=true:=λp g=>(by simpa using I p g);refine ⟨ds,L,d,[],pa,pv,S,A _ _ _,h _ B,e _ B,World.keptBut_mono (λp g=>⟨g,?_⟩) (T.frame (·∈d)),λ_=>?_⟩;{rw[q,List.mem_append]at g;exact Or.inr g};have⟨_,_,_,_,_,U,V⟩:=S;refine ⟨M,_,_,([]++pa)++pv,⟨[]++pa,pv,ChangeShapes.trodAll_append (h _ (λ_ _=>rfl)) (A _ _ _),e _ (λ_ _=>rfl),rfl,?_,?_⟩,?_⟩;{intro b off g;have J:MemPlace.cell b off∈d:=(by rw[q];simpa using g);rw[T.frozen (I _ J)];exact U b off J};{intro Y;have:=V Y;rw[q]at this;simpa using this};intro p g _;rw[q];simpa using g
end Go.Id
namespace Go.Id
open Go
variable {P:Program} {E:Nat->IV}
def opsL:List (IV×IV):=[(.str [],.int .u8 0),(.str [60],.int .u8 1),(.str [60,61],.int .u8 3),(.str [61],.int .u8 2),(.str [62],.int .u8 4),(.str [62,61],.int .u8 6)]
def xr (op:Int):List UInt8:=if op=1 then [60] else if op=2 then [61] else if op=3 then [60,61] else if op=4 then [62] else if op=6 then [62,61] else []
def Qy(g:Nat):IC :=(.seq (.mK 0 [⟨(za 2),zb,(.q (.mJ (.c (.str []))))⟩] [0]) (.seq (.seq (.mK 1 [⟨(za 5),zb,(.q (.load zb (.g g)))⟩,⟨(za 6),zb,(.qF (.t 5))⟩] [0,6]) (.block 0 (.loop (.seq (.mK 2 [⟨(za 7),zb,(.rY (.t 6))⟩,⟨(za 8),zb,(.q (.ext 0 (.t 7)))⟩] [0,6,8]) (.seq (.cond (.t 8) .skip (.exit 0)) (.block 1 (.seq (.mK 3 [⟨(za 9),zb,(.sh (.t 6))⟩,⟨(za 10),zb,(.q (.ext 0 (.t 9)))⟩,⟨(za 11),zb,(.q (.ext 1 (.t 9)))⟩,⟨(za 3),zb,(.q (.mJ (.t 10)))⟩,⟨(za 4),zb,(.q (.mJ (.t 11)))⟩] [0,3,4,6]) (.seq (.mK 4 [⟨(za 12),zb,(.q (.mJ (.t 4)))⟩,⟨(za 13),zb,(.q (.mJ (.t 0)))⟩,⟨(za 14),zb,(.q (.bin .eql (.t 12) (.t 13)))⟩] [0,3,6,14]) (.cond (.t 14) (.seq (.mK 5 [⟨(za 15),zb,(.q (.mJ (.t 3)))⟩,⟨(za 2),zb,(.q (.mJ (.t 15)))⟩] [2]) .ret) .skip))))))))) (.seq (.mK 6 [⟨(za 2),zb,(.q (.mJ (.c (.str []))))⟩] [2]) .ret)))
def SS{f:Type}{d:f}{e:f}:∀ {l:List f}{j:Nat},e∈l->e∈l.eraseIdx j\/e=l.getD j d:=by intro l;induction l with|nil=>intro j h;cases h|cons x l ih=>intro j h;cases j with|zero=>rcases zw.1 h with rfl|h;{exact .inr rfl};exact .inl h|succ j=>rcases zw.1 h with rfl|h;{exact .inl (zo ..)};rcases ih (j:=j) h with h|h;{exact .inl (zl _ h)};exact .inr h
structure TxI (O0:aW) (n:Int) (id:Nat) (m:Nat) (fr:bz) (O:aW):Prop where
 f0:fr.get 0=.int .u8 n
 f6:fr.get 6=.ptr id 0
 aV:O0.aV<=O.aV
 low:∀i,i<O0.aV->O.aY i=O0.aY i
 lt:O0.aV<=id
 aY:∃left cur,O.aY id=za (.ie left cur)/\left.length=m/\(∀e∈left,e∈opsL)/\∀e∈opsL,e.2=.int .u8 n->e∈left
variable {n:Int}
def Zx{e:IV×IV}(h:e∈opsL)(d:e.2=.int .u8 n):e.1=.str (xr n):=by simp only[opsL,zw,List.not_mem_nil,aj]at h;rcases h with rfl|rfl|rfl|rfl|rfl|rfl<;>cases d<;>rfl
def Xd(h:∀e∈opsL,e.2≠.int .u8 n):xr n=[]:=by have j:=h (.str [60],.int .u8 1) (by simp[opsL]);have i:=h (.str [61],.int .u8 2) (by simp[opsL]);have g:=h (.str [60,61],.int .u8 3) (by simp[opsL]);have f:=h (.str [62],.int .u8 4) (by simp[opsL]);have d:=h (.str [62,61],.int .u8 6) (by simp[opsL]);simp only[ne_eq,IV.int.injEq,aA]at j i g f d;simp[xr,Ne.symm j,Ne.symm i,Ne.symm g,Ne.symm f,Ne.symm d]
def ke2{f g:Nat}{pf:List Nat}{an:oD}(hf:vE P f 16 pf an (Qy g) [.t 2])(U:E g=.bj [.cH opsL]):PC P E f [.int .u8 n] (.str (xr n)):=by
 refine lm3 bN hf (Nat.le_of_ble_eq_true rfl) λO Z=>?_;simp only[Qy,AN,AO,y6,yq,AP,y7,AQ,y8,B5,Dj,B3,B4,AR,y9,AS,zA,zB,yr,AT,w_q,zC,B6,B7,zD,B8,zF,yu,zE,AU,AW,AX,zG,yw,B9,AY,Ca,AZ,zH,zJ,A0,Cb,Cc,Cd,Ce,Cf,Cg,Ch,Ci,Cj,Ck,A1,Cl,A2,Cm,A3,zK,A4,A8,Cn,Dm,Dn,Co,Cp,Cr,Cs,Ct,Cu,Cv,Cw,Cx,Cy,A9,zL,yx,xZ,zM,yy,A5,A6,A7,zN,Dk,Dl,yd,yC,zZ,Aa,Ab,zY,Bl,e_t,e_c,e_g,e_f,Cz,Ba,CA,CB,CC,jk,CD,Bb,zO,CE,zP,CF,zQ,zR,CG,Bc,CH,Bd,CI,CJ,CK,CL,Be,Bf,xg,vF,vj,xc,zS,zT,Bg,Bh,zV,zW,Do,yz,Bi,Bj,Bk,yA,zX,yc,yB,yD,Ac,yE,yF,Bm,Bn,xh,xj,Ad,Ae,Af,Ag,Bo,Bp,Ah,yG,CM,CN,CO,CP,CQ,CU,CW,CX,CY,CZ,C1,vl,xk,wJ,Bq,Br,Bs,Bt,Bu,Bv,Bw,By,Bz,wK,vZ,Ai,Aj,Ak,BA,BC,BD,BE,C2,C3,BF,C4,Al,Am,An,C7,uV,vG,BM,Ao,Ap,yH,nM,oW,C5,xm,yI,C6,xo,yJ,yK,Aq,Ar,As,Au,yL,Aw,Ax,yM,ye,xP,yN,Ay,yO,BG,BH,BI,Az,yP,AA,AB,yQ,yf,xQ,yR,AC,yS,BJ,BK,BL,zi,zf,z5,qb,z1,zn,zx,z8,z9,bz.yp,bz.get_nil,bU,bq,aE,aD,zy,zq,zt,zp,z2,z6,z7,z3,z4,qf,qe,qg,zv,zm,zu,af,ae,↓reduceIte,reduceCtorEq,aA,and_true,U];refine Qf bN (TxI O n O.aV) opsL.length ⟨rfl,rfl,?_,?_,zz _,opsL,zb,?_,rfl,λ_ h=>h,λ_ h _=>h⟩ ?_;{show O.aV<=O.aV+1;omega};{intro i hi;simp only[bq];rw[aa om]};{simp only[bq,af]};rintro m fr s ⟨Y,X,J,I,h3,left,cur,W,h5,S,M⟩;have T:rP s (.ptr O.aV 0)=za (O.aV,left):=by simp only[rP,W]
 simp only[AN,AO,y6,yq,AP,y7,AQ,y8,B5,Dj,B3,B4,AR,y9,AS,zA,zB,yr,AT,w_q,zC,B6,B7,zD,B8,zF,yu,zE,AU,AW,AX,zG,yw,B9,AY,Ca,AZ,zH,zJ,A0,Cb,Cc,Cd,Ce,Cf,Cg,Ch,Ci,Cj,Ck,A1,Cl,A2,Cm,A3,zK,A4,A8,Cn,Dm,Dn,Co,Cp,Cr,Cs,Ct,Cu,Cv,Cw,Cx,Cy,A9,zL,yx,xZ,zM,yy,A5,A6,A7,zN,Dk,Dl,yd,yC,zZ,Aa,Ab,zY,Bl,e_t,e_c,e_g,e_f,Cz,Ba,CA,CB,CC,jk,CD,Bb,zO,CE,zP,CF,zQ,zR,CG,Bc,CH,Bd,CI,CJ,CK,CL,Be,Bf,xg,vF,vj,xc,zS,zT,Bg,Bh,zV,zW,Do,yz,Bi,Bj,Bk,yA,zX,yc,yB,yD,Ac,yE,yF,Bm,Bn,xh,xj,Ad,Ae,Af,Ag,Bo,Bp,Ah,yG,CM,CN,CO,CP,CQ,CU,CW,CX,CY,CZ,C1,vl,xk,wJ,Bq,Br,Bs,Bt,Bu,Bv,Bw,By,Bz,wK,vZ,Ai,Aj,Ak,BA,BC,BD,BE,C2,C3,BF,C4,Al,Am,An,C7,uV,vG,BM,Ao,Ap,yH,nM,oW,C5,xm,yI,C6,xo,yJ,yK,Aq,Ar,As,Au,yL,Aw,Ax,yM,ye,xP,yN,Ay,yO,BG,BH,BI,Az,yP,AA,AB,yQ,yf,xQ,yR,AC,yS,BJ,BK,BL,zi,zf,z5,qb,z1,zn,zx,z8,z9,bz.yp,bz.get_nil,bU,bq,aE,aD,zy,zq,zt,zp,z2,z6,z7,z3,z4,qf,qe,qg,zv,zm,zu,af,ae,↓reduceIte,reduceCtorEq,aA,and_true,Y,X,T];constructor;{intro h0;subst h0;have D:∀e∈opsL,e.2≠.int .u8 n:=λe B A=>(by have:=M e B A;cases this);refine ⟨λi hi=>I i hi,J,?_⟩;rw[Xd D];exact .bd _ (.str _)};intro j L;have p:left.getD j (.undef,.undef)∈left:=fq _ L;have o:=S _ p;have q:∀c x,qJ ⟨x,(s.put O.aV (.ie (left.eraseIdx j) (za c))).aY⟩ (.ptr O.aV 0)=za (.tuple [c.1,c.2]):=λc x=>by simp only[qJ,bq,af]
 generalize hc:left.getD j (.undef,.undef)=c at p o ⊢;obtain ⟨k,F⟩:∃k,c.2=.int .u8 k:=by simp only[opsL,zw,List.not_mem_nil,aj]at o;rcases o with rfl|rfl|rfl|rfl|rfl|rfl<;>exact ⟨_,rfl⟩
 simp only[q,AN,AO,y6,yq,AP,y7,AQ,y8,B5,Dj,B3,B4,AR,y9,AS,zA,zB,yr,AT,w_q,zC,B6,B7,zD,B8,zF,yu,zE,AU,AW,AX,zG,yw,B9,AY,Ca,AZ,zH,zJ,A0,Cb,Cc,Cd,Ce,Cf,Cg,Ch,Ci,Cj,Ck,A1,Cl,A2,Cm,A3,zK,A4,A8,Cn,Dm,Dn,Co,Cp,Cr,Cs,Ct,Cu,Cv,Cw,Cx,Cy,A9,zL,yx,xZ,zM,yy,A5,A6,A7,zN,Dk,Dl,yd,yC,zZ,Aa,Ab,zY,Bl,e_t,e_c,e_g,e_f,Cz,Ba,CA,CB,CC,jk,CD,Bb,zO,CE,zP,CF,zQ,zR,CG,Bc,CH,Bd,CI,CJ,CK,CL,Be,Bf,xg,vF,vj,xc,zS,zT,Bg,Bh,zV,zW,Do,yz,Bi,Bj,Bk,yA,zX,yc,yB,yD,Ac,yE,yF,Bm,Bn,xh,xj,Ad,Ae,Af,Ag,Bo,Bp,Ah,yG,CM,CN,CO,CP,CQ,CU,CW,CX,CY,CZ,C1,vl,xk,wJ,Bq,Br,Bs,Bt,Bu,Bv,Bw,By,Bz,wK,vZ,Ai,Aj,Ak,BA,BC,BD,BE,C2,C3,BF,C4,Al,Am,An,C7,uV,vG,BM,Ao,Ap,yH,nM,oW,C5,xm,yI,C6,xo,yJ,yK,Aq,Ar,As,Au,yL,Aw,Ax,yM,ye,xP,yN,Ay,yO,BG,BH,BI,Az,yP,AA,AB,yQ,yf,xQ,yR,AC,yS,BJ,BK,BL,zi,zf,z5,qb,z1,zn,zx,z8,z9,bz.yp,bz.get_nil,bU,bq,aE,aD,zy,zq,zt,zp,z2,z6,z7,z3,z4,qf,qe,qg,zv,zm,zu,af,ae,↓reduceIte,reduceCtorEq,aA,and_true,F];by_cases r:k=n;{subst r;simp only[AN,AO,y6,yq,AP,y7,AQ,y8,B5,Dj,B3,B4,AR,y9,AS,zA,zB,yr,AT,w_q,zC,B6,B7,zD,B8,zF,yu,zE,AU,AW,AX,zG,yw,B9,AY,Ca,AZ,zH,zJ,A0,Cb,Cc,Cd,Ce,Cf,Cg,Ch,Ci,Cj,Ck,A1,Cl,A2,Cm,A3,zK,A4,A8,Cn,Dm,Dn,Co,Cp,Cr,Cs,Ct,Cu,Cv,Cw,Cx,Cy,A9,zL,yx,xZ,zM,yy,A5,A6,A7,zN,Dk,Dl,yd,yC,zZ,Aa,Ab,zY,Bl,e_t,e_c,e_g,e_f,Cz,Ba,CA,CB,CC,jk,CD,Bb,zO,CE,zP,CF,zQ,zR,CG,Bc,CH,Bd,CI,CJ,CK,CL,Be,Bf,xg,vF,vj,xc,zS,zT,Bg,Bh,zV,zW,Do,yz,Bi,Bj,Bk,yA,zX,yc,yB,yD,Ac,yE,yF,Bm,Bn,xh,xj,Ad,Ae,Af,Ag,Bo,Bp,Ah,yG,CM,CN,CO,CP,CQ,CU,CW,CX,CY,CZ,C1,vl,xk,wJ,Bq,Br,Bs,Bt,Bu,Bv,Bw,By,Bz,wK,vZ,Ai,Aj,Ak,BA,BC,BD,BE,C2,C3,BF,C4,Al,Am,An,C7,uV,vG,BM,Ao,Ap,yH,nM,oW,C5,xm,yI,C6,xo,yJ,yK,Aq,Ar,As,Au,yL,Aw,Ax,yM,ye,xP,yN,Ay,yO,BG,BH,BI,Az,yP,AA,AB,yQ,yf,xQ,yR,AC,yS,BJ,BK,BL,zi,zf,z5,qb,z1,zn,zx,z8,z9,bz.yp,bz.get_nil,bU,bq,aE,aD,zy,zq,zt,zp,z2,z6,z7,z3,z4,qf,qe,qg,zv,zm,zu,af,ae,↓reduceIte,reduceCtorEq,aA,and_true];refine ⟨λi hi=>by rw[aa om];exact I i hi,J,?_⟩;rw[Zx o F];exact .bd _ (.str _)};simp only[AN,AO,y6,yq,AP,y7,AQ,y8,B5,Dj,B3,B4,AR,y9,AS,zA,zB,yr,AT,w_q,zC,B6,B7,zD,B8,zF,yu,zE,AU,AW,AX,zG,yw,B9,AY,Ca,AZ,zH,zJ,A0,Cb,Cc,Cd,Ce,Cf,Cg,Ch,Ci,Cj,Ck,A1,Cl,A2,Cm,A3,zK,A4,A8,Cn,Dm,Dn,Co,Cp,Cr,Cs,Ct,Cu,Cv,Cw,Cx,Cy,A9,zL,yx,xZ,zM,yy,A5,A6,A7,zN,Dk,Dl,yd,yC,zZ,Aa,Ab,zY,Bl,e_t,e_c,e_g,e_f,Cz,Ba,CA,CB,CC,jk,CD,Bb,zO,CE,zP,CF,zQ,zR,CG,Bc,CH,Bd,CI,CJ,CK,CL,Be,Bf,xg,vF,vj,xc,zS,zT,Bg,Bh,zV,zW,Do,yz,Bi,Bj,Bk,yA,zX,yc,yB,yD,Ac,yE,yF,Bm,Bn,xh,xj,Ad,Ae,Af,Ag,Bo,Bp,Ah,yG,CM,CN,CO,CP,CQ,CU,CW,CX,CY,CZ,C1,vl,xk,wJ,Bq,Br,Bs,Bt,Bu,Bv,Bw,By,Bz,wK,vZ,Ai,Aj,Ak,BA,BC,BD,BE,C2,C3,BF,C4,Al,Am,An,C7,uV,vG,BM,Ao,Ap,yH,nM,oW,C5,xm,yI,C6,xo,yJ,yK,Aq,Ar,As,Au,yL,Aw,Ax,yM,ye,xP,yN,Ay,yO,BG,BH,BI,Az,yP,AA,AB,yQ,yf,xQ,yR,AC,yS,BJ,BK,BL,zi,zf,z5,qb,z1,zn,zx,z8,z9,bz.yp,bz.get_nil,bU,bq,aE,aD,zy,zq,zt,zp,z2,z6,z7,z3,z4,qf,qe,qg,zv,zm,zu,af,ae,↓reduceIte,reduceCtorEq,aA,and_true,r];refine ⟨left.length-1,om,rfl,rfl,J,λi hi=>?_,zz _,left.eraseIdx j,za c,?_,?_,λe B=>S e (List.mem_of_mem_eraseIdx B),λe B A=>?_⟩;{simp only[bq];rw[aa om];exact I i hi};{simp only[bq,af]};{rw[List.length_eraseIdx_of_lt L]};have V:=M e B A;rcases SS (d:=(IV.undef,IV.undef)) (j:=j) V with G|G;{exact G};rw[G]at A;rw[hc,F]at A;cases A;exact aw rfl r
end Go.Id
namespace Go.Id
open Go
variable {P:Program} {E:Nat->IV} {O O':aW} {N n0:Nat} {fr:bz}
def upQ(I:Nat->bz->aW->Prop)(i n:Nat)(Q:Exit->bz->aW->Prop):Exit->bz->aW->Prop|.normal,fr,O=>i+1<=n/\I (i+1) fr O|e,fr,O=>Q e fr O
variable {I:Nat->bz->aW->Prop}{n i:Nat}{Q:Exit->bz->aW->Prop}
def lt6:upQ I n i Q .normal fr O=(n+1<=i/\I (n+1) fr O):=nr rfl
def lt8{k:Nat}:upQ I n i Q (.exit k) fr O=Q (.exit k) fr O:=nr rfl
def lt9:upQ I n i Q .ret fr O=Q .ret fr O:=nr rfl
def bR{pt:PT}{ct:CT}(g:TOK P E pt ct){x:IC}(I:Nat->bz->aW->Prop)(n:Nat)(h:I 0 fr O)(j:∀i fr O,i<=n->I i fr O->fI pt ct P E N n0 x fr O (upQ I i n Q)):RI P E N n0 (.loop x) fr O Q:=by refine OW (λm fr O=>∃i,i<=n/\m=n-i/\I i fr O) n ⟨0,Nat.zero_le _,rfl,h⟩ ?_;rintro m fr O ⟨i,hi,rfl,d⟩;refine DS x fr O _ _ ?_ (xY g x fr O _ (j i fr O hi d));intro e f s q;cases e with|normal=>exact ⟨n-(i+1),by have:=q.1;omega,i+1,q.1,rfl,q.2⟩|_=>exact q
def tR{d:Type}(es:List d)(i:Nat)(h:i<es.length):∃a,a∈es/\es[i]? = za a/\es.drop i=a::es.drop (i+1)/\(∀(f:d->List IV),(es.map f).getD i []=f a)/\es.take (i+1)=es.take i++[a]:=⟨es[i],List.getElem_mem h,ze h,List.drop_eq_getElem_cons h,λf=>by simp[zc,h],by rw[List.take_add_one,ze h];rfl⟩
def O3(s:List UInt8)(i:Nat)(h:i<s.length):((⟨s.toArray⟩:ByteArray).get! i)=s[i]:=by show (s.toArray)[i]! = s[i];simp[h]
def UL(s:List UInt8)(i:Nat)(h:i<s.length)(d:s[i].toNat<128):Utf8.decode ⟨s.toArray⟩ i=(s[i].toNat,1):=by unfold Utf8.decode;simp only[zv,O3 s i h];rw[ab d]
def decode_high(s:List UInt8)(i:Nat)(h:i<s.length)(d:¬s[i].toNat<128):128<=(Utf8.decode ⟨s.toArray⟩ i).1:=by unfold Utf8.decode;simp only[zv,O3 s i h];rw[aa d];have e:Utf8.runeError=65533:=rfl;(repeat' split);all_goals first|(rw[e];omega)|(simp only[ge_iff_le,zg,ah]at *;omega)
def Ha(P:Program)(E:Nat->IV)(id:Nat)(I:List (List IV)->aW->Prop)(S:aW->Prop):Prop :=∀a rest O,I (a::rest) O->CV P E (.yield id) a O λv s=>O.aV<=s.aV/\((v=.bool true/\I rest s)\/(v=.bool false/\S s))
end Go.Id
namespace Go.Id
open Go
attribute [go_sem] AN AO y6 yq AP y7 AQ y8 B5 Dj B3 B4 AR y9 AS zA zB yr AT w_q zC
 B6 B7 zD B8 zF yu zE AU AW AX zG Y6 yw B9 AY Ca AZ zH zJ A0 Cb
 Cc Cd Ce Cf Cg Ch Ci Cj Ck A1 Cl A2 Cm A3 zK A4 A8 Cn Dm Dn Co Cp Cr Cs
 Ct Cu Cv Cw Cx Cy A9 zL yx xZ zM yy A5 A6 A7 zN Dk Dl yd yC
 zZ Aa Ab zY Bl e_t e_c e_g e_f Cz Ba CA CB CC jk CD Bb zO CE zP CF zQ
 zR CG Bc CH Bd CI CJ CK CL Be Bf xg vF vj xc zS zT Bg Bh zV zW Do
 yz Bi Bj Bk yA zX yc yB yD Ac yE WS yF Bm Bn xh xj Ad Ae
 Af Ag Bo Bp Ah yG CM CN CO CP CQ CU CW CX CY CZ C1 vl xk wJ Bq Br
 Bs Bt Bu Bv Bw By Bz ku5 ku6 ku7 ku8 wK vZ Ai Aj Ak BA BC BD BE C2 C3 BF C4
 Al Am An C7 uV vG BM Ao Ap yH nM oW C5 xm yI C6 xo yJ yK Aq
 Ar As Au yL Aw Ax yM ye xP yN Ay yO BG BH BI Az yP
 AA AB yQ yf xQ yR AC yS BJ BK BL bz.yp bz.get_nil bU bq lt6 lt8
 lt9 xg vF vj xc lm1 ku4 
attribute [go_sem] zi zf z5 qb z1 zn zx z8 z9 zy zq zt zp z2 z6 z7 z3 zv zm zu if_true if_false true_and and_true
variable {P:Program} {E:Nat->IV} {O O':aW} {N n0:Nat} {fr:bz} {pf:List Nat}
variable {n:Nat}{g:IC}{b:List IR}{z:List IV}
def dM{v:IV}(hf:FOK P n (N,g,b))(i:z.length<=N)(h:∀O,fI noP rj P E N O.aV g (lN z 0) O (sj b λf O'=>f=v/\O'=O)):PC P E n z v:=by have⟨_,pf,an,j⟩:=hf;exact lw6 bN j i h
variable {K:IV->aW->Prop}
def dn(hf:FOK P n (N,g,b))(i:z.length<=N)(h:fI noP rj P E N O.aV g (lN z 0) O (sj b K)):C P E n z O K:=by have⟨_,pf,an,j⟩:=hf;exact C_T bN j i h
def emp:aW:=⟨0,λ_=>zb⟩
def YQ:emp.aV=0:=nr rfl
def jy8:emp.aY n=zb:=nr rfl
attribute [go_sem] YQ jy8
def bF{v:IV}(hE:∀f,bZ 0 (E f))(hf:FOK P n (N,g,b))(j:z.length<=N)(o:∀a∈z,bZ 0 a)(h:fI noP rj P E N 0 g (lN z 0) emp (sj b λi O'=>gM O' 0 i v)):PC P E n z v :=NG hE o (dn (O:=emp) hf j h)
def bf{e:FE}{v:IV}(hf:FOK P n e)(h:PC P E n z v)(d:K v O):rZ P E zb n z O K :=kU hf.1 (nS h) λ_ _ ⟨i,g⟩=>by subst i;subst g;exact ⟨zz _,d⟩
def cc{e:FE}{f:IV->aW->Prop}(hf:FOK P n e)(h:C P E n z O K)(g:∀v s,K v s->O.aV<=s.aV/\f v s):rZ P E zb n z O f :=kU hf.1 h g
variable {S:Nat->Prop}
def cU(b:Bool):dz O S (.bool b) (.bool b):=.bd _ (.bool _)
def eg(k:IntKind)(n:Int):dz O S (.int k n) (.int k n):=.bd _ (.int _ _)
def tN(s:List UInt8):dz O S (.str s) (.str s):=.bd _ (.str _)
def P8{ρ:b8}{w:World}{v:IV}{d:Array Value}(h:CR ρ w [v] d):VR ρ w v (d.getD 0 undef):=by have:=h.2 0 (Nat.zero_lt_one);simpa using this
variable {c:IV}
def GN{ρ:b8}{w:World}{v:IV}{d:Array Value}(h:CR ρ w [c] d)(e:VR ρ w v (d.getD 0 undef)):CR ρ w [v] d :=⟨h.1,λi hi=>by have:i=0:=(by simp at hi;omega);subst this;simpa using e⟩
def DD{v:IV}(j:PC P E n [.bA] v)(i:PC P E n [.ez] v):PC P E n [.a8 []] v:=by intro O ρ w d hs g;have e:=P8 g;generalize h:d.getD 0 undef=r at e;cases e with|iZ=>exact j O ρ w d hs (GN g (by rw[h];exact .bA))|a8 es b o cap esz sp vs hf hsz hc e hle=>exact i O ρ w d hs (GN g (by rw[h];exact .ez _ _))
def cR{i:Nat}(h:i<2^62):IntKind.i64.wrap ((i:Int)+1)=((i+1:Nat):Int):=by rw[wrap64 om om];omega
def cG{g:Type}(es:List g)(i:Nat)(h:i<es.length)(j:i<2^62:=by omega):∃a,a∈es/\es[i]? = za a/\es.drop i=a::es.drop (i+1)/\(∀(f:g->List IV),(es.map f).getD i []=f a)/\es.take (i+1)=es.take i++[a]/\IntKind.i64.wrap ((i:Int)+1)=((i+1:Nat):Int):=by have⟨a,b,c,d,e,f⟩:=tR es i h;exact ⟨a,b,c,d,e,f,cR j⟩
attribute [go_sem] Int.natCast_nonneg Int.ofNat_lt Int.lt_irrefl Nat.lt_irrefl
def jy9 {cs:List IV}:ig cs []=za cs:=by simp only[ig]
variable {f:Nat}
def jz2{cs:List IV}{v:IV}{ps:List (Nat×Nat×IV)}:ig cs ((n,f,v)::ps)=if v.cs.length=f/\n+f<=cs.length/\v.cs.all IV.bn=true then ig (dQ cs n v.cs) ps else zb:=by simp only[ig]
def kq8{cs:List IV}:dQ (c::cs) 0 z=z++(c::cs).drop z.length:=by simp[dQ]
def kq9{cs:List IV}:dQ (c::cs) (n+1) z=c::dQ cs n z:=by simp[dQ,Nat.add_right_comm]
variable {d:TypeId}
def kr3{e:List (List IV)}:iY (.slice d) (.a8 (z::e))=za false:=nr rfl
def kr4:iY (.slice d) .bA=za true:=nr rfl
def kr5:iY (.slice d) .ez=za false:=nr rfl
def kr6:iY (.slice d) .dq=za false:=nr rfl
def kr7{l e:Nat}:iY (.slice d) (.slice n f l e)=za false:=nr rfl
def cQ:iY (.pointer d) .eI=za true:=nr rfl
def jz3{cs:List IV}:iY (.pointer d) (.bj cs)=za false:=nr rfl
def jz4:iY (.pointer d) (.ptr n f)=za false:=nr rfl
def YS{l:List IV}:chunk n 0 l=[]:=nr rfl
def YT{l:List IV}:chunk n (f+1) l=l.take n::chunk n f (l.drop n):=nr rfl
def kr8:rep z 0=[]:=nr rfl
def kr9:rep z (n+1)=z++rep z n:=nr rfl
def jz5{cs:List IV}:lh zb n cs=cs[n]?:=nr rfl
def jz6{cs:List IV}:lh (za f) n cs=if n+f<=cs.length then za (.agg ((cs.drop n).take f)) else zb:=nr rfl
def ks1{d:Option Nat}{cs:List IV}:Db d n (.agg cs)=lh d n cs:=nr rfl
variable {k:IntKind}{i:Int}
def ks2{d:Option Nat}{cs:List IV}:xy d n f (.agg cs) (.int k i)=if 0<=i/\i<n then lh d (i.toNat*f) cs else zb:=nr rfl
def YU{v:IV}:AI n f v (.int k i)=if 0<=i/\i<n then pJ (i.toNat*f) v else zb:=nr rfl
variable {a:List UInt8}
def rI:tW (.str a) (.int k i)=if 0<=i then (a[i.toNat]?).map λb=>.int .u8 b.toNat else zb:=nr rfl
variable {e:Bool}
def P9{d:List Nat}{a:List IV}:uv d true e (.agg z) (.agg a)=(allEq d z a).map λb=>.bool (b ^^ e):=nr rfl
def Qa:allEq [] [] []=za true:=nr rfl
def KM:Option Bool->Option Bool->Option Bool|some a,za b=>za (a&&b)|_,_=>zb
def ks3{b:Bool}:KM (za e) (za b)=za (e&&b):=nr rfl
def Qb{ts:List Nat}{y:IV}{d:List IV}:allEq (n::ts) (c::z) (y::d)=KM (gh n c y) (allEq ts z d):=by simp only[allEq];cases gh n c y<;>cases allEq ts z d<;>rfl
def ks4{b:Int}:gh 1 (.int k i) (.int k b)=za (decide (i=b)):=by simp[gh]
def ks5{b:List UInt8}:gh 2 (.str a) (.str b)=za (decide (a=b)):=nr rfl
def AM{b:List UInt8}:fE 2 (.str a) (.str b)=za (decide (a=b)):=nr rfl
def ks6{b:Bool}:gh 0 (.bool e) (.bool b)=za (e==b):=nr rfl
attribute [go_sem] P9 Qa Qb ks3 ks6 ks4 ks5
attribute [go_sem] jy9 jz2 kq8 kq9 kr3 kr4 kr5 kr6 kr7 cQ jz3 jz4 YS YT kr8 kr9 jz5 jz6 ks1 ks2 YU rI
attribute [go_sem] Bool.true_or Bool.or_true Bool.false_or Bool.or_false Bool.true_and Bool.false_and Bool.and_false
attribute [go_sem] zr List.length_nil List.take_succ_cons List.take_zero List.length_map Int.toNat_natCast
end Go.Id
namespace Go.Id
open Go
variable {P:Program} {E:Nat->IV} {O O':aW} {N n0:Nat} {fr:bz}
def HD (I:List (List IV)->aW->Prop):Prop:=∀rest s s',I rest s->s.aV<=s'.aV->(∀i,i<s.aV->s'.aY i=s.aY i)->I rest s'
def Q5 (n:Nat)(I:List (List IV)->aW->Prop)(S:aW->Prop):IV->aW->Prop:=λ_ s=>n<=s.aV/\(I [] s\/S s)
def GO(P:Program)(E:Nat->IV)(fv:IV)(nj:List (List IV))(own:aW->Prop):Prop :=∀(yid:Nat)(I:List (List IV)->aW->Prop)(S:aW->Prop)(O:aW),(∀rest s,I rest s->own s)->HD I->Ha P E yid I S->I nj O->CVf P E fv [.yield yid] O (Q5 O.aV I S)
def RA(P:Program)(E:Nat->IV)(N n0:Nat)(id:Nat)(L:LoopState->Option JX->cx)(x:IC)(K:IV->aW->Prop):Exit->bz->aW->Prop|.normal,f,s=>s.aY id=za (L .ready zb)/\fI noP rj P E N n0 x f (s.put id (L .busy zb)) (AL id L K)|_,_,_=>False
variable {i:Nat}{L:LoopState->Option JX->cx}{K:IV->aW->Prop}
def lh8{x:IC}:RA P E N n0 i L x K .normal fr O=(O.aY i=za (L .ready zb)/\fI noP rj P E N n0 x fr (O.put i (L .busy zb)) (AL i L K)):=nr rfl
def lh9:AL i L K .normal fr O=(O.aY i=za (L .busy zb)/\K (.bool true) (O.put i (L .ready zb))):=nr rfl
def li1:AL i L K .ret fr O=(O.aY i=za (L .busy zb)/\K (.bool false) (O.put i (L .done (za .ret)))):=nr rfl
variable {p:Nat}
def li2:AL i L K (.exit p) fr O=(O.aY i=za (L .busy zb)/\K (.bool false) (O.put i (L .done (za (.exit p))))):=nr rfl
def jz7:tZ fr [] []=fr:=nr rfl
def jz8{ps:List Nat}{v:IV}{vs:List IV}:tZ fr (i::ps) (v::vs)=tZ (fr.set i v) ps vs:=nr rfl
def li3{v:IV}:fr.set i v=(i,v)::fr:=nr rfl
def goQ(id n:Nat)(L:LoopState->Option JX->cx)(J:List (List IV)->aW->Prop)(Q:Exit->bz->aW->Prop)(fr:bz)(rest:List (List IV)):IV->aW->Prop:=λv s=>n<=s.aV/\((v=.bool true/\s.aY id=za (L .ready zb)/\J rest s)\/(v=.bool false/\∃st pend,st≠.busy/\s.aY id=za (L st pend)/\Kl Q fr (s.kill id) pend))
variable {J:List (List IV)->aW->Prop}{Q:Exit->bz->aW->Prop}{d:List (List IV)}
def tY(g:p<=O.aV)(f:O.aY i=za (L .ready zb))(e:J d O):goQ i p L J Q fr d (.bool true) O:=⟨g,.inl ⟨rfl,f,e⟩⟩
def rW(g:p<=O.aV)(f:O.aY i=za (L .done (za .ret)))(e:Q .ret fr (O.kill i)):goQ i p L J Q fr d (.bool false) O:=⟨g,.inr ⟨rfl,.done,za .ret,(λh=>by cases h),f,e⟩⟩
def D8{g:IX}{ps:List Nat}{y x:IC}{nj:List (List IV)}{own:aW->Prop}(hT:GO P E (g.ev E fr) nj own)(J:List (List IV)->aW->Prop)(T:∀d s,J d s->own s)(B:HD J)(U:∀a∈nj,a.length=ps.length)(D:∀o,J nj ⟨O.aV+1,(O.put O.aV o).aY⟩)(F:∀(L:LoopState->Option JX->cx)(j:List (List IV))(a:List IV)(d:List (List IV))(s:aW),nj=j++a::d->J (a::d) s->s.aY O.aV=za (L .ready zb)->O.aV<s.aV -> fI noP rj P E N s.aV y (tZ fr ps a) s (RA P E N s.aV O.aV L x (goQ O.aV s.aV L J Q fr d)))(V:∀s o,J [] s->O.aV<s.aV->s.aY O.aV=za o->Q .normal fr (s.kill O.aV)): RI P E N n0 (.oq g ps y x) fr O Q:=by refine YG λL hL=>?_;let I:List (List IV)->aW->Prop:=λd s=>(∃j,nj=j++d)/\s.aY O.aV=za (L .ready zb)/\O.aV<s.aV/\J d s;let S:aW->Prop:=λs=>∃st r,st≠.busy/\s.aY O.aV=za (L st r)/\Kl Q fr (s.kill O.aV) r;have hI:HD I:=(by rintro d s s' ⟨M,X,W,h3⟩ p hs;exact ⟨M,by rw[hs _ W];exact X,zk W p,B d s s' h3 p hs⟩);have Y:Ha P E O.aV I S:=(by rintro a d s ⟨⟨j,M⟩,X,W,h3⟩;refine ⟨by rw[X];rfl,?_⟩;have hb:=F L j a d s M h3 X W;refine hL s a _ (U a (by rw[M];simp)) X ?_;refine (DB y _ _ _ (DS y _ _ _ _ ?_ (xY bN y _ _ _ hb)));intro e f s1 q;cases e with|normal=>(refine ⟨rfl,q.1,?_⟩;refine (DB x _ _ _ (DS x _ _ _ _ ?_ (xY bN x _ _ _ q.2)));have Z:∀v G,goQ O.aV s.aV L J Q fr d v G->s.aV<=G.aV/\((v=.bool true/\I d G)\/(v=.bool false/\S G)):=(by rintro v G ⟨p,h|h⟩;{exact ⟨p,.inl ⟨h.1,⟨j++[a],by rw[M];simp⟩,h.2.1,zk W p,h.2.2⟩⟩};exact ⟨p,.inr ⟨h.1,h.2⟩⟩);intro e f G A;cases e with|normal=>exact ⟨A.1,Z _ _ A.2⟩|ret=>exact ⟨A.1,Z _ _ A.2⟩|exit i=>exact ⟨A.1,Z _ _ A.2⟩|_=>exact A)|_=>exact q.elim);have h:=hT O.aV I S ⟨O.aV+1,(O.put O.aV (L .ready zb)).aY⟩ (λd s h=>T d s h.2.2.2) hI Y ⟨⟨[],rfl⟩,by simp only[bq,af],Nat.lt_succ_self _,D _⟩;refine h.mono ?_;rintro v s ⟨p,h|h⟩;{exact ⟨Nat.le_of_lt p,.ready,zb,(λh=>by cases h),h.2.1,V s _ h.2.2.2 h.2.2.1 h.2.1⟩};exact ⟨Nat.le_of_lt p,h⟩
def qK{S:aW->Prop}{a:List IV}(h:Ha P E i J S)(hi:J (a::d) O)(e:∀s,O.aV<=s.aV->J d s->K (.bool true) s)(g:∀s,O.aV<=s.aV->S s->K (.bool false) s):J3 rj P E (.yield i) a O K:=by refine ⟨_,h a d O hi,?_⟩;rintro v s ⟨f,⟨rfl,h⟩|⟨rfl,h⟩⟩;{exact ⟨f,e s f h⟩};exact ⟨f,g s f h⟩
def WC:(O.kill i).aV=O.aV:=nr rfl
def YV:(O.kill i).aY p=if p=i then zb else O.aY p:=nr rfl
attribute [go_sem] WC YV
attribute [go_sem] lh8 lh9 li1 li2 jz7 jz8 li3
end Go.Id
namespace Go.Id
open Go
variable {P:Program} {E:Nat->IV} {O O':aW} {N n0:Nat} {fr:bz}
def KO(O:aW):IV->Prop|.bj _=>True|.ptr i _=>(match O.aY i with|some (.cells _)=>True|_=>False)|_=>False
def RB:Option cx->Prop|some (.cells _)=>True|_=>False
variable {x:IX}
def ks8{d:Option Nat}:gV E fr O (.q (.load d x))=KO O (x.ev E fr):=nr rfl
def b_t {cs:List IV}:KO O (.bj cs)=True:=nr rfl
variable {n e:Nat}
def b_p:KO O (.ptr n e)=RB (O.aY n):=nr rfl
def b_o {cs:List IV}:RB (za (.cells cs))=True:=nr rfl
def li5:gV E fr O (.q (.mJ x))=True:=nr rfl
def jz9:gV E fr O (.q (.wV n x))=True:=nr rfl
def ks9:gV E fr O (.q (.Dg x))=True:=nr rfl
def li6:gV E fr O (.q (.len n x))=True:=nr rfl
variable {y:IX}
def li7{z:IV}{b:Bool}:gV E fr O (.q (.pY n z b x y))=True:=nr rfl
variable {z:List IV}{b:List (Nat×Nat×IX)}
def li8:gV E fr O (.q (.bld z b))=True:=nr rfl
def li9{op:BinOp}:gV E fr O (.q (.bin op x y))=True:=nr rfl
def ka1:gV E fr O (.q (.wW n x y))=True:=nr rfl
def kt1{k:IntKind}:gV E fr O (.q (.conv k x))=True:=nr rfl
def lj1:gV E fr O (.q (.ext n x))=True:=nr rfl
def kt2{z:IX}:gV E fr O (.q (.pick x y z))=True:=nr rfl
def lj3:gV E fr O (.q (.not x))=True:=nr rfl
def ka2{xs:List IX}:gV E fr O (.mr n xs)=True:=nr rfl
def kt3:gV E fr O (.lS n e z b)=True:=nr rfl
def lj4:gV E fr O (.mo n e z b)=True:=nr rfl
def lj5:gV E fr O (.app n x y)=True:=nr rfl
def ka3:gV E fr O (.store n x y)=True:=nr rfl
def kt4{z:IX}:gV E fr O (.qP n x y z)=True:=nr rfl
def ka4:gV E fr O (.alloc z)=True:=nr rfl
def YW{xs:List IX}:gV E fr O (.mg x xs)=True:=nr rfl
attribute [go_sem] YW ks8 b_t b_p b_o li5 jz9 ks9 li6 li7 li8 li9 ka1 kt1 lj1 kt2 lj3 ka2 kt3 lj4 lj5 ka3 kt4 ka4
def Grow(O:aW)(v:IV)(esz:Nat)(es:List (List IV)):Prop :=(v=.bA/\es=[])\/∃id,v=.slice id 0 es.length esz/\O.aY id=za (.row es.flatten)/\id<O.aV
def cL(v:IV)(O:aW):aW:=match v with|.slice id _ _ _=>O.kill id|_=>O
variable {a:List (List IV)}
def tC(h:∀e∈a,e.length=n):a.flatten.length=a.length*n:=by induction a with|nil=>simp|cons e a ih=>simp[ih (λx d=>h x (zl _ d)),h e (zo ..),qh];omega
def WE(h:∀e∈a,e.length=n)(i j:Nat)(hi:i<a.length)(g:j<n):a.flatten.getD (i*n+j) .undef=(a.getD i []).getD j .undef:=by induction a generalizing i with|nil=>simp at hi|cons e a ih=>have d:=h e (zo ..);cases i with|zero=>simp[zc,qa,d,g]|succ i=>have p:¬((i+1)*n+j<e.length):=(by rw[d,qh];omega);have o:(i+1)*n+j-e.length=i*n+j:=(by rw[d,qh];omega);have:=ih (λx f=>h x (zl _ f)) i (by simpa using hi);simp only[zc,qn,qa,aa p,o,zf]at this ⊢;exact this
def vQ(h:∀e∈a,e.all IV.bn=true):a.flatten.all IV.bn=true:=by simp only[zd,List.mem_flatten];rintro c ⟨e,d,hc⟩;exact zd.1 (h e d) c hc
def j9{v:IV}{nid:Nat}{e:List IV}(p:Grow O v n a)(h:∀x∈a,x.length=n/\x.all IV.bn=true)(i:e.length=n/\e.all IV.bn=true)(A:a.length<2147483648): di O nid n v (.a8 [e])=za (.slice nid 0 (a.length+1) n,(cL v O).put nid (.row (a++[e]).flatten)):=by have d:fY O n (.a8 [e])=za (1,e):=(by simp[fY,i.1]);have g:e.all IV.bn=true:=i.2;rcases p with ⟨rfl,rfl⟩|⟨id,rfl,j,o⟩;{unfold di;rw[d];simp[g,cL]};unfold di;rw[d];have r:a.flatten.all IV.bn=true:=vQ λx f=>(h x f).2;have q:a.flatten.length=a.length*n:=tC λx f=>(h x f).1;simp[g,j,cL,r,q];omega
def Grow.new{v:IV}(d:e<O'.aV)(f:O'.aY e=za (.row (a++[z]).flatten)):Grow O' (.slice e 0 (a.length+1) n) n (a++[z]):=.inr ⟨e,by simp,f,d⟩
def fa (v:IV):(cL v O).aV=O.aV:=by cases v<;>rfl
def ji{v:IV}(j:Grow O v n a)(i:Nat)(o:cx)(f:O.aY i=za o)(g:∀cs,o≠.row cs):(cL v O).aY i=za o:=by rcases j with ⟨rfl,rfl⟩|⟨id,rfl,d,h⟩;{exact f};show (if i=id then zb else O.aY i)=za o;rw[aa];{exact f};intro e;subst e;rw[f]at d;cases d;exact g _ rfl
variable {S:Nat->Prop}
def Grow.dN{v:IV}{esz:Nat}{es:List (List IV)}(o:Grow O v esz es)(h:∀x∈es,x.length=esz)(q:∀id,v=.slice id 0 es.length esz->¬S id)(p:∀e∈es,∀c∈e,Nm S c):dz O S v (.a8 es):=by rcases o with ⟨rfl,rfl⟩|⟨id,rfl,f,g⟩;{exact .fZ};refine .slice id 0 es.length esz es.flatten es (q id rfl) (.inr f) rfl (by rw[tC h];omega) (λi hi=>h _ (fq _ hi)) (λi hi j d=>?_);rw[zm,WE h i j hi d];exact .bd _ (p _ (fq _ hi) _ (fq _ (by rw[h _ (fq _ hi)];exact d)))
def Grow.mono{v:IV}{esz:Nat}(g:Grow O v esz a)(f:O.aV<=O'.aV)(h:∀id,v=.slice id 0 a.length esz->id<O.aV->O'.aY id=O.aY id):Grow O' v esz a:=by rcases g with h0|⟨id,rfl,e,d⟩;{exact .inl h0};exact .inr ⟨id,rfl,by rw[h id rfl d];exact e,zk d f⟩
variable {i:Nat}
def Grow.ne{v:IV}{o:cx}(j:Grow O v n a)(f:v=.slice e 0 a.length n)(h:O.aY i=za o)(g:∀cs,o≠.row cs):e≠i:=by intro b;subst b;rcases j with ⟨rfl,_⟩|⟨id',rfl,d,_⟩;{cases f};cases f;rw[h]at d;cases d;exact g _ rfl
def wC(j:O.aY n=za (.row []))(b:a≠[])(h:∀x∈a,x.length=e/\x.all IV.bn=true)(o:a.length<=2147483648): di O i e (.slice n 0 0 e) (.a8 a)=za (.slice i 0 a.length e,(O.kill n).put i (.row a.flatten)):=by have f:fY O e (.a8 a)=za (a.length,a.flatten):=(by simp only[fY];rw[ab (by simpa using λx g=>(h x g).1)]);have p:a.flatten.all IV.bn=true:=vQ λx g=>(h x g).2;have h0:a.length≠0:=λd=>b (List.length_eq_zero_iff.1 d);unfold di;rw[f];simp[p,j,h0,o]
def vX{x:IV}(f:O.aY n=za (.row []))(d:fY O e x=za (0,[])):di O i e (.slice n 0 0 e) x=za (.slice n 0 0 e,O):=by unfold di;rw[d];simp[f]
def DE(h:∀e∈a,e.length=n)(j:Nat)(d:j<a.length):(a.flatten.drop (j*n)).take n=a.getD j []:=by induction a generalizing j with|nil=>simp at d|cons e a ih=>have f:=h e (zo ..);cases j with|zero=>simp[f]|succ j=>have i:(j+1)*n=e.length+j*n:=(by rw[f,qh];omega);rw[qn,i,List.drop_append,List.drop_of_length_le om,zq,show e.length+j*n-e.length=j*n from by omega];exact ih (λx g=>h x (zl _ g)) j (by simpa using d)
def WG{l:List IV}(h:(l.drop n).take z.length=z)(e:n+z.length<=l.length):dQ l n z=l:=by unfold dQ;have d:l.drop n=z++l.drop (n+z.length):=(by rw[<- List.drop_drop];(conv=>lhs;rw[<- ql z.length (l.drop n)]);rw[h]);rw[List.append_assoc,<- d,ql]
def NB{Q:IV->aW->Prop}(j:C P E n [.bA] O Q)(i:C P E n [.ez] O Q):C P E n [.a8 []] O Q:=by intro ρ w d hs g;have e:=P8 g;generalize h:d.getD 0 undef=r at e;cases e with|iZ=>exact j ρ w d hs (GN g (by rw[h];exact .bA))|a8 es b o cap esz sp vs hf hsz hc e hle=>exact i ρ w d hs (GN g (by rw[h];exact .ez _ _))
inductive te(O:aW)(S:Nat->Prop):List IV->List IV->Prop|nil:te O S [] []|cons {v v':IV}{vs vs':List IV}(h:dz O S v v')(t:te O S vs vs'):te O S (v::vs) (v'::vs')
def te.at{cs:List IV}(h:te O S cs z):z.length=cs.length/\∀i,i<cs.length->dz O S (cs.getD i .undef) (z.getD i .undef):=by induction h with|nil=>exact ⟨rfl,λi hi=>aw hi (zj _)⟩|cons h _ ih=>refine ⟨by simp only[zr,ih.1],λi hi=>?_⟩;cases i with|zero=>exact h|succ i=>exact ih.2 i (by simpa using hi)
def dz.KP{cs:List IV}(h:te O S cs z):dz O S (.agg cs) (.agg z):=.agg _ _ h.at.1 h.at.2
def dz.qE{cs:List IV}(h:te O S cs z):dz O S (.tuple cs) (.tuple z):=.tuple _ _ h.at.1 h.at.2
def lu1:((0:Nat):Int)=0:=nr rfl
def lu2:((1:Nat):Int)=1:=nr rfl
def lu3:((2:Nat):Int)=2:=nr rfl
def lu4:((3:Nat):Int)=3:=nr rfl
def lu5:((4:Nat):Int)=4:=nr rfl
def lu6:((5:Nat):Int)=5:=nr rfl
def lu7:((6:Nat):Int)=6:=nr rfl
def lu8:((7:Nat):Int)=7:=nr rfl
def lu9:((8:Nat):Int)=8:=nr rfl
def lv1:((9:Nat):Int)=9:=nr rfl
def lj7:((10:Nat):Int)=10:=nr rfl
def lj8:((11:Nat):Int)=11:=nr rfl
def lj9:((12:Nat):Int)=12:=nr rfl
def lk1:((13:Nat):Int)=13:=nr rfl
def lk2:((14:Nat):Int)=14:=nr rfl
def lk3:((15:Nat):Int)=15:=nr rfl
def lk4:((16:Nat):Int)=16:=nr rfl
attribute [go_sem] lu1 lu2 lu3 lu4 lu5 lu6 lu7 lu8 lu9 lv1 lj7 lj8 lj9 lk1 lk2 lk3 lk4 List.getD_cons_zero List.getD_cons_succ
def lv2:IntKind.i64.wrap 0=0:=nr rfl
def lv3:IntKind.i64.wrap 1=1:=nr rfl
def lv4:IntKind.i64.wrap 2=2:=nr rfl
def lv5:IntKind.i64.wrap 3=3:=nr rfl
def lv6:IntKind.i64.wrap 4=4:=nr rfl
def lv7:IntKind.i64.wrap 5=5:=nr rfl
def lv8:IntKind.i64.wrap 6=6:=nr rfl
def lv9:IntKind.i64.wrap 7=7:=nr rfl
def lw1:IntKind.i64.wrap 8=8:=nr rfl
def lw2:IntKind.i64.wrap 9=9:=nr rfl
def lk5:IntKind.i64.wrap 10=10:=nr rfl
def lk6:IntKind.i64.wrap 11=11:=nr rfl
def lk7:IntKind.i64.wrap 12=12:=nr rfl
def lk8:IntKind.i64.wrap 13=13:=nr rfl
def lk9:IntKind.i64.wrap 14=14:=nr rfl
def ll2:IntKind.i64.wrap 15=15:=nr rfl
def ll3:IntKind.i64.wrap 16=16:=nr rfl
attribute [go_sem] lv2 lv3 lv4 lv5 lv6 lv7 lv8 lv9 lw1 lw2 lk5 lk6 lk7 lk8 lk9 ll2 ll3
def kt5{d:Option Nat}:oB O fr [.cell d n,.t e]=(jq O d (fr.get n)).map λv=>[v,fr.get e]:=by simp only[oB,irV];cases jq O d (fr.get n)<;>rfl
attribute [go_sem] kt5 jk
end Go.Id
namespace Go.Id
open Go
variable {P:Program} {E:Nat->IV}
def sU(r:IV->IV->Bool):List IV->List IV->Bool|[],[]=>true|a::x,b::y=>r a b&&sU r x y|_,_=>false
def vY{r:IV->IV->Bool}(d:∀a b,r a b=true->a=b):∀x y:List IV,sU r x y=true->x=y:=by intro x;induction x with|nil=>(intro y h;cases y with|nil=>rfl|cons b y=>cases h)|cons a x ih=>intro y h;cases y with|nil=>cases h|cons b y=>simp only[sU,zg]at h;rw[d a b h.1,ih y h.2]
def Ej(r:IV->IV->Bool):List (List IV)->List (List IV)->Bool|[],[]=>true|a::x,b::y=>sU r a b&&Ej r x y|_,_=>false
def MB{r:IV->IV->Bool}(d:∀a b,r a b=true->a=b):∀x y:List (List IV),Ej r x y=true->x=y:=by intro x;induction x with|nil=>(intro y h;cases y with|nil=>rfl|cons b y=>cases h)|cons a x ih=>intro y h;cases y with|nil=>cases h|cons b y=>simp only[Ej,zg]at h;rw[vY d a b h.1,ih y h.2]
def Hb:List UInt8->List UInt8->Bool|[],[]=>true|a::x,b::y=>Nat.beq a.toNat b.toNat&&Hb x y|_,_=>false
def YX:∀x y:List UInt8,Hb x y=true->x=y:=by intro x;induction x with|nil=>(intro y h;cases y with|nil=>rfl|cons b y=>cases h)|cons a x ih=>intro y h;cases y with|nil=>cases h|cons b y=>simp only[Hb,zg]at h;rw[UInt8.toNat_inj.1 (qm h.1),ih y h.2]
def vD:Nat->IV->IV->Bool|0,_,_=>false|n+1,a,b=>match a with|.bool x=>(match b with|.bool y=>(match x,y with|true,true=>true|false,false=>true|_,_=>false)|_=>false)|.int k x=>(match b with|.int k' y=>decide (k=k')&&decide (x=y)|_=>false)|.str x=>(match b with|.str y=>Hb x y|_=>false)|.eI=>(match b with|.eI=>true|_=>false)|.bj x=>(match b with|.bj y=>sU (vD n) x y|_=>false)|.a8 x=>(match b with|.a8 y=>Ej (vD n) x y|_=>false)|.agg x=>(match b with|.agg y=>sU (vD n) x y|_=>false)|.tuple x=>(match b with|.tuple y=>sU (vD n) x y|_=>false)|.iface t x=>(match b with|.iface t' y=>Nat.beq t t'&&vD n x y|_=>false)|.jV=>(match b with|.jV=>true|_=>false)|.gX=>(match b with|.gX=>true|_=>false)|.iU=>(match b with|.iU=>true|_=>false)|.bA=>(match b with|.bA=>true|_=>false)|_=>false
def ka5:∀(n:Nat)(a b:IV),vD n a b=true->a=b:=by intro n;induction n with|zero=>intro a b h;cases h|succ n ih=>intro a b h;cases a<;>simp only[vD]at h<;>(try cases h)<;>split at h<;>(try cases h)<;>(try rfl);{split at h<;>(try cases h)<;>rfl};{simp only[zg,ah]at h;rw[h.1,h.2]};{rw[YX _ _ h]};{rw[vY ih _ _ h]};{rw[MB ih _ _ h]};{simp only[zg]at h;rw[qm h.1,ih _ _ h.2]};{rw[vY ih _ _ h]};rw[vY ih _ _ h]
abbrev lw3:=List (Nat×List IV×IV)
def MOK (P:Program)(E:Nat->IV)(M:lw3):Prop:=∀e∈M,okF P e.1=true/\PC P E e.1 e.2.1 e.2.2
def MOK.nil:MOK P E []:=λ_ h=>by cases h
def ka6{l:List (Nat×List IV)}(h:l.all (λx=>x.2.all (od 1000))=true):∀g,bZ 0 (C8 l g):=by intro g;unfold C8;cases d:l.lookup g with|none=>exact .undef|some cs=>have f:∃x∈l,x.2=cs:=(by clear h;induction l with|nil=>cases d|cons x l ih=>have⟨a,b⟩:=x;simp only[List.lookup]at d;split at d;{cases d;exact ⟨_,zo ..,rfl⟩};have⟨x,e,i⟩:=ih d;exact ⟨x,zl _ e,i⟩);obtain ⟨x,e,rfl⟩:=f;exact .bj _ λc hc=>xM 1000 c (zd.1 (zd.1 h x e) c hc)
end Go.Id
